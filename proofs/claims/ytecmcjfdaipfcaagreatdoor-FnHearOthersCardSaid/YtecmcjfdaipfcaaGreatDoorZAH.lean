/- What a client is. .. A client hears: what is too far away. -/
import Derived.Test.YtecmcjfdaipfcaaGreatDoorZAG
import Derived.Test.YtecmcjfdaipfcaaGreatDoorZAA
import Derived.Test.YtecmcjfdaipfcaaGreatDoorZAB
import Derived.Deep.QuietTactic
import Derived.BigQuiet
import Derived.Deep.LoopGhost
namespace Go.Proofs.YtecmcjfdaipfcaaGreatDoor
open Go.RowKit
set_option linter.unusedVariables false
def waitAt (c:Client) (i:Nat) (e:Entry):Bool:=entryOk e&&decide (e.who=c.who)&&decide (e.seq=c.done+i+1)&&!(decide (e.op.kind=1)&&decide (10*c.who+c.made<e.op.id))
def waitOk (c:Client):Bool:=(List.range c.wait.length).all fun i=>match c.wait[i]? with | some e=>waitAt c i e | none=>true
def clientOk (c:Client):Bool:=isWho c.who&&decide (0≤c.seen∧c.seen≤40)&&treeOk c.base&&decide (0≤c.done∧c.done≤c.seen)&&decide ((c.wait.length:Int)≤40 - c.done)&&decide (0≤c.made∧c.made≤6)&&waitOk c
theorem waitOk_true (c:Client) (h:∀ k (hk:k<c.wait.length),waitAt c k c.wait[k]=true):waitOk c=true:=by
 unfold waitOk
 rw [List.all_eq_true]
 intro k hk
 rw [List.mem_range] at hk
 rw [List.getElem?_eq_getElem hk];exact h k hk
theorem waitOk_false (c:Client) (k:Nat) (hk:k<c.wait.length) (h:waitAt c k c.wait[k]=false):waitOk c=false:=by
 unfold waitOk
 rw [List.all_eq_false]
 exact ⟨k,List.mem_range.2 hk,by rw [List.getElem?_eq_getElem hk];simp [h]⟩
theorem waitOk_at {c:Client} (h:waitOk c=true) (k:Nat) (hk:k<c.wait.length):waitAt c k c.wait[k]=true:=by
 unfold waitOk at h
 rw [List.all_eq_true] at h
 have:=h k (List.mem_range.2 hk)
 rwa [List.getElem?_eq_getElem hk] at this
theorem seven_cells {W:World} {b:Nat} {v0 v1 v2 v3 v4 v5 v6:Value} {ty:TypeId} (h:W.heap[b]?=some (.cells #[v0,v1,v2,v3,v4,v5,v6] ty (0,0))) :
  W.cell? ⟨b,0,none⟩=some v0∧W.cell? ⟨b,1,none⟩=some v1∧W.cell? ⟨b,2,none⟩=some v2∧W.cell? ⟨b,3,none⟩=some v3∧W.cell? ⟨b,4,none⟩=some v4∧W.cell? ⟨b,5,none⟩=some v5∧W.cell? ⟨b,6,none⟩=some v6∧∀ o,W.frozen? ⟨b,o,none⟩=false:=by
 refine ⟨by simp [World.cell?,h],by simp [World.cell?,h],by simp [World.cell?,h],by simp [World.cell?,h],by simp [World.cell?,h],by simp [World.cell?,h],by simp [World.cell?,h],fun o=>by simp [World.frozen?,h]⟩
set_option maxRecDepth 100000 in
set_option maxHeartbeats 2000000 in
theorem clientOk_c (c:Client) (v:Value) (w:World) (ht:Tab w) (h:CV w c v) :
  Calls Tryz.prog 14 #[v] w fun r w'=>r=.returned (.bool (clientOk c))∧Ext w w':=by
 obtain ⟨A1,n1,A2,n2,rfl,h1,h2⟩:=h
 have hlw:c.wait.length≤maxLen:=Nat.le_trans h2.1 h2.2.1
 unfold maxLen at hlw
 have hlb:c.base.length≤maxLen:=Nat.le_trans h1.1 h1.2.1
 unfold maxLen at hlb
 have H1:=Lib.hid h1;have H2:=Lib.hid h2;have HT:=Lib.hid ht
 have hsz:=alloc_sz w (oC c A1 n1 A2 n2)
 have HB0:Hid (Ext w (w.alloc (oC c A1 n1 A2 n2))):=(Below.refl _ w).alloc (Nat.le_refl _) _
 have hW:=whoOk_c c.who
 have HW:=Lib.hid hW
 clear h1 h2 ht hW
 go_enter Tryz.func14,Tryz.ntmps14
 go_wp2_with fail
 refine (HW.out _).mono ?_
 rintro e w1 ⟨rfl,rfl⟩
 clear HW
 cases hw:isWho c.who
 ·have HR:Hid (clientOk c=false):=by show _=_;unfold clientOk;rw [hw];rfl
  clear hw
  go_wp2_with fail
  go_ret
  exact ⟨by rw [HR.out];rfl,HB0.out⟩
 by_cases hs0:c.seen<0
 ·have HR:Hid (clientOk c=false):=by show _=_;unfold clientOk;rw [decide_eq_false (show ¬(0≤c.seen∧c.seen≤40) by omega)];simp
  clear hw
  go_wp2_with fail
  go_ret
  exact ⟨by rw [HR.out];rfl,HB0.out⟩
 by_cases hs1:40<c.seen
 ·have HR:Hid (clientOk c=false):=by show _=_;unfold clientOk;rw [decide_eq_false (show ¬(0≤c.seen∧c.seen≤40) by omega)];simp
  clear hw
  go_wp2_with fail
  go_ret
  exact ⟨by rw [HR.out];rfl,HB0.out⟩
 have HTr:=Lib.hid (treeOk_c A1 n1 c.base _ (HT.out.alloc (oC c A1 n1 A2 n2)) (H1.out.alloc _))
 have HWho:=Lib.hid hw
 clear hw
 go_wp2_with fail
 refine HTr.out.mono ?_
 rintro e w1 ⟨rfl,hb1⟩
 have hx:=(hb1.block w.heap.size (by rw [alloc_sz];omega)).trans (World.alloc_heap_new w _)
 obtain ⟨d0,d1,d2,d3,d4,d5,df⟩:=six_cells hx
 have HB1:=Lib.hid hb1;have HX:=Lib.hid hx
 clear hb1 hx HTr
 cases htr:treeOk c.base
 ·have HR:Hid (clientOk c=false):=by show _=_;unfold clientOk;rw [htr];simp
  clear htr
  go_wp2_with fail
  go_ret
  exact ⟨by rw [HR.out];rfl,HB0.out.trans (HB1.out.mono (by rw [alloc_sz];omega))⟩
 have HTree:=Lib.hid htr
 clear htr
 have hno:∀ W:World,Ext (w.alloc (oC c A1 n1 A2 n2)) W→Ext w W:=fun W hW=>HB0.out.trans (hW.mono (by rw [alloc_sz];omega))
 have HNO:=Lib.hid hno
 clear hno
 by_cases hd0:c.done<0
 ·have HR:Hid (clientOk c=false):=by show _=_;unfold clientOk;rw [decide_eq_false (show ¬(0≤c.done∧c.done≤c.seen) by omega)];simp
  go_wp2_with fail
  go_ret
  exact ⟨by rw [HR.out];rfl,HNO.out _ HB1.out⟩
 by_cases hd1:c.seen<c.done
 ·have HR:Hid (clientOk c=false):=by show _=_;unfold clientOk;rw [decide_eq_false (show ¬(0≤c.done∧c.done≤c.seen) by omega)];simp
  go_wp2_with fail
  go_ret
  exact ⟨by rw [HR.out];rfl,HNO.out _ HB1.out⟩
 by_cases hl:(40:Int) - c.done<c.wait.length
 ·have HR:Hid (clientOk c=false):=by show _=_;unfold clientOk;rw [decide_eq_false (show ¬((c.wait.length:Int)≤40 - c.done) by omega)];simp
  go_wp2_with fail
  go_ret
  exact ⟨by rw [HR.out];rfl,HNO.out _ HB1.out⟩
 by_cases hm0:c.made<0
 ·have HR:Hid (clientOk c=false):=by show _=_;unfold clientOk;rw [decide_eq_false (show ¬(0≤c.made∧c.made≤6) by omega)];simp
  go_wp2_with fail
  go_ret
  exact ⟨by rw [HR.out];rfl,HNO.out _ HB1.out⟩
 by_cases hm1:6<c.made
 ·have HR:Hid (clientOk c=false):=by show _=_;unfold clientOk;rw [decide_eq_false (show ¬(0≤c.made∧c.made≤6) by omega)];simp
  go_wp2_with fail
  go_ret
  exact ⟨by rw [HR.out];rfl,HNO.out _ HB1.out⟩
 have hres:clientOk c=waitOk c:=by
  unfold clientOk
  rw [HWho.out,HTree.out,decide_eq_true (show 0≤c.seen∧c.seen≤40 by omega),decide_eq_true (show 0≤c.done∧c.done≤c.seen by omega),decide_eq_true (show (c.wait.length:Int)≤40 - c.done by omega),decide_eq_true (show 0≤c.made∧c.made≤6 by omega)]
  simp
 have HRES:=Lib.hid hres
 have hwho:1≤c.who∧c.who≤3:=by have:=HWho.out;simpa [isWho] using this
 obtain ⟨hw1,hw3⟩:=hwho
 clear hres
 go_wp2_with fail
 go_loopg [57] c.wait.length (fun gk i wr=>∃ k:Nat,k≤c.wait.length∧Hid (gk=c.wait.length - k)∧i=.int .i64 k∧Hid (∀ j (hj:j<c.wait.length),j<k→waitAt c j c.wait[j]=true)∧Hid (Ext (w.alloc (oC c A1 n1 A2 n2)) wr))
 case atStart=>exact ⟨0,Nat.zero_le _,rfl,rfl,fun j _ h=>by omega,HB1.out⟩
 case round=>
  obtain ⟨k,hk,HK,rfl,HG,HW⟩:=hrel
  clear d0 d1 d2 d3 d4 d5 df
  have hEx:=HNO.out _ HW.out
  by_cases hlt:k<c.wait.length
  ·obtain ⟨b,off,rfl,hbl,e0,e1,e2,e3,e4,e5,e6⟩:=ent_at (H2.out.ext hEx) k hlt
   have hx:=(HW.out.block w.heap.size (by rw [alloc_sz];omega)).trans (World.alloc_heap_new w _)
   have hws:=HW.out.size
   rw [alloc_sz] at hws
   have hbx:=World.alloc_heap_new wr (.cells #[.int .i64 c.wait[k].who,.int .i64 c.wait[k].seq,.int .i64 c.wait[k].op.kind,.int .i64 c.wait[k].op.id,.int .i64 c.wait[k].op.up,.int .i64 c.wait[k].op.pos,.string c.wait[k].op.text] 35)
   have hC:=Lib.hid (entryOk_c c.wait[k] (wr.alloc (.cells #[.int .i64 c.wait[k].who,.int .i64 c.wait[k].seq,.int .i64 c.wait[k].op.kind,.int .i64 c.wait[k].op.id,.int .i64 c.wait[k].op.up,.int .i64 c.wait[k].op.pos,.string c.wait[k].op.text] 35)) ((HT.out.below hEx HT.out.pos).alloc _) (H2.out.okAt k hlt))
   have HEx:=Lib.hid hEx
   clear hEx
   go_wp2_with fail
   refine hC.out.mono ?_
   rintro e w2 ⟨rfl,hb2⟩
   have hy:=(hb2.block w.heap.size (by rw [alloc_sz];omega)).trans ((Below.heap_alloc wr _ w.heap.size (by omega)).trans hx)
   obtain ⟨d0,d1,d2,d3,d4,d5,df⟩:=six_cells hy
   have hz:=(hb2.block wr.heap.size (by rw [alloc_sz];omega)).trans hbx
   obtain ⟨g0,g1,g2,g3,g4,g5,g6,gf⟩:=seven_cells hz
   have hW2:Ext (w.alloc (oC c A1 n1 (some ⟨b,off,none⟩) n2)) w2:=HW.out.trans (((Below.refl _ wr).alloc HW.out.size _).trans (hb2.mono (Nat.le_trans HW.out.size (Nat.le_trans (Nat.le_succ _) (Nat.le_of_eq (alloc_sz _ _).symm)))))
   have HW2:=Lib.hid hW2
   clear hx hbx hb2 hy hz hC hW2
   have hbad:waitAt c k c.wait[k]=false→Hid (waitOk c=false):=fun h=>waitOk_false c k hlt h
   cases hok:entryOk c.wait[k]
   ·have HR:=hbad (by unfold waitAt;rw [hok];rfl)
    clear hok hbad
    go_wp2_with fail
    go_ret
    exact ⟨by rw [HRES.out,HR.out];rfl,HNO.out _ HW2.out⟩
   have HOK:=Lib.hid hok
   clear hok
   by_cases hwho:c.wait[k].who=c.who
   ·have hwho':(c.wait[k].who != c.who)=false:=by simp [hwho]
    by_cases hseq:c.wait[k].seq=c.done+k+1
    ·have hseq':(c.wait[k].seq != c.done+(k:Int)+1)=false:=by simp [hseq]
     by_cases hkd:c.wait[k].op.kind=1
     ·have hkd':(c.wait[k].op.kind == 1)=true:=by simp [hkd]
      by_cases hid:10*c.who+c.made<c.wait[k].op.id
      ·have HR:=hbad (by unfold waitAt;simp [hkd,hid])
       clear hbad hwho hseq hkd
       go_wp2_with fail
       go_ret
       exact ⟨by rw [HRES.out,HR.out];rfl,HNO.out _ HW2.out⟩
      ·have HGood:Hid (waitAt c k c.wait[k]=true):=by show _=_;unfold waitAt;rw [HOK.out];simp [hwho,hseq];omega
       clear hbad hwho hseq hkd
       go_wp2_with fail
       go_roundg (c.wait.length - (k+1))
       case measure=>have:=HK.out;omega
       case rel=>
        refine ⟨k+1,by omega,rfl,by go_num,fun j hj hjk=>?_,HW2.out⟩
        by_cases e:j=k
        ·subst e;exact HGood.out
        ·exact HG.out j hj (by omega)
     ·have hkd':(c.wait[k].op.kind == 1)=false:=by simp [hkd]
      have HGood:Hid (waitAt c k c.wait[k]=true):=by show _=_;unfold waitAt;rw [HOK.out];simp [hwho,hseq,hkd]
      clear hbad hwho hseq hkd
      go_wp2_with fail
      go_roundg (c.wait.length - (k+1))
      case measure=>have:=HK.out;omega
      case rel=>
       refine ⟨k+1,by omega,rfl,by go_num,fun j hj hjk=>?_,HW2.out⟩
       by_cases e:j=k
       ·subst e;exact HGood.out
       ·exact HG.out j hj (by omega)
    ·have hseq':(c.wait[k].seq != c.done+(k:Int)+1)=true:=by simp [hseq]
     have HR:=hbad (by unfold waitAt;simp [hseq])
     clear hbad hwho hseq
     go_wp2_with fail
     go_ret
     exact ⟨by rw [HRES.out,HR.out];rfl,HNO.out _ HW2.out⟩
   ·have hwho':(c.wait[k].who != c.who)=true:=by simp [hwho]
    have HR:=hbad (by unfold waitAt;simp [hwho])
    clear hbad hwho
    go_wp2_with fail
    go_ret
    exact ⟨by rw [HRES.out,HR.out];rfl,HNO.out _ HW2.out⟩
  ·have hkl:k=c.wait.length:=by omega
   go_wp2_with fail
   go_ret
   exact ⟨by rw [HRES.out,waitOk_true c (fun j hj=>HG.out j hj (by omega))];rfl,hEx⟩
open Go.RowKit
theorem placeOk_id (up pos:Int):placeOk up pos=(idOk up&&(decide (pos=0) || isMade pos)):=by simp [placeOk,idOk,Bool.or_comm]
theorem opOk_1 {o:Op} (hk:o.kind=1):opOk o=(isMade o.id&&(textOk o.text&&(idOk o.up&&(decide (o.pos=0) || isMade o.pos)))):=by
 simp only [opOk,hk,placeOk_id];simp [Bool.and_comm]
theorem opOk_2 {o:Op} (hk:o.kind=2):opOk o=(isMade o.id&&(textOk o.text&&(decide (o.up=0)&&decide (o.pos=0)))):=by
 simp only [opOk,hk];simp [Bool.and_comm,Bool.and_left_comm]
theorem textOk_nil:textOk ⟨#[]⟩=true:=by decide
theorem opOk_3 {o:Op} (hk:o.kind=3):opOk o=(isMade o.id&&(textOk o.text&&((idOk o.up&&(decide (o.pos=0) || isMade o.pos))&&decide (o.text=⟨#[]⟩)))):=by
 simp only [opOk,hk,placeOk_id]
 by_cases h:o.text=⟨#[]⟩
 ·simp [h,textOk_nil]
 ·simp [h]
theorem opOk_0 {o:Op} (h1:o.kind≠1) (h2:o.kind≠2) (h3:o.kind≠3):opOk o=false:=by simp [opOk,h1,h2,h3]
set_option maxRecDepth 100000 in
set_option maxHeartbeats 2000000 in
theorem opOk_s (o:Op) (w:World) (hs:o.text.size≤maxLen) (hw:OpW o) :
  Calls Tryz.prog 91 #[o.val] w fun e w'=>e=.returned (.bool (opOk o))∧Ext w w':=by
 have hE:Ext w (w.alloc (oO o)):=(Below.refl _ w).alloc (Nat.le_refl _) _
 have hM:=made_s o.id (w.alloc (oO o)) hw.1
 have hX:=text_s o.text (w.alloc (oO o)) hs
 have hI:=id_s o.up (w.alloc (oO o)) hw.2.1
 have hP:=made_s o.pos (w.alloc (oO o)) hw.2.2
 have HE:=Lib.hid hE
 have HI:=Lib.hid hI;have HP:=Lib.hid hP
 clear hE hI hP hw
 show Calls Tryz.prog 91 #[.agg (cO o)] w _
 cases hm:isMade o.id
 ·have HR:Hid (opOk o=false):=by show _=_;simp [opOk,hm]
  rw [hm] at hM
  have HM:=Lib.hid hM
  clear hM hX hm
  go_enter Tryz.func91,Tryz.ntmps91
  go_wp2_with fail
  refine HM.out.mono ?_;rintro e w' ⟨rfl,rfl⟩
  go_wp2_with fail
  go_ret
  exact ⟨by rw [HR.out];rfl,HE.out⟩
 rw [hm] at hM
 have HM:=Lib.hid hM
 have HMM:=Lib.hid hm
 clear hM hm
 cases hx:textOk o.text
 ·have HR:Hid (opOk o=false):=by
   show _=_
   by_cases h1:o.kind=1
   ·rw [opOk_1 h1];simp [hx]
   by_cases h2:o.kind=2
   ·rw [opOk_2 h2];simp [hx]
   by_cases h3:o.kind=3
   ·rw [opOk_3 h3];simp [hx]
   exact opOk_0 h1 h2 h3
  rw [hx] at hX
  have HX:=Lib.hid hX
  clear hX hx
  go_enter Tryz.func91,Tryz.ntmps91
  go_wp2_with fail
  refine HM.out.mono ?_;rintro e w' ⟨rfl,rfl⟩
  go_wp2_with fail
  refine HX.out.mono ?_;rintro e w' ⟨rfl,rfl⟩
  go_wp2_with fail
  go_ret
  exact ⟨by rw [HR.out];rfl,HE.out⟩
 rw [hx] at hX
 have HX:=Lib.hid hX
 have HXX:=Lib.hid hx
 clear hX hx
 by_cases h1:o.kind=1
 ·have hk1:(o.kind == 1)=true:=by simp [h1]
  have HR:Hid (opOk o=(idOk o.up&&(decide (o.pos=0) || isMade o.pos))):=by show _=_;rw [opOk_1 h1,HMM.out,HXX.out];simp
  clear h1
  cases hi:idOk o.up
  ·rw [hi] at HI HR
   clear hi
   go_enter Tryz.func91,Tryz.ntmps91
   go_wp2_with fail
   refine HM.out.mono ?_;rintro e w' ⟨rfl,rfl⟩
   go_wp2_with fail
   refine HX.out.mono ?_;rintro e w' ⟨rfl,rfl⟩
   go_wp2_with fail
   refine HI.out.mono ?_;rintro e w' ⟨rfl,rfl⟩
   go_wp2_with fail
   go_ret
   exact ⟨by rw [HR.out];rfl,HE.out⟩
  ·rw [hi] at HI HR
   clear hi
   by_cases h0:o.pos=0
   ·have hp0:(o.pos == 0)=true:=by simp [h0]
    have HR2:Hid (opOk o=true):=by show _=_;rw [HR.out];simp [h0]
    clear h0
    go_enter Tryz.func91,Tryz.ntmps91
    go_wp2_with fail
    refine HM.out.mono ?_;rintro e w' ⟨rfl,rfl⟩
    go_wp2_with fail
    refine HX.out.mono ?_;rintro e w' ⟨rfl,rfl⟩
    go_wp2_with fail
    refine HI.out.mono ?_;rintro e w' ⟨rfl,rfl⟩
    go_wp2_with fail
    go_ret
    exact ⟨by rw [HR2.out];rfl,HE.out⟩
   ·have hp0:(o.pos == 0)=false:=by simp [h0]
    have HR2:Hid (opOk o=isMade o.pos):=by show _=_;rw [HR.out];simp [h0]
    clear h0
    go_enter Tryz.func91,Tryz.ntmps91
    go_wp2_with fail
    refine HM.out.mono ?_;rintro e w' ⟨rfl,rfl⟩
    go_wp2_with fail
    refine HX.out.mono ?_;rintro e w' ⟨rfl,rfl⟩
    go_wp2_with fail
    refine HI.out.mono ?_;rintro e w' ⟨rfl,rfl⟩
    go_wp2_with fail
    refine HP.out.mono ?_;rintro e w' ⟨rfl,rfl⟩
    go_wp2_with fail
    go_ret
    exact ⟨by rw [HR2.out];rfl,HE.out⟩
 have hk1:(o.kind == 1)=false:=by simp [h1]
 by_cases h2:o.kind=2
 ·have hk2:(o.kind == 2)=true:=by simp [h2]
  have HR:Hid (opOk o=(decide (o.up=0)&&decide (o.pos=0))):=by show _=_;rw [opOk_2 h2,HMM.out,HXX.out];simp
  clear h1 h2
  by_cases hu:o.up=0
  ·have hu0:(o.up == 0)=true:=by simp [hu]
   have HR2:Hid (opOk o=(o.pos == 0)):=by show _=_;rw [HR.out];simp [hu];rfl
   clear hu
   go_enter Tryz.func91,Tryz.ntmps91
   go_wp2_with fail
   refine HM.out.mono ?_;rintro e w' ⟨rfl,rfl⟩
   go_wp2_with fail
   refine HX.out.mono ?_;rintro e w' ⟨rfl,rfl⟩
   go_wp2_with fail
   go_ret
   exact ⟨by rw [HR2.out];rfl,HE.out⟩
  ·have hu0:(o.up == 0)=false:=by simp [hu]
   have HR2:Hid (opOk o=false):=by show _=_;rw [HR.out];simp [hu]
   clear hu
   go_enter Tryz.func91,Tryz.ntmps91
   go_wp2_with fail
   refine HM.out.mono ?_;rintro e w' ⟨rfl,rfl⟩
   go_wp2_with fail
   refine HX.out.mono ?_;rintro e w' ⟨rfl,rfl⟩
   go_wp2_with fail
   go_ret
   exact ⟨by rw [HR2.out];rfl,HE.out⟩
 have hk2:(o.kind == 2)=false:=by simp [h2]
 by_cases h3:o.kind=3
 ·have hk3:(o.kind == 3)=true:=by simp [h3]
  have HR:Hid (opOk o=((idOk o.up&&(decide (o.pos=0) || isMade o.pos))&&decide (o.text=⟨#[]⟩))):=by show _=_;rw [opOk_3 h3,HMM.out,HXX.out];simp
  have HT:Hid (decide (o.text=⟨#[]⟩)=o.text.toList.isEmpty):=decide_eq_emptyBytes o.text
  clear h1 h2 h3
  cases hi:idOk o.up
  ·rw [hi] at HI HR
   clear hi
   go_enter Tryz.func91,Tryz.ntmps91
   go_wp2_with fail
   refine HM.out.mono ?_;rintro e w' ⟨rfl,rfl⟩
   go_wp2_with fail
   refine HX.out.mono ?_;rintro e w' ⟨rfl,rfl⟩
   go_wp2_with fail
   refine HI.out.mono ?_;rintro e w' ⟨rfl,rfl⟩
   go_wp2_with fail
   go_ret
   exact ⟨by rw [HR.out];rfl,HE.out⟩
  ·rw [hi] at HI HR
   clear hi
   by_cases h0:o.pos=0
   ·have hp0:(o.pos == 0)=true:=by simp [h0]
    have HR2:Hid (opOk o=o.text.toList.isEmpty):=by show _=_;rw [HR.out,HT.out];simp [h0]
    clear h0
    go_enter Tryz.func91,Tryz.ntmps91
    go_wp2_with fail
    refine HM.out.mono ?_;rintro e w' ⟨rfl,rfl⟩
    go_wp2_with fail
    refine HX.out.mono ?_;rintro e w' ⟨rfl,rfl⟩
    go_wp2_with fail
    refine HI.out.mono ?_;rintro e w' ⟨rfl,rfl⟩
    go_wp2_with fail
    go_ret
    exact ⟨by rw [HR2.out];rfl,HE.out⟩
   ·have hp0:(o.pos == 0)=false:=by simp [h0]
    cases hpm:isMade o.pos
    ·rw [hpm] at HP
     have HR2:Hid (opOk o=false):=by show _=_;rw [HR.out];simp [h0,hpm]
     clear h0 hpm
     go_enter Tryz.func91,Tryz.ntmps91
     go_wp2_with fail
     refine HM.out.mono ?_;rintro e w' ⟨rfl,rfl⟩
     go_wp2_with fail
     refine HX.out.mono ?_;rintro e w' ⟨rfl,rfl⟩
     go_wp2_with fail
     refine HI.out.mono ?_;rintro e w' ⟨rfl,rfl⟩
     go_wp2_with fail
     refine HP.out.mono ?_;rintro e w' ⟨rfl,rfl⟩
     go_wp2_with fail
     go_ret
     exact ⟨by rw [HR2.out];rfl,HE.out⟩
    ·rw [hpm] at HP
     have HR2:Hid (opOk o=o.text.toList.isEmpty):=by show _=_;rw [HR.out,HT.out];simp [hpm]
     clear h0 hpm
     go_enter Tryz.func91,Tryz.ntmps91
     go_wp2_with fail
     refine HM.out.mono ?_;rintro e w' ⟨rfl,rfl⟩
     go_wp2_with fail
     refine HX.out.mono ?_;rintro e w' ⟨rfl,rfl⟩
     go_wp2_with fail
     refine HI.out.mono ?_;rintro e w' ⟨rfl,rfl⟩
     go_wp2_with fail
     refine HP.out.mono ?_;rintro e w' ⟨rfl,rfl⟩
     go_wp2_with fail
     go_ret
     exact ⟨by rw [HR2.out];rfl,HE.out⟩
 ·have hk3:(o.kind == 3)=false:=by simp [h3]
  have HR:Hid (opOk o=false):=opOk_0 h1 h2 h3
  clear h1 h2 h3
  go_enter Tryz.func91,Tryz.ntmps91
  go_wp2_with fail
  refine HM.out.mono ?_;rintro e w' ⟨rfl,rfl⟩
  go_wp2_with fail
  refine HX.out.mono ?_;rintro e w' ⟨rfl,rfl⟩
  go_wp2_with fail
  go_ret
  exact ⟨by rw [HR.out];rfl,HE.out⟩
theorem isWho_in (a:Int):isWho a=inR a 1 3:=rfl
set_option maxRecDepth 100000 in
set_option maxHeartbeats 2000000 in
theorem entryOk_s (e:Entry) (w:World) (hs:e.op.text.size≤maxLen) (hw:OpW e.op) :
  Calls Tryz.prog 49 #[e.val] w fun x w'=>x=.returned (.bool (entryOk e))∧Ext w w':=by
 have hE:Ext w (w.alloc (oN e)):=(Below.refl _ w).alloc (Nat.le_refl _) _
 have hbx:=World.alloc_heap_new w (oN e)
 have hW:=in_c e.who 1 3 (w.alloc (oN e))
 have hQ:=in_c e.seq 1 40 (w.alloc (oN e))
 have hO:=opOk_s e.op (w.alloc (oN e)) hs hw
 have HE:=Lib.hid hE;have HBX:=Lib.hid hbx
 have HK:Hid (entryOk e=(inR e.who 1 3&&inR e.seq 1 40&&opOk e.op&&(decide (e.op.kind≠1) || decide (whoOf e.op.id=e.who)))):=rfl
 have hsz:=alloc_sz w (oN e)
 have HSZ:=Lib.hid hsz
 clear hE hbx hw hsz
 show Calls Tryz.prog 49 #[.agg (cN e)] w _
 cases h1:inR e.who 1 3
 ·rw [h1] at hW HK
  have HW:=Lib.hid hW
  clear hW h1 hQ hO
  go_enter Tryz.func49,Tryz.ntmps49
  go_wp2_with fail
  refine HW.out.mono ?_;rintro x w' ⟨rfl,rfl⟩
  go_wp2_with fail
  go_ret
  exact ⟨by rw [HK.out];rfl,HE.out⟩
 rw [h1] at hW HK
 have HW:=Lib.hid hW
 clear hW h1
 cases h2:inR e.seq 1 40
 ·rw [h2] at hQ HK
  have HQ:=Lib.hid hQ
  clear hQ h2 hO
  go_enter Tryz.func49,Tryz.ntmps49
  go_wp2_with fail
  refine HW.out.mono ?_;rintro x w' ⟨rfl,rfl⟩
  go_wp2_with fail
  refine HQ.out.mono ?_;rintro x w' ⟨rfl,rfl⟩
  go_wp2_with fail
  go_ret
  exact ⟨by rw [HK.out];rfl,HE.out⟩
 rw [h2] at hQ HK
 have HQ:=Lib.hid hQ
 clear hQ h2
 cases h3:opOk e.op
 ·rw [h3] at hO HK
  have HO:=Lib.hid hO
  clear hO h3
  go_enter Tryz.func49,Tryz.ntmps49
  go_wp2_with fail
  refine HW.out.mono ?_;rintro x w' ⟨rfl,rfl⟩
  go_wp2_with fail
  refine HQ.out.mono ?_;rintro x w' ⟨rfl,rfl⟩
  go_wp2_with fail
  refine HO.out.mono ?_;rintro x w' ⟨rfl,hb⟩
  have HB:=Lib.hid (HE.out.trans (hb.mono (by rw [HSZ.out];omega)))
  clear hb
  go_wp2_with fail
  go_ret
  exact ⟨by rw [HK.out];rfl,HB.out⟩
 have hm:=(T.opOk_kind h3).1
 have hwo:whoOf e.op.id=e.op.id / 10:=by simp [whoOf,hm]
 have hid:11≤e.op.id∧e.op.id≤36:=by rw [isMade_iff] at hm;omega
 obtain ⟨hid0,hid1⟩:=hid
 rw [h3] at hO HK
 rw [hwo] at HK
 have HO:=Lib.hid hO
 clear hO h3 hwo hm
 by_cases hk:e.op.kind=1
 ·have hk1:(e.op.kind != 1)=false:=by simp [hk]
  have HR:Hid (entryOk e=(e.op.id / 10 == e.who)):=by show _=_;rw [HK.out,hk];simp;rfl
  clear hk
  go_enter Tryz.func49,Tryz.ntmps49
  go_wp2_with fail
  refine HW.out.mono ?_;rintro x w' ⟨rfl,rfl⟩
  go_wp2_with fail
  refine HQ.out.mono ?_;rintro x w' ⟨rfl,rfl⟩
  go_wp2_with fail
  refine HO.out.mono ?_;rintro x w' ⟨rfl,hb⟩
  have HB:=Lib.hid (HE.out.trans (hb.mono (by rw [HSZ.out];omega)))
  obtain ⟨d0,d1,d2,d3,d4,d5,d6,df⟩:=seven_cells ((hb.block w.heap.size (by rw [HSZ.out];omega)).trans HBX.out)
  clear hb
  go_wp2_with fail
  go_ret
  exact ⟨by rw [HR.out];rfl,HB.out⟩
 ·have hk1:(e.op.kind != 1)=true:=by simp [hk]
  have HR:Hid (entryOk e=true):=by show _=_;rw [HK.out];simp [hk]
  clear hk
  go_enter Tryz.func49,Tryz.ntmps49
  go_wp2_with fail
  refine HW.out.mono ?_;rintro x w' ⟨rfl,rfl⟩
  go_wp2_with fail
  refine HQ.out.mono ?_;rintro x w' ⟨rfl,rfl⟩
  go_wp2_with fail
  refine HO.out.mono ?_;rintro x w' ⟨rfl,hb⟩
  have HB:=Lib.hid (HE.out.trans (hb.mono (by rw [HSZ.out];omega)))
  obtain ⟨d0,d1,d2,d3,d4,d5,d6,df⟩:=seven_cells ((hb.block w.heap.size (by rw [HSZ.out];omega)).trans HBX.out)
  clear hb
  go_wp2_with fail
  go_ret
  exact ⟨by rw [HR.out];rfl,HB.out⟩
open Go.RowKit
def atI (t:List Row) (id:Int):Int:=match idx t id with | some k=>k | none=>-1
theorem idx_first (t:List Row) (id:Int) (k:Nat) (hk:k<t.length) (h:∀ j (hj:j<t.length),j<k→t[j].id≠id) (he:t[k].id=id):idx t id=some k:=by
 unfold idx
 rw [List.findIdx?_eq_some_iff_getElem]
 exact ⟨hk,by simp [he],fun j hj=>by simpa using h j (by omega) hj⟩
theorem idx_no (t:List Row) (id:Int) (h:∀ j (hj:j<t.length),t[j].id≠id):idx t id=none:=by
 rw [idx_none]
 intro hm
 obtain ⟨r,hr,e⟩:=List.mem_map.1 hm
 obtain ⟨j,hj,rfl⟩:=List.getElem_of_mem hr
 exact h j hj e
theorem idx_lt {t:List Row} {id:Int} {k:Nat} (h:idx t id=some k):k<t.length:=by
 unfold idx at h
 exact (List.findIdx?_eq_some_iff_getElem.1 h).1
theorem idx_id {t:List Row} {id:Int} {k:Nat} (h:idx t id=some k):t[k]'(idx_lt h)=t[k]'(idx_lt h)∧(t[k]'(idx_lt h)).id=id:=by
 unfold idx at h
 obtain ⟨h1,h2,_⟩:=List.findIdx?_eq_some_iff_getElem.1 h
 exact ⟨rfl,by simpa using h2⟩
theorem atI_range (t:List Row) (id:Int):-1≤atI t id∧atI t id<t.length:=by
 unfold atI
 cases h:idx t id with
 |none=>simp;omega
 |some k=>have:=idx_lt h;simp;omega
set_option maxRecDepth 100000 in
set_option maxHeartbeats 400000 in
theorem at_s (A:Option Addr) (c:Nat) (t:List Row) (id:Int) (w:World) (hr:Rd w A c t) :
  Calls Tryz.prog 118 #[.slice A t.length c,.int .i64 id] w fun e w'=>e=.returned (.int .i64 (atI t id))∧w'=w:=by
 have hm:t.length≤maxLen:=Nat.le_trans hr.1 hr.2.1
 unfold maxLen at hm
 have HR:=Lib.hid hr
 clear hr
 go_enter Tryz.func118,Tryz.ntmps118
 go_wp2_with fail
 go_loop [5] (fun i=>∃ k:Nat,k≤t.length∧i=.int .i64 k∧Hid (∀ j (hj:j<t.length),j<k→t[j].id≠id)) (fun i=>t.length - (intOf i).toNat)
 case atStart=>exact ⟨0,Nat.zero_le _,rfl,fun j _ h=>by omega⟩
 case round=>
  obtain ⟨k,hk,rfl,HA⟩:=hrel
  by_cases hlt:k<t.length
  ·obtain ⟨b,off,rfl,hbl,c0,c1,c2⟩:=row_at HR.out k hlt
   by_cases he:t[k].id=id
   ·have he':(t[k].id == id)=true:=by simp [he]
    have HX:Hid (atI t id=k):=by show _=_;unfold atI;rw [idx_first t id k hlt HA.out he]
    clear he c1 c2
    go_wp2_with fail
    go_ret
    exact ⟨by rw [HX.out];rfl,rfl⟩
   ·have he':(t[k].id == id)=false:=by simp [he]
    have HN:Hid (∀ j (hj:j<t.length),j<k+1→t[j].id≠id):=fun j hj hjk=>by
     by_cases e:j=k
     ·subst e;exact he
     ·exact HA.out j hj (by omega)
    clear he c1 c2
    go_wp2_with fail
    go_round
    case rel=>exact ⟨k+1,by omega,by go_num,HN⟩
    case measure=>simp [intOf];omega
  ·have HX:Hid (atI t id=-1):=by show _=_;unfold atI;rw [idx_no t id (fun j hj=>HA.out j hj (by omega))]
   go_wp2_with fail
   go_ret
   exact ⟨by rw [HX.out];rfl,rfl⟩
theorem endOf_first (t:List Row) (a k:Nat) (ha:a<k) (hk:k≤t.length) (h:∀ j (hj:j<t.length),a<j→j<k→t[a].depth<t[j].depth) (he:∀ hk':k<t.length,t[k].depth≤t[a].depth):endOf t a=k:=by
 unfold endOf below
 have hd:depAt t a=t[a].depth:=by unfold depAt;rw [List.getD_eq_getElem?_getD,List.getElem?_eq_getElem (by omega:a<t.length)];rfl
 rw [hd]
 have hsp:t.drop (a+1)=(t.take k).drop (a+1)++t.drop k:=by
  rw [←List.drop_append_of_le_length (by rw [List.length_take];omega),List.take_append_drop]
 rw [hsp,List.takeWhile_append_of_pos]
 ·have h0:(t.drop k).takeWhile (fun r=>decide (t[a].depth<r.depth))=[]:=by
   by_cases hkl:k<t.length
   ·rw [List.drop_eq_getElem_cons hkl,List.takeWhile_cons]
    rw [if_neg]
    have:=he hkl;simp;omega
   ·rw [List.drop_of_length_le (by omega)];rfl
  rw [h0]
  simp [List.length_take];omega
 ·intro r hr
  obtain ⟨j,hj,rfl⟩:=List.getElem_of_mem hr
  simp only [List.length_drop,List.length_take] at hj
  simp only [List.getElem_drop,List.getElem_take,decide_eq_true_eq]
  exact h _ (by omega) (by omega) (by omega)
theorem endOf_range (t:List Row) (a:Nat) (ha:a<t.length):a<endOf t a∧endOf t a≤t.length:=by
 unfold endOf below
 have:((t.drop (a+1)).takeWhile (fun r=>decide (depAt t a<r.depth))).length≤(t.drop (a+1)).length:=(List.takeWhile_sublist _).length_le
 rw [List.length_drop] at this
 omega
set_option maxRecDepth 100000 in
set_option maxHeartbeats 1000000 in
theorem end_s (A:Option Addr) (c:Nat) (t:List Row) (a:Nat) (w:World) (hr:Rd w A c t) (ha:a<t.length) :
  Calls Tryz.prog 119 #[.slice A t.length c,.int .i64 a] w fun e w'=>e=.returned (.int .i64 (endOf t a))∧∃ n,w'=w.drewN n:=by
 have hm:t.length≤maxLen:=Nat.le_trans hr.1 hr.2.1
 unfold maxLen at hm
 have HR:=Lib.hid hr
 clear hr
 go_enter Tryz.func119,Tryz.ntmps119
 go_wp2_with fail
 go_loopg [5] (t.length - (a+1)) (fun gk i wr=>∃ (k n:Nat),wr=w.drewN n∧k≤t.length∧a<k∧Hid (gk=t.length - k)∧i=.int .i64 k∧Hid (∀ j (hj:j<t.length),a<j→j<k→t[a].depth<t[j].depth))
 case atStart=>exact ⟨a+1,0,rfl,by omega,by omega,rfl,by go_num,fun j hj h1 h2=>by omega⟩
 case round=>
  obtain ⟨k,n,rfl,hk,hak,HK,rfl,HA⟩:=hrel
  obtain ⟨b,off,rfl,hbl,a0,a1,a2⟩:=row_at HR.out a ha
  by_cases hlt:k<t.length
  ·obtain ⟨b',off',e',hbl',c0,c1,c2⟩:=row_at HR.out k hlt
   cases e'
   have hlt':(k:Int)<t.length:=by omega
   have ha':(a:Int)<t.length:=by omega
   have hdl:decide ((k:Int)<t.length)=true:=by simpa using hlt
   clear a0 a2 c0 c2
   by_cases hd:t[a].depth<t[k].depth
   ·have HN:Hid (∀ j (hj:j<t.length),a<j→j<k+1→t[a].depth<t[j].depth):=fun j hj h1 h2=>by
     by_cases e:j=k
     ·subst e;exact hd
     ·exact HA.out j hj h1 (by omega)
    go_wp2_with fail
    go_quiet (fail)
    go_wp2_with fail
    go_roundg (t.length - (k+1))
    case measure=>have:=HK.out;omega
    case rel=>exact ⟨k+1,_,rfl,by omega,by omega,rfl,by go_num,HN⟩
   ·have hd':t[k].depth≤t[a].depth:=by omega
    have HX:Hid (endOf t a=k):=endOf_first t a k hak hk HA.out (fun _=>hd')
    clear hd
    go_wp2_with fail
    go_quiet (fail)
    go_wp2_with fail
    go_ret
    exact ⟨by rw [HX.out];rfl,_,by rw [World.drewN_drewN]⟩
  ·have HX:Hid (endOf t a=k):=endOf_first t a k hak hk HA.out (fun h=>absurd h hlt)
   have hlt':¬(k:Int)<t.length:=by omega
   have hd:decide ((k:Int)<t.length)=false:=by simpa using hlt'
   clear a0 a1 a2
   go_wp2_with fail
   go_quiet (fail)
   go_wp2_with fail
   go_ret
   exact ⟨by rw [HX.out];rfl,_,by rw [World.drewN_drewN]⟩
open Go.RowKit
def hearL (who:Int):List Entry→List Entry→List Row→Int→Int→Option (List Entry × List Row × Int × Int)
 |[],q,t,d,n=>some (q,t,d,n)
 |e::l,q,t,d,n=>
  if e.who=who then
   match q with
   |e0::q'=>if e0=e then hearL who l q' (opDo t e.op) (d+1) (n+1) else none
   |[]=>none
  else hearL who l q (opDo t e.op) d (n+1)
def clientHear (c:Client) (frm:Int) (l:List Entry):Client × Bool:=
 if clientOk c=false∨frm<0∨40<frm then (noClient,false)
 else if l.all entryOk=false then (noClient,false)
 else if c.seen<frm∨40 - frm<l.length then (c,false)
 else match hearL c.who (l.drop (min (c.seen - frm) l.length).toNat) c.wait c.base c.done c.seen with
  |none=>(c,false)
  |some (q,t,d,n)=>(⟨c.who,n,t,q,d,c.made⟩,true)
theorem treeOk_len {l:List Row} (h:treeOk l=true):l.length≤1000:=by
 obtain ⟨hv,he⟩:=T.valid_build l h
 have:=hv.len
 rw [←T.rows_len 0,he] at this
 exact this
theorem clientOk_parts {c:Client} (h:clientOk c=true):isWho c.who=true∧0≤c.seen∧c.seen≤40∧treeOk c.base=true∧0≤c.done∧c.done≤c.seen∧(c.wait.length:Int)≤40 - c.done∧0≤c.made∧c.made≤6∧waitOk c=true:=by
 simp only [clientOk,Bool.and_eq_true,decide_eq_true_eq] at h
 obtain ⟨⟨⟨⟨⟨⟨h1,h2⟩,h3⟩,h4⟩,h5⟩,h6⟩,h7⟩:=h
 exact ⟨h1,h2.1,h2.2,h3,h4.1,h4.2,h5,h6.1,h6.2,h7⟩
theorem CO.no (w:World) (base:Nat):CO w base noClient (.agg cC0):=⟨none,0,none,0,rfl,Own.nil _ _ _,Own.nil _ _ _⟩
theorem CO.lower {w:World} {base base':Nat} {c:Client} {v:Value} (h:CO w base c v) (hb:base'≤base):CO w base' c v:=by
 obtain ⟨A1,n1,A2,n2,rfl,h1,h2⟩:=h
 exact ⟨A1,n1,A2,n2,rfl,h1.lower hb,h2.lower hb⟩
theorem CV.no (w:World):CV w noClient (.agg cC0):=⟨none,0,none,0,rfl,Rd.nil _,Rd.nil _⟩
theorem Rd.far {α:Type} [Flat α] {w w':World} {A:Option Addr} {c:Nat} {l:List α} (h:Rd w A c l) (hb:∀ k,k<w.heap.size→(∀ b off,A=some ⟨b,off,none⟩→k=b→0<l.length→True)→w'.heap[k]?=w.heap[k]?):Rd w' A c l:=by
 refine ⟨h.1,h.2.1,fun h0=>?_,h.2.2.2⟩
 obtain ⟨b,off,rfl,hh⟩:=h.2.2.1 h0
 exact ⟨b,off,rfl,fun j v hv=>(cell_blk (hb b (World.block_lt_of_cell? w _ (hh j v hv)) (fun _ _ _ _ _=>trivial)) _).trans (hh j v hv)⟩
set_option maxRecDepth 100000 in
set_option maxHeartbeats 4000000 in
theorem clientHear_bad (c:Client) (v:Value) (frm:Int) (A:Option Addr) (cap:Nat) (l:List Entry) (w:World) (ht:Tab w) (h:CV w c v) (hr:Rd w A cap l) (hbad:clientOk c=false∨frm<0∨40<frm) :
  Calls Tryz.prog 18 #[v,.int .i64 frm,.slice A l.length cap] w fun r w'=>∃ v',r=.returned (.tuple #[v',.bool (clientHear c frm l).2])∧CO w' w.heap.size (clientHear c frm l).1 v'∧Ext w w':=by
 have HRes:Hid (clientHear c frm l=(noClient,false)):=by show _=_;unfold clientHear;rw [if_pos hbad]
 obtain ⟨A1,n1,A2,n2,rfl,h1,h2⟩:=h
 have hll:l.length≤maxLen:=Nat.le_trans hr.1 hr.2.1
 unfold maxLen at hll
 have H1:=Lib.hid h1;have H2:=Lib.hid h2;have HT:=Lib.hid ht;have HR:=Lib.hid hr
 have hX:=two_new w (oC c A1 n1 A2 n2) oC0
 have hE0:Ext w ((w.alloc (oC c A1 n1 A2 n2)).alloc oC0):=((Below.refl _ w).alloc (Nat.le_refl _) _).alloc (by rw [alloc_sz];omega) _
 have hs0:((w.alloc (oC c A1 n1 A2 n2)).alloc oC0).heap.size=w.heap.size+2:=by rw [alloc_sz,alloc_sz]
 have HC:=Lib.hid (clientOk_c c _ ((w.alloc (oC c A1 n1 A2 n2)).alloc oC0) ((ht.alloc _).alloc _) ⟨A1,n1,A2,n2,rfl,(h1.alloc _).alloc _,(h2.alloc _).alloc _⟩)
 have hno:∀ W:World,Ext ((w.alloc (oC c A1 n1 A2 n2)).alloc oC0) W→Ext w W∧W.heap[w.heap.size]?=some (.cells (cC c A1 n1 A2 n2) 26 (0,0))∧W.heap[w.heap.size+1]?=some (.cells cC0 26 (0,0)):=fun W hW=>
  ⟨hE0.trans (hW.mono (by rw [hs0];omega)),(hW.block _ (by rw [hs0];omega)).trans hX.1,(hW.block _ (by rw [hs0];omega)).trans hX.2⟩
 have HNO:=Lib.hid hno
 clear h1 h2 ht hr hX hE0 hs0 hno
 go_enter Tryz.func18,Tryz.ntmps18
 go_wp2_with fail
 refine HC.out.mono ?_
 rintro e w1 ⟨rfl,hb1⟩
 obtain ⟨hE1,hx1,hy1⟩:=HNO.out w1 hb1
 obtain ⟨c0,c1,c2,c3,c4,c5,cf⟩:=six_cells hx1
 obtain ⟨d0,d1,d2,d3,d4,d5,df⟩:=six_cells hy1
 have HB1:=Lib.hid hb1;have HX1:=Lib.hid hx1;have HY1:=Lib.hid hy1;have HE1:=Lib.hid hE1
 clear hb1 hx1 hy1 hE1 HC
 have HFIN:Hid (∀ W:World,Ext w W→W.heap[w.heap.size+1]?=some (.cells cC0 26 (0,0)) →
   Ext w ((((((W.setCell ⟨w.heap.size+1,0,none⟩ (.int .i64 0)).setCell ⟨w.heap.size+1,1,none⟩ (.int .i64 0)).setCell ⟨w.heap.size+1,2,none⟩ (.slice none 0 0)).setCell ⟨w.heap.size+1,3,none⟩ (.slice none 0 0)).setCell ⟨w.heap.size+1,4,none⟩ (.int .i64 0)).setCell ⟨w.heap.size+1,5,none⟩ (.int .i64 0)) ∧
   ((((((W.setCell ⟨w.heap.size+1,0,none⟩ (.int .i64 0)).setCell ⟨w.heap.size+1,1,none⟩ (.int .i64 0)).setCell ⟨w.heap.size+1,2,none⟩ (.slice none 0 0)).setCell ⟨w.heap.size+1,3,none⟩ (.slice none 0 0)).setCell ⟨w.heap.size+1,4,none⟩ (.int .i64 0)).setCell ⟨w.heap.size+1,5,none⟩ (.int .i64 0)).heap[w.heap.size+1]?=some (.cells cC0 26 (0,0))):=fun W hW hy=>
  ⟨((((((hW.setCell (Nat.le_succ _) _).setCell (Nat.le_succ _) _).setCell (Nat.le_succ _) _).setCell (Nat.le_succ _) _).setCell (Nat.le_succ _) _).setCell (Nat.le_succ _) _),set_at (set_at (set_at (set_at (set_at (set_at hy)))))⟩
 cases hok:clientOk c
 ·clear hok hbad
  go_wp2_with fail
  obtain ⟨hE,hz⟩:=HFIN.out _ HE1.out HY1.out
  obtain ⟨k0,k1,k2,k3,k4,k5,kf⟩:=six_cells hz
  refine bodyPost_ret (v:=.tuple #[.agg cC0,.bool false]) ?_ rfl ?_
  ·simp [results,Tryz.f18,go_sem,k0,k1,k2,k3,k4,k5]
  ·exact ⟨_,by rw [HRes.out],by rw [HRes.out];exact CO.no _ _,hE⟩
 ·rw [hok] at hbad
  clear hok
  by_cases hf0:frm<0
  ·clear hbad
   go_wp2_with fail
   obtain ⟨hE,hz⟩:=HFIN.out _ HE1.out HY1.out
   obtain ⟨k0,k1,k2,k3,k4,k5,kf⟩:=six_cells hz
   refine bodyPost_ret (v:=.tuple #[.agg cC0,.bool false]) ?_ rfl ?_
   ·simp [results,Tryz.f18,go_sem,k0,k1,k2,k3,k4,k5]
   ·exact ⟨_,by rw [HRes.out],by rw [HRes.out];exact CO.no _ _,hE⟩
  ·have hf1:40<frm:=by simp at hbad;omega
   clear hbad
   go_wp2_with fail
   obtain ⟨hE,hz⟩:=HFIN.out _ HE1.out HY1.out
   obtain ⟨k0,k1,k2,k3,k4,k5,kf⟩:=six_cells hz
   refine bodyPost_ret (v:=.tuple #[.agg cC0,.bool false]) ?_ rfl ?_
   ·simp [results,Tryz.f18,go_sem,k0,k1,k2,k3,k4,k5]
   ·exact ⟨_,by rw [HRes.out],by rw [HRes.out];exact CO.no _ _,hE⟩
set_option maxRecDepth 100000 in
set_option maxHeartbeats 4000000 in
theorem clientHear_entry (c:Client) (v:Value) (frm:Int) (A:Option Addr) (cap:Nat) (l:List Entry) (w:World) (ht:Tab w) (h:CV w c v) (hr:Rd w A cap l) (hok:clientOk c=true) (hf0:¬frm<0) (hf1:¬40<frm) (hall:l.all entryOk=false) :
  Calls Tryz.prog 18 #[v,.int .i64 frm,.slice A l.length cap] w fun r w'=>∃ v',r=.returned (.tuple #[v',.bool (clientHear c frm l).2])∧CO w' w.heap.size (clientHear c frm l).1 v'∧Ext w w':=by
 have HRes:Hid (clientHear c frm l=(noClient,false)):=by
  show _=_
  unfold clientHear;rw [if_neg (by rw [hok];simp;omega),if_pos hall]
 have HALL:=Lib.hid hall
 clear hall
 obtain ⟨A1,n1,A2,n2,rfl,h1,h2⟩:=h
 have hll:l.length≤maxLen:=Nat.le_trans hr.1 hr.2.1
 unfold maxLen at hll
 have H1:=Lib.hid h1;have H2:=Lib.hid h2;have HT:=Lib.hid ht;have HR:=Lib.hid hr
 have hX:=two_new w (oC c A1 n1 A2 n2) oC0
 have hE0:Ext w ((w.alloc (oC c A1 n1 A2 n2)).alloc oC0):=((Below.refl _ w).alloc (Nat.le_refl _) _).alloc (by rw [alloc_sz];omega) _
 have hs0:((w.alloc (oC c A1 n1 A2 n2)).alloc oC0).heap.size=w.heap.size+2:=by rw [alloc_sz,alloc_sz]
 have HC:=Lib.hid (clientOk_c c _ ((w.alloc (oC c A1 n1 A2 n2)).alloc oC0) ((ht.alloc _).alloc _) ⟨A1,n1,A2,n2,rfl,(h1.alloc _).alloc _,(h2.alloc _).alloc _⟩)
 have hno:∀ W:World,Ext ((w.alloc (oC c A1 n1 A2 n2)).alloc oC0) W→Ext w W∧W.heap[w.heap.size]?=some (.cells (cC c A1 n1 A2 n2) 26 (0,0))∧W.heap[w.heap.size+1]?=some (.cells cC0 26 (0,0)):=fun W hW=>
  ⟨hE0.trans (hW.mono (by rw [hs0];omega)),(hW.block _ (by rw [hs0];omega)).trans hX.1,(hW.block _ (by rw [hs0];omega)).trans hX.2⟩
 have HNO:=Lib.hid hno
 clear h1 h2 ht hr hX hE0 hs0 hno
 go_enter Tryz.func18,Tryz.ntmps18
 go_wp2_with fail
 refine HC.out.mono ?_
 rintro e w1 ⟨rfl,hb1⟩
 obtain ⟨hE1,hx1,hy1⟩:=HNO.out w1 hb1
 obtain ⟨c0,c1,c2,c3,c4,c5,cf⟩:=six_cells hx1
 obtain ⟨d0,d1,d2,d3,d4,d5,df⟩:=six_cells hy1
 have HB1:=Lib.hid hb1;have HX1:=Lib.hid hx1;have HY1:=Lib.hid hy1;have HE1:=Lib.hid hE1
 clear hb1 hx1 hy1 hE1 HC
 have HFIN:Hid (∀ W:World,Ext w W→W.heap[w.heap.size+1]?=some (.cells cC0 26 (0,0)) →
   Ext w ((((((W.setCell ⟨w.heap.size+1,0,none⟩ (.int .i64 0)).setCell ⟨w.heap.size+1,1,none⟩ (.int .i64 0)).setCell ⟨w.heap.size+1,2,none⟩ (.slice none 0 0)).setCell ⟨w.heap.size+1,3,none⟩ (.slice none 0 0)).setCell ⟨w.heap.size+1,4,none⟩ (.int .i64 0)).setCell ⟨w.heap.size+1,5,none⟩ (.int .i64 0)) ∧
   ((((((W.setCell ⟨w.heap.size+1,0,none⟩ (.int .i64 0)).setCell ⟨w.heap.size+1,1,none⟩ (.int .i64 0)).setCell ⟨w.heap.size+1,2,none⟩ (.slice none 0 0)).setCell ⟨w.heap.size+1,3,none⟩ (.slice none 0 0)).setCell ⟨w.heap.size+1,4,none⟩ (.int .i64 0)).setCell ⟨w.heap.size+1,5,none⟩ (.int .i64 0)).heap[w.heap.size+1]?=some (.cells cC0 26 (0,0))):=fun W hW hy=>
  ⟨((((((hW.setCell (Nat.le_succ _) _).setCell (Nat.le_succ _) _).setCell (Nat.le_succ _) _).setCell (Nat.le_succ _) _).setCell (Nat.le_succ _) _).setCell (Nat.le_succ _) _),set_at (set_at (set_at (set_at (set_at (set_at hy)))))⟩
 rw [hok]
 clear hok
 go_wp2_with fail
 clear c0 c1 c2 c3 c4 c5 cf d0 d1 d2 d3 d4 d5 df
 go_loopg [29] l.length (fun gk i wr=>∃ k:Nat,k≤l.length∧Hid (gk=l.length - k)∧i=.int .i64 k∧Hid (∀ j (hj:j<l.length),j<k→entryOk l[j]=true)∧Hid (Ext ((w.alloc (oC c A1 n1 A2 n2)).alloc oC0) wr))
 case atStart=>exact ⟨0,Nat.zero_le _,rfl,rfl,fun j _ h=>by omega,HB1.out⟩
 case round=>
  obtain ⟨k,hk,HK,rfl,HG,HW⟩:=hrel
  obtain ⟨hEx,hxr,hyr⟩:=HNO.out _ HW.out
  have HEX:=Lib.hid hEx;have HXR:=Lib.hid hxr;have HYR:=Lib.hid hyr
  have hgt:w.heap.size+1<wr.heap.size:=blk_lt hyr
  clear hxr hyr
  by_cases hlt:k<l.length
  ·obtain ⟨b,off,rfl,hbl,e0,e1,e2,e3,e4,e5,e6⟩:=ent_at (HR.out.ext hEx) k hlt
   have hbx:=World.alloc_heap_new wr (oN l[k])
   have hC:=Lib.hid (entryOk_c l[k] (wr.alloc (oN l[k])) ((HT.out.below hEx HT.out.pos).alloc _) (HR.out.okAt k hlt))
   clear hEx
   go_wp2_with fail
   refine hC.out.mono ?_
   rintro e w2 ⟨rfl,hb2⟩
   have hW2:=HW.out.trans (((Below.refl _ wr).alloc HW.out.size _).trans (hb2.mono (Nat.le_trans HW.out.size (Nat.le_trans (Nat.le_succ _) (Nat.le_of_eq (alloc_sz _ _).symm)))))
   obtain ⟨hE2,hx2,hy2⟩:=HNO.out _ hW2
   have HW2:=Lib.hid hW2;have HE2:=Lib.hid hE2;have HY2:=Lib.hid hy2
   obtain ⟨d0,d1,d2,d3,d4,d5,df⟩:=six_cells hy2
   clear hbx hb2 hC hW2 hE2 hx2 hy2
   cases hek:entryOk l[k]
   ·clear hek
    go_wp2_with fail
    obtain ⟨hE,hz⟩:=HFIN.out _ HE2.out HY2.out
    obtain ⟨k0,k1,k2,k3,k4,k5,kf⟩:=six_cells hz
    refine bodyPost_ret (v:=.tuple #[.agg cC0,.bool false]) ?_ rfl ?_
    ·simp [results,Tryz.f18,go_sem,k0,k1,k2,k3,k4,k5]
    ·exact ⟨_,by rw [HRes.out],by rw [HRes.out];exact CO.no _ _,hE⟩
   ·have HEK:=Lib.hid hek
    clear hek d0 d1 d2 d3 d4 d5 df
    go_wp2_with fail
    go_roundg (l.length - (k+1))
    case measure=>have:=HK.out;omega
    case rel=>
     refine ⟨k+1,by omega,rfl,by go_num,fun j hj hjk=>?_,HW2.out⟩
     by_cases e:j=k
     ·subst e;exact HEK.out
     ·exact HG.out j hj (by omega)
  ·exfalso
   have hkl:k=l.length:=by omega
   have:l.all entryOk=true:=by
    rw [List.all_eq_true]
    intro x hx
    obtain ⟨j,hj,rfl⟩:=List.getElem_of_mem hx
    exact HG.out j hj (by omega)
   have h9:=HALL.out
   rw [this] at h9;cases h9
open Go.RowKit
abbrev put6 (W:World) (b:Nat) (v0 v1 v2 v3 v4 v5:Value):World:=
 (((((W.setCell ⟨b,0,none⟩ v0).setCell ⟨b,1,none⟩ v1).setCell ⟨b,2,none⟩ v2).setCell ⟨b,3,none⟩ v3).setCell ⟨b,4,none⟩ v4).setCell ⟨b,5,none⟩ v5
theorem put6_at {W:World} {b:Nat} {a0 a1 a2 a3 a4 a5:Value} {ty:TypeId} (v0 v1 v2 v3 v4 v5:Value) (h:W.heap[b]?=some (.cells #[a0,a1,a2,a3,a4,a5] ty (0,0))):(put6 W b v0 v1 v2 v3 v4 v5).heap[b]?=some (.cells #[v0,v1,v2,v3,v4,v5] ty (0,0)):=
 set_at (set_at (set_at (set_at (set_at (set_at h)))))
theorem put6_far {W:World} {b k:Nat} (v0 v1 v2 v3 v4 v5:Value) (h:k≠b):(put6 W b v0 v1 v2 v3 v4 v5).heap[k]?=W.heap[k]?:=
 (setx h).trans ((setx h).trans ((setx h).trans ((setx h).trans ((setx h).trans (setx h)))))
theorem put6_below {B:Nat} {w0 W:World} {b:Nat} (v0 v1 v2 v3 v4 v5:Value) (h:Below B w0 W) (hB:B≤b):Below B w0 (put6 W b v0 v1 v2 v3 v4 v5):=(((((h.setCell hB _).setCell hB _).setCell hB _).setCell hB _).setCell hB _).setCell hB _
theorem put6_size (W:World) (b:Nat) (v0 v1 v2 v3 v4 v5:Value):(put6 W b v0 v1 v2 v3 v4 v5).heap.size=W.heap.size:=by simp only [put6,setsz]
set_option maxRecDepth 100000 in
set_option maxHeartbeats 4000000 in
theorem clientHear_far (c:Client) (v:Value) (frm:Int) (A:Option Addr) (cap:Nat) (l:List Entry) (w:World) (ht:Tab w) (h:CV w c v) (hr:Rd w A cap l) (hok:clientOk c=true) (hf0:¬frm<0) (hf1:¬40<frm) (hall:∀ x∈l,entryOk x=true) (hfar:c.seen<frm∨40 - frm<l.length) :
  Calls Tryz.prog 18 #[v,.int .i64 frm,.slice A l.length cap] w fun r w'=>∃ v',r=.returned (.tuple #[v',.bool (clientHear c frm l).2])∧CO w' w.heap.size (clientHear c frm l).1 v'∧Ext w w':=by
 have HALL:=Lib.hid hall;have HOK:=Lib.hid hok
 have hres:clientHear c frm l=(c,false):=by
  have:l.all entryOk=true:=List.all_eq_true.2 hall
  unfold clientHear;rw [if_neg (by rw [hok];simp;omega),if_neg (by rw [this];simp),if_pos hfar]
 have HRes:=Lib.hid hres
 clear hall hres
 obtain ⟨A1,n1,A2,n2,rfl,h1,h2⟩:=h
 have hll:l.length≤maxLen:=Nat.le_trans hr.1 hr.2.1
 unfold maxLen at hll
 have H1:=Lib.hid h1;have H2:=Lib.hid h2;have HT:=Lib.hid ht;have HR:=Lib.hid hr
 have hX:=two_new w (oC c A1 n1 A2 n2) oC0
 have hE0:Ext w ((w.alloc (oC c A1 n1 A2 n2)).alloc oC0):=((Below.refl _ w).alloc (Nat.le_refl _) _).alloc (by rw [alloc_sz];omega) _
 have hs0:((w.alloc (oC c A1 n1 A2 n2)).alloc oC0).heap.size=w.heap.size+2:=by rw [alloc_sz,alloc_sz]
 have HC:=Lib.hid (clientOk_c c _ ((w.alloc (oC c A1 n1 A2 n2)).alloc oC0) ((ht.alloc _).alloc _) ⟨A1,n1,A2,n2,rfl,(h1.alloc _).alloc _,(h2.alloc _).alloc _⟩)
 have hno:∀ W:World,Ext ((w.alloc (oC c A1 n1 A2 n2)).alloc oC0) W→Ext w W∧W.heap[w.heap.size]?=some (.cells (cC c A1 n1 A2 n2) 26 (0,0))∧W.heap[w.heap.size+1]?=some (.cells cC0 26 (0,0)):=fun W hW=>
  ⟨hE0.trans (hW.mono (by rw [hs0];omega)),(hW.block _ (by rw [hs0];omega)).trans hX.1,(hW.block _ (by rw [hs0];omega)).trans hX.2⟩
 have HNO:=Lib.hid hno
 clear h1 h2 ht hr hX hE0 hs0 hno
 go_enter Tryz.func18,Tryz.ntmps18
 go_wp2_with fail
 refine HC.out.mono ?_
 rintro e w1 ⟨rfl,hb1⟩
 obtain ⟨hE1,hx1,hy1⟩:=HNO.out w1 hb1
 obtain ⟨c0,c1,c2,c3,c4,c5,cf⟩:=six_cells hx1
 obtain ⟨d0,d1,d2,d3,d4,d5,df⟩:=six_cells hy1
 have HB1:=Lib.hid hb1;have HX1:=Lib.hid hx1;have HY1:=Lib.hid hy1;have HE1:=Lib.hid hE1
 clear hb1 hx1 hy1 hE1 HC
 rw [hok]
 clear hok
 go_wp2_with fail
 clear c0 c1 c2 c3 c4 c5 cf d0 d1 d2 d3 d4 d5 df
 go_loopg [29] l.length (fun gk i wr=>∃ k:Nat,k≤l.length∧Hid (gk=l.length - k)∧i=.int .i64 k∧Hid (∀ j (hj:j<l.length),j<k→entryOk l[j]=true)∧Hid (Ext ((w.alloc (oC c A1 n1 A2 n2)).alloc oC0) wr))
 case atStart=>exact ⟨0,Nat.zero_le _,rfl,rfl,fun j _ h=>by omega,HB1.out⟩
 case round=>
  obtain ⟨k,hk,HK,rfl,HG,HW⟩:=hrel
  obtain ⟨hEx,hxr,hyr⟩:=HNO.out _ HW.out
  have HEX:=Lib.hid hEx;have HXR:=Lib.hid hxr;have HYR:=Lib.hid hyr
  have hgt:w.heap.size+1<wr.heap.size:=blk_lt hyr
  clear hxr hyr
  by_cases hlt:k<l.length
  ·obtain ⟨b,off,rfl,hbl,e0,e1,e2,e3,e4,e5,e6⟩:=ent_at (HR.out.ext hEx) k hlt
   have hbx:=World.alloc_heap_new wr (oN l[k])
   have hC:=entryOk_c l[k] (wr.alloc (oN l[k])) ((HT.out.below hEx HT.out.pos).alloc _) (HR.out.okAt k hlt)
   rw [HALL.out l[k] (List.getElem_mem hlt)] at hC
   have hC:=Lib.hid hC
   clear hEx
   go_wp2_with fail
   refine hC.out.mono ?_
   rintro e w2 ⟨rfl,hb2⟩
   have hW2:=HW.out.trans (((Below.refl _ wr).alloc HW.out.size _).trans (hb2.mono (Nat.le_trans HW.out.size (Nat.le_trans (Nat.le_succ _) (Nat.le_of_eq (alloc_sz _ _).symm)))))
   obtain ⟨hE2,hx2,hy2⟩:=HNO.out _ hW2
   have HW2:=Lib.hid hW2;have HE2:=Lib.hid hE2;have HY2:=Lib.hid hy2
   obtain ⟨d0,d1,d2,d3,d4,d5,df⟩:=six_cells hy2
   clear hbx hb2 hC hW2 hE2 hx2 hy2
   ·go_wp2_with fail
    go_roundg (l.length - (k+1))
    case measure=>have:=HK.out;omega
    case rel=>exact ⟨k+1,by omega,rfl,by go_num,fun j hj hjk=>HALL.out _ (List.getElem_mem hj),HW2.out⟩
  ·have hkl:k=l.length:=by omega
   obtain ⟨hw9,hs0,hs40,htr,hd0,hd1,hwl,hm0,hm1,hwt⟩:=clientOk_parts HOK.out
   have hbl:=treeOk_len htr
   have HTR:=Lib.hid htr
   obtain ⟨c0,c1,c2,c3,c4,c5,cf⟩:=six_cells HXR.out
   obtain ⟨d0,d1,d2,d3,d4,d5,df⟩:=six_cells HYR.out
   have HCP:=Lib.hid (copyClient_c c _ wr ⟨A1,n1,A2,n2,rfl,H1.out.ext hEx,H2.out.ext hEx⟩ (by omega) (by omega))
   clear hwt hw9 htr hEx HG HK
   go_wp2_with fail
   refine HCP.out.mono ?_
   rintro e w3 ⟨v3,rfl,⟨A5,n5,A6,n6,rfl,ho5,ho6⟩,hb3⟩
   have hx3:=(hb3.block w.heap.size (by omega)).trans HXR.out
   have hy3:=(hb3.block (w.heap.size+1) hgt).trans HYR.out
   have hs3:=hb3.size
   clear c0 c1 c2 c3 c4 c5 cf d0 d1 d2 d3 d4 d5 df
   obtain ⟨c0,c1,c2,c3,c4,c5,cf⟩:=six_cells hx3
   obtain ⟨d0,d1,d2,d3,d4,d5,df⟩:=six_cells hy3
   have HX3:=Lib.hid hx3;have HY3:=Lib.hid hy3;have HO5:=Lib.hid ho5;have HO6:=Lib.hid ho6;have HB3:=Lib.hid hb3
   clear hx3 hy3 ho5 ho6 hb3 HCP
   go_wp2_with fail
   all_goals
    have hz:=put6_at (W:=put6 w3 w.heap.size (.int .i64 c.who) (.int .i64 c.seen) (.slice A5 c.base.length n5) (.slice A6 c.wait.length n6) (.int .i64 c.done) (.int .i64 c.made)) (b:=w.heap.size+1) (.int .i64 c.who) (.int .i64 c.seen) (.slice A5 c.base.length n5) (.slice A6 c.wait.length n6) (.int .i64 c.done) (.int .i64 c.made) ((put6_far _ _ _ _ _ _ (by omega)).trans HY3.out)
    obtain ⟨k0,k1,k2,k3,k4,k5,kf⟩:=six_cells hz
    refine bodyPost_ret (v:=.tuple #[.agg (cC c A5 n5 A6 n6),.bool false]) ?_ rfl ?_
    ·simp [results,Tryz.f18,go_sem,k0,k1,k2,k3,k4,k5]
    ·refine ⟨_,by rw [HRes.out],?_,put6_below _ _ _ _ _ _ (put6_below _ _ _ _ _ _ (HEX.out.trans (HB3.out.mono HEX.out.size)) (Nat.le_refl _)) (Nat.le_succ _)⟩
     rw [HRes.out]
     refine CO.lower (base:=wr.heap.size) ⟨_,_,_,_,rfl,HO5.out.of_blocks (fun k hk _=>(put6_far _ _ _ _ _ _ (by omega)).trans (put6_far _ _ _ _ _ _ (by omega))),HO6.out.of_blocks (fun k hk _=>(put6_far _ _ _ _ _ _ (by omega)).trans (put6_far _ _ _ _ _ _ (by omega)))⟩ HEX.out.size
end Go.Proofs.YtecmcjfdaipfcaaGreatDoor
