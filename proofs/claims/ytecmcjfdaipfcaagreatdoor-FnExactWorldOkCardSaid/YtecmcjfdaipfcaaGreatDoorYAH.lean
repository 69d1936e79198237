/- What a client is. .. A client hears what is not too far away. -/
import Derived.Test.YtecmcjfdaipfcaaGreatDoorYAG
namespace Go.Proofs.YtecmcjfdaipfcaaGreatDoor
open Go.RowKit
set_option linter.unusedVariables false
def waitAt (c:Client) (i:Nat) (e:Entry):Bool:=entryOk e&&decide (e.who=c.who)&&decide (e.seq=c.done+i+1)&&!(decide (e.op.kind=1)&&decide (10*c.who+c.made<e.op.id))
def waitOk (c:Client):Bool:=(List.range c.wait.length).all fun i=>match c.wait[i]? with | some e=>waitAt c i e | none=>true
def clientOk (c:Client):Bool:=isWho c.who&&decide (0≤c.seen∧c.seen≤40)&&treeOk c.base&&decide (0≤c.done∧c.done≤c.seen)&&decide ((c.wait.length:Int)≤40 - c.done)&&decide (0≤c.made∧c.made≤6)&&waitOk c
theorem waitOk_true (c:Client) (h:∀ k (hk:k<c.wait.length),waitAt c k c.wait[k]=true):waitOk c=true:=by
 unfold waitOk
 rw [List.all_eq_true]
 intro k hk
 rw [List.mem_range] at hk
 rw [List.getElem?_eq_getElem hk];exact h k hk
theorem waitOk_false (c:Client) (k:Nat) (hk:k<c.wait.length) (h:waitAt c k c.wait[k]=false):waitOk c=false:=by
 unfold waitOk
 rw [List.all_eq_false]
 exact ⟨k,List.mem_range.2 hk,by rw [List.getElem?_eq_getElem hk];simp [h]⟩
theorem waitOk_at {c:Client} (h:waitOk c=true) (k:Nat) (hk:k<c.wait.length):waitAt c k c.wait[k]=true:=by
 unfold waitOk at h
 rw [List.all_eq_true] at h
 have:=h k (List.mem_range.2 hk)
 rwa [List.getElem?_eq_getElem hk] at this
theorem seven_cells {W:World} {b:Nat} {v0 v1 v2 v3 v4 v5 v6:Value} {ty:TypeId} (h:W.heap[b]?=some (.cells #[v0,v1,v2,v3,v4,v5,v6] ty (0,0))) :
  W.cell? ⟨b,0,none⟩=some v0∧W.cell? ⟨b,1,none⟩=some v1∧W.cell? ⟨b,2,none⟩=some v2∧W.cell? ⟨b,3,none⟩=some v3∧W.cell? ⟨b,4,none⟩=some v4∧W.cell? ⟨b,5,none⟩=some v5∧W.cell? ⟨b,6,none⟩=some v6∧∀ o,W.frozen? ⟨b,o,none⟩=false:=by
 refine ⟨by simp [World.cell?,h],by simp [World.cell?,h],by simp [World.cell?,h],by simp [World.cell?,h],by simp [World.cell?,h],by simp [World.cell?,h],by simp [World.cell?,h],fun o=>by simp [World.frozen?,h]⟩
set_option maxRecDepth 100000 in
set_option maxHeartbeats 2000000 in
theorem clientOk_c (c:Client) (v:Value) (w:World) (ht:Tab w) (h:CV w c v) :
  Calls Tryz.prog 14 #[v] w fun r w'=>r=.returned (.bool (clientOk c))∧Ext w w':=by
 obtain ⟨A1,n1,A2,n2,rfl,h1,h2⟩:=h
 have hlw:c.wait.length≤maxLen:=Nat.le_trans h2.1 h2.2.1
 unfold maxLen at hlw
 have hlb:c.base.length≤maxLen:=Nat.le_trans h1.1 h1.2.1
 unfold maxLen at hlb
 have H1:=Lib.hid h1;have H2:=Lib.hid h2;have HT:=Lib.hid ht
 have hsz:=alloc_sz w (oC c A1 n1 A2 n2)
 have HB0:Hid (Ext w (w.alloc (oC c A1 n1 A2 n2))):=(Below.refl _ w).alloc (Nat.le_refl _) _
 have hW:=whoOk_c c.who
 have HW:=Lib.hid hW
 clear h1 h2 ht hW
 go_enter Tryz.func14,Tryz.ntmps14
 go_wp2_with fail
 refine (HW.out _).mono ?_
 rintro e w1 ⟨rfl,rfl⟩
 clear HW
 cases hw:isWho c.who
 ·have HR:Hid (clientOk c=false):=by show _=_;unfold clientOk;rw [hw];rfl
  clear hw
  go_wp2_with fail
  go_ret
  exact ⟨by rw [HR.out];rfl,HB0.out⟩
 by_cases hs0:c.seen<0
 ·have HR:Hid (clientOk c=false):=by show _=_;unfold clientOk;rw [decide_eq_false (show ¬(0≤c.seen∧c.seen≤40) by omega)];simp
  clear hw
  go_wp2_with fail
  go_ret
  exact ⟨by rw [HR.out];rfl,HB0.out⟩
 by_cases hs1:40<c.seen
 ·have HR:Hid (clientOk c=false):=by show _=_;unfold clientOk;rw [decide_eq_false (show ¬(0≤c.seen∧c.seen≤40) by omega)];simp
  clear hw
  go_wp2_with fail
  go_ret
  exact ⟨by rw [HR.out];rfl,HB0.out⟩
 have HTr:=Lib.hid (treeOk_c A1 n1 c.base _ (HT.out.alloc (oC c A1 n1 A2 n2)) (H1.out.alloc _))
 have HWho:=Lib.hid hw
 clear hw
 go_wp2_with fail
 refine HTr.out.mono ?_
 rintro e w1 ⟨rfl,hb1⟩
 have hx:=(hb1.block w.heap.size (by rw [alloc_sz];omega)).trans (World.alloc_heap_new w _)
 obtain ⟨d0,d1,d2,d3,d4,d5,df⟩:=six_cells hx
 have HB1:=Lib.hid hb1;have HX:=Lib.hid hx
 clear hb1 hx HTr
 cases htr:treeOk c.base
 ·have HR:Hid (clientOk c=false):=by show _=_;unfold clientOk;rw [htr];simp
  clear htr
  go_wp2_with fail
  go_ret
  exact ⟨by rw [HR.out];rfl,HB0.out.trans (HB1.out.mono (by rw [alloc_sz];omega))⟩
 have HTree:=Lib.hid htr
 clear htr
 have hno:∀ W:World,Ext (w.alloc (oC c A1 n1 A2 n2)) W→Ext w W:=fun W hW=>HB0.out.trans (hW.mono (by rw [alloc_sz];omega))
 have HNO:=Lib.hid hno
 clear hno
 by_cases hd0:c.done<0
 ·have HR:Hid (clientOk c=false):=by show _=_;unfold clientOk;rw [decide_eq_false (show ¬(0≤c.done∧c.done≤c.seen) by omega)];simp
  go_wp2_with fail
  go_ret
  exact ⟨by rw [HR.out];rfl,HNO.out _ HB1.out⟩
 by_cases hd1:c.seen<c.done
 ·have HR:Hid (clientOk c=false):=by show _=_;unfold clientOk;rw [decide_eq_false (show ¬(0≤c.done∧c.done≤c.seen) by omega)];simp
  go_wp2_with fail
  go_ret
  exact ⟨by rw [HR.out];rfl,HNO.out _ HB1.out⟩
 by_cases hl:(40:Int) - c.done<c.wait.length
 ·have HR:Hid (clientOk c=false):=by show _=_;unfold clientOk;rw [decide_eq_false (show ¬((c.wait.length:Int)≤40 - c.done) by omega)];simp
  go_wp2_with fail
  go_ret
  exact ⟨by rw [HR.out];rfl,HNO.out _ HB1.out⟩
 by_cases hm0:c.made<0
 ·have HR:Hid (clientOk c=false):=by show _=_;unfold clientOk;rw [decide_eq_false (show ¬(0≤c.made∧c.made≤6) by omega)];simp
  go_wp2_with fail
  go_ret
  exact ⟨by rw [HR.out];rfl,HNO.out _ HB1.out⟩
 by_cases hm1:6<c.made
 ·have HR:Hid (clientOk c=false):=by show _=_;unfold clientOk;rw [decide_eq_false (show ¬(0≤c.made∧c.made≤6) by omega)];simp
  go_wp2_with fail
  go_ret
  exact ⟨by rw [HR.out];rfl,HNO.out _ HB1.out⟩
 have hres:clientOk c=waitOk c:=by
  unfold clientOk
  rw [HWho.out,HTree.out,decide_eq_true (show 0≤c.seen∧c.seen≤40 by omega),decide_eq_true (show 0≤c.done∧c.done≤c.seen by omega),decide_eq_true (show (c.wait.length:Int)≤40 - c.done by omega),decide_eq_true (show 0≤c.made∧c.made≤6 by omega)]
  simp
 have HRES:=Lib.hid hres
 have hwho:1≤c.who∧c.who≤3:=by have:=HWho.out;simpa [isWho] using this
 obtain ⟨hw1,hw3⟩:=hwho
 clear hres
 go_wp2_with fail
 go_loopg [57] c.wait.length (fun gk i wr=>∃ k:Nat,k≤c.wait.length∧Hid (gk=c.wait.length - k)∧i=.int .i64 k∧Hid (∀ j (hj:j<c.wait.length),j<k→waitAt c j c.wait[j]=true)∧Hid (Ext (w.alloc (oC c A1 n1 A2 n2)) wr))
 case atStart=>exact ⟨0,Nat.zero_le _,rfl,rfl,fun j _ h=>by omega,HB1.out⟩
 case round=>
  obtain ⟨k,hk,HK,rfl,HG,HW⟩:=hrel
  clear d0 d1 d2 d3 d4 d5 df
  have hEx:=HNO.out _ HW.out
  by_cases hlt:k<c.wait.length
  ·obtain ⟨b,off,rfl,hbl,e0,e1,e2,e3,e4,e5,e6⟩:=ent_at (H2.out.ext hEx) k hlt
   have hx:=(HW.out.block w.heap.size (by rw [alloc_sz];omega)).trans (World.alloc_heap_new w _)
   have hws:=HW.out.size
   rw [alloc_sz] at hws
   have hbx:=World.alloc_heap_new wr (.cells #[.int .i64 c.wait[k].who,.int .i64 c.wait[k].seq,.int .i64 c.wait[k].op.kind,.int .i64 c.wait[k].op.id,.int .i64 c.wait[k].op.up,.int .i64 c.wait[k].op.pos,.string c.wait[k].op.text] 35)
   have hC:=Lib.hid (entryOk_c c.wait[k] (wr.alloc (.cells #[.int .i64 c.wait[k].who,.int .i64 c.wait[k].seq,.int .i64 c.wait[k].op.kind,.int .i64 c.wait[k].op.id,.int .i64 c.wait[k].op.up,.int .i64 c.wait[k].op.pos,.string c.wait[k].op.text] 35)) ((HT.out.below hEx HT.out.pos).alloc _) (H2.out.okAt k hlt))
   have HEx:=Lib.hid hEx
   clear hEx
   go_wp2_with fail
   refine hC.out.mono ?_
   rintro e w2 ⟨rfl,hb2⟩
   have hy:=(hb2.block w.heap.size (by rw [alloc_sz];omega)).trans ((Below.heap_alloc wr _ w.heap.size (by omega)).trans hx)
   obtain ⟨d0,d1,d2,d3,d4,d5,df⟩:=six_cells hy
   have hz:=(hb2.block wr.heap.size (by rw [alloc_sz];omega)).trans hbx
   obtain ⟨g0,g1,g2,g3,g4,g5,g6,gf⟩:=seven_cells hz
   have hW2:Ext (w.alloc (oC c A1 n1 (some ⟨b,off,none⟩) n2)) w2:=HW.out.trans (((Below.refl _ wr).alloc HW.out.size _).trans (hb2.mono (Nat.le_trans HW.out.size (Nat.le_trans (Nat.le_succ _) (Nat.le_of_eq (alloc_sz _ _).symm)))))
   have HW2:=Lib.hid hW2
   clear hx hbx hb2 hy hz hC hW2
   have hbad:waitAt c k c.wait[k]=false→Hid (waitOk c=false):=fun h=>waitOk_false c k hlt h
   cases hok:entryOk c.wait[k]
   ·have HR:=hbad (by unfold waitAt;rw [hok];rfl)
    clear hok hbad
    go_wp2_with fail
    go_ret
    exact ⟨by rw [HRES.out,HR.out];rfl,HNO.out _ HW2.out⟩
   have HOK:=Lib.hid hok
   clear hok
   by_cases hwho:c.wait[k].who=c.who
   ·have hwho':(c.wait[k].who != c.who)=false:=by simp [hwho]
    by_cases hseq:c.wait[k].seq=c.done+k+1
    ·have hseq':(c.wait[k].seq != c.done+(k:Int)+1)=false:=by simp [hseq]
     by_cases hkd:c.wait[k].op.kind=1
     ·have hkd':(c.wait[k].op.kind == 1)=true:=by simp [hkd]
      by_cases hid:10*c.who+c.made<c.wait[k].op.id
      ·have HR:=hbad (by unfold waitAt;simp [hkd,hid])
       clear hbad hwho hseq hkd
       go_wp2_with fail
       go_ret
       exact ⟨by rw [HRES.out,HR.out];rfl,HNO.out _ HW2.out⟩
      ·have HGood:Hid (waitAt c k c.wait[k]=true):=by show _=_;unfold waitAt;rw [HOK.out];simp [hwho,hseq];omega
       clear hbad hwho hseq hkd
       go_wp2_with fail
       go_roundg (c.wait.length - (k+1))
       case measure=>have:=HK.out;omega
       case rel=>
        refine ⟨k+1,by omega,rfl,by go_num,fun j hj hjk=>?_,HW2.out⟩
        by_cases e:j=k
        ·subst e;exact HGood.out
        ·exact HG.out j hj (by omega)
     ·have hkd':(c.wait[k].op.kind == 1)=false:=by simp [hkd]
      have HGood:Hid (waitAt c k c.wait[k]=true):=by show _=_;unfold waitAt;rw [HOK.out];simp [hwho,hseq,hkd]
      clear hbad hwho hseq hkd
      go_wp2_with fail
      go_roundg (c.wait.length - (k+1))
      case measure=>have:=HK.out;omega
      case rel=>
       refine ⟨k+1,by omega,rfl,by go_num,fun j hj hjk=>?_,HW2.out⟩
       by_cases e:j=k
       ·subst e;exact HGood.out
       ·exact HG.out j hj (by omega)
    ·have hseq':(c.wait[k].seq != c.done+(k:Int)+1)=true:=by simp [hseq]
     have HR:=hbad (by unfold waitAt;simp [hseq])
     clear hbad hwho hseq
     go_wp2_with fail
     go_ret
     exact ⟨by rw [HRES.out,HR.out];rfl,HNO.out _ HW2.out⟩
   ·have hwho':(c.wait[k].who != c.who)=true:=by simp [hwho]
    have HR:=hbad (by unfold waitAt;simp [hwho])
    clear hbad hwho
    go_wp2_with fail
    go_ret
    exact ⟨by rw [HRES.out,HR.out];rfl,HNO.out _ HW2.out⟩
  ·have hkl:k=c.wait.length:=by omega
   go_wp2_with fail
   go_ret
   exact ⟨by rw [HRES.out,waitOk_true c (fun j hj=>HG.out j hj (by omega))];rfl,hEx⟩
open Go.RowKit
def hearL (who:Int):List Entry→List Entry→List Row→Int→Int→Option (List Entry × List Row × Int × Int)
 |[],q,t,d,n=>some (q,t,d,n)
 |e::l,q,t,d,n=>
  if e.who=who then
   match q with
   |e0::q'=>if e0=e then hearL who l q' (opDo t e.op) (d+1) (n+1) else none
   |[]=>none
  else hearL who l q (opDo t e.op) d (n+1)
def clientHear (c:Client) (frm:Int) (l:List Entry):Client × Bool:=
 if clientOk c=false∨frm<0∨40<frm then (noClient,false)
 else if l.all entryOk=false then (noClient,false)
 else if c.seen<frm∨40 - frm<l.length then (c,false)
 else match hearL c.who (l.drop (min (c.seen - frm) l.length).toNat) c.wait c.base c.done c.seen with
  |none=>(c,false)
  |some (q,t,d,n)=>(⟨c.who,n,t,q,d,c.made⟩,true)
theorem treeOk_len {l:List Row} (h:treeOk l=true):l.length≤1000:=by
 obtain ⟨hv,he⟩:=T.valid_build l h
 have:=hv.len
 rw [←T.rows_len 0,he] at this
 exact this
theorem clientOk_parts {c:Client} (h:clientOk c=true):isWho c.who=true∧0≤c.seen∧c.seen≤40∧treeOk c.base=true∧0≤c.done∧c.done≤c.seen∧(c.wait.length:Int)≤40 - c.done∧0≤c.made∧c.made≤6∧waitOk c=true:=by
 simp only [clientOk,Bool.and_eq_true,decide_eq_true_eq] at h
 obtain ⟨⟨⟨⟨⟨⟨h1,h2⟩,h3⟩,h4⟩,h5⟩,h6⟩,h7⟩:=h
 exact ⟨h1,h2.1,h2.2,h3,h4.1,h4.2,h5,h6.1,h6.2,h7⟩
theorem CO.no (w:World) (base:Nat):CO w base noClient (.agg cC0):=⟨none,0,none,0,rfl,Own.nil _ _ _,Own.nil _ _ _⟩
theorem CO.lower {w:World} {base base':Nat} {c:Client} {v:Value} (h:CO w base c v) (hb:base'≤base):CO w base' c v:=by
 obtain ⟨A1,n1,A2,n2,rfl,h1,h2⟩:=h
 exact ⟨A1,n1,A2,n2,rfl,h1.lower hb,h2.lower hb⟩
theorem CV.no (w:World):CV w noClient (.agg cC0):=⟨none,0,none,0,rfl,Rd.nil _,Rd.nil _⟩
theorem Rd.far {α:Type} [Flat α] {w w':World} {A:Option Addr} {c:Nat} {l:List α} (h:Rd w A c l) (hb:∀ k,k<w.heap.size→(∀ b off,A=some ⟨b,off,none⟩→k=b→0<l.length→True)→w'.heap[k]?=w.heap[k]?):Rd w' A c l:=by
 refine ⟨h.1,h.2.1,fun h0=>?_,h.2.2.2⟩
 obtain ⟨b,off,rfl,hh⟩:=h.2.2.1 h0
 exact ⟨b,off,rfl,fun j v hv=>(cell_blk (hb b (World.block_lt_of_cell? w _ (hh j v hv)) (fun _ _ _ _ _=>trivial)) _).trans (hh j v hv)⟩
set_option maxRecDepth 100000 in
set_option maxHeartbeats 4000000 in
theorem clientHear_bad (c:Client) (v:Value) (frm:Int) (A:Option Addr) (cap:Nat) (l:List Entry) (w:World) (ht:Tab w) (h:CV w c v) (hr:Rd w A cap l) (hbad:clientOk c=false∨frm<0∨40<frm) :
  Calls Tryz.prog 18 #[v,.int .i64 frm,.slice A l.length cap] w fun r w'=>∃ v',r=.returned (.tuple #[v',.bool (clientHear c frm l).2])∧CO w' w.heap.size (clientHear c frm l).1 v'∧Ext w w':=by
 have HRes:Hid (clientHear c frm l=(noClient,false)):=by show _=_;unfold clientHear;rw [if_pos hbad]
 obtain ⟨A1,n1,A2,n2,rfl,h1,h2⟩:=h
 have hll:l.length≤maxLen:=Nat.le_trans hr.1 hr.2.1
 unfold maxLen at hll
 have H1:=Lib.hid h1;have H2:=Lib.hid h2;have HT:=Lib.hid ht;have HR:=Lib.hid hr
 have hX:=two_new w (oC c A1 n1 A2 n2) oC0
 have hE0:Ext w ((w.alloc (oC c A1 n1 A2 n2)).alloc oC0):=((Below.refl _ w).alloc (Nat.le_refl _) _).alloc (by rw [alloc_sz];omega) _
 have hs0:((w.alloc (oC c A1 n1 A2 n2)).alloc oC0).heap.size=w.heap.size+2:=by rw [alloc_sz,alloc_sz]
 have HC:=Lib.hid (clientOk_c c _ ((w.alloc (oC c A1 n1 A2 n2)).alloc oC0) ((ht.alloc _).alloc _) ⟨A1,n1,A2,n2,rfl,(h1.alloc _).alloc _,(h2.alloc _).alloc _⟩)
 have hno:∀ W:World,Ext ((w.alloc (oC c A1 n1 A2 n2)).alloc oC0) W→Ext w W∧W.heap[w.heap.size]?=some (.cells (cC c A1 n1 A2 n2) 26 (0,0))∧W.heap[w.heap.size+1]?=some (.cells cC0 26 (0,0)):=fun W hW=>
  ⟨hE0.trans (hW.mono (by rw [hs0];omega)),(hW.block _ (by rw [hs0];omega)).trans hX.1,(hW.block _ (by rw [hs0];omega)).trans hX.2⟩
 have HNO:=Lib.hid hno
 clear h1 h2 ht hr hX hE0 hs0 hno
 go_enter Tryz.func18,Tryz.ntmps18
 go_wp2_with fail
 refine HC.out.mono ?_
 rintro e w1 ⟨rfl,hb1⟩
 obtain ⟨hE1,hx1,hy1⟩:=HNO.out w1 hb1
 obtain ⟨c0,c1,c2,c3,c4,c5,cf⟩:=six_cells hx1
 obtain ⟨d0,d1,d2,d3,d4,d5,df⟩:=six_cells hy1
 have HB1:=Lib.hid hb1;have HX1:=Lib.hid hx1;have HY1:=Lib.hid hy1;have HE1:=Lib.hid hE1
 clear hb1 hx1 hy1 hE1 HC
 have HFIN:Hid (∀ W:World,Ext w W→W.heap[w.heap.size+1]?=some (.cells cC0 26 (0,0)) →
   Ext w ((((((W.setCell ⟨w.heap.size+1,0,none⟩ (.int .i64 0)).setCell ⟨w.heap.size+1,1,none⟩ (.int .i64 0)).setCell ⟨w.heap.size+1,2,none⟩ (.slice none 0 0)).setCell ⟨w.heap.size+1,3,none⟩ (.slice none 0 0)).setCell ⟨w.heap.size+1,4,none⟩ (.int .i64 0)).setCell ⟨w.heap.size+1,5,none⟩ (.int .i64 0)) ∧
   ((((((W.setCell ⟨w.heap.size+1,0,none⟩ (.int .i64 0)).setCell ⟨w.heap.size+1,1,none⟩ (.int .i64 0)).setCell ⟨w.heap.size+1,2,none⟩ (.slice none 0 0)).setCell ⟨w.heap.size+1,3,none⟩ (.slice none 0 0)).setCell ⟨w.heap.size+1,4,none⟩ (.int .i64 0)).setCell ⟨w.heap.size+1,5,none⟩ (.int .i64 0)).heap[w.heap.size+1]?=some (.cells cC0 26 (0,0))):=fun W hW hy=>
  ⟨((((((hW.setCell (Nat.le_succ _) _).setCell (Nat.le_succ _) _).setCell (Nat.le_succ _) _).setCell (Nat.le_succ _) _).setCell (Nat.le_succ _) _).setCell (Nat.le_succ _) _),set_at (set_at (set_at (set_at (set_at (set_at hy)))))⟩
 cases hok:clientOk c
 ·clear hok hbad
  go_wp2_with fail
  obtain ⟨hE,hz⟩:=HFIN.out _ HE1.out HY1.out
  obtain ⟨k0,k1,k2,k3,k4,k5,kf⟩:=six_cells hz
  refine bodyPost_ret (v:=.tuple #[.agg cC0,.bool false]) ?_ rfl ?_
  ·simp [results,Tryz.f18,go_sem,k0,k1,k2,k3,k4,k5]
  ·exact ⟨_,by rw [HRes.out],by rw [HRes.out];exact CO.no _ _,hE⟩
 ·rw [hok] at hbad
  clear hok
  by_cases hf0:frm<0
  ·clear hbad
   go_wp2_with fail
   obtain ⟨hE,hz⟩:=HFIN.out _ HE1.out HY1.out
   obtain ⟨k0,k1,k2,k3,k4,k5,kf⟩:=six_cells hz
   refine bodyPost_ret (v:=.tuple #[.agg cC0,.bool false]) ?_ rfl ?_
   ·simp [results,Tryz.f18,go_sem,k0,k1,k2,k3,k4,k5]
   ·exact ⟨_,by rw [HRes.out],by rw [HRes.out];exact CO.no _ _,hE⟩
  ·have hf1:40<frm:=by simp at hbad;omega
   clear hbad
   go_wp2_with fail
   obtain ⟨hE,hz⟩:=HFIN.out _ HE1.out HY1.out
   obtain ⟨k0,k1,k2,k3,k4,k5,kf⟩:=six_cells hz
   refine bodyPost_ret (v:=.tuple #[.agg cC0,.bool false]) ?_ rfl ?_
   ·simp [results,Tryz.f18,go_sem,k0,k1,k2,k3,k4,k5]
   ·exact ⟨_,by rw [HRes.out],by rw [HRes.out];exact CO.no _ _,hE⟩
set_option maxRecDepth 100000 in
set_option maxHeartbeats 4000000 in
theorem clientHear_entry (c:Client) (v:Value) (frm:Int) (A:Option Addr) (cap:Nat) (l:List Entry) (w:World) (ht:Tab w) (h:CV w c v) (hr:Rd w A cap l) (hok:clientOk c=true) (hf0:¬frm<0) (hf1:¬40<frm) (hall:l.all entryOk=false) :
  Calls Tryz.prog 18 #[v,.int .i64 frm,.slice A l.length cap] w fun r w'=>∃ v',r=.returned (.tuple #[v',.bool (clientHear c frm l).2])∧CO w' w.heap.size (clientHear c frm l).1 v'∧Ext w w':=by
 have HRes:Hid (clientHear c frm l=(noClient,false)):=by
  show _=_
  unfold clientHear;rw [if_neg (by rw [hok];simp;omega),if_pos hall]
 have HALL:=Lib.hid hall
 clear hall
 obtain ⟨A1,n1,A2,n2,rfl,h1,h2⟩:=h
 have hll:l.length≤maxLen:=Nat.le_trans hr.1 hr.2.1
 unfold maxLen at hll
 have H1:=Lib.hid h1;have H2:=Lib.hid h2;have HT:=Lib.hid ht;have HR:=Lib.hid hr
 have hX:=two_new w (oC c A1 n1 A2 n2) oC0
 have hE0:Ext w ((w.alloc (oC c A1 n1 A2 n2)).alloc oC0):=((Below.refl _ w).alloc (Nat.le_refl _) _).alloc (by rw [alloc_sz];omega) _
 have hs0:((w.alloc (oC c A1 n1 A2 n2)).alloc oC0).heap.size=w.heap.size+2:=by rw [alloc_sz,alloc_sz]
 have HC:=Lib.hid (clientOk_c c _ ((w.alloc (oC c A1 n1 A2 n2)).alloc oC0) ((ht.alloc _).alloc _) ⟨A1,n1,A2,n2,rfl,(h1.alloc _).alloc _,(h2.alloc _).alloc _⟩)
 have hno:∀ W:World,Ext ((w.alloc (oC c A1 n1 A2 n2)).alloc oC0) W→Ext w W∧W.heap[w.heap.size]?=some (.cells (cC c A1 n1 A2 n2) 26 (0,0))∧W.heap[w.heap.size+1]?=some (.cells cC0 26 (0,0)):=fun W hW=>
  ⟨hE0.trans (hW.mono (by rw [hs0];omega)),(hW.block _ (by rw [hs0];omega)).trans hX.1,(hW.block _ (by rw [hs0];omega)).trans hX.2⟩
 have HNO:=Lib.hid hno
 clear h1 h2 ht hr hX hE0 hs0 hno
 go_enter Tryz.func18,Tryz.ntmps18
 go_wp2_with fail
 refine HC.out.mono ?_
 rintro e w1 ⟨rfl,hb1⟩
 obtain ⟨hE1,hx1,hy1⟩:=HNO.out w1 hb1
 obtain ⟨c0,c1,c2,c3,c4,c5,cf⟩:=six_cells hx1
 obtain ⟨d0,d1,d2,d3,d4,d5,df⟩:=six_cells hy1
 have HB1:=Lib.hid hb1;have HX1:=Lib.hid hx1;have HY1:=Lib.hid hy1;have HE1:=Lib.hid hE1
 clear hb1 hx1 hy1 hE1 HC
 have HFIN:Hid (∀ W:World,Ext w W→W.heap[w.heap.size+1]?=some (.cells cC0 26 (0,0)) →
   Ext w ((((((W.setCell ⟨w.heap.size+1,0,none⟩ (.int .i64 0)).setCell ⟨w.heap.size+1,1,none⟩ (.int .i64 0)).setCell ⟨w.heap.size+1,2,none⟩ (.slice none 0 0)).setCell ⟨w.heap.size+1,3,none⟩ (.slice none 0 0)).setCell ⟨w.heap.size+1,4,none⟩ (.int .i64 0)).setCell ⟨w.heap.size+1,5,none⟩ (.int .i64 0)) ∧
   ((((((W.setCell ⟨w.heap.size+1,0,none⟩ (.int .i64 0)).setCell ⟨w.heap.size+1,1,none⟩ (.int .i64 0)).setCell ⟨w.heap.size+1,2,none⟩ (.slice none 0 0)).setCell ⟨w.heap.size+1,3,none⟩ (.slice none 0 0)).setCell ⟨w.heap.size+1,4,none⟩ (.int .i64 0)).setCell ⟨w.heap.size+1,5,none⟩ (.int .i64 0)).heap[w.heap.size+1]?=some (.cells cC0 26 (0,0))):=fun W hW hy=>
  ⟨((((((hW.setCell (Nat.le_succ _) _).setCell (Nat.le_succ _) _).setCell (Nat.le_succ _) _).setCell (Nat.le_succ _) _).setCell (Nat.le_succ _) _).setCell (Nat.le_succ _) _),set_at (set_at (set_at (set_at (set_at (set_at hy)))))⟩
 rw [hok]
 clear hok
 go_wp2_with fail
 clear c0 c1 c2 c3 c4 c5 cf d0 d1 d2 d3 d4 d5 df
 go_loopg [29] l.length (fun gk i wr=>∃ k:Nat,k≤l.length∧Hid (gk=l.length - k)∧i=.int .i64 k∧Hid (∀ j (hj:j<l.length),j<k→entryOk l[j]=true)∧Hid (Ext ((w.alloc (oC c A1 n1 A2 n2)).alloc oC0) wr))
 case atStart=>exact ⟨0,Nat.zero_le _,rfl,rfl,fun j _ h=>by omega,HB1.out⟩
 case round=>
  obtain ⟨k,hk,HK,rfl,HG,HW⟩:=hrel
  obtain ⟨hEx,hxr,hyr⟩:=HNO.out _ HW.out
  have HEX:=Lib.hid hEx;have HXR:=Lib.hid hxr;have HYR:=Lib.hid hyr
  have hgt:w.heap.size+1<wr.heap.size:=blk_lt hyr
  clear hxr hyr
  by_cases hlt:k<l.length
  ·obtain ⟨b,off,rfl,hbl,e0,e1,e2,e3,e4,e5,e6⟩:=ent_at (HR.out.ext hEx) k hlt
   have hbx:=World.alloc_heap_new wr (oN l[k])
   have hC:=Lib.hid (entryOk_c l[k] (wr.alloc (oN l[k])) ((HT.out.below hEx HT.out.pos).alloc _) (HR.out.okAt k hlt))
   clear hEx
   go_wp2_with fail
   refine hC.out.mono ?_
   rintro e w2 ⟨rfl,hb2⟩
   have hW2:=HW.out.trans (((Below.refl _ wr).alloc HW.out.size _).trans (hb2.mono (Nat.le_trans HW.out.size (Nat.le_trans (Nat.le_succ _) (Nat.le_of_eq (alloc_sz _ _).symm)))))
   obtain ⟨hE2,hx2,hy2⟩:=HNO.out _ hW2
   have HW2:=Lib.hid hW2;have HE2:=Lib.hid hE2;have HY2:=Lib.hid hy2
   obtain ⟨d0,d1,d2,d3,d4,d5,df⟩:=six_cells hy2
   clear hbx hb2 hC hW2 hE2 hx2 hy2
   cases hek:entryOk l[k]
   ·clear hek
    go_wp2_with fail
    obtain ⟨hE,hz⟩:=HFIN.out _ HE2.out HY2.out
    obtain ⟨k0,k1,k2,k3,k4,k5,kf⟩:=six_cells hz
    refine bodyPost_ret (v:=.tuple #[.agg cC0,.bool false]) ?_ rfl ?_
    ·simp [results,Tryz.f18,go_sem,k0,k1,k2,k3,k4,k5]
    ·exact ⟨_,by rw [HRes.out],by rw [HRes.out];exact CO.no _ _,hE⟩
   ·have HEK:=Lib.hid hek
    clear hek d0 d1 d2 d3 d4 d5 df
    go_wp2_with fail
    go_roundg (l.length - (k+1))
    case measure=>have:=HK.out;omega
    case rel=>
     refine ⟨k+1,by omega,rfl,by go_num,fun j hj hjk=>?_,HW2.out⟩
     by_cases e:j=k
     ·subst e;exact HEK.out
     ·exact HG.out j hj (by omega)
  ·exfalso
   have hkl:k=l.length:=by omega
   have:l.all entryOk=true:=by
    rw [List.all_eq_true]
    intro x hx
    obtain ⟨j,hj,rfl⟩:=List.getElem_of_mem hx
    exact HG.out j hj (by omega)
   have h9:=HALL.out
   rw [this] at h9;cases h9
open Go.RowKit
abbrev put6 (W:World) (b:Nat) (v0 v1 v2 v3 v4 v5:Value):World:=
 (((((W.setCell ⟨b,0,none⟩ v0).setCell ⟨b,1,none⟩ v1).setCell ⟨b,2,none⟩ v2).setCell ⟨b,3,none⟩ v3).setCell ⟨b,4,none⟩ v4).setCell ⟨b,5,none⟩ v5
theorem put6_at {W:World} {b:Nat} {a0 a1 a2 a3 a4 a5:Value} {ty:TypeId} (v0 v1 v2 v3 v4 v5:Value) (h:W.heap[b]?=some (.cells #[a0,a1,a2,a3,a4,a5] ty (0,0))):(put6 W b v0 v1 v2 v3 v4 v5).heap[b]?=some (.cells #[v0,v1,v2,v3,v4,v5] ty (0,0)):=
 set_at (set_at (set_at (set_at (set_at (set_at h)))))
theorem put6_far {W:World} {b k:Nat} (v0 v1 v2 v3 v4 v5:Value) (h:k≠b):(put6 W b v0 v1 v2 v3 v4 v5).heap[k]?=W.heap[k]?:=
 (setx h).trans ((setx h).trans ((setx h).trans ((setx h).trans ((setx h).trans (setx h)))))
theorem put6_below {B:Nat} {w0 W:World} {b:Nat} (v0 v1 v2 v3 v4 v5:Value) (h:Below B w0 W) (hB:B≤b):Below B w0 (put6 W b v0 v1 v2 v3 v4 v5):=(((((h.setCell hB _).setCell hB _).setCell hB _).setCell hB _).setCell hB _).setCell hB _
theorem put6_size (W:World) (b:Nat) (v0 v1 v2 v3 v4 v5:Value):(put6 W b v0 v1 v2 v3 v4 v5).heap.size=W.heap.size:=by simp only [put6,setsz]
set_option maxRecDepth 100000 in
set_option maxHeartbeats 4000000 in
theorem clientHear_far (c:Client) (v:Value) (frm:Int) (A:Option Addr) (cap:Nat) (l:List Entry) (w:World) (ht:Tab w) (h:CV w c v) (hr:Rd w A cap l) (hok:clientOk c=true) (hf0:¬frm<0) (hf1:¬40<frm) (hall:∀ x∈l,entryOk x=true) (hfar:c.seen<frm∨40 - frm<l.length) :
  Calls Tryz.prog 18 #[v,.int .i64 frm,.slice A l.length cap] w fun r w'=>∃ v',r=.returned (.tuple #[v',.bool (clientHear c frm l).2])∧CO w' w.heap.size (clientHear c frm l).1 v'∧Ext w w':=by
 have HALL:=Lib.hid hall;have HOK:=Lib.hid hok
 have hres:clientHear c frm l=(c,false):=by
  have:l.all entryOk=true:=List.all_eq_true.2 hall
  unfold clientHear;rw [if_neg (by rw [hok];simp;omega),if_neg (by rw [this];simp),if_pos hfar]
 have HRes:=Lib.hid hres
 clear hall hres
 obtain ⟨A1,n1,A2,n2,rfl,h1,h2⟩:=h
 have hll:l.length≤maxLen:=Nat.le_trans hr.1 hr.2.1
 unfold maxLen at hll
 have H1:=Lib.hid h1;have H2:=Lib.hid h2;have HT:=Lib.hid ht;have HR:=Lib.hid hr
 have hX:=two_new w (oC c A1 n1 A2 n2) oC0
 have hE0:Ext w ((w.alloc (oC c A1 n1 A2 n2)).alloc oC0):=((Below.refl _ w).alloc (Nat.le_refl _) _).alloc (by rw [alloc_sz];omega) _
 have hs0:((w.alloc (oC c A1 n1 A2 n2)).alloc oC0).heap.size=w.heap.size+2:=by rw [alloc_sz,alloc_sz]
 have HC:=Lib.hid (clientOk_c c _ ((w.alloc (oC c A1 n1 A2 n2)).alloc oC0) ((ht.alloc _).alloc _) ⟨A1,n1,A2,n2,rfl,(h1.alloc _).alloc _,(h2.alloc _).alloc _⟩)
 have hno:∀ W:World,Ext ((w.alloc (oC c A1 n1 A2 n2)).alloc oC0) W→Ext w W∧W.heap[w.heap.size]?=some (.cells (cC c A1 n1 A2 n2) 26 (0,0))∧W.heap[w.heap.size+1]?=some (.cells cC0 26 (0,0)):=fun W hW=>
  ⟨hE0.trans (hW.mono (by rw [hs0];omega)),(hW.block _ (by rw [hs0];omega)).trans hX.1,(hW.block _ (by rw [hs0];omega)).trans hX.2⟩
 have HNO:=Lib.hid hno
 clear h1 h2 ht hr hX hE0 hs0 hno
 go_enter Tryz.func18,Tryz.ntmps18
 go_wp2_with fail
 refine HC.out.mono ?_
 rintro e w1 ⟨rfl,hb1⟩
 obtain ⟨hE1,hx1,hy1⟩:=HNO.out w1 hb1
 obtain ⟨c0,c1,c2,c3,c4,c5,cf⟩:=six_cells hx1
 obtain ⟨d0,d1,d2,d3,d4,d5,df⟩:=six_cells hy1
 have HB1:=Lib.hid hb1;have HX1:=Lib.hid hx1;have HY1:=Lib.hid hy1;have HE1:=Lib.hid hE1
 clear hb1 hx1 hy1 hE1 HC
 rw [hok]
 clear hok
 go_wp2_with fail
 clear c0 c1 c2 c3 c4 c5 cf d0 d1 d2 d3 d4 d5 df
 go_loopg [29] l.length (fun gk i wr=>∃ k:Nat,k≤l.length∧Hid (gk=l.length - k)∧i=.int .i64 k∧Hid (∀ j (hj:j<l.length),j<k→entryOk l[j]=true)∧Hid (Ext ((w.alloc (oC c A1 n1 A2 n2)).alloc oC0) wr))
 case atStart=>exact ⟨0,Nat.zero_le _,rfl,rfl,fun j _ h=>by omega,HB1.out⟩
 case round=>
  obtain ⟨k,hk,HK,rfl,HG,HW⟩:=hrel
  obtain ⟨hEx,hxr,hyr⟩:=HNO.out _ HW.out
  have HEX:=Lib.hid hEx;have HXR:=Lib.hid hxr;have HYR:=Lib.hid hyr
  have hgt:w.heap.size+1<wr.heap.size:=blk_lt hyr
  clear hxr hyr
  by_cases hlt:k<l.length
  ·obtain ⟨b,off,rfl,hbl,e0,e1,e2,e3,e4,e5,e6⟩:=ent_at (HR.out.ext hEx) k hlt
   have hbx:=World.alloc_heap_new wr (oN l[k])
   have hC:=entryOk_c l[k] (wr.alloc (oN l[k])) ((HT.out.below hEx HT.out.pos).alloc _) (HR.out.okAt k hlt)
   rw [HALL.out l[k] (List.getElem_mem hlt)] at hC
   have hC:=Lib.hid hC
   clear hEx
   go_wp2_with fail
   refine hC.out.mono ?_
   rintro e w2 ⟨rfl,hb2⟩
   have hW2:=HW.out.trans (((Below.refl _ wr).alloc HW.out.size _).trans (hb2.mono (Nat.le_trans HW.out.size (Nat.le_trans (Nat.le_succ _) (Nat.le_of_eq (alloc_sz _ _).symm)))))
   obtain ⟨hE2,hx2,hy2⟩:=HNO.out _ hW2
   have HW2:=Lib.hid hW2;have HE2:=Lib.hid hE2;have HY2:=Lib.hid hy2
   obtain ⟨d0,d1,d2,d3,d4,d5,df⟩:=six_cells hy2
   clear hbx hb2 hC hW2 hE2 hx2 hy2
   ·go_wp2_with fail
    go_roundg (l.length - (k+1))
    case measure=>have:=HK.out;omega
    case rel=>exact ⟨k+1,by omega,rfl,by go_num,fun j hj hjk=>HALL.out _ (List.getElem_mem hj),HW2.out⟩
  ·have hkl:k=l.length:=by omega
   obtain ⟨hw9,hs0,hs40,htr,hd0,hd1,hwl,hm0,hm1,hwt⟩:=clientOk_parts HOK.out
   have hbl:=treeOk_len htr
   have HTR:=Lib.hid htr
   obtain ⟨c0,c1,c2,c3,c4,c5,cf⟩:=six_cells HXR.out
   obtain ⟨d0,d1,d2,d3,d4,d5,df⟩:=six_cells HYR.out
   have HCP:=Lib.hid (copyClient_c c _ wr ⟨A1,n1,A2,n2,rfl,H1.out.ext hEx,H2.out.ext hEx⟩ (by omega) (by omega))
   clear hwt hw9 htr hEx HG HK
   go_wp2_with fail
   refine HCP.out.mono ?_
   rintro e w3 ⟨v3,rfl,⟨A5,n5,A6,n6,rfl,ho5,ho6⟩,hb3⟩
   have hx3:=(hb3.block w.heap.size (by omega)).trans HXR.out
   have hy3:=(hb3.block (w.heap.size+1) hgt).trans HYR.out
   have hs3:=hb3.size
   clear c0 c1 c2 c3 c4 c5 cf d0 d1 d2 d3 d4 d5 df
   obtain ⟨c0,c1,c2,c3,c4,c5,cf⟩:=six_cells hx3
   obtain ⟨d0,d1,d2,d3,d4,d5,df⟩:=six_cells hy3
   have HX3:=Lib.hid hx3;have HY3:=Lib.hid hy3;have HO5:=Lib.hid ho5;have HO6:=Lib.hid ho6;have HB3:=Lib.hid hb3
   clear hx3 hy3 ho5 ho6 hb3 HCP
   go_wp2_with fail
   all_goals
    have hz:=put6_at (W:=put6 w3 w.heap.size (.int .i64 c.who) (.int .i64 c.seen) (.slice A5 c.base.length n5) (.slice A6 c.wait.length n6) (.int .i64 c.done) (.int .i64 c.made)) (b:=w.heap.size+1) (.int .i64 c.who) (.int .i64 c.seen) (.slice A5 c.base.length n5) (.slice A6 c.wait.length n6) (.int .i64 c.done) (.int .i64 c.made) ((put6_far _ _ _ _ _ _ (by omega)).trans HY3.out)
    obtain ⟨k0,k1,k2,k3,k4,k5,kf⟩:=six_cells hz
    refine bodyPost_ret (v:=.tuple #[.agg (cC c A5 n5 A6 n6),.bool false]) ?_ rfl ?_
    ·simp [results,Tryz.f18,go_sem,k0,k1,k2,k3,k4,k5]
    ·refine ⟨_,by rw [HRes.out],?_,put6_below _ _ _ _ _ _ (put6_below _ _ _ _ _ _ (HEX.out.trans (HB3.out.mono HEX.out.size)) (Nat.le_refl _)) (Nat.le_succ _)⟩
     rw [HRes.out]
     refine CO.lower (base:=wr.heap.size) ⟨_,_,_,_,rfl,HO5.out.of_blocks (fun k hk _=>(put6_far _ _ _ _ _ _ (by omega)).trans (put6_far _ _ _ _ _ _ (by omega))),HO6.out.of_blocks (fun k hk _=>(put6_far _ _ _ _ _ _ (by omega)).trans (put6_far _ _ _ _ _ _ (by omega)))⟩ HEX.out.size
open Go.RowKit
def fromA (A:Option Addr) (cap k s:Nat):Option Addr:=if cap=k then A else A.map (·.add (k*s))
theorem Rd.from_ {α:Type} [Flat α] {w:World} {A:Option Addr} {c:Nat} {l:List α} (h:Rd w A c l) (k:Nat) (hk:k≤l.length):Rd w (fromA A c k (Flat.sz α)) (c - k) (l.drop k):=by
 unfold fromA
 by_cases e:c=k
 ·rw [if_pos e]
  have:=h.1
  exact ⟨by simp;omega,by have:=h.2.1;omega,fun h0=>by simp at h0;omega,fun x hx=>h.2.2.2 x (List.mem_of_mem_drop hx)⟩
 ·rw [if_neg e]
  refine ⟨by simp;have:=h.1;omega,by have:=h.2.1;omega,fun h0=>?_,fun x hx=>h.2.2.2 x (List.mem_of_mem_drop hx)⟩
  simp only [List.length_drop] at h0
  obtain ⟨b,off,rfl,hh⟩:=h.2.2.1 (by omega)
  refine ⟨b,off+k*Flat.sz α,by simp [Addr.add],fun j v hv=>?_⟩
  rw [flat_drop,List.getElem?_drop] at hv
  rw [Nat.add_assoc]
  exact hh _ v hv
theorem run_from (A:Option Addr) (n c k:Nat) (hk:k≤n) (w:World):(Instr.slice 24 (.slice A n c) (some (.int .i64 k)) none none).run Tryz.prog w=.ok (.slice (fromA A c k 7) (n - k) (c - k)) w:=by
 have hu:Tryz.prog.underlying 24=some (.slice (Tryz.prog.elem 24)):=by kernel_rfl
 rw [run_slice_l w _ A n c hu .i64 k (by omega) (by omega)]
 have hs:(sizeOf (Tryz.prog.elem 24)).run Tryz.prog w=.ok 7 w:=by kernel_rfl
 rw [hs]
 rfl
theorem own_ne {α:Type} [Flat α] {e:TypeId} {w:World} {base:Nat} {v:Value} {l:List α} (h:Own e w base v l) {b:Nat} {cs:Array Value} {ty:TypeId} {m:Nat × Nat} (hb:w.heap[b]?=some (.cells cs ty m)) (ht:ty≠e):v.ownBlock=none∨v.ownBlock≠some b:=by
 rcases h.1.2 with ⟨h9,_⟩ | ⟨g9,cap9,cur9,h9,_,h8,_⟩
 ·rw [h9];exact .inl rfl
 ·rw [h9]
  refine .inr fun e9=>?_
  simp only [Value.ownBlock,Option.some.injEq] at e9
  rw [e9,hb] at h8
  injection h8 with h8;injection h8 with _ h8
  exact absurd h8 ht
theorem gset_any (w:World) (b i:Nat) (v:Value):w.grownBy (w.setCell ⟨b,i,none⟩ v) (some b):=gset ⟨rfl,rfl,rfl,Nat.le_refl _,fun _ _ _=>rfl⟩ i v
theorem own_put {α:Type} [Flat α] {e:TypeId} {w:World} {base:Nat} {v:Value} {l:List α} (h:Own e w base v l) {b:Nat} {cs:Array Value} {ty:TypeId} {m:Nat × Nat} (hb:w.heap[b]?=some (.cells cs ty m)) (ht:ty≠e) (i:Nat) (x:Value):Own e (w.setCell ⟨b,i,none⟩ x) base v l:=
 h.grown (gset_any w b _ _) (own_ne h hb ht)
theorem own_put6 {α:Type} [Flat α] {e:TypeId} {w:World} {base:Nat} {v:Value} {l:List α} (h:Own e w base v l) {b:Nat} {a0 a1 a2 a3 a4 a5:Value} {ty:TypeId} (hb:w.heap[b]?=some (.cells #[a0,a1,a2,a3,a4,a5] ty (0,0))) (ht:ty≠e) (v0 v1 v2 v3 v4 v5:Value):Own e (put6 w b v0 v1 v2 v3 v4 v5) base v l:=
 own_put (own_put (own_put (own_put (own_put (own_put h hb ht _ _) (set_at hb) ht _ _) (set_at (set_at hb)) ht _ _) (set_at (set_at (set_at hb))) ht _ _) (set_at (set_at (set_at (set_at hb)))) ht _ _) (set_at (set_at (set_at (set_at (set_at hb))))) ht _ _
theorem Page.grown {w w':World} {n0 p:Nat} {t:List Row} (h:Page w n0 p t) {b:Nat} (hg:w.grownBy w' (some b)) {cs:Array Value} {ty:TypeId} {m:Nat × Nat} (hb:w.heap[b]?=some (.cells cs ty m)) (ht:ty≠46) (hp:p≠b):Page w' n0 p t:=by
 obtain ⟨v,h1,h2⟩:=h
 exact ⟨v,(hg.block p h1.lt (fun e=>hp (by injection e))).trans h1,h2.grown hg (own_ne h2 hb ht)⟩
def Hst (W0 W:World) (n0 b p r:Nat) (c:Client) (s1 s2:Value) (q:List Entry) (t:List Row) (d n:Int):Prop:=
 W.heap[b]?=some (.cells #[.int .i64 c.who,.int .i64 n,s1,s2,.int .i64 d,.int .i64 c.made] 26 (0,0))∧Page W n0 p t∧(∃ h f,Ring W r h f q)∧Ext W0 W
theorem Hst.ext {W0 W W':World} {n0 b p r:Nat} {c:Client} {s1 s2:Value} {q:List Entry} {t:List Row} {d n:Int} (h:Hst W0 W n0 b p r c s1 s2 q t d n) (hb:Ext W W'):Hst W0 W' n0 b p r c s1 s2 q t d n:=by
 obtain ⟨h1,h2,⟨hh,f,h3⟩,h4⟩:=h
 exact ⟨(hb.block b (blk_lt h1)).trans h1,h2.ext hb,⟨hh,f,h3.ext hb⟩,h4.trans (hb.mono h4.size)⟩
theorem Hst.pop {W0 W W':World} {n0 b p r:Nat} {c:Client} {s1 s2:Value} {q q':List Entry} {t:List Row} {d n:Int} (h:Hst W0 W n0 b p r c s1 s2 q t d n) (hg:W.grownBy W' (some r)) (hr:∃ h f,Ring W' r h f q') (hbr:b≠r) (hpr:p≠r) (h0:W0.heap.size≤r):Hst W0 W' n0 b p r c s1 s2 q' t d n:=by
 obtain ⟨h1,h2,⟨hh,f,h3⟩,h4⟩:=h
 obtain ⟨cs,hcs⟩:=rowIs_blk h3.row
 exact ⟨(hg.block b (blk_lt h1) (fun e=>hbr (by injection e))).trans h1,h2.grown hg hcs (by decide) hpr,hr,ext_grown h4 hg h4.size (fun k e=>by injection e with e;omega)⟩
theorem Hst.done {W0 W:World} {n0 b p r:Nat} {c:Client} {s1 s2:Value} {q:List Entry} {t:List Row} {d n d':Int} (h:Hst W0 W n0 b p r c s1 s2 q t d n) (hbr:r≠b) (hpr:p≠b) (h0:W0.heap.size≤b):Hst W0 (W.setCell ⟨b,4,none⟩ (.int .i64 d')) n0 b p r c s1 s2 q t d' n:=by
 obtain ⟨h1,h2,⟨hh,f,h3⟩,h4⟩:=h
 exact ⟨set_at h1,h2.grown (gset_any W b _ _) h1 (by decide) hpr,⟨hh,f,h3.of_block (setx hbr)⟩,h4.setCell h0 _⟩
theorem Hst.seen {W0 W:World} {n0 b p r:Nat} {c:Client} {s1 s2:Value} {q:List Entry} {t:List Row} {d n n':Int} (h:Hst W0 W n0 b p r c s1 s2 q t d n) (hbr:r≠b) (hpr:p≠b) (h0:W0.heap.size≤b):Hst W0 (W.setCell ⟨b,1,none⟩ (.int .i64 n')) n0 b p r c s1 s2 q t d n':=by
 obtain ⟨h1,h2,⟨hh,f,h3⟩,h4⟩:=h
 exact ⟨set_at h1,h2.grown (gset_any W b _ _) h1 (by decide) hpr,⟨hh,f,h3.of_block (setx hbr)⟩,h4.setCell h0 _⟩
theorem Hst.page {W0 W W':World} {n0 b p r:Nat} {c:Client} {s1 s2:Value} {q:List Entry} {t t':List Row} {d n:Int} (h:Hst W0 W n0 b p r c s1 s2 q t d n) (hg:W.grownBy W' (some p)) (hp:Page W' n0 p t') (hbp:b≠p) (hpr:r≠p) (h0:W0.heap.size≤p):Hst W0 W' n0 b p r c s1 s2 q t' d n:=by
 obtain ⟨h1,h2,⟨hh,f,h3⟩,h4⟩:=h
 exact ⟨(hg.block b (blk_lt h1) (fun e=>hbp (by injection e))).trans h1,hp,⟨hh,f,h3.of_block (hg.block r h3.row.lt (fun e=>hpr (by injection e)))⟩,ext_grown h4 hg h4.size (fun k e=>by injection e with e;omega)⟩
set_option maxRecDepth 100000 in
set_option maxHeartbeats 4000000 in
theorem clientHear_go (c:Client) (v:Value) (frm:Int) (A:Option Addr) (cap:Nat) (l:List Entry) (w:World) (ht:Tab w) (h:CV w c v) (hr:Rd w A cap l) (hok:clientOk c=true) (hf0:¬frm<0) (hf1:¬40<frm) (hall:∀ x∈l,entryOk x=true) (hn1:¬c.seen<frm) (hn2:¬40 - frm<l.length) :
  Calls Tryz.prog 18 #[v,.int .i64 frm,.slice A l.length cap] w fun r w'=>∃ v',r=.returned (.tuple #[v',.bool (clientHear c frm l).2])∧CO w' w.heap.size (clientHear c frm l).1 v'∧Ext w w':=by
 have HALL:=Lib.hid hall;have HOK:=Lib.hid hok
 have hres:clientHear c frm l=(match hearL c.who (l.drop (min (c.seen - frm) l.length).toNat) c.wait c.base c.done c.seen with | none=>(c,false) | some (q,t,d,n)=>(⟨c.who,n,t,q,d,c.made⟩,true)):=by
  have:l.all entryOk=true:=List.all_eq_true.2 hall
  unfold clientHear;rw [if_neg (by rw [hok];simp;omega),if_neg (by rw [this];simp),if_neg (by omega)]
  try rfl
 have HRes:=Lib.hid hres
 clear hall hres
 obtain ⟨A1,n1,A2,n2,rfl,h1,h2⟩:=h
 have hll:l.length≤maxLen:=Nat.le_trans hr.1 hr.2.1
 unfold maxLen at hll
 have H1:=Lib.hid h1;have H2:=Lib.hid h2;have HT:=Lib.hid ht;have HR:=Lib.hid hr
 have hX:=two_new w (oC c A1 n1 A2 n2) oC0
 have hE0:Ext w ((w.alloc (oC c A1 n1 A2 n2)).alloc oC0):=((Below.refl _ w).alloc (Nat.le_refl _) _).alloc (by rw [alloc_sz];omega) _
 have hs0:((w.alloc (oC c A1 n1 A2 n2)).alloc oC0).heap.size=w.heap.size+2:=by rw [alloc_sz,alloc_sz]
 have HC:=Lib.hid (clientOk_c c _ ((w.alloc (oC c A1 n1 A2 n2)).alloc oC0) ((ht.alloc _).alloc _) ⟨A1,n1,A2,n2,rfl,(h1.alloc _).alloc _,(h2.alloc _).alloc _⟩)
 have hno:∀ W:World,Ext ((w.alloc (oC c A1 n1 A2 n2)).alloc oC0) W→Ext w W∧W.heap[w.heap.size]?=some (.cells (cC c A1 n1 A2 n2) 26 (0,0))∧W.heap[w.heap.size+1]?=some (.cells cC0 26 (0,0)):=fun W hW=>
  ⟨hE0.trans (hW.mono (by rw [hs0];omega)),(hW.block _ (by rw [hs0];omega)).trans hX.1,(hW.block _ (by rw [hs0];omega)).trans hX.2⟩
 have HNO:=Lib.hid hno
 clear h1 h2 ht hr hX hE0 hs0 hno
 go_enter Tryz.func18,Tryz.ntmps18
 go_wp2_with fail
 refine HC.out.mono ?_
 rintro e w1 ⟨rfl,hb1⟩
 obtain ⟨hE1,hx1,hy1⟩:=HNO.out w1 hb1
 obtain ⟨c0,c1,c2,c3,c4,c5,cf⟩:=six_cells hx1
 obtain ⟨d0,d1,d2,d3,d4,d5,df⟩:=six_cells hy1
 have HB1:=Lib.hid hb1;have HX1:=Lib.hid hx1;have HY1:=Lib.hid hy1;have HE1:=Lib.hid hE1
 clear hb1 hx1 hy1 hE1 HC
 rw [hok]
 clear hok
 go_wp2_with fail
 clear c0 c1 c2 c3 c4 c5 cf d0 d1 d2 d3 d4 d5 df
 go_loopg [29] l.length (fun gk i wr=>∃ k:Nat,k≤l.length∧Hid (gk=l.length - k)∧i=.int .i64 k∧Hid (∀ j (hj:j<l.length),j<k→entryOk l[j]=true)∧Hid (Ext ((w.alloc (oC c A1 n1 A2 n2)).alloc oC0) wr))
 case atStart=>exact ⟨0,Nat.zero_le _,rfl,rfl,fun j _ h=>by omega,HB1.out⟩
 case round=>
  obtain ⟨k,hk,HK,rfl,HG,HW⟩:=hrel
  obtain ⟨hEx,hxr,hyr⟩:=HNO.out _ HW.out
  have HEX:=Lib.hid hEx;have HXR:=Lib.hid hxr;have HYR:=Lib.hid hyr
  have hgt:w.heap.size+1<wr.heap.size:=blk_lt hyr
  clear hxr hyr
  by_cases hlt:k<l.length
  ·obtain ⟨b,off,rfl,hbl,e0,e1,e2,e3,e4,e5,e6⟩:=ent_at (HR.out.ext hEx) k hlt
   have hbx:=World.alloc_heap_new wr (oN l[k])
   have hC:=entryOk_c l[k] (wr.alloc (oN l[k])) ((HT.out.below hEx HT.out.pos).alloc _) (HR.out.okAt k hlt)
   rw [HALL.out l[k] (List.getElem_mem hlt)] at hC
   have hC:=Lib.hid hC
   clear hEx
   go_wp2_with fail
   refine hC.out.mono ?_
   rintro e w2 ⟨rfl,hb2⟩
   have hW2:=HW.out.trans (((Below.refl _ wr).alloc HW.out.size _).trans (hb2.mono (Nat.le_trans HW.out.size (Nat.le_trans (Nat.le_succ _) (Nat.le_of_eq (alloc_sz _ _).symm)))))
   obtain ⟨hE2,hx2,hy2⟩:=HNO.out _ hW2
   have HW2:=Lib.hid hW2;have HE2:=Lib.hid hE2;have HY2:=Lib.hid hy2
   obtain ⟨d0,d1,d2,d3,d4,d5,df⟩:=six_cells hy2
   clear hbx hb2 hC hW2 hE2 hx2 hy2
   ·go_wp2_with fail
    go_roundg (l.length - (k+1))
    case measure=>have:=HK.out;omega
    case rel=>exact ⟨k+1,by omega,rfl,by go_num,fun j hj hjk=>HALL.out _ (List.getElem_mem hj),HW2.out⟩
  ·have hkl:k=l.length:=by omega
   obtain ⟨hw9,hs0,hs40,htr,hd0,hd1,hwl,hm0,hm1,hwt⟩:=clientOk_parts HOK.out
   have hbl:=treeOk_len htr
   have HTR:=Lib.hid htr
   obtain ⟨c0,c1,c2,c3,c4,c5,cf⟩:=six_cells HXR.out
   obtain ⟨d0,d1,d2,d3,d4,d5,df⟩:=six_cells HYR.out
   have HCP:=Lib.hid (copyClient_c c _ wr ⟨A1,n1,A2,n2,rfl,H1.out.ext hEx,H2.out.ext hEx⟩ (by omega) (by omega))
   clear hwt hw9 htr hEx HG HK
   go_wp2_with fail
   refine HCP.out.mono ?_
   rintro e w3 ⟨v3,rfl,⟨A5,n5,A6,n6,rfl,ho5,ho6⟩,hb3⟩
   have hx3:=(hb3.block w.heap.size (by omega)).trans HXR.out
   have hy3:=(hb3.block (w.heap.size+1) hgt).trans HYR.out
   have hs3:=hb3.size
   clear c0 c1 c2 c3 c4 c5 cf d0 d1 d2 d3 d4 d5 df
   obtain ⟨c0,c1,c2,c3,c4,c5,cf⟩:=six_cells hx3
   obtain ⟨d0,d1,d2,d3,d4,d5,df⟩:=six_cells hy3
   have HX3:=Lib.hid hx3;have HY3:=Lib.hid hy3;have HO5:=Lib.hid ho5;have HO6:=Lib.hid ho6;have HB3:=Lib.hid hb3
   clear hx3 hy3 ho5 ho6 hb3 HCP
   dsimp only
   iterate 6 (try go_step)
   clear c0 c1 c2 c3 c4 c5 cf d0 d1 d2 d3 d4 d5 df
   generalize hW1:(((((w3.setCell ⟨w.heap.size,0,none⟩ (.int .i64 c.who)).setCell ⟨w.heap.size,1,none⟩ (.int .i64 c.seen)).setCell ⟨w.heap.size,2,none⟩ (.slice A5 c.base.length n5)).setCell ⟨w.heap.size,3,none⟩ (.slice A6 c.wait.length n6)).setCell ⟨w.heap.size,4,none⟩ (.int .i64 c.done)).setCell ⟨w.heap.size,5,none⟩ (.int .i64 c.made)=W1
   have hsz1:W1.heap.size=w3.heap.size:=by rw [←hW1];exact put6_size _ _ _ _ _ _ _ _
   have hx4:W1.heap[w.heap.size]?=some (.cells (cC c A5 n5 A6 n6) 26 (0,0)):=by rw [←hW1];exact put6_at _ _ _ _ _ _ HX3.out
   have hy4:W1.heap[w.heap.size+1]?=some (.cells cC0 26 (0,0)):=by rw [←hW1];exact (put6_far _ _ _ _ _ _ (by omega)).trans HY3.out
   have hE4:Ext w W1:=by rw [←hW1];exact put6_below _ _ _ _ _ _ (HEX.out.trans (HB3.out.mono HEX.out.size)) (Nat.le_refl _)
   have ho5:Own 46 W1 wr.heap.size (.slice A5 c.base.length n5) c.base:=by rw [←hW1];exact HO5.out.of_blocks (fun k hk _=>put6_far _ _ _ _ _ _ (by omega))
   have ho6:Own 35 W1 wr.heap.size (.slice A6 c.wait.length n6) c.wait:=by rw [←hW1];exact HO6.out.of_blocks (fun k hk _=>put6_far _ _ _ _ _ _ (by omega))
   obtain ⟨c0,c1,c2,c3,c4,c5,cf⟩:=six_cells hx4
   have HX4:=Lib.hid hx4;have HY4:=Lib.hid hy4;have HE4:=Lib.hid hE4;have HO5':=Lib.hid ho5;have HO6':=Lib.hid ho6
   have hlt4:w.heap.size<W1.heap.size:=by omega
   have HSZ1:=Lib.hid hsz1
   have hlt5:w.heap.size+1<W1.heap.size:=by omega
   clear hsz1 hx4 hy4 hE4 ho5 ho6 hW1 HX3 HY3 HO5 HO6 HB3 HXR HYR
   go_wp2_with fail
   obtain ⟨A8,n8,e8,hr6⟩:=HO6'.out.rd
   cases e8
   have hX2:=two_new W1 (oC c A5 n5 A6 n6) (.cells #[.slice A5 c.base.length n5] 79)
   refine (ringOf_c A6 n6 c.wait _ ((hr6.alloc _).alloc _) (by omega)).mono ?_
   rintro e w5 ⟨rb,f5,rfl,hring,hrb,hb5⟩
   have hx5:=(hb5.block W1.heap.size (by rw [alloc_sz,alloc_sz];omega)).trans hX2.1
   have hy5:=(hb5.block (W1.heap.size+1) (by rw [alloc_sz,alloc_sz];omega)).trans hX2.2
   have hs5:=hb5.size
   rw [alloc_sz,alloc_sz] at hs5 hrb
   have hE5:Ext W1 w5:=((Below.refl _ W1).alloc (Nat.le_refl _) _).trans ((((Below.refl _ _).alloc (Nat.le_refl _) _).mono (by rw [alloc_sz];omega)).trans (hb5.mono (by rw [alloc_sz,alloc_sz];omega)))
   have z5:=(hE5.block w.heap.size hlt4).trans HX4.out
   clear c0 c1 c2 c3 c4 c5 cf
   obtain ⟨c0,c1,c2,c3,c4,c5,cf⟩:=six_cells z5
   have HX5:=Lib.hid hx5;have HY5:=Lib.hid hy5;have HE5:=Lib.hid hE5;have HRING:=Lib.hid hring
   clear hX2 hr6 hx5 hy5 hb5 hE5 z5 hring
   obtain ⟨k0,hk0⟩:∃ k0:Nat,min (c.seen - frm) (l.length:Int)=(k0:Int):=⟨(min (c.seen - frm) (l.length:Int)).toNat,by omega⟩
   have hk0l:k0≤l.length:=by omega
   have hcapl:=HR.out.1
   have hk0':k0≤40:=by omega
   obtain ⟨L,hL⟩:∃ L,L=l.drop k0:=⟨_,rfl⟩
   have hLl:l.length - k0=L.length:=by rw [hL,List.length_drop]
   have hrL:Rd w (fromA A cap k0 7) (cap - k0) L:=by rw [hL];exact HR.out.from_ k0 hk0l
   have hallL:∀ x∈L,entryOk x=true:=fun x hx=>HALL.out x (by rw [hL] at hx;exact List.mem_of_mem_drop hx)
   have hres:clientHear c frm l=(match hearL c.who L c.wait c.base c.done c.seen with | none=>(c,false) | some (q,t,d,n)=>(⟨c.who,n,t,q,d,c.made⟩,true)):=by
    rw [HRes.out,hk0,hL];rfl
   have hLm:L.length≤40:=by omega
   have hsl:=fun (W:World)=>run_from A l.length cap k0 hk0l W
   simp only [hLl] at hsl
   generalize fromA A cap k0 7=A7 at hsl hrL
   generalize cap - k0=n7 at hsl hrL
   have HRL:=Lib.hid hrL;have HALLL:=Lib.hid hallL;have HRES:=Lib.hid hres
   have hst:Hst W1 w5 wr.heap.size W1.heap.size (W1.heap.size+1) rb c (.slice A5 c.base.length n5) (.slice A6 c.wait.length n6) c.wait c.base c.done c.seen:=⟨HX5.out,⟨_,HY5.out,HO5'.out.below HE5.out⟩,⟨_,_,HRING.out⟩,HE5.out⟩
   have HST:=Lib.hid hst
   have hwW:wr.heap.size≤W1.heap.size:=by rw [HSZ1.out];exact hs3
   clear hrL hallL hres hst hL hLl HRes hs3 HW HB1 HX1 HY1 HE1 HNO H1 H2 HX5 HY5 HE5 HRING HSZ1 HTR
   go_wp2_with fail
   clear c0 c1 c2 c3 c4 c5 cf hsl
   obtain ⟨wo,rfl⟩:∃ wo:World,wo=wr:=⟨_,rfl⟩
   have hNE:∀ W6:World,Ext W1 W6→(put6 W6 (w.heap.size+1) (.int .i64 c.who) (.int .i64 c.seen) (.slice A5 c.base.length n5) (.slice A6 c.wait.length n6) (.int .i64 c.done) (.int .i64 c.made)).heap[w.heap.size+1]?=some (.cells (cC c A5 n5 A6 n6) 26 (0,0)) ∧
     CO (put6 W6 (w.heap.size+1) (.int .i64 c.who) (.int .i64 c.seen) (.slice A5 c.base.length n5) (.slice A6 c.wait.length n6) (.int .i64 c.done) (.int .i64 c.made)) w.heap.size c (.agg (cC c A5 n5 A6 n6)) ∧
     Ext w (put6 W6 (w.heap.size+1) (.int .i64 c.who) (.int .i64 c.seen) (.slice A5 c.base.length n5) (.slice A6 c.wait.length n6) (.int .i64 c.done) (.int .i64 c.made)):=fun W6 h6=>
    ⟨put6_at _ _ _ _ _ _ ((h6.block _ hlt5).trans HY4.out),CO.lower (base:=wo.heap.size) ⟨_,_,_,_,rfl,own_put6 (HO5'.out.below h6) ((h6.block _ hlt5).trans HY4.out) (by decide) _ _ _ _ _ _,own_put6 (HO6'.out.below h6) ((h6.block _ hlt5).trans HY4.out) (by decide) _ _ _ _ _ _⟩ (by omega),put6_below _ _ _ _ _ _ (HE4.out.trans (h6.mono HE4.out.size)) (Nat.le_succ _)⟩
   have HNE:=Lib.hid hNE
   clear hNE
   go_loopg [70] L.length (fun gk i wr=>∃ (k:Nat) (q:List Entry) (t:List Row) (d:Int),k≤L.length∧Hid (gk=L.length - k)∧i=.int .i64 k∧Hid (Hst W1 wr wo.heap.size W1.heap.size (W1.heap.size+1) rb c (.slice A5 c.base.length n5) (.slice A6 c.wait.length n6) q t d (c.seen+k))∧Hid (hearL c.who (L.drop k) q t d (c.seen+k)=hearL c.who L c.wait c.base c.done c.seen)∧0≤d∧d≤c.done+k)
   case atStart=>exact ⟨0,c.wait,c.base,c.done,Nat.zero_le _,rfl,rfl,by show Hst _ _ _ _ _ _ _ _ _ _ _ _ _;simpa using HST.out,by show _=_;simp,hd0,by omega⟩
   case round=>
    obtain ⟨k,q,t,d,hk,HK,rfl,HS,HH,hd2,hd3⟩:=hrel
    clear HST
    have hx6:=(HS.out.2.2.2.block w.heap.size hlt4).trans HX4.out
    have hsr:=HS.out.2.2.2.size
    have hs1:=blk_lt HS.out.1
    have hlt6:w.heap.size<wr.heap.size:=by omega
    obtain ⟨c0,c1,c2,c3,c4,c5,cf⟩:=six_cells hx6
    by_cases hltk:k<L.length
    ·have hEq:Ext w wr:=HE4.out.trans (HS.out.2.2.2.mono HE4.out.size)
     obtain ⟨b,off,rfl,hbl,e0,e1,e2,e3,e4,e5,e6⟩:=ent_at (HRL.out.ext hEq) k hltk
     have hHH:=HH.out
     rw [List.drop_eq_getElem_cons hltk] at hHH
     have hbe:=World.alloc_heap_new wr (oN L[k])
     have hea:Ext wr (wr.alloc (oN L[k])):=(Below.refl _ wr).alloc (Nat.le_refl _) _
     have hSA:=HS.out.ext hea
     have hcx:(c.seen+(k:Int))+1=c.seen+((k+1:Nat):Int):=by omega
     have hek:=HRL.out.okAt k hltk
     have HBE:=Lib.hid hbe;have HSA:=Lib.hid hSA;have HHH:=Lib.hid hHH;have HEQ:=Lib.hid hEq;have HCX:=Lib.hid hcx;have HEK:=Lib.hid hek
     clear hHH hbe hea hSA hEq hcx hek hx6
     by_cases hwho:L[k].who=c.who
     ·have hwho':(L[k].who == c.who)=true:=by simp [hwho]
      cases q with
      |nil=>
       have hnone:hearL c.who L c.wait c.base c.done c.seen=none:=by rw [←HHH.out];simp [hearL,hwho]
       have HNONE:=Lib.hid hnone
       obtain ⟨hh,f,hR⟩:=HSA.out.2.2.1
       have HRI:=Lib.hid hR
       clear hwho hnone hR
       go_wp2_with fail
       refine (popIf_nil rb hh f L[k] _ HRI.out).mono ?_
       rintro e w6 ⟨rfl,hb6⟩
       have hS6:=HSA.out.ext hb6
       have hx7:=(hS6.2.2.2.block w.heap.size hlt4).trans HX4.out
       clear c0 c1 c2 c3 c4 c5 cf e0 e1 e2 e3 e4 e5 e6
       obtain ⟨c0,c1,c2,c3,c4,c5,cf⟩:=six_cells hx7
       obtain ⟨d0,d1,d2,d3,d4,d5,df⟩:=six_cells ((hS6.2.2.2.block (w.heap.size+1) hlt5).trans HY4.out)
       have HS6:=Lib.hid hS6
       clear hS6 hx7 hb6
       go_wp2_with fail
       obtain ⟨hz,hco,hE⟩:=HNE.out _ HS6.out.2.2.2
       obtain ⟨k0,k1,k2,k3,k4,k5,kf⟩:=six_cells hz
       refine bodyPost_ret (v:=.tuple #[.agg (cC c A5 n5 A6 n6),.bool false]) ?_ rfl ?_
       ·simp [results,Tryz.f18,go_sem,k0,k1,k2,k3,k4,k5]
       ·have hr9:clientHear c frm l=(c,false):=by rw [HRES.out,HNONE.out]
        exact ⟨_,by rw [hr9],by rw [hr9];exact hco,hE⟩
      |cons x q=>
       obtain ⟨hh,f,hR⟩:=HSA.out.2.2.1
       have hrl:=hR.row.lt
       rw [alloc_sz] at hrl
       have hrne:rb≠wr.heap.size:=by
        obtain ⟨h9,f9,h8⟩:=HS.out.2.2.1
        have:=h8.row.lt;omega
       have HRI:=Lib.hid hR
       by_cases hx:x=L[k]
       ·have hC:=popIf_cons rb hh f x q L[k] _ HRI.out
        simp only [hx,decide_true,↓reduceIte] at hC
        have HC:=Lib.hid hC
        have hnext:hearL c.who (L.drop (k+1)) q (opDo t L[k].op) (d+1) (c.seen+((k+1:Nat):Int))=hearL c.who L c.wait c.base c.done c.seen:=by rw [←HHH.out,←HCX.out];simp [hearL,hwho,hx]
        have HNX:=Lib.hid hnext
        clear hC hx hwho hR hnext
        go_wp2_with fail
        refine HC.out.mono ?_
        rintro e w6 ⟨rfl,hR6,hg6⟩
        have hS6:=HSA.out.pop hg6 ⟨_,hR6⟩ (by omega) (by omega) (by omega)
        have hgs:=hg6.size
        rw [alloc_sz] at hgs
        clear c0 c1 c2 c3 c4 c5 cf e0 e1 e2 e3 e4 e5 e6
        obtain ⟨c0,c1,c2,c3,c4,c5,cf⟩:=six_cells hS6.1
        have he6:=(hg6.block wr.heap.size (by rw [alloc_sz];omega) (fun e=>hrne (by injection e with e;exact e.symm))).trans HBE.out
        obtain ⟨e0,e1,e2,e3,e4,e5,e6,ef⟩:=seven_cells he6
        have HS6:=Lib.hid (hS6.done (d':=d+1) (by omega) (by omega) (Nat.le_refl _))
        have hgs2:wr.heap.size<w6.heap.size:=by omega
        have hgs3:W1.heap.size<w6.heap.size:=by omega
        clear hS6 he6 hR6 hg6
        go_wp2_with fail
        refine (pageDo_c wo.heap.size (W1.heap.size+1) t L[k] _ (HT.out.below (HE4.out.trans (HS6.out.2.2.2.mono HE4.out.size)) HT.out.pos) HS6.out.2.1 (by rw [setsz];omega) (by omega) HEK.out).mono ?_
        rintro e w8 ⟨rfl,hp8,hg8⟩
        have hS8:=HS6.out.page hg8 hp8 (by omega) (by omega) (by omega)
        clear c0 c1 c2 c3 c4 c5 cf e0 e1 e2 e3 e4 e5 e6 ef
        obtain ⟨c0,c1,c2,c3,c4,c5,cf⟩:=six_cells hS8.1
        have HS8:=Lib.hid hS8
        clear hS8 hp8 hg8
        go_wp2_with fail
        go_roundg (L.length - (k+1))
        case measure=>have:=HK.out;omega
        case rel=>
         refine ⟨k+1,q,opDo t L[k].op,d+1,by omega,rfl,by go_num,?_,HNX.out,by omega,by omega⟩
         show Hst _ _ _ _ _ _ _ _ _ _ _ _ _
         rw [←HCX.out]
         exact HS8.out.seen (by omega) (by omega) (by omega)
       ·have hnone:hearL c.who L c.wait c.base c.done c.seen=none:=by rw [←HHH.out];simp [hearL,hwho,hx]
        have HNONE:=Lib.hid hnone
        clear hwho hnone hR
        have hC:=popIf_cons rb hh f x q L[k] _ HRI.out
        simp only [hx,decide_false,↓reduceIte] at hC
        have HC:=Lib.hid hC
        clear hC hx
        go_wp2_with fail
        refine HC.out.mono ?_
        rintro e w6 ⟨rfl,hR6,hg6⟩
        have hS6:=HSA.out.pop hg6 ⟨_,_,hR6⟩ (by omega) (by omega) (by omega)
        have hx7:=(hS6.2.2.2.block w.heap.size hlt4).trans HX4.out
        clear c0 c1 c2 c3 c4 c5 cf e0 e1 e2 e3 e4 e5 e6
        obtain ⟨c0,c1,c2,c3,c4,c5,cf⟩:=six_cells hx7
        obtain ⟨d0,d1,d2,d3,d4,d5,df⟩:=six_cells ((hS6.2.2.2.block (w.heap.size+1) hlt5).trans HY4.out)
        have HS6:=Lib.hid hS6
        clear hS6 hx7 hR6 hg6
        go_wp2_with fail
        obtain ⟨hz,hco,hE⟩:=HNE.out _ HS6.out.2.2.2
        obtain ⟨k0,k1,k2,k3,k4,k5,kf⟩:=six_cells hz
        refine bodyPost_ret (v:=.tuple #[.agg (cC c A5 n5 A6 n6),.bool false]) ?_ rfl ?_
        ·simp [results,Tryz.f18,go_sem,k0,k1,k2,k3,k4,k5]
        ·have hr9:clientHear c frm l=(c,false):=by rw [HRES.out,HNONE.out]
         exact ⟨_,by rw [hr9],by rw [hr9];exact hco,hE⟩
     ·have hwho':(L[k].who == c.who)=false:=by simp [hwho]
      have hnext:hearL c.who (L.drop (k+1)) q (opDo t L[k].op) d (c.seen+((k+1:Nat):Int))=hearL c.who L c.wait c.base c.done c.seen:=by rw [←HHH.out,←HCX.out];simp [hearL,hwho]
      have HNX:=Lib.hid hnext
      clear hwho hnext
      go_wp2_with fail
      refine (pageDo_c wo.heap.size (W1.heap.size+1) t L[k] _ ((HT.out.below HEQ.out HT.out.pos).alloc _) HSA.out.2.1 (by rw [alloc_sz];omega) (by omega) HEK.out).mono ?_
      rintro e w8 ⟨rfl,hp8,hg8⟩
      have hS8:=HSA.out.page hg8 hp8 (by omega) (by omega) (by omega)
      clear c0 c1 c2 c3 c4 c5 cf e0 e1 e2 e3 e4 e5 e6
      obtain ⟨c0,c1,c2,c3,c4,c5,cf⟩:=six_cells hS8.1
      have HS8:=Lib.hid hS8
      clear hS8 hp8 hg8
      go_wp2_with fail
      go_roundg (L.length - (k+1))
      case measure=>have:=HK.out;omega
      case rel=>
       refine ⟨k+1,q,opDo t L[k].op,d,by omega,rfl,by go_num,?_,HNX.out,hd2,by omega⟩
       show Hst _ _ _ _ _ _ _ _ _ _ _ _ _
       rw [←HCX.out]
       exact HS8.out.seen (by omega) (by omega) (by omega)
    ·have hkL:k=L.length:=by omega
     obtain ⟨hpb,hpg,⟨hh,f,hR⟩,hE1⟩:=HS.out
     obtain ⟨vp,hp1,hp2⟩:=hpg
     obtain ⟨A8,n8,rfl,-⟩:=hp2.rd
     have hsome:hearL c.who L c.wait c.base c.done c.seen=some (q,t,d,c.seen+k):=by rw [←HH.out,hkL,List.drop_length];rfl
     have HSOME:=Lib.hid hsome
     clear c0 c1 c2 c3 c4 c5 cf hsome hkL
     obtain ⟨c0,c1,c2,c3,c4,c5,cf⟩:=six_cells hpb
     have cp:=hp1.cell
     have fp:=hp1.frozen
     have HPB:=Lib.hid hpb;have HP2:=Lib.hid hp2
     have hR2:Ring (wr.setCell ⟨W1.heap.size,2,none⟩ (.slice A8 t.length n8)) rb hh f q:=hR.of_block (setx (by omega))
     have HR2:=Lib.hid hR2
     have HE1:=Lib.hid hE1
     clear hpb hp2 hR hR2 hE1 hp1 hx6
     go_wp2_with fail
     refine (entries_c rb hh f q _ HR2.out).mono ?_
     rintro e w9 ⟨v9,rfl,ho9,hb9⟩
     obtain ⟨A9,n9,rfl,-⟩:=ho9.rd
     have hbs:=hb9.size
     rw [setsz] at hbs
     have hz9:=(hb9.block W1.heap.size (by rw [setsz];exact hs1)).trans (set_at HPB.out)
     clear c0 c1 c2 c3 c4 c5 cf cp fp
     obtain ⟨c0,c1,c2,c3,c4,c5,cf⟩:=six_cells (v0:=.int .i64 c.who) (v1:=.int .i64 (c.seen+k)) (v2:=.slice A8 t.length n8) (v3:=.slice A6 c.wait.length n6) (v4:=.int .i64 d) (v5:=.int .i64 c.made) hz9
     have hE9:Ext W1 w9:=(HE1.out.setCell (Nat.le_refl _) _).trans (hb9.mono (by rw [setsz];omega))
     have hy9:=(hE9.block (w.heap.size+1) hlt5).trans HY4.out
     obtain ⟨d0,d1,d2,d3,d4,d5,df⟩:=six_cells hy9
     have HO9:=Lib.hid ho9;have HB9:=Lib.hid hb9;have HZ9:=Lib.hid hz9;have HE9:=Lib.hid hE9;have HY9:=Lib.hid hy9
     have hlt7:W1.heap.size<w9.heap.size:=by omega
     have hlt8:w.heap.size+1<w9.heap.size:=by omega
     clear ho9 hb9 hz9 hE9 hy9
     go_wp2_with fail
     have hz:=put6_at (W:=w9.setCell ⟨W1.heap.size,3,none⟩ (.slice A9 q.length n9)) (b:=w.heap.size+1) (.int .i64 c.who) (.int .i64 (c.seen+k)) (.slice A8 t.length n8) (.slice A9 q.length n9) (.int .i64 d) (.int .i64 c.made) ((setx (by omega)).trans HY9.out)
     obtain ⟨k0,k1,k2,k3,k4,k5,kf⟩:=six_cells hz
     refine bodyPost_ret (v:=.tuple #[.agg #[.int .i64 c.who,.int .i64 (c.seen+k),.slice A8 t.length n8,.slice A9 q.length n9,.int .i64 d,.int .i64 c.made],.bool true]) ?_ rfl ?_
     ·simp [results,Tryz.f18,go_sem,k0,k1,k2,k3,k4,k5]
     ·have hr9:clientHear c frm l=(⟨c.who,c.seen+k,t,q,d,c.made⟩,true):=by rw [HRES.out,HSOME.out]
      refine ⟨_,by rw [hr9],?_,put6_below _ _ _ _ _ _ ((HE4.out.trans (HE9.out.mono HE4.out.size)).setCell (show w.heap.size≤W1.heap.size by omega) _) (Nat.le_succ _)⟩
      rw [hr9]
      have r1:Own 46 w9 wo.heap.size (.slice A8 t.length n8) t:=(own_put HP2.out HPB.out (by decide) _ _).below HB9.out
      have hy10:=(setx (o:=3) (v:=.slice A9 q.length n9) (b:=W1.heap.size) (by omega)).trans HY9.out
      refine CO.lower (base:=wo.heap.size) ⟨_,_,_,_,rfl,own_put6 (own_put r1 HZ9.out (by decide) _ _) hy10 (by decide) _ _ _ _ _ _,own_put6 (own_put (HO9.out.lower (by rw [setsz];omega)) HZ9.out (by decide) _ _) hy10 (by decide) _ _ _ _ _ _⟩ (by omega)
end Go.Proofs.YtecmcjfdaipfcaaGreatDoor
