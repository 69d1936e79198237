/- Walks: what a log is. .. A client in memory of its own; a client at the beginning. -/
import Derived.Test.YtecmcjfdaipfcaaGreatDoorYAA
import Derived.Deep.RegionHeld3
import Derived.Deep.LoopGhost
import Derived.Test.YtecmcjfdaipfcaaGreatDoorYAF
import Derived.RegionTactic
import Derived.Laws.StructEq
import Derived.RangeFuncBox
namespace Go.Proofs.YtecmcjfdaipfcaaGreatDoor
open Go.RowKit
theorem any_skip {P:Program} {md:Region.Mode} {ops:Array Oper} {Q:Exit→Act→World→Prop} (i:Nat) {oi:Oper} {fuel:Nat} {listed:Array Bool} {a:Act} {w:World} (hi:ops[i]?=some oi)
  (hs:Region.noSelect ops=true) (hf:Region.free md ops listed i=true) (hr:(Region.ready md ops listed).contains i=true)
  (hQ:∀ c a w,Q (.panic c) (a.put oi.dst undef) w→Q (.panic c) a w) (hw:Region.wanted oi (yielded ops a.tmps)=false)
  (h:wpAny P md ops Q fuel (listed.setIfInBounds i true) (a.put oi.dst undef) w):wpAny P md ops Q (fuel+1) listed a w:=
 wpAny_take hi hs hf hr hQ (.inr ⟨hw,rfl⟩) h
theorem entryOk_who {e:Entry} (h:entryOk e=true):1≤e.who∧e.who≤3:=by
 simp [entryOk,isWho] at h;exact h.1.1.1
set_option maxHeartbeats 1000000 in
theorem logOk_c (A:Option Addr) (c:Nat) (l:List Entry) (w:World) (ht:Tab w) (hr:Rd w A c l) :
  Calls Tryz.prog 105 #[.slice A l.length c] w fun x w'=>x=.returned (.bool (logOk l))∧Ext w w':=by
 have hm:l.length≤maxLen:=Nat.le_trans hr.1 hr.2.1
 unfold maxLen at hm
 by_cases h40:l.length≤40
 ·have HR:=Lib.hid hr;have HT:=Lib.hid ht;clear hr ht
  have hmm:=@run_makeMap Tryz.prog
  go_enter Tryz.func105,Tryz.ntmps105
  go_wp2
  go_loopg [12] l.length (fun gk i wr=>∃ k:Nat,k≤l.length∧gk=l.length - k∧i=.int .i64 k∧Hid (∀ j,j<k→goodAt l j=true)∧Hid (Tal wr w.heap.size k (fun who=>(cntW (l.take k) who:Int)))∧Hid (Below w.heap.size w wr))
  case atStart=>exact ⟨0,Nat.zero_le _,rfl,rfl,fun _ h=>by omega,(by simpa [cntW] using Tal.made w:Tal _ _ 0 _),(Below.refl _ _).alloc (Nat.le_refl _) _⟩
  case round=>
   obtain ⟨k,hk,hgk,rfl,HG,HTal,HB⟩:=hrel
   by_cases hlt:k<l.length
   ·obtain ⟨b,off,rfl,hbl,c0,c1,c2,c3,c4,c5,c6⟩:=ent_at (HR.out.ext HB.out) k hlt
    have HK:=Lib.hid hgk;clear hgk
    have hE:=entryOk_c l[k] (wr.alloc (oN l[k])).drew
     ((HT.out.below HB.out HT.out.pos).alloc _) (HR.out.okAt k hlt)
    simp only [Entry.val] at hE
    have HG1:=Lib.hid (goodAt_lt l k hlt)
    cases hok:entryOk l[k]
    ·rw [hok] at hE HG1
     have HE:=Lib.hid hE;clear hE hok
     go_wp2
     refine wp_region_any (by kernel_rfl) ?_
     change wpAny _ _ _ _ _ _ _ (World.drew _)
     refine wpAny_ready (rs:=[0]) (by kernel_rfl) (by simp) ?_
     refine AllReady.cons rfl (fun K hK=>?_) AllReady.nil
     go_simp
     refine hK _ _ ?_;clear hK K
     refine wpAny_ready (rs:=[1]) (by kernel_rfl) (by simp) ?_
     refine AllReady.cons rfl (fun K hK=>?_) AllReady.nil
     go_simp
     go_wp2_with (go_at_call 35;refine HE.out.mono ?_;rintro e w1 ⟨rfl,hb1⟩;obtain ⟨hc1,hf1⟩:=bcell hb1)
     refine wpAny_ready (rs:=[2]) (by kernel_rfl) (by simp) ?_
     refine AllReady.cons rfl (fun K hK=>?_) AllReady.nil
     go_simp
     refine hK _ _ ?_;clear hK K
     refine wpAny_ready (rs:=[3]) (by kernel_rfl) (by simp) ?_
     refine AllReady.cons rfl (fun K hK=>?_) AllReady.nil
     go_simp
     refine hK _ _ ?_;clear hK K
     refine any_skip 4 rfl (by kernel_rfl) (by kernel_rfl) (by kernel_rfl) (fun _ _ _ h=>h) (by rfl) ?_
     refine any_skip 5 rfl (by kernel_rfl) (by kernel_rfl) (by kernel_rfl) (fun _ _ _ h=>h) (by rfl) ?_
     refine any_skip 6 rfl (by kernel_rfl) (by kernel_rfl) (by kernel_rfl) (fun _ _ _ h=>h) (by rfl) ?_
     refine any_skip 7 rfl (by kernel_rfl) (by kernel_rfl) (by kernel_rfl) (fun _ _ _ h=>h) (by rfl) ?_
     refine any_skip 8 rfl (by kernel_rfl) (by kernel_rfl) (by kernel_rfl) (fun _ _ _ h=>h) (by rfl) ?_
     refine any_skip 9 rfl (by kernel_rfl) (by kernel_rfl) (by kernel_rfl) (fun _ _ _ h=>h) (by rfl) ?_
     refine any_skip 10 rfl (by kernel_rfl) (by kernel_rfl) (by kernel_rfl) (fun _ _ _ h=>h) (by rfl) ?_
     refine wpAny_ready (rs:=[11]) (by kernel_rfl) (by simp) ?_
     refine AllReady.cons rfl (fun K hK=>?_) AllReady.nil
     go_simp
     refine hK _ _ ?_;clear hK K
     refine wpAny_done (by kernel_rfl) ?_ _
     go_wp2
     go_ret
     exact ⟨by rw [logOk_false l k hlt HG1.out];rfl,ext_then HB.out (ext_boxd hb1) HB.out.size⟩
    ·have hwho:=entryOk_who hok
     rw [hok] at hE HG1
     have HE:=Lib.hid hE;clear hE hok
     have hadd:=fun (w1:World) (h:Ext (wr.alloc (oN l[k])).drew w1)=>add_c w.heap.size k (fun who=>(cntW (l.take k) who:Int)) l[k].who w1 (HTal.out.below (ext_boxd h)) (by unfold maxLen;omega) (WalkArith.wf_i64 (by omega)) (by omega) (by have:=cntW_le (l.take k) l[k].who;rw [List.length_take] at this;omega)
     have HA:=Lib.hid hadd;clear hadd
     have HW:=Lib.hid hwho;clear hwho
     have hmb:w.heap.size<wr.heap.size:=HTal.out.lt
     go_wp2
     have hcq:(((cntW (l.take k) l[k].who:Int)+1) != l[k].seq)=true∨(((cntW (l.take k) l[k].who:Int)+1) != l[k].seq)=false:=by cases (((cntW (l.take k) l[k].who:Int)+1) != l[k].seq) <;> simp
     rcases hcq with hq | hq
     all_goals
      go_region_held3 (fun w'=>w'.cell? ⟨wr.heap.size,0,none⟩=some (.int .i64 l[k].who)∧w'.cell? ⟨wr.heap.size,1,none⟩=some (.int .i64 l[k].seq)∧w'.cell? ⟨wr.heap.size,2,none⟩=some (.int .i64 l[k].op.kind)∧w'.cell? ⟨wr.heap.size,3,none⟩=some (.int .i64 l[k].op.id)∧w'.cell? ⟨wr.heap.size,4,none⟩=some (.int .i64 l[k].op.up)∧w'.cell? ⟨wr.heap.size,5,none⟩=some (.int .i64 l[k].op.pos)∧w'.cell? ⟨wr.heap.size,6,none⟩=some (.string l[k].op.text))
       (first | exact E2 | exact E1 | go_keep)
       (first
        |(go_at_call 35;refine HE.out.mono ?_;rintro e w1 ⟨rfl,hb1⟩;obtain ⟨hc1,hf1⟩:=bcell hb1
          have E1:w1.cell? ⟨wr.heap.size,0,none⟩=some (.int .i64 l[k].who)∧w1.cell? ⟨wr.heap.size,1,none⟩=some (.int .i64 l[k].seq)∧w1.cell? ⟨wr.heap.size,2,none⟩=some (.int .i64 l[k].op.kind)∧w1.cell? ⟨wr.heap.size,3,none⟩=some (.int .i64 l[k].op.id)∧w1.cell? ⟨wr.heap.size,4,none⟩=some (.int .i64 l[k].op.up)∧w1.cell? ⟨wr.heap.size,5,none⟩=some (.int .i64 l[k].op.pos)∧w1.cell? ⟨wr.heap.size,6,none⟩=some (.string l[k].op.text):=by
           simp [hc1]
          have HC:=Lib.hid hc1;have HB1:=Lib.hid hb1;clear hc1 hf1 hb1)
        |(go_at_call 134;refine (HA.out _ HB1.out).mono ?_;rintro e w2 ⟨rfl,ht2,hg2⟩
          have E2:w2.cell? ⟨wr.heap.size,0,none⟩=some (.int .i64 l[k].who)∧w2.cell? ⟨wr.heap.size,1,none⟩=some (.int .i64 l[k].seq)∧w2.cell? ⟨wr.heap.size,2,none⟩=some (.int .i64 l[k].op.kind)∧w2.cell? ⟨wr.heap.size,3,none⟩=some (.int .i64 l[k].op.id)∧w2.cell? ⟨wr.heap.size,4,none⟩=some (.int .i64 l[k].op.up)∧w2.cell? ⟨wr.heap.size,5,none⟩=some (.int .i64 l[k].op.pos)∧w2.cell? ⟨wr.heap.size,6,none⟩=some (.string l[k].op.text):=by
           obtain ⟨e0,e1,e2,e3,e4,e5,e6⟩:=E1
           have hne:∀ o:Nat,some (⟨wr.heap.size,o,none⟩:Addr).block≠some w.heap.size:=fun o h=>by injection h with h;simp only at h;omega
           exact ⟨hg2.cell e0 (hne _),hg2.cell e1 (hne _),hg2.cell e2 (hne _),hg2.cell e3 (hne _),hg2.cell e4 (hne _),hg2.cell e5 (hne _),hg2.cell e6 (hne _)⟩
          have HT2:=Lib.hid ht2;have HG2:=Lib.hid hg2;clear ht2 hg2))
     ·have HQ:=Lib.hid hq;clear hq
      go_wp2
      go_ret
      have hne:¬l[k].seq=(cntW (l.take k) l[k].who:Int)+1:=fun e=>by rw [e] at HQ;simp [Hid] at HQ
      have hg:goodAt l k=false:=by rw [HG1.out];simp [hne]
      refine ⟨by rw [logOk_false l k hlt hg];rfl,?_⟩
      exact ext_grown (ext_then HB.out (ext_boxd HB1.out) HB.out.size) HG2.out (Nat.le_trans HB.out.size (ext_boxd HB1.out).size) (fun k e=>by injection e with e;omega)
     ·have HQ:=Lib.hid hq;clear hq
      go_wp2
      go_roundg (l.length - (k+1))
      case measure=>have:=HK.out;omega
      case rel=>
       have he:(cntW (l.take k) l[k].who:Int)+1=l[k].seq:=by simpa using HQ.out
       have hg:goodAt l k=true:=by rw [HG1.out];simp [he]
       refine ⟨k+1,by omega,rfl,by go_num,fun j hj=>?_,?_,?_⟩
       ·by_cases hjk:j=k
        ·rw [hjk];exact hg
        ·exact HG.out j (by omega)
       ·have hf:(fun who=>(cntW (l.take (k+1)) who:Int))=upd (fun who=>(cntW (l.take k) who:Int)) l[k].who ((cntW (l.take k) l[k].who:Int)+1):=by
         funext x
         rw [cntW_take l k hlt x]
         unfold upd
         by_cases hx:x=l[k].who
         ·rw [if_pos hx,hx,if_pos rfl];simp
         ·rw [if_neg hx,if_neg (fun e=>hx e.symm)];simp
        rw [hf]
        exact HT2.out
       ·exact ext_grown (ext_then HB.out (ext_boxd HB1.out) HB.out.size) HG2.out (Nat.le_trans HB.out.size (ext_boxd HB1.out).size) (fun k e=>by injection e with e;omega)
   ·go_wp2
    go_ret
    exact ⟨by rw [logOk_true l h40 (fun j hj=>HG.out j (by omega))];rfl,HB.out⟩
 ·have hl:logOk l=false:=by simp [logOk,h40]
  rw [hl]
  clear hl hr ht
  go_enter Tryz.func105,Tryz.ntmps105
  go_wp2
  go_ret
  exact ⟨rfl,Below.refl _ _⟩
open Go.RowKit
set_option linter.unusedVariables false
def treeOf (l:List Entry):List Row:=l.foldl (fun t e=>opDo t e.op) treeNew
def logTree (l:List Entry):List Row:=if logOk l then treeOf l else []
theorem treeOf_take (l:List Entry) (k:Nat) (hk:k<l.length):treeOf (l.take (k+1))=opDo (treeOf (l.take k)) l[k].op:=by
 unfold treeOf;rw [List.take_succ_eq_append_getElem hk,List.foldl_append];rfl
theorem entryOk_op {e:Entry} (h:entryOk e=true):opOk e.op=true:=by
 simp only [entryOk,Bool.and_eq_true] at h;exact h.1.2
theorem logOk_at {l:List Entry} (h:logOk l=true) (k:Nat) (hk:k<l.length):entryOk l[k]=true:=by
 have:=((logOk_iff l).1 h).2 k hk
 rw [goodAt_lt l k hk,Bool.and_eq_true] at this;exact this.1
theorem treeOk_new:treeOk treeNew=true:=by decide
theorem treeOf_ok {l:List Entry} (h:∀ e∈l,opOk e.op=true):treeOk (treeOf l)=true:=by
 have:∀ (t:List Row),treeOk t=true→(∀ e∈l,opOk e.op=true)→treeOk (l.foldl (fun t e=>opDo t e.op) t)=true:=by
  clear h
  induction l with
  |nil=>intro t h _;exact h
  |cons e l ih=>
   intro t h hl
   refine ih _ ?_ (fun e' he=>hl e' (List.mem_cons_of_mem _ he))
   have ho:=hl e List.mem_cons_self
   show treeOk (opDo t e.op)=true
   unfold opDo
   rw [h,ho,Bool.and_self,if_pos rfl]
   exact treeOk_do t e.op h ho
 exact this treeNew treeOk_new h
set_option maxRecDepth 100000 in
set_option maxHeartbeats 1000000 in
theorem logTree_c (A:Option Addr) (c:Nat) (l:List Entry) (w:World) (ht:Tab w) (hr:Rd w A c l) :
  Calls Tryz.prog 107 #[.slice A l.length c] w fun e w'=>∃ v,e=.returned v∧Own 46 w' w.heap.size v (logTree l)∧Ext w w':=by
 have hm:l.length≤maxLen:=Nat.le_trans hr.1 hr.2.1
 unfold maxLen at hm
 have hL:=logOk_c A c l w ht hr
 cases hok:logOk l
 ·rw [hok] at hL
  have HL:=Lib.hid hL
  have hres:logTree l=[]:=by unfold logTree;rw [hok];rfl
  rw [hres]
  clear hL ht hr hok hres
  go_enter Tryz.func107,Tryz.ntmps107
  go_wp2_with fail
  refine HL.out.mono ?_;rintro e w1 ⟨rfl,hb⟩
  have HB:=Lib.hid hb;clear hb HL
  go_wp2_with fail
  go_ret
  exact ⟨_,rfl,Own.nil _ _ _,HB.out⟩
 ·rw [hok] at hL
  have HL:=Lib.hid hL
  have hres:logTree l=treeOf l:=by unfold logTree;rw [hok];rfl
  rw [hres]
  have HR:=Lib.hid hr;have HT:=Lib.hid ht
  clear hL ht hr hok hres
  go_enter Tryz.func107,Tryz.ntmps107
  go_wp2_with fail
  refine HL.out.mono ?_;rintro e w1 ⟨rfl,hb⟩
  have HB:=Lib.hid hb;clear hb HL
  go_wp2_with fail
  refine (treeNew_c w1).mono ?_;rintro e w2 ⟨v,rfl,hown,hb2⟩
  have HB2:=Lib.hid (HB.out.trans (hb2.mono HB.out.size))
  have HOWN:=Lib.hid (hown.lower HB.out.size)
  clear hown hb2
  go_wp2_with fail
  go_loopg [3,12] l.length (fun gk v i wr=>∃ k:Nat,k≤l.length∧Hid (gk=l.length - k)∧i=.int .i64 k∧Hid (Own 46 wr w.heap.size v (treeOf (l.take k)))∧Hid (Below w.heap.size w wr))
  case atStart=>exact ⟨0,Nat.zero_le _,rfl,rfl,HOWN.out,HB2.out⟩
  case round=>
   obtain ⟨k,hk,HK,rfl,HO,HW⟩:=hrel
   by_cases hlt:k<l.length
   ·obtain ⟨b,off,rfl,hbl,c0,c1,c2,c3,c4,c5,c6⟩:=ent_at (HR.out.ext HW.out) k hlt
    obtain ⟨A2,cap2,hv,hrd⟩:=HO.out.rd
    subst hv
    have hsz:=HW.out.size
    have hC:=Lib.hid (opDo_c A2 cap2 (treeOf (l.take k)) l[k].op (wr.alloc (oN l[k]))
     ((HT.out.below HW.out HT.out.pos).alloc _) (hrd.alloc _) (HR.out.okAt k hlt))
    have HN:=Lib.hid (treeOf_take l k hlt)
    clear hrd
    go_wp2_with fail
    refine hC.out.mono ?_;rintro e w3 ⟨v3,rfl,hown3,hb3⟩
    have HOWN3:=Lib.hid (hown3.lower (Nat.le_trans hsz (by rw [alloc_sz];omega)))
    have HB3:=Lib.hid (HW.out.trans (((Below.refl w.heap.size wr).alloc hsz _).trans (hb3.mono (Nat.le_trans hsz (by rw [alloc_sz];omega)))))
    clear hown3 hb3 hC
    go_wp2_with fail
    go_roundg (l.length - (k+1))
    case measure=>have:=HK.out;omega
    case rel=>exact ⟨k+1,by omega,rfl,by go_num,by rw [HN.out];exact HOWN3.out,HB3.out⟩
   ·have hkl:k=l.length:=by omega
    subst hkl
    rw [List.take_length] at HO
    go_wp2_with fail
    go_ret
    exact ⟨_,rfl,HO.out,HW.out⟩
def logSeq (l:List Entry) (who:Int):Int:=if logOk l then cntW l who else -1
open Go.RowKit
def slotOf (h i:Nat):Nat:=((h+i) % 40)*7
structure Ring (w:World) (b h:Nat) (f:Nat→Value) (q:List Entry):Prop where
 row:w.rowIs b 127 282 f
 hd:h<40
 len:q.length≤40
 cHd:f 280=.int .i64 h
 cSz:f 281=.int .i64 q.length
 at_:∀ i (hi:i<q.length) j v,(entE q[i])[j]?=some v→f (slotOf h i+j)=v
 ok:∀ e∈q,e.op.text.size≤maxLen
theorem gset {w w':World} {b:Nat} (h:w.grownBy w' (some b)) (i:Nat) (v:Value):w.grownBy (w'.setCell ⟨b,i,none⟩ v) (some b):=by
 have hs:∀ x:World,(x.setCell ⟨b,i,none⟩ v).os=x.os∧(x.setCell ⟨b,i,none⟩ v).tape=x.tape∧(x.setCell ⟨b,i,none⟩ v).output=x.output:=fun x=>by unfold World.setCell;split <;> exact ⟨rfl,rfl,rfl⟩
 exact ⟨(hs _).1.trans h.os,(hs _).2.1.trans h.tape,(hs _).2.2.trans h.output,Nat.le_trans h.size (Nat.le_of_eq (setsz _ _ _).symm),fun k hk hne=>(setx (fun e=>hne (by rw [e]))).trans (h.block k hk hne)⟩
theorem galloc {w w':World} {row:Option Nat} (h:w.grownBy w' row) (o:Obj):w.grownBy (w'.alloc o) row:=
 ⟨h.os,h.tape,h.output,Nat.le_trans h.size (by rw [alloc_sz];omega),fun k hk hne=>(Below.heap_alloc w' o k (Nat.lt_of_lt_of_le hk h.size)).trans (h.block k hk hne)⟩
theorem gdrew {w w':World} {row:Option Nat} (h:w.grownBy w' row):w.grownBy w'.drew row:=⟨h.os,h.tape,h.output,h.size,h.block⟩
def ringPut (f:Nat→Value) (m:Nat) (e:Entry):Nat→Value:=fun j=>
 if j=m*7+6 then .string e.op.text else if j=m*7+5 then .int .i64 e.op.pos else if j=m*7+4 then .int .i64 e.op.up else if j=m*7+3 then .int .i64 e.op.id else if j=m*7+2 then .int .i64 e.op.kind else if j=m*7+1 then .int .i64 e.seq else if j=m*7 then .int .i64 e.who else f j
theorem ringPut_far (f:Nat→Value) (m:Nat) (e:Entry) (j:Nat) (h:j<m*7∨m*7+7≤j):ringPut f m e j=f j:=by
 unfold ringPut
 rw [if_neg (by omega),if_neg (by omega),if_neg (by omega),if_neg (by omega),if_neg (by omega),if_neg (by omega),if_neg (by omega)]
theorem ringPut_at (f:Nat→Value) (m:Nat) (e:Entry) (j:Nat) (v:Value) (h:(entE e)[j]?=some v):ringPut f m e (m*7+j)=v:=by
 unfold ringPut entE at *
 match j,h with
 |0,h=>simp at h;simp [h]
 |1,h=>simp at h;simp [h]
 |2,h=>simp at h;simp [h]
 |3,h=>simp at h;simp [h]
 |4,h=>simp at h;simp [h]
 |5,h=>simp at h;simp [h]
 |6,h=>simp at h;simp [h]
 |n+7,h=>simp at h
theorem entE_lt {e:Entry} {j:Nat} {v:Value} (h:(entE e)[j]?=some v):j<7:=(List.getElem?_eq_some_iff.1 h).1
theorem Ring.put {w w':World} {b h:Nat} {f:Nat→Value} {q:List Entry} {e:Entry} {m:Nat} (hR:Ring w b h f q) (hq:q.length<40) (he:e.op.text.size≤maxLen) (hm:(h+q.length) % 40=m)
  (hrow:w'.rowIs b 127 282 (fun j=>if j=281 then .int .i64 (q.length+1) else ringPut f m e j)):∃ f',Ring w' b h f' (q++[e]):=by
 have hd:=hR.hd
 refine ⟨_,hrow,hd,by simp;omega,?_,?_,?_,?_⟩
 ·show (if (280:Nat)=281 then _ else _)=_
  rw [if_neg (by omega),ringPut_far _ _ _ _ (by omega),hR.cHd]
 ·show (if (281:Nat)=281 then _ else _)=_
  rw [if_pos rfl];simp
 ·intro i hi j v hv
  have hj:=entE_lt hv
  show (if slotOf h i+j=281 then _ else _)=_
  rw [List.length_append,List.length_singleton] at hi
  by_cases hil:i<q.length
  ·rw [List.getElem_append_left hil] at hv
   unfold slotOf
   rw [if_neg (by omega),ringPut_far _ _ _ _ (by omega)]
   exact hR.at_ i hil j v hv
  ·have:i=q.length:=by omega
   subst this
   rw [List.getElem_append_right (Nat.le_refl _)] at hv
   simp only [Nat.sub_self,List.getElem_cons_zero] at hv
   unfold slotOf
   rw [hm,if_neg (by omega)]
   exact ringPut_at _ _ _ _ _ hv
 ·intro e' he'
  rcases List.mem_append.1 he' with h1 | h1
  ·exact hR.ok e' h1
  ·rw [List.mem_singleton] at h1;rw [h1];exact he
theorem Ring.of_block {w w':World} {b h:Nat} {f:Nat→Value} {q:List Entry} (hR:Ring w b h f q) (e:w'.heap[b]?=w.heap[b]?):Ring w' b h f q:=⟨hR.row.of_block e,hR.hd,hR.len,hR.cHd,hR.cSz,hR.at_,hR.ok⟩
theorem Ring.ext {w w':World} {b h:Nat} {f:Nat→Value} {q:List Entry} (hR:Ring w b h f q) (hb:Ext w w'):Ring w' b h f q:=hR.of_block (hb.block b hR.row.lt)
set_option maxRecDepth 100000 in
set_option maxHeartbeats 2000000 in
theorem push_c (b h:Nat) (f:Nat→Value) (q:List Entry) (e:Entry) (w:World) (hR:Ring w b h f q) (hq:q.length<40) (he:e.op.text.size≤maxLen) :
  Calls Tryz.prog 78 #[.pointer (some ⟨b,0,none⟩),e.val] w fun r w'=>r=.returned (.bool true)∧(∃ f',Ring w' b h f' (q++[e]))∧w.grownBy w' (some b):=by
 have c0:=hR.row.cell (i:=280) (by omega)
 have c1:=hR.row.cell (i:=281) (by omega)
 rw [hR.cHd] at c0;rw [hR.cSz] at c1
 have hfz:=hR.row.frozen
 have hlt:=hR.row.lt
 have hd:=hR.hd
 have hval:e.val=.agg (cN e):=rfl
 rw [hval]
 have hcs:∀ j,j<7→w.cell? ⟨b,(h+q.length) % 40*7+j,none⟩=some (f ((h+q.length) % 40*7+j)):=fun j hj=>hR.row.cell (by omega)
 have e0:=hcs 0 (by omega);have e1:=hcs 1 (by omega);have e2:=hcs 2 (by omega);have e3:=hcs 3 (by omega);have e4:=hcs 4 (by omega);have e5:=hcs 5 (by omega);have e6:=hcs 6 (by omega)
 rw [Nat.add_zero] at e0
 have HR:=Lib.hid hR
 clear hR hcs hval
 have hrem:Int.tmod ((h:Int)+(q.length:Int)) 40=(((h+q.length) % 40:Nat):Int):=by rw [Int.tmod_eq_emod_of_nonneg (by omega)];omega
 have hm1:(h+q.length) % 40<40:=Nat.mod_lt _ (by omega)
 generalize hm:(h+q.length) % 40=m at *
 have hmm1:(m:Int)<40:=by omega
 have hmm0:(0:Int)≤(m:Int):=by omega
 go_enter Tryz.func78,Tryz.ntmps78
 go_wp2
 go_region
 go_wp2
 go_ret
 refine ⟨rfl,HR.out.put hq he hm ?_,?_⟩
 ·exact ((((((((((HR.out.row.set _ _).set _ _).set _ _).set _ _).set _ _).set _ _).set _ _).set _ _).alloc _).drew)
 ·exact gdrew (galloc (gset (gset (gset (gset (gset (gset (gset (gset (World.grownBy.refl w _) _ _) _ _) _ _) _ _) _ _) _ _) _ _) _ _) _)
open Go.RowKit
theorem row_lit (w:World) (c:Array Value) (t:TypeId):(w.alloc (.cells c t)).rowIs w.heap.size t c.size (fun j=>(c[j]?).getD undef):=
 World.rowIs_alloc w c t _ (fun i hi=>by rw [Array.getElem?_eq_getElem hi];rfl)
set_option maxRecDepth 100000 in
set_option maxHeartbeats 2000000 in
theorem ringOf_c (A:Option Addr) (c:Nat) (l:List Entry) (w:World) (hr:Rd w A c l) (hl:l.length≤40) :
  Calls Tryz.prog 38 #[.slice A l.length c] w fun e w'=>∃ b f,e=.returned (.pointer (some ⟨b,0,none⟩))∧Ring w' b 0 f l∧w.heap.size≤b∧Ext w w':=by
 have HR:=Lib.hid hr
 clear hr
 go_enter Tryz.func38,Tryz.ntmps38
 go_wp2
 go_loopg [10] l.length (fun gk i wr=>∃ k:Nat,k≤l.length∧Hid (gk=l.length - k)∧i=.int .i64 k∧Hid (∃ f,Ring wr w.heap.size 0 f (l.take k))∧Hid (Below w.heap.size w wr))
 case atStart=>
  refine ⟨0,Nat.zero_le _,rfl,rfl,⟨_,row_lit w _ _,by omega,by simp,by rfl,by rfl,fun i hi=>absurd hi (by simp),by simp⟩,(Below.refl _ _).alloc (Nat.le_refl _) _⟩
 case round=>
  obtain ⟨k,hk,HK,rfl,HQ,HW⟩:=hrel
  by_cases hlt:k<l.length
  ·obtain ⟨b,off,rfl,hbl,c0,c1,c2,c3,c4,c5,c6⟩:=ent_at (HR.out.ext HW.out) k hlt
   obtain ⟨f,hring⟩:=HQ.out
   have hC:=Lib.hid (push_c w.heap.size 0 f (l.take k) l[k] (wr.alloc (oN l[k])) (hring.ext ((Below.refl _ _).alloc (Nat.le_refl _) _)) (by rw [List.length_take];omega) (HR.out.okAt k hlt))
   have hsz:=HW.out.size
   clear hring
   go_wp2_with fail
   refine hC.out.mono ?_;rintro e w3 ⟨rfl,hf3,hg3⟩
   have HF3:=Lib.hid hf3;have HG3:=Lib.hid hg3
   clear hf3 hg3 hC
   go_wp2_with fail
   go_roundg (l.length - (k+1))
   case measure=>have:=HK.out;omega
   case rel=>
    refine ⟨k+1,by omega,rfl,by go_num,?_,?_⟩
    ·show ∃ f,_
     rw [List.take_succ_eq_append_getElem hlt];exact HF3.out
    ·exact ext_grown (HW.out.alloc hsz _) HG3.out (by rw [alloc_sz];omega) (fun k e=>by injection e with e;omega)
  ·have hkl:k=l.length:=by omega
   subst hkl
   rw [List.take_length] at HQ
   go_wp2_with fail
   go_ret
   obtain ⟨f,hring⟩:=HQ.out
   exact ⟨_,f,rfl,hring,Nat.le_refl _,HW.out⟩
open Go.RowKit
theorem toList_inj {a b:ByteArray} (h:a.toList=b.toList):a=b:=by
 rw [ByteArray.toList_eq,ByteArray.toList_eq] at h
 obtain ⟨⟨x⟩⟩:=a
 obtain ⟨⟨y⟩⟩:=b
 simp only at h
 rw [h]
theorem ent_ext {a b:Entry} (h1:a.who=b.who) (h2:a.seq=b.seq) (h3:a.op.kind=b.op.kind) (h4:a.op.id=b.op.id) (h5:a.op.up=b.op.up) (h6:a.op.pos=b.op.pos) (h7:a.op.text.toList=b.op.text.toList):a=b:=by
 obtain ⟨w1,s1,k1,i1,p1,q1,t1⟩:=a
 obtain ⟨w2,s2,k2,i2,p2,q2,t2⟩:=b
 simp only at h1 h2 h3 h4 h5 h6 h7
 have h8:=toList_inj h7
 subst h1 h2 h3 h4 h5 h6 h8
 rfl
theorem neq_ent (a b:Entry) (W:World):(binOp .neq 35 (.agg (cN a)) (.agg (cN b))).run Tryz.prog W=.ok (.bool (!decide (a=b))) W:=by
 have u1:=Tryz.underlying35
 have u2:=Tryz.underlying28
 by_cases h:a=b
 ·subst h
  go_simp
 ·rw [decide_eq_false h]
  go_simp
  have h7:a.op.text.toList=b.op.text.toList→a.op.text=b.op.text:=toList_inj
  by_cases e1:a.who=b.who
  ·by_cases e2:a.seq=b.seq
   ·by_cases e3:a.op.kind=b.op.kind
    ·by_cases e4:a.op.id=b.op.id
     ·by_cases e5:a.op.up=b.op.up
      ·by_cases e6:a.op.pos=b.op.pos
       ·have e7:¬a.op.text.toList=b.op.text.toList:=fun e7=>h (ent_ext e1 e2 e3 e4 e5 e6 e7)
        simp [e1,e2,e3,e4,e5,e6,e7]
       ·simp [e1,e2,e3,e4,e5,e6]
      ·simp [e1,e2,e3,e4,e5]
     ·simp [e1,e2,e3,e4]
    ·simp [e1,e2,e3]
   ·simp [e1,e2]
  ·simp [e1]
theorem popIf_nil (b h:Nat) (f:Nat→Value) (e:Entry) (w:World) (hR:Ring w b h f []) :
  Calls Tryz.prog 50 #[.pointer (some ⟨b,0,none⟩),e.val] w fun r w'=>r=.returned (.bool false)∧Ext w w':=by
 have c1:=hR.row.cell (i:=281) (by omega)
 rw [hR.cSz] at c1
 simp only [List.length_nil] at c1
 have hlt:=hR.row.lt
 have hval:e.val=.agg (cN e):=rfl
 rw [hval]
 clear hR hval
 go_enter Tryz.func50,Tryz.ntmps50
 go_wp2
 all_goals (try go_region)
 all_goals go_wp2
 go_ret
 exact ⟨rfl,by first | exact (Below.refl _ w).alloc (Nat.le_refl _) _ | exact ((Below.refl _ w).alloc (Nat.le_refl _) _).trans (Ext.drewN (Below.refl _ _) 1)⟩
theorem Ring.pop {w w':World} {b h:Nat} {f:Nat→Value} {e0:Entry} {q:List Entry} (hR:Ring w b h f (e0::q))
  (hrow:w'.rowIs b 127 282 (fun j=>if j=281 then .int .i64 ((q.length:Int)) else if j=280 then .int .i64 (((h+1) % 40:Nat):Int) else f j)):∃ f',Ring w' b ((h+1) % 40) f' q:=by
 have hd:=hR.hd
 have hl:=hR.len
 simp only [List.length_cons] at hl
 refine ⟨_,hrow,Nat.mod_lt _ (by omega),by omega,?_,?_,?_,fun e he=>hR.ok e (List.mem_cons_of_mem _ he)⟩
 ·show (if (280:Nat)=281 then _ else _)=_
  rw [if_neg (by omega),if_pos rfl]
 ·show (if (281:Nat)=281 then _ else _)=_
  rw [if_pos rfl]
 ·intro i hi j v hv
  have hj:=entE_lt hv
  have h1:=hR.at_ (i+1) (by simp only [List.length_cons];omega) j v (by simpa using hv)
  have he:slotOf ((h+1) % 40) i=slotOf h (i+1):=by unfold slotOf;omega
  show (if slotOf ((h+1) % 40) i+j=281 then _ else _)=_
  rw [he]
  have hlt:slotOf h (i+1)+j<280:=by unfold slotOf;omega
  rw [if_neg (by omega),if_neg (by omega)]
  exact h1
set_option maxRecDepth 100000 in
set_option maxHeartbeats 2000000 in
theorem popIf_cons (b h:Nat) (f:Nat→Value) (e0:Entry) (q:List Entry) (e:Entry) (w:World) (hR:Ring w b h f (e0::q)) :
  Calls Tryz.prog 50 #[.pointer (some ⟨b,0,none⟩),e.val] w fun r w'=>r=.returned (.bool (decide (e0=e)))∧(if e0=e then (∃ f',Ring w' b ((h+1) % 40) f' q) else Ring w' b h f (e0::q))∧w.grownBy w' (some b):=by
 have c0:=hR.row.cell (i:=280) (by omega)
 have c1:=hR.row.cell (i:=281) (by omega)
 rw [hR.cHd] at c0;rw [hR.cSz] at c1
 simp only [List.length_cons] at c1
 have hd:=hR.hd
 have hl40:=hR.len
 simp only [List.length_cons] at hl40
 have hcs:∀ j v,j<7→(entE e0)[j]?=some v→w.cell? ⟨b,h*7+j,none⟩=some v:=fun j v hj hv=>by
  have:=hR.at_ 0 (by simp) j v (by simpa using hv)
  unfold slotOf at this
  rw [Nat.add_zero,Nat.mod_eq_of_lt hd] at this
  rw [hR.row.cell (by omega),this]
 have e0':=hcs 0 _ (by omega) rfl;have e1:=hcs 1 _ (by omega) rfl;have e2:=hcs 2 _ (by omega) rfl;have e3:=hcs 3 _ (by omega) rfl;have e4:=hcs 4 _ (by omega) rfl;have e5:=hcs 5 _ (by omega) rfl;have e6:=hcs 6 _ (by omega) rfl
 rw [Nat.add_zero] at e0'
 have hfz:=hR.row.frozen
 have hlt:=hR.row.lt
 have hne:=neq_ent e0 e
 have hval:e.val=.agg (cN e):=rfl
 rw [hval]
 have hh0:(0:Int)≤(h:Int):=by omega
 have hh1:(h:Int)<40:=by omega
 have hsz0:(((q.length:Int)+1) == 0)=false:=by rw [beq_eq_false_iff_ne];omega
 have hrem:Int.tmod ((h:Int)+1) 40=(((h+1) % 40:Nat):Int):=by rw [Int.tmod_eq_emod_of_nonneg (by omega)];omega
 have HR:=Lib.hid hR
 clear hR hcs hval
 by_cases he:e0=e
 ·have HE:=Lib.hid he
  rw [decide_eq_true he] at hne ⊢
  simp only [if_pos he]
  clear he
  generalize hm:(h+1) % 40=m at *
  go_enter Tryz.func50,Tryz.ntmps50
  go_wp2
  go_region
  go_wp2
  go_ret
  subst hm
  exact ⟨rfl,HR.out.pop ((((HR.out.row.set _ _).set _ _).alloc _).drew),gdrew (galloc (gset (gset (World.grownBy.refl w _) _ _) _ _) _)⟩
 ·have HE:=Lib.hid he
  rw [decide_eq_false he] at hne ⊢
  simp only [if_neg he]
  clear he
  go_enter Tryz.func50,Tryz.ntmps50
  go_wp2
  go_region
  go_wp2
  go_ret
  refine ⟨rfl,HR.out.ext (((Below.refl _ w).alloc (Nat.le_refl _) _).trans (Ext.drewN (Below.refl _ _) 1)),gdrew (galloc (World.grownBy.refl w _) _)⟩
open Go.RowKit
def Coll (w:World) (n0 bx:Nat) (l:List Entry):Prop:=∃ v,Boxed w bx 24 v∧Own 35 w n0 v l
theorem Coll.ext {w w':World} {n0 bx:Nat} {l:List Entry} (h:Coll w n0 bx l) (hb:Ext w w'):Coll w' n0 bx l:=by
 obtain ⟨v,h1,h2⟩:=h
 exact ⟨v,(hb.block bx h1.lt).trans h1,h2.below hb⟩
set_option maxRecDepth 100000 in
theorem coll_c (n0 bx:Nat) (l:List Entry) (e:Entry) (w:World) (h:Coll w n0 bx l) (hn0:n0≤w.heap.size) (hbx:n0≤bx) (hl:l.length<1000) (he:e.op.text.size≤maxLen) :
  Calls Tryz.prog 92 #[e.val,.pointer (some ⟨bx,0,none⟩)] w fun r w'=>r=.returned (.tuple #[])∧Coll w' n0 bx (l++[e])∧Kept [24,35] (fun _=>False) w w'∧Below n0 w w':=by
 obtain ⟨v,h1,h2⟩:=h
 obtain ⟨i0,hi,hz0,hz1,hz2⟩:=ent_info
 have c0:=h1.cell
 have f0:=h1.frozen
 have hlt:=h1.lt
 have hval:e.val=.agg (cN e):=rfl
 rw [hval]
 have hnewx:((w.alloc (oN e)).alloc (oN e)).heap[w.heap.size+1]?=some (.cells (cN e) 35 (0,0)):=by
  have:=World.alloc_heap_new (w.alloc (oN e)) (oN e)
  rwa [alloc_sz] at this
 have happ:=run_append_own_at (P:=Tryz.prog) (w:=(w.alloc (oN e)).alloc (oN e)) n0 24 24 35 i0 _ 7 64 und_ents hi hz0 hz1 hz2 rfl (by decide) v l.length _ ((h2.1.alloc _).alloc _) ⟨w.heap.size+1,0,none⟩ 1 1 (entE e) rfl (fun j u hj=>by
   have e1:(⟨w.heap.size+1,0,none⟩:Addr).add j=⟨w.heap.size+1,0+j,none⟩:=by unfold Addr.add;split <;> simp_all
   rw [e1,Nat.zero_add]
   unfold World.cell?
   simp only [hnewx]
   simpa [entE] using hj) (fun u hu=>Flat.one e u hu) (by unfold maxLen;omega) (by omega) (by rw [alloc_sz,alloc_sz];omega)
 obtain ⟨v',w1,hrun,hown,hgrow,-,hblk⟩:=happ
 obtain ⟨g',cap',rfl⟩:=ownsRow_succ hown
 obtain ⟨hv1,hv2,hr2,hk2,hb2⟩:=Boxed.appended (W:=w.alloc (oN e)) (h1.alloc _) (by decide) (h2.1.alloc _) (by rw [alloc_sz];omega) hbx hown hgrow
 have hK:Kept [24,35] (fun _=>False) w (w1.setCell ⟨bx,0,none⟩ (.slice (some ⟨g',0,none⟩) (l.length+1) cap')):=by
  have hd:Kept [24,35] (fun _=>False) w ((w.alloc (oN e)).alloc (oN e)):=((Kept.refl w).alloc _).alloc _
  refine (hd.grown hgrow (fun b hb=>?_)).setTurn hv1 (by simp) _ _
  rcases ((h2.1.alloc (oN e)).alloc (oN e)).2 with ⟨h9,_⟩ | ⟨g9,cap9,cur9,h9,_,h8,_⟩
  ·rw [h9] at hb;simp [Value.ownBlock] at hb
  ·rw [h9] at hb
   simp only [Value.ownBlock,Option.some.injEq] at hb
   subst hb
   exact ⟨_,_,_,h8,by simp⟩
 have FIN:Hid (Coll (w1.setCell ⟨bx,0,none⟩ (.slice (some ⟨g',0,none⟩) (l.length+1) cap')) n0 bx (l++[e])∧Kept [24,35] (fun _=>False) w (w1.setCell ⟨bx,0,none⟩ (.slice (some ⟨g',0,none⟩) (l.length+1) cap'))∧Below n0 w (w1.setCell ⟨bx,0,none⟩ (.slice (some ⟨g',0,none⟩) (l.length+1) cap'))):=by
  refine ⟨⟨_,hv2,⟨?_,?_⟩⟩,hK,((Below.refl n0 w).alloc hn0 _).trans hb2⟩
  ·rw [flat_append,List.length_append,List.length_singleton];exact hr2
  ·intro x hx
   rcases List.mem_append.1 hx with h | h
   ·exact h2.2 x h
   ·rw [List.mem_singleton] at h;rw [h];exact he
 have hc1:=hv1.cell
 have hf1:=hv1.frozen
 clear h1 h2 hi hz0 hz1 hz2 hnewx hown hgrow hblk hv1 hv2 hr2 hk2 hb2 hK hval
 go_enter Tryz.func92,Tryz.ntmps92
 go_wp2_with (at_builtin;refine wpList_append_run rfl _ _ _ rfl rfl rfl hrun ?_)
 go_end0
 exact ⟨rfl,FIN.out⟩
open Go.RowKit
theorem Ring.slot {w:World} {b h:Nat} {f:Nat→Value} {q:List Entry} (hR:Ring w b h f q) (i:Nat) (hi:i<q.length) (j:Nat) (v:Value) (hv:(entE q[i])[j]?=some v):w.cell? ⟨b,(h+i) % 40*7+j,none⟩=some v:=by
 have:=hR.at_ i hi j v hv
 have hj:=entE_lt hv
 unfold slotOf at this
 rw [hR.row.cell (by omega),this]
theorem Ring.kept {ts:List TypeId} {L:Nat→Prop} {w w':World} {b h:Nat} {f:Nat→Value} {q:List Entry} (hR:Ring w b h f q) (k:Kept ts L w w') (ht:127∉ts):Ring w' b h f q:=by
 obtain ⟨cs,hcs⟩:=rowIs_blk hR.row
 exact hR.of_block ((k.cells _ _ _ _ hcs ht).trans hcs.symm)
set_option maxRecDepth 100000 in
set_option maxHeartbeats 2000000 in
theorem each_coll (b h:Nat) (f:Nat→Value) (q:List Entry) (n0 bx:Nat) (w:World) (hR:Ring w b h f q) (hc:Coll w n0 bx []) (hn0:n0≤w.heap.size) (hbx:n0≤bx) :
  Calls Tryz.prog 39 #[.pointer (some ⟨b,0,none⟩),.func (.func 92) #[] #[.pointer (some ⟨bx,0,none⟩)]] w fun r w'=>r=.returned (.tuple #[])∧Coll w' n0 bx q∧Below n0 w w':=by
 have c1:=hR.row.cell (i:=281) (by omega)
 rw [hR.cSz] at c1
 have hlt:=hR.row.lt
 have hd:=hR.hd
 have hl40:=hR.len
 have HR:=Lib.hid hR;have HC:=Lib.hid hc
 clear hR hc
 go_enter Tryz.func39,Tryz.ntmps39
 go_wp2
 go_loopg [9] q.length (fun gk i wr=>∃ k:Nat,k≤q.length∧Hid (gk=q.length - k)∧i=.int .i64 k∧Hid (Coll wr n0 bx (q.take k))∧Hid (Kept [24,35] (fun _=>False) w wr)∧Hid (Below n0 w wr))
 case atStart=>exact ⟨0,Nat.zero_le _,rfl,rfl,HC.out,Kept.refl _,Below.refl _ _⟩
 case round=>
  obtain ⟨k,hk,HK,rfl,HQ,HKe,HB⟩:=hrel
  by_cases hkl:k<q.length
  ·have hring:=HR.out.kept HKe.out (by decide)
   have c0:=hring.row.cell (i:=280) (by omega)
   rw [hring.cHd] at c0
   have hk40:k<40:=by omega
   have hwr:IntKind.i64.wrap ((h:Int)+(k:Int))=(h:Int)+(k:Int):=by rw [IntKind.wrap_i64];omega
   have hrem:Int.tmod ((h:Int)+(k:Int)) 40=(((h+k) % 40:Nat):Int):=by rw [Int.tmod_eq_emod_of_nonneg (by omega)];omega
   have e0:=hring.slot k hkl 0 _ rfl;have e1:=hring.slot k hkl 1 _ rfl;have e2:=hring.slot k hkl 2 _ rfl;have e3:=hring.slot k hkl 3 _ rfl;have e4:=hring.slot k hkl 4 _ rfl;have e5:=hring.slot k hkl 5 _ rfl;have e6:=hring.slot k hkl 6 _ rfl
   rw [Nat.add_zero] at e0
   have hm1:(h+k) % 40<40:=Nat.mod_lt _ (by omega)
   generalize hm:(h+k) % 40=m at *
   have hmm1:(m:Int)<40:=by omega
   have hmm0:(0:Int)≤(m:Int):=by omega
   have hsz:=HB.out.size
   have hC:=fun (W:World) (hw:W=wr.drew)=>coll_c n0 bx (q.take k) q[k] W (hw▸(HQ.out.ext (Ext.drewN (Below.refl _ wr) 1))) (by rw [hw];exact Nat.le_trans hn0 hsz) hbx (by rw [List.length_take];omega) (HR.out.ok _ (List.getElem_mem hkl))
   have HCC:=Lib.hid hC
   clear hring hC hm1 hm
   go_wp2
   refine wp_region_any (by kernel_rfl) ?_
   change wpAny _ _ _ _ _ _ _ (World.drew _)
   refine wpAny_take (i:=0) (v:=?_) rfl (by kernel_rfl) (by kernel_rfl) (by kernel_rfl) (fun _ _ _ h=>h) (Or.inl ⟨by rfl,?_⟩) ?_
   rotate_left
   ·(intro w;go_simp;try with_reducible rfl)
   refine wpAny_take (i:=1) (v:=?_) rfl (by kernel_rfl) (by kernel_rfl) (by kernel_rfl) (fun _ _ _ h=>h) (Or.inl ⟨by rfl,?_⟩) ?_
   rotate_left
   ·(intro w;go_simp;try with_reducible rfl)
   refine wpAny_take (i:=2) (v:=?_) rfl (by kernel_rfl) (by kernel_rfl) (by kernel_rfl) (fun _ _ _ h=>h) (Or.inl ⟨by rfl,?_⟩) ?_
   rotate_left
   ·(intro w;go_simp;try with_reducible rfl)
   refine wpAny_take (i:=3) (v:=?_) rfl (by kernel_rfl) (by kernel_rfl) (by kernel_rfl) (fun _ _ _ h=>h) (Or.inl ⟨by rfl,?_⟩) ?_
   rotate_left
   ·(intro w;go_simp;try with_reducible rfl)
   refine wpAny_take (i:=4) (v:=?_) rfl (by kernel_rfl) (by kernel_rfl) (by kernel_rfl) (fun _ _ _ h=>h) (Or.inl ⟨by rfl,?_⟩) ?_
   rotate_left
   ·(intro w;go_simp;try with_reducible rfl)
   refine wpAny_take (i:=6) (v:=?_) rfl (by kernel_rfl) (by kernel_rfl) (by kernel_rfl) (fun _ _ _ h=>h) (Or.inl ⟨by rfl,?_⟩) ?_
   rotate_left
   ·(intro w;go_simp;try with_reducible rfl)
   refine wpAny_take (i:=9) (v:=?_) rfl (by kernel_rfl) (by kernel_rfl) (by kernel_rfl) (fun _ _ _ h=>h) (Or.inl ⟨by rfl,?_⟩) ?_
   rotate_left
   ·(intro w;go_simp;try with_reducible rfl)
   refine wpAny_take (i:=10) (v:=?_) rfl (by kernel_rfl) (by kernel_rfl) (by kernel_rfl) (fun _ _ _ h=>h) (Or.inl ⟨by rfl,?_⟩) ?_
   rotate_left
   ·(intro w;go_simp;try with_reducible rfl)
   refine wpAny_ready (rs:=[5]) (by kernel_rfl) (by simp) ?_
   refine AllReady.cons rfl (fun K hK=>?_) AllReady.nil
   go_simp
   refine hK _ _ ?_;clear hK K
   refine wpAny_take (i:=7) (v:=?_) rfl (by kernel_rfl) (by kernel_rfl) (by kernel_rfl) (fun _ _ _ h=>h) (Or.inl ⟨by rfl,?_⟩) ?_
   rotate_left
   ·(intro w;go_simp;try with_reducible rfl)
   refine wpAny_take (i:=8) (v:=?_) rfl (by kernel_rfl) (by kernel_rfl) (by kernel_rfl) (fun _ _ _ h=>h) (Or.inl ⟨by rfl,?_⟩) ?_
   rotate_left
   ·(intro w;go_simp;try with_reducible rfl)
   refine wpAny_take (i:=11) (v:=?_) rfl (by kernel_rfl) (by kernel_rfl) (by kernel_rfl) (fun _ _ _ h=>h) (Or.inl ⟨by rfl,?_⟩) ?_
   rotate_left
   ·(intro w;go_simp;try with_reducible rfl)
   refine wpAny_ready (rs:=[12]) (by kernel_rfl) (by simp) ?_
   refine AllReady.cons rfl (fun K hK=>?_) AllReady.nil
   go_simp
   refine hK _ _ ?_;clear hK K
   refine wpAny_ready (rs:=[13]) (by kernel_rfl) (by simp) ?_
   refine AllReady.cons rfl (fun K hK=>?_) AllReady.nil
   go_simp
   go_wp2_with (go_at_call 92;refine (HCC.out _ rfl).mono ?_;rintro r w2 ⟨rfl,hq2,hk2,hb2⟩;have HQ2:=Lib.hid hq2;have HK2:=Lib.hid hk2;have HB2:=Lib.hid hb2;clear hq2 hk2 hb2)
   refine wpAny_done (by kernel_rfl) ?_ _
   go_wp2
   go_roundg (q.length - (k+1))
   case measure=>have:=HK.out;omega
   case rel=>
    refine ⟨k+1,by omega,rfl,by go_num,?_,?_,?_⟩
    ·show Coll _ _ _ _
     rw [List.take_succ_eq_append_getElem hkl];exact HQ2.out
    ·exact HKe.out.trans ((Kept.of_ext (Ext.drewN (Below.refl _ wr) 1)).trans HK2.out)
    ·exact HB.out.trans ((Ext.drewN (Below.refl n0 wr) 1).trans HB2.out)
  ·have:k=q.length:=by omega
   subst this
   rw [List.take_length] at HQ
   go_wp2
   go_end0
   exact ⟨rfl,HQ.out,HB.out⟩
set_option maxRecDepth 100000 in
theorem entries_c (b h:Nat) (f:Nat→Value) (q:List Entry) (w:World) (hR:Ring w b h f q) :
  Calls Tryz.prog 51 #[.pointer (some ⟨b,0,none⟩)] w fun r w'=>∃ v,r=.returned v∧Own 35 w' w.heap.size v q∧Ext w w':=by
 have c1:=hR.row.cell (i:=281) (by omega)
 rw [hR.cSz] at c1
 have hl40:=hR.len
 have hlt:=hR.row.lt
 obtain ⟨i0,hi,hz0,hz1,hz2⟩:=ent_info
 have HR:=Lib.hid hR
 clear hR
 go_enter Tryz.func51,Tryz.ntmps51
 go_wp2_with (first
  |(at_make;refine wpList_make_own _ rfl _ _ 24 rfl w.heap.size 35 i0 _ 7 und_ents hi hz0 hz1 .i64 .i64 _ q.length rfl rfl rfl (by rw [hz2];omega) (by unfold maxLen;omega) (Nat.le_refl _) ?_;intro w0 hown0 hgrow0;have HO:=Lib.hid hown0;have HG:=Lib.hid hgrow0;clear hown0 hgrow0))
 have hsz0:=HG.out.size
 have hR2:Ring (w0.alloc (.cells #[.slice (some ⟨w.heap.size,0,none⟩) 0 q.length] 24)) b h f q:=(HR.out.of_block (HG.out.block b hlt (by simp))).ext ((Below.refl _ _).alloc (Nat.le_refl _) _)
 have hE:=Lib.hid (each_coll b h f q w.heap.size w0.heap.size _ hR2 ⟨_,World.alloc_heap_new w0 _,⟨HO.out.alloc _,by simp⟩⟩ (by rw [alloc_sz];omega) hsz0)
 clear hR2 hi hz0 hz1 hz2
 refine hE.out.mono ?_
 rintro r w3 ⟨rfl,hc3,hb3⟩
 obtain ⟨v,h1,h2⟩:=hc3
 have c3:=h1.cell
 have H:=Lib.hid (And.intro h2 hb3)
 clear h1 h2 hb3 hE
 go_wp2
 go_ret
 refine ⟨v,rfl,H.out.1,?_⟩
 exact (((Below.refl w.heap.size w).grown HG.out (Nat.le_refl _) (by simp)).alloc hsz0 _).trans H.out.2
open Go.RowKit
def Page (w:World) (n0 p:Nat) (t:List Row):Prop:=∃ v,Boxed w p 79 v∧Own 46 w n0 v t
theorem Page.ext {w w':World} {n0 p:Nat} {t:List Row} (h:Page w n0 p t) (hb:Ext w w'):Page w' n0 p t:=by
 obtain ⟨v,h1,h2⟩:=h
 exact ⟨v,(hb.block p h1.lt).trans h1,h2.below hb⟩
set_option maxRecDepth 100000 in
set_option maxHeartbeats 1000000 in
theorem pageDo_c (n0 p:Nat) (t:List Row) (e:Entry) (w:World) (ht:Tab w) (h:Page w n0 p t) (hn0:n0≤w.heap.size) (hp:n0≤p) (he:e.op.text.size≤maxLen) :
  Calls Tryz.prog 40 #[.pointer (some ⟨p,0,none⟩),e.val] w fun r w'=>r=.returned (.tuple #[])∧Page w' n0 p (opDo t e.op)∧w.grownBy w' (some p):=by
 obtain ⟨v,h1,h2⟩:=h
 obtain ⟨A,c,rfl,hrd⟩:=h2.rd
 have c0:=h1.cell
 have f0:=h1.frozen
 have hlt:=h1.lt
 have hval:e.val=.agg (cN e):=rfl
 rw [hval]
 have hC:=opDo_c A c t e.op ((w.alloc (oN e)).drew) ((ht.alloc _).drewN 1) ((hrd.alloc _).drewN 1) he
 have HC:=Lib.hid hC
 have H1:=Lib.hid h1
 have HP:Hid ((w.alloc (oN e)).drew.heap[p]?=some (.cells #[.slice A t.length c] 79 (0,0))):=(Below.heap_alloc w _ p hlt).trans h1
 have HS:Hid (w.heap.size≤(w.alloc (oN e)).drew.heap.size):=Nat.le_trans (Nat.le_succ _) (Nat.le_of_eq (alloc_sz w _).symm)
 have FIN:Hid (∀ (w1:World) (A2:Option Addr) (cap2:Nat),Own 46 w1 (w.alloc (oN e)).drew.heap.size (.slice A2 (opDo t e.op).length cap2) (opDo t e.op) →
   Ext (w.alloc (oN e)).drew w1→w1.heap[p]?=some (.cells #[.slice A t.length c] 79 (0,0)) →
   Page (w1.setCell ⟨p,0,none⟩ (.slice A2 (opDo t e.op).length cap2)) n0 p (opDo t e.op)∧w.grownBy (w1.setCell ⟨p,0,none⟩ (.slice A2 (opDo t e.op).length cap2)) (some p)):=by
  intro w1 A2 cap2 ho hb hp1
  have hbw:Ext w w1:=((Below.refl _ w).alloc (Nat.le_refl _) _).trans ((Ext.drewN (Below.refl _ _) 1).trans (hb.mono HS.out))
  refine ⟨⟨_,one_set hp1,?_⟩,gset ⟨hbw.os,hbw.tape,hbw.output,hbw.size,fun k hk _=>hbw.block k hk⟩ _ _⟩
  have hlow:=ho.lower (Nat.le_trans hn0 HS.out)
  refine ⟨World.ownsRow.kept hlow.1 (grownBy_setCell' w1 p _) ?_,hlow.2⟩
  rcases hlow.1.2 with ⟨h9,_⟩ | ⟨g9,cap9,cur9,h9,_,h8,_⟩
  ·rw [h9];exact .inl rfl
  ·rw [h9]
   refine .inr fun e9=>?_
   simp only [Value.ownBlock,Option.some.injEq] at e9
   rw [e9,hp1] at h8
   injection h8 with h8;injection h8 with _ h8
   exact absurd h8 (by decide)
 clear h1 h2 hrd hC hval ht
 go_enter Tryz.func40,Tryz.ntmps40
 go_wp2
 refine wp_region_any (by kernel_rfl) ?_
 change wpAny _ _ _ _ _ _ _ (World.drew _)
 refine wpAny_take (i:=0) (v:=?_) rfl (by kernel_rfl) (by kernel_rfl) (by kernel_rfl) (fun _ _ _ h=>h) (Or.inl ⟨by rfl,?_⟩) ?_
 rotate_left
 ·(intro w;go_simp;try with_reducible rfl)
 refine wpAny_take (i:=1) (v:=?_) rfl (by kernel_rfl) (by kernel_rfl) (by kernel_rfl) (fun _ _ _ h=>h) (Or.inl ⟨by rfl,?_⟩) ?_
 rotate_left
 ·(intro w;go_simp;try with_reducible rfl)
 refine wpAny_take (i:=2) (v:=?_) rfl (by kernel_rfl) (by kernel_rfl) (by kernel_rfl) (fun _ _ _ h=>h) (Or.inl ⟨by rfl,?_⟩) ?_
 rotate_left
 ·(intro w;go_simp;try with_reducible rfl)
 refine wpAny_take (i:=3) (v:=?_) rfl (by kernel_rfl) (by kernel_rfl) (by kernel_rfl) (fun _ _ _ h=>h) (Or.inl ⟨by rfl,?_⟩) ?_
 rotate_left
 ·(intro w;go_simp;try with_reducible rfl)
 refine wpAny_take (i:=5) (v:=?_) rfl (by kernel_rfl) (by kernel_rfl) (by kernel_rfl) (fun _ _ _ h=>h) (Or.inl ⟨by rfl,?_⟩) ?_
 rotate_left
 ·(intro w;go_simp;try with_reducible rfl)
 refine wpAny_ready (rs:=[4,6]) (by kernel_rfl) (by simp) ?_
 refine AllReady.cons rfl (fun K hK=>?_) ?_
 ·go_simp
  refine hK _ _ ?_;clear hK K
  refine wpAny_ready (rs:=[6]) (by kernel_rfl) (by simp) ?_
  refine AllReady.cons rfl (fun K hK=>?_) AllReady.nil
  go_simp
  refine hK _ _ ?_;clear hK K
  refine wpAny_ready (rs:=[7]) (by kernel_rfl) (by simp) ?_
  refine AllReady.cons rfl (fun K hK=>?_) AllReady.nil
  go_simp
  go_wp2_with (go_at_call 13;refine HC.out.mono ?_;rintro r w1 ⟨v1,rfl,hown1,hb1⟩;obtain ⟨A2,cap2,rfl,-⟩:=hown1.rd;have hp1:=(hb1.block p (Nat.lt_of_lt_of_le hlt HS.out)).trans HP.out;obtain ⟨hcp,hfp⟩:=one_cell hp1;have HO:=Lib.hid hown1;have HB:=Lib.hid hb1;have HP1:=Lib.hid hp1;clear hown1 hb1 hp1)
  refine wpAny_take (i:=8) (v:=?_) rfl (by kernel_rfl) (by kernel_rfl) (by kernel_rfl) (fun _ _ _ h=>h) (Or.inl ⟨by rfl,?_⟩) ?_
  rotate_left
  ·(intro w;go_simp;try with_reducible rfl)
  refine wpAny_take (i:=9) (v:=?_) rfl (by kernel_rfl) (by kernel_rfl) (by kernel_rfl) (fun _ _ _ h=>h) (Or.inl ⟨by rfl,?_⟩) ?_
  rotate_left
  ·(intro w;go_simp;try with_reducible rfl)
  refine wpAny_ready (rs:=[10]) (by kernel_rfl) (by simp) ?_
  refine AllReady.cons rfl (fun K hK=>?_) AllReady.nil
  go_simp
  refine hK _ _ ?_;clear hK K
  refine wpAny_done (by kernel_rfl) ?_ _
  go_wp2
  go_end0
  exact ⟨rfl,FIN.out _ _ _ HO.out HB.out HP1.out⟩
 refine AllReady.cons rfl (fun K hK=>?_) ?_
 ·go_simp
  refine hK _ _ ?_;clear hK K
  refine wpAny_ready (rs:=[4]) (by kernel_rfl) (by simp) ?_
  refine AllReady.cons rfl (fun K hK=>?_) AllReady.nil
  go_simp
  refine hK _ _ ?_;clear hK K
  refine wpAny_ready (rs:=[7]) (by kernel_rfl) (by simp) ?_
  refine AllReady.cons rfl (fun K hK=>?_) AllReady.nil
  go_simp
  go_wp2_with (go_at_call 13;refine HC.out.mono ?_;rintro r w1 ⟨v1,rfl,hown1,hb1⟩;obtain ⟨A2,cap2,rfl,-⟩:=hown1.rd;have hp1:=(hb1.block p (Nat.lt_of_lt_of_le hlt HS.out)).trans HP.out;obtain ⟨hcp,hfp⟩:=one_cell hp1;have HO:=Lib.hid hown1;have HB:=Lib.hid hb1;have HP1:=Lib.hid hp1;clear hown1 hb1 hp1)
  refine wpAny_take (i:=8) (v:=?_) rfl (by kernel_rfl) (by kernel_rfl) (by kernel_rfl) (fun _ _ _ h=>h) (Or.inl ⟨by rfl,?_⟩) ?_
  rotate_left
  ·(intro w;go_simp;try with_reducible rfl)
  refine wpAny_take (i:=9) (v:=?_) rfl (by kernel_rfl) (by kernel_rfl) (by kernel_rfl) (fun _ _ _ h=>h) (Or.inl ⟨by rfl,?_⟩) ?_
  rotate_left
  ·(intro w;go_simp;try with_reducible rfl)
  refine wpAny_ready (rs:=[10]) (by kernel_rfl) (by simp) ?_
  refine AllReady.cons rfl (fun K hK=>?_) AllReady.nil
  go_simp
  refine hK _ _ ?_;clear hK K
  refine wpAny_done (by kernel_rfl) ?_ _
  go_wp2
  go_end0
  exact ⟨rfl,FIN.out _ _ _ HO.out HB.out HP1.out⟩
 exact AllReady.nil
open Go.RowKit
structure Client where
 who:Int
 seen:Int
 base:List Row
 wait:List Entry
 done:Int
 made:Int
def noClient:Client:=⟨0,0,[],[],0,0⟩
abbrev cC (c:Client) (A:Option Addr) (n:Nat) (B:Option Addr) (m:Nat):Array Value:=#[.int .i64 c.who,.int .i64 c.seen,.slice A c.base.length n,.slice B c.wait.length m,.int .i64 c.done,.int .i64 c.made]
abbrev oC (c:Client) (A:Option Addr) (n:Nat) (B:Option Addr) (m:Nat):Obj:=.cells #[.int .i64 c.who,.int .i64 c.seen,.slice A c.base.length n,.slice B c.wait.length m,.int .i64 c.done,.int .i64 c.made] 26
abbrev cC0:Array Value:=#[.int .i64 0,.int .i64 0,.slice none 0 0,.slice none 0 0,.int .i64 0,.int .i64 0]
abbrev oC0:Obj:=.cells #[.int .i64 0,.int .i64 0,.slice none 0 0,.slice none 0 0,.int .i64 0,.int .i64 0] 26
def CV (w:World) (c:Client) (v:Value):Prop:=
 ∃ A1 n1 A2 n2,v=.agg #[.int .i64 c.who,.int .i64 c.seen,.slice A1 c.base.length n1,.slice A2 c.wait.length n2,.int .i64 c.done,.int .i64 c.made]∧Rd w A1 n1 c.base∧Rd w A2 n2 c.wait
theorem CV.ext {w w':World} {c:Client} {v:Value} (h:CV w c v) (hb:Ext w w'):CV w' c v:=by
 obtain ⟨A1,n1,A2,n2,rfl,h1,h2⟩:=h
 exact ⟨A1,n1,A2,n2,rfl,h1.ext hb,h2.ext hb⟩
def CO (w:World) (base:Nat) (c:Client) (v:Value):Prop:=
 ∃ A1 n1 A2 n2,v=.agg #[.int .i64 c.who,.int .i64 c.seen,.slice A1 c.base.length n1,.slice A2 c.wait.length n2,.int .i64 c.done,.int .i64 c.made]∧Own 46 w base (.slice A1 c.base.length n1) c.base∧Own 35 w base (.slice A2 c.wait.length n2) c.wait
theorem CO.cv {w:World} {base:Nat} {c:Client} {v:Value} (h:CO w base c v):CV w c v:=by
 obtain ⟨A1,n1,A2,n2,rfl,h1,h2⟩:=h
 obtain ⟨A3,n3,e3,r3⟩:=h1.rd
 obtain ⟨A4,n4,e4,r4⟩:=h2.rd
 cases e3;cases e4
 exact ⟨_,_,_,_,rfl,r3,r4⟩
theorem Own.of_blocks {α:Type} [Flat α] {e:TypeId} {w w':World} {base:Nat} {v:Value} {l:List α} (h:Own e w base v l) (hb:∀ k,base≤k→k<w.heap.size→w'.heap[k]?=w.heap[k]?):Own e w' base v l:=by
 refine ⟨⟨h.1.1,?_⟩,h.2⟩
 rcases h.1.2 with h1 | ⟨g,cap,cur,h1,h2,h3,h4⟩
 ·exact .inl h1
 ·exact .inr ⟨g,cap,cur,h1,h2,(hb g h2 (blk_lt h3)).trans h3,h4⟩
theorem two_new (w:World) (x y:Obj):((w.alloc x).alloc y).heap[w.heap.size]?=some x∧((w.alloc x).alloc y).heap[w.heap.size+1]?=some y:=by
 have:=two_alloc w x y
 exact this.2
theorem six_cells {W:World} {b:Nat} {v0 v1 v2 v3 v4 v5:Value} {ty:TypeId} (h:W.heap[b]?=some (.cells #[v0,v1,v2,v3,v4,v5] ty (0,0))) :
  W.cell? ⟨b,0,none⟩=some v0∧W.cell? ⟨b,1,none⟩=some v1∧W.cell? ⟨b,2,none⟩=some v2∧W.cell? ⟨b,3,none⟩=some v3∧W.cell? ⟨b,4,none⟩=some v4∧W.cell? ⟨b,5,none⟩=some v5∧∀ o,W.frozen? ⟨b,o,none⟩=false:=by
 refine ⟨by simp [World.cell?,h],by simp [World.cell?,h],by simp [World.cell?,h],by simp [World.cell?,h],by simp [World.cell?,h],by simp [World.cell?,h],fun o=>by simp [World.frozen?,h]⟩
theorem set_at {W:World} {b i:Nat} {c:Array Value} {ty:TypeId} {m:Nat × Nat} {v:Value} (h:W.heap[b]?=some (.cells c ty m)):(W.setCell ⟨b,i,none⟩ v).heap[b]?=some (.cells (c.setIfInBounds i v) ty m):=by
 unfold World.setCell
 simp only [Array.getElem?_modify,h];rfl
set_option maxRecDepth 100000 in
theorem copyClient_c (c:Client) (v:Value) (w:World) (h:CV w c v) (hb:c.base.length≤1000000) (hw:c.wait.length≤1000000) :
  Calls Tryz.prog 34 #[v] w fun r w'=>∃ v',r=.returned v'∧CO w' w.heap.size c v'∧Ext w w':=by
 obtain ⟨A1,n1,A2,n2,rfl,h1,h2⟩:=h
 have H1:=Lib.hid h1;have H2:=Lib.hid h2
 clear h1 h2
 go_enter Tryz.func34,Tryz.ntmps34
 go_wp2_with fail
 have hX:=two_new w (oC c A1 n1 A2 n2) oC0
 refine (clone_row A1 n1 c.base _ ((H1.out.alloc _).alloc _) hb).mono ?_
 rintro e w1 ⟨v1,rfl,hown1,hb1⟩
 obtain ⟨A3,n3,rfl,hr3⟩:=hown1.rd
 have x1:=(hb1.block w.heap.size (by rw [alloc_sz,alloc_sz];omega)).trans hX.1
 have x2:=(hb1.block (w.heap.size+1) (by rw [alloc_sz,alloc_sz];omega)).trans hX.2
 have hs1:=hb1.size
 rw [alloc_sz,alloc_sz] at hs1
 have hE1:Ext w w1:=((Below.refl _ w).alloc (Nat.le_refl _) _).trans ((((Below.refl _ _).alloc (Nat.le_refl _) _).mono (by rw [alloc_sz];omega)).trans (hb1.mono (by rw [alloc_sz,alloc_sz];omega)))
 have HE1:=Lib.hid hE1;have HO1:=Lib.hid hown1;have X1:=Lib.hid x1;have X2:=Lib.hid x2
 obtain ⟨c0,c1,c2,c3,c4,c5,cf⟩:=six_cells x1
 have hlt1:w.heap.size<w1.heap.size:=by omega
 have hlt2:w.heap.size+1<w1.heap.size:=by omega
 clear hown1 hr3 hb1 hE1 x1 x2 hX
 go_wp2_with fail
 have hE2:Ext w (w1.setCell ⟨w.heap.size,2,none⟩ (.slice A3 c.base.length n3)):=HE1.out.setCell (Nat.le_refl _) _
 have HE2:=Lib.hid hE2
 refine (clone_ent A2 n2 c.wait _ (H2.out.ext hE2) hw).mono ?_
 rintro e w3 ⟨v3,rfl,hown3,hb3⟩
 obtain ⟨A4,n4,rfl,hr4⟩:=hown3.rd
 have y1:=(hb3.block w.heap.size (by rw [setsz];omega)).trans (set_at X1.out)
 have y2:=(hb3.block (w.heap.size+1) (by rw [setsz];omega)).trans ((setx (by omega)).trans X2.out)
 have hs3:=hb3.size
 rw [setsz] at hs3
 have HO3:=Lib.hid hown3;have HB3:=Lib.hid hb3
 have hlt3:w.heap.size<w3.heap.size:=by omega
 have hlt4:w.heap.size+1<w3.heap.size:=by omega
 clear c0 c1 c2 c3 c4 c5 cf
 obtain ⟨c0,c1,c2,c3,c4,c5,cf⟩:=six_cells (v0:=.int .i64 c.who) (v1:=.int .i64 c.seen) (v2:=.slice A3 c.base.length n3) (v3:=.slice A2 c.wait.length n2) (v4:=.int .i64 c.done) (v5:=.int .i64 c.made) y1
 obtain ⟨d0,d1,d2,d3,d4,d5,df⟩:=six_cells y2
 have Y1:=Lib.hid y1;have Y2:=Lib.hid y2
 clear hown3 hb3 hr4 hE2 y1 y2
 go_wp2_with fail
 have hz:=set_at (v:=.int .i64 c.made) (i:=5) (set_at (v:=.int .i64 c.done) (i:=4) (set_at (v:=.slice A4 c.wait.length n4) (i:=3) (set_at (v:=.slice A3 c.base.length n3) (i:=2) (set_at (v:=.int .i64 c.seen) (i:=1) (set_at (v:=.int .i64 c.who) (i:=0) ((setx (o:=3) (v:=.slice A4 c.wait.length n4) (b:=w.heap.size) (by omega)).trans Y2.out))))))
 obtain ⟨k0,k1,k2,k3,k4,k5,kf⟩:=six_cells (v0:=.int .i64 c.who) (v1:=.int .i64 c.seen) (v2:=.slice A3 c.base.length n3) (v3:=.slice A4 c.wait.length n4) (v4:=.int .i64 c.done) (v5:=.int .i64 c.made) hz
 refine bodyPost_ret (v:=.agg (cC c A3 n3 A4 n4)) ?_ rfl ?_
 ·simp [results,Tryz.f34,go_sem,k0,k1,k2,k3,k4,k5]
 ·have hfar:∀ k,w.heap.size+2≤k→(((((((w3.setCell ⟨w.heap.size,3,none⟩ (.slice A4 c.wait.length n4)).setCell ⟨w.heap.size+1,0,none⟩ (.int .i64 c.who)).setCell ⟨w.heap.size+1,1,none⟩ (.int .i64 c.seen)).setCell ⟨w.heap.size+1,2,none⟩ (.slice A3 c.base.length n3)).setCell ⟨w.heap.size+1,3,none⟩ (.slice A4 c.wait.length n4)).setCell ⟨w.heap.size+1,4,none⟩ (.int .i64 c.done)).setCell ⟨w.heap.size+1,5,none⟩ (.int .i64 c.made)).heap[k]?=w3.heap[k]?:=fun k hk=>
   (setx (by omega)).trans ((setx (by omega)).trans ((setx (by omega)).trans ((setx (by omega)).trans ((setx (by omega)).trans ((setx (by omega)).trans (setx (by omega)))))))
  have r1:=(HO1.out.of_blocks (w':=_) (fun k hk hkl=>(hfar k (by rw [alloc_sz,alloc_sz] at hk;omega)).trans ((HB3.out.block k (by rw [setsz];exact hkl)).trans (setx (by rw [alloc_sz,alloc_sz] at hk;omega))))).lower (base':=w.heap.size) (by rw [alloc_sz,alloc_sz];omega)
  have r2:=(HO3.out.of_blocks (w':=_) (fun k hk hkl=>hfar k (by rw [setsz] at hk;omega))).lower (base':=w.heap.size) (by rw [setsz];omega)
  refine ⟨_,rfl,⟨_,_,_,_,rfl,r1,r2⟩,?_⟩
  exact (((((((HE2.out.trans (HB3.out.mono (by rw [setsz];omega))).setCell (Nat.le_refl _) _).setCell (Nat.le_succ _) _).setCell (Nat.le_succ _) _).setCell (Nat.le_succ _) _).setCell (Nat.le_succ _) _).setCell (Nat.le_succ _) _).setCell (Nat.le_succ _) _
end Go.Proofs.YtecmcjfdaipfcaaGreatDoor
