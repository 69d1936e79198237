/- Outlines that are ok, row by row: plain. .. Walk of the reference: rows are put under a row. -/
import Derived.Test.YtecmcjfdaipfcaaGreatDoorYAA
import Derived.Test.YtecmcjfdaipfcaaGreatDoorYAI
import Derived.Deep.RegionHeld3
import Derived.Deep.DeepCutAuto
import Derived.Deep.CutRange
import Derived.Deep.CutBlock
namespace Go.Proofs.YtecmcjfdaipfcaaGreatDoor
set_option linter.unusedVariables false
def rootsN (l:List Row):Nat:=l.countP (fun r=>isRoot r.id)
def dAt (t:List Row):Nat→Int
 |0=>-1
 |k+1=>match t[k]? with | some x=>x.depth | none=>0
def GT (t:List Row) (k:Nat):Prop:=∀ r,t[k]?=some r→rowOk r=true∧r.depth≤dAt t k+1∧(isRoot r.id=true→r.id=rootsN (t.take k)+1)∧∀ x∈t.take k,x.id≠r.id
theorem treeOkF_iff:∀ (l pre:List Row) (seen:List Int) (R d:Int),(∀ x,x∈seen↔∃ q∈pre,q.id=x)→R=rootsN pre→d=dAt (pre++l) pre.length →
  (treeOkF seen R d l=true↔(∀ k,pre.length≤k→k<(pre++l).length→GT (pre++l) k)∧rootsN (pre++l)=3):=by
 intro l
 induction l with
 |nil=>
  intro pre seen R d hs hR hd
  simp only [treeOkF,decide_eq_true_eq,List.append_nil]
  constructor
  ·intro h;exact ⟨fun k h1 h2=>by omega,by omega⟩
  ·intro h;omega
 |cons r l ih=>
  intro pre seen R d hs hR hd
  have hat:(pre++r::l)[pre.length]?=some r:=by simp
  have htk:(pre++r::l).take pre.length=pre:=by simp
  have he:pre++r::l=(pre++[r])++l:=by simp
  have hs':∀ x,x∈r.id::seen↔∃ q∈pre++[r],q.id=x:=by
   intro x
   simp only [List.mem_cons,hs,List.mem_append,List.not_mem_nil,or_false]
   constructor
   ·rintro (h | ⟨q,hq,h⟩)
    ·exact ⟨r,.inr rfl,h.symm⟩
    ·exact ⟨q,.inl hq,h⟩
   ·rintro ⟨q,hq | rfl,h⟩
    ·exact .inr ⟨q,hq,h⟩
    ·exact .inl h.symm
  have hd':r.depth=dAt ((pre++[r])++l) (pre++[r]).length:=by rw [←he];simp [dAt]
  have hsplit:(∀ k,pre.length≤k→k<(pre++r::l).length→GT (pre++r::l) k)↔GT (pre++r::l) pre.length∧∀ k,(pre++[r]).length≤k→k<((pre++[r])++l).length→GT ((pre++[r])++l) k:=by
   rw [←he]
   constructor
   ·intro h
    exact ⟨h _ (Nat.le_refl _) (by simp),fun k h1 h2=>h k (by simp at h1;omega) h2⟩
   ·rintro ⟨h0,h⟩ k h1 h2
    by_cases e:k=pre.length
    ·subst e;exact h0
    ·exact h k (by simp;omega) h2
  have hgt:GT (pre++r::l) pre.length↔rowOk r=true∧r.depth≤d+1∧(isRoot r.id=true→r.id=R+1)∧∀ x∈pre,x.id≠r.id:=by
   unfold GT
   rw [hat,htk,←hd,hR]
   constructor
   ·intro h;exact h r rfl
   ·intro h r' e;obtain rfl:=Option.some.inj e;exact h
  have hseen:seen.contains r.id=true↔∃ x∈pre,x.id=r.id:=by rw [List.contains_iff_mem,hs]
  rw [hsplit,hgt]
  unfold treeOkF
  by_cases hr:isRoot r.id=true
  ·have hR':R+1=((rootsN (pre++[r]):Nat):Int):=by
    unfold rootsN at hR ⊢;rw [List.countP_append];simp [hr];omega
   have:=ih (pre++[r]) (r.id::seen) (R+1) r.depth hs' hR' hd'
   rw [if_pos hr]
   simp only [Bool.and_eq_true,decide_eq_true_eq,Bool.not_eq_true',this,hr,true_implies]
   rw [←he]
   constructor
   ·rintro ⟨⟨⟨h1,h2⟩,h3⟩,h4,h5,h6⟩
    exact ⟨⟨⟨h1,h3,h4,fun x hx e=>by rw [hseen.2 ⟨x,hx,e⟩] at h2;cases h2⟩,h5⟩,h6⟩
   ·rintro ⟨⟨⟨h1,h3,h4,h2⟩,h5⟩,h6⟩
    refine ⟨⟨⟨h1,?_⟩,h3⟩,h4,h5,h6⟩
    rw [Bool.eq_false_iff];intro hc;obtain ⟨x,hx,e⟩:=hseen.1 hc;exact h2 x hx e
  ·have hR':R=((rootsN (pre++[r]):Nat):Int):=by
    unfold rootsN at hR ⊢;rw [List.countP_append];simp [hr];omega
   have:=ih (pre++[r]) (r.id::seen) R r.depth hs' hR' hd'
   rw [if_neg hr]
   simp only [Bool.and_eq_true,decide_eq_true_eq,Bool.not_eq_true',this]
   rw [←he]
   constructor
   ·rintro ⟨⟨⟨h1,h2⟩,h3⟩,h5,h6⟩
    exact ⟨⟨⟨h1,h3,fun h=>absurd h hr,fun x hx e=>by rw [hseen.2 ⟨x,hx,e⟩] at h2;cases h2⟩,h5⟩,h6⟩
   ·rintro ⟨⟨⟨h1,h3,h4,h2⟩,h5⟩,h6⟩
    refine ⟨⟨⟨h1,?_⟩,h3⟩,h5,h6⟩
    rw [Bool.eq_false_iff];intro hc;obtain ⟨x,hx,e⟩:=hseen.1 hc;exact h2 x hx e
def GS (t:List Row) (k:Nat):Prop:=∀ r,t[k]?=some r→rowOk r=true∧(0<k→r.depth≤dAt t k+1)∧(isRoot r.id=true→r.id=rootsN (t.take k)+1)∧∀ x∈t.take k,x.id≠r.id
theorem treeOk_ts (t:List Row):treeOk t=true↔(∀ k,k<t.length→GS t k)∧rootsN t=3∧∃ r,t[0]?=some r∧r.id=1:=by
 have h:=treeOkF_iff t [] [] 0 (-1) (by simp) (by simp [rootsN]) (by simp [dAt])
 simp only [List.nil_append,List.length_nil,Nat.zero_le,true_implies] at h
 unfold treeOk
 rw [h]
 constructor
 ·rintro ⟨h1,h2⟩
  refine ⟨fun k hk r hr=>?_,h2,?_⟩
  ·obtain ⟨a,b,c,d⟩:=h1 k hk r hr
   exact ⟨a,fun _=>b,c,d⟩
  ·cases t with
   |nil=>simp [rootsN] at h2
   |cons r t=>
    refine ⟨r,by simp,?_⟩
    obtain ⟨a,b,c,d⟩:=h1 0 (by simp) r (by simp)
    simp only [dAt] at b
    by_cases hr:isRoot r.id=true
    ·have:=c hr;simp [rootsN] at this;exact this
    ·simp [rowOk,hr] at a;omega
 ·rintro ⟨h1,h2,r0,h3,h4⟩
  refine ⟨fun k hk r hr=>?_,h2⟩
  obtain ⟨a,b,c,d⟩:=h1 k hk r hr
  refine ⟨a,?_,c,d⟩
  cases k with
  |succ k=>exact b (by omega)
  |zero=>
   obtain rfl:=Option.some.inj (h3.symm.trans hr)
   have:isRoot r0.id=true:=by rw [h4];decide
   simp [rowOk,this] at a
   simp only [dAt];omega
theorem rootsN_take (t:List Row) (k:Nat) (hk:k<t.length):rootsN (t.take (k+1))=rootsN (t.take k)+if isRoot t[k].id then 1 else 0:=by
 unfold rootsN;rw [List.take_succ_eq_append_getElem hk,List.countP_append];simp [List.countP_cons,List.countP_nil]
theorem rootsN_le (t:List Row):rootsN t≤t.length:=List.countP_le_length
open Go.RowKit
theorem treeOk_not {t:List Row} {k:Nat} (hk:k<t.length) (h:¬GS t k):treeOk t=false:=by
 rw [Bool.eq_false_iff];intro ht;exact h (((treeOk_ts t).1 ht).1 k hk)
theorem gs_at {t:List Row} {k:Nat} (hk:k<t.length):GS t k↔rowOk t[k]=true∧(0<k→t[k].depth≤dAt t k+1)∧(isRoot t[k].id=true→t[k].id=rootsN (t.take k)+1)∧∀ j (hj:j<t.length),j<k→t[j].id≠t[k].id:=by
 unfold GS
 rw [List.getElem?_eq_getElem hk]
 constructor
 ·intro h
  obtain ⟨a,b,c,d⟩:=h _ rfl
  refine ⟨a,b,c,fun j hj hjk=>d _ ?_⟩
  rw [List.mem_take_iff_getElem];exact ⟨j,by omega,rfl⟩
 ·rintro ⟨a,b,c,d⟩ r hr
  obtain rfl:=Option.some.inj hr
  refine ⟨a,b,c,fun x hx=>?_⟩
  rw [List.mem_take_iff_getElem] at hx
  obtain ⟨j,hj,rfl⟩:=hx
  exact d j (by omega) (by omega)
set_option maxRecDepth 100000 in
set_option maxHeartbeats 4000000 in
theorem treeOk_s (A:Option Addr) (c:Nat) (t:List Row) (w:World) (hr:Rd w A c t) (hi:∀ r∈t,i64 r.id) :
  Calls Tryz.prog 48 #[.slice A t.length c] w fun x w'=>x=.returned (.bool (treeOk t))∧Ext w w':=by
 have hm:t.length≤maxLen:=Nat.le_trans hr.1 hr.2.1
 unfold maxLen at hm
 have HR:=Lib.hid hr;have HI:=Lib.hid hi
 clear hr hi
 go_enter Tryz.func48,Tryz.ntmps48
 go_wp2_with fail
 go_loopg [3,4] t.length (fun gk a i wr=>∃ k:Nat,k≤t.length∧Hid (gk=t.length - k)∧a=.int .i64 (rootsN (t.take k):Nat)∧i=.int .i64 k∧Hid (∀ j,j<k→GS t j)∧Hid (Ext w wr))
 case atStart=>exact ⟨0,Nat.zero_le _,rfl,rfl,rfl,fun _ h=>by omega,Below.refl _ _⟩
 case round=>
  obtain ⟨k,hk,HK,rfl,rfl,HG,HB⟩:=hrel
  by_cases hlt:k<t.length
  ·have hRr:=HR.out.ext HB.out
   obtain ⟨b,off,rfl,hbl,c0,c1,c2⟩:=row_at hRr k hlt
   have HRr:=Lib.hid hRr
   have hE:=rowOk_s t[k] wr.drew (HI.out _ (List.getElem_mem hlt)) (HR.out.okAt k hlt)
   have HGA:=Lib.hid (gs_at hlt)
   have hlt':(k:Int)<t.length:=by omega
   clear hRr
   go_upto_region 5 with fail
   go_cut [36] (fun s wx=>∃ z:Bool,s=.bool z∧Hid (z=false→rowOk t[k]=true∧(0<k→t[k].depth≤dAt t k+1))∧Hid (z=true→¬GS t k)∧Hid (Ext wr wx))
   case first=>
    cases hok:rowOk t[k]
    ·rw [hok] at hE
     have HE:=Lib.hid hE
     have HN:Hid (¬GS t k):=fun h=>by have:=(HGA.out.1 h).1;rw [hok] at this;cases this
     clear hE hok
     refine wp_region_any (by kernel_rfl) ?_
     change wpAny _ _ _ _ _ _ _ (World.drew _)
     refine wpAny_take (i:=0) (v:=?_) rfl (by kernel_rfl) (by kernel_rfl) (by kernel_rfl) (fun _ _ _ h=>h) (Or.inl ⟨by rfl,?_⟩) ?_
     rotate_left
     ·(intro w;go_simp;try with_reducible rfl)
     refine wpAny_take (i:=1) (v:=?_) rfl (by kernel_rfl) (by kernel_rfl) (by kernel_rfl) (fun _ _ _ h=>h) (Or.inl ⟨by rfl,?_⟩) ?_
     rotate_left
     ·(intro w;go_simp;try with_reducible rfl)
     refine wpAny_take (i:=2) (v:=?_) rfl (by kernel_rfl) (by kernel_rfl) (by kernel_rfl) (fun _ _ _ h=>h) (Or.inl ⟨by rfl,?_⟩) ?_
     rotate_left
     ·(intro w;go_simp;try with_reducible rfl)
     refine wpAny_ready (rs:=[3]) (by kernel_rfl) (by simp) ?_
     refine AllReady.cons rfl (fun K hK=>?_) AllReady.nil
     go_simp
     refine hK _ _ ?_;clear hK K
     refine wpAny_ready (rs:=[4]) (by kernel_rfl) (by simp) ?_
     refine AllReady.cons rfl (fun K hK=>?_) AllReady.nil
     go_simp
     go_wp2_with (go_at_call 89;refine HE.out.mono ?_;rintro e w1 ⟨rfl,hb1⟩;obtain ⟨hc1,hf1⟩:=bcell hb1;have HB1:=Lib.hid hb1)
     refine wpAny_ready (rs:=[5]) (by kernel_rfl) (by simp) ?_
     refine AllReady.cons rfl (fun K hK=>?_) AllReady.nil
     go_simp
     refine hK _ _ ?_;clear hK K
     refine wpAny_ready (rs:=[6]) (by kernel_rfl) (by simp) ?_
     refine AllReady.cons rfl (fun K hK=>?_) AllReady.nil
     go_simp
     refine hK _ _ ?_;clear hK K
     refine any_skip 7 rfl (by kernel_rfl) (by kernel_rfl) (by kernel_rfl) (fun _ _ _ h=>h) (by kernel_rfl) ?_
     refine any_skip 8 rfl (by kernel_rfl) (by kernel_rfl) (by kernel_rfl) (fun _ _ _ h=>h) (by kernel_rfl) ?_
     refine any_skip 9 rfl (by kernel_rfl) (by kernel_rfl) (by kernel_rfl) (fun _ _ _ h=>h) (by kernel_rfl) ?_
     refine any_skip 10 rfl (by kernel_rfl) (by kernel_rfl) (by kernel_rfl) (fun _ _ _ h=>h) (by kernel_rfl) ?_
     refine any_skip 11 rfl (by kernel_rfl) (by kernel_rfl) (by kernel_rfl) (fun _ _ _ h=>h) (by kernel_rfl) ?_
     refine any_skip 12 rfl (by kernel_rfl) (by kernel_rfl) (by kernel_rfl) (fun _ _ _ h=>h) (by kernel_rfl) ?_
     refine any_skip 13 rfl (by kernel_rfl) (by kernel_rfl) (by kernel_rfl) (fun _ _ _ h=>h) (by kernel_rfl) ?_
     refine any_skip 14 rfl (by kernel_rfl) (by kernel_rfl) (by kernel_rfl) (fun _ _ _ h=>h) (by kernel_rfl) ?_
     refine any_skip 15 rfl (by kernel_rfl) (by kernel_rfl) (by kernel_rfl) (fun _ _ _ h=>h) (by kernel_rfl) ?_
     refine any_skip 16 rfl (by kernel_rfl) (by kernel_rfl) (by kernel_rfl) (fun _ _ _ h=>h) (by kernel_rfl) ?_
     refine any_skip 17 rfl (by kernel_rfl) (by kernel_rfl) (by kernel_rfl) (fun _ _ _ h=>h) (by kernel_rfl) ?_
     refine any_skip 18 rfl (by kernel_rfl) (by kernel_rfl) (by kernel_rfl) (fun _ _ _ h=>h) (by kernel_rfl) ?_
     refine any_skip 19 rfl (by kernel_rfl) (by kernel_rfl) (by kernel_rfl) (fun _ _ _ h=>h) (by kernel_rfl) ?_
     refine any_skip 20 rfl (by kernel_rfl) (by kernel_rfl) (by kernel_rfl) (fun _ _ _ h=>h) (by kernel_rfl) ?_
     refine any_skip 21 rfl (by kernel_rfl) (by kernel_rfl) (by kernel_rfl) (fun _ _ _ h=>h) (by kernel_rfl) ?_
     refine any_skip 22 rfl (by kernel_rfl) (by kernel_rfl) (by kernel_rfl) (fun _ _ _ h=>h) (by kernel_rfl) ?_
     refine any_skip 23 rfl (by kernel_rfl) (by kernel_rfl) (by kernel_rfl) (fun _ _ _ h=>h) (by kernel_rfl) ?_
     refine wpAny_ready (rs:=[24]) (by kernel_rfl) (by simp) ?_
     refine AllReady.cons rfl (fun K hK=>?_) AllReady.nil
     go_simp
     refine hK _ _ ?_;clear hK K
     refine wpAny_done (by kernel_rfl) ?_ _
     go_wp2_with fail
     go_meet
     exact ⟨true,rfl,Lib.hid (fun h=>by cases h),Lib.hid (fun _=>HN.out),(Ext.drewN (Below.refl _ _) 1).trans HB1.out⟩
    ·have HOK:=Lib.hid hok
     rw [hok] at hE
     have HE:=Lib.hid hE
     clear hE hok
     by_cases hk0:k=0
     ·subst hk0
      simp only [Nat.zero_mul,Nat.add_zero] at c0 c1 c2
      refine wp_region_any (by kernel_rfl) ?_
      change wpAny _ _ _ _ _ _ _ (World.drew _)
      refine wpAny_take (i:=0) (v:=?_) rfl (by kernel_rfl) (by kernel_rfl) (by kernel_rfl) (fun _ _ _ h=>h) (Or.inl ⟨by rfl,?_⟩) ?_
      rotate_left
      ·(intro w;go_simp;try with_reducible rfl)
      refine wpAny_take (i:=1) (v:=?_) rfl (by kernel_rfl) (by kernel_rfl) (by kernel_rfl) (fun _ _ _ h=>h) (Or.inl ⟨by rfl,?_⟩) ?_
      rotate_left
      ·(intro w;go_simp;try with_reducible rfl)
      refine wpAny_take (i:=2) (v:=?_) rfl (by kernel_rfl) (by kernel_rfl) (by kernel_rfl) (fun _ _ _ h=>h) (Or.inl ⟨by rfl,?_⟩) ?_
      rotate_left
      ·(intro w;go_simp;try with_reducible rfl)
      refine wpAny_ready (rs:=[3]) (by kernel_rfl) (by simp) ?_
      refine AllReady.cons rfl (fun K hK=>?_) AllReady.nil
      go_simp
      refine hK _ _ ?_;clear hK K
      refine wpAny_ready (rs:=[4]) (by kernel_rfl) (by simp) ?_
      refine AllReady.cons rfl (fun K hK=>?_) AllReady.nil
      go_simp
      go_wp2_with (go_at_call 89;refine HE.out.mono ?_;rintro e w1 ⟨rfl,hb1⟩;obtain ⟨hc1,hf1⟩:=bcell hb1;have HB1:=Lib.hid hb1)
      refine wpAny_ready (rs:=[5]) (by kernel_rfl) (by simp) ?_
      refine AllReady.cons rfl (fun K hK=>?_) AllReady.nil
      go_simp
      refine hK _ _ ?_;clear hK K
      refine wpAny_ready (rs:=[6]) (by kernel_rfl) (by simp) ?_
      refine AllReady.cons rfl (fun K hK=>?_) AllReady.nil
      go_simp
      refine hK _ _ ?_;clear hK K
      refine wpAny_ready (rs:=[7]) (by kernel_rfl) (by simp) ?_
      refine AllReady.cons rfl (fun K hK=>?_) AllReady.nil
      go_simp
      refine hK _ _ ?_;clear hK K
      refine wpAny_ready (rs:=[8]) (by kernel_rfl) (by simp) ?_
      refine AllReady.cons rfl (fun K hK=>?_) AllReady.nil
      go_simp
      refine hK _ _ ?_;clear hK K
      refine wpAny_ready (rs:=[9]) (by kernel_rfl) (by simp) ?_
      refine AllReady.cons rfl (fun K hK=>?_) AllReady.nil
      go_simp
      refine hK _ _ ?_;clear hK K
      refine any_skip 10 rfl (by kernel_rfl) (by kernel_rfl) (by kernel_rfl) (fun _ _ _ h=>h) (by kernel_rfl) ?_
      refine any_skip 11 rfl (by kernel_rfl) (by kernel_rfl) (by kernel_rfl) (fun _ _ _ h=>h) (by kernel_rfl) ?_
      refine any_skip 12 rfl (by kernel_rfl) (by kernel_rfl) (by kernel_rfl) (fun _ _ _ h=>h) (by kernel_rfl) ?_
      refine any_skip 13 rfl (by kernel_rfl) (by kernel_rfl) (by kernel_rfl) (fun _ _ _ h=>h) (by kernel_rfl) ?_
      refine any_skip 14 rfl (by kernel_rfl) (by kernel_rfl) (by kernel_rfl) (fun _ _ _ h=>h) (by kernel_rfl) ?_
      refine any_skip 15 rfl (by kernel_rfl) (by kernel_rfl) (by kernel_rfl) (fun _ _ _ h=>h) (by kernel_rfl) ?_
      refine any_skip 16 rfl (by kernel_rfl) (by kernel_rfl) (by kernel_rfl) (fun _ _ _ h=>h) (by kernel_rfl) ?_
      refine any_skip 17 rfl (by kernel_rfl) (by kernel_rfl) (by kernel_rfl) (fun _ _ _ h=>h) (by kernel_rfl) ?_
      refine any_skip 18 rfl (by kernel_rfl) (by kernel_rfl) (by kernel_rfl) (fun _ _ _ h=>h) (by kernel_rfl) ?_
      refine any_skip 19 rfl (by kernel_rfl) (by kernel_rfl) (by kernel_rfl) (fun _ _ _ h=>h) (by kernel_rfl) ?_
      refine any_skip 20 rfl (by kernel_rfl) (by kernel_rfl) (by kernel_rfl) (fun _ _ _ h=>h) (by kernel_rfl) ?_
      refine any_skip 21 rfl (by kernel_rfl) (by kernel_rfl) (by kernel_rfl) (fun _ _ _ h=>h) (by kernel_rfl) ?_
      refine any_skip 22 rfl (by kernel_rfl) (by kernel_rfl) (by kernel_rfl) (fun _ _ _ h=>h) (by kernel_rfl) ?_
      refine wpAny_ready (rs:=[23]) (by kernel_rfl) (by simp) ?_
      refine AllReady.cons rfl (fun K hK=>?_) AllReady.nil
      go_simp
      refine hK _ _ ?_;clear hK K
      refine wpAny_ready (rs:=[24]) (by kernel_rfl) (by simp) ?_
      refine AllReady.cons rfl (fun K hK=>?_) AllReady.nil
      go_simp
      refine hK _ _ ?_;clear hK K
      refine wpAny_done (by kernel_rfl) ?_ _
      go_wp2_with fail
      go_meet
      exact ⟨false,rfl,Lib.hid (fun _=>⟨HOK.out,fun h=>absurd h (Nat.lt_irrefl _)⟩),Lib.hid (fun h=>(by cases h)),(Ext.drewN (Below.refl _ _) 1).trans HB1.out⟩
     ·obtain ⟨m,hmk⟩:∃ m,k=m+1:=⟨k - 1,by omega⟩
      have hml:m<t.length:=by omega
      obtain ⟨b',off',e',hbl',p0,p1,p2⟩:=row_at HRr.out m hml
      cases e'
      have hda:dAt t k=t[m].depth:=by rw [hmk];simp [dAt,List.getElem?_eq_getElem hml]
      have hgm:=((gs_at hml).1 (HG.out m (by omega))).1
      have hdep:t[m].depth≤18∧0≤t[m].depth:=by
       unfold rowOk at hgm;split at hgm
       ·simp at hgm;omega
       ·simp at hgm;omega
      have hw1:IntKind.i64.wrap (t[m].depth+1)=t[m].depth+1:=by rw [IntKind.wrap_i64];omega
      have hw2:IntKind.i64.wrap ((k:Int) - 1)=(m:Int):=by rw [IntKind.wrap_i64];omega
      have hm0:(m:Int)<t.length:=by omega
      have hgt1:decide (0<k)=true:=by simp;omega
      have hgt0:decide ((0:Int)<(k:Int))=true:=by simp;omega
      have E0:wr.drew.cell? ⟨b,off+k*3,none⟩=some (.int .i64 t[k].id)∧wr.drew.cell? ⟨b,off+k*3+1,none⟩=some (.int .i64 t[k].depth)∧wr.drew.cell? ⟨b,off+k*3+2,none⟩=some (.string t[k].text)∧wr.drew.cell? ⟨b,off+m*3+1,none⟩=some (.int .i64 t[m].depth):=⟨c0,c1,c2,p1⟩
      have hq:decide (t[m].depth+1<t[k].depth)=true∨decide (t[m].depth+1<t[k].depth)=false:=by cases decide (t[m].depth+1<t[k].depth) <;> simp
      have HDA:=Lib.hid hda
      have HK0:Hid (0<k):=Nat.pos_of_ne_zero hk0
      clear hda hgm hdep p0 p2 hmk hk0
      rcases hq with hq | hq
      all_goals
       go_region_held3 (fun w'=>w'.cell? ⟨b,off+k*3,none⟩=some (.int .i64 t[k].id)∧w'.cell? ⟨b,off+k*3+1,none⟩=some (.int .i64 t[k].depth)∧w'.cell? ⟨b,off+k*3+2,none⟩=some (.string t[k].text)∧w'.cell? ⟨b,off+m*3+1,none⟩=some (.int .i64 t[m].depth))
        (first | exact E1 | exact E0 | go_keep)
        (first
         |(go_at_call 89;refine HE.out.mono ?_;rintro e w1 ⟨rfl,hb1⟩;obtain ⟨hc1,hf1⟩:=bcell hb1
           have E1:w1.cell? ⟨b,off+k*3,none⟩=some (.int .i64 t[k].id)∧w1.cell? ⟨b,off+k*3+1,none⟩=some (.int .i64 t[k].depth)∧w1.cell? ⟨b,off+k*3+2,none⟩=some (.string t[k].text)∧w1.cell? ⟨b,off+m*3+1,none⟩=some (.int .i64 t[m].depth):=⟨(hc1 _ _ hbl).trans c0,(hc1 _ _ hbl).trans c1,(hc1 _ _ hbl).trans c2,(hc1 _ _ hbl).trans p1⟩
           have HB1:=Lib.hid hb1;clear hc1 hf1 hb1))
      ·go_wp2_with fail
       go_meet
       exact ⟨true,rfl,Lib.hid (fun h=>by cases h),Lib.hid (fun _ h=>by have h9:=(HGA.out.1 h).2.1 HK0.out;rw [HDA.out] at h9;simp at hq;omega),(Ext.drewN (Below.refl _ _) 1).trans HB1.out⟩
      ·go_wp2_with fail
       go_meet
       exact ⟨false,rfl,Lib.hid (fun _=>⟨HOK.out,fun _=>by rw [HDA.out];simp at hq;omega⟩),Lib.hid (fun h=>(by cases h)),(Ext.drewN (Below.refl _ _) 1).trans HB1.out⟩
   case rest=>
    obtain ⟨z,rfl,HF,HT,HBX⟩:=hcut
    cases z
    ·obtain ⟨hrk,hdk⟩:=HF.out rfl
     have HRK:=Lib.hid hrk;have HDK:=Lib.hid hdk
     have hex:=HB.out.trans (HBX.out.mono HB.out.size)
     have hRx:=HR.out.ext hex
     have hbx:b<wc.heap.size:=Nat.lt_of_lt_of_le hbl HBX.out.size
     obtain ⟨b',off',e',hbl',d0,d1,d2⟩:=row_at hRx k hlt
     cases e'
     have HRT:=Lib.hid (root_s t[k].id wc)
     have HRx:=Lib.hid hRx;have HEX:=Lib.hid hex
     have HTK:=Lib.hid (rootsN_take t k hlt)
     have hrn:rootsN (t.take k)≤k:=Nat.le_trans (rootsN_le _) (by rw [List.length_take];omega)
     generalize hrt:rootsN (t.take k)=rt at *
     clear hrk hdk hex hRx c0 c1 c2 HF HT hE
     go_wp2_with fail
     refine HRT.out.mono ?_
     rintro e w' ⟨rfl,hw'⟩
     rw [hw'];clear hw'
     go_upto_if 42 with fail
     go_cut [3] (fun s wx=>s=.int .i64 (rootsN (t.take (k+1)):Nat)∧Hid (isRoot t[k].id=true→t[k].id=(rt:Int)+1)∧wx=wc)
     case first=>
      cases hroot:isRoot t[k].id
      ·have HK1:Hid (rootsN (t.take (k+1))=rt):=by show _=_;rw [HTK.out,hroot];rfl
       have HRF:=Lib.hid hroot
       clear hroot
       go_wp2_with fail
       go_meet
       exact ⟨by rw [HK1.out],Lib.hid (fun h=>by rw [HRF.out] at h;cases h),rfl⟩
      ·have HK1:Hid (rootsN (t.take (k+1))=rt+1):=by show _=_;rw [HTK.out,hroot];rfl
       have hw9:IntKind.i64.wrap ((rt:Int)+1)=(rt:Int)+1:=by rw [IntKind.wrap_i64];omega
       by_cases he:t[k].id=(rt:Int)+1
       ·have he':(t[k].id != (rt:Int)+1)=false:=by simp [he]
        have HEQ:=Lib.hid he
        clear hroot he
        go_wp2_with fail
        go_meet
        exact ⟨by rw [HK1.out];rfl,Lib.hid (fun _=>HEQ.out),rfl⟩
       ·have he':(t[k].id != (rt:Int)+1)=true:=by simp [he]
        have HX:=Lib.hid (treeOk_not hlt (fun h=>he ((HGA.out.1 h).2.2.1 hroot)))
        clear hroot he
        go_wp2_with fail
        go_ret
        exact ⟨by rw [HX.out];rfl,HEX.out⟩
     case rest=>
      obtain ⟨rfl,HROOT,rfl⟩:=hcut
      clear d1 d2 HRT
      go_wp2_with fail
      go_loopg [5] k (fun gj i wr2=>∃ (j n:Nat),wr2=wc.drewN n∧j≤k∧Hid (gj=k - j)∧i=.int .i64 j∧Hid (∀ i (hi:i<t.length),i<j→t[i].id≠t[k].id))
      case atStart=>exact ⟨0,0,rfl,Nat.zero_le _,rfl,rfl,fun i _ h=>by omega⟩
      case round=>
       obtain ⟨j,n,rfl,hj,HJ,rfl,HN⟩:=hrel
       by_cases hjk:j<k
       ·obtain ⟨b',off',e',hbl2,q0,q1,q2⟩:=row_at HRx.out j (by omega)
        cases e'
        have hj0:(j:Int)<t.length:=by omega
        have hdj:decide ((j:Int)<k)=true:=by simpa using hjk
        clear q1 q2
        by_cases he:t[j].id=t[k].id
        ·have he':(t[j].id == t[k].id)=true:=by simp [he]
         have HX:=Lib.hid (treeOk_not hlt (fun h=>(HGA.out.1 h).2.2.2 j (by omega) hjk he))
         clear he
         go_wp2_with fail
         go_quiet (fail)
         go_wp2_with fail
         go_ret
         exact ⟨by rw [HX.out];rfl,Ext.drewN (Ext.drewN HEX.out _) _⟩
        ·have he':(t[j].id == t[k].id)=false:=by simp [he]
         have HN1:Hid (∀ i (hi:i<t.length),i<j+1→t[i].id≠t[k].id):=fun i hi hij=>by
          by_cases e:i=j
          ·subst e;exact he
          ·exact HN.out i hi (by omega)
         clear he
         go_wp2_with fail
         go_quiet (fail)
         go_wp2_with fail
         go_roundg (k - (j+1))
         case measure=>have:=HJ.out;omega
         case rel=>exact ⟨j+1,_,rfl,by omega,rfl,by go_num,HN1⟩
       ·have hjk':j=k:=by omega
        have HGK:Hid (GS t k):=HGA.out.2 ⟨HRK.out,HDK.out,fun h=>by rw [HROOT.out h],fun i hi hik=>HN.out i hi (by omega)⟩
        go_wp2_with fail
        go_roundg (t.length - (k+1))
        case measure=>have:=HK.out;omega
        case rel=>
         refine ⟨k+1,by omega,rfl,rfl,by go_num,fun i hi=>?_,Ext.drewN HEX.out _⟩
         by_cases e:i=k
         ·rw [e];exact HGK.out
         ·exact HG.out i (by omega)
    ·have HX:=Lib.hid (treeOk_not hlt (HT.out rfl))
     clear HT HF hE c0 c1 c2
     go_wp2_with fail
     go_ret
     exact ⟨by rw [HX.out];rfl,HB.out.trans (HBX.out.mono HB.out.size)⟩
  ·have hkl:k=t.length:=by omega
   have hrn:rootsN (t.take k)≤k:=Nat.le_trans (rootsN_le _) (by rw [List.length_take];omega)
   have HT3:=Lib.hid (treeOk_ts t)
   subst hkl
   rw [List.take_length] at hrn ⊢
   by_cases h3:rootsN t=3
   ·have h0:0<t.length:=by omega
    obtain ⟨b,off,rfl,hbl,c0,c1,c2⟩:=row_at (HR.out.ext HB.out) 0 h0
    simp only [Nat.zero_mul,Nat.add_zero] at c0 c1 c2
    have h0':(0:Int)<t.length:=by omega
    have h3':((rootsN t:Nat):Int)=3:=by omega
    have h3b:(((rootsN t:Nat):Int) == 3)=true:=by simp [h3]
    have HX:Hid (treeOk t=(t[0].id == 1)):=by
     show _=_
     rw [Bool.eq_iff_iff,HT3.out]
     simp only [beq_iff_eq,h3,List.getElem?_eq_getElem h0]
     constructor
     ·rintro ⟨_,_,r,hr,h⟩;obtain rfl:=Option.some.inj hr;exact h
     ·intro h;exact ⟨HG.out,trivial,_,rfl,h⟩
    generalize hrt:rootsN t=rt at *
    clear hrt h3 hrn c1 c2
    go_wp2_with fail
    go_ret
    exact ⟨by rw [HX.out];first | rfl | simp [h3b],HB.out⟩
   ·have h3b:(((rootsN t:Nat):Int) == 3)=false:=by simp;omega
    have HX:Hid (treeOk t=false):=by
     show _=_
     rw [Bool.eq_false_iff];intro h;exact h3 (HT3.out.1 h).2.1
    generalize hrt:rootsN t=rt at *
    clear hrt h3 hrn
    go_wp2_with fail
    go_ret
    exact ⟨by rw [HX.out];first | rfl | simp [h3b],HB.out⟩
open Go.RowKit
def kidsTo (t:List Row) (a k:Nat):List Int:=(((t.take k).drop (a+1)).filter (fun r=>decide (r.depth=depAt t a+1))).map (·.id)
theorem depAt_lt (t:List Row) (a:Nat) (ha:a<t.length):depAt t a=t[a].depth:=by unfold depAt;rw [List.getD_eq_getElem?_getD,List.getElem?_eq_getElem ha];rfl
theorem kidsTo_start (t:List Row) (a:Nat):kidsTo t a (a+1)=[]:=by unfold kidsTo;rw [List.drop_of_length_le (by rw [List.length_take];omega)];rfl
theorem kidsTo_next (t:List Row) (a k:Nat) (hk:k<t.length) (ha:a<k):kidsTo t a (k+1)=if t[k].depth=depAt t a+1 then kidsTo t a k++[t[k].id] else kidsTo t a k:=by
 unfold kidsTo
 rw [List.take_succ_eq_append_getElem hk,List.drop_append_of_le_length (by rw [List.length_take];omega),List.filter_append,List.map_append]
 by_cases h:t[k].depth=depAt t a+1 <;> simp [h]
theorem below_eq (t:List Row) (a:Nat):(t.take (endOf t a)).drop (a+1)=below t a:=by
 have h:below t a=(t.drop (a+1)).take (below t a).length:=by
  unfold below
  exact (List.prefix_iff_eq_take.1 (List.takeWhile_prefix _))
 rw [List.drop_take,endOf,show a+1+(below t a).length - (a+1)=(below t a).length by omega]
 exact h.symm
theorem kidsTo_end (t:List Row) (id:Int) (a:Nat) (h:idx t id=some a):kidsTo t a (endOf t a)=kidsOf t id:=by
 unfold kidsTo kidsOf
 rw [h,below_eq]
theorem kidsTo_len (t:List Row) (a k:Nat):(kidsTo t a k).length≤t.length:=by
 unfold kidsTo
 rw [List.length_map]
 refine Nat.le_trans (List.length_filter_le _ _) ?_
 rw [List.length_drop,List.length_take];omega
set_option maxRecDepth 100000 in
set_option maxHeartbeats 2000000 in
theorem kids_s (A:Option Addr) (c:Nat) (t:List Row) (id:Int) (w:World) (hr:Rd w A c t) (hl:t.length≤1000) (hok:∀ r∈t,rowOk r=true) :
  Calls Tryz.prog 70 #[.slice A t.length c,.int .i64 id] w fun e w'=>∃ v,e=.returned v∧Own 3 w' w.heap.size v (kidsOf t id)∧Ext w w':=by
 have HR:=Lib.hid hr;have HOK:=Lib.hid hok
 have hm0:Own 3 (w.alloc (.cells #[] 3)) w.heap.size (.slice (some ⟨w.heap.size,0,none⟩) 0 0) ([]:List Int):=own_made w w.heap.size (Nat.le_refl _)
 have hE0:Ext w (w.alloc (.cells #[] 3)):=(Below.refl _ _).alloc (Nat.le_refl _) _
 have HM0:=Lib.hid hm0;have HE0:=Lib.hid hE0
 have HAT:=Lib.hid (at_s A c t id (w.alloc (.cells #[] 3)) (hr.alloc _))
 clear hr hok hm0 hE0
 cases hx:idx t id with
 |none=>
  have hat:atI t id=-1:=by unfold atI;rw [hx]
  have HK:Hid (kidsOf t id=[]):=by show _=_;unfold kidsOf;rw [hx]
  rw [hat] at HAT
  clear hat hx
  go_enter Tryz.func70,Tryz.ntmps70
  go_wp2_with fail
  refine HAT.out.mono ?_;rintro e w1 ⟨rfl,rfl⟩
  go_wp2_with fail
  go_ret
  exact ⟨_,rfl,by rw [HK.out];exact HM0.out,HE0.out⟩
 |some a=>
  have hat:atI t id=a:=by unfold atI;rw [hx]
  have ha:=idx_lt hx
  have HK:=Lib.hid (kidsTo_end t id a hx)
  rw [hat] at HAT
  have hda:=rowOk_id (HOK.out t[a] (List.getElem_mem ha))
  obtain ⟨-,-,hda0,hda1⟩:=hda
  have hdd:=depAt_lt t a ha
  have HDD:=Lib.hid hdd
  have her:=endOf_range t a ha
  obtain ⟨her0,her1⟩:=her
  clear hat hx hdd
  go_enter Tryz.func70,Tryz.ntmps70
  go_wp2_with fail
  refine HAT.out.mono ?_;rintro e w1 ⟨rfl,rfl⟩
  clear HAT
  go_wp2_with fail
  go_loopg [5,7] (t.length - (a+1)) (fun gk v i wr=>∃ k:Nat,k≤endOf t a∧a<k∧Hid (gk=t.length - k)∧i=.int .i64 k∧Hid (Own 3 wr w.heap.size v (kidsTo t a k))∧Hid (Ext w wr))
  case atStart=>exact ⟨a+1,by omega,by omega,rfl,by go_num,by show Own _ _ _ _ _;rw [kidsTo_start];exact HM0.out,HE0.out⟩
  case round=>
   obtain ⟨k,hk,hak,HKK,rfl,HO,HE⟩:=hrel
   have hsz:=HE.out.size
   have HEN:=Lib.hid (end_s A c t a wr (HR.out.ext HE.out) ha)
   by_cases hlt:k<endOf t a
   ·have hkl:k<t.length:=by omega
    obtain ⟨b,off,rfl,hbl,a0,a1,a2⟩:=row_at (HR.out.ext HE.out) a ha
    obtain ⟨b',off',e',hbl',c0,c1,c2⟩:=row_at (HR.out.ext HE.out) k hkl
    cases e'
    have hkl':(k:Int)<t.length:=by omega
    have ha':(a:Int)<t.length:=by omega
    have HN:=Lib.hid (kidsTo_next t a k hkl hak)
    obtain ⟨A2,n2,rfl,-⟩:=HO.out.rd
    have hklen:=kidsTo_len t a k
    by_cases hd:t[k].depth=t[a].depth+1
    ·have hN2:Hid (kidsTo t a (k+1)=kidsTo t a k++[t[k].id]):=by show _=_;rw [HN.out,HDD.out,if_pos hd]
     have hd':(t[k].depth == t[a].depth+1)=true:=by simp [hd]
     clear hd
     go_wp2_with fail
     refine HEN.out.mono ?_;rintro e w2 ⟨rfl,n1,rfl⟩
     go_wp2_with fail
     go_quiet (fail)
     obtain ⟨W3,hW3⟩:∃ W3,W3=(wr.drewN n1).drewN nq:=⟨_,rfl⟩
     rw [←hW3]
     have x0:W3.cell? ⟨b,off+k*3,none⟩=some (.int .i64 t[k].id):=by rw [hW3];exact c0
     have hE3:Ext w W3:=by rw [hW3];exact Ext.drewN (Ext.drewN HE.out _) _
     have hO3:Own 3 W3 w.heap.size (.slice A2 (kidsTo t a k).length n2) (kidsTo t a k):=by rw [hW3];exact HO.out.below (Ext.drewN (Ext.drewN (Below.refl _ _) _) _)
     obtain ⟨v',w4,hrun,hown4,hg4⟩:=app_one el_int hO3 t[k].id trivial (by omega) hE3.size #[.int .i64 t[k].id] rfl
     have hB4:=hO3.over_one hE3 hg4 (Nat.le_refl _) hE3.size
     have HO4:=Lib.hid hown4;have HB4:=Lib.hid hB4
     clear hW3 hE3 hO3 hown4 hg4 hB4 a0 a1 a2 c0 c1 c2
     go_wp2_with (at_builtin;refine wpList_append_run rfl _ _ _ rfl rfl rfl hrun ?_)
     go_roundg (t.length - (k+1))
     case measure=>have:=HKK.out;omega
     case rel=>exact ⟨k+1,by omega,by omega,rfl,by go_num,by rw [hN2.out];exact HO4.out,HB4.out⟩
    ·have hN2:Hid (kidsTo t a (k+1)=kidsTo t a k):=by show _=_;rw [HN.out,HDD.out,if_neg hd]
     have hd':(t[k].depth == t[a].depth+1)=false:=by simp [hd]
     clear hd
     go_wp2_with fail
     refine HEN.out.mono ?_;rintro e w2 ⟨rfl,nq,rfl⟩
     go_wp2_with fail
     go_quiet (fail)
     go_wp2_with fail
     go_roundg (t.length - (k+1))
     case measure=>have:=HKK.out;omega
     case rel=>exact ⟨k+1,by omega,by omega,rfl,by go_num,by rw [hN2.out];exact (HO.out.below (Ext.drewN (Below.refl _ _) _)),Ext.drewN HE.out _⟩
   ·have hke:k=endOf t a:=by omega
    rw [hke] at HO
    have HKE:=Lib.hid hke
    clear hke
    go_wp2_with fail
    refine HEN.out.mono ?_;rintro e w2 ⟨rfl,nq,rfl⟩
    go_wp2_with fail
    go_ret
    exact ⟨_,rfl,by rw [←HK.out];exact (HO.out.below (Ext.drewN (Below.refl _ _) _)),Ext.drewN HE.out _⟩
set_option maxRecDepth 100000 in
set_option maxHeartbeats 1000000 in
theorem under_s (A:Option Addr) (c:Nat) (t:List Row) (id under:Int) (w:World) (hr:Rd w A c t) :
  Calls Tryz.prog 143 #[.slice A t.length c,.int .i64 id,.int .i64 under] w fun e w'=>e=.returned (.bool (underL t id under))∧∃ n,w'=w.drewN n:=by
 have hm:t.length≤maxLen:=Nat.le_trans hr.1 hr.2.1
 unfold maxLen at hm
 have HA:=Lib.hid (at_s A c t id w hr)
 have HB:=Lib.hid (at_s A c t under w hr)
 have HR:=Lib.hid hr
 clear hr
 cases hx:idx t id with
 |none=>
  have hat:atI t id=-1:=by unfold atI;rw [hx]
  have HK:Hid (underL t id under=false):=by show _=_;unfold underL;rw [hx]
  rw [hat] at HA
  clear hat hx
  go_enter Tryz.func143,Tryz.ntmps143
  go_wp2_with fail
  refine HA.out.mono ?_;rintro e w1 ⟨rfl,rfl⟩
  go_wp2_with fail
  refine HB.out.mono ?_;rintro e w1 ⟨rfl,rfl⟩
  go_wp2_with fail
  go_ret
  exact ⟨by rw [HK.out];rfl,0,rfl⟩
 |some a=>
  have hat:atI t id=a:=by unfold atI;rw [hx]
  rw [hat] at HA
  clear hat
  cases hy:idx t under with
  |none=>
   have hbt:atI t under=-1:=by unfold atI;rw [hy]
   have HK:Hid (underL t id under=false):=by show _=_;unfold underL;rw [hx,hy]
   rw [hbt] at HB
   clear hbt hx hy
   go_enter Tryz.func143,Tryz.ntmps143
   go_wp2_with fail
   refine HA.out.mono ?_;rintro e w1 ⟨rfl,rfl⟩
   go_wp2_with fail
   refine HB.out.mono ?_;rintro e w1 ⟨rfl,rfl⟩
   go_wp2_with fail
   go_ret
   exact ⟨by rw [HK.out];rfl,0,rfl⟩
  |some b=>
   have hbt:atI t under=b:=by unfold atI;rw [hy]
   rw [hbt] at HB
   have hb:=idx_lt hy
   have her:=endOf_range t b hb
   obtain ⟨her0,her1⟩:=her
   have HEN:=Lib.hid (end_s A c t b w HR.out hb)
   have HK:Hid (underL t id under=inR a b ((endOf t b:Int) - 1)):=by
    show _=_;unfold underL inR;rw [hx,hy]
    rw [Bool.eq_iff_iff];simp only [decide_eq_true_eq];omega
   clear hbt hx hy
   go_enter Tryz.func143,Tryz.ntmps143
   go_wp2_with fail
   refine HA.out.mono ?_;rintro e w1 ⟨rfl,rfl⟩
   go_wp2_with fail
   refine HB.out.mono ?_;rintro e w1 ⟨rfl,rfl⟩
   go_wp2_with fail
   refine HEN.out.mono ?_;rintro e w1 ⟨rfl,n1,rfl⟩
   go_wp2_with fail
   refine (in_c _ _ _ _).mono ?_;rintro e w1 ⟨rfl,rfl⟩
   go_wp2_with fail
   go_ret
   exact ⟨by rw [HK.out];rfl,_,rfl⟩
open Go.RowKit
theorem int_at {w:World} {A:Option Addr} {c:Nat} {l:List Int} (h:Rd w A c l) (k:Nat) (hk:k<l.length) :
  ∃ b off,A=some ⟨b,off,none⟩∧b<w.heap.size∧w.cell? ⟨b,off+k,none⟩=some (.int .i64 l[k]):=by
 obtain ⟨b,off,rfl,hb,hc⟩:=h.at_ k hk
 have h0:=hc 0 _ rfl
 exact ⟨b,off,rfl,hb,by
  have e:off+(k*1+0)=off+k:=by omega
  rw [←e];exact h0⟩
theorem five_cells {W:World} {b:Nat} {v0 v1 v2 v3 v4:Value} {ty:TypeId} (h:W.heap[b]?=some (.cells #[v0,v1,v2,v3,v4] ty (0,0))) :
  W.cell? ⟨b,0,none⟩=some v0∧W.cell? ⟨b,1,none⟩=some v1∧W.cell? ⟨b,2,none⟩=some v2∧W.cell? ⟨b,3,none⟩=some v3∧W.cell? ⟨b,4,none⟩=some v4∧∀ o,W.frozen? ⟨b,o,none⟩=false:=by
 refine ⟨by simp [World.cell?,h],by simp [World.cell?,h],by simp [World.cell?,h],by simp [World.cell?,h],by simp [World.cell?,h],fun o=>by simp [World.frozen?,h]⟩
def whV (r:Option (Int × Int)):Value:=match r with | none=>.tuple #[.int .i64 0,.int .i64 0,.bool false] | some (u,p)=>.tuple #[.int .i64 u,.int .i64 p,.bool true]
def posTo (ks:List Int) (id pos:Int):Int:=if pos∈ks∧pos≠id then pos else 0
theorem posTo_next (ks:List Int) (id pos:Int) (k:Nat) (hk:k<ks.length):posTo (ks.take (k+1)) id pos=if ks[k]=pos∧pos≠id then pos else posTo (ks.take k) id pos:=by
 have hm:(pos∈ks.take (k+1))↔(pos∈ks.take k∨pos=ks[k]):=by rw [List.take_succ_eq_append_getElem hk,List.mem_append,List.mem_singleton]
 unfold posTo
 simp only [hm]
 by_cases h1:ks[k]=pos
 ·by_cases h2:pos=id <;> simp [h1,h2]
 ·have:¬pos=ks[k]:=fun e=>h1 e.symm
  simp [h1,this]
set_option maxRecDepth 100000 in
set_option maxHeartbeats 4000000 in
theorem where_s (A:Option Addr) (c:Nat) (t:List Row) (o:Op) (w:World) (hr:Rd w A c t) (hl:t.length≤1000) (hok:∀ r∈t,rowOk r=true) :
  Calls Tryz.prog 120 #[.slice A t.length c,o.val] w fun e w'=>e=.returned (whV (whereL t o))∧Ext w w':=by
 show Calls Tryz.prog 120 #[.slice A t.length c,.agg (cO o)] w _
 have hE:Ext w (w.alloc (oO o)):=(Below.refl _ w).alloc (Nat.le_refl _) _
 have hbx:=World.alloc_heap_new w (oO o)
 have hsz:=alloc_sz w (oO o)
 have hrw:=hr.alloc (oO o)
 generalize hW0:w.alloc (oO o)=W0 at hE hbx hsz hrw
 have HW0:=Lib.hid hW0
 have HE:=Lib.hid hE;have HBX:=Lib.hid hbx;have HSZ:=Lib.hid hsz;have HR:=Lib.hid hrw;have HOK:=Lib.hid hok
 have HA1:=Lib.hid (at_s A c t o.id W0 hrw)
 have HA2:=Lib.hid (fun n=>at_s A c t o.up (W0.drewN n) (hrw.drewN n))
 have HU:=Lib.hid (under_s A c t o.up o.id W0 hrw)
 clear hE hbx hsz hrw hok hr hW0
 by_cases hk2:o.kind=2
 ·have hk2':(o.kind == 2)=true:=by simp [hk2]
  have HX:Hid (whereL t o=none):=by show _=_;unfold whereL;rw [if_pos (.inl hk2)]
  clear hk2
  go_enter Tryz.func120,Tryz.ntmps120
  go_wp2_with fail
  rw [HW0.out]
  refine HA1.out.mono ?_;rintro e w1 ⟨rfl,rfl⟩
  obtain ⟨d0,d1,d2,d3,d4,df⟩:=five_cells HBX.out
  go_wp2_with fail
  go_ret3
  exact ⟨by rw [HX.out];rfl,HE.out⟩
 have hk2':(o.kind == 2)=false:=by simp [hk2]
 by_cases hbad:(idx t o.id).isSome≠decide (o.kind=3)
 ·have HX:Hid (whereL t o=none):=by show _=_;unfold whereL;rw [if_pos (.inr (.inl hbad))]
  clear hk2
  cases hx:idx t o.id with
  |none=>
   rw [hx] at hbad
   have hk3:(o.kind == 3)=true:=by simp at hbad;simp [hbad]
   have hat:atI t o.id=-1:=by unfold atI;rw [hx]
   rw [hat] at HA1
   clear hat hx hbad
   go_enter Tryz.func120,Tryz.ntmps120
   go_wp2_with fail
   rw [HW0.out]
   refine HA1.out.mono ?_;rintro e w1 ⟨rfl,rfl⟩
   obtain ⟨d0,d1,d2,d3,d4,df⟩:=five_cells HBX.out
   go_wp2_with fail
   go_ret3
   exact ⟨by rw [HX.out];rfl,HE.out⟩
  |some a=>
   rw [hx] at hbad
   have hk3:(o.kind == 3)=false:=by simp at hbad;simp [hbad]
   have hat:atI t o.id=a:=by unfold atI;rw [hx]
   rw [hat] at HA1
   clear hat hx hbad
   go_enter Tryz.func120,Tryz.ntmps120
   go_wp2_with fail
   rw [HW0.out]
   refine HA1.out.mono ?_;rintro e w1 ⟨rfl,rfl⟩
   obtain ⟨d0,d1,d2,d3,d4,df⟩:=five_cells HBX.out
   go_wp2_with fail
   go_ret3
   exact ⟨by rw [HX.out];rfl,HE.out⟩
 by_cases hun:(idx t o.id).isSome=true∧underL t o.up o.id=true
 ·have HX:Hid (whereL t o=none):=by show _=_;unfold whereL;rw [if_pos (.inr (.inr hun))]
  clear hk2
  cases hx:idx t o.id with
  |none=>rw [hx] at hun;exact absurd hun.1 (by simp)
  |some a=>
   rw [hx] at hbad
   have hk3:(o.kind == 3)=true:=by simp at hbad;simp [hbad]
   have hat:atI t o.id=a:=by unfold atI;rw [hx]
   rw [hat] at HA1
   rw [hun.2] at HU
   clear hat hx hbad hun
   go_enter Tryz.func120,Tryz.ntmps120
   go_wp2_with fail
   rw [HW0.out]
   refine HA1.out.mono ?_;rintro e w1 ⟨rfl,rfl⟩
   obtain ⟨d0,d1,d2,d3,d4,df⟩:=five_cells HBX.out
   go_wp2_with fail
   refine HU.out.mono ?_;rintro e w1 ⟨rfl,n1,rfl⟩
   go_wp2_with fail
   go_ret3
   exact ⟨by rw [HX.out];rfl,Ext.drewN HE.out _⟩
 have hres:whereL t o=(if (idx t o.up).isNone=true then some (3,0) else some (o.up,posTo (kidsOf t o.up) o.id o.pos)):=by
  unfold whereL posTo
  rw [if_neg (by rintro (h | h | h);exact hk2 h;exact hbad h;exact hun h)]
 have HX:=Lib.hid hres
 clear hres
 have hcase:(idx t o.id=none∧o.kind≠3)∨(∃ a,idx t o.id=some a∧o.kind=3∧underL t o.up o.id=false):=by
  cases hx:idx t o.id with
  |none=>rw [hx] at hbad;exact .inl ⟨rfl,by simpa using hbad⟩
  |some a=>rw [hx] at hbad hun;exact .inr ⟨a,rfl,by simpa using hbad,by simpa using hun⟩
 clear hk2 hbad hun
 go_enter Tryz.func120,Tryz.ntmps120
 go_wp2_with fail
 rw [HW0.out]
 rcases hcase with ⟨hx,hk3⟩ | ⟨a,hx,hk3,hun⟩
 ·skip
  have hat:atI t o.id=-1:=by unfold atI;rw [hx]
  rw [hat] at HA1
  have hk3':(o.kind == 3)=false:=by simp [hk3]
  clear hat hx hk3
  refine HA1.out.mono ?_;rintro e w1 ⟨rfl,hw1⟩
  rw [hw1]
  obtain ⟨d0,d1,d2,d3,d4,df⟩:=five_cells HBX.out
  go_wp2_with fail
  obtain ⟨W1,hW1⟩:∃ W1,W1=W0:=⟨_,rfl⟩
  rw [←hW1]
  have hb1:W1.heap[w.heap.size]?=some (.cells (cO o) 28 (0,0)):=by rw [hW1];exact HBX.out
  have hE1:Ext w W1:=by rw [hW1];exact HE.out
  have hR1:Rd W1 A c t:=by rw [hW1];exact HR.out
  have hA3:=at_s A c t o.up W1 hR1
  have HB1:=Lib.hid hb1;have HE1:=Lib.hid hE1;have HR1:=Lib.hid hR1
  clear d0 d1 d2 d3 d4 df hW1 hb1 hE1 hR1 HU HA1 HA2
  cases hy:idx t o.up with
  |none=>
   have hat:atI t o.up=-1:=by unfold atI;rw [hy]
   rw [hat] at hA3
   have HX2:Hid (whereL t o=some (3,0)):=by show _=_;rw [HX.out,hy];rfl
   have HA3:=Lib.hid hA3
   clear hat hy hA3
   refine HA3.out.mono ?_;rintro e w3 ⟨rfl,hw3⟩
   rw [hw3]
   go_wp2_with fail
   go_ret3
   exact ⟨by rw [HX2.out];rfl,HE1.out⟩
  |some u=>
   have hat:atI t o.up=u:=by unfold atI;rw [hy]
   rw [hat] at hA3
   have HX2:Hid (whereL t o=some (o.up,posTo (kidsOf t o.up) o.id o.pos)):=by show _=_;rw [HX.out,hy];rfl
   have HA3:=Lib.hid hA3
   clear hat hy hA3
   refine HA3.out.mono ?_;rintro e w3 ⟨rfl,hw3⟩
   rw [hw3]
   go_wp2_with fail
   refine (kids_s A c t o.up W1 HR1.out hl HOK.out).mono ?_;rintro e w4 ⟨v4,rfl,hown4,hb4⟩
   obtain ⟨A4,n4,rfl,hr4⟩:=hown4.rd
   have hE4:Ext w w4:=HE1.out.trans (hb4.mono HE1.out.size)
   have hlt1:w.heap.size<W1.heap.size:=blk_lt HB1.out
   obtain ⟨d0,d1,d2,d3,d4,df⟩:=five_cells ((hb4.block w.heap.size hlt1).trans HB1.out)
   have HE4:=Lib.hid hE4;have HR4:=Lib.hid hr4
   have hkl:(kidsOf t o.up).length≤maxLen:=Nat.le_trans hr4.1 hr4.2.1
   unfold maxLen at hkl
   clear hown4 hb4 hE4 hr4
   generalize kidsOf t o.up=ks at *
   go_wp2_with fail
   go_loopg [9,11] ks.length (fun gk p i wr=>∃ (k n:Nat),wr=w4.drewN n∧k≤ks.length∧Hid (gk=ks.length - k)∧i=.int .i64 k∧p=.int .i64 (posTo (ks.take k) o.id o.pos))
   case atStart=>exact ⟨0,0,rfl,Nat.zero_le _,rfl,rfl,by simp [posTo]⟩
   case round=>
    obtain ⟨k,n,rfl,hk,HK,rfl,rfl⟩:=hrel
    by_cases hlt:k<ks.length
    ·obtain ⟨b,off,rfl,hbl,c0⟩:=int_at HR4.out k hlt
     have hlt':(k:Int)<ks.length:=by omega
     have HN:=Lib.hid (posTo_next ks o.id o.pos k hlt)
     by_cases h1:ks[k]=o.pos
     ·have h1':(ks[k] == o.pos)=true:=by simp [h1]
      by_cases h2:o.pos=o.id
      ·have h2':(o.pos != o.id)=false:=by simp [h2]
       have HN2:Hid (posTo (ks.take (k+1)) o.id o.pos=posTo (ks.take k) o.id o.pos):=by show _=_;rw [HN.out,if_neg (fun h=>h.2 h2)]
       clear h1 h2
       go_wp2_with fail
       go_quiet (fail)
       go_wp2_with fail
       go_roundg (ks.length - (k+1))
       case measure=>have:=HK.out;omega
       case rel=>exact ⟨k+1,_,rfl,by omega,rfl,by go_num,by rw [HN2.out]⟩
      ·have h2':(o.pos != o.id)=true:=by simp [h2]
       have HN2:Hid (posTo (ks.take (k+1)) o.id o.pos=o.pos):=by show _=_;rw [HN.out,if_pos ⟨h1,h2⟩]
       clear h1 h2
       go_wp2_with fail
       go_quiet (fail)
       go_wp2_with fail
       go_roundg (ks.length - (k+1))
       case measure=>have:=HK.out;omega
       case rel=>exact ⟨k+1,_,rfl,by omega,rfl,by go_num,by rw [HN2.out]⟩
     ·have h1':(ks[k] == o.pos)=false:=by simp [h1]
      have HN2:Hid (posTo (ks.take (k+1)) o.id o.pos=posTo (ks.take k) o.id o.pos):=by show _=_;rw [HN.out,if_neg (fun h=>h1 h.1)]
      clear h1
      go_wp2_with fail
      go_quiet (fail)
      go_wp2_with fail
      go_roundg (ks.length - (k+1))
      case measure=>have:=HK.out;omega
      case rel=>exact ⟨k+1,_,rfl,by omega,rfl,by go_num,by rw [HN2.out]⟩
    ·have hkl2:k=ks.length:=by omega
     have HP:Hid (posTo (ks.take k) o.id o.pos=posTo ks o.id o.pos):=by show _=_;rw [hkl2,List.take_length]
     clear hkl2
     go_wp2_with fail
     go_ret3
     exact ⟨by rw [HX2.out,←HP.out];rfl,Ext.drewN HE4.out _⟩
 ·skip
  have hat:atI t o.id=a:=by unfold atI;rw [hx]
  rw [hat] at HA1
  rw [hun] at HU
  have hk3':(o.kind == 3)=true:=by simp [hk3]
  clear hat hx hk3 hun
  refine HA1.out.mono ?_;rintro e w1 ⟨rfl,hw1⟩
  rw [hw1]
  obtain ⟨d0,d1,d2,d3,d4,df⟩:=five_cells HBX.out
  go_wp2_with fail
  refine HU.out.mono ?_;rintro e w2 ⟨rfl,n1,hw2⟩
  rw [hw2]
  go_wp2_with fail
  obtain ⟨W1,hW1⟩:∃ W1,W1=W0.drewN n1:=⟨_,rfl⟩
  rw [←hW1]
  have hb1:W1.heap[w.heap.size]?=some (.cells (cO o) 28 (0,0)):=by rw [hW1];exact HBX.out
  have hE1:Ext w W1:=by rw [hW1];exact Ext.drewN HE.out _
  have hR1:Rd W1 A c t:=by rw [hW1];exact HR.out
  have hA3:=at_s A c t o.up W1 hR1
  have HB1:=Lib.hid hb1;have HE1:=Lib.hid hE1;have HR1:=Lib.hid hR1
  clear d0 d1 d2 d3 d4 df hW1 hb1 hE1 hR1 HU HA1 HA2
  cases hy:idx t o.up with
  |none=>
   have hat:atI t o.up=-1:=by unfold atI;rw [hy]
   rw [hat] at hA3
   have HX2:Hid (whereL t o=some (3,0)):=by show _=_;rw [HX.out,hy];rfl
   have HA3:=Lib.hid hA3
   clear hat hy hA3
   refine HA3.out.mono ?_;rintro e w3 ⟨rfl,hw3⟩
   rw [hw3]
   go_wp2_with fail
   go_ret3
   exact ⟨by rw [HX2.out];rfl,HE1.out⟩
  |some u=>
   have hat:atI t o.up=u:=by unfold atI;rw [hy]
   rw [hat] at hA3
   have HX2:Hid (whereL t o=some (o.up,posTo (kidsOf t o.up) o.id o.pos)):=by show _=_;rw [HX.out,hy];rfl
   have HA3:=Lib.hid hA3
   clear hat hy hA3
   refine HA3.out.mono ?_;rintro e w3 ⟨rfl,hw3⟩
   rw [hw3]
   go_wp2_with fail
   refine (kids_s A c t o.up W1 HR1.out hl HOK.out).mono ?_;rintro e w4 ⟨v4,rfl,hown4,hb4⟩
   obtain ⟨A4,n4,rfl,hr4⟩:=hown4.rd
   have hE4:Ext w w4:=HE1.out.trans (hb4.mono HE1.out.size)
   have hlt1:w.heap.size<W1.heap.size:=blk_lt HB1.out
   obtain ⟨d0,d1,d2,d3,d4,df⟩:=five_cells ((hb4.block w.heap.size hlt1).trans HB1.out)
   have HE4:=Lib.hid hE4;have HR4:=Lib.hid hr4
   have hkl:(kidsOf t o.up).length≤maxLen:=Nat.le_trans hr4.1 hr4.2.1
   unfold maxLen at hkl
   clear hown4 hb4 hE4 hr4
   generalize kidsOf t o.up=ks at *
   go_wp2_with fail
   go_loopg [9,11] ks.length (fun gk p i wr=>∃ (k n:Nat),wr=w4.drewN n∧k≤ks.length∧Hid (gk=ks.length - k)∧i=.int .i64 k∧p=.int .i64 (posTo (ks.take k) o.id o.pos))
   case atStart=>exact ⟨0,0,rfl,Nat.zero_le _,rfl,rfl,by simp [posTo]⟩
   case round=>
    obtain ⟨k,n,rfl,hk,HK,rfl,rfl⟩:=hrel
    by_cases hlt:k<ks.length
    ·obtain ⟨b,off,rfl,hbl,c0⟩:=int_at HR4.out k hlt
     have hlt':(k:Int)<ks.length:=by omega
     have HN:=Lib.hid (posTo_next ks o.id o.pos k hlt)
     by_cases h1:ks[k]=o.pos
     ·have h1':(ks[k] == o.pos)=true:=by simp [h1]
      by_cases h2:o.pos=o.id
      ·have h2':(o.pos != o.id)=false:=by simp [h2]
       have HN2:Hid (posTo (ks.take (k+1)) o.id o.pos=posTo (ks.take k) o.id o.pos):=by show _=_;rw [HN.out,if_neg (fun h=>h.2 h2)]
       clear h1 h2
       go_wp2_with fail
       go_quiet (fail)
       go_wp2_with fail
       go_roundg (ks.length - (k+1))
       case measure=>have:=HK.out;omega
       case rel=>exact ⟨k+1,_,rfl,by omega,rfl,by go_num,by rw [HN2.out]⟩
      ·have h2':(o.pos != o.id)=true:=by simp [h2]
       have HN2:Hid (posTo (ks.take (k+1)) o.id o.pos=o.pos):=by show _=_;rw [HN.out,if_pos ⟨h1,h2⟩]
       clear h1 h2
       go_wp2_with fail
       go_quiet (fail)
       go_wp2_with fail
       go_roundg (ks.length - (k+1))
       case measure=>have:=HK.out;omega
       case rel=>exact ⟨k+1,_,rfl,by omega,rfl,by go_num,by rw [HN2.out]⟩
     ·have h1':(ks[k] == o.pos)=false:=by simp [h1]
      have HN2:Hid (posTo (ks.take (k+1)) o.id o.pos=posTo (ks.take k) o.id o.pos):=by show _=_;rw [HN.out,if_neg (fun h=>h1 h.1)]
      clear h1
      go_wp2_with fail
      go_quiet (fail)
      go_wp2_with fail
      go_roundg (ks.length - (k+1))
      case measure=>have:=HK.out;omega
      case rel=>exact ⟨k+1,_,rfl,by omega,rfl,by go_num,by rw [HN2.out]⟩
    ·have hkl2:k=ks.length:=by omega
     have HP:Hid (posTo (ks.take k) o.id o.pos=posTo ks o.id o.pos):=by show _=_;rw [hkl2,List.take_length]
     clear hkl2
     go_wp2_with fail
     go_ret3
     exact ⟨by rw [HX2.out,←HP.out];rfl,Ext.drewN HE4.out _⟩
open Go.RowKit
def shiftR (e:Int) (r:Row):Row:={ r with depth:=r.depth+e }
def putAt (t rs:List Row) (deep:Int) (place:Nat):List Row:=t.take place++rs.map (shiftR deep)++t.drop place
theorem shiftR_ok {e:Int} {r:Row} (h:Flat.okE r):Flat.okE (shiftR e r):=h
set_option maxRecDepth 100000 in
set_option maxHeartbeats 4000000 in
theorem put_s (A:Option Addr) (c:Nat) (t:List Row) (A':Option Addr) (c':Nat) (rs:List Row) (up pos:Int) (k:Nat) (w:World) (hr:Rd w A c t) (hr':Rd w A' c' rs) (hl:t.length≤1000) (hl':rs.length≤1000) (h0:0<rs.length)
  (hd:∀ r∈t,0≤r.depth∧r.depth≤18) (hd':∀ r∈rs,0≤r.depth∧r.depth≤18) (hk:idx t up=some k) (hp:0<pos→(idx t pos).isSome=true) :
  Calls Tryz.prog 121 #[.slice A t.length c,.slice A' rs.length c',.int .i64 up,.int .i64 pos] w fun e w'=>∃ v,e=.returned v∧Own 46 w' w.heap.size v (putL t rs up pos)∧Ext w w':=by
 have hkl:=idx_lt hk
 have hat:atI t up=k:=by unfold atI;rw [hk]
 obtain ⟨b,off,rfl,hbl,a0,a1,a2⟩:=row_at hr k hkl
 obtain ⟨b',off',rfl,hbl',c0,c1,c2⟩:=row_at hr' 0 h0
 have hdk:=hd t[k] (List.getElem_mem hkl)
 have hd0:=hd' rs[0] (List.getElem_mem h0)
 obtain ⟨hdk0,hdk1⟩:=hdk
 obtain ⟨hd00,hd01⟩:=hd0
 have HD':=Lib.hid hd'
 have hcap:=hr.1
 have hcap':=hr'.1
 have HR:=Lib.hid hr;have HR':=Lib.hid hr';have HR0:=Lib.hid hr;have HR'0:=Lib.hid hr'
 have HA:=at_s (some ⟨b,off,none⟩) c t up w hr
 rw [hat] at HA
 have HAT:=Lib.hid HA
 have hdeep:∃ deep:Int,deep=t[k].depth+(1:Int) - rs[0].depth:=⟨_,rfl⟩
 obtain ⟨deep,hdeep⟩:=hdeep
 have hres:putL t rs up pos=putAt t rs deep (if 0<pos then endOf t ((idx t pos).getD 0) else k+1):=by
  unfold putL putAt shiftR
  rw [hk]
  have e1:depAt t k=t[k].depth:=depAt_lt t k hkl
  have e2:depAt rs 0=rs[0].depth:=depAt_lt rs 0 h0
  simp only [Option.getD_some,e1,e2,hdeep]
 have HRES:=Lib.hid hres
 have hdp0:-17≤deep:=by omega
 have hdp1:deep≤19:=by omega
 have hkl':(k:Int)<t.length:=by omega
 have h0':(0:Int)<rs.length:=by omega
 have q0:IntKind.i64.wrap (t[k].depth+1)=t[k].depth+1:=by rw [IntKind.wrap_i64];omega
 have q1:t[k].depth+(1:Int) - rs[0].depth=deep:=hdeep.symm
 have HDEEP:=Lib.hid hdeep
 clear hd hd' hr hr' hk hat HA hres hdeep
 go_enter Tryz.func121,Tryz.ntmps121
 go_wp2_with fail
 refine HAT.out.mono ?_;rintro e w1 ⟨rfl,hw1⟩
 rw [hw1]
 go_wp2_with fail
 go_quiet (fail)
 have hp1:Ext w (w.drewN nq):=Ext.drewN (Below.refl _ _) _
 have hRq:=HR.out.drewN nq
 have hRq':=HR'.out.drewN nq
 obtain ⟨Wq,hWq⟩:∃ Wq,Wq=w.drewN nq:=⟨_,rfl⟩
 rw [←hWq] at hp1 hRq hRq' ⊢
 have HEQ:=Lib.hid hp1;have HRQ:=Lib.hid hRq;have HRQ':=Lib.hid hRq'
 clear hWq hp1 hRq hRq' HR HR' HAT a0 a1 a2 c0 c1 c2 q0
 by_cases hpos:0<pos
 ·obtain ⟨p,hpx⟩:=Option.isSome_iff_exists.1 (hp hpos)
  have hpat:atI t pos=p:=by unfold atI;rw [hpx]
  have hpl:=idx_lt hpx
  have HA2:=at_s (some ⟨b,off,none⟩) c t pos Wq HRQ.out
  rw [hpat] at HA2
  have HA2:=Lib.hid HA2
  have HEN:=Lib.hid (end_s (some ⟨b,off,none⟩) c t p Wq HRQ.out hpl)
  have her:=endOf_range t p hpl
  obtain ⟨her0,her1⟩:=her
  rw [if_pos hpos,hpx,Option.getD_some] at HRES
  generalize endOf t p=place at *
  clear hpat hpx hp
  go_wp2_with fail
  refine HA2.out.mono ?_;rintro e w2 ⟨rfl,hw2⟩
  rw [hw2]
  go_wp2_with fail
  refine HEN.out.mono ?_;rintro e w2 ⟨rfl,n1,hw2⟩
  have hp1:Ext w w2:=by rw [hw2];exact Ext.drewN HEQ.out _
  have hRq:Rd w2 (some ⟨b,off,none⟩) c t:=by rw [hw2];exact HRQ.out
  have hRq':Rd w2 (some ⟨b',off',none⟩) c' rs:=by rw [hw2];exact HRQ'.out
  clear HA2 HEN HEQ HRQ HRQ' hw2
  have hplace:place≤t.length:=her1
  have hpl9:(t.take place).length=place:=by rw [List.length_take];omega
  have hs2:=hp1.size
  obtain ⟨v3,w3,hrun,hown3,hg3⟩:=app_at el_row (own_made (e:=46) (α:=Row) w2 w.heap.size hs2) ((hRq.alloc (.cells #[] 46)).take place) (by simp;omega) (by rw [alloc_sz];omega)
  have hB3:=(own_made (e:=46) (α:=Row) w2 w.heap.size hs2).over (hp1.alloc hs2 (.cells #[] 46)) hg3 (Nat.le_refl _) (by rw [alloc_sz];omega)
  rw [hpl9] at hrun
  rw [List.nil_append] at hown3
  have HO3:=Lib.hid hown3;have HB3:=Lib.hid hB3;have HRQ:=Lib.hid hRq;have HRQ':=Lib.hid hRq'
  clear hpl9 hown3 hg3 hB3 hRq hRq' hp1 q1
  go_wp2_with (at_builtin;refine wpList_append_run rfl _ _ _ rfl rfl rfl hrun ?_)
  clear hrun
  go_loopg [12,13] rs.length (fun gk v i wr=>∃ j:Nat,j≤rs.length∧Hid (gk=rs.length - j)∧i=.int .i64 j∧Hid (Own 46 wr w.heap.size v (t.take place++(rs.take j).map (shiftR deep)))∧Hid (Ext w wr))
  case atStart=>exact ⟨0,Nat.zero_le _,rfl,rfl,by show Own _ _ _ _ _;simpa using HO3.out,HB3.out⟩
  case round=>
   obtain ⟨j,hj,HJ,rfl,HO,HW⟩:=hrel
   by_cases hlt:j<rs.length
   ·obtain ⟨b9,off9,e9,hb9,x0,x1,x2⟩:=row_at (HR'0.out.ext HW.out) j hlt
    cases e9
    have hdj:=HD'.out rs[j] (List.getElem_mem hlt)
    obtain ⟨hdj0,hdj1⟩:=hdj
    have hsz:=HW.out.size
    have hea:Ext wr (wr.alloc (.cells #[.int .i64 rs[j].id,.int .i64 (rs[j].depth+deep),.string rs[j].text] 46)):=(Below.refl _ _).alloc (Nat.le_refl _) _
    have hO1:=HO.out.below hea
    have hE1:Ext w (wr.alloc (.cells #[.int .i64 rs[j].id,.int .i64 (rs[j].depth+deep),.string rs[j].text] 46)):=HW.out.alloc hsz _
    have hlen:(t.take place++(rs.take j).map (shiftR deep)).length<1000000:=by simp;omega
    obtain ⟨v4,w4,hrun,hown4,hg4⟩:=app_one el_row hO1 (shiftR deep rs[j]) (HR'0.out.okAt j hlt) hlen hE1.size #[.int .i64 rs[j].id,.int .i64 (rs[j].depth+deep),.string rs[j].text] rfl
    have hB4:=hO1.over_one hE1 hg4 (Nat.le_refl _) hE1.size
    rw [alloc_sz] at hrun
    have hnx:t.take place++(rs.take (j+1)).map (shiftR deep)=(t.take place++(rs.take j).map (shiftR deep))++[shiftR deep rs[j]]:=by rw [List.take_succ_eq_append_getElem hlt,List.map_append,←List.append_assoc];rfl
    have HNX:=Lib.hid hnx
    have HO4:=Lib.hid hown4;have HB4:=Lib.hid hB4
    clear hea hO1 hE1 hlen hown4 hg4 hB4 hnx
    go_wp2_with (at_builtin;refine wpList_append_run rfl _ _ _ rfl rfl rfl hrun ?_)
    go_roundg (rs.length - (j+1))
    case measure=>have:=HJ.out;omega
    case rel=>exact ⟨j+1,by omega,rfl,by go_num,by rw [HNX.out];exact HO4.out,HB4.out⟩
   ·have hjl:j=rs.length:=by omega
    rw [hjl,List.take_length] at HO
    have hsz:=HW.out.size
    have hrd:=(HR0.out.ext HW.out).from_ place hplace
    have hsl:=fun (W:World)=>run_cut el_row (some ⟨b,off,none⟩) t.length c place hplace W
    have hszr:Flat.sz Row=3:=rfl
    simp only [hszr] at hrd hsl
    generalize fromA (some ⟨b,off,none⟩) c place 3=A7 at hrd hsl
    obtain ⟨v5,w5,hrun,hown5,hg5⟩:=app_at el_row HO.out hrd (by simp;omega) hsz
    have hB5:=HO.out.over HW.out hg5 (Nat.le_refl _) hsz
    rw [List.length_drop] at hrun
    have HO5:=Lib.hid hown5;have HB5:=Lib.hid hB5
    clear hrd hown5 hg5 hB5 hjl hszr
    go_wp2_with (at_builtin;refine wpList_append_run rfl _ _ _ rfl rfl rfl hrun ?_)
    go_ret
    exact ⟨_,rfl,by rw [HRES.out];exact HO5.out,HB5.out⟩
 ·rw [if_neg hpos] at HRES
  have hplace:k+1≤t.length:=hkl
  have hp1:=HEQ.out
  have hRq:=HRQ.out
  have hRq':=HRQ'.out
  clear hp HEQ HRQ HRQ'
  generalize hpp:k+1=place at *
  have hcast:(k:Int)+1=place:=by omega
  clear hpp
  obtain ⟨w2,hw2⟩:∃ w2,w2=Wq:=⟨_,rfl⟩
  rw [←hw2] at hp1 hRq hRq' ⊢
  clear hw2
  have hpl9:(t.take place).length=place:=by rw [List.length_take];omega
  have hs2:=hp1.size
  obtain ⟨v3,w3,hrun,hown3,hg3⟩:=app_at el_row (own_made (e:=46) (α:=Row) w2 w.heap.size hs2) ((hRq.alloc (.cells #[] 46)).take place) (by simp;omega) (by rw [alloc_sz];omega)
  have hB3:=(own_made (e:=46) (α:=Row) w2 w.heap.size hs2).over (hp1.alloc hs2 (.cells #[] 46)) hg3 (Nat.le_refl _) (by rw [alloc_sz];omega)
  rw [hpl9] at hrun
  rw [List.nil_append] at hown3
  have HO3:=Lib.hid hown3;have HB3:=Lib.hid hB3;have HRQ:=Lib.hid hRq;have HRQ':=Lib.hid hRq'
  clear hpl9 hown3 hg3 hB3 hRq hRq' hp1 q1
  go_wp2_with (at_builtin;refine wpList_append_run rfl _ _ _ rfl rfl rfl hrun ?_)
  clear hrun
  go_loopg [12,13] rs.length (fun gk v i wr=>∃ j:Nat,j≤rs.length∧Hid (gk=rs.length - j)∧i=.int .i64 j∧Hid (Own 46 wr w.heap.size v (t.take place++(rs.take j).map (shiftR deep)))∧Hid (Ext w wr))
  case atStart=>exact ⟨0,Nat.zero_le _,rfl,rfl,by show Own _ _ _ _ _;simpa using HO3.out,HB3.out⟩
  case round=>
   obtain ⟨j,hj,HJ,rfl,HO,HW⟩:=hrel
   by_cases hlt:j<rs.length
   ·obtain ⟨b9,off9,e9,hb9,x0,x1,x2⟩:=row_at (HR'0.out.ext HW.out) j hlt
    cases e9
    have hdj:=HD'.out rs[j] (List.getElem_mem hlt)
    obtain ⟨hdj0,hdj1⟩:=hdj
    have hsz:=HW.out.size
    have hea:Ext wr (wr.alloc (.cells #[.int .i64 rs[j].id,.int .i64 (rs[j].depth+deep),.string rs[j].text] 46)):=(Below.refl _ _).alloc (Nat.le_refl _) _
    have hO1:=HO.out.below hea
    have hE1:Ext w (wr.alloc (.cells #[.int .i64 rs[j].id,.int .i64 (rs[j].depth+deep),.string rs[j].text] 46)):=HW.out.alloc hsz _
    have hlen:(t.take place++(rs.take j).map (shiftR deep)).length<1000000:=by simp;omega
    obtain ⟨v4,w4,hrun,hown4,hg4⟩:=app_one el_row hO1 (shiftR deep rs[j]) (HR'0.out.okAt j hlt) hlen hE1.size #[.int .i64 rs[j].id,.int .i64 (rs[j].depth+deep),.string rs[j].text] rfl
    have hB4:=hO1.over_one hE1 hg4 (Nat.le_refl _) hE1.size
    rw [alloc_sz] at hrun
    have hnx:t.take place++(rs.take (j+1)).map (shiftR deep)=(t.take place++(rs.take j).map (shiftR deep))++[shiftR deep rs[j]]:=by rw [List.take_succ_eq_append_getElem hlt,List.map_append,←List.append_assoc];rfl
    have HNX:=Lib.hid hnx
    have HO4:=Lib.hid hown4;have HB4:=Lib.hid hB4
    clear hea hO1 hE1 hlen hown4 hg4 hB4 hnx
    go_wp2_with (at_builtin;refine wpList_append_run rfl _ _ _ rfl rfl rfl hrun ?_)
    go_roundg (rs.length - (j+1))
    case measure=>have:=HJ.out;omega
    case rel=>exact ⟨j+1,by omega,rfl,by go_num,by rw [HNX.out];exact HO4.out,HB4.out⟩
   ·have hjl:j=rs.length:=by omega
    rw [hjl,List.take_length] at HO
    have hsz:=HW.out.size
    have hrd:=(HR0.out.ext HW.out).from_ place hplace
    have hsl:=fun (W:World)=>run_cut el_row (some ⟨b,off,none⟩) t.length c place hplace W
    have hszr:Flat.sz Row=3:=rfl
    simp only [hszr] at hrd hsl
    generalize fromA (some ⟨b,off,none⟩) c place 3=A7 at hrd hsl
    obtain ⟨v5,w5,hrun,hown5,hg5⟩:=app_at el_row HO.out hrd (by simp;omega) hsz
    have hB5:=HO.out.over HW.out hg5 (Nat.le_refl _) hsz
    rw [List.length_drop] at hrun
    have HO5:=Lib.hid hown5;have HB5:=Lib.hid hB5
    clear hrd hown5 hg5 hB5 hjl hszr
    go_wp2_with (at_builtin;refine wpList_append_run rfl _ _ _ rfl rfl rfl hrun ?_)
    go_ret
    exact ⟨_,rfl,by rw [HRES.out];exact HO5.out,HB5.out⟩
end Go.Proofs.YtecmcjfdaipfcaaGreatDoor
