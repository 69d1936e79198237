/- Walks of the laws' comparisons: rows, entries, clients. .. Contract of RowMade. -/
import Derived.Test.YtecmcjfdaipfcaaGreatDoorYAI
import Derived.Test.YtecmcjfdaipfcaaGreatDoorYAM
import Derived.Test.YtecmcjfdaipfcaaGreatDoorYAG
import Derived.OrdersHeld
namespace Go.Proofs.YtecmcjfdaipfcaaGreatDoor
open Go.RowKit
set_option linter.unusedVariables false
theorem row_ext {a b:Row} (h1:a.id=b.id) (h2:a.depth=b.depth) (h3:a.text.toList=b.text.toList):a=b:=by
 obtain ⟨i1,d1,t1⟩:=a
 obtain ⟨i2,d2,t2⟩:=b
 simp only at h1 h2 h3
 have h8:=toList_inj h3
 subst h1 h2 h8;rfl
theorem neq_row (a b:Row) (W:World):(binOp .neq 46 (.agg #[.int .i64 a.id,.int .i64 a.depth,.string a.text]) (.agg #[.int .i64 b.id,.int .i64 b.depth,.string b.text])).run Tryz.prog W=.ok (.bool (!decide (a=b))) W:=by
 have u1:=Tryz.underlying46
 by_cases h:a=b
 ·subst h
  go_simp
 ·rw [decide_eq_false h]
  go_simp
  by_cases e1:a.id=b.id
  ·by_cases e2:a.depth=b.depth
   ·have e7:¬a.text.toList=b.text.toList:=fun e7=>h (row_ext e1 e2 e7)
    simp [e1,e2,e7]
   ·simp [e1,e2]
  ·simp [e1]
set_option maxRecDepth 100000 in
set_option maxHeartbeats 1000000 in
theorem lpRows_c (A:Option Addr) (c:Nat) (a:List Row) (A':Option Addr) (c':Nat) (b:List Row) (w:World) (hr:Rd w A c a) (hr':Rd w A' c' b) :
  Calls Tryz.prog 11 #[.slice A a.length c,.slice A' b.length c'] w fun e w'=>e=.returned (.bool (decide (a=b)))∧∃ n,w'=w.drewN n:=by
 have hm:a.length≤maxLen:=Nat.le_trans hr.1 hr.2.1
 unfold maxLen at hm
 have HR:=Lib.hid hr;have HR':=Lib.hid hr'
 clear hr hr'
 by_cases hl:a.length=b.length
 ·have hl':((a.length:Int) != b.length)=false:=by simp [hl]
  have HL:=Lib.hid hl
  have hml:b.length≤9223372036854775807:=by omega
  clear hl
  go_enter Tryz.func11,Tryz.ntmps11
  go_wp2_with fail
  go_loopg [5] a.length (fun gk i wr=>∃ (k n:Nat),wr=w.drewN n∧k≤a.length∧Hid (gk=a.length - k)∧i=.int .i64 k∧Hid (∀ j (h:j<a.length) (h':j<b.length),j<k→a[j]=b[j]))
  case atStart=>exact ⟨0,0,rfl,Nat.zero_le _,rfl,rfl,fun j _ _ h=>by omega⟩
  case round=>
   obtain ⟨k,n,rfl,hk,HK,rfl,HA⟩:=hrel
   by_cases hlt:k<a.length
   ·have hltb:k<b.length:=by have:=HL.out;omega
    obtain ⟨b1,o1,rfl,-,c0,c1,c2⟩:=row_at HR.out k hlt
    obtain ⟨b2,o2,rfl,-,d0,d1,d2⟩:=row_at HR'.out k hltb
    have hlt':(k:Int)<a.length:=by omega
    have hltb':(k:Int)<b.length:=by omega
    have hq:=neq_row a[k] b[k]
    by_cases he:a[k]=b[k]
    ·rw [decide_eq_true he] at hq
     have HN:Hid (∀ j (h:j<a.length) (h':j<b.length),j<k+1→a[j]=b[j]):=fun j h h' hj=>by
      by_cases e:j=k
      ·subst e;exact he
      ·exact HA.out j h h' (by omega)
     clear he
     go_wp2_with fail
     go_quiet (fail)
     go_wp2_with fail
     go_roundg (a.length - (k+1))
     case measure=>have:=HK.out;omega
     case rel=>exact ⟨k+1,_,rfl,by omega,rfl,by go_num,HN.out⟩
    ·rw [decide_eq_false he] at hq
     have HX:Hid (decide (a=b)=false):=by show _=_;rw [decide_eq_false];intro e;subst e;exact he rfl
     clear he
     go_wp2_with fail
     go_quiet (fail)
     go_wp2_with fail
     go_ret
     exact ⟨by rw [HX.out];rfl,_,by rw [World.drewN_drewN]⟩
   ·have HX:Hid (decide (a=b)=true):=by
     show _=_
     rw [decide_eq_true]
     exact List.ext_getElem HL.out (fun j h h'=>HA.out j h h' (by omega))
    go_wp2_with fail
    go_ret
    exact ⟨by rw [HX.out];rfl,_,rfl⟩
 ·have hl':((a.length:Int) != b.length)=true:=by simp;omega
  have HX:Hid (decide (a=b)=false):=by show _=_;rw [decide_eq_false];intro e;exact hl (by rw [e])
  clear hl
  go_enter Tryz.func11,Tryz.ntmps11
  go_wp2_with fail
  go_ret
  exact ⟨by rw [HX.out];rfl,0,rfl⟩
set_option maxRecDepth 100000 in
set_option maxHeartbeats 1000000 in
theorem lpLog_c (A:Option Addr) (c:Nat) (a:List Entry) (A':Option Addr) (c':Nat) (b:List Entry) (w:World) (hr:Rd w A c a) (hr':Rd w A' c' b) :
  Calls Tryz.prog 20 #[.slice A a.length c,.slice A' b.length c'] w fun e w'=>e=.returned (.bool (decide (a=b)))∧∃ n,w'=w.drewN n:=by
 have hm:a.length≤maxLen:=Nat.le_trans hr.1 hr.2.1
 unfold maxLen at hm
 have HR:=Lib.hid hr;have HR':=Lib.hid hr'
 clear hr hr'
 by_cases hl:a.length=b.length
 ·have hl':((a.length:Int) != b.length)=false:=by simp [hl]
  have HL:=Lib.hid hl
  have hml:b.length≤9223372036854775807:=by omega
  clear hl
  go_enter Tryz.func20,Tryz.ntmps20
  go_wp2_with fail
  go_loopg [5] a.length (fun gk i wr=>∃ (k n:Nat),wr=w.drewN n∧k≤a.length∧Hid (gk=a.length - k)∧i=.int .i64 k∧Hid (∀ j (h:j<a.length) (h':j<b.length),j<k→a[j]=b[j]))
  case atStart=>exact ⟨0,0,rfl,Nat.zero_le _,rfl,rfl,fun j _ _ h=>by omega⟩
  case round=>
   obtain ⟨k,n,rfl,hk,HK,rfl,HA⟩:=hrel
   by_cases hlt:k<a.length
   ·have hltb:k<b.length:=by have:=HL.out;omega
    obtain ⟨b1,o1,rfl,-,c0,c1,c2,c3,c4,c5,c6⟩:=ent_at HR.out k hlt
    obtain ⟨b2,o2,rfl,-,d0,d1,d2,d3,d4,d5,d6⟩:=ent_at HR'.out k hltb
    have hlt':(k:Int)<a.length:=by omega
    have hltb':(k:Int)<b.length:=by omega
    have hq:=neq_ent a[k] b[k]
    by_cases he:a[k]=b[k]
    ·rw [decide_eq_true he] at hq
     have HN:Hid (∀ j (h:j<a.length) (h':j<b.length),j<k+1→a[j]=b[j]):=fun j h h' hj=>by
      by_cases e:j=k
      ·subst e;exact he
      ·exact HA.out j h h' (by omega)
     clear he
     go_wp2_with fail
     go_quiet (fail)
     go_wp2_with fail
     go_roundg (a.length - (k+1))
     case measure=>have:=HK.out;omega
     case rel=>exact ⟨k+1,_,rfl,by omega,rfl,by go_num,HN.out⟩
    ·rw [decide_eq_false he] at hq
     have HX:Hid (decide (a=b)=false):=by show _=_;rw [decide_eq_false];intro e;subst e;exact he rfl
     clear he
     go_wp2_with fail
     go_quiet (fail)
     go_wp2_with fail
     go_ret
     exact ⟨by rw [HX.out];rfl,_,by rw [World.drewN_drewN]⟩
   ·have HX:Hid (decide (a=b)=true):=by
     show _=_
     rw [decide_eq_true]
     exact List.ext_getElem HL.out (fun j h h'=>HA.out j h h' (by omega))
    go_wp2_with fail
    go_ret
    exact ⟨by rw [HX.out];rfl,_,rfl⟩
 ·have hl':((a.length:Int) != b.length)=true:=by simp;omega
  have HX:Hid (decide (a=b)=false):=by show _=_;rw [decide_eq_false];intro e;exact hl (by rw [e])
  clear hl
  go_enter Tryz.func20,Tryz.ntmps20
  go_wp2_with fail
  go_ret
  exact ⟨by rw [HX.out];rfl,0,rfl⟩
open Go.RowKit Go.Lib
set_option linter.unusedSimpArgs false
theorem mine_take (l:List Entry) (who:Int) (k:Nat) (hk:k<l.length):mine (l.take (k+1)) who=if l[k].who=who then mine (l.take k) who++[l[k]] else mine (l.take k) who:=by
 rw [List.take_succ_eq_append_getElem hk];unfold mine;rw [List.filter_append];split <;> simp [*]
theorem mine_len (l:List Entry) (who:Int):(mine l who).length≤l.length:=List.length_filter_le _ _
theorem mine_cnt (l:List Entry) (who:Int):(mine l who).length=cntW l who:=by
 unfold mine cntW;rw [List.countP_eq_length_filter];congr 1
set_option maxRecDepth 100000 in
set_option maxHeartbeats 1000000 in
theorem ofClient_c (A:Option Addr) (c:Nat) (l:List Entry) (who:Int) (w:World) (hr:Rd w A c l) (hl:l.length≤100000) :
  Calls Tryz.prog 108 #[.slice A l.length c,.int .i64 who] w fun e w'=>∃ v,e=.returned v∧Own 35 w' w.heap.size v (mine l who)∧Ext w w':=by
 have HR:=Lib.hid hr
 clear hr
 go_enter Tryz.func108,Tryz.ntmps108
 go_wp2_with fail
 go_loopg [5,11] l.length (fun gk v i wr=>∃ k:Nat,k≤l.length∧Hid (gk=l.length - k)∧i=.int .i64 k∧Hid (Own 35 wr w.heap.size v (mine (l.take k) who))∧Hid (Ext w wr))
 case atStart=>exact ⟨0,Nat.zero_le _,rfl,rfl,own_made w _ (Nat.le_refl _),(Below.refl _ w).alloc (Nat.le_refl _) _⟩
 case round=>
  obtain ⟨k,hk,HK,rfl,HO,HW⟩:=hrel
  have hsz:=HW.out.size
  by_cases hlt:k<l.length
  ·obtain ⟨b,off,rfl,hbl,c0,c1,c2,c3,c4,c5,c6⟩:=ent_at (HR.out.ext HW.out) k hlt
   have HN:=Lib.hid (mine_take l who k hlt)
   have HL:=Lib.hid (Nat.le_trans (mine_len (l.take k) who) (by rw [List.length_take];omega:_≤100000))
   have HOK:=Lib.hid (HR.out.okAt k hlt)
   have HB1:Hid (Ext w (wr.alloc (oN l[k]))):=HW.out.alloc hsz _
   by_cases he:l[k].who=who
   ·rw [if_pos he] at HN
    have hd:(l[k].who == who)=true:=by simp [he]
    obtain ⟨v',w',hrun,ho',hg'⟩:=app_one el_ent (HO.out.below ((Below.refl _ _).alloc (Nat.le_refl _) (oN l[k]))) l[k] HOK.out (Nat.lt_of_le_of_lt HL.out (by omega)) (by rw [alloc_sz];omega) (cN l[k]) rfl
    rw [alloc_sz] at hrun
    have HO':=Lib.hid ho'
    have HB2:=Lib.hid (Own.over_one (HO.out.below ((Below.refl _ _).alloc (Nat.le_refl _) (oN l[k]))) HB1.out hg' (Nat.le_refl _) HB1.out.size)
    clear ho' hg' he HO
    go_wp2_with (at_builtin;refine wpList_append_run rfl _ _ _ rfl rfl rfl hrun ?_)
    go_roundg (l.length - (k+1))
    case measure=>have:=HK.out;omega
    case rel=>exact ⟨k+1,by omega,rfl,by go_num,by rw [HN.out];exact HO'.out,HB2.out⟩
   ·rw [if_neg he] at HN
    have hd:(l[k].who == who)=false:=by simp [he]
    clear he
    go_wp2_with fail
    go_roundg (l.length - (k+1))
    case measure=>have:=HK.out;omega
    case rel=>exact ⟨k+1,by omega,rfl,by go_num,by rw [HN.out];exact HO.out.below ((Below.refl _ _).alloc (Nat.le_refl _) _),HB1.out⟩
  ·have hkl:k=l.length:=by omega
   subst hkl
   rw [List.take_length] at HO
   go_wp2_with fail
   go_ret
   exact ⟨_,rfl,HO.out,HW.out⟩
theorem ext_of_get {α:Type} [DecidableEq α] {a b:List α} (h:a.length=b.length):(∀ j (hj:j<a.length),a[j]=b[j]'(by omega))↔a=b:=⟨fun hh=>List.ext_getElem h fun i h1 h2=>hh i h1,fun e=>by subst e;intros;rfl⟩
set_option maxRecDepth 100000 in
set_option maxHeartbeats 1000000 in
theorem equal_rows (A:Option Addr) (c:Nat) (a:List Row) (A':Option Addr) (c':Nat) (b:List Row) (w:World) (hr:Rd w A c a) (hr':Rd w A' c' b) :
  Calls Tryz.prog 106 #[.slice A a.length c,.slice A' b.length c'] w fun e w'=>e=.returned (.bool (decide (a=b)))∧Ext w w':=by
 have hm:a.length≤maxLen:=Nat.le_trans hr.1 hr.2.1
 have hm':b.length≤maxLen:=Nat.le_trans hr'.1 hr'.2.1
 unfold maxLen at hm hm'
 have HR:=Lib.hid hr;have HR':=Lib.hid hr'
 clear hr hr'
 by_cases hl:a.length=b.length
 ·go_enter Tryz.func106,Tryz.ntmps106
  have hle:((a.length:Int) == (b.length:Int))=true:=by simp [hl]
  have HL:=Lib.hid hl
  clear hl
  go_wp2_with fail
  go_loopg [5,13] a.length (fun gk v i wr=>∃ k:Nat,k≤a.length∧Hid (gk=a.length - k)∧i=.int .i64 k∧Hid (∀ j (hj:j<a.length),j<k→a[j]=b[j]'(by rw [←HL.out];exact hj))∧Hid (Ext w wr))
  case atStart=>exact ⟨0,Nat.zero_le _,rfl,rfl,fun j _ h=>by omega,Below.refl _ _⟩
  case round=>
   obtain ⟨k,hk,HK,rfl,HG,HB⟩:=hrel
   by_cases hlt:k<a.length
   ·have hlt':k<b.length:=by have:=HL.out;omega
    obtain ⟨b1,o1,rfl,hb1,c0,c1,c2⟩:=row_at (HR.out.ext HB.out) k hlt
    obtain ⟨b2,o2,rfl,hb2,d0,d1,d2⟩:=row_at (HR'.out.ext HB.out) k hlt'
    have heq:=neq_row a[k] b[k]
    have hli:(k:Int)<a.length:=by omega
    have hli':(k:Int)<b.length:=by omega
    by_cases he:a[k]=b[k]
    ·rw [decide_eq_true he,Bool.not_true] at heq
     have HE:=Lib.hid he
     clear he
     go_wp2_with fail
     go_region
     go_wp2_with fail
     go_roundg (a.length - (k+1))
     case measure=>have:=HK.out;omega
     case rel=>
      refine ⟨k+1,by omega,rfl,by go_num,Lib.hid (fun j hj hjk=>?_),Below.drew HB.out⟩
      rcases Nat.lt_or_eq_of_le (Nat.le_of_lt_succ hjk) with h | h
      ·exact HG.out j hj h
      ·subst h;exact HE.out
    ·rw [decide_eq_false he,Bool.not_false] at heq
     have HY:Hid (decide (a=b)=false):=by show _=_;rw [decide_eq_false_iff_not];rintro rfl;exact he rfl
     clear he
     go_wp2_with fail
     go_region
     go_wp2_with fail
     go_ret
     exact ⟨by rw [HY.out];rfl,Below.drew HB.out⟩
   ·have HY:Hid (decide (a=b)=true):=by show _=_;rw [decide_eq_true_eq];exact (ext_of_get HL.out).1 fun j hj=>HG.out j hj (by omega)
    have hli:¬((k:Int)<a.length):=by omega
    go_wp2_with fail
    go_ret
    exact ⟨by rw [HY.out];rfl,HB.out⟩
 ·have HY:Hid (decide (a=b)=false):=by show _=_;rw [decide_eq_false_iff_not];rintro rfl;exact hl rfl
  have hle:((a.length:Int) == (b.length:Int))=false:=by simp;omega
  clear hl
  go_enter Tryz.func106,Tryz.ntmps106
  go_wp2_with fail
  go_ret
  exact ⟨by rw [HY.out];rfl,Below.refl _ _⟩
open Go Go.RowKit Go.Lib
section
variable {P:Program} {ops:Array Oper} {Q:Exit→Act→World→Prop} {md:Region.Mode} {S:World→Prop} {n:Nat}
def WB (P:Program) (md:Region.Mode) (ops:Array Oper) (Q:Exit→Act→World→Prop) (S:World→Prop) (n:Nat):Nat→Array Bool→Act→World→Prop
 |0,l,a,w=>Region.ready md ops l=[]∧Q .normal a w
 |k+1,l,a,w=>(Region.ready md ops l=[]→Q .normal a w)∧∀ i∈Region.ready md ops l,wpOp P ops Q i (fun a' w'=>((l.setIfInBounds i true).getD n true=false→S w')∧WB P md ops Q S n k (l.setIfInBounds i true) a' w') a w
theorem WB.any:∀ (k:Nat) (l:Array Bool) (a:Act) (w:World),WB P md ops Q S n k l a w→wpAny P md ops Q k l a w
 |0,_,_,_,h=>h
 |k+1,_,_,_,h=>⟨h.1,fun i hi=>wpOp_mono (fun a' w' h'=>WB.any k _ a' w' h'.2) (h.2 i hi)⟩
def waitB (md:Region.Mode) (ops:Array Oper) (n i:Nat):Bool:=
 match ops[n]? with
 |some oj=>oj.after.any (fun e=>Region.binds md e&&e.on == i)
 |none=>false
theorem waitB_spec {i j:Nat} (h:waitB md ops n i=true) (oj:Oper) (hj:ops[j]?=some oj) (hno:∀ e∈oj.after,Region.binds md e=true→e.on≠i):j≠n:=by
 rintro rfl
 unfold waitB at h
 rw [hj] at h
 obtain ⟨e,he,hb⟩:=Array.any_eq_true'.1 h
 simp only [Bool.and_eq_true,beq_iff_eq] at hb
 exact hno e he hb.1 hb.2
theorem WB.first {i:Nat} {oi:Oper} {v:Value} (hi:ops[i]?=some oi) (hsel:∀ (j:Nat) (o:Oper) cs b,ops[j]?=some o→o.op≠.select cs b)
  (hQ:∀ c a w,Q (.panic c) (a.put oi.dst v) w→Q (.panic c) a w) (hne:n≠i) (hl:waitB md ops n i=true∨∀ w,S w) :
  ∀ (k:Nat) (l:Array Bool) (a:Act) (w:World),
   (∀ j oj,ops[j]?=some oj→j≠i→l.getD j true=false→(∀ e∈oj.after,Region.binds md e=true→e.on≠i)→oi.apart ops oj=true) →
   i∈Region.ready md ops l→YieldsIf P ops S oi v a→l.getD n true=false∨(∀ w,S w)→S w →
   WB P md ops Q S n k (l.setIfInBounds i true) (a.put oi.dst v) w→WB P md ops Q S n (k+1) l a w:=by
 intro k
 induction k with
 |zero=>
  intro l a w _ hr hy hn hS H
  refine ⟨fun h=>(by rw [h] at hr;cases hr),fun j hj=>?_⟩
  by_cases hji:j=i
  ·subst hji;exact hy.wpOp hi hS ⟨fun _=>hS,H⟩
  ·have:=ready_mono hj hji
   rw [H.1] at this
   cases this
 |succ k ih=>
  intro l a w hfree hr hy hn hS H
  refine ⟨fun h=>(by rw [h] at hr;cases hr),fun j hj=>?_⟩
  by_cases hji:j=i
  ·subst hji;exact hy.wpOp hi hS ⟨fun _=>hS,H⟩
  ·obtain ⟨hju,oj,hoj,hall⟩:=mem_ready.1 hj
   have hnot:∀ e∈oj.after,Region.binds md e=true→e.on≠i:=by
    intro e he hb heq
    have h1:=hall e he hb
    have h0:=(mem_ready.1 hr).1
    rw [heq] at h1
    rcases Nat.lt_or_ge i l.size with h' | h'
    ·simp [h'] at h0 h1;rw [h0] at h1;cases h1
    ·simp [Array.getElem?_eq_none h'] at h1
   have hSj:∀ w',(((l.setIfInBounds i true).setIfInBounds j true).getD n true=false→S w')→S w':=fun w' h=>by
    rcases hl with h9 | h9
    ·rcases hn with hn | hn
     ·exact h (by rw [getD_set_ne true (Ne.symm (waitB_spec h9 oj hoj hnot).symm),getD_set_ne true (Ne.symm hne)];exact hn)
     ·exact hn w'
    ·exact h9 w'
   have hnj:(l.setIfInBounds j true).getD n true=false∨∀ w,S w:=by
    rcases hl with h9 | h9
    ·rcases hn with hn | hn
     ·exact .inl (by rw [getD_set_ne true (Ne.symm (waitB_spec h9 oj hoj hnot).symm)];exact hn)
     ·exact .inr hn
    ·exact .inr h9
   refine wpOp_mono (fun a' w' h3=>⟨fun _=>hSj w' h3.2.1,ih (l.setIfInBounds j true) a' w' (fun m om hm hmi hun hno=>?_) (ready_mono hr (Ne.symm hji)) h3.1 hnj (hSj w' h3.2.1) ?_⟩)
    (wpOp_putIf hoj (hfree j oj hoj hji hju hnot) (fun cs b=>hsel i oi cs b hi) (fun cs b=>hsel j oj cs b hoj) hQ hy (H.2 j (ready_mono hj hji)))
   ·refine hfree m om hm hmi ?_ hno
    by_cases hjm:j=m
    ·subst hjm;exact hju
    ·rw [getD_set_ne true hjm] at hun;exact hun
   ·rw [Array.setIfInBounds_comm _ _ hji]
    exact h3.2.2
theorem WB.firstP {i:Nat} {oi:Oper} {v:Value} (hi:ops[i]?=some oi) (hsel:∀ (j:Nat) (o:Oper) cs b,ops[j]?=some o→o.op≠.select cs b)
  (hQ:∀ c a w,Q (.panic c) (a.put oi.dst v) w→Q (.panic c) a w) (hne:n≠i) :
  ∀ (k:Nat) (l:Array Bool) (a:Act) (w:World),
   (∀ j oj,ops[j]?=some oj→j≠i→l.getD j true=false→(∀ e∈oj.after,Region.binds md e=true→e.on≠i)→oi.apart ops oj=true) →
   i∈Region.ready md ops l→YieldsIf P ops (fun _=>True) oi v a→(l.getD n true=false→S w) →
   WB P md ops Q S n k (l.setIfInBounds i true) (a.put oi.dst v) w→WB P md ops Q S n (k+1) l a w:=by
 intro k
 induction k with
 |zero=>
  intro l a w _ hr hy hS H
  refine ⟨fun h=>(by rw [h] at hr;cases hr),fun j hj=>?_⟩
  by_cases hji:j=i
  ·subst hji;exact hy.wpOp hi trivial ⟨fun h=>hS (by rw [getD_set_ne true (Ne.symm hne)] at h;exact h),H⟩
  ·have:=ready_mono hj hji
   rw [H.1] at this
   cases this
 |succ k ih=>
  intro l a w hfree hr hy hS H
  refine ⟨fun h=>(by rw [h] at hr;cases hr),fun j hj=>?_⟩
  by_cases hji:j=i
  ·subst hji;exact hy.wpOp hi trivial ⟨fun h=>hS (by rw [getD_set_ne true (Ne.symm hne)] at h;exact h),H⟩
  ·obtain ⟨hju,oj,hoj,hall⟩:=mem_ready.1 hj
   have hnot:∀ e∈oj.after,Region.binds md e=true→e.on≠i:=by
    intro e he hb heq
    have h1:=hall e he hb
    have h0:=(mem_ready.1 hr).1
    rw [heq] at h1
    rcases Nat.lt_or_ge i l.size with h' | h'
    ·simp [h'] at h0 h1;rw [h0] at h1;cases h1
    ·simp [Array.getElem?_eq_none h'] at h1
   have hSj:∀ w',(((l.setIfInBounds i true).setIfInBounds j true).getD n true=false→S w')→(l.setIfInBounds j true).getD n true=false→S w':=fun w' h h9=>by
    refine h ?_
    rw [←Array.setIfInBounds_comm _ _ hji,getD_set_ne true (Ne.symm hne)]
    exact h9
   refine wpOp_mono (fun a' w' h3=>⟨hSj w' h3.2.1,ih (l.setIfInBounds j true) a' w' (fun m om hm hmi hun hno=>?_) (ready_mono hr (Ne.symm hji)) h3.1 (hSj w' h3.2.1) ?_⟩)
    (wpOp_putIf hoj (hfree j oj hoj hji hju hnot) (fun cs b=>hsel i oi cs b hi) (fun cs b=>hsel j oj cs b hoj) hQ hy (H.2 j (ready_mono hj hji)))
   ·refine hfree m om hm hmi ?_ hno
    by_cases hjm:j=m
    ·subst hjm;exact hju
    ·rw [getD_set_ne true hjm] at hun;exact hun
   ·rw [Array.setIfInBounds_comm _ _ hji]
    exact h3.2.2
theorem WB.take {i:Nat} {oi:Oper} {v:Value} {k:Nat} {l:Array Bool} {a:Act} {w:World} (hi:ops[i]?=some oi)
  (hs:Region.noSelect ops=true) (hf:Region.free md ops l i=true) (hr:(Region.ready md ops l).contains i=true) (hl:(waitB md ops n i&&(n != i&&!(l.getD n true)))=true)
  (hQ:∀ c a w,Q (.panic c) (a.put oi.dst v) w→Q (.panic c) a w) (hS:S w) (hy:YieldsIf P ops S oi v a)
  (h:WB P md ops Q S n k (l.setIfInBounds i true) (a.put oi.dst v) w):WB P md ops Q S n (k+1) l a w:=by
 simp only [Bool.and_eq_true,bne_iff_ne,Bool.not_eq_true'] at hl
 exact WB.first hi (Region.noSelect_spec hs) hQ hl.2.1 (.inl hl.1) k l a w (Region.free_spec hi hf) (by simpa using hr) hy (.inl hl.2.2) hS h
theorem WB.takeP {i:Nat} {oi:Oper} {v:Value} {k:Nat} {l:Array Bool} {a:Act} {w:World} (hi:ops[i]?=some oi)
  (hs:Region.noSelect ops=true) (hf:Region.free md ops l i=true) (hr:(Region.ready md ops l).contains i=true) (hl:(n != i)=true)
  (hQ:∀ c a w,Q (.panic c) (a.put oi.dst v) w→Q (.panic c) a w) (hS:S w) (hy:YieldsIf P ops (fun _=>True) oi v a)
  (h:WB P md ops Q S n k (l.setIfInBounds i true) (a.put oi.dst v) w):WB P md ops Q S n (k+1) l a w:=
 WB.firstP hi (Region.noSelect_spec hs) hQ (by simpa using hl) k l a w (Region.free_spec hi hf) (by simpa using hr) hy (fun _=>hS) h
theorem WB.one {i:Nat} {o:Oper} {k:Nat} {l:Array Bool} {a:Act} {w:World} (hr:Region.ready md ops l=[i]) (ho:ops[i]?=some o)
  (h:∀ K':Act→World→Prop,(∀ a w,((l.setIfInBounds i true).getD n true=false→S w)∧WB P md ops Q S n k (l.setIfInBounds i true) a w→K' a w)→if Region.wanted o (yielded ops a.tmps)=true then Oper.wp P o a w K' Q else K' (a.put o.dst undef) w) :
  WB P md ops Q S n (k+1) l a w:=
by
 refine ⟨fun h0=>?_,fun j hj=>?_⟩
 ·rw [hr] at h0;cases h0
 ·rw [hr] at hj
  obtain rfl:j=i:=by simpa using hj
  exact wpOp_step ho h
theorem WB.two {i j:Nat} {oi oj:Oper} {k:Nat} {l:Array Bool} {a:Act} {w:World} (hr:Region.ready md ops l=[i,j]) (hoi:ops[i]?=some oi) (hoj:ops[j]?=some oj)
  (h1:∀ K':Act→World→Prop,(∀ a w,((l.setIfInBounds i true).getD n true=false→S w)∧WB P md ops Q S n k (l.setIfInBounds i true) a w→K' a w)→if Region.wanted oi (yielded ops a.tmps)=true then Oper.wp P oi a w K' Q else K' (a.put oi.dst undef) w)
  (h2:∀ K':Act→World→Prop,(∀ a w,((l.setIfInBounds j true).getD n true=false→S w)∧WB P md ops Q S n k (l.setIfInBounds j true) a w→K' a w)→if Region.wanted oj (yielded ops a.tmps)=true then Oper.wp P oj a w K' Q else K' (a.put oj.dst undef) w) :
  WB P md ops Q S n (k+1) l a w:=by
 refine ⟨fun h0=>?_,fun m hm=>?_⟩
 ·rw [hr] at h0;cases h0
 ·rw [hr] at hm
  rcases List.mem_cons.1 hm with h9 | h9
  ·subst h9;exact wpOp_step hoi h1
  ·obtain rfl:m=j:=by simpa using h9
   exact wpOp_step hoj h2
theorem WB.done {k:Nat} {l:Array Bool} {a:Act} {w:World} (hr:Region.ready md ops l=[]) (h:Q .normal a w):WB P md ops Q S n k l a w:=by
 cases k with
 |zero=>exact ⟨hr,h⟩
 |succ k=>exact ⟨fun _=>h,fun i hi=>by rw [hr] at hi;cases hi⟩
theorem WB.of_any {k:Nat} {l:Array Bool} {a:Act} {w:World} (hn:l.getD n true=true) (h:wpAny P md ops Q k l a w):WB P md ops Q S n k l a w:=by
 induction k generalizing l a w with
 |zero=>exact h
 |succ k ih=>
  refine ⟨h.1,fun i hi=>wpOp_mono (fun a' w' h'=>?_) (h.2 i hi)⟩
  have h9:(l.setIfInBounds i true).getD n true=true:=by
   by_cases hin:i=n
   ·subst hin
    by_cases hs:i<l.size
    ·simp [hs]
    ·simp [hs]
   ·rw [getD_set_ne true hin];exact hn
  exact ⟨fun h0=>(by rw [h9] at h0;cases h0),ih h9 h'⟩
theorem wp_region_B (S:World→Prop) (n:Nat) {id:Nat} {a:Act} {w:World} (hm:P.follows .mixedOrders=true)
  (h:WB P .any ops Q S n ops.size (Array.replicate ops.size false) a w.drew):(Code.region id ops true).wp P Q a w:=
 wp_region_any hm (WB.any _ _ _ _ h)
end
open Go.RowKit Go.Lib
theorem late_no {b:Bool} (h:b=false) (h':b=true):False:=by rw [h] at h';cases h'
section
variable {P:Program} {ops:Array Oper} {Q:Exit→Act→World→Prop} {md:Region.Mode} {S:World→Prop} {n:Nat}
def tkOk (wt:Bool) (md:Region.Mode) (ops:Array Oper) (n:Nat):List (Nat × Nat)→Array Bool→Bool
 |[],_=>true
 |(i,d)::r,l=>decide ((ops[i]?).map (·.dst)=some (some d))&&Region.free md ops l i&&(Region.ready md ops l).contains i&&(!wt || (waitB md ops n i&&!(l.getD n true)))&&n != i&&tkOk wt md ops n r (l.setIfInBounds i true)
def Tk (wt:Bool) (P:Program) (md:Region.Mode) (ops:Array Oper) (Q:Exit→Act→World→Prop) (S:World→Prop) (n:Nat):List (Nat × Nat)→Nat→Array Bool→Act→World→Prop
 |[],k,l,a,w=>WB P md ops Q S n k l a w
 |(i,d)::r,k,l,a,w=>∃ k' o v,k=k'+1∧ops[i]?=some o∧YieldsIf P ops (fun w=>wt=true→S w) o v a∧Tk wt P md ops Q S n r k' (l.setIfInBounds i true) (a.put (some d) v) w
theorem Tk.cons {wt:Bool} {i d:Nat} {r:List (Nat × Nat)} {k:Nat} {l:Array Bool} {a:Act} {w:World} {o:Oper} {v:Value} (hi:ops[i]?=some o) (hw:Region.wanted o (yielded ops a.tmps)=true)
  (hy:∀ w,(wt=true→S w)→(execOp a.eval o).run P w=.ok (.value v) w) (h:Tk wt P md ops Q S n r k (l.setIfInBounds i true) (a.put (some d) v) w):Tk wt P md ops Q S n ((i,d)::r) (k+1) l a w:=⟨k,o,v,rfl,hi,.inl ⟨hw,hy⟩,h⟩
theorem Tk.skip {wt:Bool} {i d:Nat} {r:List (Nat × Nat)} {k:Nat} {l:Array Bool} {a:Act} {w:World} {o:Oper} (hi:ops[i]?=some o) (hw:Region.wanted o (yielded ops a.tmps)=false)
  (h:Tk wt P md ops Q S n r k (l.setIfInBounds i true) (a.put (some d) undef) w):Tk wt P md ops Q S n ((i,d)::r) (k+1) l a w:=⟨k,o,_,rfl,hi,.inr ⟨hw,rfl⟩,h⟩
theorem Tk.nil {wt:Bool} {k:Nat} {l:Array Bool} {a:Act} {w:World} (h:WB P md ops Q S n k l a w):Tk wt P md ops Q S n [] k l a w:=h
theorem put_tmps {Q:Exit→Act→World→Prop} (hQ:∀ c (a:Act) t w,Q (.panic c) { a with tmps:=t } w→Q (.panic c) a w) (c:List PanicEntry) (a:Act) (d:Option Nat) (v:Value) (w:World) (h:Q (.panic c) (a.put d v) w):Q (.panic c) a w:=by
 cases d with
 |none=>exact h
 |some d=>exact hQ c a _ w h
theorem Tk.wb (hs:Region.noSelect ops=true) (hQ:∀ c a d v w,Q (.panic c) (a.put d v) w→Q (.panic c) a w):∀ (is:List (Nat × Nat)) {k:Nat} {l:Array Bool} {a:Act} {w:World} (wt:Bool),tkOk wt md ops n is l=true→S w→Tk wt P md ops Q S n is k l a w→WB P md ops Q S n k l a w
 |[],_,_,_,_,_,_,_,h=>h
 |(i,d)::r,k,l,a,w,wt,hc,hS,⟨k',o,v,hk,hi,hy,h⟩=>by
  subst hk
  simp only [tkOk,Bool.and_eq_true,bne_iff_ne,decide_eq_true_eq] at hc
  obtain ⟨⟨⟨⟨⟨h0,h1⟩,h2⟩,h3⟩,h4⟩,h5⟩:=hc
  rw [hi] at h0
  have h0:o.dst=some d:=Option.some.inj h0
  rw [←h0] at h
  have ih:=Tk.wb hs hQ r wt h5 hS h
  cases wt with
  |true=>
   simp only [Bool.not_true,Bool.false_or,Bool.and_eq_true,Bool.not_eq_true'] at h3
   exact WB.first hi (Region.noSelect_spec hs) (fun c a w=>hQ c a _ _ w) h4 (.inl h3.1) k' l a w (Region.free_spec hi h1) (by simpa using h2) (hy.imp (fun h=>⟨h.1,fun w hw=>h.2 w (fun _=>hw)⟩) id) (.inl h3.2) hS ih
  |false=>exact WB.firstP hi (Region.noSelect_spec hs) (fun c a w=>hQ c a _ _ w) h4 k' l a w (Region.free_spec hi h1) (by simpa using h2) (hy.imp (fun h=>⟨h.1,fun w _=>h.2 w (fun e=>by cases e)⟩) id) (fun _=>hS) ih
theorem WB.ts {k:Nat} {l:Array Bool} {a:Act} {w:World} (is:List (Nat × Nat)) (hS:S w) (hc:(Region.noSelect ops&&tkOk true md ops n is l)=true) (h:Tk true P md ops Q S n is k l a w) (hQ:∀ c (a:Act) t w,Q (.panic c) { a with tmps:=t } w→Q (.panic c) a w:=by exact fun _ _ _ _ h=>h):WB P md ops Q S n k l a w:=by
 rw [Bool.and_eq_true] at hc
 exact Tk.wb hc.1 (put_tmps hQ) is true hc.2 hS h
theorem WB.ps {k:Nat} {l:Array Bool} {a:Act} {w:World} (is:List (Nat × Nat)) (hS:S w) (hc:(Region.noSelect ops&&tkOk false md ops n is l)=true) (h:Tk false P md ops Q S n is k l a w) (hQ:∀ c (a:Act) t w,Q (.panic c) { a with tmps:=t } w→Q (.panic c) a w:=by exact fun _ _ _ _ h=>h):WB P md ops Q S n k l a w:=by
 rw [Bool.and_eq_true] at hc
 exact Tk.wb hc.1 (put_tmps hQ) is false hc.2 hS h
end
open Go.RowKit Go.Lib
set_option maxRecDepth 100000 in
set_option maxHeartbeats 1000000 in
theorem index_ent (A:Option Addr) (c:Nat) (l:List Entry) (e:Entry) (w:World) (hr:Rd w A c l) :
  Calls Tryz.prog 136 #[.slice A l.length c,.agg (cN e)] w fun x w'=>∃ n:Int,x=.returned (.int .i64 n)∧(0≤n)=(e∈l)∧Ext w w':=by
 have hm:l.length≤maxLen:=Nat.le_trans hr.1 hr.2.1
 unfold maxLen at hm
 have HR:=Lib.hid hr
 have HE0:Hid (Ext w (w.alloc (oN e))):=(Below.refl _ w).alloc (Nat.le_refl _) _
 have HX0:=Lib.hid (World.alloc_heap_new w (oN e))
 clear hr
 go_enter Tryz.func136,Tryz.ntmps136
 go_wp2_with fail
 generalize (w.alloc (oN e))=W0 at *
 go_loopg [5,8] l.length (fun gk v i wr=>∃ k:Nat,k≤l.length∧Hid (gk=l.length - k)∧i=.int .i64 k∧Hid (∀ j (hj:j<l.length),j<k→l[j]≠e)∧Hid (Ext W0 wr))
 case atStart=>exact ⟨0,Nat.zero_le _,rfl,rfl,fun j _ h=>by omega,Below.refl _ _⟩
 case round=>
  obtain ⟨k,hk,HK,rfl,HG,HB⟩:=hrel
  have hB2:=HE0.out.trans (HB.out.mono HE0.out.size)
  have HB2:=Lib.hid hB2
  by_cases hlt:k<l.length
  ·obtain ⟨b,off,rfl,hbl,c0,c1,c2,c3,c4,c5,c6⟩:=ent_at (HR.out.ext hB2) k hlt
   obtain ⟨d0,d1,d2,d3,d4,d5,d6,df⟩:=seven_cells ((HB.out.block w.heap.size (blk_lt HX0.out)).trans HX0.out)
   have hli:(k:Int)<l.length:=by omega
   have heq:=eq_ent e l[k]
   clear hB2
   by_cases he:l[k]=e
   ·have HY:Hid (e∈l):=he▸List.getElem_mem hlt
    rw [decide_eq_true he.symm] at heq
    clear he
    go_wp2_with fail
    go_region
    go_wp2_with fail
    go_ret
    exact ⟨k,rfl,eq_true HY.out▸by simp,Below.drew HB2.out⟩
   ·have HNE:=Lib.hid he
    rw [decide_eq_false (fun h=>he h.symm)] at heq
    clear he
    go_wp2_with fail
    go_region
    go_wp2_with fail
    go_roundg (l.length - (k+1))
    case measure=>have:=HK.out;omega
    case rel=>
     refine ⟨k+1,by omega,rfl,by go_num,Lib.hid (fun j hj hjk=>?_),Below.drew HB.out⟩
     rcases Nat.lt_or_eq_of_le (Nat.le_of_lt_succ hjk) with h | h
     ·exact HG.out j hj h
     ·subst h;exact HNE.out
  ·have HN:Hid (e∉l):=fun h=>by
    obtain ⟨j,hj,h9⟩:=List.getElem_of_mem h
    exact HG.out j hj (by omega) h9
   have hli:¬((k:Int)<l.length):=by omega
   clear hB2
   go_wp2_with fail
   go_ret
   exact ⟨-1,rfl,eq_false HN.out▸by simp,HB2.out⟩
set_option maxRecDepth 100000 in
theorem contains_ent (A:Option Addr) (c:Nat) (l:List Entry) (e:Entry) (w:World) (hr:Rd w A c l) :
  Calls Tryz.prog 110 #[.slice A l.length c,.agg (cN e)] w fun x w'=>x=.returned (.bool (decide (e∈l)))∧Ext w w':=by
 have HE0:Hid (Ext w (w.alloc (oN e))):=(Below.refl _ w).alloc (Nat.le_refl _) _
 have HC:=Lib.hid (index_ent A c l e (w.alloc (oN e)) (hr.ext HE0.out))
 clear hr
 go_enter Tryz.func110,Tryz.ntmps110
 go_wp2_with fail
 refine HC.out.mono ?_
 rintro x w1 ⟨n,rfl,hn,hb⟩
 have HN:=Lib.hid hn;have HB:=Lib.hid (HE0.out.trans (hb.mono HE0.out.size))
 clear hn hb HC
 go_wp2_with fail
 go_ret
 exact ⟨by simp only [←HN.out];rfl,HB.out⟩
set_option maxRecDepth 100000 in
set_option maxHeartbeats 1000000 in
theorem equal_ents (A:Option Addr) (c:Nat) (a:List Entry) (A':Option Addr) (c':Nat) (b:List Entry) (w:World) (hr:Rd w A c a) (hr':Rd w A' c' b) :
  Calls Tryz.prog 111 #[.slice A a.length c,.slice A' b.length c'] w fun e w'=>e=.returned (.bool (decide (a=b)))∧Ext w w':=by
 have hm:a.length≤maxLen:=Nat.le_trans hr.1 hr.2.1
 have hm':b.length≤maxLen:=Nat.le_trans hr'.1 hr'.2.1
 unfold maxLen at hm hm'
 have HR:=Lib.hid hr;have HR':=Lib.hid hr'
 clear hr hr'
 by_cases hl:a.length=b.length
 ·go_enter Tryz.func111,Tryz.ntmps111
  have hle:((a.length:Int) == (b.length:Int))=true:=by simp [hl]
  have HL:=Lib.hid hl
  clear hl
  go_wp2_with fail
  go_loopg [5,13] a.length (fun gk v i wr=>∃ k:Nat,k≤a.length∧Hid (gk=a.length - k)∧i=.int .i64 k∧Hid (∀ j (hj:j<a.length),j<k→a[j]=b[j]'(by rw [←HL.out];exact hj))∧Hid (Ext w wr))
  case atStart=>exact ⟨0,Nat.zero_le _,rfl,rfl,fun j _ h=>by omega,Below.refl _ _⟩
  case round=>
   obtain ⟨k,hk,HK,rfl,HG,HB⟩:=hrel
   by_cases hlt:k<a.length
   ·have hlt':k<b.length:=by have:=HL.out;omega
    obtain ⟨b1,o1,rfl,hb1,c0,c1,c2,c3,c4,c5,c6⟩:=ent_at (HR.out.ext HB.out) k hlt
    obtain ⟨b2,o2,rfl,hb2,d0,d1,d2,d3,d4,d5,d6⟩:=ent_at (HR'.out.ext HB.out) k hlt'
    have heq:=neq_ent a[k] b[k]
    have hli:(k:Int)<a.length:=by omega
    have hli':(k:Int)<b.length:=by omega
    by_cases he:a[k]=b[k]
    ·rw [decide_eq_true he,Bool.not_true] at heq
     have HE:=Lib.hid he
     clear he
     go_wp2_with fail
     go_region
     go_wp2_with fail
     go_roundg (a.length - (k+1))
     case measure=>have:=HK.out;omega
     case rel=>
      refine ⟨k+1,by omega,rfl,by go_num,Lib.hid (fun j hj hjk=>?_),Below.drew HB.out⟩
      rcases Nat.lt_or_eq_of_le (Nat.le_of_lt_succ hjk) with h | h
      ·exact HG.out j hj h
      ·subst h;exact HE.out
    ·rw [decide_eq_false he,Bool.not_false] at heq
     have HY:Hid (decide (a=b)=false):=by show _=_;rw [decide_eq_false_iff_not];rintro rfl;exact he rfl
     clear he
     go_wp2_with fail
     go_region
     go_wp2_with fail
     go_ret
     exact ⟨by rw [HY.out];rfl,Below.drew HB.out⟩
   ·have HY:Hid (decide (a=b)=true):=by show _=_;rw [decide_eq_true_eq];exact (ext_of_get HL.out).1 fun j hj=>HG.out j hj (by omega)
    have hli:¬((k:Int)<a.length):=by omega
    go_wp2_with fail
    go_ret
    exact ⟨by rw [HY.out];rfl,HB.out⟩
 ·have HY:Hid (decide (a=b)=false):=by show _=_;rw [decide_eq_false_iff_not];rintro rfl;exact hl rfl
  have hle:((a.length:Int) == (b.length:Int))=false:=by simp;omega
  clear hl
  go_enter Tryz.func111,Tryz.ntmps111
  go_wp2_with fail
  go_ret
  exact ⟨by rw [HY.out];rfl,Below.refl _ _⟩
set_option maxHeartbeats 1000000 in
theorem serverOk_c (L:Option Addr) (ln:Nat) (log:List Entry) (safe:Int) (up:Bool) (w:World) (ht:Tab w) (hr:Rd w L ln log) :
  Calls Tryz.prog 61 #[.agg #[.slice L log.length ln,.int .i64 safe,.bool up]] w fun x w'=>x=.returned (.bool (logOk log&&decide (0≤safe∧safe≤log.length)))∧Ext w w':=by
 have hm:log.length≤maxLen:=Nat.le_trans hr.1 hr.2.1
 unfold maxLen at hm
 have hx:=World.alloc_heap_new w (.cells #[.slice L log.length ln,.int .i64 safe,.bool up] 58)
 have hE:Ext w (w.alloc (.cells #[.slice L log.length ln,.int .i64 safe,.bool up] 58)):=(Below.refl _ w).alloc (Nat.le_refl _) _
 obtain ⟨b0,b1,b2,bf⟩:=tri_cells hx
 have HX:=Lib.hid hx;have HE:=Lib.hid hE
 have HC:=Lib.hid (logOk_c L ln log _ (ht.below hE ht.pos) (hr.ext hE))
 clear hx hE hr ht
 cases hl:logOk log
 ·rw [hl] at HC
  clear hl
  go_enter Tryz.func61,Tryz.ntmps61
  go_wp2_with fail
  refine HC.out.mono ?_;rintro e w1 ⟨rfl,hb⟩
  have HB:=Lib.hid (HE.out.trans (hb.mono HE.out.size));clear hb HC
  go_wp2_with fail
  go_ret
  exact ⟨by rfl,HB.out⟩
 ·rw [hl] at HC
  clear hl
  have q1:(0≤safe∧(safe≤log.length∨¬safe≤log.length))∨¬0≤safe:=by omega
  rcases q1 with ⟨q1,q2 | q2⟩ | q1
  all_goals
   go_enter Tryz.func61,Tryz.ntmps61
   go_wp2_with fail
   refine HC.out.mono ?_;rintro e w1 ⟨rfl,hb⟩
   have HB:=Lib.hid (HE.out.trans (hb.mono HE.out.size))
   clear b0 b1 b2 bf
   obtain ⟨b0,b1,b2,bf⟩:=tri_cells ((hb.block _ (blk_lt HX.out)).trans HX.out)
   clear hb HC
   go_wp2_with fail
   go_ret
   exact ⟨by first | (simp [q1,q2];done) | (simp;intro h;omega),HB.out⟩
abbrev sA (L:Option Addr) (log:List Entry) (ln:Nat) (safe:Int) (up:Bool):Array Value:=#[.slice L log.length ln,.int .i64 safe,.bool up]
set_option maxRecDepth 100000 in
set_option maxHeartbeats 1000000 in
theorem ownEntries_c (L:Option Addr) (ln:Nat) (log:List Entry) (safe:Int) (up:Bool) (c:Client) (A1:Option Addr) (n1:Nat) (A2:Option Addr) (n2:Nat) (w:World) (hr:Rd w L ln log) (hq:Rd w A2 n2 c.wait) (h0:0≤c.seen) (h1:c.seen≤log.length) (hl:log.length≤1000) (hl2:c.wait.length≤1000) :
  Calls Tryz.prog 109 #[.agg #[.slice L log.length ln,.int .i64 safe,.bool up],.agg (cC c A1 n1 A2 n2)] w fun x w'=>∃ v,x=.returned v∧Own 35 w' w.heap.size v (ownOf log c)∧Ext w w':=by
 obtain ⟨i,hi⟩:∃ i:Nat,(i:Int)=c.seen:=⟨c.seen.toNat,by omega⟩
 have hcap:=hr.1
 have hsl:∀ W:World,(Instr.slice 24 (.slice L log.length ln) none (some (.int .i64 c.seen)) none).run Tryz.prog W=.ok (.slice (fromA L ln 0 7) i ln) W:=by rw [←hi];exact fun W=>run_head el_ent L log.length ln i (by omega) W
 have hx:=two_new w (.cells #[.slice L log.length ln,.int .i64 safe,.bool up] 58) (oC c A1 n1 A2 n2)
 have hE:Ext w ((w.alloc (.cells #[.slice L log.length ln,.int .i64 safe,.bool up] 58)).alloc (oC c A1 n1 A2 n2)).drew:=(((Below.refl _ w).alloc (Nat.le_refl _) _).alloc (by rw [alloc_sz];omega) _).drew
 have HOF:Hid (ownOf log c=mine (log.take i) c.who++c.wait):=by show _=_;unfold ownOf;rw [←hi];rfl
 have HML:=Lib.hid (Nat.le_trans (mine_len (log.take i) c.who) (by rw [List.length_take];omega:_≤1000))
 have HX1:=Lib.hid hx.1;have HX2:=Lib.hid hx.2;have HE:=Lib.hid hE;have HQ:=Lib.hid (hq.ext hE)
 have HC:=ofClient_c (fromA L ln 0 7) ln (log.take i) c.who _ ((hr.ext hE).head i) (by rw [List.length_take];omega)
 rw [List.length_take,Nat.min_eq_left (by omega:i≤log.length)] at HC
 have HC:=Lib.hid HC
 clear hr hq hE hx hi h0 h1 hcap
 go_enter Tryz.func109,Tryz.ntmps109
 go_upto_region 1 with fail
 generalize ((w.alloc (.cells #[.slice L log.length ln,.int .i64 safe,.bool up] 58)).alloc (oC c A1 n1 A2 n2))=W2 at *
 refine wp_region_B (fun w'=>w'.cell? ⟨w.heap.size,0,none⟩=some (.slice L log.length ln)∧w'.cell? ⟨w.heap.size+1,0,none⟩=some (.int .i64 c.who)∧w'.cell? ⟨w.heap.size+1,1,none⟩=some (.int .i64 c.seen)∧w'.cell? ⟨w.heap.size+1,3,none⟩=some (.slice A2 c.wait.length n2)) 11 (by kernel_rfl) ?_
 have hs:∀ w':World,Ext W2.drew w'→w'.cell? ⟨w.heap.size,0,none⟩=some (.slice L log.length ln)∧w'.cell? ⟨w.heap.size+1,0,none⟩=some (.int .i64 c.who)∧w'.cell? ⟨w.heap.size+1,1,none⟩=some (.int .i64 c.seen)∧w'.cell? ⟨w.heap.size+1,3,none⟩=some (.slice A2 c.wait.length n2):=fun w' h=>by
  obtain ⟨b0,-⟩:=tri_cells ((h.block _ (blk_lt (W:=W2.drew) HX1.out)).trans HX1.out)
  obtain ⟨c0,c1,-,c3,-⟩:=six_cells ((h.block _ (blk_lt (W:=W2.drew) HX2.out)).trans HX2.out)
  exact ⟨b0,c0,c1,c3⟩
 have HS:=Lib.hid hs
 have HS0:=Lib.hid (hs _ (Below.refl _ _))
 clear hs
 refine WB.ts [(0,5),(1,6),(2,7),(3,8),(4,9),(5,10),(6,11),(8,13),(9,14)] HS0.out (by kernel_rfl) ?_
 iterate 9 (apply Tk.cons rfl rfl;(focus (rintro w s;obtain ⟨s0,s1,s2,s3⟩:=s rfl;go_simp;try with_reducible rfl));simp only [Act.put,List.setIfInBounds_toArray,List.set_cons_zero,List.set_cons_succ])
 apply Tk.nil
 refine WB.one (i:=7) (by kernel_rfl) rfl (fun K hK=>?_)
 have HKK:=Lib.hid hK;clear hK
 go_simp
 refine HC.out.mono ?_
 rintro e w1 ⟨v,rfl,ho,hb⟩
 have HS1:=Lib.hid (HS.out _ hb)
 refine HKK.out _ _ ⟨fun _=>HS1.out,?_⟩
 obtain ⟨v',w',hrun,ho',hg'⟩:=app_at el_ent ho (HQ.out.ext hb) (by have:=HML.out;omega) hb.size
 have HO':=Lib.hid (HOF.out▸ho'.lower HE.out.size);have HE':=Lib.hid (ext_grown (HE.out.trans (hb.mono HE.out.size)) hg' (Nat.le_trans HE.out.size hb.size) (fun k hk=>Nat.le_trans HE.out.size (ho.blk k hk).1))
 have HS2:Hid (w'.cell? ⟨w.heap.size,0,none⟩=some (.slice L log.length ln)∧w'.cell? ⟨w.heap.size+1,0,none⟩=some (.int .i64 c.who)∧w'.cell? ⟨w.heap.size+1,1,none⟩=some (.int .i64 c.seen)∧w'.cell? ⟨w.heap.size+1,3,none⟩=some (.slice A2 c.wait.length n2)):=by
  have h:∀ (b o:Nat) (u:Value),b<W2.heap.size→w1.cell? ⟨b,o,none⟩=some u→w'.cell? ⟨b,o,none⟩=some u:=fun b o u hlt hu=>hg'.cell hu (fun e=>by have:=(ho.blk b e.symm).1;exact absurd this (by show ¬W2.heap.size≤b;omega))
  have h1:=blk_lt HX1.out;have h2:=blk_lt HX2.out
  have hh:=HS1.out
  exact ⟨h _ _ _ h1 hh.1,h _ _ _ h2 hh.2.1,h _ _ _ h2 hh.2.2.1,h _ _ _ h2 hh.2.2.2⟩
 clear HKK K hg' ho' ho hb HC HS
 try simp only [Act.put,List.setIfInBounds_toArray,List.set_cons_zero,List.set_cons_succ]
 refine WB.one (i:=10) (by kernel_rfl) rfl (fun K hK=>?_)
 refine step_append_run rfl _ _ _ rfl rfl rfl hrun ?_
 refine hK _ _ ⟨fun _=>HS2.out,?_⟩
 clear hK K
 try simp only [Act.put,List.setIfInBounds_toArray,List.set_cons_zero,List.set_cons_succ]
 refine WB.one (i:=11) (by kernel_rfl) rfl (fun K hK=>?_)
 have HKK:=Lib.hid hK;clear hK
 go_simp
 refine HKK.out _ _ ⟨fun h=>(late_no h (by kernel_rfl)).elim,?_⟩
 clear HKK K
 refine WB.done (by kernel_rfl) ?_
 go_wp2_with fail
 go_ret
 exact ⟨_,rfl,HO'.out,HE'.out⟩
open Go.RowKit Go.Lib
structure ClsR (W:World) (C:Option Addr) (cc:Nat) (xs:List RC) (cls:List Client):Prop where
 rd:RdT 26 W C cc xs
 cls:All2 (RcOk W) xs cls
theorem ClsR.keep {W W':World} {C:Option Addr} {cc:Nat} {xs:List RC} {cls:List Client} (h:ClsR W C cc xs cls) (hk:KeepT W W'):ClsR W' C cc xs cls:=⟨h.rd.keep hk (.inr (.inr (.inl rfl))),h.cls.imp fun _ _ h=>h.keep hk⟩
theorem ClsR.ext {W W':World} {C:Option Addr} {cc:Nat} {xs:List RC} {cls:List Client} (h:ClsR W C cc xs cls) (hb:Ext W W'):ClsR W' C cc xs cls:=h.keep (KeepT.ext hb)
theorem ClsR.at_ {W:World} {C:Option Addr} {cc:Nat} {xs:List RC} {cls:List Client} (h:ClsR W C cc xs cls) (k:Nat) (hk:k<cls.length) :
  ∃ b off A1 n1 A2 n2,C=some ⟨b,off,none⟩∧b<W.heap.size∧RdT 46 W A1 n1 cls[k].base∧RdT 35 W A2 n2 cls[k].wait∧W.cell? ⟨b,off+k*6,none⟩=some (.int .i64 cls[k].who)∧W.cell? ⟨b,off+k*6+1,none⟩=some (.int .i64 cls[k].seen) ∧
   W.cell? ⟨b,off+k*6+2,none⟩=some (.slice A1 cls[k].base.length n1)∧W.cell? ⟨b,off+k*6+3,none⟩=some (.slice A2 cls[k].wait.length n2)∧W.cell? ⟨b,off+k*6+4,none⟩=some (.int .i64 cls[k].done)∧W.cell? ⟨b,off+k*6+5,none⟩=some (.int .i64 cls[k].made):=by
 have hx:k<xs.length:=by rw [h.cls.1];exact hk
 obtain ⟨b,off,e,hb,c0,c1,c2,c3,c4,c5⟩:=rc_at h.rd.1 k hx
 obtain ⟨A1,n1,A2,n2,e2,h1,h2⟩:=h.cls.2 k hx hk
 rw [e2] at c0 c1 c2 c3 c4 c5
 exact ⟨b,off,A1,n1,A2,n2,e,hb,h1,h2,c0,c1,c2,c3,c4,c5⟩
def oS (L:Option Addr) (log:List Entry) (ln:Nat) (safe:Int) (up:Bool):Obj:=.cells #[.slice L log.length ln,.int .i64 safe,.bool up] 58
theorem ext2 (w:World) (x y:Obj):Ext w ((w.alloc x).alloc y):=((Below.refl _ w).alloc (Nat.le_refl _) _).alloc (by rw [alloc_sz];omega) _
theorem own_nn {e:TypeId} {w:World} {base:Nat} {v:Value} {α:Type} [Flat α] {l:List α} (h:Own e w base v l):∃ A c,v=.slice A l.length c∧Rd w A c l:=h.rd
set_option maxRecDepth 100000 in
set_option maxHeartbeats 8000000 in
theorem letterFits_c (L:Option Addr) (ln:Nat) (log:List Entry) (safe:Int) (up:Bool) (C:Option Addr) (cc:Nat) (xs:List RC) (cls:List Client) (m:Lt) (A:Option Addr) (an:Nat) (w:World) (ht:Tab w) (hr:Rd w L ln log) (hc:ClsR w C cc xs cls) (hm:Rd w A an m.list)
  (hl:log.length≤40) (h0:0≤safe) (h1:safe≤log.length) (h3:cls.length=3) (hq:∀ c∈cls,0≤c.seen∧c.seen≤log.length∧c.wait.length≤40) (hf:i64 m.frm) :
  Calls Tryz.prog 63 #[.agg #[.slice L log.length ln,.int .i64 safe,.bool up],.slice C xs.length cc,.agg (cL m A an)] w fun x w'=>x=.returned (.bool (letFits log safe cls m))∧Ext w w':=by
 have hml:m.list.length≤maxLen:=Nat.le_trans hm.1 hm.2.1
 unfold maxLen at hml
 have hx:=two_new w (.cells #[.slice L log.length ln,.int .i64 safe,.bool up] 58) (oL m A an)
 have hE:=ext2 w (.cells #[.slice L log.length ln,.int .i64 safe,.bool up] 58) (oL m A an)
 have HX1:=Lib.hid hx.1;have HX2:=Lib.hid hx.2;have HE:=Lib.hid hE;have HT:=Lib.hid (ht.below hE ht.pos);have HL:=Lib.hid (hr.ext hE);have HM:=Lib.hid (hm.ext hE);have HCL:=Lib.hid (hc.ext hE);have HQ:=Lib.hid hq
 obtain ⟨b0,b1,b2,bf⟩:=tri_cells hx.1
 obtain ⟨d0,d1,d2,df⟩:=tri_cells hx.2
 have hxl:=hc.cls.1
 unfold i64 at hf
 clear hx hE ht hr hc hm hq
 by_cases hd:m.dst=0
 ·have q0:(m.dst == 0)=true:=by simp [hd]
  by_cases hn:m.frm=0∧m.list.length=1
  ·obtain ⟨q1,q2⟩:=hn
   obtain ⟨e,he⟩:=List.length_eq_one_iff.1 q2
   have q1':(m.frm != 0)=false:=by simp [q1]
   have q2':((m.list.length:Int) != 1)=false:=by simp [q2]
   have HF:Hid (letFits log safe cls m=(entryOk e&&(match cls[(e.who - 1).toNat]? with | some c=>decide (e∈ownOf log c) | none=>false))):=by show _=_;unfold letFits;rw [if_pos hd,he];dsimp only;rw [decide_eq_true q1,Bool.true_and];rfl
   obtain ⟨lb,lo,rfl,hlb,e0,e1,e2,e3,e4,e5,e6⟩:=ent_at HM.out 0 (by omega)
   have hi0:(0:Int)<m.list.length:=by omega
   have hi0':0<m.list.length:=by omega
   have hg:m.list[0]'(by omega)=e:=by simp [he]
   simp only [Nat.zero_mul,Nat.add_zero,hg] at e0 e1 e2 e3 e4 e5 e6
   have HEO:=Lib.hid (entryOk_c e _ HT.out (hg▸HM.out.okAt 0 (by omega)))
   clear he hg q1 q2
   cases hok:entryOk e
   ·rw [hok] at HEO HF
    clear hok
    go_enter Tryz.func63,Tryz.ntmps63
    go_wp2_with fail
    refine HEO.out.mono ?_;rintro x w1 ⟨rfl,hb⟩
    have HB:=Lib.hid (HE.out.trans (hb.mono HE.out.size));clear hb HEO
    go_wp2_with fail
    go_ret
    exact ⟨by rw [HF.out];rfl,HB.out⟩
   ·rw [hok,Bool.true_and] at HF
    rw [hok] at HEO
    have hwho:=entryOk_who hok
    obtain ⟨i,hi⟩:∃ i:Nat,(i:Int)=e.who - 1:=⟨(e.who - 1).toNat,by omega⟩
    have hi3:i<cls.length:=by omega
    obtain ⟨hq1,hq2,hq3⟩:=HQ.out _ (List.getElem_mem hi3)
    rw [←hi,Int.toNat_natCast,List.getElem?_eq_getElem hi3] at HF
    obtain ⟨cb,co,A1,n1,A2,n2,rfl,hcb,hR1,hR2,c0,c1,c2,c3,c4,c5⟩:=HCL.out.at_ i hi3
    have hwp:IntKind.i64.wrap (e.who - 1)=(i:Int):=by rw [IntKind.wrap_i64];omega
    have hix:(i:Int)<3:=by omega
    have HR2:=Lib.hid hR2.1
    generalize cls[i]=c at *
    clear hok hwho hi hi3 hR1 hR2 HQ
    go_enter Tryz.func63,Tryz.ntmps63
    go_wp2_with fail
    refine HEO.out.mono ?_;rintro x w1 ⟨rfl,hb⟩
    have HB:=Lib.hid hb
    have hs:∀ w':World,Ext w1.drew w'→w'.cell? ⟨w.heap.size,0,none⟩=some (.slice L log.length ln)∧w'.cell? ⟨w.heap.size,1,none⟩=some (.int .i64 safe)∧w'.cell? ⟨w.heap.size,2,none⟩=some (.bool up)∧w'.cell? ⟨w.heap.size+1,2,none⟩=some (.slice (some ⟨lb,lo,none⟩) m.list.length an) ∧
      w'.cell? ⟨lb,lo,none⟩=some (.int .i64 e.who)∧w'.cell? ⟨lb,lo+1,none⟩=some (.int .i64 e.seq)∧w'.cell? ⟨lb,lo+2,none⟩=some (.int .i64 e.op.kind)∧w'.cell? ⟨lb,lo+3,none⟩=some (.int .i64 e.op.id)∧w'.cell? ⟨lb,lo+4,none⟩=some (.int .i64 e.op.up)∧w'.cell? ⟨lb,lo+5,none⟩=some (.int .i64 e.op.pos)∧w'.cell? ⟨lb,lo+6,none⟩=some (.string e.op.text) ∧
      w'.cell? ⟨cb,co+i*6,none⟩=some (.int .i64 c.who)∧w'.cell? ⟨cb,co+i*6+1,none⟩=some (.int .i64 c.seen)∧w'.cell? ⟨cb,co+i*6+2,none⟩=some (.slice A1 c.base.length n1)∧w'.cell? ⟨cb,co+i*6+3,none⟩=some (.slice A2 c.wait.length n2)∧w'.cell? ⟨cb,co+i*6+4,none⟩=some (.int .i64 c.done)∧w'.cell? ⟨cb,co+i*6+5,none⟩=some (.int .i64 c.made):=fun w' h=>by
     have h9:Ext _ w':=hb.trans ((Below.refl _ w1).drew.trans h |>.mono hb.size)
     obtain ⟨hc,-⟩:=bcell h9
     have g1:=blk_lt HX1.out;have g2:=blk_lt HX2.out
     refine ⟨(hc _ _ g1).trans b0,(hc _ _ g1).trans b1,(hc _ _ g1).trans b2,(hc _ _ g2).trans d2,(hc _ _ hlb).trans e0,(hc _ _ hlb).trans e1,(hc _ _ hlb).trans e2,(hc _ _ hlb).trans e3,(hc _ _ hlb).trans e4,(hc _ _ hlb).trans e5,(hc _ _ hlb).trans e6,(hc _ _ hcb).trans c0,(hc _ _ hcb).trans c1,(hc _ _ hcb).trans c2,(hc _ _ hcb).trans c3,(hc _ _ hcb).trans c4,(hc _ _ hcb).trans c5⟩
    have HS:=Lib.hid hs
    have hb1:Ext _ w1.drew:=Below.drew hb
    have HC:=Lib.hid (ownEntries_c L ln log safe up c A1 n1 A2 n2 w1.drew (HL.out.ext hb1) (HR2.out.ext hb1) hq1 hq2 (by omega) (by omega))
    have HB1:=Lib.hid (HE.out.trans (hb1.mono HE.out.size))
    have hcx:∀ (v:Value) (w2:World),Own 35 w2 w1.drew.heap.size v (ownOf log c)→∃ vA vn,v=.slice vA (ownOf log c).length vn∧Calls Tryz.prog 110 #[.slice vA (ownOf log c).length vn,.agg (cN e)] w2 fun x w'=>x=.returned (.bool (decide (e∈ownOf log c)))∧Ext w2 w':=fun v w2 h=>by
     obtain ⟨vA,vn,rfl,hv⟩:=h.rd
     exact ⟨vA,vn,rfl,contains_ent _ _ _ _ _ hv⟩
    have HCX:=Lib.hid hcx
    clear b0 b1 b2 bf d0 d1 d2 df e0 e1 e2 e3 e4 e5 e6 c0 c1 c2 c3 c4 c5 hb hb1 hs hcx HEO HB
    go_wp2_with fail
    refine wp_region_B (fun w'=>Ext w1.drew w') 16 (by kernel_rfl) ?_
    refine WB.ts [(0,27),(1,28),(2,29),(3,30),(4,31),(5,32),(6,33),(7,34),(8,35),(9,36),(11,38),(12,39),(13,40),(14,41)] (Below.refl _ _) (by kernel_rfl) ?_
    iterate 14 (apply Tk.cons rfl rfl;(focus (rintro w s;obtain ⟨s0,s1,s2,s3,s4,s5,s6,s7,s8,s9,s10,s11,s12,s13,s14,s15,s16⟩:=HS.out _ (s rfl);go_simp;try with_reducible rfl));try simp only [Act.put,List.setIfInBounds_toArray,List.set_cons_zero,List.set_cons_succ])
    apply Tk.nil
    refine WB.one (i:=10) (by kernel_rfl) rfl (fun K hK=>?_)
    have HKK:=Lib.hid hK;clear hK
    go_simp
    refine HC.out.mono ?_
    rintro x w2 ⟨v,rfl,ho,hb⟩
    obtain ⟨vA,vn,rfl,hcx⟩:=HCX.out v w2 ho
    have HC2:=Lib.hid hcx;have HB2:=Lib.hid hb
    refine HKK.out _ _ ⟨fun _=>hb,?_⟩
    clear HKK K ho hb hcx HC HCX
    try simp only [Act.put,List.setIfInBounds_toArray,List.set_cons_zero,List.set_cons_succ]
    refine WB.one (i:=15) (by kernel_rfl) rfl (fun K hK=>?_)
    have HKK:=Lib.hid hK;clear hK
    go_simp
    refine HC2.out.mono ?_
    rintro x w3 ⟨rfl,hb⟩
    have HB3:=Lib.hid (HB2.out.trans (hb.mono HB2.out.size))
    refine HKK.out _ _ ⟨fun _=>HB3.out,?_⟩
    clear HKK K hb HC2
    try simp only [Act.put,List.setIfInBounds_toArray,List.set_cons_zero,List.set_cons_succ]
    refine WB.one (i:=16) (by kernel_rfl) rfl (fun K hK=>?_)
    have HKK:=Lib.hid hK;clear hK
    go_simp
    refine HKK.out _ _ ⟨fun h=>(late_no h (by kernel_rfl)).elim,?_⟩
    clear HKK K
    refine WB.done (by kernel_rfl) ?_
    go_wp2_with fail
    go_ret
    exact ⟨by rw [HF.out];rfl,HB1.out.trans (HB3.out.mono HB1.out.size)⟩
  ·have HF:Hid (letFits log safe cls m=false):=by
    show _=_
    unfold letFits
    rw [if_pos hd]
    split
    ·next e he=>rw [he] at hn;simp at hn;simp [hn]
    ·rfl
   have q1:(m.frm != 0)=true∨(m.frm != 0)=false∧((m.list.length:Int) != 1)=true:=by
    by_cases h:m.frm=0
    ·exact .inr ⟨by simp [h],by simp;omega⟩
    ·exact .inl (by simp [h])
   clear hn
   rcases q1 with q1 | ⟨q1,q2⟩
   all_goals
    go_enter Tryz.func63,Tryz.ntmps63
    go_wp2_with fail
    go_ret
    exact ⟨by rw [HF.out];rfl,HE.out⟩
 ·have q0:(m.dst == 0)=false:=by simp [hd]
  have HW:=Lib.hid (whoOk_c m.dst)
  by_cases hn:isWho m.dst=true∧0≤m.frm∧m.frm≤safe∧(m.list.length:Int)≤safe - m.frm
  ·obtain ⟨q1,q2,q3,q4⟩:=hn
   have HF:Hid (letFits log safe cls m=decide (m.list=(log.drop m.frm.toNat).take m.list.length)):=by
    show _=_
    unfold letFits
    rw [if_neg hd,q1,decide_eq_true (⟨q2,q3⟩:_∧_),decide_eq_true q4];rfl
   obtain ⟨i,hi⟩:∃ i:Nat,(i:Int)=m.frm:=⟨m.frm.toNat,by omega⟩
   have hcap:=HL.out.1
   have hsl:∀ W:World,(Instr.slice 24 (.slice L log.length ln) (some (.int .i64 m.frm)) (some (.int .i64 (m.frm+(m.list.length:Int)))) none).run Tryz.prog W=.ok (.slice (fromA L ln i 7) m.list.length (ln - i)) W:=fun W=>by
    have h:=run_mid el_ent L log.length ln i (i+m.list.length) (by omega) (by omega) W
    rw [Int.natCast_add,hi,show i+m.list.length - i=m.list.length by omega] at h
    exact h
   have hmid:=HL.out.mid i (i+m.list.length) (by omega)
   rw [show i+m.list.length - i=m.list.length by omega] at hmid
   have hml2:((log.drop i).take m.list.length).length=m.list.length:=by rw [List.length_take,List.length_drop];omega
   have HC:=equal_ents A an m.list (fromA L ln i 7) (ln - i) ((log.drop i).take m.list.length) _ (HM.out.ext (Below.drew (Below.refl _ _))) (hmid.ext (Below.drew (Below.refl _ _)))
   rw [hml2] at HC
   rw [←hi,Int.toNat_natCast] at HF
   have HC:=Lib.hid HC
   have w1:IntKind.i64.wrap (safe - m.frm)=safe - m.frm:=by rw [IntKind.wrap_i64];omega
   have w2:IntKind.i64.wrap (m.frm+(m.list.length:Int))=m.frm+(m.list.length:Int):=by rw [IntKind.wrap_i64];omega
   have q2':¬m.frm<0:=by omega
   have q3':¬safe<m.frm:=by omega
   have q4':¬safe - m.frm<(m.list.length:Int):=by omega
   clear hi hmid hml2
   go_enter Tryz.func63,Tryz.ntmps63
   go_wp2_with fail
   refine (HW.out _).mono ?_;rintro x w1 ⟨rfl,rfl⟩
   rw [q1]
   go_wp2_with fail
   have hs:∀ w':World,Ext ((w.alloc (.cells #[.slice L log.length ln,.int .i64 safe,.bool up] 58)).alloc (oL m A an)).drew w'→w'.cell? ⟨w.heap.size,0,none⟩=some (.slice L log.length ln)∧w'.cell? ⟨w.heap.size+1,1,none⟩=some (.int .i64 m.frm)∧w'.cell? ⟨w.heap.size+1,2,none⟩=some (.slice A m.list.length an):=fun w' h=>by
    obtain ⟨hc,-⟩:=bcell ((Below.refl _ ((w.alloc (.cells #[.slice L log.length ln,.int .i64 safe,.bool up] 58)).alloc (oL m A an))).drew.trans h)
    have g1:=blk_lt HX1.out;have g2:=blk_lt HX2.out
    exact ⟨(hc _ _ g1).trans b0,(hc _ _ g2).trans d1,(hc _ _ g2).trans d2⟩
   have HS:=Lib.hid hs
   clear hs b0 b1 b2 bf d0 d1 d2 df
   refine wp_region_B (fun w'=>Ext ((w.alloc (.cells #[.slice L log.length ln,.int .i64 safe,.bool up] 58)).alloc (oL m A an)).drew w') 14 (by kernel_rfl) ?_
   refine WB.ts [(0,70),(1,71),(2,72),(3,73),(4,74),(5,75),(6,76),(7,77),(8,78),(9,79),(10,80),(11,81),(12,82)] (Below.refl _ _) (by kernel_rfl) ?_
   iterate 13 (apply Tk.cons rfl rfl;(focus (rintro w s;obtain ⟨s0,s1,s2⟩:=HS.out _ (s rfl);go_simp;try with_reducible rfl));try simp only [Act.put,List.setIfInBounds_toArray,List.set_cons_zero,List.set_cons_succ])
   apply Tk.nil
   refine WB.one (i:=13) (by kernel_rfl) rfl (fun K hK=>?_)
   have HKK:=Lib.hid hK;clear hK
   go_simp
   refine HC.out.mono ?_
   rintro x w3 ⟨rfl,hb⟩
   have HB3:=Lib.hid hb
   refine HKK.out _ _ ⟨fun _=>HB3.out,?_⟩
   clear HKK K hb HC
   try simp only [Act.put,List.setIfInBounds_toArray,List.set_cons_zero,List.set_cons_succ]
   refine WB.one (i:=14) (by kernel_rfl) rfl (fun K hK=>?_)
   have HKK:=Lib.hid hK;clear hK
   go_simp
   refine HKK.out _ _ ⟨fun h=>(late_no h (by kernel_rfl)).elim,?_⟩
   clear HKK K
   refine WB.done (by kernel_rfl) ?_
   go_wp2_with fail
   go_ret
   exact ⟨by rw [HF.out];rfl,HE.out.trans ((Below.drew (Below.refl _ _)).trans HB3.out |>.mono HE.out.size)⟩
  ·have HF:Hid (letFits log safe cls m=false):=by
    show _=_
    unfold letFits
    rw [if_neg hd,Bool.eq_false_iff]
    intro h
    simp only [Bool.and_eq_true,decide_eq_true_eq] at h
    exact hn ⟨h.1.1.1,h.1.1.2.1,h.1.1.2.2,h.1.2⟩
   have q1:isWho m.dst=false∨isWho m.dst=true∧(m.frm<0∨¬m.frm<0∧(safe<m.frm∨¬safe<m.frm∧IntKind.i64.wrap (safe - m.frm)=safe - m.frm∧safe - m.frm<(m.list.length:Int))):=by
    cases hw:isWho m.dst
    ·exact .inl rfl
    ·refine .inr ⟨rfl,?_⟩
     by_cases q2:m.frm<0
     ·exact .inl q2
     ·refine .inr ⟨q2,?_⟩
      by_cases q3:safe<m.frm
      ·exact .inl q3
      ·refine .inr ⟨q3,by rw [IntKind.wrap_i64];omega,?_⟩
       rw [hw] at hn
       have hn:¬((m.list.length:Int)≤safe - m.frm):=fun h=>hn ⟨rfl,by omega,by omega,h⟩
       omega
   clear hn hd
   rcases q1 with q1 | ⟨q1,q2 | ⟨q2,q3 | ⟨q3,w1,q4⟩⟩⟩
   all_goals
    go_enter Tryz.func63,Tryz.ntmps63
    go_wp2_with fail
    refine (HW.out _).mono ?_;rintro x w1 ⟨rfl,rfl⟩
    rw [q1]
    go_wp2_with fail
    go_ret
    exact ⟨by rw [HF.out];rfl,HE.out⟩
open Go.RowKit Go.Lib
theorem rowMade_c (who n:Int) (w:World) (h1:i64 who) (h2:i64 n) :
  Calls Tryz.prog 36 #[.int .i64 who,.int .i64 n] w fun e w'=>e=.returned (.int .i64 (rowMade who n))∧w'=w:=by
 have HC:=Lib.hid (whoOk_c who w)
 have hm:rowMade who n=if isWho who=true∧1≤n∧n≤6 then 10*who+n else 0:=by unfold rowMade isWho;simp [and_assoc]
 cases ha:isWho who
 ·rw [ha] at HC hm
  have hm0:rowMade who n=0:=by rw [hm];simp
  rw [hm0]
  clear ha h1 h2 hm hm0
  go_enter Tryz.func36,Tryz.ntmps36
  go_wp2_with fail
  refine HC.out.mono ?_;rintro e w' ⟨rfl,rfl⟩
  go_wp2_with fail
  go_ret
  exact ⟨rfl,rfl⟩
 have ha':1≤who∧who≤3:=by unfold isWho at ha;simpa using ha
 obtain ⟨hw1,hw2⟩:=ha'
 rw [ha] at HC hm
 have HM:=Lib.hid hm
 clear ha hm
 by_cases hn1:n<1
 ·have hm0:rowMade who n=0:=by rw [HM.out,if_neg (by omega)]
  rw [hm0]
  clear h1 h2 hm0 HM
  go_enter Tryz.func36,Tryz.ntmps36
  go_wp2_with fail
  refine HC.out.mono ?_;rintro e w' ⟨rfl,rfl⟩
  go_wp2_with fail
  go_ret
  exact ⟨rfl,rfl⟩
 by_cases hn2:6<n
 ·have hm0:rowMade who n=0:=by rw [HM.out,if_neg (by omega)]
  rw [hm0]
  clear h1 h2 hm0 HM
  go_enter Tryz.func36,Tryz.ntmps36
  go_wp2_with fail
  refine HC.out.mono ?_;rintro e w' ⟨rfl,rfl⟩
  go_wp2_with fail
  go_ret
  exact ⟨rfl,rfl⟩
 have hm0:rowMade who n=10*who+n:=by rw [HM.out,if_pos ⟨rfl,by omega,by omega⟩]
 rw [hm0]
 clear h1 h2 hm0 HM
 have ha1:IntKind.i64.wrap (10*who)=10*who:=by rw [IntKind.wrap_i64];omega
 have ha2:IntKind.i64.wrap (10*who+n)=10*who+n:=by rw [IntKind.wrap_i64];omega
 go_enter Tryz.func36,Tryz.ntmps36
 go_wp2_with fail
 refine HC.out.mono ?_;rintro e w' ⟨rfl,rfl⟩
 go_wp2_with fail
 go_ret
 exact ⟨rfl,rfl⟩
end Go.Proofs.YtecmcjfdaipfcaaGreatDoor
