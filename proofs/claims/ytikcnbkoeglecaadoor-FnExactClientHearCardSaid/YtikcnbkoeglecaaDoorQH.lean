/- Slices of rows and entries are cloned; the outline at the beginning. The outline behind a log; how many entries of somebody there are. The ring of the entries that wait. The ring of the entries that wait: made of a list; the oldest taken out. The oldest entry of the ring, taken out if it is a certain one. The ring's entries, handed out and collected. -/
import Derived.Test.YtikcnbkoeglecaaDoorQG
import Derived.Lib.SliceRun
import Derived.Lib.Walk
import Derived.Test.YtikcnbkoeglecaaDoorQB
import Derived.Deep.RegionHeld3
import Derived.RegionTactic
import Derived.Laws.StructEq
import Derived.RangeFuncBox
namespace Go.Proofs.YtikcnbkoeglecaaDoor
open Go.RowKit Go.Shelf Go.Lib
set_option linter.unusedVariables false

theorem wpList_append_run {P : Program} {w : World} {ops : Array Oper} {rest : List Oper} {o : Oper} {a : Act} {Q : Exit → Act → World → Prop} (hg : o.guard = none) (s x : Operand) (t : TypeId)
    (hop : o.op = Op.call { callee := Callee.builtin Builtin.append, args := #[s, x], argTypes := #[t, t] }) {v sl v' : Value} {w' : World} (hs : a.eval s = v) (hx : a.eval x = sl) (hrun : (Builtin.append_ #[t, t] o.type #[v, sl]).run P w = .ok v' w')
    (hK : wpList P ops Q rest (a.put o.dst v') w') : wpList P ops Q (o :: rest) a w := by
  refine wpList_plain hg fun K hK' => ?_
  unfold Oper.wp
  simp [execOp, hop, resolve, invoke, builtin, hs, hx, hrun, Result.andThen]
  exact hK' _ _ hK
theorem ent_info : ∃ i : TypeInfo, Tryd.prog.info? 58 = some i ∧ i.zero = some (.agg #[.int .i64 0, .int .i64 0, .int .i64 0, .int .i64 0, .int .i64 0, .int .i64 0, .string ⟨#[]⟩]) ∧ i.size = 7 ∧ i.bytes = 64 := info_parts (by kernel_rfl)
theorem und_ents : Tryd.prog.underlying 23 = some (.slice 58) := by kernel_rfl

set_option maxRecDepth 100000 in
set_option maxHeartbeats 1000000 in
theorem clone_row (A : Option Addr) (c : Nat) (l : List Row) (w : World) (hr : Rd w A c l) (hb : l.length ≤ 1000000) :
    Calls Tryd.prog 52 #[.slice A l.length c] w fun e w' => ∃ v, e = .returned v ∧ Own 61 w' w.heap.size v l ∧ Ext w w' := by
  have q22 : ∀ (w : World) (a : Option Addr) (n c n' c' : Nat), (binOp .eql 25 (.slice a n c) (.slice none n' c')).run Tryd.prog w = .ok (.bool a.isNone) w := fun w a n c n' c' => Lib.run_eql_slice_nil w _ _ a n c n' c' und_rows
  cases A with
  | none =>
    have hl : l = [] := by
      cases l with
      | nil => rfl
      | cons x l => obtain ⟨b, off, h, _⟩ := hr.2.2.1 (by simp); cases h
    subst hl
    clear hr
    go_enter Tryd.func52, Tryd.ntmps52
    go_wp2
    go_ret
    exact ⟨_, rfl, Own.nil _ _ _, Below.refl _ _⟩
  | some a =>
    obtain ⟨i0, hi, hz0, hz1, hz2⟩ := row_info
    have hn : ∀ j u, (flat l)[j]? = some u → (w.alloc (.cells #[] 61)).cell? (a.add j) = some u := by
      intro j u hj
      have hl : 0 < l.length := by
        cases l with
        | nil => simp [flat] at hj
        | cons x l => simp
      obtain ⟨b, off, h, hc⟩ := hr.2.2.1 hl
      cases h
      have e1 : (⟨b, off, none⟩ : Addr).add j = ⟨b, off + j, none⟩ := by unfold Addr.add; split <;> simp_all
      rw [e1]
      exact Lib.cell?_alloc_some _ (hc j u hj)
    have happ := run_append_own_at (P := Tryd.prog) (w := w.alloc (.cells #[] 61)) w.heap.size 25 25 61 i0 _ 3 32 und_rows hi hz0 hz1 hz2 rfl (by decide) _ 0 [] (World.ownsRow_made w #[] 0 (Nat.le_refl _) (Nat.zero_le _) rfl) a l.length c (flat l) (flat_length l) hn (flat_one_cell l) (by unfold maxLen; omega) (by omega) (by rw [alloc_sz]; omega)
    obtain ⟨v', w1, hrun, hown, hgrow, -, -⟩ := happ
    have HOK := Lib.hid hr.ok
    have HOWN := Lib.hid hown; have HG := Lib.hid hgrow
    clear hr hn hown hgrow hi hz0 hz1 hz2
    go_enter Tryd.func52, Tryd.ntmps52
    go_wp2_with (at_builtin; refine wpList_append_run rfl _ _ _ rfl rfl rfl hrun ?_)
    go_ret
    refine ⟨_, rfl, ⟨?_, HOK.out⟩, ?_⟩
    · have := HOWN.out; rwa [Nat.zero_add, List.nil_append] at this
    · exact ((Below.refl _ w).alloc (Nat.le_refl _) _).grown HG.out (by rw [alloc_sz]; omega) (by intro k hk; simp [Value.ownBlock] at hk; omega)

set_option maxRecDepth 100000 in
set_option maxHeartbeats 1000000 in
theorem clone_ent (A : Option Addr) (c : Nat) (l : List Entry) (w : World) (hr : Rd w A c l) (hb : l.length ≤ 1000000) :
    Calls Tryd.prog 75 #[.slice A l.length c] w fun e w' => ∃ v, e = .returned v ∧ Own 58 w' w.heap.size v l ∧ Ext w w' := by
  have q22 : ∀ (w : World) (a : Option Addr) (n c n' c' : Nat), (binOp .eql 23 (.slice a n c) (.slice none n' c')).run Tryd.prog w = .ok (.bool a.isNone) w := fun w a n c n' c' => Lib.run_eql_slice_nil w _ _ a n c n' c' und_ents
  cases A with
  | none =>
    have hl : l = [] := by
      cases l with
      | nil => rfl
      | cons x l => obtain ⟨b, off, h, _⟩ := hr.2.2.1 (by simp); cases h
    subst hl
    clear hr
    go_enter Tryd.func75, Tryd.ntmps75
    go_wp2
    go_ret
    exact ⟨_, rfl, Own.nil _ _ _, Below.refl _ _⟩
  | some a =>
    obtain ⟨i0, hi, hz0, hz1, hz2⟩ := ent_info
    have hn : ∀ j u, (flat l)[j]? = some u → (w.alloc (.cells #[] 58)).cell? (a.add j) = some u := by
      intro j u hj
      have hl : 0 < l.length := by
        cases l with
        | nil => simp [flat] at hj
        | cons x l => simp
      obtain ⟨b, off, h, hc⟩ := hr.2.2.1 hl
      cases h
      have e1 : (⟨b, off, none⟩ : Addr).add j = ⟨b, off + j, none⟩ := by unfold Addr.add; split <;> simp_all
      rw [e1]
      exact Lib.cell?_alloc_some _ (hc j u hj)
    have happ := run_append_own_at (P := Tryd.prog) (w := w.alloc (.cells #[] 58)) w.heap.size 23 23 58 i0 _ 7 64 und_ents hi hz0 hz1 hz2 rfl (by decide) _ 0 [] (World.ownsRow_made w #[] 0 (Nat.le_refl _) (Nat.zero_le _) rfl) a l.length c (flat l) (flat_length l) hn (flat_one_cell l) (by unfold maxLen; omega) (by omega) (by rw [alloc_sz]; omega)
    obtain ⟨v', w1, hrun, hown, hgrow, -, -⟩ := happ
    have HOK := Lib.hid hr.ok
    have HOWN := Lib.hid hown; have HG := Lib.hid hgrow
    clear hr hn hown hgrow hi hz0 hz1 hz2
    go_enter Tryd.func75, Tryd.ntmps75
    go_wp2_with (at_builtin; refine wpList_append_run rfl _ _ _ rfl rfl rfl hrun ?_)
    go_ret
    refine ⟨_, rfl, ⟨?_, HOK.out⟩, ?_⟩
    · have := HOWN.out; rwa [Nat.zero_add, List.nil_append] at this
    · exact ((Below.refl _ w).alloc (Nat.le_refl _) _).grown HG.out (by rw [alloc_sz]; omega) (by intro k hk; simp [Value.ownBlock] at hk; omega)

set_option maxRecDepth 100000 in
theorem treeNew_c (w : World) : Calls Tryd.prog 33 #[] w fun e w' => ∃ v, e = .returned v ∧ Own 61 w' w.heap.size v treeNew ∧ Ext w w' := by
  go_enter Tryd.func33, Tryd.ntmps33
  go_wp2
  go_ret
  refine ⟨_, rfl, ⟨⟨rfl, .inr ⟨w.heap.size, 3, _, rfl, Nat.le_refl _, World.alloc_heap_new w _, Nat.le_refl _, by decide, rfl, rfl⟩⟩, ?_⟩, (Below.refl _ w).alloc (Nat.le_refl _) _⟩
  intro r hr
  simp only [treeNew, List.mem_cons, List.not_mem_nil, or_false] at hr
  rcases hr with rfl | rfl | rfl <;> exact Nat.zero_le _
end Go.Proofs.YtikcnbkoeglecaaDoor
namespace Go.Proofs.YtikcnbkoeglecaaDoor
open Go.RowKit
set_option linter.unusedVariables false

def treeOf (l : List Entry) : List Row := l.foldl (fun t e => opDo t e.op) treeNew
def logTree (l : List Entry) : List Row := if logOk l then treeOf l else []
theorem treeOf_take (l : List Entry) (k : Nat) (hk : k < l.length) : treeOf (l.take (k + 1)) = opDo (treeOf (l.take k)) l[k].op := by
  unfold treeOf; rw [List.take_succ_eq_append_getElem hk, List.foldl_append]; rfl
theorem entryOk_op {e : Entry} (h : entryOk e = true) : opOk e.op = true := by
  simp only [entryOk, Bool.and_eq_true] at h; exact h.1.2
theorem logOk_at {l : List Entry} (h : logOk l = true) (k : Nat) (hk : k < l.length) : entryOk l[k] = true := by
  have := ((logOk_iff l).1 h).2 k hk
  rw [goodAt_lt l k hk, Bool.and_eq_true] at this; exact this.1
theorem treeOk_new : treeOk treeNew = true := by decide
theorem treeOf_ok {l : List Entry} (h : ∀ e ∈ l, opOk e.op = true) : treeOk (treeOf l) = true := by
  have : ∀ (t : List Row), treeOk t = true → (∀ e ∈ l, opOk e.op = true) → treeOk (l.foldl (fun t e => opDo t e.op) t) = true := by
    clear h
    induction l with
    | nil => intro t h _; exact h
    | cons e l ih =>
      intro t h hl
      refine ih _ ?_ (fun e' he => hl e' (List.mem_cons_of_mem _ he))
      have ho := hl e List.mem_cons_self
      show treeOk (opDo t e.op) = true
      unfold opDo
      rw [h, ho, Bool.and_self, if_pos rfl]
      exact treeOk_do t e.op h ho
  exact this treeNew treeOk_new h

set_option maxRecDepth 100000 in
set_option maxHeartbeats 1000000 in
theorem logTree_c (A : Option Addr) (c : Nat) (l : List Entry) (w : World) (ht : Tab w) (hr : Rd w A c l) :
    Calls Tryd.prog 7 #[.slice A l.length c] w fun e w' => ∃ v, e = .returned v ∧ Own 61 w' w.heap.size v (logTree l) ∧ Ext w w' := by
  have hm : l.length ≤ maxLen := Nat.le_trans hr.1 hr.2.1
  unfold maxLen at hm
  have hL := logOk_c A c l w ht hr
  cases hok : logOk l
  · rw [hok] at hL
    have HL := Lib.hid hL
    have hres : logTree l = [] := by unfold logTree; rw [hok]; rfl
    rw [hres]
    clear hL ht hr hok hres
    go_enter Tryd.func7, Tryd.ntmps7
    go_wp2_with fail
    refine HL.out.mono ?_; rintro e w1 ⟨rfl, hb⟩
    have HB := Lib.hid hb; clear hb HL
    go_wp2_with fail
    go_ret
    exact ⟨_, rfl, Own.nil _ _ _, HB.out⟩
  · rw [hok] at hL
    have HL := Lib.hid hL
    have hres : logTree l = treeOf l := by unfold logTree; rw [hok]; rfl
    rw [hres]
    have HR := Lib.hid hr; have HT := Lib.hid ht
    clear hL ht hr hok hres
    go_enter Tryd.func7, Tryd.ntmps7
    go_wp2_with fail
    refine HL.out.mono ?_; rintro e w1 ⟨rfl, hb⟩
    have HB := Lib.hid hb; clear hb HL
    go_wp2_with fail
    refine (treeNew_c w1).mono ?_; rintro e w2 ⟨v, rfl, hown, hb2⟩
    have HB2 := Lib.hid (HB.out.trans (hb2.mono HB.out.size))
    have HOWN := Lib.hid (hown.lower HB.out.size)
    clear hown hb2
    go_wp2_with fail
    go_loopg [3, 12] l.length (fun gk v i wr => ∃ k : Nat, k ≤ l.length ∧ Hid (gk = l.length - k) ∧ i = .int .i64 k ∧ Hid (Own 61 wr w.heap.size v (treeOf (l.take k))) ∧ Hid (Below w.heap.size w wr))
    case atStart => exact ⟨0, Nat.zero_le _, rfl, rfl, HOWN.out, HB2.out⟩
    case round =>
      obtain ⟨k, hk, HK, rfl, HO, HW⟩ := hrel
      by_cases hlt : k < l.length
      · obtain ⟨b, off, rfl, hbl, c0, c1, c2, c3, c4, c5, c6⟩ := ent_at (HR.out.ext HW.out) k hlt
        obtain ⟨A2, cap2, hv, hrd⟩ := HO.out.rd
        subst hv
        have hsz := HW.out.size
        have hC := Lib.hid (opDo_c A2 cap2 (treeOf (l.take k)) l[k].op (wr.alloc (.cells #[.int .i64 l[k].who, .int .i64 l[k].seq, .int .i64 l[k].op.kind, .int .i64 l[k].op.id, .int .i64 l[k].op.up, .int .i64 l[k].op.pos, .string l[k].op.text] 58))
          ((HT.out.below HW.out HT.out.pos).alloc _) (hrd.alloc _) (HR.out.okAt k hlt))
        have HN := Lib.hid (treeOf_take l k hlt)
        clear hrd
        go_wp2_with fail
        refine hC.out.mono ?_; rintro e w3 ⟨v3, rfl, hown3, hb3⟩
        have HOWN3 := Lib.hid (hown3.lower (Nat.le_trans hsz (by rw [alloc_sz]; omega)))
        have HB3 := Lib.hid (HW.out.trans (((Below.refl w.heap.size wr).alloc hsz _).trans (hb3.mono (Nat.le_trans hsz (by rw [alloc_sz]; omega)))))
        clear hown3 hb3 hC
        go_wp2_with fail
        go_roundg (l.length - (k + 1))
        case measure => have := HK.out; omega
        case rel => exact ⟨k + 1, by omega, rfl, by go_num, by rw [HN.out]; exact HOWN3.out, HB3.out⟩
      · have hkl : k = l.length := by omega
        subst hkl
        rw [List.take_length] at HO
        go_wp2_with fail
        go_ret
        exact ⟨_, rfl, HO.out, HW.out⟩

def logSeq (l : List Entry) (who : Int) : Int := if logOk l then cntW l who else -1
set_option maxRecDepth 100000 in
set_option maxHeartbeats 1000000 in
theorem logSeq_c (A : Option Addr) (c : Nat) (l : List Entry) (who : Int) (w : World) (ht : Tab w) (hr : Rd w A c l) (hw : (Lit.int .i64 who).wf = true) :
    Calls Tryd.prog 13 #[.slice A l.length c, .int .i64 who] w fun e w' => e = .returned (.int .i64 (logSeq l who)) ∧ Ext w w' := by
  have hm : l.length ≤ maxLen := Nat.le_trans hr.1 hr.2.1
  unfold maxLen at hm
  have hL := logOk_c A c l w ht hr
  have HW := Lib.hid hw
  cases hok : logOk l
  · rw [hok] at hL
    have HL := Lib.hid hL
    have hres : logSeq l who = -1 := by unfold logSeq; rw [hok]; rfl
    rw [hres]
    clear hL ht hr hok hres hw
    go_enter Tryd.func13, Tryd.ntmps13
    go_wp2_with fail
    refine HL.out.mono ?_; rintro e w1 ⟨rfl, hb⟩
    have HB := Lib.hid hb; clear hb HL
    go_wp2_with fail
    go_ret
    exact ⟨rfl, HB.out⟩
  · rw [hok] at hL
    have HL := Lib.hid hL
    have hres : logSeq l who = cntW l who := by unfold logSeq; rw [hok]; rfl
    rw [hres]
    have HR := Lib.hid hr; have HT := Lib.hid ht
    have HOK := Lib.hid hok
    have hl40 := ((logOk_iff l).1 hok).1
    clear hL ht hr hok hres hw
    have hmm := @run_makeMap Tryd.prog
    go_enter Tryd.func13, Tryd.ntmps13
    go_wp2_with fail
    refine HL.out.mono ?_; rintro e w1 ⟨rfl, hb⟩
    have HB := Lib.hid hb; clear hb HL
    have hB1 := HB.out.size
    go_wp2_with fail
    go_loopg [14] l.length (fun gk i wr => ∃ k : Nat, k ≤ l.length ∧ Hid (gk = l.length - k) ∧ i = .int .i64 k ∧ Hid (Tal wr w1.heap.size k (fun who => (cntW (l.take k) who : Int))) ∧ Hid (Below w.heap.size w wr))
    case atStart => exact ⟨0, Nat.zero_le _, rfl, rfl, (by simpa [cntW] using Tal.made w1 : Tal _ _ 0 _), HB.out.alloc hB1 _⟩
    case round =>
      obtain ⟨k, hk, HK, rfl, HTal, HBW⟩ := hrel
      by_cases hlt : k < l.length
      · obtain ⟨b, off, rfl, hbl, c0, c1, c2, c3, c4, c5, c6⟩ := ent_at (HR.out.ext HBW.out) k hlt
        have hsz := HBW.out.size
        have hwho := entryOk_who (logOk_at HOK.out k hlt)
        have hC := Lib.hid (add_c w1.heap.size k (fun who => (cntW (l.take k) who : Int)) l[k].who (wr.alloc (.cells #[.int .i64 l[k].who, .int .i64 l[k].seq, .int .i64 l[k].op.kind, .int .i64 l[k].op.id, .int .i64 l[k].op.up, .int .i64 l[k].op.pos, .string l[k].op.text] 58))
          (HTal.out.below ((Below.refl _ _).alloc (Nat.le_refl _) _)) (by unfold maxLen; omega) (WalkArith.wf_i64 (by omega)) (by omega) (by have := cntW_le (l.take k) l[k].who; rw [List.length_take] at this; omega))
        clear hwho
        go_wp2_with fail
        refine hC.out.mono ?_; rintro e w3 ⟨rfl, ht3, hg3⟩
        have HT3 := Lib.hid ht3; have HG3 := Lib.hid hg3
        clear ht3 hg3 hC
        go_wp2_with fail
        go_roundg (l.length - (k + 1))
        case measure => have := HK.out; omega
        case rel =>
          refine ⟨k + 1, by omega, rfl, by go_num, ?_, ?_⟩
          · have hf : (fun who => (cntW (l.take (k + 1)) who : Int)) = upd (fun who => (cntW (l.take k) who : Int)) l[k].who ((cntW (l.take k) l[k].who : Int) + 1) := by
              funext x
              rw [cntW_take l k hlt x]
              unfold upd
              by_cases hx : x = l[k].who
              · rw [if_pos hx, hx, if_pos rfl]; simp
              · rw [if_neg hx, if_neg (fun e => hx e.symm)]; simp
            rw [hf]
            exact HT3.out
          · exact ext_grown (HBW.out.alloc hsz _) HG3.out (by rw [alloc_sz]; omega) (fun k e => by injection e with e; omega)
      · have hkl : k = l.length := by omega
        subst hkl
        rw [List.take_length] at HTal
        have hlook := HTal.out.look who HW.out
        go_wp2_with fail
        go_ret
        exact ⟨rfl, HBW.out⟩
end Go.Proofs.YtikcnbkoeglecaaDoor
namespace Go.Proofs.YtikcnbkoeglecaaDoor
open Go.RowKit
set_option linter.unusedVariables false

def slotOf (h i : Nat) : Nat := ((h + i) % 40) * 7
structure Ring (w : World) (b h : Nat) (f : Nat → Value) (q : List Entry) : Prop where
  row : w.rowIs b 110 282 f
  hd : h < 40
  len : q.length ≤ 40
  cHd : f 280 = .int .i64 h
  cSz : f 281 = .int .i64 q.length
  at_ : ∀ i (hi : i < q.length) j v, (entE q[i])[j]? = some v → f (slotOf h i + j) = v
  ok : ∀ e ∈ q, e.op.text.size ≤ maxLen

theorem gset {w w' : World} {b : Nat} (h : w.grownBy w' (some b)) (i : Nat) (v : Value) : w.grownBy (w'.setCell ⟨b, i, none⟩ v) (some b) := by
  have hs : ∀ x : World, (x.setCell ⟨b, i, none⟩ v).os = x.os ∧ (x.setCell ⟨b, i, none⟩ v).tape = x.tape ∧ (x.setCell ⟨b, i, none⟩ v).output = x.output := fun x => by unfold World.setCell; split <;> exact ⟨rfl, rfl, rfl⟩
  exact ⟨(hs _).1.trans h.os, (hs _).2.1.trans h.tape, (hs _).2.2.trans h.output, Nat.le_trans h.size (Nat.le_of_eq (setsz _ _ _).symm), fun k hk hne => (setx (fun e => hne (by rw [e]))).trans (h.block k hk hne)⟩
theorem galloc {w w' : World} {row : Option Nat} (h : w.grownBy w' row) (o : Obj) : w.grownBy (w'.alloc o) row :=
  ⟨h.os, h.tape, h.output, Nat.le_trans h.size (by rw [alloc_sz]; omega), fun k hk hne => (Below.heap_alloc w' o k (Nat.lt_of_lt_of_le hk h.size)).trans (h.block k hk hne)⟩
theorem gdrew {w w' : World} {row : Option Nat} (h : w.grownBy w' row) : w.grownBy w'.drew row := ⟨h.os, h.tape, h.output, h.size, h.block⟩
def ringPut (f : Nat → Value) (m : Nat) (e : Entry) : Nat → Value := fun j =>
  if j = m * 7 + 6 then .string e.op.text else if j = m * 7 + 5 then .int .i64 e.op.pos else if j = m * 7 + 4 then .int .i64 e.op.up else if j = m * 7 + 3 then .int .i64 e.op.id else if j = m * 7 + 2 then .int .i64 e.op.kind else if j = m * 7 + 1 then .int .i64 e.seq else if j = m * 7 then .int .i64 e.who else f j
theorem ringPut_far (f : Nat → Value) (m : Nat) (e : Entry) (j : Nat) (h : j < m * 7 ∨ m * 7 + 7 ≤ j) : ringPut f m e j = f j := by
  unfold ringPut
  rw [if_neg (by omega), if_neg (by omega), if_neg (by omega), if_neg (by omega), if_neg (by omega), if_neg (by omega), if_neg (by omega)]
theorem ringPut_at (f : Nat → Value) (m : Nat) (e : Entry) (j : Nat) (v : Value) (h : (entE e)[j]? = some v) : ringPut f m e (m * 7 + j) = v := by
  unfold ringPut entE at *
  match j, h with
  | 0, h => simp at h; simp [h]
  | 1, h => simp at h; simp [h]
  | 2, h => simp at h; simp [h]
  | 3, h => simp at h; simp [h]
  | 4, h => simp at h; simp [h]
  | 5, h => simp at h; simp [h]
  | 6, h => simp at h; simp [h]
  | n + 7, h => simp at h
theorem entE_lt {e : Entry} {j : Nat} {v : Value} (h : (entE e)[j]? = some v) : j < 7 := (List.getElem?_eq_some_iff.1 h).1
theorem Ring.put {w w' : World} {b h : Nat} {f : Nat → Value} {q : List Entry} {e : Entry} {m : Nat} (hR : Ring w b h f q) (hq : q.length < 40) (he : e.op.text.size ≤ maxLen) (hm : (h + q.length) % 40 = m)
    (hrow : w'.rowIs b 110 282 (fun j => if j = 281 then .int .i64 (q.length + 1) else ringPut f m e j)) : ∃ f', Ring w' b h f' (q ++ [e]) := by
  have hd := hR.hd
  refine ⟨_, hrow, hd, by simp; omega, ?_, ?_, ?_, ?_⟩
  · show (if (280 : Nat) = 281 then _ else _) = _
    rw [if_neg (by omega), ringPut_far _ _ _ _ (by omega), hR.cHd]
  · show (if (281 : Nat) = 281 then _ else _) = _
    rw [if_pos rfl]; simp
  · intro i hi j v hv
    have hj := entE_lt hv
    show (if slotOf h i + j = 281 then _ else _) = _
    rw [List.length_append, List.length_singleton] at hi
    by_cases hil : i < q.length
    · rw [List.getElem_append_left hil] at hv
      unfold slotOf
      rw [if_neg (by omega), ringPut_far _ _ _ _ (by omega)]
      exact hR.at_ i hil j v hv
    · have : i = q.length := by omega
      subst this
      rw [List.getElem_append_right (Nat.le_refl _)] at hv
      simp only [Nat.sub_self, List.getElem_cons_zero] at hv
      unfold slotOf
      rw [hm, if_neg (by omega)]
      exact ringPut_at _ _ _ _ _ hv
  · intro e' he'
    rcases List.mem_append.1 he' with h1 | h1
    · exact hR.ok e' h1
    · rw [List.mem_singleton] at h1; rw [h1]; exact he

theorem Ring.of_block {w w' : World} {b h : Nat} {f : Nat → Value} {q : List Entry} (hR : Ring w b h f q) (e : w'.heap[b]? = w.heap[b]?) : Ring w' b h f q := ⟨hR.row.of_block e, hR.hd, hR.len, hR.cHd, hR.cSz, hR.at_, hR.ok⟩
theorem Ring.ext {w w' : World} {b h : Nat} {f : Nat → Value} {q : List Entry} (hR : Ring w b h f q) (hb : Ext w w') : Ring w' b h f q := hR.of_block (hb.block b hR.row.lt)
set_option maxRecDepth 100000 in
set_option maxHeartbeats 2000000 in
theorem push_c (b h : Nat) (f : Nat → Value) (q : List Entry) (e : Entry) (w : World) (hR : Ring w b h f q) (hq : q.length < 40) (he : e.op.text.size ≤ maxLen) :
    Calls Tryd.prog 76 #[.pointer (some ⟨b, 0, none⟩), e.val] w fun r w' => r = .returned (.bool true) ∧ (∃ f', Ring w' b h f' (q ++ [e])) ∧ w.grownBy w' (some b) := by
  have c0 := hR.row.cell (i := 280) (by omega)
  have c1 := hR.row.cell (i := 281) (by omega)
  rw [hR.cHd] at c0; rw [hR.cSz] at c1
  have hfz := hR.row.frozen
  have hlt := hR.row.lt
  have hd := hR.hd
  have hval : e.val = .agg #[.int .i64 e.who, .int .i64 e.seq, .int .i64 e.op.kind, .int .i64 e.op.id, .int .i64 e.op.up, .int .i64 e.op.pos, .string e.op.text] := rfl
  rw [hval]
  have hcs : ∀ j, j < 7 → w.cell? ⟨b, (h + q.length) % 40 * 7 + j, none⟩ = some (f ((h + q.length) % 40 * 7 + j)) := fun j hj => hR.row.cell (by omega)
  have e0 := hcs 0 (by omega); have e1 := hcs 1 (by omega); have e2 := hcs 2 (by omega); have e3 := hcs 3 (by omega); have e4 := hcs 4 (by omega); have e5 := hcs 5 (by omega); have e6 := hcs 6 (by omega)
  rw [Nat.add_zero] at e0
  have HR := Lib.hid hR
  clear hR hcs hval
  have hrem : Int.tmod ((h : Int) + (q.length : Int)) 40 = (((h + q.length) % 40 : Nat) : Int) := by rw [Int.tmod_eq_emod_of_nonneg (by omega)]; omega
  have hm1 : (h + q.length) % 40 < 40 := Nat.mod_lt _ (by omega)
  generalize hm : (h + q.length) % 40 = m at *
  have hmm1 : (m : Int) < 40 := by omega
  have hmm0 : (0 : Int) ≤ (m : Int) := by omega
  go_enter Tryd.func76, Tryd.ntmps76
  go_wp2
  go_region
  go_wp2
  go_ret
  refine ⟨rfl, HR.out.put hq he hm ?_, ?_⟩
  · exact ((((((((((HR.out.row.set _ _).set _ _).set _ _).set _ _).set _ _).set _ _).set _ _).set _ _).alloc _).drew)
  · exact gdrew (galloc (gset (gset (gset (gset (gset (gset (gset (gset (World.grownBy.refl w _) _ _) _ _) _ _) _ _) _ _) _ _) _ _) _ _) _)
end Go.Proofs.YtikcnbkoeglecaaDoor
namespace Go.Proofs.YtikcnbkoeglecaaDoor
open Go.RowKit
set_option linter.unusedVariables false

theorem row_lit (w : World) (c : Array Value) (t : TypeId) : (w.alloc (.cells c t)).rowIs w.heap.size t c.size (fun j => (c[j]?).getD undef) :=
  World.rowIs_alloc w c t _ (fun i hi => by rw [Array.getElem?_eq_getElem hi]; rfl)
set_option maxRecDepth 100000 in
set_option maxHeartbeats 2000000 in
theorem ringOf_c (A : Option Addr) (c : Nat) (l : List Entry) (w : World) (hr : Rd w A c l) (hl : l.length ≤ 40) :
    Calls Tryd.prog 43 #[.slice A l.length c] w fun e w' => ∃ b f, e = .returned (.pointer (some ⟨b, 0, none⟩)) ∧ Ring w' b 0 f l ∧ w.heap.size ≤ b ∧ Ext w w' := by
  have HR := Lib.hid hr
  clear hr
  go_enter Tryd.func43, Tryd.ntmps43
  go_wp2
  go_loopg [10] l.length (fun gk i wr => ∃ k : Nat, k ≤ l.length ∧ Hid (gk = l.length - k) ∧ i = .int .i64 k ∧ Hid (∃ f, Ring wr w.heap.size 0 f (l.take k)) ∧ Hid (Below w.heap.size w wr))
  case atStart =>
    refine ⟨0, Nat.zero_le _, rfl, rfl, ⟨_, row_lit w _ _, by omega, by simp, by rfl, by rfl, fun i hi => absurd hi (by simp), by simp⟩, (Below.refl _ _).alloc (Nat.le_refl _) _⟩
  case round =>
    obtain ⟨k, hk, HK, rfl, HQ, HW⟩ := hrel
    by_cases hlt : k < l.length
    · obtain ⟨b, off, rfl, hbl, c0, c1, c2, c3, c4, c5, c6⟩ := ent_at (HR.out.ext HW.out) k hlt
      obtain ⟨f, hring⟩ := HQ.out
      have hC := Lib.hid (push_c w.heap.size 0 f (l.take k) l[k] (wr.alloc (.cells #[.int .i64 l[k].who, .int .i64 l[k].seq, .int .i64 l[k].op.kind, .int .i64 l[k].op.id, .int .i64 l[k].op.up, .int .i64 l[k].op.pos, .string l[k].op.text] 58)) (hring.ext ((Below.refl _ _).alloc (Nat.le_refl _) _)) (by rw [List.length_take]; omega) (HR.out.okAt k hlt))
      have hsz := HW.out.size
      clear hring
      go_wp2_with fail
      refine hC.out.mono ?_; rintro e w3 ⟨rfl, hf3, hg3⟩
      have HF3 := Lib.hid hf3; have HG3 := Lib.hid hg3
      clear hf3 hg3 hC
      go_wp2_with fail
      go_roundg (l.length - (k + 1))
      case measure => have := HK.out; omega
      case rel =>
        refine ⟨k + 1, by omega, rfl, by go_num, ?_, ?_⟩
        · show ∃ f, _
          rw [List.take_succ_eq_append_getElem hlt]; exact HF3.out
        · exact ext_grown (HW.out.alloc hsz _) HG3.out (by rw [alloc_sz]; omega) (fun k e => by injection e with e; omega)
    · have hkl : k = l.length := by omega
      subst hkl
      rw [List.take_length] at HQ
      go_wp2_with fail
      go_ret
      obtain ⟨f, hring⟩ := HQ.out
      exact ⟨_, f, rfl, hring, Nat.le_refl _, HW.out⟩
end Go.Proofs.YtikcnbkoeglecaaDoor
namespace Go.Proofs.YtikcnbkoeglecaaDoor
open Go.RowKit
set_option linter.unusedVariables false

theorem toList_inj {a b : ByteArray} (h : a.toList = b.toList) : a = b := by
  rw [ByteArray.toList_eq, ByteArray.toList_eq] at h
  obtain ⟨⟨x⟩⟩ := a
  obtain ⟨⟨y⟩⟩ := b
  simp only at h
  rw [h]
theorem ent_ext {a b : Entry} (h1 : a.who = b.who) (h2 : a.seq = b.seq) (h3 : a.op.kind = b.op.kind) (h4 : a.op.id = b.op.id) (h5 : a.op.up = b.op.up) (h6 : a.op.pos = b.op.pos) (h7 : a.op.text.toList = b.op.text.toList) : a = b := by
  obtain ⟨w1, s1, k1, i1, p1, q1, t1⟩ := a
  obtain ⟨w2, s2, k2, i2, p2, q2, t2⟩ := b
  simp only at h1 h2 h3 h4 h5 h6 h7
  have h8 := toList_inj h7
  subst h1 h2 h3 h4 h5 h6 h8
  rfl
theorem neq_ent (a b : Entry) (W : World) : (binOp .neq 58 (.agg #[.int .i64 a.who, .int .i64 a.seq, .int .i64 a.op.kind, .int .i64 a.op.id, .int .i64 a.op.up, .int .i64 a.op.pos, .string a.op.text]) (.agg #[.int .i64 b.who, .int .i64 b.seq, .int .i64 b.op.kind, .int .i64 b.op.id, .int .i64 b.op.up, .int .i64 b.op.pos, .string b.op.text])).run Tryd.prog W = .ok (.bool (!decide (a = b))) W := by
  have u1 := Tryd.underlying58
  have u2 := Tryd.underlying56
  by_cases h : a = b
  · subst h
    go_simp
  · rw [decide_eq_false h]
    go_simp
    have h7 : a.op.text.toList = b.op.text.toList → a.op.text = b.op.text := toList_inj
    by_cases e1 : a.who = b.who
    · by_cases e2 : a.seq = b.seq
      · by_cases e3 : a.op.kind = b.op.kind
        · by_cases e4 : a.op.id = b.op.id
          · by_cases e5 : a.op.up = b.op.up
            · by_cases e6 : a.op.pos = b.op.pos
              · have e7 : ¬ a.op.text.toList = b.op.text.toList := fun e7 => h (ent_ext e1 e2 e3 e4 e5 e6 e7)
                simp [e1, e2, e3, e4, e5, e6, e7]
              · simp [e1, e2, e3, e4, e5, e6]
            · simp [e1, e2, e3, e4, e5]
          · simp [e1, e2, e3, e4]
        · simp [e1, e2, e3]
      · simp [e1, e2]
    · simp [e1]

theorem popIf_nil (b h : Nat) (f : Nat → Value) (e : Entry) (w : World) (hR : Ring w b h f []) :
    Calls Tryd.prog 44 #[.pointer (some ⟨b, 0, none⟩), e.val] w fun r w' => r = .returned (.bool false) ∧ Ext w w' := by
  have c1 := hR.row.cell (i := 281) (by omega)
  rw [hR.cSz] at c1
  simp only [List.length_nil] at c1
  have hlt := hR.row.lt
  have hval : e.val = .agg #[.int .i64 e.who, .int .i64 e.seq, .int .i64 e.op.kind, .int .i64 e.op.id, .int .i64 e.op.up, .int .i64 e.op.pos, .string e.op.text] := rfl
  rw [hval]
  clear hR hval
  go_enter Tryd.func44, Tryd.ntmps44
  go_wp2
  all_goals (try go_region)
  all_goals go_wp2
  go_ret
  exact ⟨rfl, by first | exact (Below.refl _ w).alloc (Nat.le_refl _) _ | exact ((Below.refl _ w).alloc (Nat.le_refl _) _).trans (Ext.drewN (Below.refl _ _) 1)⟩

theorem Ring.pop {w w' : World} {b h : Nat} {f : Nat → Value} {e0 : Entry} {q : List Entry} (hR : Ring w b h f (e0 :: q))
    (hrow : w'.rowIs b 110 282 (fun j => if j = 281 then .int .i64 ((q.length : Int)) else if j = 280 then .int .i64 (((h + 1) % 40 : Nat) : Int) else f j)) : ∃ f', Ring w' b ((h + 1) % 40) f' q := by
  have hd := hR.hd
  have hl := hR.len
  simp only [List.length_cons] at hl
  refine ⟨_, hrow, Nat.mod_lt _ (by omega), by omega, ?_, ?_, ?_, fun e he => hR.ok e (List.mem_cons_of_mem _ he)⟩
  · show (if (280 : Nat) = 281 then _ else _) = _
    rw [if_neg (by omega), if_pos rfl]
  · show (if (281 : Nat) = 281 then _ else _) = _
    rw [if_pos rfl]
  · intro i hi j v hv
    have hj := entE_lt hv
    have h1 := hR.at_ (i + 1) (by simp only [List.length_cons]; omega) j v (by simpa using hv)
    have he : slotOf ((h + 1) % 40) i = slotOf h (i + 1) := by unfold slotOf; omega
    show (if slotOf ((h + 1) % 40) i + j = 281 then _ else _) = _
    rw [he]
    have hlt : slotOf h (i + 1) + j < 280 := by unfold slotOf; omega
    rw [if_neg (by omega), if_neg (by omega)]
    exact h1

set_option maxRecDepth 100000 in
set_option maxHeartbeats 2000000 in
theorem popIf_cons (b h : Nat) (f : Nat → Value) (e0 : Entry) (q : List Entry) (e : Entry) (w : World) (hR : Ring w b h f (e0 :: q)) :
    Calls Tryd.prog 44 #[.pointer (some ⟨b, 0, none⟩), e.val] w fun r w' => r = .returned (.bool (decide (e0 = e))) ∧ (if e0 = e then (∃ f', Ring w' b ((h + 1) % 40) f' q) else Ring w' b h f (e0 :: q)) ∧ w.grownBy w' (some b) := by
  have c0 := hR.row.cell (i := 280) (by omega)
  have c1 := hR.row.cell (i := 281) (by omega)
  rw [hR.cHd] at c0; rw [hR.cSz] at c1
  simp only [List.length_cons] at c1
  have hd := hR.hd
  have hl40 := hR.len
  simp only [List.length_cons] at hl40
  have hcs : ∀ j v, j < 7 → (entE e0)[j]? = some v → w.cell? ⟨b, h * 7 + j, none⟩ = some v := fun j v hj hv => by
    have := hR.at_ 0 (by simp) j v (by simpa using hv)
    unfold slotOf at this
    rw [Nat.add_zero, Nat.mod_eq_of_lt hd] at this
    rw [hR.row.cell (by omega), this]
  have e0' := hcs 0 _ (by omega) rfl; have e1 := hcs 1 _ (by omega) rfl; have e2 := hcs 2 _ (by omega) rfl; have e3 := hcs 3 _ (by omega) rfl; have e4 := hcs 4 _ (by omega) rfl; have e5 := hcs 5 _ (by omega) rfl; have e6 := hcs 6 _ (by omega) rfl
  rw [Nat.add_zero] at e0'
  have hfz := hR.row.frozen
  have hlt := hR.row.lt
  have hne := neq_ent e0 e
  have hval : e.val = .agg #[.int .i64 e.who, .int .i64 e.seq, .int .i64 e.op.kind, .int .i64 e.op.id, .int .i64 e.op.up, .int .i64 e.op.pos, .string e.op.text] := rfl
  rw [hval]
  have hh0 : (0 : Int) ≤ (h : Int) := by omega
  have hh1 : (h : Int) < 40 := by omega
  have hsz0 : (((q.length : Int) + 1) == 0) = false := by rw [beq_eq_false_iff_ne]; omega
  have hrem : Int.tmod ((h : Int) + 1) 40 = (((h + 1) % 40 : Nat) : Int) := by rw [Int.tmod_eq_emod_of_nonneg (by omega)]; omega
  have HR := Lib.hid hR
  clear hR hcs hval
  by_cases he : e0 = e
  · have HE := Lib.hid he
    rw [decide_eq_true he] at hne ⊢
    simp only [if_pos he]
    clear he
    generalize hm : (h + 1) % 40 = m at *
    go_enter Tryd.func44, Tryd.ntmps44
    go_wp2
    go_region
    go_wp2
    go_ret
    subst hm
    exact ⟨rfl, HR.out.pop ((((HR.out.row.set _ _).set _ _).alloc _).drew), gdrew (galloc (gset (gset (World.grownBy.refl w _) _ _) _ _) _)⟩
  · have HE := Lib.hid he
    rw [decide_eq_false he] at hne ⊢
    simp only [if_neg he]
    clear he
    go_enter Tryd.func44, Tryd.ntmps44
    go_wp2
    go_region
    go_wp2
    go_ret
    refine ⟨rfl, HR.out.ext (((Below.refl _ w).alloc (Nat.le_refl _) _).trans (Ext.drewN (Below.refl _ _) 1)), gdrew (galloc (World.grownBy.refl w _) _)⟩
end Go.Proofs.YtikcnbkoeglecaaDoor
namespace Go.Proofs.YtikcnbkoeglecaaDoor
open Go.RowKit
set_option linter.unusedVariables false

/-- Box bx holds a slice of its own with these entries. -/
def Coll (w : World) (n0 bx : Nat) (l : List Entry) : Prop := ∃ v, Boxed w bx 23 v ∧ Own 58 w n0 v l
theorem Coll.ext {w w' : World} {n0 bx : Nat} {l : List Entry} (h : Coll w n0 bx l) (hb : Ext w w') : Coll w' n0 bx l := by
  obtain ⟨v, h1, h2⟩ := h
  exact ⟨v, (hb.block bx h1.lt).trans h1, h2.below hb⟩

set_option maxRecDepth 100000 in
theorem coll_c (n0 bx : Nat) (l : List Entry) (e : Entry) (w : World) (h : Coll w n0 bx l) (hn0 : n0 ≤ w.heap.size) (hbx : n0 ≤ bx) (hl : l.length < 1000) (he : e.op.text.size ≤ maxLen) :
    Calls Tryd.prog 77 #[e.val, .pointer (some ⟨bx, 0, none⟩)] w fun r w' => r = .returned (.tuple #[]) ∧ Coll w' n0 bx (l ++ [e]) ∧ Kept [23, 58] (fun _ => False) w w' ∧ Below n0 w w' := by
  obtain ⟨v, h1, h2⟩ := h
  obtain ⟨i0, hi, hz0, hz1, hz2⟩ := ent_info
  have c0 := h1.cell
  have f0 := h1.frozen
  have hlt := h1.lt
  have hval : e.val = .agg #[.int .i64 e.who, .int .i64 e.seq, .int .i64 e.op.kind, .int .i64 e.op.id, .int .i64 e.op.up, .int .i64 e.op.pos, .string e.op.text] := rfl
  rw [hval]
  have hnewx : ((w.alloc (.cells #[.int .i64 e.who, .int .i64 e.seq, .int .i64 e.op.kind, .int .i64 e.op.id, .int .i64 e.op.up, .int .i64 e.op.pos, .string e.op.text] 58)).alloc (.cells #[.int .i64 e.who, .int .i64 e.seq, .int .i64 e.op.kind, .int .i64 e.op.id, .int .i64 e.op.up, .int .i64 e.op.pos, .string e.op.text] 58)).heap[w.heap.size + 1]? = some (.cells #[.int .i64 e.who, .int .i64 e.seq, .int .i64 e.op.kind, .int .i64 e.op.id, .int .i64 e.op.up, .int .i64 e.op.pos, .string e.op.text] 58 (0, 0)) := by
    have := World.alloc_heap_new (w.alloc (.cells #[.int .i64 e.who, .int .i64 e.seq, .int .i64 e.op.kind, .int .i64 e.op.id, .int .i64 e.op.up, .int .i64 e.op.pos, .string e.op.text] 58)) (.cells #[.int .i64 e.who, .int .i64 e.seq, .int .i64 e.op.kind, .int .i64 e.op.id, .int .i64 e.op.up, .int .i64 e.op.pos, .string e.op.text] 58)
    rwa [alloc_sz] at this
  have happ := run_append_own_at (P := Tryd.prog) (w := (w.alloc (.cells #[.int .i64 e.who, .int .i64 e.seq, .int .i64 e.op.kind, .int .i64 e.op.id, .int .i64 e.op.up, .int .i64 e.op.pos, .string e.op.text] 58)).alloc (.cells #[.int .i64 e.who, .int .i64 e.seq, .int .i64 e.op.kind, .int .i64 e.op.id, .int .i64 e.op.up, .int .i64 e.op.pos, .string e.op.text] 58)) n0 23 23 58 i0 _ 7 64 und_ents hi hz0 hz1 hz2 rfl (by decide) v l.length _ ((h2.1.alloc _).alloc _) ⟨w.heap.size + 1, 0, none⟩ 1 1 (entE e) rfl (fun j u hj => by
      have e1 : (⟨w.heap.size + 1, 0, none⟩ : Addr).add j = ⟨w.heap.size + 1, 0 + j, none⟩ := by unfold Addr.add; split <;> simp_all
      rw [e1, Nat.zero_add]
      unfold World.cell?
      simp only [hnewx]
      simpa [entE] using hj) (fun u hu => Flat.one e u hu) (by unfold maxLen; omega) (by omega) (by rw [alloc_sz, alloc_sz]; omega)
  obtain ⟨v', w1, hrun, hown, hgrow, -, hblk⟩ := happ
  obtain ⟨g', cap', rfl⟩ := ownsRow_succ hown
  obtain ⟨hv1, hv2, hr2, hk2, hb2⟩ := Boxed.appended (W := w.alloc (.cells #[.int .i64 e.who, .int .i64 e.seq, .int .i64 e.op.kind, .int .i64 e.op.id, .int .i64 e.op.up, .int .i64 e.op.pos, .string e.op.text] 58)) (h1.alloc _) (by decide) (h2.1.alloc _) (by rw [alloc_sz]; omega) hbx hown hgrow
  have hK : Kept [23, 58] (fun _ => False) w (w1.setCell ⟨bx, 0, none⟩ (.slice (some ⟨g', 0, none⟩) (l.length + 1) cap')) := by
    have hd : Kept [23, 58] (fun _ => False) w ((w.alloc (.cells #[.int .i64 e.who, .int .i64 e.seq, .int .i64 e.op.kind, .int .i64 e.op.id, .int .i64 e.op.up, .int .i64 e.op.pos, .string e.op.text] 58)).alloc (.cells #[.int .i64 e.who, .int .i64 e.seq, .int .i64 e.op.kind, .int .i64 e.op.id, .int .i64 e.op.up, .int .i64 e.op.pos, .string e.op.text] 58)) := ((Kept.refl w).alloc _).alloc _
    refine (hd.grown hgrow (fun b hb => ?_)).setTurn hv1 (by simp) _ _
    rcases ((h2.1.alloc (.cells #[.int .i64 e.who, .int .i64 e.seq, .int .i64 e.op.kind, .int .i64 e.op.id, .int .i64 e.op.up, .int .i64 e.op.pos, .string e.op.text] 58)).alloc (.cells #[.int .i64 e.who, .int .i64 e.seq, .int .i64 e.op.kind, .int .i64 e.op.id, .int .i64 e.op.up, .int .i64 e.op.pos, .string e.op.text] 58)).2 with ⟨h9, _⟩ | ⟨g9, cap9, cur9, h9, _, h8, _⟩
    · rw [h9] at hb; simp [Value.ownBlock] at hb
    · rw [h9] at hb
      simp only [Value.ownBlock, Option.some.injEq] at hb
      subst hb
      exact ⟨_, _, _, h8, by simp⟩
  have FIN : Hid (Coll (w1.setCell ⟨bx, 0, none⟩ (.slice (some ⟨g', 0, none⟩) (l.length + 1) cap')) n0 bx (l ++ [e]) ∧ Kept [23, 58] (fun _ => False) w (w1.setCell ⟨bx, 0, none⟩ (.slice (some ⟨g', 0, none⟩) (l.length + 1) cap')) ∧ Below n0 w (w1.setCell ⟨bx, 0, none⟩ (.slice (some ⟨g', 0, none⟩) (l.length + 1) cap'))) := by
    refine ⟨⟨_, hv2, ⟨?_, ?_⟩⟩, hK, ((Below.refl n0 w).alloc hn0 _).trans hb2⟩
    · rw [flat_append, List.length_append, List.length_singleton]; exact hr2
    · intro x hx
      rcases List.mem_append.1 hx with h | h
      · exact h2.2 x h
      · rw [List.mem_singleton] at h; rw [h]; exact he
  have hc1 := hv1.cell
  have hf1 := hv1.frozen
  clear h1 h2 hi hz0 hz1 hz2 hnewx hown hgrow hblk hv1 hv2 hr2 hk2 hb2 hK hval
  go_enter Tryd.func77, Tryd.ntmps77
  go_wp2_with (at_builtin; refine wpList_append_run rfl _ _ _ rfl rfl rfl hrun ?_)
  go_end0
  exact ⟨rfl, FIN.out⟩
end Go.Proofs.YtikcnbkoeglecaaDoor
