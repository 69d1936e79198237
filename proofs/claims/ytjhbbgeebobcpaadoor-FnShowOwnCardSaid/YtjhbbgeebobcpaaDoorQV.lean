/- Outlines that are ok, row by row: plain. A walk of the reference: an outline is ok. -/
import Derived.Test.YtjhbbgeebobcpaaDoorQB
import Derived.Test.YtjhbbgeebobcpaaDoorQU
import Derived.Test.YtjhbbgeebobcpaaDoorQQ
import Derived.Deep.RegionHeld3
import Derived.Deep.DeepCutAuto
import Derived.Deep.CutRange
import Derived.Deep.CutBlock
namespace Go.Proofs.YtjhbbgeebobcpaaDoor
set_option linter.unusedVariables false

def rootsN (l : List Row) : Nat := l.countP (fun r => isRoot r.id)
def dAt (t : List Row) : Nat → Int
  | 0 => -1
  | k + 1 => match t[k]? with | some x => x.depth | none => 0
def GT (t : List Row) (k : Nat) : Prop := ∀ r, t[k]? = some r → rowOk r = true ∧ r.depth ≤ dAt t k + 1 ∧ (isRoot r.id = true → r.id = rootsN (t.take k) + 1) ∧ ∀ x ∈ t.take k, x.id ≠ r.id
theorem treeOkF_iff : ∀ (l pre : List Row) (seen : List Int) (R d : Int), (∀ x, x ∈ seen ↔ ∃ q ∈ pre, q.id = x) → R = rootsN pre → d = dAt (pre ++ l) pre.length →
    (treeOkF seen R d l = true ↔ (∀ k, pre.length ≤ k → k < (pre ++ l).length → GT (pre ++ l) k) ∧ rootsN (pre ++ l) = 3) := by
  intro l
  induction l with
  | nil =>
    intro pre seen R d hs hR hd
    simp only [treeOkF, decide_eq_true_eq, List.append_nil]
    constructor
    · intro h; exact ⟨fun k h1 h2 => by omega, by omega⟩
    · intro h; omega
  | cons r l ih =>
    intro pre seen R d hs hR hd
    have hat : (pre ++ r :: l)[pre.length]? = some r := by simp
    have htk : (pre ++ r :: l).take pre.length = pre := by simp
    have he : pre ++ r :: l = (pre ++ [r]) ++ l := by simp
    have hs' : ∀ x, x ∈ r.id :: seen ↔ ∃ q ∈ pre ++ [r], q.id = x := by
      intro x
      simp only [List.mem_cons, hs, List.mem_append, List.not_mem_nil, or_false]
      constructor
      · rintro (h | ⟨q, hq, h⟩)
        · exact ⟨r, .inr rfl, h.symm⟩
        · exact ⟨q, .inl hq, h⟩
      · rintro ⟨q, hq | rfl, h⟩
        · exact .inr ⟨q, hq, h⟩
        · exact .inl h.symm
    have hd' : r.depth = dAt ((pre ++ [r]) ++ l) (pre ++ [r]).length := by rw [← he]; simp [dAt]
    have hsplit : (∀ k, pre.length ≤ k → k < (pre ++ r :: l).length → GT (pre ++ r :: l) k) ↔ GT (pre ++ r :: l) pre.length ∧ ∀ k, (pre ++ [r]).length ≤ k → k < ((pre ++ [r]) ++ l).length → GT ((pre ++ [r]) ++ l) k := by
      rw [← he]
      constructor
      · intro h
        exact ⟨h _ (Nat.le_refl _) (by simp), fun k h1 h2 => h k (by simp at h1; omega) h2⟩
      · rintro ⟨h0, h⟩ k h1 h2
        by_cases e : k = pre.length
        · subst e; exact h0
        · exact h k (by simp; omega) h2
    have hgt : GT (pre ++ r :: l) pre.length ↔ rowOk r = true ∧ r.depth ≤ d + 1 ∧ (isRoot r.id = true → r.id = R + 1) ∧ ∀ x ∈ pre, x.id ≠ r.id := by
      unfold GT
      rw [hat, htk, ← hd, hR]
      constructor
      · intro h; exact h r rfl
      · intro h r' e; obtain rfl := Option.some.inj e; exact h
    have hseen : seen.contains r.id = true ↔ ∃ x ∈ pre, x.id = r.id := by rw [List.contains_iff_mem, hs]
    rw [hsplit, hgt]
    unfold treeOkF
    by_cases hr : isRoot r.id = true
    · have hR' : R + 1 = ((rootsN (pre ++ [r]) : Nat) : Int) := by
        unfold rootsN at hR ⊢; rw [List.countP_append]; simp [hr]; omega
      have := ih (pre ++ [r]) (r.id :: seen) (R + 1) r.depth hs' hR' hd'
      rw [if_pos hr]
      simp only [Bool.and_eq_true, decide_eq_true_eq, Bool.not_eq_true', this, hr, true_implies]
      rw [← he]
      constructor
      · rintro ⟨⟨⟨h1, h2⟩, h3⟩, h4, h5, h6⟩
        exact ⟨⟨⟨h1, h3, h4, fun x hx e => by rw [hseen.2 ⟨x, hx, e⟩] at h2; cases h2⟩, h5⟩, h6⟩
      · rintro ⟨⟨⟨h1, h3, h4, h2⟩, h5⟩, h6⟩
        refine ⟨⟨⟨h1, ?_⟩, h3⟩, h4, h5, h6⟩
        rw [Bool.eq_false_iff]; intro hc; obtain ⟨x, hx, e⟩ := hseen.1 hc; exact h2 x hx e
    · have hR' : R = ((rootsN (pre ++ [r]) : Nat) : Int) := by
        unfold rootsN at hR ⊢; rw [List.countP_append]; simp [hr]; omega
      have := ih (pre ++ [r]) (r.id :: seen) R r.depth hs' hR' hd'
      rw [if_neg hr]
      simp only [Bool.and_eq_true, decide_eq_true_eq, Bool.not_eq_true', this]
      rw [← he]
      constructor
      · rintro ⟨⟨⟨h1, h2⟩, h3⟩, h5, h6⟩
        exact ⟨⟨⟨h1, h3, fun h => absurd h hr, fun x hx e => by rw [hseen.2 ⟨x, hx, e⟩] at h2; cases h2⟩, h5⟩, h6⟩
      · rintro ⟨⟨⟨h1, h3, h4, h2⟩, h5⟩, h6⟩
        refine ⟨⟨⟨h1, ?_⟩, h3⟩, h5, h6⟩
        rw [Bool.eq_false_iff]; intro hc; obtain ⟨x, hx, e⟩ := hseen.1 hc; exact h2 x hx e

/-- As the reference looks at it. -/
def GS (t : List Row) (k : Nat) : Prop := ∀ r, t[k]? = some r → rowOk r = true ∧ (0 < k → r.depth ≤ dAt t k + 1) ∧ (isRoot r.id = true → r.id = rootsN (t.take k) + 1) ∧ ∀ x ∈ t.take k, x.id ≠ r.id
theorem treeOk_ts (t : List Row) : treeOk t = true ↔ (∀ k, k < t.length → GS t k) ∧ rootsN t = 3 ∧ ∃ r, t[0]? = some r ∧ r.id = 1 := by
  have h := treeOkF_iff t [] [] 0 (-1) (by simp) (by simp [rootsN]) (by simp [dAt])
  simp only [List.nil_append, List.length_nil, Nat.zero_le, true_implies] at h
  unfold treeOk
  rw [h]
  constructor
  · rintro ⟨h1, h2⟩
    refine ⟨fun k hk r hr => ?_, h2, ?_⟩
    · obtain ⟨a, b, c, d⟩ := h1 k hk r hr
      exact ⟨a, fun _ => b, c, d⟩
    · cases t with
      | nil => simp [rootsN] at h2
      | cons r t =>
        refine ⟨r, by simp, ?_⟩
        obtain ⟨a, b, c, d⟩ := h1 0 (by simp) r (by simp)
        simp only [dAt] at b
        by_cases hr : isRoot r.id = true
        · have := c hr; simp [rootsN] at this; exact this
        · simp [rowOk, hr] at a; omega
  · rintro ⟨h1, h2, r0, h3, h4⟩
    refine ⟨fun k hk r hr => ?_, h2⟩
    obtain ⟨a, b, c, d⟩ := h1 k hk r hr
    refine ⟨a, ?_, c, d⟩
    cases k with
    | succ k => exact b (by omega)
    | zero =>
      obtain rfl := Option.some.inj (h3.symm.trans hr)
      have : isRoot r0.id = true := by rw [h4]; decide
      simp [rowOk, this] at a
      simp only [dAt]; omega
theorem rootsN_take (t : List Row) (k : Nat) (hk : k < t.length) : rootsN (t.take (k + 1)) = rootsN (t.take k) + if isRoot t[k].id then 1 else 0 := by
  unfold rootsN; rw [List.take_succ_eq_append_getElem hk, List.countP_append]; simp [List.countP_cons, List.countP_nil]
theorem rootsN_le (t : List Row) : rootsN t ≤ t.length := List.countP_le_length
end Go.Proofs.YtjhbbgeebobcpaaDoor
namespace Go.Proofs.YtjhbbgeebobcpaaDoor
open Go.RowKit
set_option linter.unusedVariables false

theorem treeOk_not {t : List Row} {k : Nat} (hk : k < t.length) (h : ¬ GS t k) : treeOk t = false := by
  rw [Bool.eq_false_iff]; intro ht; exact h (((treeOk_ts t).1 ht).1 k hk)
theorem gs_at {t : List Row} {k : Nat} (hk : k < t.length) : GS t k ↔ rowOk t[k] = true ∧ (0 < k → t[k].depth ≤ dAt t k + 1) ∧ (isRoot t[k].id = true → t[k].id = rootsN (t.take k) + 1) ∧ ∀ j (hj : j < t.length), j < k → t[j].id ≠ t[k].id := by
  unfold GS
  rw [List.getElem?_eq_getElem hk]
  constructor
  · intro h
    obtain ⟨a, b, c, d⟩ := h _ rfl
    refine ⟨a, b, c, fun j hj hjk => d _ ?_⟩
    rw [List.mem_take_iff_getElem]; exact ⟨j, by omega, rfl⟩
  · rintro ⟨a, b, c, d⟩ r hr
    obtain rfl := Option.some.inj hr
    refine ⟨a, b, c, fun x hx => ?_⟩
    rw [List.mem_take_iff_getElem] at hx
    obtain ⟨j, hj, rfl⟩ := hx
    exact d j (by omega) (by omega)

set_option maxRecDepth 100000 in
set_option maxHeartbeats 4000000 in
theorem treeOk_s (A : Option Addr) (c : Nat) (t : List Row) (w : World) (hr : Rd w A c t) (hi : ∀ r ∈ t, i64 r.id) :
    Calls Tryd.prog 55 #[.slice A t.length c] w fun x w' => x = .returned (.bool (treeOk t)) ∧ Ext w w' := by
  have hm : t.length ≤ maxLen := Nat.le_trans hr.1 hr.2.1
  unfold maxLen at hm
  have HR := Lib.hid hr; have HI := Lib.hid hi
  clear hr hi
  go_enter Tryd.func55, Tryd.ntmps55
  go_wp2_with fail
  go_loopg [3, 4] t.length (fun gk a i wr => ∃ k : Nat, k ≤ t.length ∧ Hid (gk = t.length - k) ∧ a = .int .i64 (rootsN (t.take k) : Nat) ∧ i = .int .i64 k ∧ Hid (∀ j, j < k → GS t j) ∧ Hid (Ext w wr))
  case atStart => exact ⟨0, Nat.zero_le _, rfl, rfl, rfl, fun _ h => by omega, Below.refl _ _⟩
  case round =>
    obtain ⟨k, hk, HK, rfl, rfl, HG, HB⟩ := hrel
    by_cases hlt : k < t.length
    · have hRr := HR.out.ext HB.out
      obtain ⟨b, off, rfl, hbl, c0, c1, c2⟩ := row_at hRr k hlt
      have HRr := Lib.hid hRr
      have hE := rowOk_s t[k] wr.drew (HI.out _ (List.getElem_mem hlt)) (HR.out.okAt k hlt)
      have HGA := Lib.hid (gs_at hlt)
      have hlt' : (k : Int) < t.length := by omega
      clear hRr
      go_upto_region 5 with fail
      go_cut [36] (fun s wx => ∃ z : Bool, s = .bool z ∧ Hid (z = false → rowOk t[k] = true ∧ (0 < k → t[k].depth ≤ dAt t k + 1)) ∧ Hid (z = true → ¬ GS t k) ∧ Hid (Ext wr wx))
      case first =>
        cases hok : rowOk t[k]
        · rw [hok] at hE
          have HE := Lib.hid hE
          have HN : Hid (¬ GS t k) := fun h => by have := (HGA.out.1 h).1; rw [hok] at this; cases this
          clear hE hok
          refine wp_region_any (by kernel_rfl) ?_
          change wpAny _ _ _ _ _ _ _ (World.drew _)
          refine wpAny_take (i := 0) (v := ?_) rfl (by kernel_rfl) (by kernel_rfl) (by kernel_rfl) (fun _ _ _ h => h) (Or.inl ⟨by rfl, ?_⟩) ?_
          rotate_left
          · (intro w; go_simp; try with_reducible rfl)
          refine wpAny_take (i := 1) (v := ?_) rfl (by kernel_rfl) (by kernel_rfl) (by kernel_rfl) (fun _ _ _ h => h) (Or.inl ⟨by rfl, ?_⟩) ?_
          rotate_left
          · (intro w; go_simp; try with_reducible rfl)
          refine wpAny_take (i := 2) (v := ?_) rfl (by kernel_rfl) (by kernel_rfl) (by kernel_rfl) (fun _ _ _ h => h) (Or.inl ⟨by rfl, ?_⟩) ?_
          rotate_left
          · (intro w; go_simp; try with_reducible rfl)
          refine wpAny_ready (rs := [3]) (by kernel_rfl) (by simp) ?_
          refine AllReady.cons rfl (fun K hK => ?_) AllReady.nil
          go_simp
          refine hK _ _ ?_; clear hK K
          refine wpAny_ready (rs := [4]) (by kernel_rfl) (by simp) ?_
          refine AllReady.cons rfl (fun K hK => ?_) AllReady.nil
          go_simp
          go_wp2_with (go_at_call 77; refine HE.out.mono ?_; rintro e w1 ⟨rfl, hb1⟩; obtain ⟨hc1, hf1⟩ := bcell hb1; have HB1 := Lib.hid hb1)
          refine wpAny_ready (rs := [5]) (by kernel_rfl) (by simp) ?_
          refine AllReady.cons rfl (fun K hK => ?_) AllReady.nil
          go_simp
          refine hK _ _ ?_; clear hK K
          refine wpAny_ready (rs := [6]) (by kernel_rfl) (by simp) ?_
          refine AllReady.cons rfl (fun K hK => ?_) AllReady.nil
          go_simp
          refine hK _ _ ?_; clear hK K
          refine any_skip 7 rfl (by kernel_rfl) (by kernel_rfl) (by kernel_rfl) (fun _ _ _ h => h) (by kernel_rfl) ?_
          refine any_skip 8 rfl (by kernel_rfl) (by kernel_rfl) (by kernel_rfl) (fun _ _ _ h => h) (by kernel_rfl) ?_
          refine any_skip 9 rfl (by kernel_rfl) (by kernel_rfl) (by kernel_rfl) (fun _ _ _ h => h) (by kernel_rfl) ?_
          refine any_skip 10 rfl (by kernel_rfl) (by kernel_rfl) (by kernel_rfl) (fun _ _ _ h => h) (by kernel_rfl) ?_
          refine any_skip 11 rfl (by kernel_rfl) (by kernel_rfl) (by kernel_rfl) (fun _ _ _ h => h) (by kernel_rfl) ?_
          refine any_skip 12 rfl (by kernel_rfl) (by kernel_rfl) (by kernel_rfl) (fun _ _ _ h => h) (by kernel_rfl) ?_
          refine any_skip 13 rfl (by kernel_rfl) (by kernel_rfl) (by kernel_rfl) (fun _ _ _ h => h) (by kernel_rfl) ?_
          refine any_skip 14 rfl (by kernel_rfl) (by kernel_rfl) (by kernel_rfl) (fun _ _ _ h => h) (by kernel_rfl) ?_
          refine any_skip 15 rfl (by kernel_rfl) (by kernel_rfl) (by kernel_rfl) (fun _ _ _ h => h) (by kernel_rfl) ?_
          refine any_skip 16 rfl (by kernel_rfl) (by kernel_rfl) (by kernel_rfl) (fun _ _ _ h => h) (by kernel_rfl) ?_
          refine any_skip 17 rfl (by kernel_rfl) (by kernel_rfl) (by kernel_rfl) (fun _ _ _ h => h) (by kernel_rfl) ?_
          refine any_skip 18 rfl (by kernel_rfl) (by kernel_rfl) (by kernel_rfl) (fun _ _ _ h => h) (by kernel_rfl) ?_
          refine any_skip 19 rfl (by kernel_rfl) (by kernel_rfl) (by kernel_rfl) (fun _ _ _ h => h) (by kernel_rfl) ?_
          refine any_skip 20 rfl (by kernel_rfl) (by kernel_rfl) (by kernel_rfl) (fun _ _ _ h => h) (by kernel_rfl) ?_
          refine any_skip 21 rfl (by kernel_rfl) (by kernel_rfl) (by kernel_rfl) (fun _ _ _ h => h) (by kernel_rfl) ?_
          refine any_skip 22 rfl (by kernel_rfl) (by kernel_rfl) (by kernel_rfl) (fun _ _ _ h => h) (by kernel_rfl) ?_
          refine any_skip 23 rfl (by kernel_rfl) (by kernel_rfl) (by kernel_rfl) (fun _ _ _ h => h) (by kernel_rfl) ?_
          refine wpAny_ready (rs := [24]) (by kernel_rfl) (by simp) ?_
          refine AllReady.cons rfl (fun K hK => ?_) AllReady.nil
          go_simp
          refine hK _ _ ?_; clear hK K
          refine wpAny_done (by kernel_rfl) ?_ _
          go_wp2_with fail
          go_meet
          exact ⟨true, rfl, Lib.hid (fun h => by cases h), Lib.hid (fun _ => HN.out), (Ext.drewN (Below.refl _ _) 1).trans HB1.out⟩
        · have HOK := Lib.hid hok
          rw [hok] at hE
          have HE := Lib.hid hE
          clear hE hok
          by_cases hk0 : k = 0
          · subst hk0
            simp only [Nat.zero_mul, Nat.add_zero] at c0 c1 c2
            refine wp_region_any (by kernel_rfl) ?_
            change wpAny _ _ _ _ _ _ _ (World.drew _)
            refine wpAny_take (i := 0) (v := ?_) rfl (by kernel_rfl) (by kernel_rfl) (by kernel_rfl) (fun _ _ _ h => h) (Or.inl ⟨by rfl, ?_⟩) ?_
            rotate_left
            · (intro w; go_simp; try with_reducible rfl)
            refine wpAny_take (i := 1) (v := ?_) rfl (by kernel_rfl) (by kernel_rfl) (by kernel_rfl) (fun _ _ _ h => h) (Or.inl ⟨by rfl, ?_⟩) ?_
            rotate_left
            · (intro w; go_simp; try with_reducible rfl)
            refine wpAny_take (i := 2) (v := ?_) rfl (by kernel_rfl) (by kernel_rfl) (by kernel_rfl) (fun _ _ _ h => h) (Or.inl ⟨by rfl, ?_⟩) ?_
            rotate_left
            · (intro w; go_simp; try with_reducible rfl)
            refine wpAny_ready (rs := [3]) (by kernel_rfl) (by simp) ?_
            refine AllReady.cons rfl (fun K hK => ?_) AllReady.nil
            go_simp
            refine hK _ _ ?_; clear hK K
            refine wpAny_ready (rs := [4]) (by kernel_rfl) (by simp) ?_
            refine AllReady.cons rfl (fun K hK => ?_) AllReady.nil
            go_simp
            go_wp2_with (go_at_call 77; refine HE.out.mono ?_; rintro e w1 ⟨rfl, hb1⟩; obtain ⟨hc1, hf1⟩ := bcell hb1; have HB1 := Lib.hid hb1)
            refine wpAny_ready (rs := [5]) (by kernel_rfl) (by simp) ?_
            refine AllReady.cons rfl (fun K hK => ?_) AllReady.nil
            go_simp
            refine hK _ _ ?_; clear hK K
            refine wpAny_ready (rs := [6]) (by kernel_rfl) (by simp) ?_
            refine AllReady.cons rfl (fun K hK => ?_) AllReady.nil
            go_simp
            refine hK _ _ ?_; clear hK K
            refine wpAny_ready (rs := [7]) (by kernel_rfl) (by simp) ?_
            refine AllReady.cons rfl (fun K hK => ?_) AllReady.nil
            go_simp
            refine hK _ _ ?_; clear hK K
            refine wpAny_ready (rs := [8]) (by kernel_rfl) (by simp) ?_
            refine AllReady.cons rfl (fun K hK => ?_) AllReady.nil
            go_simp
            refine hK _ _ ?_; clear hK K
            refine wpAny_ready (rs := [9]) (by kernel_rfl) (by simp) ?_
            refine AllReady.cons rfl (fun K hK => ?_) AllReady.nil
            go_simp
            refine hK _ _ ?_; clear hK K
            refine any_skip 10 rfl (by kernel_rfl) (by kernel_rfl) (by kernel_rfl) (fun _ _ _ h => h) (by kernel_rfl) ?_
            refine any_skip 11 rfl (by kernel_rfl) (by kernel_rfl) (by kernel_rfl) (fun _ _ _ h => h) (by kernel_rfl) ?_
            refine any_skip 12 rfl (by kernel_rfl) (by kernel_rfl) (by kernel_rfl) (fun _ _ _ h => h) (by kernel_rfl) ?_
            refine any_skip 13 rfl (by kernel_rfl) (by kernel_rfl) (by kernel_rfl) (fun _ _ _ h => h) (by kernel_rfl) ?_
            refine any_skip 14 rfl (by kernel_rfl) (by kernel_rfl) (by kernel_rfl) (fun _ _ _ h => h) (by kernel_rfl) ?_
            refine any_skip 15 rfl (by kernel_rfl) (by kernel_rfl) (by kernel_rfl) (fun _ _ _ h => h) (by kernel_rfl) ?_
            refine any_skip 16 rfl (by kernel_rfl) (by kernel_rfl) (by kernel_rfl) (fun _ _ _ h => h) (by kernel_rfl) ?_
            refine any_skip 17 rfl (by kernel_rfl) (by kernel_rfl) (by kernel_rfl) (fun _ _ _ h => h) (by kernel_rfl) ?_
            refine any_skip 18 rfl (by kernel_rfl) (by kernel_rfl) (by kernel_rfl) (fun _ _ _ h => h) (by kernel_rfl) ?_
            refine any_skip 19 rfl (by kernel_rfl) (by kernel_rfl) (by kernel_rfl) (fun _ _ _ h => h) (by kernel_rfl) ?_
            refine any_skip 20 rfl (by kernel_rfl) (by kernel_rfl) (by kernel_rfl) (fun _ _ _ h => h) (by kernel_rfl) ?_
            refine any_skip 21 rfl (by kernel_rfl) (by kernel_rfl) (by kernel_rfl) (fun _ _ _ h => h) (by kernel_rfl) ?_
            refine any_skip 22 rfl (by kernel_rfl) (by kernel_rfl) (by kernel_rfl) (fun _ _ _ h => h) (by kernel_rfl) ?_
            refine wpAny_ready (rs := [23]) (by kernel_rfl) (by simp) ?_
            refine AllReady.cons rfl (fun K hK => ?_) AllReady.nil
            go_simp
            refine hK _ _ ?_; clear hK K
            refine wpAny_ready (rs := [24]) (by kernel_rfl) (by simp) ?_
            refine AllReady.cons rfl (fun K hK => ?_) AllReady.nil
            go_simp
            refine hK _ _ ?_; clear hK K
            refine wpAny_done (by kernel_rfl) ?_ _
            go_wp2_with fail
            go_meet
            exact ⟨false, rfl, Lib.hid (fun _ => ⟨HOK.out, fun h => absurd h (Nat.lt_irrefl _)⟩), Lib.hid (fun h => (by cases h)), (Ext.drewN (Below.refl _ _) 1).trans HB1.out⟩
          · obtain ⟨m, hmk⟩ : ∃ m, k = m + 1 := ⟨k - 1, by omega⟩
            have hml : m < t.length := by omega
            obtain ⟨b', off', e', hbl', p0, p1, p2⟩ := row_at HRr.out m hml
            cases e'
            have hda : dAt t k = t[m].depth := by rw [hmk]; simp [dAt, List.getElem?_eq_getElem hml]
            have hgm := ((gs_at hml).1 (HG.out m (by omega))).1
            have hdep : t[m].depth ≤ 18 ∧ 0 ≤ t[m].depth := by
              unfold rowOk at hgm; split at hgm
              · simp at hgm; omega
              · simp at hgm; omega
            have hw1 : IntKind.i64.wrap (t[m].depth + 1) = t[m].depth + 1 := by rw [IntKind.wrap_i64]; omega
            have hw2 : IntKind.i64.wrap ((k : Int) - 1) = (m : Int) := by rw [IntKind.wrap_i64]; omega
            have hm0 : (m : Int) < t.length := by omega
            have hgt1 : decide (0 < k) = true := by simp; omega
            have hgt0 : decide ((0 : Int) < (k : Int)) = true := by simp; omega
            have E0 : wr.drew.cell? ⟨b, off + k * 3, none⟩ = some (.int .i64 t[k].id) ∧ wr.drew.cell? ⟨b, off + k * 3 + 1, none⟩ = some (.int .i64 t[k].depth) ∧ wr.drew.cell? ⟨b, off + k * 3 + 2, none⟩ = some (.string t[k].text) ∧ wr.drew.cell? ⟨b, off + m * 3 + 1, none⟩ = some (.int .i64 t[m].depth) := ⟨c0, c1, c2, p1⟩
            have hq : decide (t[m].depth + 1 < t[k].depth) = true ∨ decide (t[m].depth + 1 < t[k].depth) = false := by cases decide (t[m].depth + 1 < t[k].depth) <;> simp
            have HDA := Lib.hid hda
            have HK0 : Hid (0 < k) := Nat.pos_of_ne_zero hk0
            clear hda hgm hdep p0 p2 hmk hk0
            rcases hq with hq | hq
            all_goals
              go_region_held3 (fun w' => w'.cell? ⟨b, off + k * 3, none⟩ = some (.int .i64 t[k].id) ∧ w'.cell? ⟨b, off + k * 3 + 1, none⟩ = some (.int .i64 t[k].depth) ∧ w'.cell? ⟨b, off + k * 3 + 2, none⟩ = some (.string t[k].text) ∧ w'.cell? ⟨b, off + m * 3 + 1, none⟩ = some (.int .i64 t[m].depth))
                (first | exact E1 | exact E0 | go_keep)
                (first
                  | (go_at_call 77; refine HE.out.mono ?_; rintro e w1 ⟨rfl, hb1⟩; obtain ⟨hc1, hf1⟩ := bcell hb1
                     have E1 : w1.cell? ⟨b, off + k * 3, none⟩ = some (.int .i64 t[k].id) ∧ w1.cell? ⟨b, off + k * 3 + 1, none⟩ = some (.int .i64 t[k].depth) ∧ w1.cell? ⟨b, off + k * 3 + 2, none⟩ = some (.string t[k].text) ∧ w1.cell? ⟨b, off + m * 3 + 1, none⟩ = some (.int .i64 t[m].depth) := ⟨(hc1 _ _ hbl).trans c0, (hc1 _ _ hbl).trans c1, (hc1 _ _ hbl).trans c2, (hc1 _ _ hbl).trans p1⟩
                     have HB1 := Lib.hid hb1; clear hc1 hf1 hb1))
            · go_wp2_with fail
              go_meet
              exact ⟨true, rfl, Lib.hid (fun h => by cases h), Lib.hid (fun _ h => by have h9 := (HGA.out.1 h).2.1 HK0.out; rw [HDA.out] at h9; simp at hq; omega), (Ext.drewN (Below.refl _ _) 1).trans HB1.out⟩
            · go_wp2_with fail
              go_meet
              exact ⟨false, rfl, Lib.hid (fun _ => ⟨HOK.out, fun _ => by rw [HDA.out]; simp at hq; omega⟩), Lib.hid (fun h => (by cases h)), (Ext.drewN (Below.refl _ _) 1).trans HB1.out⟩
      case rest =>
        obtain ⟨z, rfl, HF, HT, HBX⟩ := hcut
        cases z
        · obtain ⟨hrk, hdk⟩ := HF.out rfl
          have HRK := Lib.hid hrk; have HDK := Lib.hid hdk
          have hex := HB.out.trans (HBX.out.mono HB.out.size)
          have hRx := HR.out.ext hex
          have hbx : b < wc.heap.size := Nat.lt_of_lt_of_le hbl HBX.out.size
          obtain ⟨b', off', e', hbl', d0, d1, d2⟩ := row_at hRx k hlt
          cases e'
          have HRT := Lib.hid (root_s t[k].id wc)
          have HRx := Lib.hid hRx; have HEX := Lib.hid hex
          have HTK := Lib.hid (rootsN_take t k hlt)
          have hrn : rootsN (t.take k) ≤ k := Nat.le_trans (rootsN_le _) (by rw [List.length_take]; omega)
          generalize hrt : rootsN (t.take k) = rt at *
          clear hrk hdk hex hRx c0 c1 c2 HF HT hE
          go_wp2_with fail
          refine HRT.out.mono ?_
          rintro e w' ⟨rfl, hw'⟩
          rw [hw']; clear hw'
          go_upto_if 42 with fail
          go_cut [3] (fun s wx => s = .int .i64 (rootsN (t.take (k + 1)) : Nat) ∧ Hid (isRoot t[k].id = true → t[k].id = (rt : Int) + 1) ∧ wx = wc)
          case first =>
            cases hroot : isRoot t[k].id
            · have HK1 : Hid (rootsN (t.take (k + 1)) = rt) := by show _ = _; rw [HTK.out, hroot]; rfl
              have HRF := Lib.hid hroot
              clear hroot
              go_wp2_with fail
              go_meet
              exact ⟨by rw [HK1.out], Lib.hid (fun h => by rw [HRF.out] at h; cases h), rfl⟩
            · have HK1 : Hid (rootsN (t.take (k + 1)) = rt + 1) := by show _ = _; rw [HTK.out, hroot]; rfl
              have hw9 : IntKind.i64.wrap ((rt : Int) + 1) = (rt : Int) + 1 := by rw [IntKind.wrap_i64]; omega
              by_cases he : t[k].id = (rt : Int) + 1
              · have he' : (t[k].id != (rt : Int) + 1) = false := by simp [he]
                have HEQ := Lib.hid he
                clear hroot he
                go_wp2_with fail
                go_meet
                exact ⟨by rw [HK1.out]; rfl, Lib.hid (fun _ => HEQ.out), rfl⟩
              · have he' : (t[k].id != (rt : Int) + 1) = true := by simp [he]
                have HX := Lib.hid (treeOk_not hlt (fun h => he ((HGA.out.1 h).2.2.1 hroot)))
                clear hroot he
                go_wp2_with fail
                go_ret
                exact ⟨by rw [HX.out]; rfl, HEX.out⟩
          case rest =>
            obtain ⟨rfl, HROOT, rfl⟩ := hcut
            clear d1 d2 HRT
            go_wp2_with fail
            go_loopg [5] k (fun gj i wr2 => ∃ (j n : Nat), wr2 = wc.drewN n ∧ j ≤ k ∧ Hid (gj = k - j) ∧ i = .int .i64 j ∧ Hid (∀ i (hi : i < t.length), i < j → t[i].id ≠ t[k].id))
            case atStart => exact ⟨0, 0, rfl, Nat.zero_le _, rfl, rfl, fun i _ h => by omega⟩
            case round =>
              obtain ⟨j, n, rfl, hj, HJ, rfl, HN⟩ := hrel
              by_cases hjk : j < k
              · obtain ⟨b', off', e', hbl2, q0, q1, q2⟩ := row_at HRx.out j (by omega)
                cases e'
                have hj0 : (j : Int) < t.length := by omega
                have hdj : decide ((j : Int) < k) = true := by simpa using hjk
                clear q1 q2
                by_cases he : t[j].id = t[k].id
                · have he' : (t[j].id == t[k].id) = true := by simp [he]
                  have HX := Lib.hid (treeOk_not hlt (fun h => (HGA.out.1 h).2.2.2 j (by omega) hjk he))
                  clear he
                  go_wp2_with fail
                  go_quiet (fail)
                  go_wp2_with fail
                  go_ret
                  exact ⟨by rw [HX.out]; rfl, Ext.drewN (Ext.drewN HEX.out _) _⟩
                · have he' : (t[j].id == t[k].id) = false := by simp [he]
                  have HN1 : Hid (∀ i (hi : i < t.length), i < j + 1 → t[i].id ≠ t[k].id) := fun i hi hij => by
                    by_cases e : i = j
                    · subst e; exact he
                    · exact HN.out i hi (by omega)
                  clear he
                  go_wp2_with fail
                  go_quiet (fail)
                  go_wp2_with fail
                  go_roundg (k - (j + 1))
                  case measure => have := HJ.out; omega
                  case rel => exact ⟨j + 1, _, rfl, by omega, rfl, by go_num, HN1⟩
              · have hjk' : j = k := by omega
                have HGK : Hid (GS t k) := HGA.out.2 ⟨HRK.out, HDK.out, fun h => by rw [HROOT.out h], fun i hi hik => HN.out i hi (by omega)⟩
                go_wp2_with fail
                go_roundg (t.length - (k + 1))
                case measure => have := HK.out; omega
                case rel =>
                  refine ⟨k + 1, by omega, rfl, rfl, by go_num, fun i hi => ?_, Ext.drewN HEX.out _⟩
                  by_cases e : i = k
                  · rw [e]; exact HGK.out
                  · exact HG.out i (by omega)
        · have HX := Lib.hid (treeOk_not hlt (HT.out rfl))
          clear HT HF hE c0 c1 c2
          go_wp2_with fail
          go_ret
          exact ⟨by rw [HX.out]; rfl, HB.out.trans (HBX.out.mono HB.out.size)⟩
    · have hkl : k = t.length := by omega
      have hrn : rootsN (t.take k) ≤ k := Nat.le_trans (rootsN_le _) (by rw [List.length_take]; omega)
      have HT3 := Lib.hid (treeOk_ts t)
      subst hkl
      rw [List.take_length] at hrn ⊢
      by_cases h3 : rootsN t = 3
      · have h0 : 0 < t.length := by omega
        obtain ⟨b, off, rfl, hbl, c0, c1, c2⟩ := row_at (HR.out.ext HB.out) 0 h0
        simp only [Nat.zero_mul, Nat.add_zero] at c0 c1 c2
        have h0' : (0 : Int) < t.length := by omega
        have h3' : ((rootsN t : Nat) : Int) = 3 := by omega
        have h3b : (((rootsN t : Nat) : Int) == 3) = true := by simp [h3]
        have HX : Hid (treeOk t = (t[0].id == 1)) := by
          show _ = _
          rw [Bool.eq_iff_iff, HT3.out]
          simp only [beq_iff_eq, h3, List.getElem?_eq_getElem h0]
          constructor
          · rintro ⟨_, _, r, hr, h⟩; obtain rfl := Option.some.inj hr; exact h
          · intro h; exact ⟨HG.out, trivial, _, rfl, h⟩
        generalize hrt : rootsN t = rt at *
        clear hrt h3 hrn c1 c2
        go_wp2_with fail
        go_ret
        exact ⟨by rw [HX.out]; first | rfl | simp [h3b], HB.out⟩
      · have h3b : (((rootsN t : Nat) : Int) == 3) = false := by simp; omega
        have HX : Hid (treeOk t = false) := by
          show _ = _
          rw [Bool.eq_false_iff]; intro h; exact h3 (HT3.out.1 h).2.1
        generalize hrt : rootsN t = rt at *
        clear hrt h3 hrn
        go_wp2_with fail
        go_ret
        exact ⟨by rw [HX.out]; first | rfl | simp [h3b], HB.out⟩
end Go.Proofs.YtjhbbgeebobcpaaDoor
