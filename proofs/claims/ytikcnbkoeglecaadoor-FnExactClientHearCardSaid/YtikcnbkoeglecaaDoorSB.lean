/- Walk of the reference: ClientHear. The exact laws' helpers: a client's marks are still held; clients that stay. -/
import Derived.Test.YtikcnbkoeglecaaDoorSA
import Derived.Test.YtikcnbkoeglecaaDoorRC
import Derived.Test.YtikcnbkoeglecaaDoorRG
import Derived.Test.YtikcnbkoeglecaaDoorRF
namespace Go.Proofs.YtikcnbkoeglecaaDoor
open Go.RowKit Go.Lib
set_option linter.unusedVariables false

theorem hearL_ok (who : Int) : ∀ (l : List Entry) (q : List Entry) (t : List Row) (d n : Int) (q' : List Entry) (t' : List Row) (d' n' : Int), hearL who l q t d n = some (q', t', d', n') → treeOk t = true → (∀ e ∈ l, opOk e.op = true) → treeOk t' = true ∧ q'.length ≤ q.length := by
  intro l
  induction l with
  | nil =>
    intro q t d n q' t' d' n' h ht _
    simp only [hearL, Option.some.injEq, Prod.mk.injEq] at h
    obtain ⟨rfl, rfl, _, _⟩ := h
    exact ⟨ht, Nat.le_refl _⟩
  | cons e l ih =>
    intro q t d n q' t' d' n' h ht hl
    have ho := hl e List.mem_cons_self
    have htn : treeOk (opDo t e.op) = true := by
      have hod : opDo t e.op = doL t e.op := by unfold opDo; rw [ht, ho]; rfl
      rw [hod]; exact treeOk_do t _ ht ho
    have hl' : ∀ x ∈ l, opOk x.op = true := fun x hx => hl x (List.mem_cons_of_mem _ hx)
    unfold hearL at h
    split at h
    · cases q with
      | nil => simp at h
      | cons e0 q0 =>
        simp only at h
        split at h
        · obtain ⟨h1, h2⟩ := ih _ _ _ _ _ _ _ _ h htn hl'
          exact ⟨h1, by simp only [List.length_cons]; omega⟩
        · cases h
    · exact ih _ _ _ _ _ _ _ _ h htn hl'
theorem hearS_len (c : Client) (frm : Int) (l : List Entry) (hok : clientOk c = true) (hall : ∀ x ∈ l, entryOk x = true) : (hearS c frm l).1.base.length ≤ 1000 ∧ (hearS c frm l).1.wait.length ≤ 40 := by
  obtain ⟨hw9, hs0, hs40, htr, hd0, hd1, hwl, hm0, hm1, hwt⟩ := clientOk_parts hok
  have h0 : c.base.length ≤ 1000 ∧ c.wait.length ≤ 40 := ⟨treeOk_len htr, by omega⟩
  unfold hearS
  split
  · exact h0
  · cases hh : hearL c.who (l.drop (c.seen - frm).toNat) c.wait c.base c.done c.seen with
    | none => exact h0
    | some p =>
      obtain ⟨q, t, d, n⟩ := p
      obtain ⟨h1, h2⟩ := hearL_ok _ _ _ _ _ _ _ _ _ _ hh htr (fun e he => entryOk_op (hall e (List.mem_of_mem_drop he)))
      exact ⟨treeOk_len h1, by show q.length ≤ 40; omega⟩
theorem clientHear_S (c : Client) (frm : Int) (l : List Entry) (hok : clientOk c = true) (h0 : 0 ≤ frm) (h1 : frm ≤ 40) (hall : ∀ x ∈ l, entryOk x = true) : clientHear c frm l = hearS c frm l := by
  have : l.all entryOk = true := List.all_eq_true.2 hall
  unfold clientHear hearS
  rw [if_neg (by rw [hok]; simp; omega), if_neg (by rw [this]; simp)]
  have hd : l.drop (min (c.seen - frm) l.length).toNat = l.drop (c.seen - frm).toNat := by
    by_cases h : (c.seen - frm) ≤ l.length
    · rw [Int.min_eq_left h]
    · rw [Int.min_eq_right (by omega), List.drop_of_length_le (by omega), List.drop_of_length_le (by omega)]
  rw [hd]
  rfl

set_option maxRecDepth 100000 in
set_option maxHeartbeats 4000000 in
theorem clientHear_s (c : Client) (v : Value) (frm : Int) (A : Option Addr) (cap : Nat) (l : List Entry) (w : World) (h : CV w c v) (hr : Rd w A cap l) (hc : CW c) (hl : ∀ e ∈ l, OpW e.op) (hll : l.length ≤ 2000000) :
    Calls Tryd.prog 25 #[v, .int .i64 frm, .slice A l.length cap] w fun r w' => ∃ v', r = .returned (.tuple #[v', .bool (clientHear c frm l).2]) ∧ CO w' w.heap.size (clientHear c frm l).1 v' ∧ Ext w w' := by
  obtain ⟨A1, n1, A2, n2, rfl, h1, h2⟩ := h
  have hX := two_new w (.cells #[.int .i64 c.who, .int .i64 c.seen, .slice A1 c.base.length n1, .slice A2 c.wait.length n2, .int .i64 c.done, .int .i64 c.made] 30) (.cells #[.int .i64 0, .int .i64 0, .slice none 0 0, .slice none 0 0, .int .i64 0, .int .i64 0] 30)
  have hE0 : Ext w ((w.alloc (.cells #[.int .i64 c.who, .int .i64 c.seen, .slice A1 c.base.length n1, .slice A2 c.wait.length n2, .int .i64 c.done, .int .i64 c.made] 30)).alloc (.cells #[.int .i64 0, .int .i64 0, .slice none 0 0, .slice none 0 0, .int .i64 0, .int .i64 0] 30)) := ((Below.refl _ w).alloc (Nat.le_refl _) _).alloc (by rw [alloc_sz]; omega) _
  have hz0 : ((w.alloc (.cells #[.int .i64 c.who, .int .i64 c.seen, .slice A1 c.base.length n1, .slice A2 c.wait.length n2, .int .i64 c.done, .int .i64 c.made] 30)).alloc (.cells #[.int .i64 0, .int .i64 0, .slice none 0 0, .slice none 0 0, .int .i64 0, .int .i64 0] 30)).heap.size = w.heap.size + 2 := by rw [alloc_sz, alloc_sz]
  have hcv : CV ((w.alloc (.cells #[.int .i64 c.who, .int .i64 c.seen, .slice A1 c.base.length n1, .slice A2 c.wait.length n2, .int .i64 c.done, .int .i64 c.made] 30)).alloc (.cells #[.int .i64 0, .int .i64 0, .slice none 0 0, .slice none 0 0, .int .i64 0, .int .i64 0] 30)) c (.agg #[.int .i64 c.who, .int .i64 c.seen, .slice A1 c.base.length n1, .slice A2 c.wait.length n2, .int .i64 c.done, .int .i64 c.made]) := ⟨A1, n1, A2, n2, rfl, h1.ext hE0, h2.ext hE0⟩
  have HOKC := Lib.hid (clientOk_s c (.agg #[.int .i64 c.who, .int .i64 c.seen, .slice A1 c.base.length n1, .slice A2 c.wait.length n2, .int .i64 c.done, .int .i64 c.made]) ((w.alloc (.cells #[.int .i64 c.who, .int .i64 c.seen, .slice A1 c.base.length n1, .slice A2 c.wait.length n2, .int .i64 c.done, .int .i64 c.made] 30)).alloc (.cells #[.int .i64 0, .int .i64 0, .slice none 0 0, .slice none 0 0, .int .i64 0, .int .i64 0] 30)) hcv hc)
  have HR := Lib.hid hr; have HL := Lib.hid hl; have HCV := Lib.hid hcv; have HE0 := Lib.hid hE0; have HX1 := Lib.hid hX.1; have HX2 := Lib.hid hX.2
  clear h1 h2 hr hl hc hcv hE0 hX
  go_enter Tryd.func25, Tryd.ntmps25
  go_wp2_with fail
  generalize ((w.alloc (.cells #[.int .i64 c.who, .int .i64 c.seen, .slice A1 c.base.length n1, .slice A2 c.wait.length n2, .int .i64 c.done, .int .i64 c.made] 30)).alloc (.cells #[.int .i64 0, .int .i64 0, .slice none 0 0, .slice none 0 0, .int .i64 0, .int .i64 0] 30)) = W2 at *
  have hnb : ∀ W : World, Ext W2 W → (put6 W (w.heap.size + 1) (.int .i64 0) (.int .i64 0) (.slice none 0 0) (.slice none 0 0) (.int .i64 0) (.int .i64 0)).heap[w.heap.size + 1]? = some (.cells #[.int .i64 0, .int .i64 0, .slice none 0 0, .slice none 0 0, .int .i64 0, .int .i64 0] 30 (0, 0)) ∧ Ext w (put6 W (w.heap.size + 1) (.int .i64 0) (.int .i64 0) (.slice none 0 0) (.slice none 0 0) (.int .i64 0) (.int .i64 0)) := fun W hW =>
    ⟨put6_at _ _ _ _ _ _ ((hW.block _ (by omega)).trans HX2.out), put6_below _ _ _ _ _ _ (HE0.out.trans (hW.mono (by omega))) (Nat.le_succ _)⟩
  have HNB := Lib.hid hnb
  clear hnb
  refine HOKC.out.mono ?_
  rintro e w1 ⟨rfl, hb1⟩
  have HB1 := Lib.hid hb1
  obtain ⟨c0, c1, c2, c3, c4, c5, cf⟩ := six_cells ((hb1.block w.heap.size (by omega)).trans HX1.out)
  obtain ⟨d0, d1, d2, d3, d4, d5, df⟩ := six_cells ((hb1.block (w.heap.size + 1) (by omega)).trans HX2.out)
  clear hb1 HOKC
  cases hok : clientOk c
  · have HRES : Hid (clientHear c frm l = (noClient, false)) := by show _ = _; unfold clientHear; rw [if_pos (.inl hok)]
    clear hok
    go_wp2_with fail
    obtain ⟨hz, hE⟩ := HNB.out w1 HB1.out
    obtain ⟨k0, k1, k2, k3, k4, k5, kf⟩ := six_cells hz
    refine bodyPost_ret (v := .tuple #[.agg #[.int .i64 0, .int .i64 0, .slice none 0 0, .slice none 0 0, .int .i64 0, .int .i64 0], .bool false]) ?_ rfl ?_
    · simp [results, Tryd.f25, go_sem, k0, k1, k2, k3, k4, k5]
    · exact ⟨_, by rw [HRES.out], by rw [HRES.out]; exact CO.no _ _, hE⟩
  have HOK := Lib.hid hok
  clear hok
  go_wp2_with fail
  refine (in_c frm 0 40 w1).mono ?_
  rintro e w1' ⟨rfl, hw1'⟩
  rw [hw1']; clear hw1'
  cases hin : inR frm 0 40
  · have HRES : Hid (clientHear c frm l = (noClient, false)) := by
      have hn := of_decide_eq_false (show decide (0 ≤ frm ∧ frm ≤ 40) = false from hin)
      show _ = _; unfold clientHear; rw [if_pos (.inr (by omega))]
    clear hin
    go_wp2_with fail
    obtain ⟨hz, hE⟩ := HNB.out w1 HB1.out
    obtain ⟨k0, k1, k2, k3, k4, k5, kf⟩ := six_cells hz
    refine bodyPost_ret (v := .tuple #[.agg #[.int .i64 0, .int .i64 0, .slice none 0 0, .slice none 0 0, .int .i64 0, .int .i64 0], .bool false]) ?_ rfl ?_
    · simp [results, Tryd.f25, go_sem, k0, k1, k2, k3, k4, k5]
    · exact ⟨_, by rw [HRES.out], by rw [HRES.out]; exact CO.no _ _, hE⟩
  have hfr := of_decide_eq_true (show decide (0 ≤ frm ∧ frm ≤ 40) = true from hin)
  obtain ⟨hf0, hf1⟩ := hfr
  clear hin
  go_wp2_with fail
  clear c0 c1 c2 c3 c4 c5 cf d0 d1 d2 d3 d4 d5 df
  go_loopg [8] l.length (fun gk i wr => ∃ k : Nat, k ≤ l.length ∧ Hid (gk = l.length - k) ∧ i = .int .i64 k ∧ Hid (∀ j (hj : j < l.length), j < k → entryOk l[j] = true) ∧ Hid (Ext W2 wr))
  case atStart => exact ⟨0, Nat.zero_le _, rfl, rfl, fun j _ h => by omega, HB1.out⟩
  case round =>
    obtain ⟨k, hk, HK, rfl, HG, HW⟩ := hrel
    have hEr := HE0.out.trans (HW.out.mono (by omega))
    have HER := Lib.hid hEr
    have hx1 := (HW.out.block w.heap.size (by omega)).trans HX1.out
    have hx2 := (HW.out.block (w.heap.size + 1) (by omega)).trans HX2.out
    have hlt1 := blk_lt hx1; have hlt2 := blk_lt hx2
    have HXR1 := Lib.hid hx1; have HXR2 := Lib.hid hx2
    clear hEr hx1 hx2
    by_cases hlt : k < l.length
    · obtain ⟨b, off, rfl, hbl, e0, e1, e2, e3, e4, e5, e6⟩ := ent_at (HR.out.ext HER.out) k hlt
      have hC := entryOk_s l[k] wr (HR.out.okAt k hlt) (HL.out _ (List.getElem_mem hlt))
      have HC := Lib.hid hC
      have hli : (k : Int) < l.length := by omega
      clear hC
      go_wp2_with fail
      refine HC.out.mono ?_
      rintro e w4 ⟨rfl, hb4⟩
      have hW4 := HW.out.trans (hb4.mono HW.out.size)
      obtain ⟨d0, d1, d2, d3, d4, d5, df⟩ := six_cells ((hW4.block (w.heap.size + 1) (by omega)).trans HX2.out)
      have HW4 := Lib.hid hW4
      clear hb4 hW4 HC e0 e1 e2 e3 e4 e5 e6
      cases hent : entryOk l[k]
      · have HRES : Hid (clientHear c frm l = (noClient, false)) := by
          have hal : l.all entryOk = false := by
            rw [List.all_eq_false]
            exact ⟨l[k], List.getElem_mem hlt, by rw [hent]; simp⟩
          show _ = _; unfold clientHear; rw [if_neg (by rw [HOK.out]; simp; omega), if_pos hal]
        clear hent
        go_wp2_with fail
        obtain ⟨hz, hE⟩ := HNB.out w4 HW4.out
        obtain ⟨k0, k1, k2, k3, k4, k5, kf⟩ := six_cells hz
        refine bodyPost_ret (v := .tuple #[.agg #[.int .i64 0, .int .i64 0, .slice none 0 0, .slice none 0 0, .int .i64 0, .int .i64 0], .bool false]) ?_ rfl ?_
        · simp [results, Tryd.f25, go_sem, k0, k1, k2, k3, k4, k5]
        · exact ⟨_, by rw [HRES.out], by rw [HRES.out]; exact CO.no _ _, hE⟩
      · have HENT := Lib.hid hent
        clear hent
        go_wp2_with fail
        go_roundg (l.length - (k + 1))
        case measure => have := HK.out; omega
        case rel =>
          refine ⟨k + 1, by omega, rfl, by go_num, Lib.hid (fun j hj hjk => ?_), HW4.out⟩
          rcases Nat.lt_or_eq_of_le (Nat.le_of_lt_succ hjk) with h | h
          · exact HG.out j hj h
          · subst h; exact HENT.out
    · have hkl : k = l.length := by omega
      have hall : ∀ x ∈ l, entryOk x = true := fun x hx => by
        obtain ⟨j, hj, rfl⟩ := List.getElem_of_mem hx
        exact HG.out j hj (by omega)
      have hres := clientHear_S c frm l HOK.out hf0 hf1 hall
      have hlen := hearS_len c frm l HOK.out hall
      have HALL := Lib.hid hall
      obtain ⟨hw9, hs0, hs40, htr, hd0, hd1, hwl, hm0, hm1, hwt⟩ := clientOk_parts HOK.out
      have htl := treeOk_len htr
      obtain ⟨c', bo, hcb⟩ : ∃ c' bo, hearS c frm l = (c', bo) := ⟨_, _, rfl⟩
      rw [hcb] at hres hlen
      simp only at hlen
      obtain ⟨hlen1, hlen2⟩ := hlen
      have HRES := Lib.hid hres; have HCB := Lib.hid hcb
      have HCP := Lib.hid (copy_s c (.agg #[.int .i64 c.who, .int .i64 c.seen, .slice A1 c.base.length n1, .slice A2 c.wait.length n2, .int .i64 c.done, .int .i64 c.made]) wr (HCV.out.ext HW.out) (by omega) (by omega))
      obtain ⟨c0, c1, c2, c3, c4, c5, cf⟩ := six_cells HXR1.out
      clear hall hres hcb hw9 htr hm0 hm1 hwt HK HG
      have hli : ¬ ((k : Int) < l.length) := by omega
      go_wp2_with fail
      refine HCP.out.mono ?_
      rintro e w3 ⟨v3, rfl, co3, hb3⟩
      have hs3 := hb3.size
      have HE3 := Lib.hid (HER.out.trans (hb3.mono HER.out.size))
      have hH := hear_s c v3 frm A cap l w3 co3.cv (HR.out.ext HE3.out) HOK.out hf0 hf1 HALL.out hll
      rw [HCB.out] at hH
      have HH := Lib.hid hH
      have HB3 := Lib.hid hb3
      clear co3 hb3 hH HCP c0 c1 c2 c3 c4 c5 cf
      go_wp2_with fail
      refine HH.out.mono ?_
      rintro e w4 ⟨v4, rfl, ⟨B1, m1, B2, m2, rfl, r1, r2⟩, hb4⟩
      have hs4 := hb4.size
      have HE4 := Lib.hid (HE3.out.trans (hb4.mono HE3.out.size))
      have hE5 : Ext w4 (w4.alloc (.cells #[.int .i64 c'.who, .int .i64 c'.seen, .slice B1 c'.base.length m1, .slice B2 c'.wait.length m2, .int .i64 c'.done, .int .i64 c'.made] 30)) := (Below.refl _ w4).alloc (Nat.le_refl _) _
      have hsz5 := alloc_sz w4 (.cells #[.int .i64 c'.who, .int .i64 c'.seen, .slice B1 c'.base.length m1, .slice B2 c'.wait.length m2, .int .i64 c'.done, .int .i64 c'.made] 30)
      have HCP := Lib.hid (copy_s c' (.agg #[.int .i64 c'.who, .int .i64 c'.seen, .slice B1 c'.base.length m1, .slice B2 c'.wait.length m2, .int .i64 c'.done, .int .i64 c'.made]) _ ⟨B1, m1, B2, m2, rfl, r1.ext hE5, r2.ext hE5⟩ (by omega) (by omega))
      have hx4 := (hb4.block (w.heap.size + 1) (by omega)).trans ((HB3.out.block (w.heap.size + 1) (by omega)).trans HXR2.out)
      have hx5 := (hE5.block (w.heap.size + 1) (by omega)).trans hx4
      have hE6 := HE4.out.trans (hE5.mono (by omega))
      have HX5 := Lib.hid hx5; have HE6 := Lib.hid hE6
      clear r1 r2 hb4 hE5 hx4 hx5 hE6 HH
      go_wp2_with fail
      refine HCP.out.mono ?_
      rintro e w7 ⟨v7, rfl, ⟨C1, j1, C2, j2, rfl, o1, o2⟩, hb7⟩
      have hx7 := (hb7.block (w.heap.size + 1) (by omega)).trans HX5.out
      have hlt7 := blk_lt hx7
      have hE7 := HE6.out.trans (hb7.mono (by omega))
      obtain ⟨d0, d1, d2, d3, d4, d5, df⟩ := six_cells hx7
      have hz := put6_at (.int .i64 c'.who) (.int .i64 c'.seen) (.slice C1 c'.base.length j1) (.slice C2 c'.wait.length j2) (.int .i64 c'.done) (.int .i64 c'.made) hx7
      have hE := put6_below (.int .i64 c'.who) (.int .i64 c'.seen) (.slice C1 c'.base.length j1) (.slice C2 c'.wait.length j2) (.int .i64 c'.done) (.int .i64 c'.made) hE7 (Nat.le_succ w.heap.size)
      have hco : CO (put6 w7 (w.heap.size + 1) (.int .i64 c'.who) (.int .i64 c'.seen) (.slice C1 c'.base.length j1) (.slice C2 c'.wait.length j2) (.int .i64 c'.done) (.int .i64 c'.made)) w.heap.size c' (.agg #[.int .i64 c'.who, .int .i64 c'.seen, .slice C1 c'.base.length j1, .slice C2 c'.wait.length j2, .int .i64 c'.done, .int .i64 c'.made]) :=
        CO.lower ⟨_, _, _, _, rfl, o1.of_blocks (fun k hk _ => put6_far _ _ _ _ _ _ (by omega)), o2.of_blocks (fun k hk _ => put6_far _ _ _ _ _ _ (by omega))⟩ (by omega)
      have HZ := Lib.hid hz; have HE := Lib.hid hE; have HCO := Lib.hid hco
      clear o1 o2 hb7 hx7 hE7 hz hE hco HCP
      go_wp2_with fail
      obtain ⟨k0, k1, k2, k3, k4, k5, kf⟩ := six_cells HZ.out
      refine bodyPost_ret (v := .tuple #[.agg #[.int .i64 c'.who, .int .i64 c'.seen, .slice C1 c'.base.length j1, .slice C2 c'.wait.length j2, .int .i64 c'.done, .int .i64 c'.made], .bool bo]) ?_ rfl ?_
      · simp [results, Tryd.f25, go_sem, k0, k1, k2, k3, k4, k5]
      · exact ⟨_, by rw [HRES.out], by rw [HRES.out]; exact HCO.out, HE.out⟩
end Go.Proofs.YtikcnbkoeglecaaDoor
namespace Go.Proofs.YtikcnbkoeglecaaDoor
open Go.RowKit
set_option linter.unusedVariables false

set_option maxRecDepth 100000 in
set_option maxHeartbeats 2000000 in
theorem heldClient_c (c : Client) (v : Value) (k : Nat) (w : World) (h : CV w (markCl c k) v) (hk : 0 < k) (hb : k + 3 * c.base.length + 7 * c.wait.length ≤ 100000000) :
    Calls Tryd.prog 29 #[v, .int .i64 k] w fun x w' => x = .returned (.int .i64 (k + 3 * c.base.length + 7 * c.wait.length : Nat)) ∧ Ext w w' := by
  obtain ⟨A1, n1, A2, n2, rfl, h1, h2⟩ := h
  simp only [markCl, markRs_len, markEs_len] at h1 h2 ⊢
  have hE0 : Ext w (w.alloc (.cells #[.int .i64 c.who, .int .i64 c.seen, .slice A1 c.base.length n1, .slice A2 c.wait.length n2, .int .i64 c.done, .int .i64 c.made] 30)) := (Below.refl _ w).alloc (Nat.le_refl _) _
  have hX := World.alloc_heap_new w (.cells #[.int .i64 c.who, .int .i64 c.seen, .slice A1 c.base.length n1, .slice A2 c.wait.length n2, .int .i64 c.done, .int .i64 c.made] 30)
  have HH1 := Lib.hid (heldRowS_c A1 n1 c.base.length k _ (h1.ext hE0) hk (by omega))
  have H2 := Lib.hid h2; have HX := Lib.hid hX; have HE0 := Lib.hid hE0
  clear h1 h2 hX hE0
  go_enter Tryd.func29, Tryd.ntmps29
  go_wp2_with fail
  refine HH1.out.mono ?_
  rintro e w1 ⟨rfl, hb1⟩
  have hE1 := HE0.out.trans (hb1.mono (by rw [alloc_sz]; omega))
  obtain ⟨c0, c1, c2, c3, c4, c5, cf⟩ := six_cells ((hb1.block w.heap.size (by rw [alloc_sz]; omega)).trans HX.out)
  have hk0 : ¬ (((k + 3 * c.base.length : Nat) : Int) < 0) := by omega
  have HH2 := Lib.hid (heldEntryS_c A2 n2 c.wait.length (k + 3 * c.base.length) w1 (H2.out.ext hE1) (by omega) (by omega))
  have HE1 := Lib.hid hE1
  clear hE1 hb1 HH1
  go_wp2_with fail
  refine HH2.out.mono ?_
  rintro e w2 ⟨rfl, hb2⟩
  have HE2 := Lib.hid (HE1.out.trans (hb2.mono HE1.out.size))
  have hk1 : ¬ (((k + 3 * c.base.length + 7 * c.wait.length : Nat) : Int) < 0) := by omega
  clear hb2 HH2 c0 c1 c2 c3 c4 c5 cf hk0
  go_wp2_with fail
  go_ret
  exact ⟨rfl, HE2.out⟩

theorem CO.out {w0 w w' : World} {base lo hi : Nat} {c : Client} {v : Value} (h0 : CO w0 base c v) (h : CO w base c v) (ho : Out lo hi w w') (hs : w0.heap.size ≤ lo ∨ hi ≤ base) : CO w' base c v := by
  obtain ⟨A1, n1, A2, n2, rfl, o1, o2⟩ := h0
  obtain ⟨B1, m1, B2, m2, e, p1, p2⟩ := h
  simp only [Value.agg.injEq, Array.mk.injEq, List.cons.injEq, Value.slice.injEq, true_and, and_true] at e
  obtain ⟨⟨rfl, rfl⟩, ⟨rfl, rfl⟩⟩ := e
  refine ⟨A1, n1, A2, n2, rfl, p1.out ho (fun k hk => ?_), p2.out ho (fun k hk => ?_)⟩
  · have := o1.blk k hk; omega
  · have := o2.blk k hk; omega
theorem Out.widen {lo hi lo' hi' : Nat} {w w' : World} (h : Out lo hi w w') (h1 : lo' ≤ lo) (h2 : hi ≤ hi') : Out lo' hi' w w' :=
  ⟨h.os, h.tape, h.output, h.size, fun k hk hne => h.block k hk (by omega)⟩
theorem clientHear_len (c : Client) (frm : Int) (l : List Entry) : (clientHear c frm l).1.base.length ≤ 1000 ∧ (clientHear c frm l).1.wait.length ≤ 40 := by
  by_cases hb : clientOk c = false ∨ frm < 0 ∨ 40 < frm
  · unfold clientHear; rw [if_pos hb]; simp [noClient]
  · have hok : clientOk c = true := by
      cases h9 : clientOk c
      · exact absurd (.inl h9) hb
      · rfl
    have h0 : ¬ frm < 0 := fun e => hb (.inr (.inl e))
    have h1 : ¬ 40 < frm := fun e => hb (.inr (.inr e))
    cases hall : l.all entryOk
    · unfold clientHear; rw [if_neg hb, if_pos hall]; simp [noClient]
    · have hall' : ∀ x ∈ l, entryOk x = true := List.all_eq_true.1 hall
      rw [clientHear_S c frm l hok (by omega) (by omega) hall']
      exact hearS_len c frm l hok hall'
end Go.Proofs.YtikcnbkoeglecaaDoor
