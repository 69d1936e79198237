/- Walk of the reference: somebody anew. A client hears: all cases. -/
import Derived.Test.YtjhbbgeebobcpaaDoorQS
import Derived.Test.YtjhbbgeebobcpaaDoorQP
namespace Go.Proofs.YtjhbbgeebobcpaaDoor
open Go.RowKit Go.Lib
set_option linter.unusedVariables false

set_option maxRecDepth 100000 in
set_option maxHeartbeats 2000000 in
theorem copy_s (c : Client) (v : Value) (w : World) (h : CV w c v) (hb : c.base.length ≤ 1000000) (hw : c.wait.length ≤ 1000000) :
    Calls Tryd.prog 65 #[v] w fun r w' => ∃ v', r = .returned v' ∧ CO w' w.heap.size c v' ∧ Ext w w' := by
  obtain ⟨A1, n1, A2, n2, rfl, h1, h2⟩ := h
  have H1 := Lib.hid h1; have H2 := Lib.hid h2
  have hX := two_new w (.cells #[.int .i64 c.who, .int .i64 c.seen, .slice A1 c.base.length n1, .slice A2 c.wait.length n2, .int .i64 c.done, .int .i64 c.made] 30) (.cells #[.int .i64 0, .int .i64 0, .slice none 0 0, .slice none 0 0, .int .i64 0, .int .i64 0] 30)
  have hE0 : Ext w ((w.alloc (.cells #[.int .i64 c.who, .int .i64 c.seen, .slice A1 c.base.length n1, .slice A2 c.wait.length n2, .int .i64 c.done, .int .i64 c.made] 30)).alloc (.cells #[.int .i64 0, .int .i64 0, .slice none 0 0, .slice none 0 0, .int .i64 0, .int .i64 0] 30)) := ((Below.refl _ w).alloc (Nat.le_refl _) _).alloc (by rw [alloc_sz]; omega) _
  have hs0 : ((w.alloc (.cells #[.int .i64 c.who, .int .i64 c.seen, .slice A1 c.base.length n1, .slice A2 c.wait.length n2, .int .i64 c.done, .int .i64 c.made] 30)).alloc (.cells #[.int .i64 0, .int .i64 0, .slice none 0 0, .slice none 0 0, .int .i64 0, .int .i64 0] 30)).heap.size = w.heap.size + 2 := by rw [alloc_sz, alloc_sz]
  obtain ⟨v3, w3, hrun, hown3, hg3⟩ := app_at el_row (own_made (e := 47) (α := Row) ((w.alloc (.cells #[.int .i64 c.who, .int .i64 c.seen, .slice A1 c.base.length n1, .slice A2 c.wait.length n2, .int .i64 c.done, .int .i64 c.made] 30)).alloc (.cells #[.int .i64 0, .int .i64 0, .slice none 0 0, .slice none 0 0, .int .i64 0, .int .i64 0] 30)) (w.heap.size + 2) (by omega)) ((h1.ext hE0).alloc (.cells #[] 47)) (by simp; omega) (by rw [alloc_sz]; omega)
  have hs3 := hg3.size
  rw [alloc_sz, hs0] at hs3
  have hE3 := ext_grown (hE0.alloc (by omega) (.cells #[] 47)) hg3 (by rw [alloc_sz]; omega) (fun k hk => by simp only [Value.ownBlock, Option.some.injEq] at hk; omega)
  have hx3 := (hg3.block w.heap.size (by rw [alloc_sz]; omega) (fun e => by simp only [Value.ownBlock, Option.some.injEq] at e; omega)).trans ((Below.heap_alloc _ (.cells #[] 47) w.heap.size (by omega)).trans hX.1)
  have hy3 := (hg3.block (w.heap.size + 1) (by rw [alloc_sz]; omega) (fun e => by simp only [Value.ownBlock, Option.some.injEq] at e; omega)).trans ((Below.heap_alloc _ (.cells #[] 47) (w.heap.size + 1) (by omega)).trans hX.2)
  rw [List.nil_append] at hown3
  obtain ⟨A3, n3, rfl, hr3⟩ := hown3.rd
  have HO3 := Lib.hid hown3; have HE3 := Lib.hid hE3; have HX3 := Lib.hid hx3; have HY3 := Lib.hid hy3
  simp only [alloc_sz] at hrun
  obtain ⟨c0, c1, c2, c3, c4, c5, cf⟩ := six_cells hx3
  have hlt1 : w.heap.size < w3.heap.size := by omega
  have hlt2 : w.heap.size + 1 < w3.heap.size := by omega
  have hE4 : Ext w (w3.setCell ⟨w.heap.size, 2, none⟩ (.slice A3 c.base.length n3)) := HE3.out.setCell (Nat.le_refl _) _
  have hs4 : (w3.setCell ⟨w.heap.size, 2, none⟩ (.slice A3 c.base.length n3)).heap.size = w3.heap.size := setsz _ _ _
  obtain ⟨v5, w5, hrun5, hown5, hg5⟩ := app_at el_ent (own_made (e := 44) (α := Entry) (w3.setCell ⟨w.heap.size, 2, none⟩ (.slice A3 c.base.length n3)) w3.heap.size (by omega)) ((h2.ext hE4).alloc (.cells #[] 44)) (by simp; omega) (by rw [alloc_sz]; omega)
  have hs5 := hg5.size
  rw [alloc_sz, hs4] at hs5
  have hE5 := ext_grown (hE4.alloc (by omega) (.cells #[] 44)) hg5 (by rw [alloc_sz]; omega) (fun k hk => by simp only [Value.ownBlock, Option.some.injEq] at hk; omega)
  have hx5 := (hg5.block w.heap.size (by rw [alloc_sz]; omega) (fun e => by simp only [Value.ownBlock, Option.some.injEq] at e; omega)).trans ((Below.heap_alloc _ (.cells #[] 44) w.heap.size (by omega)).trans (set_at hx3))
  have hy5 := (hg5.block (w.heap.size + 1) (by rw [alloc_sz]; omega) (fun e => by simp only [Value.ownBlock, Option.some.injEq] at e; omega)).trans ((Below.heap_alloc _ (.cells #[] 44) (w.heap.size + 1) (by omega)).trans ((setx (by omega)).trans hy3))
  have ho3 := hown3.of_blocks (w' := w5) (fun k hk hkl => (hg5.block k (by rw [alloc_sz]; omega) (fun e => by simp only [Value.ownBlock, Option.some.injEq] at e; omega)).trans ((Below.heap_alloc _ (.cells #[] 44) k (by omega)).trans (setx (by omega))))
  rw [List.nil_append] at hown5
  obtain ⟨A5, n5, rfl, hr5⟩ := hown5.rd
  have HO5 := Lib.hid hown5; have HE5 := Lib.hid hE5; have HY5 := Lib.hid hy5; have HO3b := Lib.hid ho3
  rw [hs4] at hrun5
  have hx5' : w5.heap[w.heap.size]? = some (.cells #[.int .i64 c.who, .int .i64 c.seen, .slice A3 c.base.length n3, .slice A2 c.wait.length n2, .int .i64 c.done, .int .i64 c.made] 30 (0, 0)) := hx5
  obtain ⟨d0, d1, d2, d3, d4, d5, df⟩ := six_cells hx5'
  obtain ⟨e0, e1, e2, e3, e4, e5, ef⟩ := six_cells hy5
  clear h1 h2 hX hE0 hs0 hown3 hr3 hg3 hE3 hx3 hy3 hE4 hs4 hown5 hg5 hE5 hx5 hy5 ho3 hr5 hx5'
  go_enter Tryd.func65, Tryd.ntmps65
  go_wp2_with (at_builtin; first | refine wpList_append_run rfl _ _ _ rfl rfl rfl hrun ?_ | refine wpList_append_run rfl _ _ _ rfl rfl rfl hrun5 ?_)
  have hz := set_at (v := .int .i64 c.made) (i := 5) (set_at (v := .int .i64 c.done) (i := 4) (set_at (v := .slice A5 c.wait.length n5) (i := 3) (set_at (v := .slice A3 c.base.length n3) (i := 2) (set_at (v := .int .i64 c.seen) (i := 1) (set_at (v := .int .i64 c.who) (i := 0) ((setx (o := 3) (v := .slice A5 c.wait.length n5) (b := w.heap.size) (by omega)).trans HY5.out))))))
  obtain ⟨k0, k1, k2, k3, k4, k5, kf⟩ := six_cells (v0 := .int .i64 c.who) (v1 := .int .i64 c.seen) (v2 := .slice A3 c.base.length n3) (v3 := .slice A5 c.wait.length n5) (v4 := .int .i64 c.done) (v5 := .int .i64 c.made) hz
  refine bodyPost_ret (v := .agg #[.int .i64 c.who, .int .i64 c.seen, .slice A3 c.base.length n3, .slice A5 c.wait.length n5, .int .i64 c.done, .int .i64 c.made]) ?_ rfl ?_
  · simp [results, Tryd.f65, go_sem, k0, k1, k2, k3, k4, k5]
  · have hfar : ∀ k, w.heap.size + 2 ≤ k → (((((((w5.setCell ⟨w.heap.size, 3, none⟩ (.slice A5 c.wait.length n5)).setCell ⟨w.heap.size + 1, 0, none⟩ (.int .i64 c.who)).setCell ⟨w.heap.size + 1, 1, none⟩ (.int .i64 c.seen)).setCell ⟨w.heap.size + 1, 2, none⟩ (.slice A3 c.base.length n3)).setCell ⟨w.heap.size + 1, 3, none⟩ (.slice A5 c.wait.length n5)).setCell ⟨w.heap.size + 1, 4, none⟩ (.int .i64 c.done)).setCell ⟨w.heap.size + 1, 5, none⟩ (.int .i64 c.made)).heap[k]? = w5.heap[k]? := fun k hk =>
      (setx (by omega)).trans ((setx (by omega)).trans ((setx (by omega)).trans ((setx (by omega)).trans ((setx (by omega)).trans ((setx (by omega)).trans (setx (by omega)))))))
    have r1 := (HO3b.out.of_blocks (w' := _) (fun k hk hkl => hfar k (by omega))).lower (base' := w.heap.size) (by omega)
    have r2 := (HO5.out.of_blocks (w' := _) (fun k hk hkl => hfar k (by omega))).lower (base' := w.heap.size) (by omega)
    refine ⟨_, rfl, ⟨_, _, _, _, rfl, r1, r2⟩, ?_⟩
    exact (((((((HE5.out.setCell (Nat.le_refl _) _).setCell (Nat.le_succ _) _).setCell (Nat.le_succ _) _).setCell (Nat.le_succ _) _).setCell (Nat.le_succ _) _).setCell (Nat.le_succ _) _).setCell (Nat.le_succ _) _)
end Go.Proofs.YtjhbbgeebobcpaaDoor
namespace Go.Proofs.YtjhbbgeebobcpaaDoor
open Go.RowKit
set_option linter.unusedVariables false

theorem clientHear_c (c : Client) (v : Value) (frm : Int) (A : Option Addr) (cap : Nat) (l : List Entry) (w : World) (ht : Tab w) (h : CV w c v) (hr : Rd w A cap l) :
    Calls Tryd.prog 18 #[v, .int .i64 frm, .slice A l.length cap] w fun r w' => ∃ v', r = .returned (.tuple #[v', .bool (clientHear c frm l).2]) ∧ CO w' w.heap.size (clientHear c frm l).1 v' ∧ Ext w w' := by
  by_cases hb : clientOk c = false ∨ frm < 0 ∨ 40 < frm
  · exact clientHear_bad c v frm A cap l w ht h hr hb
  · have hok : clientOk c = true := by
      cases h9 : clientOk c
      · exact absurd (.inl h9) hb
      · rfl
    have h0 : ¬ frm < 0 := fun e => hb (.inr (.inl e))
    have h1 : ¬ 40 < frm := fun e => hb (.inr (.inr e))
    cases hall : l.all entryOk
    · exact clientHear_entry c v frm A cap l w ht h hr hok h0 h1 hall
    · have hall' : ∀ x ∈ l, entryOk x = true := List.all_eq_true.1 hall
      by_cases hf : c.seen < frm ∨ 40 - frm < l.length
      · exact clientHear_far c v frm A cap l w ht h hr hok h0 h1 hall' hf
      · exact clientHear_go c v frm A cap l w ht h hr hok h0 h1 hall' (fun e => hf (.inl e)) (fun e => hf (.inr e))
end Go.Proofs.YtjhbbgeebobcpaaDoor
