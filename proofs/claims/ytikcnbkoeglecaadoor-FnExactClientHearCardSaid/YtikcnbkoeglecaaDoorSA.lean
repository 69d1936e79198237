/- Walk of the reference: somebody anew. Walk of the reference: somebody hears. -/
import Derived.Test.YtikcnbkoeglecaaDoorQP
import Derived.Test.YtikcnbkoeglecaaDoorRD
import Derived.Test.YtikcnbkoeglecaaDoorQK
import Derived.Deep.RegionWith
import Derived.Deep.RegionHeld3
import Derived.Deep.DeepCutAuto
import Derived.Deep.CutBlock
namespace Go.Proofs.YtikcnbkoeglecaaDoor
open Go.RowKit Go.Lib
set_option linter.unusedVariables false

set_option maxRecDepth 100000 in
set_option maxHeartbeats 2000000 in
theorem copy_s (c : Client) (v : Value) (w : World) (h : CV w c v) (hb : c.base.length ≤ 1000000) (hw : c.wait.length ≤ 1000000) :
    Calls Tryd.prog 59 #[v] w fun r w' => ∃ v', r = .returned v' ∧ CO w' w.heap.size c v' ∧ Ext w w' := by
  obtain ⟨A1, n1, A2, n2, rfl, h1, h2⟩ := h
  have H1 := Lib.hid h1; have H2 := Lib.hid h2
  have hX := two_new w (.cells #[.int .i64 c.who, .int .i64 c.seen, .slice A1 c.base.length n1, .slice A2 c.wait.length n2, .int .i64 c.done, .int .i64 c.made] 30) (.cells #[.int .i64 0, .int .i64 0, .slice none 0 0, .slice none 0 0, .int .i64 0, .int .i64 0] 30)
  have hE0 : Ext w ((w.alloc (.cells #[.int .i64 c.who, .int .i64 c.seen, .slice A1 c.base.length n1, .slice A2 c.wait.length n2, .int .i64 c.done, .int .i64 c.made] 30)).alloc (.cells #[.int .i64 0, .int .i64 0, .slice none 0 0, .slice none 0 0, .int .i64 0, .int .i64 0] 30)) := ((Below.refl _ w).alloc (Nat.le_refl _) _).alloc (by rw [alloc_sz]; omega) _
  have hs0 : ((w.alloc (.cells #[.int .i64 c.who, .int .i64 c.seen, .slice A1 c.base.length n1, .slice A2 c.wait.length n2, .int .i64 c.done, .int .i64 c.made] 30)).alloc (.cells #[.int .i64 0, .int .i64 0, .slice none 0 0, .slice none 0 0, .int .i64 0, .int .i64 0] 30)).heap.size = w.heap.size + 2 := by rw [alloc_sz, alloc_sz]
  obtain ⟨v3, w3, hrun, hown3, hg3⟩ := app_at el_row (own_made (e := 61) (α := Row) ((w.alloc (.cells #[.int .i64 c.who, .int .i64 c.seen, .slice A1 c.base.length n1, .slice A2 c.wait.length n2, .int .i64 c.done, .int .i64 c.made] 30)).alloc (.cells #[.int .i64 0, .int .i64 0, .slice none 0 0, .slice none 0 0, .int .i64 0, .int .i64 0] 30)) (w.heap.size + 2) (by omega)) ((h1.ext hE0).alloc (.cells #[] 61)) (by simp; omega) (by rw [alloc_sz]; omega)
  have hs3 := hg3.size
  rw [alloc_sz, hs0] at hs3
  have hE3 := ext_grown (hE0.alloc (by omega) (.cells #[] 61)) hg3 (by rw [alloc_sz]; omega) (fun k hk => by simp only [Value.ownBlock, Option.some.injEq] at hk; omega)
  have hx3 := (hg3.block w.heap.size (by rw [alloc_sz]; omega) (fun e => by simp only [Value.ownBlock, Option.some.injEq] at e; omega)).trans ((Below.heap_alloc _ (.cells #[] 61) w.heap.size (by omega)).trans hX.1)
  have hy3 := (hg3.block (w.heap.size + 1) (by rw [alloc_sz]; omega) (fun e => by simp only [Value.ownBlock, Option.some.injEq] at e; omega)).trans ((Below.heap_alloc _ (.cells #[] 61) (w.heap.size + 1) (by omega)).trans hX.2)
  rw [List.nil_append] at hown3
  obtain ⟨A3, n3, rfl, hr3⟩ := hown3.rd
  have HO3 := Lib.hid hown3; have HE3 := Lib.hid hE3; have HX3 := Lib.hid hx3; have HY3 := Lib.hid hy3
  simp only [alloc_sz] at hrun
  obtain ⟨c0, c1, c2, c3, c4, c5, cf⟩ := six_cells hx3
  have hlt1 : w.heap.size < w3.heap.size := by omega
  have hlt2 : w.heap.size + 1 < w3.heap.size := by omega
  have hE4 : Ext w (w3.setCell ⟨w.heap.size, 2, none⟩ (.slice A3 c.base.length n3)) := HE3.out.setCell (Nat.le_refl _) _
  have hs4 : (w3.setCell ⟨w.heap.size, 2, none⟩ (.slice A3 c.base.length n3)).heap.size = w3.heap.size := setsz _ _ _
  obtain ⟨v5, w5, hrun5, hown5, hg5⟩ := app_at el_ent (own_made (e := 58) (α := Entry) (w3.setCell ⟨w.heap.size, 2, none⟩ (.slice A3 c.base.length n3)) w3.heap.size (by omega)) ((h2.ext hE4).alloc (.cells #[] 58)) (by simp; omega) (by rw [alloc_sz]; omega)
  have hs5 := hg5.size
  rw [alloc_sz, hs4] at hs5
  have hE5 := ext_grown (hE4.alloc (by omega) (.cells #[] 58)) hg5 (by rw [alloc_sz]; omega) (fun k hk => by simp only [Value.ownBlock, Option.some.injEq] at hk; omega)
  have hx5 := (hg5.block w.heap.size (by rw [alloc_sz]; omega) (fun e => by simp only [Value.ownBlock, Option.some.injEq] at e; omega)).trans ((Below.heap_alloc _ (.cells #[] 58) w.heap.size (by omega)).trans (set_at hx3))
  have hy5 := (hg5.block (w.heap.size + 1) (by rw [alloc_sz]; omega) (fun e => by simp only [Value.ownBlock, Option.some.injEq] at e; omega)).trans ((Below.heap_alloc _ (.cells #[] 58) (w.heap.size + 1) (by omega)).trans ((setx (by omega)).trans hy3))
  have ho3 := hown3.of_blocks (w' := w5) (fun k hk hkl => (hg5.block k (by rw [alloc_sz]; omega) (fun e => by simp only [Value.ownBlock, Option.some.injEq] at e; omega)).trans ((Below.heap_alloc _ (.cells #[] 58) k (by omega)).trans (setx (by omega))))
  rw [List.nil_append] at hown5
  obtain ⟨A5, n5, rfl, hr5⟩ := hown5.rd
  have HO5 := Lib.hid hown5; have HE5 := Lib.hid hE5; have HY5 := Lib.hid hy5; have HO3b := Lib.hid ho3
  rw [hs4] at hrun5
  have hx5' : w5.heap[w.heap.size]? = some (.cells #[.int .i64 c.who, .int .i64 c.seen, .slice A3 c.base.length n3, .slice A2 c.wait.length n2, .int .i64 c.done, .int .i64 c.made] 30 (0, 0)) := hx5
  obtain ⟨d0, d1, d2, d3, d4, d5, df⟩ := six_cells hx5'
  obtain ⟨e0, e1, e2, e3, e4, e5, ef⟩ := six_cells hy5
  clear h1 h2 hX hE0 hs0 hown3 hr3 hg3 hE3 hx3 hy3 hE4 hs4 hown5 hg5 hE5 hx5 hy5 ho3 hr5 hx5'
  go_enter Tryd.func59, Tryd.ntmps59
  go_wp2_with (at_builtin; first | refine wpList_append_run rfl _ _ _ rfl rfl rfl hrun ?_ | refine wpList_append_run rfl _ _ _ rfl rfl rfl hrun5 ?_)
  have hz := set_at (v := .int .i64 c.made) (i := 5) (set_at (v := .int .i64 c.done) (i := 4) (set_at (v := .slice A5 c.wait.length n5) (i := 3) (set_at (v := .slice A3 c.base.length n3) (i := 2) (set_at (v := .int .i64 c.seen) (i := 1) (set_at (v := .int .i64 c.who) (i := 0) ((setx (o := 3) (v := .slice A5 c.wait.length n5) (b := w.heap.size) (by omega)).trans HY5.out))))))
  obtain ⟨k0, k1, k2, k3, k4, k5, kf⟩ := six_cells (v0 := .int .i64 c.who) (v1 := .int .i64 c.seen) (v2 := .slice A3 c.base.length n3) (v3 := .slice A5 c.wait.length n5) (v4 := .int .i64 c.done) (v5 := .int .i64 c.made) hz
  refine bodyPost_ret (v := .agg #[.int .i64 c.who, .int .i64 c.seen, .slice A3 c.base.length n3, .slice A5 c.wait.length n5, .int .i64 c.done, .int .i64 c.made]) ?_ rfl ?_
  · simp [results, Tryd.f59, go_sem, k0, k1, k2, k3, k4, k5]
  · have hfar : ∀ k, w.heap.size + 2 ≤ k → (((((((w5.setCell ⟨w.heap.size, 3, none⟩ (.slice A5 c.wait.length n5)).setCell ⟨w.heap.size + 1, 0, none⟩ (.int .i64 c.who)).setCell ⟨w.heap.size + 1, 1, none⟩ (.int .i64 c.seen)).setCell ⟨w.heap.size + 1, 2, none⟩ (.slice A3 c.base.length n3)).setCell ⟨w.heap.size + 1, 3, none⟩ (.slice A5 c.wait.length n5)).setCell ⟨w.heap.size + 1, 4, none⟩ (.int .i64 c.done)).setCell ⟨w.heap.size + 1, 5, none⟩ (.int .i64 c.made)).heap[k]? = w5.heap[k]? := fun k hk =>
      (setx (by omega)).trans ((setx (by omega)).trans ((setx (by omega)).trans ((setx (by omega)).trans ((setx (by omega)).trans ((setx (by omega)).trans (setx (by omega)))))))
    have r1 := (HO3b.out.of_blocks (w' := _) (fun k hk hkl => hfar k (by omega))).lower (base' := w.heap.size) (by omega)
    have r2 := (HO5.out.of_blocks (w' := _) (fun k hk hkl => hfar k (by omega))).lower (base' := w.heap.size) (by omega)
    refine ⟨_, rfl, ⟨_, _, _, _, rfl, r1, r2⟩, ?_⟩
    exact (((((((HE5.out.setCell (Nat.le_refl _) _).setCell (Nat.le_succ _) _).setCell (Nat.le_succ _) _).setCell (Nat.le_succ _) _).setCell (Nat.le_succ _) _).setCell (Nat.le_succ _) _).setCell (Nat.le_succ _) _)
end Go.Proofs.YtikcnbkoeglecaaDoor
namespace Go.Proofs.YtikcnbkoeglecaaDoor
open Go.RowKit Go.Lib
set_option linter.unusedVariables false

def hearS (c : Client) (frm : Int) (l : List Entry) : Client × Bool :=
  if c.seen < frm ∨ 40 - frm < l.length then (c, false)
  else match hearL c.who (l.drop (c.seen - frm).toNat) c.wait c.base c.done c.seen with
    | none => (c, false)
    | some (q, t, d, n) => (⟨c.who, n, t, q, d, c.made⟩, true)

/-- Read, and not in block b. -/
def RdN {α : Type} [Flat α] (b : Nat) (w : World) (A : Option Addr) (c : Nat) (l : List α) : Prop := Rd w A c l ∧ (0 < l.length → ∀ bb off, A = some ⟨bb, off, none⟩ → bb ≠ b ∧ bb + 1 ≠ b)
section
variable {α : Type} [Flat α] {b : Nat} {w w' : World} {A : Option Addr} {c : Nat} {l : List α}
theorem RdN.ext (h : RdN b w A c l) (hb : Ext w w') : RdN b w' A c l := ⟨h.1.ext hb, h.2⟩
theorem RdN.set (h : RdN b w A c l) (i : Nat) (v : Value) : RdN b (w.setCell ⟨b, i, none⟩ v) A c l := by
  refine ⟨⟨h.1.1, h.1.2.1, fun h0 => ?_, h.1.2.2.2⟩, h.2⟩
  obtain ⟨bb, off, rfl, hh⟩ := h.1.2.2.1 h0
  exact ⟨bb, off, rfl, fun j v hv => (World.cell?_of_block (setx (h.2 h0 bb off rfl).1)).trans (hh j v hv)⟩
theorem RdN.set1 {b' : Nat} (h : RdN b w A c l) (hb : b' + 1 = b) (i : Nat) (v : Value) : RdN b (w.setCell ⟨b', i, none⟩ v) A c l := by
  refine ⟨⟨h.1.1, h.1.2.1, fun h0 => ?_, h.1.2.2.2⟩, h.2⟩
  obtain ⟨bb, off, rfl, hh⟩ := h.1.2.2.1 h0
  have := (h.2 h0 bb off rfl).2
  exact ⟨bb, off, rfl, fun j v hv => (World.cell?_of_block (setx (by show bb ≠ b'; omega))).trans (hh j v hv)⟩
theorem RdN.put6 {b' : Nat} (h : RdN b w A c l) (hb : b' + 1 = b) (v0 v1 v2 v3 v4 v5 : Value) : Rd (Proofs.YtikcnbkoeglecaaDoor.put6 w b' v0 v1 v2 v3 v4 v5) A c l := ((((((h.set1 hb _ _).set1 hb _ _).set1 hb _ _).set1 hb _ _).set1 hb _ _).set1 hb _ _).1
theorem Rd.old (h : Rd w A c l) (hb : w.heap.size < b) : RdN b w A c l := by
  refine ⟨h, fun h0 bb off e => ?_⟩
  obtain ⟨b', off', e', h1, _⟩ := h.at_ 0 h0
  rw [e] at e'
  injection e' with e'; injection e' with e1 _
  omega
theorem RdN.tail (h : RdN b w A c l) : RdN b w (fromA A c 1 (Flat.sz α)) (c - 1) (l.drop 1) := by
  by_cases hl : 1 ≤ l.length
  · refine ⟨h.1.from_ 1 hl, fun h0 bb off e => ?_⟩
    rw [List.length_drop] at h0
    obtain ⟨b', off', rfl, _⟩ := h.1.2.2.1 (by omega)
    have h2 := h.2 (by omega) b' off' rfl
    unfold fromA at e
    split at e
    · injection e with e; injection e with e1 _; omega
    · simp only [Option.map_some, Option.some.injEq] at e
      unfold Addr.add at e
      split at e
      · injection e with e1 _; rw [← e1]; exact h2
      · injection e with e1 _; rw [← e1]; exact h2
  · have h0 : l = [] := by cases l with
      | nil => rfl
      | cons x l => simp at hl
    subst h0
    refine ⟨⟨by simp, by have := h.1.2.1; omega, fun h0 => by simp at h0, by simp⟩, fun h0 => by simp at h0⟩
end
theorem Own.rdN {α : Type} [Flat α] {e : TypeId} {b base : Nat} {w : World} {A : Option Addr} {c n : Nat} {l : List α} (h : Own e w base (.slice A n c) l) (hb : b < base) (hn : n = l.length) : RdN b w A c l := by
  obtain ⟨A', c', e', hr⟩ := h.rd
  simp only [Value.slice.injEq] at e'
  obtain ⟨rfl, -, rfl⟩ := e'
  refine ⟨hr, fun h0 bb off e => ?_⟩
  subst e
  have := h.blk bb rfl
  omega
/-- What somebody has heard so far, in block b. -/
def Sh (b : Nat) (W0 W : World) (c : Client) (B : Option Addr) (cb : Nat) (t : List Row) (Q : Option Addr) (cq : Nat) (q : List Entry) (d n : Int) : Prop :=
  W.heap[b]? = some (.cells #[.int .i64 c.who, .int .i64 n, .slice B t.length cb, .slice Q q.length cq, .int .i64 d, .int .i64 c.made] 30 (0, 0)) ∧ RdN b W B cb t ∧ RdN b W Q cq q ∧ Below b W0 W

set_option maxRecDepth 100000 in
set_option maxHeartbeats 1000000 in
theorem hear_s (c : Client) (v : Value) (frm : Int) (A : Option Addr) (cap : Nat) (l : List Entry) (w : World) (h : CV w c v) (hr : Rd w A cap l) (hok : clientOk c = true) (hf0 : 0 ≤ frm) (hf1 : frm ≤ 40) (hall : ∀ x ∈ l, entryOk x = true) (hll : l.length ≤ 2000000) :
    Calls Tryd.prog 58 #[v, .int .i64 frm, .slice A l.length cap] w fun r w' => ∃ v', r = .returned (.tuple #[v', .bool (hearS c frm l).2]) ∧ CV w' (hearS c frm l).1 v' ∧ Ext w w' := by
  have HALL := Lib.hid hall
  obtain ⟨hw9, hs0, hs40, htr, hd0, hd1, hwl, hm0, hm1, hwt⟩ := clientOk_parts hok
  have HTR := Lib.hid htr
  obtain ⟨A1, n1, A2, n2, rfl, h1, h2⟩ := h
  have hX := two_new w (.cells #[.int .i64 c.who, .int .i64 c.seen, .slice A1 c.base.length n1, .slice A2 c.wait.length n2, .int .i64 c.done, .int .i64 c.made] 30) (.cells #[.int .i64 0, .int .i64 0, .slice none 0 0, .slice none 0 0, .int .i64 0, .int .i64 0] 30)
  have hE0 : Ext w ((w.alloc (.cells #[.int .i64 c.who, .int .i64 c.seen, .slice A1 c.base.length n1, .slice A2 c.wait.length n2, .int .i64 c.done, .int .i64 c.made] 30)).alloc (.cells #[.int .i64 0, .int .i64 0, .slice none 0 0, .slice none 0 0, .int .i64 0, .int .i64 0] 30)) := ((Below.refl _ w).alloc (Nat.le_refl _) _).alloc (by rw [alloc_sz]; omega) _
  have hz0 : ((w.alloc (.cells #[.int .i64 c.who, .int .i64 c.seen, .slice A1 c.base.length n1, .slice A2 c.wait.length n2, .int .i64 c.done, .int .i64 c.made] 30)).alloc (.cells #[.int .i64 0, .int .i64 0, .slice none 0 0, .slice none 0 0, .int .i64 0, .int .i64 0] 30)).heap.size = w.heap.size + 2 := by rw [alloc_sz, alloc_sz]
  have HR := Lib.hid hr; have H1 := Lib.hid h1; have H2 := Lib.hid h2
  clear hw9 htr hm0 hm1 hwt hok hall
  by_cases hfar : c.seen < frm ∨ 40 - frm < l.length
  · have HRES : Hid (hearS c frm l = (c, false)) := by show _ = _; unfold hearS; rw [if_pos hfar]
    have hz := (two_new w (.cells #[.int .i64 c.who, .int .i64 c.seen, .slice A1 c.base.length n1, .slice A2 c.wait.length n2, .int .i64 c.done, .int .i64 c.made] 30) (.cells #[.int .i64 c.who, .int .i64 c.seen, .slice A1 c.base.length n1, .slice A2 c.wait.length n2, .int .i64 c.done, .int .i64 c.made] 30)).2
    have hE : Ext w ((w.alloc (.cells #[.int .i64 c.who, .int .i64 c.seen, .slice A1 c.base.length n1, .slice A2 c.wait.length n2, .int .i64 c.done, .int .i64 c.made] 30)).alloc (.cells #[.int .i64 c.who, .int .i64 c.seen, .slice A1 c.base.length n1, .slice A2 c.wait.length n2, .int .i64 c.done, .int .i64 c.made] 30)) := ((Below.refl _ w).alloc (Nat.le_refl _) _).alloc (by rw [alloc_sz]; omega) _
    have hcv : CV ((w.alloc (.cells #[.int .i64 c.who, .int .i64 c.seen, .slice A1 c.base.length n1, .slice A2 c.wait.length n2, .int .i64 c.done, .int .i64 c.made] 30)).alloc (.cells #[.int .i64 c.who, .int .i64 c.seen, .slice A1 c.base.length n1, .slice A2 c.wait.length n2, .int .i64 c.done, .int .i64 c.made] 30)) c (.agg #[.int .i64 c.who, .int .i64 c.seen, .slice A1 c.base.length n1, .slice A2 c.wait.length n2, .int .i64 c.done, .int .i64 c.made]) := ⟨A1, n1, A2, n2, rfl, h1.ext hE, h2.ext hE⟩
    have HZ := Lib.hid hz; have HE := Lib.hid hE; have HCV := Lib.hid hcv
    clear hX hE0 hz hE h1 h2 hr hcv
    by_cases hs : c.seen < frm
    · clear hfar
      go_enter Tryd.func58, Tryd.ntmps58
      go_wp2_with fail
      obtain ⟨k0, k1, k2, k3, k4, k5, kf⟩ := six_cells HZ.out
      refine bodyPost_ret (v := .tuple #[(.agg #[.int .i64 c.who, .int .i64 c.seen, .slice A1 c.base.length n1, .slice A2 c.wait.length n2, .int .i64 c.done, .int .i64 c.made]), .bool false]) ?_ rfl ?_
      · simp [results, Tryd.f58, go_sem, k0, k1, k2, k3, k4, k5]
      · exact ⟨_, by rw [HRES.out], by rw [HRES.out]; exact HCV.out, HE.out⟩
    · have hlong : (40 : Int) < frm + l.length := by omega
      clear hfar
      go_enter Tryd.func58, Tryd.ntmps58
      go_wp2_with fail
      obtain ⟨k0, k1, k2, k3, k4, k5, kf⟩ := six_cells HZ.out
      refine bodyPost_ret (v := .tuple #[(.agg #[.int .i64 c.who, .int .i64 c.seen, .slice A1 c.base.length n1, .slice A2 c.wait.length n2, .int .i64 c.done, .int .i64 c.made]), .bool false]) ?_ rfl ?_
      · simp [results, Tryd.f58, go_sem, k0, k1, k2, k3, k4, k5]
      · exact ⟨_, by rw [HRES.out], by rw [HRES.out]; exact HCV.out, HE.out⟩
  · have hn1 : ¬ c.seen < frm := fun e => hfar (.inl e)
    have hn2 : ¬ (40 : Int) < frm + l.length := fun e => hfar (.inr (by omega))
    obtain ⟨k0, hk0⟩ : ∃ k0 : Nat, k0 = (c.seen - frm).toNat := ⟨_, rfl⟩
    have hk1 : frm + (k0 : Int) = c.seen := by omega
    have hmax : max (c.seen - frm) 0 = (k0 : Int) := by omega
    have hres : hearS c frm l = (match hearL c.who (l.drop k0) c.wait c.base c.done c.seen with | none => (c, false) | some (q, t, d, n) => (⟨c.who, n, t, q, d, c.made⟩, true)) := by
      unfold hearS; rw [if_neg hfar, hk0]
    have HRES := Lib.hid hres
    obtain ⟨c0, c1, c2, c3, c4, c5, cf⟩ := six_cells hX.1
    have h3 := three_all w (.cells #[.int .i64 c.who, .int .i64 c.seen, .slice A1 c.base.length n1, .slice A2 c.wait.length n2, .int .i64 c.done, .int .i64 c.made] 30) (.cells #[.int .i64 0, .int .i64 0, .slice none 0 0, .slice none 0 0, .int .i64 0, .int .i64 0] 30) (.cells #[.int .i64 c.who, .int .i64 c.seen, .slice A1 c.base.length n1, .slice A2 c.wait.length n2, .int .i64 c.done, .int .i64 c.made] 30)
    have hE3 : Ext w (((w.alloc (.cells #[.int .i64 c.who, .int .i64 c.seen, .slice A1 c.base.length n1, .slice A2 c.wait.length n2, .int .i64 c.done, .int .i64 c.made] 30)).alloc (.cells #[.int .i64 0, .int .i64 0, .slice none 0 0, .slice none 0 0, .int .i64 0, .int .i64 0] 30)).alloc (.cells #[.int .i64 c.who, .int .i64 c.seen, .slice A1 c.base.length n1, .slice A2 c.wait.length n2, .int .i64 c.done, .int .i64 c.made] 30)) := hE0.alloc (by omega) _
    have hz3 : (((w.alloc (.cells #[.int .i64 c.who, .int .i64 c.seen, .slice A1 c.base.length n1, .slice A2 c.wait.length n2, .int .i64 c.done, .int .i64 c.made] 30)).alloc (.cells #[.int .i64 0, .int .i64 0, .slice none 0 0, .slice none 0 0, .int .i64 0, .int .i64 0] 30)).alloc (.cells #[.int .i64 c.who, .int .i64 c.seen, .slice A1 c.base.length n1, .slice A2 c.wait.length n2, .int .i64 c.done, .int .i64 c.made] 30)).heap.size = w.heap.size + 3 := by rw [alloc_sz, hz0]
    have hst : Sh (w.heap.size + 1 + 1) (((w.alloc (.cells #[.int .i64 c.who, .int .i64 c.seen, .slice A1 c.base.length n1, .slice A2 c.wait.length n2, .int .i64 c.done, .int .i64 c.made] 30)).alloc (.cells #[.int .i64 0, .int .i64 0, .slice none 0 0, .slice none 0 0, .int .i64 0, .int .i64 0] 30)).alloc (.cells #[.int .i64 c.who, .int .i64 c.seen, .slice A1 c.base.length n1, .slice A2 c.wait.length n2, .int .i64 c.done, .int .i64 c.made] 30)) (((w.alloc (.cells #[.int .i64 c.who, .int .i64 c.seen, .slice A1 c.base.length n1, .slice A2 c.wait.length n2, .int .i64 c.done, .int .i64 c.made] 30)).alloc (.cells #[.int .i64 0, .int .i64 0, .slice none 0 0, .slice none 0 0, .int .i64 0, .int .i64 0] 30)).alloc (.cells #[.int .i64 c.who, .int .i64 c.seen, .slice A1 c.base.length n1, .slice A2 c.wait.length n2, .int .i64 c.done, .int .i64 c.made] 30)) c A1 n1 c.base A2 n2 c.wait c.done c.seen := ⟨h3.2.2, (h1.old (by omega)).ext hE3, (h2.old (by omega)).ext hE3, Below.refl _ _⟩
    have HST := Lib.hid hst; have HE3 := Lib.hid hE3; have H31 := Lib.hid h3.1; have H32 := Lib.hid h3.2.1
    clear hX hE0 h1 h2 hr hres hfar hk0 h3 hE3 hst hz0
    go_enter Tryd.func58, Tryd.ntmps58
    go_wp2_with fail
    clear c0 c1 c2 c3 c4 c5 cf
    generalize (((w.alloc (.cells #[.int .i64 c.who, .int .i64 c.seen, .slice A1 c.base.length n1, .slice A2 c.wait.length n2, .int .i64 c.done, .int .i64 c.made] 30)).alloc (.cells #[.int .i64 0, .int .i64 0, .slice none 0 0, .slice none 0 0, .int .i64 0, .int .i64 0] 30)).alloc (.cells #[.int .i64 c.who, .int .i64 c.seen, .slice A1 c.base.length n1, .slice A2 c.wait.length n2, .int .i64 c.done, .int .i64 c.made] 30)) = W3 at *
    have hne9 : ∀ W6 : World, Below (w.heap.size + 1 + 1) W3 W6 → (put6 W6 (w.heap.size + 1) (.int .i64 c.who) (.int .i64 c.seen) (.slice A1 c.base.length n1) (.slice A2 c.wait.length n2) (.int .i64 c.done) (.int .i64 c.made)).heap[w.heap.size + 1]? = some (.cells #[.int .i64 c.who, .int .i64 c.seen, .slice A1 c.base.length n1, .slice A2 c.wait.length n2, .int .i64 c.done, .int .i64 c.made] 30 (0, 0)) ∧
        CV (put6 W6 (w.heap.size + 1) (.int .i64 c.who) (.int .i64 c.seen) (.slice A1 c.base.length n1) (.slice A2 c.wait.length n2) (.int .i64 c.done) (.int .i64 c.made)) c (.agg #[.int .i64 c.who, .int .i64 c.seen, .slice A1 c.base.length n1, .slice A2 c.wait.length n2, .int .i64 c.done, .int .i64 c.made]) ∧ Ext w (put6 W6 (w.heap.size + 1) (.int .i64 c.who) (.int .i64 c.seen) (.slice A1 c.base.length n1) (.slice A2 c.wait.length n2) (.int .i64 c.done) (.int .i64 c.made)) := fun W6 h6 => by
      have hE : Ext w (put6 W6 (w.heap.size + 1) (.int .i64 c.who) (.int .i64 c.seen) (.slice A1 c.base.length n1) (.slice A2 c.wait.length n2) (.int .i64 c.done) (.int .i64 c.made)) := put6_below _ _ _ _ _ _ (HE3.out.trans (h6.mono (by omega))) (Nat.le_succ _)
      exact ⟨put6_at _ _ _ _ _ _ ((h6.block (w.heap.size + 1) (by omega)).trans H32.out), ⟨A1, n1, A2, n2, rfl, H1.out.ext hE, H2.out.ext hE⟩, hE⟩
    have HNE := Lib.hid hne9
    clear hne9
    go_loopg [9] (l.length - k0) (fun gk i wr => ∃ (k : Nat) (B : Option Addr) (cb : Nat) (t : List Row) (Q : Option Addr) (cq : Nat) (q : List Entry) (d : Int), k0 ≤ k ∧ (k ≤ l.length ∨ k = k0) ∧ Hid (gk = l.length - k) ∧ i = .int .i64 k ∧ Hid (Sh (w.heap.size + 1 + 1) W3 wr c B cb t Q cq q d (frm + k)) ∧ Hid (treeOk t = true) ∧ Hid (hearL c.who (l.drop k) q t d (frm + k) = hearL c.who (l.drop k0) c.wait c.base c.done c.seen) ∧ 0 ≤ d ∧ d ≤ c.done + k)
    case atStart => exact ⟨k0, A1, n1, c.base, A2, n2, c.wait, c.done, Nat.le_refl _, .inr rfl, rfl, rfl, by show Sh _ _ _ _ _ _ _ _ _ _ _ _; rw [hk1]; exact HST.out, HTR.out, by show _ = _; rw [hk1], hd0, by omega⟩
    case round =>
      obtain ⟨k, B, cb, t, Q, cq, q, d, hk, hkl, HK, rfl, HS, HT, HH, hd2, hd3⟩ := hrel
      have hbW := HS.out.2.2.2
      have hEr : Ext w wr := HE3.out.trans (hbW.mono (by omega))
      have hbx := (hbW.block w.heap.size (by omega)).trans H31.out
      have hby := (hbW.block (w.heap.size + 1) (by omega)).trans H32.out
      have hlt2 := blk_lt HS.out.1
      have hltb := blk_lt hbx
      have HER := Lib.hid hEr; have HBX := Lib.hid hbx; have HBY := Lib.hid hby; have HBW := Lib.hid hbW
      clear hbW hEr
      by_cases hlt : k < l.length
      · obtain ⟨b, off, rfl, hbl, e0, e1, e2, e3, e4, e5, e6⟩ := ent_at (HR.out.ext HER.out) k hlt
        obtain ⟨c0, c1, c2, c3, c4, c5, cf⟩ := six_cells hbx
        obtain ⟨x0, x1, x2, x3, x4, x5, xf⟩ := six_cells HS.out.1
        have hHH := HH.out
        rw [List.drop_eq_getElem_cons hlt] at hHH
        have HHH := Lib.hid hHH
        have hli : (k : Int) < l.length := by omega
        have hek := HALL.out _ (List.getElem_mem hlt)
        have HEK := Lib.hid hek
        have hoe := HR.out.okAt k hlt
        have HOE := Lib.hid hoe
        have hfl : (frm + (k : Int)) < 40 := by omega
        have hcx : (frm + (k : Int)) + 1 = frm + ((k + 1 : Nat) : Int) := by omega
        have HCX := Lib.hid hcx
        clear hbx hby hHH hek hoe hcx
        by_cases hwho : l[k].who = c.who
        · have hwho' : (l[k].who == c.who) = true := by simp [hwho]
          have HWHO := Lib.hid hwho
          clear hwho
          cases q with
          | nil =>
            have hnone : hearL c.who (l.drop k0) c.wait c.base c.done c.seen = none := by rw [← HHH.out]; simp [hearL, HWHO.out]
            have HNONE := Lib.hid hnone
            simp only [List.length_nil] at x3
            clear hnone
            go_wp2_with fail
            go_region
            go_wp2_with fail
            go_region
            obtain ⟨d0, d1, d2, d3, d4, d5, df⟩ := six_cells HBY.out
            go_wp2_with fail
            obtain ⟨hz, hco, hE⟩ := HNE.out wr HBW.out
            obtain ⟨k0', k1, k2, k3, k4, k5, kf⟩ := six_cells hz
            refine bodyPost_ret (v := .tuple #[(.agg #[.int .i64 c.who, .int .i64 c.seen, .slice A1 c.base.length n1, .slice A2 c.wait.length n2, .int .i64 c.done, .int .i64 c.made]), .bool false]) ?_ rfl ?_
            · simp [results, Tryd.f58, go_sem, k0', k1, k2, k3, k4, k5]
            · have hr9 : hearS c frm l = (c, false) := by rw [HRES.out, HNONE.out]
              exact ⟨_, by rw [hr9], by rw [hr9]; exact hco.ext ((Below.refl _ _).drew.drew), Below.drew (Below.drew hE)⟩
          | cons y q =>
            obtain ⟨b2, off2, rfl, hbl2, q0, q1, q2, q3, q4, q5, q6⟩ := ent_at HS.out.2.2.1.1 0 (by simp)
            simp only [Nat.zero_mul, Nat.add_zero, List.getElem_cons_zero] at q0 q1 q2 q3 q4 q5 q6
            simp only [List.length_cons] at x3
            have hqc := HS.out.2.2.1.1.1
            have hqm := HS.out.2.2.1.1.2.1
            unfold maxLen at hqm
            simp only [List.length_cons] at hqc
            have hsz0 : (((q.length : Int) + 1) == 0) = false := by rw [beq_eq_false_iff_ne]; omega
            have hne := neq_ent y l[k]
            by_cases hy : y = l[k]
            · rw [decide_eq_true hy] at hne
              have hnext : hearL c.who (l.drop (k + 1)) q (opDo t l[k].op) (d + 1) (frm + ((k + 1 : Nat) : Int)) = hearL c.who (l.drop k0) c.wait c.base c.done c.seen := by rw [← HHH.out, ← HCX.out]; simp [hearL, HWHO.out, hy]
              have HNX := Lib.hid hnext
              have hsl : ∀ W : World, (Instr.slice 23 (.slice (some ⟨b2, off2, none⟩) (q.length + 1) cq) (some (.int .i64 1)) none none).run Tryd.prog W = .ok (.slice (fromA (some ⟨b2, off2, none⟩) cq 1 7) q.length (cq - 1)) W := fun W => run_from (some ⟨b2, off2, none⟩) (q.length + 1) cq 1 (by omega) W
              have hRQ := HS.out.2.2.1.tail
              clear hnext hy
              have hRQ2 : RdN (w.heap.size + 1 + 1) wr (fromA (some ⟨b2, off2, none⟩) cq 1 7) (cq - 1) q := hRQ
              clear hRQ
              generalize fromA (some ⟨b2, off2, none⟩) cq 1 7 = Q2 at hsl hRQ2
              have hRQ := hRQ2
              clear hRQ2
              go_wp2_with fail
              go_region
              go_wp2_with fail
              go_region
              go_upto_region 12 with fail
              have hS2 : Sh (w.heap.size + 1 + 1) W3 ((wr.setCell ⟨w.heap.size + 1 + 1, 3, none⟩ (.slice Q2 q.length (cq - 1))).setCell ⟨w.heap.size + 1 + 1, 4, none⟩ (.int .i64 (d + 1))).drew.drew c B cb t Q2 (cq - 1) q (d + 1) (frm + k) := ⟨set_at (set_at HS.out.1), ((HS.out.2.1.set _ _).set _ _).ext ((Below.refl _ _).drew.drew), ((hRQ.set _ _).set _ _).ext ((Below.refl _ _).drew.drew), ((HBW.out.setCell (Nat.le_refl _) _).setCell (Nat.le_refl _) _).drew.drew⟩
              have hE2 : Ext w ((wr.setCell ⟨w.heap.size + 1 + 1, 3, none⟩ (.slice Q2 q.length (cq - 1))).setCell ⟨w.heap.size + 1 + 1, 4, none⟩ (.int .i64 (d + 1))).drew.drew := HE3.out.trans (hS2.2.2.2.mono (by omega))
              have hT := HT.out
              have hop := entryOk_op HEK.out
              have hod : opDo t l[k].op = doL t l[k].op := by unfold opDo; rw [hT, hop]; rfl
              have htn : treeOk (opDo t l[k].op) = true := by rw [hod]; exact treeOk_do t _ hT hop
              clear e0 e1 e2 e3 e4 e5 e6 x0 x1 x2 x3 x4 x5 xf c0 c1 c2 c3 c4 c5 cf hsl hne q0 q1 q2 q3 q4 q5 q6
              generalize ((wr.setCell ⟨w.heap.size + 1 + 1, 3, none⟩ (.slice Q2 q.length (cq - 1))).setCell ⟨w.heap.size + 1 + 1, 4, none⟩ (.int .i64 (d + 1))).drew.drew = wt at *
              have hC := do_s B cb t l[k].op wt.drew (hS2.2.1.1.ext ((Below.refl _ _).drew)) hT hop HOE.out
              rw [← hod] at hC
              obtain ⟨b9, off9, e9, hbl9, e0, e1, e2, e3, e4, e5, e6⟩ := ent_at (HR.out.ext hE2) k hlt
              injection e9 with e9; injection e9 with e91 e92; subst e91; subst e92
              obtain ⟨x0, x1, x2, x3, x4, x5, xf⟩ := six_cells hS2.1
              have hltx := blk_lt hS2.1
              have hfin : ∀ (w5 : World) (B2 : Option Addr) (cb2 : Nat), Own 61 w5 wt.drew.heap.size (.slice B2 (opDo t l[k].op).length cb2) (opDo t l[k].op) → Ext wt.drew w5 → Sh (w.heap.size + 1 + 1) W3 (w5.setCell ⟨w.heap.size + 1 + 1, 2, none⟩ (.slice B2 (opDo t l[k].op).length cb2)) c B2 cb2 (opDo t l[k].op) Q2 (cq - 1) q (d + 1) (frm + k) := fun w5 B2 cb2 ho5 hb5 => by
                have hx : Ext wt w5 := ((Below.refl _ _).drew).trans hb5
                exact ⟨set_at ((hx.block _ hltx).trans hS2.1), (ho5.rdN hltx rfl).set _ _, (hS2.2.2.1.ext hx).set _ _, (hS2.2.2.2.trans (hx.mono (Nat.le_of_lt hltx))).setCell (Nat.le_refl _) _⟩
              have HFIN := Lib.hid hfin; have HC := Lib.hid hC; have HS2 := Lib.hid hS2; have HTN := Lib.hid htn; have HX2 := Lib.hid hS2.1
              clear hfin hC hS2 hE2 hT hop hod htn
              go_cut [73] (fun s wx => ∃ (B2 : Option Addr) (cb2 : Nat), s = .slice B2 (opDo t l[k].op).length cb2 ∧ Hid (Sh (w.heap.size + 1 + 1) W3 wx c B2 cb2 (opDo t l[k].op) Q2 (cq - 1) q (d + 1) (frm + k)))
              case first =>
                go_region_with (go_at_call 65; refine HC.out.mono ?_; rintro e w5 ⟨v5, rfl, ho5, hb5⟩; obtain ⟨B2, cb2, rfl, -⟩ := ho5.rd; have hx5 := (hb5.block _ hltx).trans HX2.out; obtain ⟨z0, z1, z2, z3, z4, z5, zf⟩ := six_cells hx5; have HO5 := Lib.hid ho5; have HB5 := Lib.hid hb5; clear ho5 hb5 hx5 z0 z1 z3 z4 z5)
                all_goals
                  go_wp2_with fail
                  go_meet
                  exact ⟨_, _, rfl, HFIN.out _ _ _ HO5.out HB5.out⟩
              case rest =>
                obtain ⟨B2, cb2, rfl, HS9⟩ := hcut
                clear e0 e1 e2 e3 e4 e5 e6 x0 x1 x2 x3 x4 x5 xf
                obtain ⟨x0, x1, x2, x3, x4, x5, xf⟩ := six_cells HS9.out.1
                go_wp2_with fail
                go_roundg (l.length - (k + 1))
                case measure => have := HK.out; omega
                case rel =>
                  refine ⟨k + 1, B2, cb2, opDo t l[k].op, Q2, (cq - 1), q, (d + 1), by omega, .inl (by omega), rfl, by go_num, ?_, HTN.out, HNX.out, by omega, by omega⟩
                  show Sh _ _ _ _ _ _ _ _ _ _ _ _
                  rw [← HCX.out]
                  exact ⟨set_at HS9.out.1, HS9.out.2.1.set _ _, HS9.out.2.2.1.set _ _, HS9.out.2.2.2.setCell (Nat.le_refl _) _⟩
            · rw [decide_eq_false hy] at hne
              have hnone : hearL c.who (l.drop k0) c.wait c.base c.done c.seen = none := by rw [← HHH.out]; simp [hearL, HWHO.out, hy]
              have HNONE := Lib.hid hnone
              clear hnone hy
              go_wp2_with fail
              go_region
              go_wp2_with fail
              go_region
              obtain ⟨d0, d1, d2, d3, d4, d5, df⟩ := six_cells HBY.out
              go_wp2_with fail
              obtain ⟨hz, hco, hE⟩ := HNE.out wr HBW.out
              obtain ⟨k0', k1, k2, k3, k4, k5, kf⟩ := six_cells hz
              refine bodyPost_ret (v := .tuple #[(.agg #[.int .i64 c.who, .int .i64 c.seen, .slice A1 c.base.length n1, .slice A2 c.wait.length n2, .int .i64 c.done, .int .i64 c.made]), .bool false]) ?_ rfl ?_
              · simp [results, Tryd.f58, go_sem, k0', k1, k2, k3, k4, k5]
              · have hr9 : hearS c frm l = (c, false) := by rw [HRES.out, HNONE.out]
                exact ⟨_, by rw [hr9], by rw [hr9]; exact hco.ext ((Below.refl _ _).drew.drew), Below.drew (Below.drew hE)⟩
        · have hwho' : (l[k].who == c.who) = false := by simp [hwho]
          have HWHO := Lib.hid hwho
          have hnext : hearL c.who (l.drop (k + 1)) q (opDo t l[k].op) d (frm + ((k + 1 : Nat) : Int)) = hearL c.who (l.drop k0) c.wait c.base c.done c.seen := by rw [← HHH.out, ← HCX.out]; simp [hearL, hwho]
          have HNX := Lib.hid hnext
          clear hwho hnext
          go_wp2_with fail
          go_region
          go_upto_region 12 with fail
          have hS2 : Sh (w.heap.size + 1 + 1) W3 wr.drew c B cb t Q cq q d (frm + k) := ⟨HS.out.1, HS.out.2.1.ext ((Below.refl _ _).drew), HS.out.2.2.1.ext ((Below.refl _ _).drew), HBW.out.drew⟩
          have hE2 : Ext w wr.drew := HE3.out.trans (hS2.2.2.2.mono (by omega))
          have hT := HT.out
          have hop := entryOk_op HEK.out
          have hod : opDo t l[k].op = doL t l[k].op := by unfold opDo; rw [hT, hop]; rfl
          have htn : treeOk (opDo t l[k].op) = true := by rw [hod]; exact treeOk_do t _ hT hop
          clear e0 e1 e2 e3 e4 e5 e6 x0 x1 x2 x3 x4 x5 xf c0 c1 c2 c3 c4 c5 cf
          generalize wr.drew = wt at *
          have hC := do_s B cb t l[k].op wt.drew (hS2.2.1.1.ext ((Below.refl _ _).drew)) hT hop HOE.out
          rw [← hod] at hC
          obtain ⟨b9, off9, e9, hbl9, e0, e1, e2, e3, e4, e5, e6⟩ := ent_at (HR.out.ext hE2) k hlt
          injection e9 with e9; injection e9 with e91 e92; subst e91; subst e92
          obtain ⟨x0, x1, x2, x3, x4, x5, xf⟩ := six_cells hS2.1
          have hltx := blk_lt hS2.1
          have hfin : ∀ (w5 : World) (B2 : Option Addr) (cb2 : Nat), Own 61 w5 wt.drew.heap.size (.slice B2 (opDo t l[k].op).length cb2) (opDo t l[k].op) → Ext wt.drew w5 → Sh (w.heap.size + 1 + 1) W3 (w5.setCell ⟨w.heap.size + 1 + 1, 2, none⟩ (.slice B2 (opDo t l[k].op).length cb2)) c B2 cb2 (opDo t l[k].op) Q cq q d (frm + k) := fun w5 B2 cb2 ho5 hb5 => by
            have hx : Ext wt w5 := ((Below.refl _ _).drew).trans hb5
            exact ⟨set_at ((hx.block _ hltx).trans hS2.1), (ho5.rdN hltx rfl).set _ _, (hS2.2.2.1.ext hx).set _ _, (hS2.2.2.2.trans (hx.mono (Nat.le_of_lt hltx))).setCell (Nat.le_refl _) _⟩
          have HFIN := Lib.hid hfin; have HC := Lib.hid hC; have HS2 := Lib.hid hS2; have HTN := Lib.hid htn; have HX2 := Lib.hid hS2.1
          clear hfin hC hS2 hE2 hT hop hod htn
          go_cut [73] (fun s wx => ∃ (B2 : Option Addr) (cb2 : Nat), s = .slice B2 (opDo t l[k].op).length cb2 ∧ Hid (Sh (w.heap.size + 1 + 1) W3 wx c B2 cb2 (opDo t l[k].op) Q cq q d (frm + k)))
          case first =>
            go_region_with (go_at_call 65; refine HC.out.mono ?_; rintro e w5 ⟨v5, rfl, ho5, hb5⟩; obtain ⟨B2, cb2, rfl, -⟩ := ho5.rd; have hx5 := (hb5.block _ hltx).trans HX2.out; obtain ⟨z0, z1, z2, z3, z4, z5, zf⟩ := six_cells hx5; have HO5 := Lib.hid ho5; have HB5 := Lib.hid hb5; clear ho5 hb5 hx5 z0 z1 z3 z4 z5)
            all_goals
              go_wp2_with fail
              go_meet
              exact ⟨_, _, rfl, HFIN.out _ _ _ HO5.out HB5.out⟩
          case rest =>
            obtain ⟨B2, cb2, rfl, HS9⟩ := hcut
            clear e0 e1 e2 e3 e4 e5 e6 x0 x1 x2 x3 x4 x5 xf
            obtain ⟨x0, x1, x2, x3, x4, x5, xf⟩ := six_cells HS9.out.1
            go_wp2_with fail
            go_roundg (l.length - (k + 1))
            case measure => have := HK.out; omega
            case rel =>
              refine ⟨k + 1, B2, cb2, opDo t l[k].op, Q, cq, q, d, by omega, .inl (by omega), rfl, by go_num, ?_, HTN.out, HNX.out, by omega, by omega⟩
              show Sh _ _ _ _ _ _ _ _ _ _ _ _
              rw [← HCX.out]
              exact ⟨set_at HS9.out.1, HS9.out.2.1.set _ _, HS9.out.2.2.1.set _ _, HS9.out.2.2.2.setCell (Nat.le_refl _) _⟩
      · have hres : hearS c frm l = (⟨c.who, frm + k, t, q, d, c.made⟩, true) := by
          rw [HRES.out, ← HH.out, List.drop_of_length_le (by omega)]; rfl
        obtain ⟨x0, x1, x2, x3, x4, x5, xf⟩ := six_cells HS.out.1
        obtain ⟨d0, d1, d2, d3, d4, d5, df⟩ := six_cells hby
        have hz := put6_at (.int .i64 c.who) (.int .i64 (frm + k)) (.slice B t.length cb) (.slice Q q.length cq) (.int .i64 d) (.int .i64 c.made) hby
        have hE : Ext w (put6 wr (w.heap.size + 1) (.int .i64 c.who) (.int .i64 (frm + k)) (.slice B t.length cb) (.slice Q q.length cq) (.int .i64 d) (.int .i64 c.made)) := put6_below _ _ _ _ _ _ HER.out (Nat.le_succ _)
        have hcv : CV (put6 wr (w.heap.size + 1) (.int .i64 c.who) (.int .i64 (frm + k)) (.slice B t.length cb) (.slice Q q.length cq) (.int .i64 d) (.int .i64 c.made)) ⟨c.who, frm + k, t, q, d, c.made⟩ (.agg #[.int .i64 c.who, .int .i64 (frm + k), .slice B t.length cb, .slice Q q.length cq, .int .i64 d, .int .i64 c.made]) := ⟨B, cb, Q, cq, rfl, HS.out.2.1.put6 rfl _ _ _ _ _ _, HS.out.2.2.1.put6 rfl _ _ _ _ _ _⟩
        have HCV := Lib.hid hcv
        have HZ := Lib.hid hz; have HE := Lib.hid hE; have HRS := Lib.hid hres
        have hli : ¬ ((k : Int) < l.length) := by omega
        clear hbx hby hz hE hres hcv
        go_wp2_with fail
        obtain ⟨k0', k1, k2, k3, k4, k5, kf⟩ := six_cells HZ.out
        refine bodyPost_ret (v := .tuple #[.agg #[.int .i64 c.who, .int .i64 (frm + k), .slice B t.length cb, .slice Q q.length cq, .int .i64 d, .int .i64 c.made], .bool true]) ?_ rfl ?_
        · simp [results, Tryd.f58, go_sem, k0', k1, k2, k3, k4, k5]
        · exact ⟨_, by rw [HRS.out], by rw [HRS.out]; exact HCV.out, HE.out⟩
end Go.Proofs.YtikcnbkoeglecaaDoor
