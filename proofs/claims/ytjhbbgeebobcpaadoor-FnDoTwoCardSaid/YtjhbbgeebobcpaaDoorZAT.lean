/- Walk of the reference: somebody changes its outline. -/
import Derived.Test.YtjhbbgeebobcpaaDoorZAN
import Derived.Test.YtjhbbgeebobcpaaDoorZAI
import Derived.Deep.RegionLaw
import Derived.Deep.RegionHeld3
import Derived.BigRegion
import Derived.Deep.DeepCutAuto
import Derived.Deep.CutBlock
namespace Go.Proofs.YtjhbbgeebobcpaaDoor
open Go.RowKit Go.Lib
set_option linter.unusedVariables false
def DoR (w : World) (c : Client) (o : Op) (A1 : Option Addr) (n1 : Nat) (made : Int) (wx : World) : Prop :=
 ∃ B nn, wx.heap[w.heap.size]? = some (.cells #[.int .i64 c.who, .int .i64 c.seen, .slice A1 c.base.length n1, .slice B (c.wait.length + 1) nn, .int .i64 c.done, .int .i64 made] 30 (0, 0)) ∧ RdT 44 wx B nn (c.wait ++ [newEnt c o]) ∧ RdT 47 wx A1 n1 c.base ∧ wx.heap[w.heap.size + 1 + 1]? = some (.cells #[.int .i64 0, .int .i64 0, .slice none 0 0, .slice none 0 0, .int .i64 0, .int .i64 0] 30 (0, 0)) ∧ Ext w wx
set_option maxRecDepth 100000 in
set_option maxHeartbeats 4000000 in
theorem do21_s (c : Client) (v : Value) (o : Op) (w : World) (h : CT w c v) (hok : clientOk c = true) (ho : OpW o) (hs : o.text.size ≤ maxLen) :
  Calls Tryd.prog 70 #[v, .agg (cO o)] w fun r w' => ∃ v', r = .returned (.tuple #[v', .bool (doS c o).2]) ∧ CT w' (doS c o).1 v' ∧ Ext w w' := by
 obtain ⟨hw9, hs0, hs40, htr, hd0, hd1, hwl, hm0, hm1, hwt⟩ := clientOk_parts hok
 obtain ⟨A1, n1, A2, n2, rfl, h1, h2⟩ := h
 have h3 := three_all w (oC c A1 n1 A2 n2) (oO o) oC0
 have hE3 : Ext w (((w.alloc (oC c A1 n1 A2 n2)).alloc (oO o)).alloc oC0) := ext3 _ _ _ _
 have hz3 : (((w.alloc (oC c A1 n1 A2 n2)).alloc (oO o)).alloc oC0).heap.size = w.heap.size + 1 + 1 + 1 := by simp only [alloc_sz]
 have hE4 : Ext w ((((w.alloc (oC c A1 n1 A2 n2)).alloc (oO o)).alloc oC0).alloc (.cells #[.int .i64 c.who, .int .i64 (c.done + (c.wait.length : Int) + 1), .int .i64 o.kind, .int .i64 o.id, .int .i64 o.up, .int .i64 o.pos, .string o.text] 44)) := hE3.alloc (by omega) _
 have hz4 : ((((w.alloc (oC c A1 n1 A2 n2)).alloc (oO o)).alloc oC0).alloc (.cells #[.int .i64 c.who, .int .i64 (c.done + (c.wait.length : Int) + 1), .int .i64 o.kind, .int .i64 o.id, .int .i64 o.up, .int .i64 o.pos, .string o.text] 44)).heap.size = w.heap.size + 4 := by rw [alloc_sz, hz3]
 have hx1 := (Below.heap_alloc (((w.alloc (oC c A1 n1 A2 n2)).alloc (oO o)).alloc oC0) (.cells #[.int .i64 c.who, .int .i64 (c.done + (c.wait.length : Int) + 1), .int .i64 o.kind, .int .i64 o.id, .int .i64 o.up, .int .i64 o.pos, .string o.text] 44) w.heap.size (by omega)).trans h3.1
 have hx2 := (Below.heap_alloc (((w.alloc (oC c A1 n1 A2 n2)).alloc (oO o)).alloc oC0) (.cells #[.int .i64 c.who, .int .i64 (c.done + (c.wait.length : Int) + 1), .int .i64 o.kind, .int .i64 o.id, .int .i64 o.up, .int .i64 o.pos, .string o.text] 44) (w.heap.size + 1) (by omega)).trans h3.2.1
 have hx3 := (Below.heap_alloc (((w.alloc (oC c A1 n1 A2 n2)).alloc (oO o)).alloc oC0) (.cells #[.int .i64 c.who, .int .i64 (c.done + (c.wait.length : Int) + 1), .int .i64 o.kind, .int .i64 o.id, .int .i64 o.up, .int .i64 o.pos, .string o.text] 44) (w.heap.size + 1 + 1) (by omega)).trans h3.2.2
 have hx4 := World.alloc_heap_new (((w.alloc (oC c A1 n1 A2 n2)).alloc (oO o)).alloc oC0) (.cells #[.int .i64 c.who, .int .i64 (c.done + (c.wait.length : Int) + 1), .int .i64 o.kind, .int .i64 o.id, .int .i64 o.up, .int .i64 o.pos, .string o.text] 44)
 rw [hz3] at hx4
 have HX1 := Lib.hid hx1; have HX2 := Lib.hid hx2; have HX3 := Lib.hid hx3; have HX4 := Lib.hid hx4
 have HE4 := Lib.hid hE4; have H1 := Lib.hid (h1.ext hE4); have H2 := Lib.hid (h2.ext hE4)
 have HOK := Lib.hid hok; have HOW := Lib.hid ho
 have HOE : Hid (Flat.okE (newEnt c o)) := hs
 clear h1 h2 h3 hE3 hz3 hE4 hx1 hx2 hx3 hx4 hok ho htr hwt
 go_enter Tryd.func70, Tryd.ntmps70
 go_upto_region 2 with fail
 generalize ((((w.alloc (oC c A1 n1 A2 n2)).alloc (oO o)).alloc oC0).alloc (.cells #[.int .i64 c.who, .int .i64 (c.done + (c.wait.length : Int) + 1), .int .i64 o.kind, .int .i64 o.id, .int .i64 o.up, .int .i64 o.pos, .string o.text] 44)) = W4 at *
 have hpos : w.heap.size + 1 + 1 + 1 < W4.heap.size := by omega
 have hlt1 : w.heap.size < W4.heap.size := by omega
 have hlt2 : w.heap.size + 1 < W4.heap.size := by omega
 have hlt3 : w.heap.size + 1 + 1 < W4.heap.size := by omega
 have hwr : IntKind.i64.wrap (c.made + 1) = c.made + 1 := by rw [IntKind.wrap_i64]; omega
 have HEK := Lib.hid (entryOk_s (newEnt c o) W4.drew hs HOW.out)
 have HRM := Lib.hid (fun W => rowMade_s c.who (c.made + 1) W (by unfold isWho at hw9; rw [decide_eq_true_eq] at hw9; unfold i64; omega) (by unfold i64; omega))
 go_cut [36] (fun s wx => ∃ z : Bool, s = .bool z ∧ Hid (z = true → (doS c o) = (c, false)) ∧ Hid (z = false → (doS c o) = (⟨c.who, c.seen, c.base, c.wait ++ [newEnt c o], c.done, if o.kind = 1 then c.made + 1 else c.made⟩, true)) ∧ Hid (Ext W4 wx))
 case first =>
  obtain ⟨e0, e1, e2, e3, e4, e5, e6, ef⟩ := seven_cells HX4.out
  obtain ⟨y0, y1, y2, y3, y4, yf⟩ := five_cells HX2.out
  obtain ⟨x0, x1, x2, x3, x4, x5, xf⟩ := six_cells HX1.out
  cases hen : entryOk (newEnt c o)
  ·rw [hen] at HEK
   have HNO : Hid (doS c o = (c, false)) := by show _ = _; unfold doS; rw [if_neg (fun h => by rw [hen] at h; cases h.1)]
   clear hen
   refine wp_region_any (by kernel_rfl) ?_
   change wpAny _ _ _ _ _ _ _ (World.drew _)
   refine wpAny_ready (rs := [0]) (by kernel_rfl) (by simp) ?_
   refine AllReady.cons rfl (fun K hK => ?_) AllReady.nil
   go_simp
   refine hK _ _ ?_; clear hK K
   refine wpAny_ready (rs := [1]) (by kernel_rfl) (by simp) ?_
   refine AllReady.cons rfl (fun K hK => ?_) AllReady.nil
   go_simp
   go_wp2_with (go_at_call 42; refine HEK.out.mono ?_; rintro e w1 ⟨rfl, hb1⟩; obtain ⟨z0, z1, z2, z3, z4, zf⟩ := five_cells ((hb1.block (w.heap.size + 1) hlt2).trans HX2.out); have HB1 := Lib.hid hb1; clear hb1)
   refine wpAny_ready (rs := [2]) (by kernel_rfl) (by simp) ?_
   refine AllReady.cons rfl (fun K hK => ?_) AllReady.nil
   go_simp
   refine hK _ _ ?_; clear hK K
   refine wpAny_ready (rs := [3]) (by kernel_rfl) (by simp) ?_
   refine AllReady.cons rfl (fun K hK => ?_) AllReady.nil
   go_simp
   refine hK _ _ ?_; clear hK K
   refine any_skip 4 rfl (by kernel_rfl) (by kernel_rfl) (by kernel_rfl) (fun _ _ _ h => h) (by kernel_rfl) ?_
   refine any_skip 5 rfl (by kernel_rfl) (by kernel_rfl) (by kernel_rfl) (fun _ _ _ h => h) (by kernel_rfl) ?_
   refine any_skip 6 rfl (by kernel_rfl) (by kernel_rfl) (by kernel_rfl) (fun _ _ _ h => h) (by kernel_rfl) ?_
   refine any_skip 7 rfl (by kernel_rfl) (by kernel_rfl) (by kernel_rfl) (fun _ _ _ h => h) (by kernel_rfl) ?_
   refine any_skip 8 rfl (by kernel_rfl) (by kernel_rfl) (by kernel_rfl) (fun _ _ _ h => h) (by kernel_rfl) ?_
   refine any_skip 9 rfl (by kernel_rfl) (by kernel_rfl) (by kernel_rfl) (fun _ _ _ h => h) (by kernel_rfl) ?_
   refine any_skip 10 rfl (by kernel_rfl) (by kernel_rfl) (by kernel_rfl) (fun _ _ _ h => h) (by kernel_rfl) ?_
   refine any_skip 11 rfl (by kernel_rfl) (by kernel_rfl) (by kernel_rfl) (fun _ _ _ h => h) (by kernel_rfl) ?_
   refine any_skip 12 rfl (by kernel_rfl) (by kernel_rfl) (by kernel_rfl) (fun _ _ _ h => h) (by kernel_rfl) ?_
   refine any_skip 13 rfl (by kernel_rfl) (by kernel_rfl) (by kernel_rfl) (fun _ _ _ h => h) (by kernel_rfl) ?_
   refine any_skip 14 rfl (by kernel_rfl) (by kernel_rfl) (by kernel_rfl) (fun _ _ _ h => h) (by kernel_rfl) ?_
   refine any_skip 15 rfl (by kernel_rfl) (by kernel_rfl) (by kernel_rfl) (fun _ _ _ h => h) (by kernel_rfl) ?_
   refine any_skip 16 rfl (by kernel_rfl) (by kernel_rfl) (by kernel_rfl) (fun _ _ _ h => h) (by kernel_rfl) ?_
   refine any_skip 17 rfl (by kernel_rfl) (by kernel_rfl) (by kernel_rfl) (fun _ _ _ h => h) (by kernel_rfl) ?_
   refine wpAny_ready (rs := [18]) (by kernel_rfl) (by simp) ?_
   refine AllReady.cons rfl (fun K hK => ?_) AllReady.nil
   go_simp
   refine hK _ _ ?_; clear hK K
   refine wpAny_done (by kernel_rfl) ?_ _
   ·go_wp2_with fail
    go_meet
    exact ⟨true, rfl, Lib.hid (fun _ => HNO.out), Lib.hid (fun h => by cases h), ((Below.refl _ _).drew).trans HB1.out⟩
  ·rw [hen] at HEK
   by_cases hk : o.kind = 1
   ·have hk' : (o.kind == 1) = true := by simp [hk]
    by_cases hid : o.id = rowMade c.who (c.made + 1)
    ·have hid' : (o.id != rowMade c.who (c.made + 1)) = false := by simp [hid]
     have HYES : Hid (doS c o = (⟨c.who, c.seen, c.base, c.wait ++ [newEnt c o], c.done, if o.kind = 1 then c.made + 1 else c.made⟩, true)) := by show _ = _; unfold doS; rw [if_pos ⟨hen, fun _ => hid⟩]
     clear hen hk hid
     have E0 : W4.drew.cell? ⟨w.heap.size + 1, 0, none⟩ = some (.int .i64 o.kind) ∧ W4.drew.cell? ⟨w.heap.size + 1, 1, none⟩ = some (.int .i64 o.id) ∧ W4.drew.cell? ⟨w.heap.size + 1, 2, none⟩ = some (.int .i64 o.up) ∧ W4.drew.cell? ⟨w.heap.size + 1, 3, none⟩ = some (.int .i64 o.pos) ∧ W4.drew.cell? ⟨w.heap.size + 1, 4, none⟩ = some (.string o.text) ∧ W4.drew.cell? ⟨w.heap.size, 0, none⟩ = some (.int .i64 c.who) ∧ W4.drew.cell? ⟨w.heap.size, 1, none⟩ = some (.int .i64 c.seen) ∧ W4.drew.cell? ⟨w.heap.size, 2, none⟩ = some (.slice A1 c.base.length n1) ∧ W4.drew.cell? ⟨w.heap.size, 3, none⟩ = some (.slice A2 c.wait.length n2) ∧ W4.drew.cell? ⟨w.heap.size, 4, none⟩ = some (.int .i64 c.done) ∧ W4.drew.cell? ⟨w.heap.size, 5, none⟩ = some (.int .i64 c.made) ∧ W4.drew.cell? ⟨w.heap.size + 1 + 1 + 1, 0, none⟩ = some (.int .i64 c.who) ∧ W4.drew.cell? ⟨w.heap.size + 1 + 1 + 1, 1, none⟩ = some (.int .i64 (c.done + (c.wait.length : Int) + 1)) ∧ W4.drew.cell? ⟨w.heap.size + 1 + 1 + 1, 2, none⟩ = some (.int .i64 o.kind) ∧ W4.drew.cell? ⟨w.heap.size + 1 + 1 + 1, 3, none⟩ = some (.int .i64 o.id) ∧ W4.drew.cell? ⟨w.heap.size + 1 + 1 + 1, 4, none⟩ = some (.int .i64 o.up) ∧ W4.drew.cell? ⟨w.heap.size + 1 + 1 + 1, 5, none⟩ = some (.int .i64 o.pos) ∧ W4.drew.cell? ⟨w.heap.size + 1 + 1 + 1, 6, none⟩ = some (.string o.text) := ⟨y0, y1, y2, y3, y4, x0, x1, x2, x3, x4, x5, e0, e1, e2, e3, e4, e5, e6⟩
     clear y0 y1 y2 y3 y4 x0 x1 x2 x3 x4 x5 e0 e1 e2 e3 e4 e5 e6 yf xf ef
     go_region_held3 (fun w' => w'.cell? ⟨w.heap.size + 1, 0, none⟩ = some (.int .i64 o.kind) ∧ w'.cell? ⟨w.heap.size + 1, 1, none⟩ = some (.int .i64 o.id) ∧ w'.cell? ⟨w.heap.size + 1, 2, none⟩ = some (.int .i64 o.up) ∧ w'.cell? ⟨w.heap.size + 1, 3, none⟩ = some (.int .i64 o.pos) ∧ w'.cell? ⟨w.heap.size + 1, 4, none⟩ = some (.string o.text) ∧ w'.cell? ⟨w.heap.size, 0, none⟩ = some (.int .i64 c.who) ∧ w'.cell? ⟨w.heap.size, 1, none⟩ = some (.int .i64 c.seen) ∧ w'.cell? ⟨w.heap.size, 2, none⟩ = some (.slice A1 c.base.length n1) ∧ w'.cell? ⟨w.heap.size, 3, none⟩ = some (.slice A2 c.wait.length n2) ∧ w'.cell? ⟨w.heap.size, 4, none⟩ = some (.int .i64 c.done) ∧ w'.cell? ⟨w.heap.size, 5, none⟩ = some (.int .i64 c.made) ∧ w'.cell? ⟨w.heap.size + 1 + 1 + 1, 0, none⟩ = some (.int .i64 c.who) ∧ w'.cell? ⟨w.heap.size + 1 + 1 + 1, 1, none⟩ = some (.int .i64 (c.done + (c.wait.length : Int) + 1)) ∧ w'.cell? ⟨w.heap.size + 1 + 1 + 1, 2, none⟩ = some (.int .i64 o.kind) ∧ w'.cell? ⟨w.heap.size + 1 + 1 + 1, 3, none⟩ = some (.int .i64 o.id) ∧ w'.cell? ⟨w.heap.size + 1 + 1 + 1, 4, none⟩ = some (.int .i64 o.up) ∧ w'.cell? ⟨w.heap.size + 1 + 1 + 1, 5, none⟩ = some (.int .i64 o.pos) ∧ w'.cell? ⟨w.heap.size + 1 + 1 + 1, 6, none⟩ = some (.string o.text))
      (first | exact E1 | exact E0 | go_keep)
      (first
       |(go_at_call 42; refine HEK.out.mono ?_; rintro e w1 ⟨rfl, hb1⟩; obtain ⟨hc1, hf1⟩ := bcell hb1
         have E1 : w1.cell? ⟨w.heap.size + 1, 0, none⟩ = some (.int .i64 o.kind) ∧ w1.cell? ⟨w.heap.size + 1, 1, none⟩ = some (.int .i64 o.id) ∧ w1.cell? ⟨w.heap.size + 1, 2, none⟩ = some (.int .i64 o.up) ∧ w1.cell? ⟨w.heap.size + 1, 3, none⟩ = some (.int .i64 o.pos) ∧ w1.cell? ⟨w.heap.size + 1, 4, none⟩ = some (.string o.text) ∧ w1.cell? ⟨w.heap.size, 0, none⟩ = some (.int .i64 c.who) ∧ w1.cell? ⟨w.heap.size, 1, none⟩ = some (.int .i64 c.seen) ∧ w1.cell? ⟨w.heap.size, 2, none⟩ = some (.slice A1 c.base.length n1) ∧ w1.cell? ⟨w.heap.size, 3, none⟩ = some (.slice A2 c.wait.length n2) ∧ w1.cell? ⟨w.heap.size, 4, none⟩ = some (.int .i64 c.done) ∧ w1.cell? ⟨w.heap.size, 5, none⟩ = some (.int .i64 c.made) ∧ w1.cell? ⟨w.heap.size + 1 + 1 + 1, 0, none⟩ = some (.int .i64 c.who) ∧ w1.cell? ⟨w.heap.size + 1 + 1 + 1, 1, none⟩ = some (.int .i64 (c.done + (c.wait.length : Int) + 1)) ∧ w1.cell? ⟨w.heap.size + 1 + 1 + 1, 2, none⟩ = some (.int .i64 o.kind) ∧ w1.cell? ⟨w.heap.size + 1 + 1 + 1, 3, none⟩ = some (.int .i64 o.id) ∧ w1.cell? ⟨w.heap.size + 1 + 1 + 1, 4, none⟩ = some (.int .i64 o.up) ∧ w1.cell? ⟨w.heap.size + 1 + 1 + 1, 5, none⟩ = some (.int .i64 o.pos) ∧ w1.cell? ⟨w.heap.size + 1 + 1 + 1, 6, none⟩ = some (.string o.text) := ⟨(hc1 _ _ hlt2).trans E0.1, (hc1 _ _ hlt2).trans E0.2.1, (hc1 _ _ hlt2).trans E0.2.2.1, (hc1 _ _ hlt2).trans E0.2.2.2.1, (hc1 _ _ hlt2).trans E0.2.2.2.2.1, (hc1 _ _ hlt1).trans E0.2.2.2.2.2.1, (hc1 _ _ hlt1).trans E0.2.2.2.2.2.2.1, (hc1 _ _ hlt1).trans E0.2.2.2.2.2.2.2.1, (hc1 _ _ hlt1).trans E0.2.2.2.2.2.2.2.2.1, (hc1 _ _ hlt1).trans E0.2.2.2.2.2.2.2.2.2.1, (hc1 _ _ hlt1).trans E0.2.2.2.2.2.2.2.2.2.2.1, (hc1 _ _ hpos).trans E0.2.2.2.2.2.2.2.2.2.2.2.1, (hc1 _ _ hpos).trans E0.2.2.2.2.2.2.2.2.2.2.2.2.1, (hc1 _ _ hpos).trans E0.2.2.2.2.2.2.2.2.2.2.2.2.2.1, (hc1 _ _ hpos).trans E0.2.2.2.2.2.2.2.2.2.2.2.2.2.2.1, (hc1 _ _ hpos).trans E0.2.2.2.2.2.2.2.2.2.2.2.2.2.2.2.1, (hc1 _ _ hpos).trans E0.2.2.2.2.2.2.2.2.2.2.2.2.2.2.2.2.1, (hc1 _ _ hpos).trans E0.2.2.2.2.2.2.2.2.2.2.2.2.2.2.2.2.2⟩
         have HB1 := Lib.hid hb1; clear hc1 hf1 hb1)
       |(go_at_call 93; refine (HRM.out _).mono ?_; rintro e w2 ⟨rfl, hw2⟩; rw [hw2]; clear hw2))
     go_wp2_with fail
     go_meet
     exact ⟨false, rfl, Lib.hid (fun h => by cases h), Lib.hid (fun _ => HYES.out), ((Below.refl _ _).drew).trans HB1.out⟩
    ·have hid' : (o.id != rowMade c.who (c.made + 1)) = true := by simp [hid]
     have HNO : Hid (doS c o = (c, false)) := by show _ = _; unfold doS; rw [if_neg (fun h => hid (h.2 hk))]
     clear hen hk hid
     have E0 : W4.drew.cell? ⟨w.heap.size + 1, 0, none⟩ = some (.int .i64 o.kind) ∧ W4.drew.cell? ⟨w.heap.size + 1, 1, none⟩ = some (.int .i64 o.id) ∧ W4.drew.cell? ⟨w.heap.size + 1, 2, none⟩ = some (.int .i64 o.up) ∧ W4.drew.cell? ⟨w.heap.size + 1, 3, none⟩ = some (.int .i64 o.pos) ∧ W4.drew.cell? ⟨w.heap.size + 1, 4, none⟩ = some (.string o.text) ∧ W4.drew.cell? ⟨w.heap.size, 0, none⟩ = some (.int .i64 c.who) ∧ W4.drew.cell? ⟨w.heap.size, 1, none⟩ = some (.int .i64 c.seen) ∧ W4.drew.cell? ⟨w.heap.size, 2, none⟩ = some (.slice A1 c.base.length n1) ∧ W4.drew.cell? ⟨w.heap.size, 3, none⟩ = some (.slice A2 c.wait.length n2) ∧ W4.drew.cell? ⟨w.heap.size, 4, none⟩ = some (.int .i64 c.done) ∧ W4.drew.cell? ⟨w.heap.size, 5, none⟩ = some (.int .i64 c.made) ∧ W4.drew.cell? ⟨w.heap.size + 1 + 1 + 1, 0, none⟩ = some (.int .i64 c.who) ∧ W4.drew.cell? ⟨w.heap.size + 1 + 1 + 1, 1, none⟩ = some (.int .i64 (c.done + (c.wait.length : Int) + 1)) ∧ W4.drew.cell? ⟨w.heap.size + 1 + 1 + 1, 2, none⟩ = some (.int .i64 o.kind) ∧ W4.drew.cell? ⟨w.heap.size + 1 + 1 + 1, 3, none⟩ = some (.int .i64 o.id) ∧ W4.drew.cell? ⟨w.heap.size + 1 + 1 + 1, 4, none⟩ = some (.int .i64 o.up) ∧ W4.drew.cell? ⟨w.heap.size + 1 + 1 + 1, 5, none⟩ = some (.int .i64 o.pos) ∧ W4.drew.cell? ⟨w.heap.size + 1 + 1 + 1, 6, none⟩ = some (.string o.text) := ⟨y0, y1, y2, y3, y4, x0, x1, x2, x3, x4, x5, e0, e1, e2, e3, e4, e5, e6⟩
     clear y0 y1 y2 y3 y4 x0 x1 x2 x3 x4 x5 e0 e1 e2 e3 e4 e5 e6 yf xf ef
     go_region_held3 (fun w' => w'.cell? ⟨w.heap.size + 1, 0, none⟩ = some (.int .i64 o.kind) ∧ w'.cell? ⟨w.heap.size + 1, 1, none⟩ = some (.int .i64 o.id) ∧ w'.cell? ⟨w.heap.size + 1, 2, none⟩ = some (.int .i64 o.up) ∧ w'.cell? ⟨w.heap.size + 1, 3, none⟩ = some (.int .i64 o.pos) ∧ w'.cell? ⟨w.heap.size + 1, 4, none⟩ = some (.string o.text) ∧ w'.cell? ⟨w.heap.size, 0, none⟩ = some (.int .i64 c.who) ∧ w'.cell? ⟨w.heap.size, 1, none⟩ = some (.int .i64 c.seen) ∧ w'.cell? ⟨w.heap.size, 2, none⟩ = some (.slice A1 c.base.length n1) ∧ w'.cell? ⟨w.heap.size, 3, none⟩ = some (.slice A2 c.wait.length n2) ∧ w'.cell? ⟨w.heap.size, 4, none⟩ = some (.int .i64 c.done) ∧ w'.cell? ⟨w.heap.size, 5, none⟩ = some (.int .i64 c.made) ∧ w'.cell? ⟨w.heap.size + 1 + 1 + 1, 0, none⟩ = some (.int .i64 c.who) ∧ w'.cell? ⟨w.heap.size + 1 + 1 + 1, 1, none⟩ = some (.int .i64 (c.done + (c.wait.length : Int) + 1)) ∧ w'.cell? ⟨w.heap.size + 1 + 1 + 1, 2, none⟩ = some (.int .i64 o.kind) ∧ w'.cell? ⟨w.heap.size + 1 + 1 + 1, 3, none⟩ = some (.int .i64 o.id) ∧ w'.cell? ⟨w.heap.size + 1 + 1 + 1, 4, none⟩ = some (.int .i64 o.up) ∧ w'.cell? ⟨w.heap.size + 1 + 1 + 1, 5, none⟩ = some (.int .i64 o.pos) ∧ w'.cell? ⟨w.heap.size + 1 + 1 + 1, 6, none⟩ = some (.string o.text))
      (first | exact E1 | exact E0 | go_keep)
      (first
       |(go_at_call 42; refine HEK.out.mono ?_; rintro e w1 ⟨rfl, hb1⟩; obtain ⟨hc1, hf1⟩ := bcell hb1
         have E1 : w1.cell? ⟨w.heap.size + 1, 0, none⟩ = some (.int .i64 o.kind) ∧ w1.cell? ⟨w.heap.size + 1, 1, none⟩ = some (.int .i64 o.id) ∧ w1.cell? ⟨w.heap.size + 1, 2, none⟩ = some (.int .i64 o.up) ∧ w1.cell? ⟨w.heap.size + 1, 3, none⟩ = some (.int .i64 o.pos) ∧ w1.cell? ⟨w.heap.size + 1, 4, none⟩ = some (.string o.text) ∧ w1.cell? ⟨w.heap.size, 0, none⟩ = some (.int .i64 c.who) ∧ w1.cell? ⟨w.heap.size, 1, none⟩ = some (.int .i64 c.seen) ∧ w1.cell? ⟨w.heap.size, 2, none⟩ = some (.slice A1 c.base.length n1) ∧ w1.cell? ⟨w.heap.size, 3, none⟩ = some (.slice A2 c.wait.length n2) ∧ w1.cell? ⟨w.heap.size, 4, none⟩ = some (.int .i64 c.done) ∧ w1.cell? ⟨w.heap.size, 5, none⟩ = some (.int .i64 c.made) ∧ w1.cell? ⟨w.heap.size + 1 + 1 + 1, 0, none⟩ = some (.int .i64 c.who) ∧ w1.cell? ⟨w.heap.size + 1 + 1 + 1, 1, none⟩ = some (.int .i64 (c.done + (c.wait.length : Int) + 1)) ∧ w1.cell? ⟨w.heap.size + 1 + 1 + 1, 2, none⟩ = some (.int .i64 o.kind) ∧ w1.cell? ⟨w.heap.size + 1 + 1 + 1, 3, none⟩ = some (.int .i64 o.id) ∧ w1.cell? ⟨w.heap.size + 1 + 1 + 1, 4, none⟩ = some (.int .i64 o.up) ∧ w1.cell? ⟨w.heap.size + 1 + 1 + 1, 5, none⟩ = some (.int .i64 o.pos) ∧ w1.cell? ⟨w.heap.size + 1 + 1 + 1, 6, none⟩ = some (.string o.text) := ⟨(hc1 _ _ hlt2).trans E0.1, (hc1 _ _ hlt2).trans E0.2.1, (hc1 _ _ hlt2).trans E0.2.2.1, (hc1 _ _ hlt2).trans E0.2.2.2.1, (hc1 _ _ hlt2).trans E0.2.2.2.2.1, (hc1 _ _ hlt1).trans E0.2.2.2.2.2.1, (hc1 _ _ hlt1).trans E0.2.2.2.2.2.2.1, (hc1 _ _ hlt1).trans E0.2.2.2.2.2.2.2.1, (hc1 _ _ hlt1).trans E0.2.2.2.2.2.2.2.2.1, (hc1 _ _ hlt1).trans E0.2.2.2.2.2.2.2.2.2.1, (hc1 _ _ hlt1).trans E0.2.2.2.2.2.2.2.2.2.2.1, (hc1 _ _ hpos).trans E0.2.2.2.2.2.2.2.2.2.2.2.1, (hc1 _ _ hpos).trans E0.2.2.2.2.2.2.2.2.2.2.2.2.1, (hc1 _ _ hpos).trans E0.2.2.2.2.2.2.2.2.2.2.2.2.2.1, (hc1 _ _ hpos).trans E0.2.2.2.2.2.2.2.2.2.2.2.2.2.2.1, (hc1 _ _ hpos).trans E0.2.2.2.2.2.2.2.2.2.2.2.2.2.2.2.1, (hc1 _ _ hpos).trans E0.2.2.2.2.2.2.2.2.2.2.2.2.2.2.2.2.1, (hc1 _ _ hpos).trans E0.2.2.2.2.2.2.2.2.2.2.2.2.2.2.2.2.2⟩
         have HB1 := Lib.hid hb1; clear hc1 hf1 hb1)
       |(go_at_call 93; refine (HRM.out _).mono ?_; rintro e w2 ⟨rfl, hw2⟩; rw [hw2]; clear hw2))
     go_wp2_with fail
     go_meet
     exact ⟨true, rfl, Lib.hid (fun _ => HNO.out), Lib.hid (fun h => by cases h), ((Below.refl _ _).drew).trans HB1.out⟩
   ·have hk' : (o.kind == 1) = false := by simp [hk]
    have HYES : Hid (doS c o = (⟨c.who, c.seen, c.base, c.wait ++ [newEnt c o], c.done, if o.kind = 1 then c.made + 1 else c.made⟩, true)) := by show _ = _; unfold doS; rw [if_pos ⟨hen, fun h => absurd h hk⟩]
    clear hen hk
    refine wp_region_any (by kernel_rfl) ?_
    change wpAny _ _ _ _ _ _ _ (World.drew _)
    refine wpAny_ready (rs := [0]) (by kernel_rfl) (by simp) ?_
    refine AllReady.cons rfl (fun K hK => ?_) AllReady.nil
    go_simp
    refine hK _ _ ?_; clear hK K
    refine wpAny_ready (rs := [1]) (by kernel_rfl) (by simp) ?_
    refine AllReady.cons rfl (fun K hK => ?_) AllReady.nil
    go_simp
    go_wp2_with (go_at_call 42; refine HEK.out.mono ?_; rintro e w1 ⟨rfl, hb1⟩; obtain ⟨z0, z1, z2, z3, z4, zf⟩ := five_cells ((hb1.block (w.heap.size + 1) hlt2).trans HX2.out); have HB1 := Lib.hid hb1; clear hb1)
    refine wpAny_ready (rs := [2]) (by kernel_rfl) (by simp) ?_
    refine AllReady.cons rfl (fun K hK => ?_) AllReady.nil
    go_simp
    refine hK _ _ ?_; clear hK K
    refine wpAny_ready (rs := [3]) (by kernel_rfl) (by simp) ?_
    refine AllReady.cons rfl (fun K hK => ?_) AllReady.nil
    go_simp
    refine hK _ _ ?_; clear hK K
    refine wpAny_ready (rs := [4]) (by kernel_rfl) (by simp) ?_
    refine AllReady.cons rfl (fun K hK => ?_) AllReady.nil
    go_simp
    refine hK _ _ ?_; clear hK K
    refine wpAny_ready (rs := [5]) (by kernel_rfl) (by simp) ?_
    refine AllReady.cons rfl (fun K hK => ?_) AllReady.nil
    go_simp
    refine hK _ _ ?_; clear hK K
    refine wpAny_ready (rs := [6]) (by kernel_rfl) (by simp) ?_
    refine AllReady.cons rfl (fun K hK => ?_) AllReady.nil
    go_simp
    refine hK _ _ ?_; clear hK K
    refine wpAny_ready (rs := [7]) (by kernel_rfl) (by simp) ?_
    refine AllReady.cons rfl (fun K hK => ?_) AllReady.nil
    go_simp
    refine hK _ _ ?_; clear hK K
    refine any_skip 8 rfl (by kernel_rfl) (by kernel_rfl) (by kernel_rfl) (fun _ _ _ h => h) (by kernel_rfl) ?_
    refine any_skip 9 rfl (by kernel_rfl) (by kernel_rfl) (by kernel_rfl) (fun _ _ _ h => h) (by kernel_rfl) ?_
    refine any_skip 10 rfl (by kernel_rfl) (by kernel_rfl) (by kernel_rfl) (fun _ _ _ h => h) (by kernel_rfl) ?_
    refine any_skip 11 rfl (by kernel_rfl) (by kernel_rfl) (by kernel_rfl) (fun _ _ _ h => h) (by kernel_rfl) ?_
    refine any_skip 12 rfl (by kernel_rfl) (by kernel_rfl) (by kernel_rfl) (fun _ _ _ h => h) (by kernel_rfl) ?_
    refine any_skip 13 rfl (by kernel_rfl) (by kernel_rfl) (by kernel_rfl) (fun _ _ _ h => h) (by kernel_rfl) ?_
    refine any_skip 14 rfl (by kernel_rfl) (by kernel_rfl) (by kernel_rfl) (fun _ _ _ h => h) (by kernel_rfl) ?_
    refine any_skip 15 rfl (by kernel_rfl) (by kernel_rfl) (by kernel_rfl) (fun _ _ _ h => h) (by kernel_rfl) ?_
    refine any_skip 16 rfl (by kernel_rfl) (by kernel_rfl) (by kernel_rfl) (fun _ _ _ h => h) (by kernel_rfl) ?_
    refine wpAny_ready (rs := [17]) (by kernel_rfl) (by simp) ?_
    refine AllReady.cons rfl (fun K hK => ?_) AllReady.nil
    go_simp
    refine hK _ _ ?_; clear hK K
    refine wpAny_ready (rs := [18]) (by kernel_rfl) (by simp) ?_
    refine AllReady.cons rfl (fun K hK => ?_) AllReady.nil
    go_simp
    refine hK _ _ ?_; clear hK K
    refine wpAny_done (by kernel_rfl) ?_ _
    ·go_wp2_with fail
     go_meet
     exact ⟨false, rfl, Lib.hid (fun h => by cases h), Lib.hid (fun _ => HYES.out), ((Below.refl _ _).drew).trans HB1.out⟩
 case rest =>
  obtain ⟨z, rfl, HZT, HZF, HW⟩ := hcut
  obtain ⟨x0, x1, x2, x3, x4, x5, xf⟩ := six_cells ((HW.out.block w.heap.size hlt1).trans HX1.out)
  obtain ⟨y0, y1, y2, y3, y4, yf⟩ := five_cells ((HW.out.block (w.heap.size + 1) hlt2).trans HX2.out)
  have hEc := HE4.out.trans (HW.out.mono HE4.out.size)
  have HEc := Lib.hid hEc
  clear hEc
  cases z
  ·by_cases hk : o.kind = 1
   ·have hk' : (o.kind == 1) = true := by simp [hk]
    have HK := Lib.hid hk
    clear hk
    go_upto_region 6 with fail
    clear x0 x1 x2 x3 x4 x5 xf y0 y1 y2 y3 y4 yf
    have hbx : (wc.setCell ⟨w.heap.size, 5, none⟩ (.int .i64 (c.made + 1))).heap[w.heap.size]? = some (.cells #[.int .i64 c.who, .int .i64 c.seen, .slice A1 c.base.length n1, .slice A2 c.wait.length n2, .int .i64 c.done, .int .i64 (c.made + 1)] 30 (0, 0)) := set_at ((HW.out.block _ hlt1).trans HX1.out)
    have hzx : (wc.setCell ⟨w.heap.size, 5, none⟩ (.int .i64 (c.made + 1))).heap[w.heap.size + 1 + 1]? = some (.cells cC0 30 (0, 0)) := (setx (by omega)).trans ((HW.out.block _ hlt3).trans HX3.out)
    have hex : (wc.setCell ⟨w.heap.size, 5, none⟩ (.int .i64 (c.made + 1))).heap[w.heap.size + 1 + 1 + 1]? = some (.cells #[.int .i64 c.who, .int .i64 (c.done + (c.wait.length : Int) + 1), .int .i64 o.kind, .int .i64 o.id, .int .i64 o.up, .int .i64 o.pos, .string o.text] 44 (0, 0)) := (setx (by omega)).trans ((HW.out.block _ hpos).trans HX4.out)
    have hr1 : RdT 47 (wc.setCell ⟨w.heap.size, 5, none⟩ (.int .i64 (c.made + 1))) A1 n1 c.base := (H1.out.ext HW.out).set ((HW.out.block _ hlt1).trans HX1.out) (by decide) _ _
    have hr2 : RdT 44 (wc.setCell ⟨w.heap.size, 5, none⟩ (.int .i64 (c.made + 1))) A2 n2 c.wait := (H2.out.ext HW.out).set ((HW.out.block _ hlt1).trans HX1.out) (by decide) _ _
    have hE6 : Ext w (wc.setCell ⟨w.heap.size, 5, none⟩ (.int .i64 (c.made + 1))) := (HE4.out.trans (HW.out.mono HE4.out.size)).setCell (Nat.le_refl _) _
    generalize (wc.setCell ⟨w.heap.size, 5, none⟩ (.int .i64 (c.made + 1))) = W6 at *
    have hTA := two_app el_ent W6 A2 n2 c.wait (newEnt c o) #[.int .i64 c.who, .int .i64 (c.done + (c.wait.length : Int) + 1), .int .i64 o.kind, .int .i64 o.id, .int .i64 o.up, .int .i64 o.pos, .string o.text] hr2.1 HOE.out rfl (by omega)
    obtain ⟨v1, w1, v, w', ra1, ra2, ra3, ra4, ra5⟩ := hTA.a
    obtain ⟨p1, y1, p, y', rb1, rb2, rb3, rb4⟩ := hTA.b
    obtain ⟨r1, q1, r, q', rc1, rc2, rc3, rc4⟩ := hTA.c
    obtain ⟨Bv, nv, hv9, -⟩ := ra3.rd
    rw [List.length_append, List.length_singleton] at hv9
    subst hv9
    obtain ⟨Bp, np, hp9, -⟩ := rb3.rd
    rw [List.length_append, List.length_singleton] at hp9
    subst hp9
    obtain ⟨Br, nr, hr9, -⟩ := rc3.rd
    rw [List.length_append, List.length_singleton] at hr9
    subst hr9
    have hl0 := blk_lt hbx; have hl3 := blk_lt hex
    obtain ⟨x0, x1, x2, x3, x4, x5, xf⟩ := six_cells hbx
    obtain ⟨e0, e1, e2, e3, e4, e5, e6, ef⟩ := seven_cells hex
    obtain ⟨f0, f1, f2, f3, f4, f5, f6, ff⟩ := seven_cells ((ra5.block _ hl3).trans hex)
    obtain ⟨g0, g1, g2, g3, g4, g5, gf⟩ := six_cells ((ra4.block _ hl0).trans hbx)
    obtain ⟨i0, i1, i2, i3, i4, i5, if_⟩ := six_cells ((rb4.block _ hl0).trans hbx)
    obtain ⟨j0, j1, j2, j3, j4, j5, jf⟩ := six_cells ((rc4.block _ hl0).trans hbx)
    have fin : ∀ (z : Value) (W : World), Own 44 W W6.heap.size z (c.wait ++ [newEnt c o]) → Ext W6 W → DoR w c o A1 n1 (c.made + 1) (W.setCell ⟨w.heap.size, 3, none⟩ z) := fun z W ho hb => by
     obtain ⟨B, nn, hzv, -⟩ := ho.rd
     rw [List.length_append, List.length_singleton] at hzv
     subst hzv
     have hbW := (hb.block _ hl0).trans hbx
     exact ⟨B, nn, set_at hbW, ho.rdT.set hbW (by decide) _ _, (hr1.ext hb).set hbW (by decide) _ _, (setx (by omega)).trans ((hb.block _ (blk_lt hzx)).trans hzx), (hE6.trans (hb.mono hE6.size)).setCell (Nat.le_refl _) _⟩
    have FIN := Lib.hid fin; have RA3 := Lib.hid ra3; have RA4 := Lib.hid ra4; have RB3 := Lib.hid rb3; have RB4 := Lib.hid rb4; have RC3 := Lib.hid rc3; have RC4 := Lib.hid rc4
    clear hTA fin ra3 ra4 ra5 rb3 rb4 rc3 rc4
    go_cut [51] (fun s wx => DoR w c o A1 n1 (c.made + 1) wx)
    case first =>
     go_region_law (first
      |((with_reducible refine at_world ((W6.alloc (.cells #[] 44)).drew) ?_); refine step_append_run rfl _ _ _ rfl rfl rfl ra1 ?_)
      |((with_reducible refine at_world (w1.alloc (.cells #[.int .i64 c.who, .int .i64 (c.done + (c.wait.length : Int) + 1), .int .i64 o.kind, .int .i64 o.id, .int .i64 o.up, .int .i64 o.pos, .string o.text] 44)) ?_); refine step_append_run rfl _ _ _ rfl rfl rfl ra2 ?_)
      |((with_reducible refine at_world (((W6.alloc (.cells #[] 44)).alloc (.cells #[.int .i64 c.who, .int .i64 (c.done + (c.wait.length : Int) + 1), .int .i64 o.kind, .int .i64 o.id, .int .i64 o.up, .int .i64 o.pos, .string o.text] 44)).drew) ?_); refine step_append_run rfl _ _ _ rfl rfl rfl rb1 ?_)
      |((with_reducible refine at_world y1 ?_); refine step_append_run rfl _ _ _ rfl rfl rfl rb2 ?_)
      |((with_reducible refine at_world (((W6.alloc (.cells #[.int .i64 c.who, .int .i64 (c.done + (c.wait.length : Int) + 1), .int .i64 o.kind, .int .i64 o.id, .int .i64 o.up, .int .i64 o.pos, .string o.text] 44)).alloc (.cells #[] 44)).drew) ?_); refine step_append_run rfl _ _ _ rfl rfl rfl rc1 ?_)
      |((with_reducible refine at_world q1 ?_); refine step_append_run rfl _ _ _ rfl rfl rfl rc2 ?_))
     all_goals
      go_wp2_with fail
      go_meet
      first
       |(clear RB3 RB4 RC3 RC4 rb2 rc2 i0 i1 i2 i3 i4 i5 if_ j0 j1 j2 j3 j4 j5 jf y' q'; exact FIN.out _ _ RA3.out RA4.out)
       |(clear RA3 RA4 RC3 RC4 ra2 rc2 g0 g1 g2 g3 g4 g5 gf j0 j1 j2 j3 j4 j5 jf w' q'; exact FIN.out _ _ RB3.out RB4.out)
       |(clear RA3 RA4 RB3 RB4 ra2 rb2 g0 g1 g2 g3 g4 g5 gf i0 i1 i2 i3 i4 i5 if_ w' y'; exact FIN.out _ _ RC3.out RC4.out)
    case rest =>
     obtain ⟨B, nn, hb9, hq9, hr9, hz9, hE9⟩ := hcut
     clear x0 x1 x2 x3 x4 x5 xf e0 e1 e2 e3 e4 e5 e6 ef f0 f1 f2 f3 f4 f5 f6 ff g0 g1 g2 g3 g4 g5 gf i0 i1 i2 i3 i4 i5 if_ j0 j1 j2 j3 j4 j5 jf ra1 ra2 rb1 rb2 rc1 rc2 RA3 RA4 RB3 RB4 RC3 RC4 FIN
     obtain ⟨x0, x1, x2, x3, x4, x5, xf⟩ := six_cells hb9
     obtain ⟨d0, d1, d2, d3, d4, d5, df⟩ := six_cells hz9
     have hz := put6_at (.int .i64 c.who) (.int .i64 c.seen) (.slice A1 c.base.length n1) (.slice B (c.wait.length + 1) nn) (.int .i64 c.done) (.int .i64 (c.made + 1)) hz9
     have hE := put6_below (.int .i64 c.who) (.int .i64 c.seen) (.slice A1 c.base.length n1) (.slice B (c.wait.length + 1) nn) (.int .i64 c.done) (.int .i64 (c.made + 1)) hE9 (show w.heap.size ≤ w.heap.size + 1 + 1 by omega)
     have HZ := Lib.hid hz; have HE := Lib.hid hE; have HQ9 := Lib.hid (hq9.put6 hz9 (by decide) (.int .i64 c.who) (.int .i64 c.seen) (.slice A1 c.base.length n1) (.slice B (c.wait.length + 1) nn) (.int .i64 c.done) (.int .i64 (c.made + 1))); have HR9 := Lib.hid (hr9.put6 hz9 (by decide) (.int .i64 c.who) (.int .i64 c.seen) (.slice A1 c.base.length n1) (.slice B (c.wait.length + 1) nn) (.int .i64 c.done) (.int .i64 (c.made + 1)))
     have HY := Lib.hid ((by rw [HZF.out (by first | trivial | rfl), if_pos HK.out] : doS c o = (⟨c.who, c.seen, c.base, c.wait ++ [newEnt c o], c.done, c.made + 1⟩, true)))
     clear hz hE hq9 hr9 hb9 hz9 hE9
     go_wp2_with fail
     obtain ⟨k0, k1, k2, k3, k4, k5, kf⟩ := six_cells HZ.out
     refine bodyPost_ret (v := .tuple #[.agg #[.int .i64 c.who, .int .i64 c.seen, .slice A1 c.base.length n1, .slice B (c.wait.length + 1) nn, .int .i64 c.done, .int .i64 (c.made + 1)], .bool true]) ?_ rfl ?_
     ·simp [results, Tryd.f70, go_sem, k0, k1, k2, k3, k4, k5]
     ·exact ⟨_, by rw [HY.out], by rw [HY.out]; exact ⟨A1, n1, B, nn, by simp only [List.length_append, List.length_singleton], HR9.out, HQ9.out⟩, HE.out⟩
   ·have hk' : (o.kind == 1) = false := by simp [hk]
    have HK := Lib.hid hk
    clear hk
    go_upto_region 6 with fail
    clear x0 x1 x2 x3 x4 x5 xf y0 y1 y2 y3 y4 yf
    have hbx : wc.heap[w.heap.size]? = some (.cells (cC c A1 n1 A2 n2) 30 (0, 0)) := (HW.out.block _ hlt1).trans HX1.out
    have hzx : wc.heap[w.heap.size + 1 + 1]? = some (.cells cC0 30 (0, 0)) := (HW.out.block _ hlt3).trans HX3.out
    have hex : wc.heap[w.heap.size + 1 + 1 + 1]? = some (.cells #[.int .i64 c.who, .int .i64 (c.done + (c.wait.length : Int) + 1), .int .i64 o.kind, .int .i64 o.id, .int .i64 o.up, .int .i64 o.pos, .string o.text] 44 (0, 0)) := (HW.out.block _ hpos).trans HX4.out
    have hr1 : RdT 47 wc A1 n1 c.base := H1.out.ext HW.out
    have hr2 : RdT 44 wc A2 n2 c.wait := H2.out.ext HW.out
    have hE6 : Ext w wc := HE4.out.trans (HW.out.mono HE4.out.size)
    generalize wc = W6 at *
    have hTA := two_app el_ent W6 A2 n2 c.wait (newEnt c o) #[.int .i64 c.who, .int .i64 (c.done + (c.wait.length : Int) + 1), .int .i64 o.kind, .int .i64 o.id, .int .i64 o.up, .int .i64 o.pos, .string o.text] hr2.1 HOE.out rfl (by omega)
    obtain ⟨v1, w1, v, w', ra1, ra2, ra3, ra4, ra5⟩ := hTA.a
    obtain ⟨p1, y1, p, y', rb1, rb2, rb3, rb4⟩ := hTA.b
    obtain ⟨r1, q1, r, q', rc1, rc2, rc3, rc4⟩ := hTA.c
    obtain ⟨Bv, nv, hv9, -⟩ := ra3.rd
    rw [List.length_append, List.length_singleton] at hv9
    subst hv9
    obtain ⟨Bp, np, hp9, -⟩ := rb3.rd
    rw [List.length_append, List.length_singleton] at hp9
    subst hp9
    obtain ⟨Br, nr, hr9, -⟩ := rc3.rd
    rw [List.length_append, List.length_singleton] at hr9
    subst hr9
    have hl0 := blk_lt hbx; have hl3 := blk_lt hex
    obtain ⟨x0, x1, x2, x3, x4, x5, xf⟩ := six_cells hbx
    obtain ⟨e0, e1, e2, e3, e4, e5, e6, ef⟩ := seven_cells hex
    obtain ⟨f0, f1, f2, f3, f4, f5, f6, ff⟩ := seven_cells ((ra5.block _ hl3).trans hex)
    obtain ⟨g0, g1, g2, g3, g4, g5, gf⟩ := six_cells ((ra4.block _ hl0).trans hbx)
    obtain ⟨i0, i1, i2, i3, i4, i5, if_⟩ := six_cells ((rb4.block _ hl0).trans hbx)
    obtain ⟨j0, j1, j2, j3, j4, j5, jf⟩ := six_cells ((rc4.block _ hl0).trans hbx)
    have fin : ∀ (z : Value) (W : World), Own 44 W W6.heap.size z (c.wait ++ [newEnt c o]) → Ext W6 W → DoR w c o A1 n1 c.made (W.setCell ⟨w.heap.size, 3, none⟩ z) := fun z W ho hb => by
     obtain ⟨B, nn, hzv, -⟩ := ho.rd
     rw [List.length_append, List.length_singleton] at hzv
     subst hzv
     have hbW := (hb.block _ hl0).trans hbx
     exact ⟨B, nn, set_at hbW, ho.rdT.set hbW (by decide) _ _, (hr1.ext hb).set hbW (by decide) _ _, (setx (by omega)).trans ((hb.block _ (blk_lt hzx)).trans hzx), (hE6.trans (hb.mono hE6.size)).setCell (Nat.le_refl _) _⟩
    have FIN := Lib.hid fin; have RA3 := Lib.hid ra3; have RA4 := Lib.hid ra4; have RB3 := Lib.hid rb3; have RB4 := Lib.hid rb4; have RC3 := Lib.hid rc3; have RC4 := Lib.hid rc4
    clear hTA fin ra3 ra4 ra5 rb3 rb4 rc3 rc4
    go_cut [51] (fun s wx => DoR w c o A1 n1 c.made wx)
    case first =>
     go_region_law (first
      |((with_reducible refine at_world ((W6.alloc (.cells #[] 44)).drew) ?_); refine step_append_run rfl _ _ _ rfl rfl rfl ra1 ?_)
      |((with_reducible refine at_world (w1.alloc (.cells #[.int .i64 c.who, .int .i64 (c.done + (c.wait.length : Int) + 1), .int .i64 o.kind, .int .i64 o.id, .int .i64 o.up, .int .i64 o.pos, .string o.text] 44)) ?_); refine step_append_run rfl _ _ _ rfl rfl rfl ra2 ?_)
      |((with_reducible refine at_world (((W6.alloc (.cells #[] 44)).alloc (.cells #[.int .i64 c.who, .int .i64 (c.done + (c.wait.length : Int) + 1), .int .i64 o.kind, .int .i64 o.id, .int .i64 o.up, .int .i64 o.pos, .string o.text] 44)).drew) ?_); refine step_append_run rfl _ _ _ rfl rfl rfl rb1 ?_)
      |((with_reducible refine at_world y1 ?_); refine step_append_run rfl _ _ _ rfl rfl rfl rb2 ?_)
      |((with_reducible refine at_world (((W6.alloc (.cells #[.int .i64 c.who, .int .i64 (c.done + (c.wait.length : Int) + 1), .int .i64 o.kind, .int .i64 o.id, .int .i64 o.up, .int .i64 o.pos, .string o.text] 44)).alloc (.cells #[] 44)).drew) ?_); refine step_append_run rfl _ _ _ rfl rfl rfl rc1 ?_)
      |((with_reducible refine at_world q1 ?_); refine step_append_run rfl _ _ _ rfl rfl rfl rc2 ?_))
     all_goals
      go_wp2_with fail
      go_meet
      first
       |(clear RB3 RB4 RC3 RC4 rb2 rc2 i0 i1 i2 i3 i4 i5 if_ j0 j1 j2 j3 j4 j5 jf y' q'; exact FIN.out _ _ RA3.out RA4.out)
       |(clear RA3 RA4 RC3 RC4 ra2 rc2 g0 g1 g2 g3 g4 g5 gf j0 j1 j2 j3 j4 j5 jf w' q'; exact FIN.out _ _ RB3.out RB4.out)
       |(clear RA3 RA4 RB3 RB4 ra2 rb2 g0 g1 g2 g3 g4 g5 gf i0 i1 i2 i3 i4 i5 if_ w' y'; exact FIN.out _ _ RC3.out RC4.out)
    case rest =>
     obtain ⟨B, nn, hb9, hq9, hr9, hz9, hE9⟩ := hcut
     clear x0 x1 x2 x3 x4 x5 xf e0 e1 e2 e3 e4 e5 e6 ef f0 f1 f2 f3 f4 f5 f6 ff g0 g1 g2 g3 g4 g5 gf i0 i1 i2 i3 i4 i5 if_ j0 j1 j2 j3 j4 j5 jf ra1 ra2 rb1 rb2 rc1 rc2 RA3 RA4 RB3 RB4 RC3 RC4 FIN
     obtain ⟨x0, x1, x2, x3, x4, x5, xf⟩ := six_cells hb9
     obtain ⟨d0, d1, d2, d3, d4, d5, df⟩ := six_cells hz9
     have hz := put6_at (.int .i64 c.who) (.int .i64 c.seen) (.slice A1 c.base.length n1) (.slice B (c.wait.length + 1) nn) (.int .i64 c.done) (.int .i64 c.made) hz9
     have hE := put6_below (.int .i64 c.who) (.int .i64 c.seen) (.slice A1 c.base.length n1) (.slice B (c.wait.length + 1) nn) (.int .i64 c.done) (.int .i64 c.made) hE9 (show w.heap.size ≤ w.heap.size + 1 + 1 by omega)
     have HZ := Lib.hid hz; have HE := Lib.hid hE; have HQ9 := Lib.hid (hq9.put6 hz9 (by decide) (.int .i64 c.who) (.int .i64 c.seen) (.slice A1 c.base.length n1) (.slice B (c.wait.length + 1) nn) (.int .i64 c.done) (.int .i64 c.made)); have HR9 := Lib.hid (hr9.put6 hz9 (by decide) (.int .i64 c.who) (.int .i64 c.seen) (.slice A1 c.base.length n1) (.slice B (c.wait.length + 1) nn) (.int .i64 c.done) (.int .i64 c.made))
     have HY := Lib.hid ((by rw [HZF.out (by first | trivial | rfl), if_neg HK.out] : doS c o = (⟨c.who, c.seen, c.base, c.wait ++ [newEnt c o], c.done, c.made⟩, true)))
     clear hz hE hq9 hr9 hb9 hz9 hE9
     go_wp2_with fail
     obtain ⟨k0, k1, k2, k3, k4, k5, kf⟩ := six_cells HZ.out
     refine bodyPost_ret (v := .tuple #[.agg #[.int .i64 c.who, .int .i64 c.seen, .slice A1 c.base.length n1, .slice B (c.wait.length + 1) nn, .int .i64 c.done, .int .i64 c.made], .bool true]) ?_ rfl ?_
     ·simp [results, Tryd.f70, go_sem, k0, k1, k2, k3, k4, k5]
     ·exact ⟨_, by rw [HY.out], by rw [HY.out]; exact ⟨A1, n1, B, nn, by simp only [List.length_append, List.length_singleton], HR9.out, HQ9.out⟩, HE.out⟩
  ·have hz3 := (HW.out.block (w.heap.size + 1 + 1) hlt3).trans HX3.out
   obtain ⟨d0, d1, d2, d3, d4, d5, df⟩ := six_cells hz3
   have hz := put6_at (.int .i64 c.who) (.int .i64 c.seen) (.slice A1 c.base.length n1) (.slice A2 c.wait.length n2) (.int .i64 c.done) (.int .i64 c.made) hz3
   have hE := put6_below (.int .i64 c.who) (.int .i64 c.seen) (.slice A1 c.base.length n1) (.slice A2 c.wait.length n2) (.int .i64 c.done) (.int .i64 c.made) HEc.out (show w.heap.size ≤ w.heap.size + 1 + 1 by omega)
   have HZ := Lib.hid hz; have HE := Lib.hid hE; have HR9 := Lib.hid ((H1.out.ext HW.out).put6 hz3 (by decide) (.int .i64 c.who) (.int .i64 c.seen) (.slice A1 c.base.length n1) (.slice A2 c.wait.length n2) (.int .i64 c.done) (.int .i64 c.made)); have HQ9 := Lib.hid ((H2.out.ext HW.out).put6 hz3 (by decide) (.int .i64 c.who) (.int .i64 c.seen) (.slice A1 c.base.length n1) (.slice A2 c.wait.length n2) (.int .i64 c.done) (.int .i64 c.made))
   clear hz3 hz hE
   go_wp2_with fail
   obtain ⟨k0, k1, k2, k3, k4, k5, kf⟩ := six_cells HZ.out
   refine bodyPost_ret (v := .tuple #[(.agg (cC c A1 n1 A2 n2)), .bool false]) ?_ rfl ?_
   ·simp [results, Tryd.f70, go_sem, k0, k1, k2, k3, k4, k5]
   ·exact ⟨_, by rw [HZT.out (by first | trivial | rfl)], by rw [HZT.out (by first | trivial | rfl)]; exact ⟨_, _, _, _, rfl, HR9.out, HQ9.out⟩, HE.out⟩
end Go.Proofs.YtjhbbgeebobcpaaDoor
