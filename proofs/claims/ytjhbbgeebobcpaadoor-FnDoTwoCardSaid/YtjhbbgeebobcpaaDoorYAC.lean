/- Walk of spec.DrawClientDo. -/
import Derived.Test.YtjhbbgeebobcpaaDoorYAB
import Derived.Test.YtjhbbgeebobcpaaDoorZBB
import Derived.Test.YtjhbbgeebobcpaaDoorZAO
namespace Go.Proofs.YtjhbbgeebobcpaaDoor
open Go.RowKit Go.Lib
set_option linter.unusedVariables false
set_option linter.unusedSimpArgs false
def DDoP (w : World) (e : Ending) (w' : World) : Prop := ∃ (c : Client) (v : Value) (o : Op), e = .returned (.tuple #[v, o.val]) ∧ CV w' c v ∧ CW c ∧ OpW o ∧ o.text.size ≤ maxLen ∧ Ext w w'
theorem RdT.grow {α : Type} [Flat α] {e : TypeId} {W W' : World} {A : Option Addr} {c r p : Nat} {l : List α} (h : RdT e W A c l) (hg : W.grownBy W' (some r)) (hr : Rdr W r p) (hne : 103 ≠ e) : RdT e W' A c l := by
 obtain ⟨A', c', bs, hb, -⟩ := hr
 exact h.blk fun _ bb _ cs m _ h1 => hg.block bb (blk_lt h1) (fun e0 => by
  injection e0 with e0
  subst e0
  rw [h1] at hb
  injection hb with hb; injection hb with _ hb
  exact hne hb.symm)
theorem put5_far {W : World} {b k : Nat} (v0 v1 v2 v3 v4 : Value) (h : k ≠ b) : (put5 W b v0 v1 v2 v3 v4).heap[k]? = W.heap[k]? :=
 (setx h).trans ((setx h).trans ((setx h).trans ((setx h).trans (setx h))))
theorem put5_below {B : Nat} {w0 W : World} {b : Nat} (v0 v1 v2 v3 v4 : Value) (h : Below B w0 W) (hB : B ≤ b) : Below B w0 (put5 W b v0 v1 v2 v3 v4) := ((((h.setCell hB _).setCell hB _).setCell hB _).setCell hB _).setCell hB _
theorem RdT.put5 {α : Type} [Flat α] {e : TypeId} {w : World} {A : Option Addr} {c : Nat} {l : List α} {b : Nat} {a0 a1 a2 a3 a4 : Value} {ty : TypeId} (h : RdT e w A c l) (hb : w.heap[b]? = some (.cells #[a0, a1, a2, a3, a4] ty (0, 0))) (hne : ty ≠ e) (v0 v1 v2 v3 v4 : Value) : RdT e (Proofs.YtjhbbgeebobcpaaDoor.put5 w b v0 v1 v2 v3 v4) A c l :=
 ((((h.set hb hne 0 v0).set (set_at hb) hne 1 v1).set (set_at (set_at hb)) hne 2 v2).set (set_at (set_at (set_at hb))) hne 3 v3).set (set_at (set_at (set_at (set_at hb)))) hne 4 v4
theorem drew_parts {c : Client} (h : clientOk c = true) : treeOk c.base = true ∧ (∀ e ∈ c.wait, opOk e.op = true) ∧ treeOk (treeFrom c.base c.wait) = true ∧ (1 ≤ c.who ∧ c.who ≤ 3) ∧ (0 ≤ c.made ∧ c.made ≤ 1000) := by
 obtain ⟨hw9, hs0, hs40, htr, hd0, hd1, hwl, hm0, hm1, hwt⟩ := clientOk_parts h
 have ho : ∀ e ∈ c.wait, opOk e.op = true := fun e he => (entryOk_parts (waitOk_who hwt e he).1).2.2.2
 have h2 := (showL_ok h).2.1
 rw [showL_showS] at h2
 unfold showS at h2
 rw [if_pos h] at h2
 exact ⟨htr, ho, h2, isWho_of hw9, hm0, by omega⟩
set_option maxRecDepth 100000 in
set_option maxHeartbeats 6000000 in
theorem drawDo_d (A : Option Addr) (n : Nat) (bs : List UInt8) (w : World) (hr : Rd w A n bs) (hA : ∀ b off, A = some ⟨b, off, none⟩ → b < w.heap.size) :
  Calls Tryd.prog 33 #[.slice A bs.length n] w (DDoP w) := by
 have h2 := two_new w oC0 (.cells #[.int .i64 0, .int .i64 0, .int .i64 0, .int .i64 0, .string ⟨#[]⟩] 42)
 have hE1 : Ext w ((w.alloc oC0).alloc (.cells #[.int .i64 0, .int .i64 0, .int .i64 0, .int .i64 0, .string ⟨#[]⟩] 42)) := ((Below.refl _ _).alloc (Nat.le_refl _) _).alloc (by rw [alloc_sz]; omega) _
 have hz1 : ((w.alloc oC0).alloc (.cells #[.int .i64 0, .int .i64 0, .int .i64 0, .int .i64 0, .string ⟨#[]⟩] 42)).heap.size = w.heap.size + 1 + 1 := by rw [alloc_sz, alloc_sz]
 have HX1 := Lib.hid h2.1; have HX2 := Lib.hid h2.2; have HE := Lib.hid hE1
 have HO := Lib.hid (open_d A n bs _ (hr.ext hE1) (fun b off e => by have := hA b off e; omega))
 clear hE1 hr hA h2
 go_enter Tryd.func33, Tryd.ntmps33
 go_wp2_with fail
 generalize ((w.alloc oC0).alloc (.cells #[.int .i64 0, .int .i64 0, .int .i64 0, .int .i64 0, .string ⟨#[]⟩] 42)) = W2 at *
 refine HO.out.mono ?_
 rintro e w1 ⟨rfl, hr1, hb1⟩
 have hs1 := hb1.size
 have hrl := hr1.lt
 have HC := Lib.hid (client_d W2.heap.size 0 w1 hr1 (by omega))
 have HB1 := Lib.hid hb1; have HR1 := Lib.hid hr1
 clear hr1 hb1 HO
 obtain ⟨r, hrr⟩ : ∃ r, r = w.heap.size + 1 + 1 := ⟨_, rfl⟩
 rw [hz1, ← hrr] at HC HR1
 rw [hz1, ← hrr] at hrl
 have hr0 : w.heap.size + 1 < r := by omega
 go_wp2_with fail
 rw [← hrr]
 clear hrr
 refine HC.out.mono ?_
 rintro e w2 ⟨c, v, p, rfl, hco, hcw, -, hp, hR2, hg2⟩
 have hx1 := (HB1.out.block _ (blk_lt HX1.out)).trans HX1.out; have hx2 := (HB1.out.block _ (blk_lt HX2.out)).trans HX2.out
 have hy1 := (hg2.block _ (blk_lt hx1) (fun e => by injection e with e; omega)).trans hx1; have hy2 := (hg2.block _ (blk_lt hx2) (fun e => by injection e with e; omega)).trans hx2
 have hE2 : Ext w w2 := ext_grown (HE.out.trans (HB1.out.mono HE.out.size)) hg2 (by omega) (fun k e => by injection e with e; omega)
 obtain ⟨b, bn, qq, qn, rfl, h1, h2⟩ := hco
 have hs2 := hg2.size
 have hb3 : Ext w2 (w2.alloc (oC c b bn qq qn)) := (Below.refl _ _).alloc (Nat.le_refl _) _
 have HX1_3 := Lib.hid ((hb3.block _ (blk_lt hy1)).trans hy1); have HX2_3 := Lib.hid ((hb3.block _ (blk_lt hy2)).trans hy2); have HX3_3 := Lib.hid (World.alloc_heap_new w2 (oC c b bn qq qn))
 have H1_3 := Lib.hid (h1.rdT.ext hb3); have H2_3 := Lib.hid (h2.rdT.ext hb3); have HE_3 := Lib.hid (hE2.trans (hb3.mono hE2.size)); have HRD_3 := Lib.hid (hR2.ext hb3)
 have HCW := Lib.hid hcw
 have hs12 : w1.heap.size ≤ w2.heap.size := hs2
 clear hx1 hx2 hy1 hy2 hE2 h1 h2 hb3 hR2 hg2 hcw HC HB1 HX1 HX2 HE HR1
 go_wp2_with fail
 generalize (w2.alloc (oC c b bn qq qn)) = w3 at *
 refine (pick_c r p 4 w3 HRD_3.out (by omega) ⟨by omega, by omega⟩).mono ?_
 rintro e w4' ⟨pv, rfl, hv0, hv1, -, hR4', hg4'⟩
 have HRD_4' := Lib.hid hR4'
 have HX1_4' := Lib.hid ((hg4'.block _ (blk_lt HX1_3.out) (fun e => by injection e with e; omega)).trans HX1_3.out); have HX2_4' := Lib.hid ((hg4'.block _ (blk_lt HX2_3.out) (fun e => by injection e with e; omega)).trans HX2_3.out); have HX3_4' := Lib.hid ((hg4'.block _ (blk_lt HX3_3.out) (fun e => by injection e with e; omega)).trans HX3_3.out)
 have H1_4' := Lib.hid (H1_3.out.grow hg4' HRD_3.out (by decide)); have H2_4' := Lib.hid (H2_3.out.grow hg4' HRD_3.out (by decide)); have HE_4' := Lib.hid (ext_grown HE_3.out hg4' (by have := HE_3.out.size; omega) (fun k e => by injection e with e; omega))
 clear HX1_3 HX2_3 HX3_3 H1_3 H2_3 HE_3 HRD_3
 clear hR4' hg4' hv1
 by_cases hpv : pv = 0
 ·subst hpv
  obtain ⟨w4, rfl⟩ : ∃ W : World, W = w4' := ⟨_, rfl⟩
  have HX1_4 := HX1_4'; have HX2_4 := HX2_4'; have HX3_4 := HX3_4'; have H1_4 := H1_4'; have H2_4 := H2_4'; have HE_4 := HE_4'; have HRD_4 := HRD_4'
  clear HX1_4' HX2_4' HX3_4' H1_4' H2_4' HE_4' HRD_4'
  go_upto_region 4 with fail
  refine wp_region_B (fun w' => w'.cell? ⟨w2.heap.size, 0, none⟩ = some (.int .i64 c.who) ∧ w'.cell? ⟨w2.heap.size, 1, none⟩ = some (.int .i64 c.seen) ∧ w'.cell? ⟨w2.heap.size, 2, none⟩ = some (.slice b c.base.length bn) ∧ w'.cell? ⟨w2.heap.size, 3, none⟩ = some (.slice qq c.wait.length qn) ∧ w'.cell? ⟨w2.heap.size, 4, none⟩ = some (.int .i64 c.done) ∧ w'.cell? ⟨w2.heap.size, 5, none⟩ = some (.int .i64 c.made)) 4 (by kernel_rfl) ?_
  have hb5 : Ext w4 w4.drew := (Below.refl _ _).drew
  generalize w4.drew = w5 at *
  have HX1_5 := Lib.hid ((hb5.block _ (blk_lt HX1_4.out)).trans HX1_4.out); have HX2_5 := Lib.hid ((hb5.block _ (blk_lt HX2_4.out)).trans HX2_4.out); have HX3_5 := Lib.hid ((hb5.block _ (blk_lt HX3_4.out)).trans HX3_4.out)
  have H1_5 := Lib.hid (H1_4.out.ext hb5); have H2_5 := Lib.hid (H2_4.out.ext hb5); have HE_5 := Lib.hid (HE_4.out.trans (hb5.mono HE_4.out.size)); have HRD_5 := Lib.hid (HRD_4.out.ext hb5)
  clear HX1_4 HX2_4 HX3_4 H1_4 H2_4 HE_4 HRD_4
  clear hb5
  have HS : Hid (w5.cell? ⟨w2.heap.size, 0, none⟩ = some (.int .i64 c.who) ∧ w5.cell? ⟨w2.heap.size, 1, none⟩ = some (.int .i64 c.seen) ∧ w5.cell? ⟨w2.heap.size, 2, none⟩ = some (.slice b c.base.length bn) ∧ w5.cell? ⟨w2.heap.size, 3, none⟩ = some (.slice qq c.wait.length qn) ∧ w5.cell? ⟨w2.heap.size, 4, none⟩ = some (.int .i64 c.done) ∧ w5.cell? ⟨w2.heap.size, 5, none⟩ = some (.int .i64 c.made)) := Lib.hid ⟨(six_cells HX3_5.out).1, (six_cells HX3_5.out).2.1, (six_cells HX3_5.out).2.2.1, (six_cells HX3_5.out).2.2.2.1, (six_cells HX3_5.out).2.2.2.2.1, (six_cells HX3_5.out).2.2.2.2.2.1⟩
  refine WB.take (i := 0) (v := ?_) rfl (by kernel_rfl) (by kernel_rfl) (by kernel_rfl) (by kernel_rfl) (fun _ _ _ h => h) HS.out (Or.inl ⟨by rfl, ?_⟩) ?_
  rotate_left
  ·(rintro w ⟨s0, s1, s2, s3, s4, s5⟩; go_simp; try with_reducible rfl)
  try simp only [Act.put, List.setIfInBounds_toArray, List.set_cons_zero, List.set_cons_succ]
  refine WB.takeP (i := 1) (v := ?_) rfl (by kernel_rfl) (by kernel_rfl) (by kernel_rfl) (by kernel_rfl) (fun _ _ _ h => h) HS.out (Or.inl ⟨by rfl, ?_⟩) ?_
  rotate_left
  ·(rintro w -; go_simp; try with_reducible rfl)
  try simp only [Act.put, List.setIfInBounds_toArray, List.set_cons_zero, List.set_cons_succ]
  refine WB.one (i := 2) (by kernel_rfl) rfl (fun K hK => ?_)
  have HKK := Lib.hid hK
  clear hK
  go_simp
  refine (opx_d r (p + 1) w5 HRD_5.out (by omega)).mono ?_
  rintro e w6 ⟨o, p', rfl, ho, -, -, hR6, hg6⟩
  rw [show o.val = .agg (cO o) from rfl]
  have HRD_6 := Lib.hid hR6
  have HX1_6 := Lib.hid ((hg6.block _ (blk_lt HX1_5.out) (fun e => by injection e with e; omega)).trans HX1_5.out); have HX2_6 := Lib.hid ((hg6.block _ (blk_lt HX2_5.out) (fun e => by injection e with e; omega)).trans HX2_5.out); have HX3_6 := Lib.hid ((hg6.block _ (blk_lt HX3_5.out) (fun e => by injection e with e; omega)).trans HX3_5.out)
  have H1_6 := Lib.hid (H1_5.out.grow hg6 HRD_5.out (by decide)); have H2_6 := Lib.hid (H2_5.out.grow hg6 HRD_5.out (by decide)); have HE_6 := Lib.hid (ext_grown HE_5.out hg6 (by have := HE_5.out.size; omega) (fun k e => by injection e with e; omega))
  clear HX1_5 HX2_5 HX3_5 H1_5 H2_5 HE_5 HRD_5
  clear hg6 hR6
  have HOO := Lib.hid (⟨ho.w, by have := ho.2.2.2.2; unfold maxLen; omega⟩ : OpW o ∧ o.text.size ≤ maxLen)
  have HS6 : Hid (w6.cell? ⟨w2.heap.size, 0, none⟩ = some (.int .i64 c.who) ∧ w6.cell? ⟨w2.heap.size, 1, none⟩ = some (.int .i64 c.seen) ∧ w6.cell? ⟨w2.heap.size, 2, none⟩ = some (.slice b c.base.length bn) ∧ w6.cell? ⟨w2.heap.size, 3, none⟩ = some (.slice qq c.wait.length qn) ∧ w6.cell? ⟨w2.heap.size, 4, none⟩ = some (.int .i64 c.done) ∧ w6.cell? ⟨w2.heap.size, 5, none⟩ = some (.int .i64 c.made)) := Lib.hid ⟨(six_cells HX3_6.out).1, (six_cells HX3_6.out).2.1, (six_cells HX3_6.out).2.2.1, (six_cells HX3_6.out).2.2.2.1, (six_cells HX3_6.out).2.2.2.2.1, (six_cells HX3_6.out).2.2.2.2.2.1⟩
  clear ho
  have hz := put6_at (.int .i64 c.who) (.int .i64 c.seen) (.slice b c.base.length bn) (.slice qq c.wait.length qn) (.int .i64 c.done) (.int .i64 c.made) HX1_6.out
  have hy := put5_at (.int .i64 o.kind) (.int .i64 o.id) (.int .i64 o.up) (.int .i64 o.pos) (.string o.text) ((put6_far (.int .i64 c.who) (.int .i64 c.seen) (.slice b c.base.length bn) (.slice qq c.wait.length qn) (.int .i64 c.done) (.int .i64 c.made) (show w.heap.size + 1 ≠ w.heap.size from by omega)).trans HX2_6.out)
  have hq1 := (H1_6.out.put6 HX1_6.out (by decide) (.int .i64 c.who) (.int .i64 c.seen) (.slice b c.base.length bn) (.slice qq c.wait.length qn) (.int .i64 c.done) (.int .i64 c.made)).put5 ((put6_far (.int .i64 c.who) (.int .i64 c.seen) (.slice b c.base.length bn) (.slice qq c.wait.length qn) (.int .i64 c.done) (.int .i64 c.made) (show w.heap.size + 1 ≠ w.heap.size from by omega)).trans HX2_6.out) (by decide) (.int .i64 o.kind) (.int .i64 o.id) (.int .i64 o.up) (.int .i64 o.pos) (.string o.text)
  have hq2 := (H2_6.out.put6 HX1_6.out (by decide) (.int .i64 c.who) (.int .i64 c.seen) (.slice b c.base.length bn) (.slice qq c.wait.length qn) (.int .i64 c.done) (.int .i64 c.made)).put5 ((put6_far (.int .i64 c.who) (.int .i64 c.seen) (.slice b c.base.length bn) (.slice qq c.wait.length qn) (.int .i64 c.done) (.int .i64 c.made) (show w.heap.size + 1 ≠ w.heap.size from by omega)).trans HX2_6.out) (by decide) (.int .i64 o.kind) (.int .i64 o.id) (.int .i64 o.up) (.int .i64 o.pos) (.string o.text)
  have hE := put5_below (.int .i64 o.kind) (.int .i64 o.id) (.int .i64 o.up) (.int .i64 o.pos) (.string o.text) (put6_below (.int .i64 c.who) (.int .i64 c.seen) (.slice b c.base.length bn) (.slice qq c.wait.length qn) (.int .i64 c.done) (.int .i64 c.made) HE_6.out (Nat.le_refl w.heap.size)) (show w.heap.size ≤ w.heap.size + 1 from by omega)
  have HF := Lib.hid (⟨(put5_far (.int .i64 o.kind) (.int .i64 o.id) (.int .i64 o.up) (.int .i64 o.pos) (.string o.text) (show w.heap.size ≠ w.heap.size + 1 from by omega)).trans hz, hy, hq1, hq2, hE⟩ : _ ∧ _ ∧ _ ∧ _ ∧ _)
  have HY9 := Lib.hid ((put6_far (.int .i64 c.who) (.int .i64 c.seen) (.slice b c.base.length bn) (.slice qq c.wait.length qn) (.int .i64 c.done) (.int .i64 c.made) (show w.heap.size + 1 ≠ w.heap.size from by omega)).trans HX2_6.out)
  have HX39 := Lib.hid ((put6_far (.int .i64 c.who) (.int .i64 c.seen) (.slice b c.base.length bn) (.slice qq c.wait.length qn) (.int .i64 c.done) (.int .i64 c.made) (show w2.heap.size ≠ w.heap.size from by omega)).trans HX3_6.out)
  clear hz hy hq1 hq2 hE
  refine HKK.out _ _ ⟨fun _ => HS6.out, ?_⟩
  clear HKK K
  try simp only [Act.put, List.setIfInBounds_toArray, List.set_cons_zero, List.set_cons_succ]
  have z0 := (six_cells HX1_6.out).1
  have z1 := (six_cells HX1_6.out).2.1
  have z2 := (six_cells HX1_6.out).2.2.1
  have z3 := (six_cells HX1_6.out).2.2.2.1
  have z4 := (six_cells HX1_6.out).2.2.2.2.1
  have z5 := (six_cells HX1_6.out).2.2.2.2.2.1
  have zf := (six_cells HX1_6.out).2.2.2.2.2.2
  have HSx : Hid ((put6 w6 (w.heap.size) (.int .i64 c.who) (.int .i64 c.seen) (.slice b c.base.length bn) (.slice qq c.wait.length qn) (.int .i64 c.done) (.int .i64 c.made)).cell? ⟨w2.heap.size, 0, none⟩ = some (.int .i64 c.who) ∧ (put6 w6 (w.heap.size) (.int .i64 c.who) (.int .i64 c.seen) (.slice b c.base.length bn) (.slice qq c.wait.length qn) (.int .i64 c.done) (.int .i64 c.made)).cell? ⟨w2.heap.size, 1, none⟩ = some (.int .i64 c.seen) ∧ (put6 w6 (w.heap.size) (.int .i64 c.who) (.int .i64 c.seen) (.slice b c.base.length bn) (.slice qq c.wait.length qn) (.int .i64 c.done) (.int .i64 c.made)).cell? ⟨w2.heap.size, 2, none⟩ = some (.slice b c.base.length bn) ∧ (put6 w6 (w.heap.size) (.int .i64 c.who) (.int .i64 c.seen) (.slice b c.base.length bn) (.slice qq c.wait.length qn) (.int .i64 c.done) (.int .i64 c.made)).cell? ⟨w2.heap.size, 3, none⟩ = some (.slice qq c.wait.length qn) ∧ (put6 w6 (w.heap.size) (.int .i64 c.who) (.int .i64 c.seen) (.slice b c.base.length bn) (.slice qq c.wait.length qn) (.int .i64 c.done) (.int .i64 c.made)).cell? ⟨w2.heap.size, 4, none⟩ = some (.int .i64 c.done) ∧ (put6 w6 (w.heap.size) (.int .i64 c.who) (.int .i64 c.seen) (.slice b c.base.length bn) (.slice qq c.wait.length qn) (.int .i64 c.done) (.int .i64 c.made)).cell? ⟨w2.heap.size, 5, none⟩ = some (.int .i64 c.made)) := Lib.hid ⟨(six_cells HX39.out).1, (six_cells HX39.out).2.1, (six_cells HX39.out).2.2.1, (six_cells HX39.out).2.2.2.1, (six_cells HX39.out).2.2.2.2.1, (six_cells HX39.out).2.2.2.2.2.1⟩
  refine WB.one (i := 3) (by kernel_rfl) rfl (fun K hK => ?_)
  have HKK := Lib.hid hK
  clear hK
  go_simp
  refine HKK.out _ _ ⟨fun _ => HSx.out, ?_⟩
  clear HKK K z0 z1 z2 z3 z4 z5 zf
  try simp only [Act.put, List.setIfInBounds_toArray, List.set_cons_zero, List.set_cons_succ]
  have z0 := (five_cells HY9.out).1
  have z1 := (five_cells HY9.out).2.1
  have z2 := (five_cells HY9.out).2.2.1
  have z3 := (five_cells HY9.out).2.2.2.1
  have z4 := (five_cells HY9.out).2.2.2.2.1
  have zf := (five_cells HY9.out).2.2.2.2.2
  refine WB.one (i := 4) (by kernel_rfl) rfl (fun K hK => ?_)
  have HKK := Lib.hid hK
  clear hK
  go_simp
  refine HKK.out _ _ ⟨fun h => (no_late h (by kernel_rfl)).elim, ?_⟩
  clear HKK K z0 z1 z2 z3 z4 zf
  refine WB.done (by kernel_rfl) ?_
  go_wp2_with fail
  obtain ⟨hz, hy, hq1, hq2, hE⟩ := HF.out
  obtain ⟨k0, k1, k2, k3, k4, k5, kf⟩ := six_cells hz
  obtain ⟨l0, l1, l2, l3, l4, lf⟩ := five_cells hy
  refine bodyPost_ret (v := .tuple #[(.agg (cC c b bn qq qn)), o.val]) ?_ rfl ?_
  ·simp [Op.val, results, Tryd.f33, go_sem, k0, k1, k2, k3, k4, k5, l0, l1, l2, l3, l4]
  ·exact ⟨c, _, o, rfl, CT.cv ⟨b, bn, qq, qn, rfl, hq1, hq2⟩, HCW.out, HOO.out.1, HOO.out.2, hE⟩
 ·have hpv' : (pv == 0) = false := by simp [hpv]
  obtain ⟨c0, c1, c2, c3, c4, c5, cf⟩ := six_cells HX3_4'.out
  go_wp2_with fail
  refine (clientOk_s c _ w4' (CT.cv ⟨b, bn, qq, qn, rfl, H1_4'.out, H2_4'.out⟩) HCW.out).mono ?_
  rintro e w4 ⟨rfl, hb4⟩
  clear c0 c1 c2 c3 c4 c5 cf
  have HX1_4 := Lib.hid ((hb4.block _ (blk_lt HX1_4'.out)).trans HX1_4'.out); have HX2_4 := Lib.hid ((hb4.block _ (blk_lt HX2_4'.out)).trans HX2_4'.out); have HX3_4 := Lib.hid ((hb4.block _ (blk_lt HX3_4'.out)).trans HX3_4'.out)
  have H1_4 := Lib.hid (H1_4'.out.ext hb4); have H2_4 := Lib.hid (H2_4'.out.ext hb4); have HE_4 := Lib.hid (HE_4'.out.trans (hb4.mono HE_4'.out.size)); have HRD_4 := Lib.hid (HRD_4'.out.ext hb4)
  clear HX1_4' HX2_4' HX3_4' H1_4' H2_4' HE_4' HRD_4'
  clear hb4
  cases hok : clientOk c
  ·clear hok
   go_upto_region 4 with fail
   refine wp_region_B (fun w' => w'.cell? ⟨w2.heap.size, 0, none⟩ = some (.int .i64 c.who) ∧ w'.cell? ⟨w2.heap.size, 1, none⟩ = some (.int .i64 c.seen) ∧ w'.cell? ⟨w2.heap.size, 2, none⟩ = some (.slice b c.base.length bn) ∧ w'.cell? ⟨w2.heap.size, 3, none⟩ = some (.slice qq c.wait.length qn) ∧ w'.cell? ⟨w2.heap.size, 4, none⟩ = some (.int .i64 c.done) ∧ w'.cell? ⟨w2.heap.size, 5, none⟩ = some (.int .i64 c.made)) 4 (by kernel_rfl) ?_
   have hb5 : Ext w4 w4.drew := (Below.refl _ _).drew
   generalize w4.drew = w5 at *
   have HX1_5 := Lib.hid ((hb5.block _ (blk_lt HX1_4.out)).trans HX1_4.out); have HX2_5 := Lib.hid ((hb5.block _ (blk_lt HX2_4.out)).trans HX2_4.out); have HX3_5 := Lib.hid ((hb5.block _ (blk_lt HX3_4.out)).trans HX3_4.out)
   have H1_5 := Lib.hid (H1_4.out.ext hb5); have H2_5 := Lib.hid (H2_4.out.ext hb5); have HE_5 := Lib.hid (HE_4.out.trans (hb5.mono HE_4.out.size)); have HRD_5 := Lib.hid (HRD_4.out.ext hb5)
   clear HX1_4 HX2_4 HX3_4 H1_4 H2_4 HE_4 HRD_4
   clear hb5
   have HS : Hid (w5.cell? ⟨w2.heap.size, 0, none⟩ = some (.int .i64 c.who) ∧ w5.cell? ⟨w2.heap.size, 1, none⟩ = some (.int .i64 c.seen) ∧ w5.cell? ⟨w2.heap.size, 2, none⟩ = some (.slice b c.base.length bn) ∧ w5.cell? ⟨w2.heap.size, 3, none⟩ = some (.slice qq c.wait.length qn) ∧ w5.cell? ⟨w2.heap.size, 4, none⟩ = some (.int .i64 c.done) ∧ w5.cell? ⟨w2.heap.size, 5, none⟩ = some (.int .i64 c.made)) := Lib.hid ⟨(six_cells HX3_5.out).1, (six_cells HX3_5.out).2.1, (six_cells HX3_5.out).2.2.1, (six_cells HX3_5.out).2.2.2.1, (six_cells HX3_5.out).2.2.2.2.1, (six_cells HX3_5.out).2.2.2.2.2.1⟩
   refine WB.take (i := 0) (v := ?_) rfl (by kernel_rfl) (by kernel_rfl) (by kernel_rfl) (by kernel_rfl) (fun _ _ _ h => h) HS.out (Or.inl ⟨by rfl, ?_⟩) ?_
   rotate_left
   ·(rintro w ⟨s0, s1, s2, s3, s4, s5⟩; go_simp; try with_reducible rfl)
   try simp only [Act.put, List.setIfInBounds_toArray, List.set_cons_zero, List.set_cons_succ]
   refine WB.takeP (i := 1) (v := ?_) rfl (by kernel_rfl) (by kernel_rfl) (by kernel_rfl) (by kernel_rfl) (fun _ _ _ h => h) HS.out (Or.inl ⟨by rfl, ?_⟩) ?_
   rotate_left
   ·(rintro w -; go_simp; try with_reducible rfl)
   try simp only [Act.put, List.setIfInBounds_toArray, List.set_cons_zero, List.set_cons_succ]
   refine WB.one (i := 2) (by kernel_rfl) rfl (fun K hK => ?_)
   have HKK := Lib.hid hK
   clear hK
   go_simp
   refine (opx_d r (p + 1) w5 HRD_5.out (by omega)).mono ?_
   rintro e w6 ⟨o, p', rfl, ho, -, -, hR6, hg6⟩
   rw [show o.val = .agg (cO o) from rfl]
   have HRD_6 := Lib.hid hR6
   have HX1_6 := Lib.hid ((hg6.block _ (blk_lt HX1_5.out) (fun e => by injection e with e; omega)).trans HX1_5.out); have HX2_6 := Lib.hid ((hg6.block _ (blk_lt HX2_5.out) (fun e => by injection e with e; omega)).trans HX2_5.out); have HX3_6 := Lib.hid ((hg6.block _ (blk_lt HX3_5.out) (fun e => by injection e with e; omega)).trans HX3_5.out)
   have H1_6 := Lib.hid (H1_5.out.grow hg6 HRD_5.out (by decide)); have H2_6 := Lib.hid (H2_5.out.grow hg6 HRD_5.out (by decide)); have HE_6 := Lib.hid (ext_grown HE_5.out hg6 (by have := HE_5.out.size; omega) (fun k e => by injection e with e; omega))
   clear HX1_5 HX2_5 HX3_5 H1_5 H2_5 HE_5 HRD_5
   clear hg6 hR6
   have HOO := Lib.hid (⟨ho.w, by have := ho.2.2.2.2; unfold maxLen; omega⟩ : OpW o ∧ o.text.size ≤ maxLen)
   have HS6 : Hid (w6.cell? ⟨w2.heap.size, 0, none⟩ = some (.int .i64 c.who) ∧ w6.cell? ⟨w2.heap.size, 1, none⟩ = some (.int .i64 c.seen) ∧ w6.cell? ⟨w2.heap.size, 2, none⟩ = some (.slice b c.base.length bn) ∧ w6.cell? ⟨w2.heap.size, 3, none⟩ = some (.slice qq c.wait.length qn) ∧ w6.cell? ⟨w2.heap.size, 4, none⟩ = some (.int .i64 c.done) ∧ w6.cell? ⟨w2.heap.size, 5, none⟩ = some (.int .i64 c.made)) := Lib.hid ⟨(six_cells HX3_6.out).1, (six_cells HX3_6.out).2.1, (six_cells HX3_6.out).2.2.1, (six_cells HX3_6.out).2.2.2.1, (six_cells HX3_6.out).2.2.2.2.1, (six_cells HX3_6.out).2.2.2.2.2.1⟩
   clear ho
   have hz := put6_at (.int .i64 c.who) (.int .i64 c.seen) (.slice b c.base.length bn) (.slice qq c.wait.length qn) (.int .i64 c.done) (.int .i64 c.made) HX1_6.out
   have hy := put5_at (.int .i64 o.kind) (.int .i64 o.id) (.int .i64 o.up) (.int .i64 o.pos) (.string o.text) ((put6_far (.int .i64 c.who) (.int .i64 c.seen) (.slice b c.base.length bn) (.slice qq c.wait.length qn) (.int .i64 c.done) (.int .i64 c.made) (show w.heap.size + 1 ≠ w.heap.size from by omega)).trans HX2_6.out)
   have hq1 := (H1_6.out.put6 HX1_6.out (by decide) (.int .i64 c.who) (.int .i64 c.seen) (.slice b c.base.length bn) (.slice qq c.wait.length qn) (.int .i64 c.done) (.int .i64 c.made)).put5 ((put6_far (.int .i64 c.who) (.int .i64 c.seen) (.slice b c.base.length bn) (.slice qq c.wait.length qn) (.int .i64 c.done) (.int .i64 c.made) (show w.heap.size + 1 ≠ w.heap.size from by omega)).trans HX2_6.out) (by decide) (.int .i64 o.kind) (.int .i64 o.id) (.int .i64 o.up) (.int .i64 o.pos) (.string o.text)
   have hq2 := (H2_6.out.put6 HX1_6.out (by decide) (.int .i64 c.who) (.int .i64 c.seen) (.slice b c.base.length bn) (.slice qq c.wait.length qn) (.int .i64 c.done) (.int .i64 c.made)).put5 ((put6_far (.int .i64 c.who) (.int .i64 c.seen) (.slice b c.base.length bn) (.slice qq c.wait.length qn) (.int .i64 c.done) (.int .i64 c.made) (show w.heap.size + 1 ≠ w.heap.size from by omega)).trans HX2_6.out) (by decide) (.int .i64 o.kind) (.int .i64 o.id) (.int .i64 o.up) (.int .i64 o.pos) (.string o.text)
   have hE := put5_below (.int .i64 o.kind) (.int .i64 o.id) (.int .i64 o.up) (.int .i64 o.pos) (.string o.text) (put6_below (.int .i64 c.who) (.int .i64 c.seen) (.slice b c.base.length bn) (.slice qq c.wait.length qn) (.int .i64 c.done) (.int .i64 c.made) HE_6.out (Nat.le_refl w.heap.size)) (show w.heap.size ≤ w.heap.size + 1 from by omega)
   have HF := Lib.hid (⟨(put5_far (.int .i64 o.kind) (.int .i64 o.id) (.int .i64 o.up) (.int .i64 o.pos) (.string o.text) (show w.heap.size ≠ w.heap.size + 1 from by omega)).trans hz, hy, hq1, hq2, hE⟩ : _ ∧ _ ∧ _ ∧ _ ∧ _)
   have HY9 := Lib.hid ((put6_far (.int .i64 c.who) (.int .i64 c.seen) (.slice b c.base.length bn) (.slice qq c.wait.length qn) (.int .i64 c.done) (.int .i64 c.made) (show w.heap.size + 1 ≠ w.heap.size from by omega)).trans HX2_6.out)
   have HX39 := Lib.hid ((put6_far (.int .i64 c.who) (.int .i64 c.seen) (.slice b c.base.length bn) (.slice qq c.wait.length qn) (.int .i64 c.done) (.int .i64 c.made) (show w2.heap.size ≠ w.heap.size from by omega)).trans HX3_6.out)
   clear hz hy hq1 hq2 hE
   refine HKK.out _ _ ⟨fun _ => HS6.out, ?_⟩
   clear HKK K
   try simp only [Act.put, List.setIfInBounds_toArray, List.set_cons_zero, List.set_cons_succ]
   have z0 := (six_cells HX1_6.out).1
   have z1 := (six_cells HX1_6.out).2.1
   have z2 := (six_cells HX1_6.out).2.2.1
   have z3 := (six_cells HX1_6.out).2.2.2.1
   have z4 := (six_cells HX1_6.out).2.2.2.2.1
   have z5 := (six_cells HX1_6.out).2.2.2.2.2.1
   have zf := (six_cells HX1_6.out).2.2.2.2.2.2
   have HSx : Hid ((put6 w6 (w.heap.size) (.int .i64 c.who) (.int .i64 c.seen) (.slice b c.base.length bn) (.slice qq c.wait.length qn) (.int .i64 c.done) (.int .i64 c.made)).cell? ⟨w2.heap.size, 0, none⟩ = some (.int .i64 c.who) ∧ (put6 w6 (w.heap.size) (.int .i64 c.who) (.int .i64 c.seen) (.slice b c.base.length bn) (.slice qq c.wait.length qn) (.int .i64 c.done) (.int .i64 c.made)).cell? ⟨w2.heap.size, 1, none⟩ = some (.int .i64 c.seen) ∧ (put6 w6 (w.heap.size) (.int .i64 c.who) (.int .i64 c.seen) (.slice b c.base.length bn) (.slice qq c.wait.length qn) (.int .i64 c.done) (.int .i64 c.made)).cell? ⟨w2.heap.size, 2, none⟩ = some (.slice b c.base.length bn) ∧ (put6 w6 (w.heap.size) (.int .i64 c.who) (.int .i64 c.seen) (.slice b c.base.length bn) (.slice qq c.wait.length qn) (.int .i64 c.done) (.int .i64 c.made)).cell? ⟨w2.heap.size, 3, none⟩ = some (.slice qq c.wait.length qn) ∧ (put6 w6 (w.heap.size) (.int .i64 c.who) (.int .i64 c.seen) (.slice b c.base.length bn) (.slice qq c.wait.length qn) (.int .i64 c.done) (.int .i64 c.made)).cell? ⟨w2.heap.size, 4, none⟩ = some (.int .i64 c.done) ∧ (put6 w6 (w.heap.size) (.int .i64 c.who) (.int .i64 c.seen) (.slice b c.base.length bn) (.slice qq c.wait.length qn) (.int .i64 c.done) (.int .i64 c.made)).cell? ⟨w2.heap.size, 5, none⟩ = some (.int .i64 c.made)) := Lib.hid ⟨(six_cells HX39.out).1, (six_cells HX39.out).2.1, (six_cells HX39.out).2.2.1, (six_cells HX39.out).2.2.2.1, (six_cells HX39.out).2.2.2.2.1, (six_cells HX39.out).2.2.2.2.2.1⟩
   refine WB.one (i := 3) (by kernel_rfl) rfl (fun K hK => ?_)
   have HKK := Lib.hid hK
   clear hK
   go_simp
   refine HKK.out _ _ ⟨fun _ => HSx.out, ?_⟩
   clear HKK K z0 z1 z2 z3 z4 z5 zf
   try simp only [Act.put, List.setIfInBounds_toArray, List.set_cons_zero, List.set_cons_succ]
   have z0 := (five_cells HY9.out).1
   have z1 := (five_cells HY9.out).2.1
   have z2 := (five_cells HY9.out).2.2.1
   have z3 := (five_cells HY9.out).2.2.2.1
   have z4 := (five_cells HY9.out).2.2.2.2.1
   have zf := (five_cells HY9.out).2.2.2.2.2
   refine WB.one (i := 4) (by kernel_rfl) rfl (fun K hK => ?_)
   have HKK := Lib.hid hK
   clear hK
   go_simp
   refine HKK.out _ _ ⟨fun h => (no_late h (by kernel_rfl)).elim, ?_⟩
   clear HKK K z0 z1 z2 z3 z4 zf
   refine WB.done (by kernel_rfl) ?_
   go_wp2_with fail
   obtain ⟨hz, hy, hq1, hq2, hE⟩ := HF.out
   obtain ⟨k0, k1, k2, k3, k4, k5, kf⟩ := six_cells hz
   obtain ⟨l0, l1, l2, l3, l4, lf⟩ := five_cells hy
   refine bodyPost_ret (v := .tuple #[(.agg (cC c b bn qq qn)), o.val]) ?_ rfl ?_
   ·simp [Op.val, results, Tryd.f33, go_sem, k0, k1, k2, k3, k4, k5, l0, l1, l2, l3, l4]
   ·exact ⟨c, _, o, rfl, CT.cv ⟨b, bn, qq, qn, rfl, hq1, hq2⟩, HCW.out, HOO.out.1, HOO.out.2, hE⟩
  ·have HOK := Lib.hid (drew_parts hok)
   clear hok
   go_upto_region 5 with fail
   refine wp_region_B (fun w' => w'.cell? ⟨w2.heap.size, 0, none⟩ = some (.int .i64 c.who) ∧ w'.cell? ⟨w2.heap.size, 1, none⟩ = some (.int .i64 c.seen) ∧ w'.cell? ⟨w2.heap.size, 2, none⟩ = some (.slice b c.base.length bn) ∧ w'.cell? ⟨w2.heap.size, 3, none⟩ = some (.slice qq c.wait.length qn) ∧ w'.cell? ⟨w2.heap.size, 4, none⟩ = some (.int .i64 c.done) ∧ w'.cell? ⟨w2.heap.size, 5, none⟩ = some (.int .i64 c.made)) 13 (by kernel_rfl) ?_
   have hb5 : Ext w4 w4.drew := (Below.refl _ _).drew
   generalize w4.drew = w5 at *
   have HX1_5 := Lib.hid ((hb5.block _ (blk_lt HX1_4.out)).trans HX1_4.out); have HX2_5 := Lib.hid ((hb5.block _ (blk_lt HX2_4.out)).trans HX2_4.out); have HX3_5 := Lib.hid ((hb5.block _ (blk_lt HX3_4.out)).trans HX3_4.out)
   have H1_5 := Lib.hid (H1_4.out.ext hb5); have H2_5 := Lib.hid (H2_4.out.ext hb5); have HE_5 := Lib.hid (HE_4.out.trans (hb5.mono HE_4.out.size)); have HRD_5 := Lib.hid (HRD_4.out.ext hb5)
   clear HX1_4 HX2_4 HX3_4 H1_4 H2_4 HE_4 HRD_4
   clear hb5
   have HS : Hid (w5.cell? ⟨w2.heap.size, 0, none⟩ = some (.int .i64 c.who) ∧ w5.cell? ⟨w2.heap.size, 1, none⟩ = some (.int .i64 c.seen) ∧ w5.cell? ⟨w2.heap.size, 2, none⟩ = some (.slice b c.base.length bn) ∧ w5.cell? ⟨w2.heap.size, 3, none⟩ = some (.slice qq c.wait.length qn) ∧ w5.cell? ⟨w2.heap.size, 4, none⟩ = some (.int .i64 c.done) ∧ w5.cell? ⟨w2.heap.size, 5, none⟩ = some (.int .i64 c.made)) := Lib.hid ⟨(six_cells HX3_5.out).1, (six_cells HX3_5.out).2.1, (six_cells HX3_5.out).2.2.1, (six_cells HX3_5.out).2.2.2.1, (six_cells HX3_5.out).2.2.2.2.1, (six_cells HX3_5.out).2.2.2.2.2.1⟩
   refine WB.take (i := 0) (v := ?_) rfl (by kernel_rfl) (by kernel_rfl) (by kernel_rfl) (by kernel_rfl) (fun _ _ _ h => h) HS.out (Or.inl ⟨by rfl, ?_⟩) ?_
   rotate_left
   ·(rintro w ⟨s0, s1, s2, s3, s4, s5⟩; go_simp; try with_reducible rfl)
   try simp only [Act.put, List.setIfInBounds_toArray, List.set_cons_zero, List.set_cons_succ]
   refine WB.takeP (i := 1) (v := ?_) rfl (by kernel_rfl) (by kernel_rfl) (by kernel_rfl) (by kernel_rfl) (fun _ _ _ h => h) HS.out (Or.inl ⟨by rfl, ?_⟩) ?_
   rotate_left
   ·(rintro w -; go_simp; try with_reducible rfl)
   try simp only [Act.put, List.setIfInBounds_toArray, List.set_cons_zero, List.set_cons_succ]
   refine WB.takeP (i := 2) (v := ?_) rfl (by kernel_rfl) (by kernel_rfl) (by kernel_rfl) (by kernel_rfl) (fun _ _ _ h => h) HS.out (Or.inl ⟨by rfl, ?_⟩) ?_
   rotate_left
   ·(rintro w -; go_simp; try with_reducible rfl)
   try simp only [Act.put, List.setIfInBounds_toArray, List.set_cons_zero, List.set_cons_succ]
   refine WB.take (i := 3) (v := ?_) rfl (by kernel_rfl) (by kernel_rfl) (by kernel_rfl) (by kernel_rfl) (fun _ _ _ h => h) HS.out (Or.inl ⟨by rfl, ?_⟩) ?_
   rotate_left
   ·(rintro w ⟨s0, s1, s2, s3, s4, s5⟩; go_simp; try with_reducible rfl)
   try simp only [Act.put, List.setIfInBounds_toArray, List.set_cons_zero, List.set_cons_succ]
   refine WB.takeP (i := 4) (v := ?_) rfl (by kernel_rfl) (by kernel_rfl) (by kernel_rfl) (by kernel_rfl) (fun _ _ _ h => h) HS.out (Or.inl ⟨by rfl, ?_⟩) ?_
   rotate_left
   ·(rintro w -; go_simp; try with_reducible rfl)
   try simp only [Act.put, List.setIfInBounds_toArray, List.set_cons_zero, List.set_cons_succ]
   refine WB.take (i := 5) (v := ?_) rfl (by kernel_rfl) (by kernel_rfl) (by kernel_rfl) (by kernel_rfl) (fun _ _ _ h => h) HS.out (Or.inl ⟨by rfl, ?_⟩) ?_
   rotate_left
   ·(rintro w ⟨s0, s1, s2, s3, s4, s5⟩; go_simp; try with_reducible rfl)
   try simp only [Act.put, List.setIfInBounds_toArray, List.set_cons_zero, List.set_cons_succ]
   refine WB.takeP (i := 7) (v := ?_) rfl (by kernel_rfl) (by kernel_rfl) (by kernel_rfl) (by kernel_rfl) (fun _ _ _ h => h) HS.out (Or.inl ⟨by rfl, ?_⟩) ?_
   rotate_left
   ·(rintro w -; go_simp; try with_reducible rfl)
   try simp only [Act.put, List.setIfInBounds_toArray, List.set_cons_zero, List.set_cons_succ]
   refine WB.take (i := 8) (v := ?_) rfl (by kernel_rfl) (by kernel_rfl) (by kernel_rfl) (by kernel_rfl) (fun _ _ _ h => h) HS.out (Or.inl ⟨by rfl, ?_⟩) ?_
   rotate_left
   ·(rintro w ⟨s0, s1, s2, s3, s4, s5⟩; go_simp; try with_reducible rfl)
   try simp only [Act.put, List.setIfInBounds_toArray, List.set_cons_zero, List.set_cons_succ]
   refine WB.takeP (i := 9) (v := ?_) rfl (by kernel_rfl) (by kernel_rfl) (by kernel_rfl) (by kernel_rfl) (fun _ _ _ h => h) HS.out (Or.inl ⟨by rfl, ?_⟩) ?_
   rotate_left
   ·(rintro w -; go_simp; try with_reducible rfl)
   try simp only [Act.put, List.setIfInBounds_toArray, List.set_cons_zero, List.set_cons_succ]
   refine WB.take (i := 10) (v := ?_) rfl (by kernel_rfl) (by kernel_rfl) (by kernel_rfl) (by kernel_rfl) (fun _ _ _ h => h) HS.out (Or.inl ⟨by rfl, ?_⟩) ?_
   rotate_left
   ·(rintro w ⟨s0, s1, s2, s3, s4, s5⟩; go_simp; try with_reducible rfl)
   try simp only [Act.put, List.setIfInBounds_toArray, List.set_cons_zero, List.set_cons_succ]
   refine WB.one (i := 6) (by kernel_rfl) rfl (fun K hK => ?_)
   have HKK := Lib.hid hK
   clear hK
   go_simp
   refine (tree_s b bn c.base qq qn c.wait w5 H1_5.out.1 H2_5.out.1 HOK.out.1 HOK.out.2.1).mono ?_
   rintro e w6 ⟨v6, rfl, ho6, hb6⟩
   obtain ⟨G, gn, rfl, hr6⟩ := ho6.rd
   have hGb : ∀ b0 off, G = some ⟨b0, off, none⟩ → b0 ≠ r := fun b0 off e => by
    have h := ho6.blk b0 (by rw [e]; rfl); have h5 := HRD_5.out.lt
    omega
   have HX1_6 := Lib.hid ((hb6.block _ (blk_lt HX1_5.out)).trans HX1_5.out); have HX2_6 := Lib.hid ((hb6.block _ (blk_lt HX2_5.out)).trans HX2_5.out); have HX3_6 := Lib.hid ((hb6.block _ (blk_lt HX3_5.out)).trans HX3_5.out)
   have H1_6 := Lib.hid (H1_5.out.ext hb6); have H2_6 := Lib.hid (H2_5.out.ext hb6); have HE_6 := Lib.hid (HE_5.out.trans (hb6.mono HE_5.out.size)); have HRD_6 := Lib.hid (HRD_5.out.ext hb6)
   clear HX1_5 HX2_5 HX3_5 H1_5 H2_5 HE_5 HRD_5
   clear hb6 ho6
   have HR6 := Lib.hid hr6
   clear hr6
   have HS6 : Hid (w6.cell? ⟨w2.heap.size, 0, none⟩ = some (.int .i64 c.who) ∧ w6.cell? ⟨w2.heap.size, 1, none⟩ = some (.int .i64 c.seen) ∧ w6.cell? ⟨w2.heap.size, 2, none⟩ = some (.slice b c.base.length bn) ∧ w6.cell? ⟨w2.heap.size, 3, none⟩ = some (.slice qq c.wait.length qn) ∧ w6.cell? ⟨w2.heap.size, 4, none⟩ = some (.int .i64 c.done) ∧ w6.cell? ⟨w2.heap.size, 5, none⟩ = some (.int .i64 c.made)) := Lib.hid ⟨(six_cells HX3_6.out).1, (six_cells HX3_6.out).2.1, (six_cells HX3_6.out).2.2.1, (six_cells HX3_6.out).2.2.2.1, (six_cells HX3_6.out).2.2.2.2.1, (six_cells HX3_6.out).2.2.2.2.2.1⟩
   refine HKK.out _ _ ⟨fun _ => HS6.out, ?_⟩
   clear HKK K HS
   try simp only [Act.put, List.setIfInBounds_toArray, List.set_cons_zero, List.set_cons_succ]
   refine WB.one (i := 11) (by kernel_rfl) rfl (fun K hK => ?_)
   have HKK := Lib.hid hK
   clear hK
   go_simp
   refine (op_d r (p + 1) G gn (treeFrom c.base c.wait) c.who c.made w6 HRD_6.out (by omega) HR6.out HOK.out.2.2.1 hGb HOK.out.2.2.2.1 HOK.out.2.2.2.2).mono ?_
   rintro e w7 ⟨o, p', rfl, ho, -, -, hR7, hg7⟩
   rw [show o.val = .agg (cO o) from rfl]
   have HRD_7 := Lib.hid hR7
   have HX1_7 := Lib.hid ((hg7.block _ (blk_lt HX1_6.out) (fun e => by injection e with e; omega)).trans HX1_6.out); have HX2_7 := Lib.hid ((hg7.block _ (blk_lt HX2_6.out) (fun e => by injection e with e; omega)).trans HX2_6.out); have HX3_7 := Lib.hid ((hg7.block _ (blk_lt HX3_6.out) (fun e => by injection e with e; omega)).trans HX3_6.out)
   have H1_7 := Lib.hid (H1_6.out.grow hg7 HRD_6.out (by decide)); have H2_7 := Lib.hid (H2_6.out.grow hg7 HRD_6.out (by decide)); have HE_7 := Lib.hid (ext_grown HE_6.out hg7 (by have := HE_6.out.size; omega) (fun k e => by injection e with e; omega))
   clear HX1_6 HX2_6 HX3_6 H1_6 H2_6 HE_6 HRD_6
   clear hg7 hR7
   have HOO := Lib.hid (⟨ho.w, by have := ho.2.1; unfold maxLen; omega⟩ : OpW o ∧ o.text.size ≤ maxLen)
   have HS7 : Hid (w7.cell? ⟨w2.heap.size, 0, none⟩ = some (.int .i64 c.who) ∧ w7.cell? ⟨w2.heap.size, 1, none⟩ = some (.int .i64 c.seen) ∧ w7.cell? ⟨w2.heap.size, 2, none⟩ = some (.slice b c.base.length bn) ∧ w7.cell? ⟨w2.heap.size, 3, none⟩ = some (.slice qq c.wait.length qn) ∧ w7.cell? ⟨w2.heap.size, 4, none⟩ = some (.int .i64 c.done) ∧ w7.cell? ⟨w2.heap.size, 5, none⟩ = some (.int .i64 c.made)) := Lib.hid ⟨(six_cells HX3_7.out).1, (six_cells HX3_7.out).2.1, (six_cells HX3_7.out).2.2.1, (six_cells HX3_7.out).2.2.2.1, (six_cells HX3_7.out).2.2.2.2.1, (six_cells HX3_7.out).2.2.2.2.2.1⟩
   clear ho
   have hz := put6_at (.int .i64 c.who) (.int .i64 c.seen) (.slice b c.base.length bn) (.slice qq c.wait.length qn) (.int .i64 c.done) (.int .i64 c.made) HX1_7.out
   have hy := put5_at (.int .i64 o.kind) (.int .i64 o.id) (.int .i64 o.up) (.int .i64 o.pos) (.string o.text) ((put6_far (.int .i64 c.who) (.int .i64 c.seen) (.slice b c.base.length bn) (.slice qq c.wait.length qn) (.int .i64 c.done) (.int .i64 c.made) (show w.heap.size + 1 ≠ w.heap.size from by omega)).trans HX2_7.out)
   have hq1 := (H1_7.out.put6 HX1_7.out (by decide) (.int .i64 c.who) (.int .i64 c.seen) (.slice b c.base.length bn) (.slice qq c.wait.length qn) (.int .i64 c.done) (.int .i64 c.made)).put5 ((put6_far (.int .i64 c.who) (.int .i64 c.seen) (.slice b c.base.length bn) (.slice qq c.wait.length qn) (.int .i64 c.done) (.int .i64 c.made) (show w.heap.size + 1 ≠ w.heap.size from by omega)).trans HX2_7.out) (by decide) (.int .i64 o.kind) (.int .i64 o.id) (.int .i64 o.up) (.int .i64 o.pos) (.string o.text)
   have hq2 := (H2_7.out.put6 HX1_7.out (by decide) (.int .i64 c.who) (.int .i64 c.seen) (.slice b c.base.length bn) (.slice qq c.wait.length qn) (.int .i64 c.done) (.int .i64 c.made)).put5 ((put6_far (.int .i64 c.who) (.int .i64 c.seen) (.slice b c.base.length bn) (.slice qq c.wait.length qn) (.int .i64 c.done) (.int .i64 c.made) (show w.heap.size + 1 ≠ w.heap.size from by omega)).trans HX2_7.out) (by decide) (.int .i64 o.kind) (.int .i64 o.id) (.int .i64 o.up) (.int .i64 o.pos) (.string o.text)
   have hE := put5_below (.int .i64 o.kind) (.int .i64 o.id) (.int .i64 o.up) (.int .i64 o.pos) (.string o.text) (put6_below (.int .i64 c.who) (.int .i64 c.seen) (.slice b c.base.length bn) (.slice qq c.wait.length qn) (.int .i64 c.done) (.int .i64 c.made) HE_7.out (Nat.le_refl w.heap.size)) (show w.heap.size ≤ w.heap.size + 1 from by omega)
   have HF := Lib.hid (⟨(put5_far (.int .i64 o.kind) (.int .i64 o.id) (.int .i64 o.up) (.int .i64 o.pos) (.string o.text) (show w.heap.size ≠ w.heap.size + 1 from by omega)).trans hz, hy, hq1, hq2, hE⟩ : _ ∧ _ ∧ _ ∧ _ ∧ _)
   have HY9 := Lib.hid ((put6_far (.int .i64 c.who) (.int .i64 c.seen) (.slice b c.base.length bn) (.slice qq c.wait.length qn) (.int .i64 c.done) (.int .i64 c.made) (show w.heap.size + 1 ≠ w.heap.size from by omega)).trans HX2_7.out)
   have HX39 := Lib.hid ((put6_far (.int .i64 c.who) (.int .i64 c.seen) (.slice b c.base.length bn) (.slice qq c.wait.length qn) (.int .i64 c.done) (.int .i64 c.made) (show w2.heap.size ≠ w.heap.size from by omega)).trans HX3_7.out)
   clear hz hy hq1 hq2 hE
   refine HKK.out _ _ ⟨fun _ => HS7.out, ?_⟩
   clear HKK K
   try simp only [Act.put, List.setIfInBounds_toArray, List.set_cons_zero, List.set_cons_succ]
   have z0 := (six_cells HX1_7.out).1
   have z1 := (six_cells HX1_7.out).2.1
   have z2 := (six_cells HX1_7.out).2.2.1
   have z3 := (six_cells HX1_7.out).2.2.2.1
   have z4 := (six_cells HX1_7.out).2.2.2.2.1
   have z5 := (six_cells HX1_7.out).2.2.2.2.2.1
   have zf := (six_cells HX1_7.out).2.2.2.2.2.2
   have HSx : Hid ((put6 w7 (w.heap.size) (.int .i64 c.who) (.int .i64 c.seen) (.slice b c.base.length bn) (.slice qq c.wait.length qn) (.int .i64 c.done) (.int .i64 c.made)).cell? ⟨w2.heap.size, 0, none⟩ = some (.int .i64 c.who) ∧ (put6 w7 (w.heap.size) (.int .i64 c.who) (.int .i64 c.seen) (.slice b c.base.length bn) (.slice qq c.wait.length qn) (.int .i64 c.done) (.int .i64 c.made)).cell? ⟨w2.heap.size, 1, none⟩ = some (.int .i64 c.seen) ∧ (put6 w7 (w.heap.size) (.int .i64 c.who) (.int .i64 c.seen) (.slice b c.base.length bn) (.slice qq c.wait.length qn) (.int .i64 c.done) (.int .i64 c.made)).cell? ⟨w2.heap.size, 2, none⟩ = some (.slice b c.base.length bn) ∧ (put6 w7 (w.heap.size) (.int .i64 c.who) (.int .i64 c.seen) (.slice b c.base.length bn) (.slice qq c.wait.length qn) (.int .i64 c.done) (.int .i64 c.made)).cell? ⟨w2.heap.size, 3, none⟩ = some (.slice qq c.wait.length qn) ∧ (put6 w7 (w.heap.size) (.int .i64 c.who) (.int .i64 c.seen) (.slice b c.base.length bn) (.slice qq c.wait.length qn) (.int .i64 c.done) (.int .i64 c.made)).cell? ⟨w2.heap.size, 4, none⟩ = some (.int .i64 c.done) ∧ (put6 w7 (w.heap.size) (.int .i64 c.who) (.int .i64 c.seen) (.slice b c.base.length bn) (.slice qq c.wait.length qn) (.int .i64 c.done) (.int .i64 c.made)).cell? ⟨w2.heap.size, 5, none⟩ = some (.int .i64 c.made)) := Lib.hid ⟨(six_cells HX39.out).1, (six_cells HX39.out).2.1, (six_cells HX39.out).2.2.1, (six_cells HX39.out).2.2.2.1, (six_cells HX39.out).2.2.2.2.1, (six_cells HX39.out).2.2.2.2.2.1⟩
   refine WB.one (i := 12) (by kernel_rfl) rfl (fun K hK => ?_)
   have HKK := Lib.hid hK
   clear hK
   go_simp
   refine HKK.out _ _ ⟨fun _ => HSx.out, ?_⟩
   clear HKK K z0 z1 z2 z3 z4 z5 zf
   try simp only [Act.put, List.setIfInBounds_toArray, List.set_cons_zero, List.set_cons_succ]
   have z0 := (five_cells HY9.out).1
   have z1 := (five_cells HY9.out).2.1
   have z2 := (five_cells HY9.out).2.2.1
   have z3 := (five_cells HY9.out).2.2.2.1
   have z4 := (five_cells HY9.out).2.2.2.2.1
   have zf := (five_cells HY9.out).2.2.2.2.2
   refine WB.one (i := 13) (by kernel_rfl) rfl (fun K hK => ?_)
   have HKK := Lib.hid hK
   clear hK
   go_simp
   refine HKK.out _ _ ⟨fun h => (no_late h (by kernel_rfl)).elim, ?_⟩
   clear HKK K z0 z1 z2 z3 z4 zf
   refine WB.done (by kernel_rfl) ?_
   go_wp2_with fail
   obtain ⟨hz, hy, hq1, hq2, hE⟩ := HF.out
   obtain ⟨k0, k1, k2, k3, k4, k5, kf⟩ := six_cells hz
   obtain ⟨l0, l1, l2, l3, l4, lf⟩ := five_cells hy
   refine bodyPost_ret (v := .tuple #[(.agg (cC c b bn qq qn)), o.val]) ?_ rfl ?_
   ·simp [Op.val, results, Tryd.f33, go_sem, k0, k1, k2, k3, k4, k5, l0, l1, l2, l3, l4]
   ·exact ⟨c, _, o, rfl, CT.cv ⟨b, bn, qq, qn, rfl, hq1, hq2⟩, HCW.out, HOO.out.1, HOO.out.2, hE⟩
end Go.Proofs.YtjhbbgeebobcpaaDoor
