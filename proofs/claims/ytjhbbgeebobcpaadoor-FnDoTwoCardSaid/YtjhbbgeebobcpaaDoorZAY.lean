/- Walk of the draw of an event. -/
import Derived.Test.YtjhbbgeebobcpaaDoorZAX
import Derived.Test.YtjhbbgeebobcpaaDoorZAP
namespace Go.Proofs.YtjhbbgeebobcpaaDoor
open Go.RowKit Go.Lib
set_option linter.unusedVariables false
set_option linter.unusedSimpArgs false
abbrev put8 (W : World) (b : Nat) (v0 v1 v2 v3 v4 v5 v6 v7 : Value) : World :=
 (((((((W.setCell ⟨b, 0, none⟩ v0).setCell ⟨b, 1, none⟩ v1).setCell ⟨b, 2, none⟩ v2).setCell ⟨b, 3, none⟩ v3).setCell ⟨b, 4, none⟩ v4).setCell ⟨b, 5, none⟩ v5).setCell ⟨b, 6, none⟩ v6).setCell ⟨b, 7, none⟩ v7
theorem put8_at {W : World} {b : Nat} {a0 a1 a2 a3 a4 a5 a6 a7 : Value} {ty : TypeId} (v0 v1 v2 v3 v4 v5 v6 v7 : Value) (h : W.heap[b]? = some (.cells #[a0, a1, a2, a3, a4, a5, a6, a7] ty (0, 0))) : (put8 W b v0 v1 v2 v3 v4 v5 v6 v7).heap[b]? = some (.cells #[v0, v1, v2, v3, v4, v5, v6, v7] ty (0, 0)) := by
 have h1 : (W.setCell ⟨b, 0, none⟩ v0).heap[b]? = some (.cells #[v0, a1, a2, a3, a4, a5, a6, a7] ty (0, 0)) := set_at h
 have h2 : ((W.setCell ⟨b, 0, none⟩ v0).setCell ⟨b, 1, none⟩ v1).heap[b]? = some (.cells #[v0, v1, a2, a3, a4, a5, a6, a7] ty (0, 0)) := set_at h1
 have h3 : (((W.setCell ⟨b, 0, none⟩ v0).setCell ⟨b, 1, none⟩ v1).setCell ⟨b, 2, none⟩ v2).heap[b]? = some (.cells #[v0, v1, v2, a3, a4, a5, a6, a7] ty (0, 0)) := set_at h2
 have h4 : ((((W.setCell ⟨b, 0, none⟩ v0).setCell ⟨b, 1, none⟩ v1).setCell ⟨b, 2, none⟩ v2).setCell ⟨b, 3, none⟩ v3).heap[b]? = some (.cells #[v0, v1, v2, v3, a4, a5, a6, a7] ty (0, 0)) := set_at h3
 have h5 : (((((W.setCell ⟨b, 0, none⟩ v0).setCell ⟨b, 1, none⟩ v1).setCell ⟨b, 2, none⟩ v2).setCell ⟨b, 3, none⟩ v3).setCell ⟨b, 4, none⟩ v4).heap[b]? = some (.cells #[v0, v1, v2, v3, v4, a5, a6, a7] ty (0, 0)) := set_at h4
 have h6 : ((((((W.setCell ⟨b, 0, none⟩ v0).setCell ⟨b, 1, none⟩ v1).setCell ⟨b, 2, none⟩ v2).setCell ⟨b, 3, none⟩ v3).setCell ⟨b, 4, none⟩ v4).setCell ⟨b, 5, none⟩ v5).heap[b]? = some (.cells #[v0, v1, v2, v3, v4, v5, a6, a7] ty (0, 0)) := set_at h5
 have h7 : (((((((W.setCell ⟨b, 0, none⟩ v0).setCell ⟨b, 1, none⟩ v1).setCell ⟨b, 2, none⟩ v2).setCell ⟨b, 3, none⟩ v3).setCell ⟨b, 4, none⟩ v4).setCell ⟨b, 5, none⟩ v5).setCell ⟨b, 6, none⟩ v6).heap[b]? = some (.cells #[v0, v1, v2, v3, v4, v5, v6, a7] ty (0, 0)) := set_at h6
 have h8 : ((((((((W.setCell ⟨b, 0, none⟩ v0).setCell ⟨b, 1, none⟩ v1).setCell ⟨b, 2, none⟩ v2).setCell ⟨b, 3, none⟩ v3).setCell ⟨b, 4, none⟩ v4).setCell ⟨b, 5, none⟩ v5).setCell ⟨b, 6, none⟩ v6).setCell ⟨b, 7, none⟩ v7).heap[b]? = some (.cells #[v0, v1, v2, v3, v4, v5, v6, v7] ty (0, 0)) := set_at h7
 exact h8
def EvOk (e : Ev) : Prop := OpW e.op ∧ e.op.text.size ≤ maxLen
def EvP (r p : Nat) (w : World) (x : Ending) (w' : World) : Prop := ∃ (e : Ev) (p' : Nat), x = .returned (.agg #[.int .i64 e.kind, .int .i64 e.who, .int .i64 e.n, .int .i64 e.op.kind, .int .i64 e.op.id, .int .i64 e.op.up, .int .i64 e.op.pos, .string e.op.text]) ∧ EvOk e ∧ p ≤ p' ∧ p' ≤ p + 60 ∧ Rdr w' r p' ∧ w.grownBy w' (some r)
theorem opW0 : OpW ⟨0, 0, 0, 0, ⟨#[]⟩⟩ := by unfold OpW i64; decide
def EvS (Z w0 : World) (r p K : Nat) (X : Obj) (cb : Nat) (Y : Obj) (w : World) : Prop :=
 KeepT Z w ∧ (∃ q, p ≤ q ∧ q ≤ p + K ∧ Rdr w r q) ∧ w0.grownBy w (some r) ∧ w.heap[w0.heap.size]? = some X ∧ w.heap[w0.heap.size + 1]? = some (.cells #[.int .i64 0, .int .i64 0, .int .i64 0, .int .i64 0, .int .i64 0, .int .i64 0, .int .i64 0, .string ⟨#[]⟩] 147 (0, 0)) ∧ w.heap[cb]? = some Y
theorem EvS.step {Z w0 w w' : World} {r p K q cb d q' : Nat} {X Y : Obj} (h : EvS Z w0 r p K X cb Y w) (hr : r < w0.heap.size) (hc : w0.heap.size < cb) (hR : Rdr w' r q') (hg : w.grownBy w' (some r)) (hq : p ≤ q ∧ q ≤ p + K) (hq' : q ≤ q' ∧ q' ≤ q + d) : EvS Z w0 r p (K + d) X cb Y w' := by
 obtain ⟨hk, ⟨q0, -, -, A, c, bs, hbk, -⟩, hG, hw, hz, hy⟩ := h
 exact ⟨hk.trans (KeepT.grown hg hbk (by decide) (by decide) (by decide) (by decide)), ⟨q', by omega, by omega, hR⟩, gtrans hG hg, (hg.block _ (by have := hG.size; exact blk_lt hw) (fun e => by injection e with e; omega)).trans hw, (hg.block _ (blk_lt hz) (fun e => by injection e with e; omega)).trans hz, (hg.block _ (blk_lt hy) (fun e => by injection e with e; omega)).trans hy⟩
theorem EvS.fin {Z w0 w : World} {r p K cb : Nat} {X Y : Obj} (h : EvS Z w0 r p K X cb Y w) (hr : r < w0.heap.size) (e : Ev) (ho : EvOk e) (hK : K ≤ 60) :
  EvP r p w0 (.returned (.agg (cV e))) (put8 w (w0.heap.size + 1) (.int .i64 e.kind) (.int .i64 e.who) (.int .i64 e.n) (.int .i64 e.op.kind) (.int .i64 e.op.id) (.int .i64 e.op.up) (.int .i64 e.op.pos) (.string e.op.text)) ∧ (put8 w (w0.heap.size + 1) (.int .i64 e.kind) (.int .i64 e.who) (.int .i64 e.n) (.int .i64 e.op.kind) (.int .i64 e.op.id) (.int .i64 e.op.up) (.int .i64 e.op.pos) (.string e.op.text)).heap[w0.heap.size + 1]? = some (.cells (cV e) 147 (0, 0)) := by
 obtain ⟨-, ⟨q, h1, h2, hR⟩, hG, hw, hz, hy⟩ := h
 refine ⟨⟨e, q, rfl, ho, h1, by omega, hR.other (gset (gset (gset (gset (gset (gset (gset (gset_any _ _ _ _) _ _) _ _) _ _) _ _) _ _) _ _) _ _) (by omega), ?_⟩, put8_at _ _ _ _ _ _ _ _ hz⟩
 have hb : w0.heap.size ≤ w0.heap.size + 1 := Nat.le_succ _
 exact gset_new (gset_new (gset_new (gset_new (gset_new (gset_new (gset_new (gset_new hG hb _ _) hb _ _) hb _ _) hb _ _) hb _ _) hb _ _) hb _ _) hb _ _
theorem EvS.ext {Z w0 w w' : World} {r p K cb : Nat} {X Y : Obj} (h : EvS Z w0 r p K X cb Y w) (hb : Ext w w') : EvS Z w0 r p K X cb Y w' := by
 obtain ⟨hk, ⟨q, h1, h2, hR⟩, hG, hw, hz, hy⟩ := h
 exact ⟨hk.trans (KeepT.ext hb), ⟨q, h1, h2, hR.ext hb⟩, gtrans hG (gext hb), (hb.block _ (blk_lt hw)).trans hw, (hb.block _ (blk_lt hz)).trans hz, (hb.block _ (blk_lt hy)).trans hy⟩
set_option maxRecDepth 100000 in
set_option maxHeartbeats 4000000 in
theorem event_d (r p : Nat) (wd : Wd) (base : Nat) (L : Option Addr) (ln : Nat) (C : Option Addr) (cc : Nat) (N : Option Addr) (nc : Nat) (xs : List RC) (ys : List RL) (w : World) (h : Rdr w r p) (hp : p < 999000000) (hpw : WP w base wd L ln C cc N nc xs ys) (hw : WInv wd) (hrb : r < base) :
  Calls Tryd.prog 105 #[.pointer (some ⟨r, 0, none⟩), .agg (cW wd L ln C xs cc N ys nc)] w (EvP r p w) := by
 have hrl := h.lt
 have h2 := two_new w (oW wd L ln C xs cc N ys nc) (.cells #[.int .i64 0, .int .i64 0, .int .i64 0, .int .i64 0, .int .i64 0, .int .i64 0, .int .i64 0, .string ⟨#[]⟩] 147)
 have hE2 : Ext w ((w.alloc (oW wd L ln C xs cc N ys nc)).alloc (.cells #[.int .i64 0, .int .i64 0, .int .i64 0, .int .i64 0, .int .i64 0, .int .i64 0, .int .i64 0, .string ⟨#[]⟩] 147)) := ((Below.refl _ w).alloc (Nat.le_refl _) _).alloc (by rw [alloc_sz]; omega) _
 have hz2 : ((w.alloc (oW wd L ln C xs cc N ys nc)).alloc (.cells #[.int .i64 0, .int .i64 0, .int .i64 0, .int .i64 0, .int .i64 0, .int .i64 0, .int .i64 0, .string ⟨#[]⟩] 147)).heap.size = w.heap.size + 2 := by rw [alloc_sz, alloc_sz]
 have HX1 := Lib.hid h2.1; have HX2 := Lib.hid h2.2; have HE2 := Lib.hid hE2
 have HP := Lib.hid hpw; have HW := Lib.hid hw; have HR := Lib.hid (h.ext hE2)
 have hxl : xs.length = 3 := by have := hpw.cls.1; have := hw.three; omega
 have hyl : ys.length ≤ 12 := by have := hpw.nets.1; have := hw.net; omega
 have HXL := Lib.hid hxl
 clear h2 hE2 hpw hw h hxl
 go_enter Tryd.func105, Tryd.ntmps105
 go_wp2_with fail
 generalize ((w.alloc (oW wd L ln C xs cc N ys nc)).alloc (.cells #[.int .i64 0, .int .i64 0, .int .i64 0, .int .i64 0, .int .i64 0, .int .i64 0, .int .i64 0, .string ⟨#[]⟩] 147)) = W2 at *
 refine (pick_c r p 3 _ HR.out (by omega) ⟨by omega, by omega⟩).mono ?_
 rintro r9 w1 ⟨v, rfl, hv0, hv1, -, hR1, hg1⟩
 have hvb := hv1 (by omega)
 obtain ⟨i, rfl⟩ : ∃ i : Nat, v = i := ⟨v.toNat, by omega⟩
 have hi3 : i < 3 := by omega
 have hg01 : w.grownBy w1 (some r) := gtrans (gext HE2.out) hg1
 have hk1 : KeepT w w1 := (KeepT.ext HE2.out).trans (by
  obtain ⟨A, c, bs, hbk, -⟩ := HR.out
  exact KeepT.grown hg1 hbk (by decide) (by decide) (by decide) (by decide))
 have hb1 := (hg1.block _ (blk_lt HX1.out) (fun e => by injection e with e; omega)).trans HX1.out
 have hz1 := (hg1.block _ (blk_lt HX2.out) (fun e => by injection e with e; omega)).trans HX2.out
 have hpw1 := HP.out.keep hk1
 have hi1 : i < xs.length := by have := HXL.out; omega
 have hi2 : i < wd.cls.length := by have := HW.out.three; omega
 obtain ⟨xb, xo, rfl, hbx, x0, x1, x2, x3, x4, x5⟩ := rc_at hpw1.cli.rdT.1 i hi1
 obtain ⟨cb, cbn, cq, cqn, hxi, hr1, hr2⟩ := hpw1.cls.2 i hi1 hi2
 rw [hxi] at x0 x1 x2 x3 x4 x5
 dsimp only at x0 x1 x2 x3 x4 x5
 have HCO := Lib.hid (HW.out.cls _ (List.getElem_mem hi2))
 generalize wd.cls[i] = c at *
 obtain ⟨b0, b1, b2, b3, b4, bf⟩ := five_cells hb1
 have hil : (i : Int) < xs.length := by omega
 have hw1 : IntKind.i64.wrap (1 + (i : Int)) = 1 + (i : Int) := by rw [IntKind.wrap_i64]; omega
 have hw2 : IntKind.i64.wrap (1 + (i : Int) - 1) = (i : Int) := by rw [IntKind.wrap_i64]; omega
 have HB1 := Lib.hid hb1; have HZ1 := Lib.hid hz1; have HG1 := Lib.hid hg01; have HR1 := Lib.hid hR1; have HC1 := Lib.hid hr1; have HC2 := Lib.hid hr2; have HPW1 := Lib.hid hpw1
 have hs1 := hg01.size
 have hs2 := blk_lt hz1
 clear hv1 hvb hR1 hg1 hg01 hk1 hb1 hz1 hxi hr1 hr2 hv0 hpw1
 go_wp2_with fail
 have hE3 : Ext w1 (w1.alloc (oC c cb cbn cq cqn)) := (Below.refl _ _).alloc (Nat.le_refl _) _
 have hS : EvS (w1.alloc (oC c cb cbn cq cqn)) w r p 1 _ w1.heap.size (.cells (cC c cb cbn cq cqn) 30 (0, 0)) (w1.alloc (oC c cb cbn cq cqn)) := ⟨KeepT.ext (Below.refl _ _), ⟨p + 1, by omega, by omega, HR1.out.ext hE3⟩, gtrans HG1.out (gext hE3), (hE3.block _ (blk_lt HB1.out)).trans HB1.out, (hE3.block _ (blk_lt HZ1.out)).trans HZ1.out, World.alloc_heap_new w1 (oC c cb cbn cq cqn)⟩
 have HS := Lib.hid hS
 have HP3 := Lib.hid (HPW1.out.ext hE3); have HC3 := Lib.hid (HC1.out.ext hE3); have HQ3 := Lib.hid (HC2.out.ext hE3)
 have hcb9 : w.heap.size < w1.heap.size := by omega
 clear hE3 hS x0 x1 x2 x3 x4 x5 b0 b1 b2 b3 b4 bf HX1 HX2 HR HB1 HZ1 HG1 HR1 HC1 HC2 HPW1
 generalize (w1.alloc (oC c cb cbn cq cqn)) = W3 at *
 obtain ⟨-, ⟨q, hq1, hq2, hRq⟩, hGq, hwq, hzq, hcq⟩ := HS.out
 skip
 refine (pick_c r q 14 _ hRq (by omega) ⟨by omega, by omega⟩).mono ?_
 rintro r9 w9 ⟨v, rfl, hv0, hv1, -, hR9, hg9⟩
 have hvb := hv1 (by omega)
 have HS4 := Lib.hid ((HS.out).step (d := 1) hrl hcb9 hR9 hg9 ⟨hq1, hq2⟩ ⟨by omega, by omega⟩)
 clear hRq hGq hwq hzq hcq hR9 hg9 hv1 hq1 hq2
 have hcases : (v = 0 ∨ v = 1 ∨ v = 2 ∨ v = 3) ∨ v = 4 ∨ (v = 5 ∨ v = 6) ∨ (v = 7 ∨ v = 8) ∨ v = 9 ∨ v = 10 ∨ (v = 11 ∨ v = 12 ∨ v = 13) := by omega
 clear hv0 hvb
 rcases hcases with hcases | hcases | hcases | hcases | hcases | hcases | hcases
 ·rcases hcases with rfl | rfl | rfl | rfl
  all_goals
   have hEd : Ext w9 w9.drew := (Below.refl _ _).drew
   have HSD := Lib.hid (HS4.out.ext hEd)
   have hcp := clientOk_parts HCO.out
   have hmd0 := hcp.2.2.2.2.2.2.2.1; have hmd1 := hcp.2.2.2.2.2.2.2.2.1
   have hent := waitOk_ent hcp.2.2.2.2.2.2.2.2.2
   have HTO := Lib.hid (treeFrom_ok hcp.2.2.2.1 hent)
   have HC := Lib.hid (tree_s cb cbn c.base cq cqn c.wait w9.drew ((HC3.out.keep HSD.out.1 (.inl rfl)).1) ((HQ3.out.keep HSD.out.1 (.inr (.inl rfl))).1) hcp.2.2.2.1 hent)
   clear hcp hent
   obtain ⟨-, -, -, hw9, hz9, hc9⟩ := HSD.out
   obtain ⟨b0, b1, b2, b3, b4, bf⟩ := five_cells hw9
   obtain ⟨z0, z1, z2, z3, z4, z5, z6, z7, zf⟩ := eight_cells hz9
   obtain ⟨c0, c1, c2, c3, c4, c5, cf⟩ := six_cells hc9
   clear hw9 hz9 hc9
   have HS : Hid (w9.drew.cell? ⟨w1.heap.size, 2, none⟩ = some (.slice cb c.base.length cbn) ∧ w9.drew.cell? ⟨w1.heap.size, 3, none⟩ = some (.slice cq c.wait.length cqn) ∧ w9.drew.cell? ⟨w1.heap.size, 5, none⟩ = some (.int .i64 c.made)) := Lib.hid ⟨c2, c3, c5⟩
   clear b0 b1 b2 b3 b4 bf z0 z1 z2 z3 z4 z5 z6 z7 zf c0 c1 c2 c3 c4 c5 cf
   go_upto_region 8 with fail
   refine wp_region_B (fun w' => w'.cell? ⟨w1.heap.size, 2, none⟩ = some (.slice cb c.base.length cbn) ∧ w'.cell? ⟨w1.heap.size, 3, none⟩ = some (.slice cq c.wait.length cqn) ∧ w'.cell? ⟨w1.heap.size, 5, none⟩ = some (.int .i64 c.made)) 12 (by kernel_rfl) ?_
   refine WB.take (i := 0) (v := ?_) rfl (by kernel_rfl) (by kernel_rfl) (by kernel_rfl) (by kernel_rfl) (fun _ _ _ h => h) HS.out (Or.inl ⟨by rfl, ?_⟩) ?_
   rotate_left
   ·(rintro w ⟨s0, s1, s2⟩; go_simp; try with_reducible rfl)
   try simp only [Act.put, List.setIfInBounds_toArray, List.set_cons_zero, List.set_cons_succ]
   refine WB.take (i := 1) (v := ?_) rfl (by kernel_rfl) (by kernel_rfl) (by kernel_rfl) (by kernel_rfl) (fun _ _ _ h => h) HS.out (Or.inl ⟨by rfl, ?_⟩) ?_
   rotate_left
   ·(rintro w ⟨s0, s1, s2⟩; go_simp; try with_reducible rfl)
   try simp only [Act.put, List.setIfInBounds_toArray, List.set_cons_zero, List.set_cons_succ]
   refine WB.take (i := 2) (v := ?_) rfl (by kernel_rfl) (by kernel_rfl) (by kernel_rfl) (by kernel_rfl) (fun _ _ _ h => h) HS.out (Or.inl ⟨by rfl, ?_⟩) ?_
   rotate_left
   ·(rintro w ⟨s0, s1, s2⟩; go_simp; try with_reducible rfl)
   try simp only [Act.put, List.setIfInBounds_toArray, List.set_cons_zero, List.set_cons_succ]
   refine WB.take (i := 3) (v := ?_) rfl (by kernel_rfl) (by kernel_rfl) (by kernel_rfl) (by kernel_rfl) (fun _ _ _ h => h) HS.out (Or.inl ⟨by rfl, ?_⟩) ?_
   rotate_left
   ·(rintro w ⟨s0, s1, s2⟩; go_simp; try with_reducible rfl)
   try simp only [Act.put, List.setIfInBounds_toArray, List.set_cons_zero, List.set_cons_succ]
   refine WB.take (i := 4) (v := ?_) rfl (by kernel_rfl) (by kernel_rfl) (by kernel_rfl) (by kernel_rfl) (fun _ _ _ h => h) HS.out (Or.inl ⟨by rfl, ?_⟩) ?_
   rotate_left
   ·(rintro w ⟨s0, s1, s2⟩; go_simp; try with_reducible rfl)
   try simp only [Act.put, List.setIfInBounds_toArray, List.set_cons_zero, List.set_cons_succ]
   refine WB.take (i := 5) (v := ?_) rfl (by kernel_rfl) (by kernel_rfl) (by kernel_rfl) (by kernel_rfl) (fun _ _ _ h => h) HS.out (Or.inl ⟨by rfl, ?_⟩) ?_
   rotate_left
   ·(rintro w ⟨s0, s1, s2⟩; go_simp; try with_reducible rfl)
   try simp only [Act.put, List.setIfInBounds_toArray, List.set_cons_zero, List.set_cons_succ]
   refine WB.take (i := 7) (v := ?_) rfl (by kernel_rfl) (by kernel_rfl) (by kernel_rfl) (by kernel_rfl) (fun _ _ _ h => h) HS.out (Or.inl ⟨by rfl, ?_⟩) ?_
   rotate_left
   ·(rintro w ⟨s0, s1, s2⟩; go_simp; try with_reducible rfl)
   try simp only [Act.put, List.setIfInBounds_toArray, List.set_cons_zero, List.set_cons_succ]
   refine WB.take (i := 8) (v := ?_) rfl (by kernel_rfl) (by kernel_rfl) (by kernel_rfl) (by kernel_rfl) (fun _ _ _ h => h) HS.out (Or.inl ⟨by rfl, ?_⟩) ?_
   rotate_left
   ·(rintro w ⟨s0, s1, s2⟩; go_simp; try with_reducible rfl)
   try simp only [Act.put, List.setIfInBounds_toArray, List.set_cons_zero, List.set_cons_succ]
   refine WB.take (i := 9) (v := ?_) rfl (by kernel_rfl) (by kernel_rfl) (by kernel_rfl) (by kernel_rfl) (fun _ _ _ h => h) HS.out (Or.inl ⟨by rfl, ?_⟩) ?_
   rotate_left
   ·(rintro w ⟨s0, s1, s2⟩; go_simp; try with_reducible rfl)
   try simp only [Act.put, List.setIfInBounds_toArray, List.set_cons_zero, List.set_cons_succ]
   refine WB.one (i := 6) (by kernel_rfl) rfl (fun K hK => ?_)
   have HKK := Lib.hid hK
   clear hK
   go_simp
   refine HC.out.mono ?_
   rintro r9 w5 ⟨v5, rfl, ho5, hb5⟩
   obtain ⟨T, tn, rfl, ht5⟩ := ho5.rd
   have HSE := Lib.hid (HSD.out.ext hb5)
   have hTA : ∀ b off, T = some ⟨b, off, none⟩ → b ≠ r := fun b off e => by
    have := (ho5.blk b (by rw [e]; rfl)).1
    have h2 := HSD.out.2.2.1.size
    show b ≠ r
    have h3 : w9.drew.heap.size = w9.heap.size := rfl
    omega
   have HT5 := Lib.hid ht5; have HTA := Lib.hid hTA
   generalize treeFrom c.base c.wait = tr at *
   clear ho5 ht5 hTA hb5
   have c2 := (six_cells HSE.out.2.2.2.2.2).2.2.1
   have c3 := (six_cells HSE.out.2.2.2.2.2).2.2.2.1
   have c5 := (six_cells HSE.out.2.2.2.2.2).2.2.2.2.2.1
   have HS5 : Hid (w5.cell? ⟨w1.heap.size, 2, none⟩ = some (.slice cb c.base.length cbn) ∧ w5.cell? ⟨w1.heap.size, 3, none⟩ = some (.slice cq c.wait.length cqn) ∧ w5.cell? ⟨w1.heap.size, 5, none⟩ = some (.int .i64 c.made)) := Lib.hid ⟨c2, c3, c5⟩
   clear c2 c3 c5
   refine HKK.out _ _ ⟨fun _ => HS5.out, ?_⟩
   clear HKK K HS HC
   try simp only [Act.put, List.setIfInBounds_toArray, List.set_cons_zero, List.set_cons_succ]
   refine WB.one (i := 10) (by kernel_rfl) rfl (fun K hK => ?_)
   have HKK := Lib.hid hK
   clear hK
   go_simp
   have hq := HSE.out.2.1
   refine Exists.elim hq ?_
   intro q hq9
   have hq1 := hq9.1; have hq2 := hq9.2.1
   refine (op_d r q T tn tr (1 + (i : Int)) c.made _ hq9.2.2 (by omega) HT5.out HTO.out HTA.out ⟨by omega, by omega⟩ ⟨by omega, by omega⟩).mono ?_
   rintro r9 w8 ⟨op, q2, rfl, hod, hq3, hq4, hR9, hg9⟩
   rw [show op.val = .agg (cO op) from rfl]
   have HSF := Lib.hid (HSE.out.step (d := 30) hrl hcb9 hR9 hg9 ⟨hq1, hq2⟩ ⟨by omega, by omega⟩)
   have HOD : Hid (EvOk (⟨1, (1 + (i : Int)), 0, op⟩ : Ev)) := ⟨hod.w, Nat.le_trans hod.2.1 (by unfold maxLen; omega)⟩
   clear hq hq9 hR9 hg9 hod hq1 hq2 hq3 hq4
   have c2 := (six_cells HSF.out.2.2.2.2.2).2.2.1
   have c3 := (six_cells HSF.out.2.2.2.2.2).2.2.2.1
   have c5 := (six_cells HSF.out.2.2.2.2.2).2.2.2.2.2.1
   have HS8 : Hid (w8.cell? ⟨w1.heap.size, 2, none⟩ = some (.slice cb c.base.length cbn) ∧ w8.cell? ⟨w1.heap.size, 3, none⟩ = some (.slice cq c.wait.length cqn) ∧ w8.cell? ⟨w1.heap.size, 5, none⟩ = some (.int .i64 c.made)) := Lib.hid ⟨c2, c3, c5⟩
   clear c2 c3 c5
   refine HKK.out _ _ ⟨fun _ => HS8.out, ?_⟩
   clear HKK K HS5
   try simp only [Act.put, List.setIfInBounds_toArray, List.set_cons_zero, List.set_cons_succ]
   refine WB.takeP (i := 11) (v := ?_) rfl (by kernel_rfl) (by kernel_rfl) (by kernel_rfl) (by kernel_rfl) (fun _ _ _ h => h) HS8.out (Or.inl ⟨by rfl, ?_⟩) ?_
   rotate_left
   ·(rintro w -; go_simp; try with_reducible rfl)
   try simp only [Act.put, List.setIfInBounds_toArray, List.set_cons_zero, List.set_cons_succ]
   refine WB.one (i := 12) (by kernel_rfl) rfl (fun K hK => ?_)
   have HKK := Lib.hid hK
   clear hK
   have z0 := (eight_cells HSF.out.2.2.2.2.1).1
   have z1 := (eight_cells HSF.out.2.2.2.2.1).2.1
   have z2 := (eight_cells HSF.out.2.2.2.2.1).2.2.1
   have z3 := (eight_cells HSF.out.2.2.2.2.1).2.2.2.1
   have z4 := (eight_cells HSF.out.2.2.2.2.1).2.2.2.2.1
   have z5 := (eight_cells HSF.out.2.2.2.2.1).2.2.2.2.2.1
   have z6 := (eight_cells HSF.out.2.2.2.2.1).2.2.2.2.2.2.1
   have z7 := (eight_cells HSF.out.2.2.2.2.1).2.2.2.2.2.2.2.1
   have zf := (eight_cells HSF.out.2.2.2.2.1).2.2.2.2.2.2.2.2
   go_simp
   refine HKK.out _ _ ⟨fun h => (no_late h (by kernel_rfl)).elim, ?_⟩
   clear HKK K z0 z1 z2 z3 z4 z5 z6 z7 zf HS8
   refine WB.done (by kernel_rfl) ?_
   have HF := Lib.hid ((HSF.out).fin hrl (⟨1, (1 + (i : Int)), 0, op⟩ : Ev) HOD.out (by omega))
   go_wp2_with fail
   obtain ⟨k0, k1, k2, k3, k4, k5, k6, k7, kf⟩ := eight_cells HF.out.2
   refine bodyPost_ret (v := .agg #[.int .i64 1, .int .i64 (1 + (i : Int)), .int .i64 0, .int .i64 op.kind, .int .i64 op.id, .int .i64 op.up, .int .i64 op.pos, .string op.text]) ?_ rfl ?_
   ·simp [results, Tryd.f105, go_sem, k0, k1, k2, k3, k4, k5, k6, k7]
   ·exact HF.out.1
 ·subst hcases
  obtain ⟨-, -, -, hw9, hz9, hc9⟩ := HS4.out
  obtain ⟨b0, b1, b2, b3, b4, bf⟩ := five_cells hw9
  obtain ⟨z0, z1, z2, z3, z4, z5, z6, z7, zf⟩ := eight_cells hz9
  obtain ⟨c0, c1, c2, c3, c4, c5, cf⟩ := six_cells hc9
  clear hw9 hz9 hc9
  have HF := Lib.hid ((HS4.out).fin hrl (⟨2, (1 + (i : Int)), 0, ⟨0, 0, 0, 0, ⟨#[]⟩⟩⟩ : Ev) ⟨opW0, Nat.zero_le _⟩ (by omega))
  go_wp2_with fail
  obtain ⟨k0, k1, k2, k3, k4, k5, k6, k7, kf⟩ := eight_cells HF.out.2
  refine bodyPost_ret (v := .agg #[.int .i64 2, .int .i64 (1 + (i : Int)), .int .i64 0, .int .i64 0, .int .i64 0, .int .i64 0, .int .i64 0, .string ⟨#[]⟩]) ?_ rfl ?_
  ·simp [results, Tryd.f105, go_sem, k0, k1, k2, k3, k4, k5, k6, k7]
  ·exact HF.out.1
 ·rcases hcases with rfl | rfl
  all_goals
   obtain ⟨-, -, -, hw9, hz9, hc9⟩ := HS4.out
   obtain ⟨b0, b1, b2, b3, b4, bf⟩ := five_cells hw9
   obtain ⟨z0, z1, z2, z3, z4, z5, z6, z7, zf⟩ := eight_cells hz9
   obtain ⟨c0, c1, c2, c3, c4, c5, cf⟩ := six_cells hc9
   clear hw9 hz9 hc9
   have HF := Lib.hid ((HS4.out).fin hrl (⟨3, 0, 0, ⟨0, 0, 0, 0, ⟨#[]⟩⟩⟩ : Ev) ⟨opW0, Nat.zero_le _⟩ (by omega))
   go_wp2_with fail
   obtain ⟨k0, k1, k2, k3, k4, k5, k6, k7, kf⟩ := eight_cells HF.out.2
   refine bodyPost_ret (v := .agg #[.int .i64 3, .int .i64 0, .int .i64 0, .int .i64 0, .int .i64 0, .int .i64 0, .int .i64 0, .string ⟨#[]⟩]) ?_ rfl ?_
   ·simp [results, Tryd.f105, go_sem, k0, k1, k2, k3, k4, k5, k6, k7]
   ·exact HF.out.1
 ·rcases hcases with rfl | rfl
  all_goals
   have hEd : Ext w9 w9.drew := (Below.refl _ _).drew
   have HSD := Lib.hid (HS4.out.ext hEd)
   obtain ⟨-, -, -, hw9, hz9, hc9⟩ := HSD.out
   obtain ⟨b0, b1, b2, b3, b4, bf⟩ := five_cells hw9
   obtain ⟨z0, z1, z2, z3, z4, z5, z6, z7, zf⟩ := eight_cells hz9
   obtain ⟨c0, c1, c2, c3, c4, c5, cf⟩ := six_cells hc9
   clear hw9 hz9 hc9
   have HS : Hid (w9.drew.cell? ⟨w1.heap.size, 1, none⟩ = some (.int .i64 c.seen) ∧ w9.drew.cell? ⟨w.heap.size, 1, none⟩ = some (.int .i64 wd.safe)) := Lib.hid ⟨c1, b1⟩
   clear b0 b1 b2 b3 b4 bf z0 z1 z2 z3 z4 z5 z6 z7 zf c0 c1 c2 c3 c4 c5 cf
   obtain ⟨-, ⟨q, hq1, hq2, hRq⟩, -⟩ := HSD.out
   go_upto_region 16 with fail
   refine wp_region_B (fun w' => w'.cell? ⟨w1.heap.size, 1, none⟩ = some (.int .i64 c.seen) ∧ w'.cell? ⟨w.heap.size, 1, none⟩ = some (.int .i64 wd.safe)) 12 (by kernel_rfl) ?_
   refine WB.take (i := 0) (v := ?_) rfl (by kernel_rfl) (by kernel_rfl) (by kernel_rfl) (by kernel_rfl) (fun _ _ _ h => h) HS.out (Or.inl ⟨by rfl, ?_⟩) ?_
   rotate_left
   ·(rintro w ⟨s0, s1⟩; go_simp; try with_reducible rfl)
   try simp only [Act.put, List.setIfInBounds_toArray, List.set_cons_zero, List.set_cons_succ]
   refine WB.take (i := 1) (v := ?_) rfl (by kernel_rfl) (by kernel_rfl) (by kernel_rfl) (by kernel_rfl) (fun _ _ _ h => h) HS.out (Or.inl ⟨by rfl, ?_⟩) ?_
   rotate_left
   ·(rintro w ⟨s0, s1⟩; go_simp; try with_reducible rfl)
   try simp only [Act.put, List.setIfInBounds_toArray, List.set_cons_zero, List.set_cons_succ]
   refine WB.take (i := 2) (v := ?_) rfl (by kernel_rfl) (by kernel_rfl) (by kernel_rfl) (by kernel_rfl) (fun _ _ _ h => h) HS.out (Or.inl ⟨by rfl, ?_⟩) ?_
   rotate_left
   ·(rintro w ⟨s0, s1⟩; go_simp; try with_reducible rfl)
   try simp only [Act.put, List.setIfInBounds_toArray, List.set_cons_zero, List.set_cons_succ]
   refine WB.take (i := 3) (v := ?_) rfl (by kernel_rfl) (by kernel_rfl) (by kernel_rfl) (by kernel_rfl) (fun _ _ _ h => h) HS.out (Or.inl ⟨by rfl, ?_⟩) ?_
   rotate_left
   ·(rintro w ⟨s0, s1⟩; go_simp; try with_reducible rfl)
   try simp only [Act.put, List.setIfInBounds_toArray, List.set_cons_zero, List.set_cons_succ]
   refine WB.take (i := 4) (v := ?_) rfl (by kernel_rfl) (by kernel_rfl) (by kernel_rfl) (by kernel_rfl) (fun _ _ _ h => h) HS.out (Or.inl ⟨by rfl, ?_⟩) ?_
   rotate_left
   ·(rintro w ⟨s0, s1⟩; go_simp; try with_reducible rfl)
   try simp only [Act.put, List.setIfInBounds_toArray, List.set_cons_zero, List.set_cons_succ]
   refine WB.take (i := 5) (v := ?_) rfl (by kernel_rfl) (by kernel_rfl) (by kernel_rfl) (by kernel_rfl) (fun _ _ _ h => h) HS.out (Or.inl ⟨by rfl, ?_⟩) ?_
   rotate_left
   ·(rintro w ⟨s0, s1⟩; go_simp; try with_reducible rfl)
   try simp only [Act.put, List.setIfInBounds_toArray, List.set_cons_zero, List.set_cons_succ]
   refine WB.take (i := 6) (v := ?_) rfl (by kernel_rfl) (by kernel_rfl) (by kernel_rfl) (by kernel_rfl) (fun _ _ _ h => h) HS.out (Or.inl ⟨by rfl, ?_⟩) ?_
   rotate_left
   ·(rintro w ⟨s0, s1⟩; go_simp; try with_reducible rfl)
   try simp only [Act.put, List.setIfInBounds_toArray, List.set_cons_zero, List.set_cons_succ]
   refine WB.take (i := 7) (v := ?_) rfl (by kernel_rfl) (by kernel_rfl) (by kernel_rfl) (by kernel_rfl) (fun _ _ _ h => h) HS.out (Or.inl ⟨by rfl, ?_⟩) ?_
   rotate_left
   ·(rintro w ⟨s0, s1⟩; go_simp; try with_reducible rfl)
   try simp only [Act.put, List.setIfInBounds_toArray, List.set_cons_zero, List.set_cons_succ]
   refine WB.one (i := 8) (by kernel_rfl) rfl (fun K hK => ?_)
   have HKK := Lib.hid hK
   clear hK
   go_simp
   refine (pick_c r q 4 _ hRq (by omega) ⟨by omega, by omega⟩).mono ?_
   rintro r9 w8 ⟨v, rfl, hv0, hv1, -, hR9, hg9⟩
   have hvb := hv1 (by omega)
   have HSE := Lib.hid (HSD.out.step (d := 1) hrl hcb9 hR9 hg9 ⟨hq1, hq2⟩ ⟨by omega, by omega⟩)
   clear hR9 hg9 hv1
   have c1 := (six_cells HSE.out.2.2.2.2.2).2.1
   have b1 := (five_cells HSE.out.2.2.2.1).2.1
   have HS8 : Hid (w8.cell? ⟨w1.heap.size, 1, none⟩ = some (.int .i64 c.seen) ∧ w8.cell? ⟨w.heap.size, 1, none⟩ = some (.int .i64 wd.safe)) := Lib.hid ⟨c1, b1⟩
   clear c1 b1
   refine HKK.out _ _ ⟨fun _ => HS8.out, ?_⟩
   clear HKK K HS
   try simp only [Act.put, List.setIfInBounds_toArray, List.set_cons_zero, List.set_cons_succ]
   refine WB.takeP (i := 9) (v := ?_) rfl (by kernel_rfl) (by kernel_rfl) (by kernel_rfl) (by kernel_rfl) (fun _ _ _ h => h) HS8.out (Or.inl ⟨by rfl, ?_⟩) ?_
   rotate_left
   ·(rintro w -; go_simp; try with_reducible rfl)
   try simp only [Act.put, List.setIfInBounds_toArray, List.set_cons_zero, List.set_cons_succ]
   refine WB.takeP (i := 10) (v := ?_) rfl (by kernel_rfl) (by kernel_rfl) (by kernel_rfl) (by kernel_rfl) (fun _ _ _ h => h) HS8.out (Or.inl ⟨by rfl, ?_⟩) ?_
   rotate_left
   ·(rintro w -; go_simp; try with_reducible rfl)
   try simp only [Act.put, List.setIfInBounds_toArray, List.set_cons_zero, List.set_cons_succ]
   refine WB.takeP (i := 11) (v := ?_) rfl (by kernel_rfl) (by kernel_rfl) (by kernel_rfl) (by kernel_rfl) (fun _ _ _ h => h) HS8.out (Or.inl ⟨by rfl, ?_⟩) ?_
   rotate_left
   ·(rintro w -; go_simp; try with_reducible rfl)
   try simp only [Act.put, List.setIfInBounds_toArray, List.set_cons_zero, List.set_cons_succ]
   refine WB.one (i := 12) (by kernel_rfl) rfl (fun K hK => ?_)
   have HKK := Lib.hid hK
   clear hK
   have z0 := (eight_cells HSE.out.2.2.2.2.1).1
   have z1 := (eight_cells HSE.out.2.2.2.2.1).2.1
   have z2 := (eight_cells HSE.out.2.2.2.2.1).2.2.1
   have z3 := (eight_cells HSE.out.2.2.2.2.1).2.2.2.1
   have z4 := (eight_cells HSE.out.2.2.2.2.1).2.2.2.2.1
   have z5 := (eight_cells HSE.out.2.2.2.2.1).2.2.2.2.2.1
   have z6 := (eight_cells HSE.out.2.2.2.2.1).2.2.2.2.2.2.1
   have z7 := (eight_cells HSE.out.2.2.2.2.1).2.2.2.2.2.2.2.1
   have zf := (eight_cells HSE.out.2.2.2.2.1).2.2.2.2.2.2.2.2
   go_simp
   refine HKK.out _ _ ⟨fun h => (no_late h (by kernel_rfl)).elim, ?_⟩
   clear HKK K z0 z1 z2 z3 z4 z5 z6 z7 zf HS8
   refine WB.done (by kernel_rfl) ?_
   have HF := Lib.hid ((HSE.out).fin hrl (⟨4, (1 + (i : Int)), (IntKind.i64.wrap ((IntKind.i64.wrap (min c.seen wd.safe * v)).tdiv 3)), ⟨0, 0, 0, 0, ⟨#[]⟩⟩⟩ : Ev) ⟨opW0, Nat.zero_le _⟩ (by omega))
   go_wp2_with fail
   obtain ⟨k0, k1, k2, k3, k4, k5, k6, k7, kf⟩ := eight_cells HF.out.2
   refine bodyPost_ret (v := .agg #[.int .i64 4, .int .i64 (1 + (i : Int)), .int .i64 (IntKind.i64.wrap ((IntKind.i64.wrap (min c.seen wd.safe * v)).tdiv 3)), .int .i64 0, .int .i64 0, .int .i64 0, .int .i64 0, .string ⟨#[]⟩]) ?_ rfl ?_
   ·simp [results, Tryd.f105, go_sem, k0, k1, k2, k3, k4, k5, k6, k7]
   ·exact HF.out.1
 ·subst hcases
  obtain ⟨-, -, -, hw9, hz9, hc9⟩ := HS4.out
  obtain ⟨b0, b1, b2, b3, b4, bf⟩ := five_cells hw9
  obtain ⟨z0, z1, z2, z3, z4, z5, z6, z7, zf⟩ := eight_cells hz9
  obtain ⟨c0, c1, c2, c3, c4, c5, cf⟩ := six_cells hc9
  clear hw9 hz9 hc9
  obtain ⟨-, ⟨q, hq1, hq2, hRq⟩, hGq, hwq, hzq, hcq⟩ := HS4.out
  go_wp2_with fail
  refine (pick_c r q 3 _ hRq (by omega) ⟨by omega, by omega⟩).mono ?_
  rintro r9 w9 ⟨v, rfl, hv0, hv1, -, hR9, hg9⟩
  have hvb := hv1 (by omega)
  have HT1 := Lib.hid ((HS4.out).step (d := 1) hrl hcb9 hR9 hg9 ⟨hq1, hq2⟩ ⟨by omega, by omega⟩)
  clear hRq hGq hwq hzq hcq hR9 hg9 hv1 hq1 hq2
  clear b0 b1 b2 b3 b4 bf z0 z1 z2 z3 z4 z5 z6 z7 zf c0 c1 c2 c3 c4 c5 cf
  by_cases hv : v = 0
  ·have hv' : (v == 0) = true := by simp [hv]
   clear hv hv0 hvb
   obtain ⟨-, -, -, hw9, hz9, hc9⟩ := HT1.out
   obtain ⟨b0, b1, b2, b3, b4, bf⟩ := five_cells hw9
   obtain ⟨z0, z1, z2, z3, z4, z5, z6, z7, zf⟩ := eight_cells hz9
   obtain ⟨c0, c1, c2, c3, c4, c5, cf⟩ := six_cells hc9
   clear hw9 hz9 hc9
   obtain ⟨-, ⟨q, hq1, hq2, hRq⟩, hGq, hwq, hzq, hcq⟩ := HT1.out
   go_wp2_with fail
   refine (pick_c r q 3 _ hRq (by omega) ⟨by omega, by omega⟩).mono ?_
   rintro r9 w9 ⟨v, rfl, hv0, hv1, -, hR9, hg9⟩
   have hvb := hv1 (by omega)
   have HT2 := Lib.hid ((HT1.out).step (d := 1) hrl hcb9 hR9 hg9 ⟨hq1, hq2⟩ ⟨by omega, by omega⟩)
   clear hRq hGq hwq hzq hcq hR9 hg9 hv1 hq1 hq2
   clear b0 b1 b2 b3 b4 bf z0 z1 z2 z3 z4 z5 z6 z7 zf c0 c1 c2 c3 c4 c5 cf
   obtain ⟨-, -, -, hw9, hz9, hc9⟩ := HT2.out
   obtain ⟨b0, b1, b2, b3, b4, bf⟩ := five_cells hw9
   obtain ⟨z0, z1, z2, z3, z4, z5, z6, z7, zf⟩ := eight_cells hz9
   obtain ⟨c0, c1, c2, c3, c4, c5, cf⟩ := six_cells hc9
   clear hw9 hz9 hc9
   have HF := Lib.hid ((HT2.out).fin hrl (⟨5, 0, v, ⟨0, 0, 0, 0, ⟨#[]⟩⟩⟩ : Ev) ⟨opW0, Nat.zero_le _⟩ (by omega))
   go_wp2_with fail
   obtain ⟨k0, k1, k2, k3, k4, k5, k6, k7, kf⟩ := eight_cells HF.out.2
   refine bodyPost_ret (v := .agg #[.int .i64 5, .int .i64 0, .int .i64 v, .int .i64 0, .int .i64 0, .int .i64 0, .int .i64 0, .string ⟨#[]⟩]) ?_ rfl ?_
   ·simp [results, Tryd.f105, go_sem, k0, k1, k2, k3, k4, k5, k6, k7]
   ·exact HF.out.1
  ·have hv' : (v == 0) = false := by simp [hv]
   clear hv hv0 hvb
   by_cases hu : wd.up = true
   ·have HU := Lib.hid hu
    clear hu
    obtain ⟨-, -, -, hw9, hz9, hc9⟩ := HT1.out
    obtain ⟨b0, b1, b2, b3, b4, bf⟩ := five_cells hw9
    obtain ⟨z0, z1, z2, z3, z4, z5, z6, z7, zf⟩ := eight_cells hz9
    obtain ⟨c0, c1, c2, c3, c4, c5, cf⟩ := six_cells hc9
    clear hw9 hz9 hc9
    rw [HU.out] at b2
    obtain ⟨-, ⟨q, hq1, hq2, hRq⟩, hGq, hwq, hzq, hcq⟩ := HT1.out
    go_wp2_with fail
    refine (pick_c r q 4 _ hRq (by omega) ⟨by omega, by omega⟩).mono ?_
    rintro r9 w9 ⟨v, rfl, hv0, hv1, -, hR9, hg9⟩
    have hvb := hv1 (by omega)
    have HT2 := Lib.hid ((HT1.out).step (d := 1) hrl hcb9 hR9 hg9 ⟨hq1, hq2⟩ ⟨by omega, by omega⟩)
    clear hRq hGq hwq hzq hcq hR9 hg9 hv1 hq1 hq2
    clear b0 b1 b2 b3 b4 bf z0 z1 z2 z3 z4 z5 z6 z7 zf c0 c1 c2 c3 c4 c5 cf
    by_cases hv2 : v = 0
    ·have hv2' : (v == 0) = true := by simp [hv2]
     clear hv2 hv0 hvb
     obtain ⟨-, -, -, hw9, hz9, hc9⟩ := HT2.out
     obtain ⟨b0, b1, b2, b3, b4, bf⟩ := five_cells hw9
     obtain ⟨z0, z1, z2, z3, z4, z5, z6, z7, zf⟩ := eight_cells hz9
     obtain ⟨c0, c1, c2, c3, c4, c5, cf⟩ := six_cells hc9
     clear hw9 hz9 hc9
     have HF := Lib.hid ((HT2.out).fin hrl (⟨6, 0, 0, ⟨0, 0, 0, 0, ⟨#[]⟩⟩⟩ : Ev) ⟨opW0, Nat.zero_le _⟩ (by omega))
     go_wp2_with fail
     obtain ⟨k0, k1, k2, k3, k4, k5, k6, k7, kf⟩ := eight_cells HF.out.2
     refine bodyPost_ret (v := .agg #[.int .i64 6, .int .i64 0, .int .i64 0, .int .i64 0, .int .i64 0, .int .i64 0, .int .i64 0, .string ⟨#[]⟩]) ?_ rfl ?_
     ·simp [results, Tryd.f105, go_sem, k0, k1, k2, k3, k4, k5, k6, k7]
     ·exact HF.out.1
    ·have hv2' : (v == 0) = false := by simp [hv2]
     clear hv2 hv0 hvb
     have hwl : IntKind.i64.wrap ((ys.length : Int) + 1) = (ys.length : Int) + 1 := by rw [IntKind.wrap_i64]; omega
     obtain ⟨-, -, -, hw9, hz9, hc9⟩ := HT2.out
     obtain ⟨b0, b1, b2, b3, b4, bf⟩ := five_cells hw9
     obtain ⟨z0, z1, z2, z3, z4, z5, z6, z7, zf⟩ := eight_cells hz9
     obtain ⟨c0, c1, c2, c3, c4, c5, cf⟩ := six_cells hc9
     clear hw9 hz9 hc9
     obtain ⟨-, ⟨q, hq1, hq2, hRq⟩, hGq, hwq, hzq, hcq⟩ := HT2.out
     go_wp2_with fail
     refine (pick_c r q ((ys.length : Int) + 1) _ hRq (by omega) ⟨by omega, by omega⟩).mono ?_
     rintro r9 w9 ⟨v, rfl, hv0, hv1, -, hR9, hg9⟩
     have hvb := hv1 (by omega)
     have HP1 := Lib.hid ((HT2.out).step (d := 1) hrl hcb9 hR9 hg9 ⟨hq1, hq2⟩ ⟨by omega, by omega⟩)
     clear hRq hGq hwq hzq hcq hR9 hg9 hv1 hq1 hq2
     clear b0 b1 b2 b3 b4 bf z0 z1 z2 z3 z4 z5 z6 z7 zf c0 c1 c2 c3 c4 c5 cf
     obtain ⟨m1, rfl⟩ : ∃ m1 : Nat, v = m1 := ⟨v.toNat, by omega⟩
     have hm1 : m1 ≤ 12 := by omega
     clear hv0 hvb
     obtain ⟨-, -, -, hw9, hz9, hc9⟩ := HP1.out
     obtain ⟨b0, b1, b2, b3, b4, bf⟩ := five_cells hw9
     obtain ⟨z0, z1, z2, z3, z4, z5, z6, z7, zf⟩ := eight_cells hz9
     obtain ⟨c0, c1, c2, c3, c4, c5, cf⟩ := six_cells hc9
     clear hw9 hz9 hc9
     obtain ⟨-, ⟨q, hq1, hq2, hRq⟩, hGq, hwq, hzq, hcq⟩ := HP1.out
     go_wp2_with fail
     refine (pick_c r q 2 _ hRq (by omega) ⟨by omega, by omega⟩).mono ?_
     rintro r9 w9 ⟨v, rfl, hv0, hv1, -, hR9, hg9⟩
     have hvb := hv1 (by omega)
     have HP2 := Lib.hid ((HP1.out).step (d := 1) hrl hcb9 hR9 hg9 ⟨hq1, hq2⟩ ⟨by omega, by omega⟩)
     clear hRq hGq hwq hzq hcq hR9 hg9 hv1 hq1 hq2
     clear b0 b1 b2 b3 b4 bf z0 z1 z2 z3 z4 z5 z6 z7 zf c0 c1 c2 c3 c4 c5 cf
     have hwm : IntKind.i64.wrap ((m1 : Int) * v) = (m1 : Int) * v := by
      rcases (by omega : v = 0 ∨ v = 1) with rfl | rfl <;> (rw [IntKind.wrap_i64]; omega)
     obtain ⟨-, -, -, hw9, hz9, hc9⟩ := HP2.out
     obtain ⟨b0, b1, b2, b3, b4, bf⟩ := five_cells hw9
     obtain ⟨z0, z1, z2, z3, z4, z5, z6, z7, zf⟩ := eight_cells hz9
     obtain ⟨c0, c1, c2, c3, c4, c5, cf⟩ := six_cells hc9
     clear hw9 hz9 hc9
     have HF := Lib.hid ((HP2.out).fin hrl (⟨8, 0, ((m1 : Int) * v), ⟨0, 0, 0, 0, ⟨#[]⟩⟩⟩ : Ev) ⟨opW0, Nat.zero_le _⟩ (by omega))
     go_wp2_with fail
     obtain ⟨k0, k1, k2, k3, k4, k5, k6, k7, kf⟩ := eight_cells HF.out.2
     refine bodyPost_ret (v := .agg #[.int .i64 8, .int .i64 0, .int .i64 ((m1 : Int) * v), .int .i64 0, .int .i64 0, .int .i64 0, .int .i64 0, .string ⟨#[]⟩]) ?_ rfl ?_
     ·simp [results, Tryd.f105, go_sem, k0, k1, k2, k3, k4, k5, k6, k7]
     ·exact HF.out.1
   ·have hu' : wd.up = false := by simpa using hu
    have HU := Lib.hid hu'
    clear hu hu'
    obtain ⟨-, -, -, hw9, hz9, hc9⟩ := HT1.out
    obtain ⟨b0, b1, b2, b3, b4, bf⟩ := five_cells hw9
    obtain ⟨z0, z1, z2, z3, z4, z5, z6, z7, zf⟩ := eight_cells hz9
    obtain ⟨c0, c1, c2, c3, c4, c5, cf⟩ := six_cells hc9
    clear hw9 hz9 hc9
    rw [HU.out] at b2
    have HF := Lib.hid ((HT1.out).fin hrl (⟨7, 0, 0, ⟨0, 0, 0, 0, ⟨#[]⟩⟩⟩ : Ev) ⟨opW0, Nat.zero_le _⟩ (by omega))
    go_wp2_with fail
    obtain ⟨k0, k1, k2, k3, k4, k5, k6, k7, kf⟩ := eight_cells HF.out.2
    refine bodyPost_ret (v := .agg #[.int .i64 7, .int .i64 0, .int .i64 0, .int .i64 0, .int .i64 0, .int .i64 0, .int .i64 0, .string ⟨#[]⟩]) ?_ rfl ?_
    ·simp [results, Tryd.f105, go_sem, k0, k1, k2, k3, k4, k5, k6, k7]
    ·exact HF.out.1
 ·subst hcases
  obtain ⟨-, -, -, hw9, hz9, hc9⟩ := HS4.out
  obtain ⟨b0, b1, b2, b3, b4, bf⟩ := five_cells hw9
  obtain ⟨z0, z1, z2, z3, z4, z5, z6, z7, zf⟩ := eight_cells hz9
  obtain ⟨c0, c1, c2, c3, c4, c5, cf⟩ := six_cells hc9
  clear hw9 hz9 hc9
  obtain ⟨-, ⟨q, hq1, hq2, hRq⟩, hGq, hwq, hzq, hcq⟩ := HS4.out
  go_wp2_with fail
  refine (pick_c r q 2 _ hRq (by omega) ⟨by omega, by omega⟩).mono ?_
  rintro r9 w9 ⟨v, rfl, hv0, hv1, -, hR9, hg9⟩
  have hvb := hv1 (by omega)
  have HT1 := Lib.hid ((HS4.out).step (d := 1) hrl hcb9 hR9 hg9 ⟨hq1, hq2⟩ ⟨by omega, by omega⟩)
  clear hRq hGq hwq hzq hcq hR9 hg9 hv1 hq1 hq2
  clear b0 b1 b2 b3 b4 bf z0 z1 z2 z3 z4 z5 z6 z7 zf c0 c1 c2 c3 c4 c5 cf
  have hwl : IntKind.i64.wrap ((ys.length : Int) + 1) = (ys.length : Int) + 1 := by rw [IntKind.wrap_i64]; omega
  by_cases hv : v = 0
  ·have hv' : (v == 0) = true := by simp [hv]
   clear hv hv0 hvb
   obtain ⟨-, -, -, hw9, hz9, hc9⟩ := HT1.out
   obtain ⟨b0, b1, b2, b3, b4, bf⟩ := five_cells hw9
   obtain ⟨z0, z1, z2, z3, z4, z5, z6, z7, zf⟩ := eight_cells hz9
   obtain ⟨c0, c1, c2, c3, c4, c5, cf⟩ := six_cells hc9
   clear hw9 hz9 hc9
   obtain ⟨-, ⟨q, hq1, hq2, hRq⟩, hGq, hwq, hzq, hcq⟩ := HT1.out
   go_wp2_with fail
   refine (pick_c r q ((ys.length : Int) + 1) _ hRq (by omega) ⟨by omega, by omega⟩).mono ?_
   rintro r9 w9 ⟨v, rfl, hv0, hv1, -, hR9, hg9⟩
   have hvb := hv1 (by omega)
   have HT2 := Lib.hid ((HT1.out).step (d := 1) hrl hcb9 hR9 hg9 ⟨hq1, hq2⟩ ⟨by omega, by omega⟩)
   clear hRq hGq hwq hzq hcq hR9 hg9 hv1 hq1 hq2
   clear b0 b1 b2 b3 b4 bf z0 z1 z2 z3 z4 z5 z6 z7 zf c0 c1 c2 c3 c4 c5 cf
   obtain ⟨-, -, -, hw9, hz9, hc9⟩ := HT2.out
   obtain ⟨b0, b1, b2, b3, b4, bf⟩ := five_cells hw9
   obtain ⟨z0, z1, z2, z3, z4, z5, z6, z7, zf⟩ := eight_cells hz9
   obtain ⟨c0, c1, c2, c3, c4, c5, cf⟩ := six_cells hc9
   clear hw9 hz9 hc9
   have HF := Lib.hid ((HT2.out).fin hrl (⟨10, 0, v, ⟨0, 0, 0, 0, ⟨#[]⟩⟩⟩ : Ev) ⟨opW0, Nat.zero_le _⟩ (by omega))
   go_wp2_with fail
   obtain ⟨k0, k1, k2, k3, k4, k5, k6, k7, kf⟩ := eight_cells HF.out.2
   refine bodyPost_ret (v := .agg #[.int .i64 10, .int .i64 0, .int .i64 v, .int .i64 0, .int .i64 0, .int .i64 0, .int .i64 0, .string ⟨#[]⟩]) ?_ rfl ?_
   ·simp [results, Tryd.f105, go_sem, k0, k1, k2, k3, k4, k5, k6, k7]
   ·exact HF.out.1
  ·have hv' : (v == 0) = false := by simp [hv]
   clear hv hv0 hvb
   obtain ⟨-, -, -, hw9, hz9, hc9⟩ := HT1.out
   obtain ⟨b0, b1, b2, b3, b4, bf⟩ := five_cells hw9
   obtain ⟨z0, z1, z2, z3, z4, z5, z6, z7, zf⟩ := eight_cells hz9
   obtain ⟨c0, c1, c2, c3, c4, c5, cf⟩ := six_cells hc9
   clear hw9 hz9 hc9
   obtain ⟨-, ⟨q, hq1, hq2, hRq⟩, hGq, hwq, hzq, hcq⟩ := HT1.out
   go_wp2_with fail
   refine (pick_c r q ((ys.length : Int) + 1) _ hRq (by omega) ⟨by omega, by omega⟩).mono ?_
   rintro r9 w9 ⟨v, rfl, hv0, hv1, -, hR9, hg9⟩
   have hvb := hv1 (by omega)
   have HT2 := Lib.hid ((HT1.out).step (d := 1) hrl hcb9 hR9 hg9 ⟨hq1, hq2⟩ ⟨by omega, by omega⟩)
   clear hRq hGq hwq hzq hcq hR9 hg9 hv1 hq1 hq2
   clear b0 b1 b2 b3 b4 bf z0 z1 z2 z3 z4 z5 z6 z7 zf c0 c1 c2 c3 c4 c5 cf
   obtain ⟨-, -, -, hw9, hz9, hc9⟩ := HT2.out
   obtain ⟨b0, b1, b2, b3, b4, bf⟩ := five_cells hw9
   obtain ⟨z0, z1, z2, z3, z4, z5, z6, z7, zf⟩ := eight_cells hz9
   obtain ⟨c0, c1, c2, c3, c4, c5, cf⟩ := six_cells hc9
   clear hw9 hz9 hc9
   have HF := Lib.hid ((HT2.out).fin hrl (⟨9, 0, v, ⟨0, 0, 0, 0, ⟨#[]⟩⟩⟩ : Ev) ⟨opW0, Nat.zero_le _⟩ (by omega))
   go_wp2_with fail
   obtain ⟨k0, k1, k2, k3, k4, k5, k6, k7, kf⟩ := eight_cells HF.out.2
   refine bodyPost_ret (v := .agg #[.int .i64 9, .int .i64 0, .int .i64 v, .int .i64 0, .int .i64 0, .int .i64 0, .int .i64 0, .string ⟨#[]⟩]) ?_ rfl ?_
   ·simp [results, Tryd.f105, go_sem, k0, k1, k2, k3, k4, k5, k6, k7]
   ·exact HF.out.1
 ·rcases hcases with rfl | rfl | rfl
  all_goals
   have hwl : IntKind.i64.wrap ((ys.length : Int) + 1) = (ys.length : Int) + 1 := by rw [IntKind.wrap_i64]; omega
   obtain ⟨-, -, -, hw9, hz9, hc9⟩ := HS4.out
   obtain ⟨b0, b1, b2, b3, b4, bf⟩ := five_cells hw9
   obtain ⟨z0, z1, z2, z3, z4, z5, z6, z7, zf⟩ := eight_cells hz9
   obtain ⟨c0, c1, c2, c3, c4, c5, cf⟩ := six_cells hc9
   clear hw9 hz9 hc9
   obtain ⟨-, ⟨q, hq1, hq2, hRq⟩, hGq, hwq, hzq, hcq⟩ := HS4.out
   go_wp2_with fail
   refine (pick_c r q ((ys.length : Int) + 1) _ hRq (by omega) ⟨by omega, by omega⟩).mono ?_
   rintro r9 w9 ⟨v, rfl, hv0, hv1, -, hR9, hg9⟩
   have hvb := hv1 (by omega)
   have HP1 := Lib.hid ((HS4.out).step (d := 1) hrl hcb9 hR9 hg9 ⟨hq1, hq2⟩ ⟨by omega, by omega⟩)
   clear hRq hGq hwq hzq hcq hR9 hg9 hv1 hq1 hq2
   clear b0 b1 b2 b3 b4 bf z0 z1 z2 z3 z4 z5 z6 z7 zf c0 c1 c2 c3 c4 c5 cf
   obtain ⟨m1, rfl⟩ : ∃ m1 : Nat, v = m1 := ⟨v.toNat, by omega⟩
   have hm1 : m1 ≤ 12 := by omega
   clear hv0 hvb
   obtain ⟨-, -, -, hw9, hz9, hc9⟩ := HP1.out
   obtain ⟨b0, b1, b2, b3, b4, bf⟩ := five_cells hw9
   obtain ⟨z0, z1, z2, z3, z4, z5, z6, z7, zf⟩ := eight_cells hz9
   obtain ⟨c0, c1, c2, c3, c4, c5, cf⟩ := six_cells hc9
   clear hw9 hz9 hc9
   obtain ⟨-, ⟨q, hq1, hq2, hRq⟩, hGq, hwq, hzq, hcq⟩ := HP1.out
   go_wp2_with fail
   refine (pick_c r q 2 _ hRq (by omega) ⟨by omega, by omega⟩).mono ?_
   rintro r9 w9 ⟨v, rfl, hv0, hv1, -, hR9, hg9⟩
   have hvb := hv1 (by omega)
   have HP2 := Lib.hid ((HP1.out).step (d := 1) hrl hcb9 hR9 hg9 ⟨hq1, hq2⟩ ⟨by omega, by omega⟩)
   clear hRq hGq hwq hzq hcq hR9 hg9 hv1 hq1 hq2
   clear b0 b1 b2 b3 b4 bf z0 z1 z2 z3 z4 z5 z6 z7 zf c0 c1 c2 c3 c4 c5 cf
   have hwm : IntKind.i64.wrap ((m1 : Int) * v) = (m1 : Int) * v := by
    rcases (by omega : v = 0 ∨ v = 1) with rfl | rfl <;> (rw [IntKind.wrap_i64]; omega)
   obtain ⟨-, -, -, hw9, hz9, hc9⟩ := HP2.out
   obtain ⟨b0, b1, b2, b3, b4, bf⟩ := five_cells hw9
   obtain ⟨z0, z1, z2, z3, z4, z5, z6, z7, zf⟩ := eight_cells hz9
   obtain ⟨c0, c1, c2, c3, c4, c5, cf⟩ := six_cells hc9
   clear hw9 hz9 hc9
   have HF := Lib.hid ((HP2.out).fin hrl (⟨8, 0, ((m1 : Int) * v), ⟨0, 0, 0, 0, ⟨#[]⟩⟩⟩ : Ev) ⟨opW0, Nat.zero_le _⟩ (by omega))
   go_wp2_with fail
   obtain ⟨k0, k1, k2, k3, k4, k5, k6, k7, kf⟩ := eight_cells HF.out.2
   refine bodyPost_ret (v := .agg #[.int .i64 8, .int .i64 0, .int .i64 ((m1 : Int) * v), .int .i64 0, .int .i64 0, .int .i64 0, .int .i64 0, .string ⟨#[]⟩]) ?_ rfl ?_
   ·simp [results, Tryd.f105, go_sem, k0, k1, k2, k3, k4, k5, k6, k7]
   ·exact HF.out.1
end Go.Proofs.YtjhbbgeebobcpaaDoor
