/- Walk of the reference: somebody does something: nobody; a change. .. Walk of the reference: somebody is told the news. -/
import Derived.Test.YtjhbbgeebobcpaaDoorZAS
import Derived.Test.YtjhbbgeebobcpaaDoorZAT
import Derived.Test.YtjhbbgeebobcpaaDoorZAP
namespace Go.Proofs.YtjhbbgeebobcpaaDoor
open Go.RowKit Go.Lib
set_option linter.unusedVariables false
set_option linter.unusedSimpArgs false
def StepP (w : World) (base : Nat) (C N : Option Addr) (x : Ending) (w' : World) : Prop :=
 ∃ (wd' : Wd) (L' : Option Addr) (ln' : Nat) (C' : Option Addr) (cc' : Nat) (N' : Option Addr) (nc' : Nat) (xs' : List RC) (ys' : List RL),
  x = .returned (.agg #[.slice L' wd'.log.length ln', .int .i64 wd'.safe, .bool wd'.up, .slice C' xs'.length cc', .slice N' ys'.length nc']) ∧ WInv wd' ∧ WP w' base wd' L' ln' C' cc' N' nc' xs' ys' ∧ Turn (OwnB C N) w w' ∧ ∀ k, OwnB C' N' k → OwnB C N k ∨ w.heap.size ≤ k
theorem WP.put6 {w5 : World} {base : Nat} {wd : Wd} {L N : Option Addr} {ln g cc nc : Nat} {xs : List RC} {ys : List RL} (h : WP w5 base wd L ln (some ⟨g, 0, none⟩) cc N nc xs ys) (i : Nat) (hi : i < xs.length) (x : RC) (c : Client) (hx : RcOk w5 x c) :
  WP ((((((w5.setCell ⟨g, i * 6, none⟩ (.int .i64 x.who)).setCell ⟨g, i * 6 + 1, none⟩ (.int .i64 x.seen)).setCell ⟨g, i * 6 + 2, none⟩ (.slice x.b x.bl x.bn)).setCell ⟨g, i * 6 + 3, none⟩ (.slice x.q x.ql x.qn)).setCell ⟨g, i * 6 + 4, none⟩ (.int .i64 x.done)).setCell ⟨g, i * 6 + 5, none⟩ (.int .i64 x.made)) base { wd with cls := wd.cls.set i c } L ln (some ⟨g, 0, none⟩) cc N nc (xs.set i x) ys ∧ w5.grownBy ((((((w5.setCell ⟨g, i * 6, none⟩ (.int .i64 x.who)).setCell ⟨g, i * 6 + 1, none⟩ (.int .i64 x.seen)).setCell ⟨g, i * 6 + 2, none⟩ (.slice x.b x.bl x.bn)).setCell ⟨g, i * 6 + 3, none⟩ (.slice x.q x.ql x.qn)).setCell ⟨g, i * 6 + 4, none⟩ (.int .i64 x.done)).setCell ⟨g, i * 6 + 5, none⟩ (.int .i64 x.made)) (some g) := by
 have ho := own_put_rc h.cli rfl i hi x
 have hg5 : w5.grownBy ((((((w5.setCell ⟨g, i * 6, none⟩ (.int .i64 x.who)).setCell ⟨g, i * 6 + 1, none⟩ (.int .i64 x.seen)).setCell ⟨g, i * 6 + 2, none⟩ (.slice x.b x.bl x.bn)).setCell ⟨g, i * 6 + 3, none⟩ (.slice x.q x.ql x.qn)).setCell ⟨g, i * 6 + 4, none⟩ (.int .i64 x.done)).setCell ⟨g, i * 6 + 5, none⟩ (.int .i64 x.made)) (some g) := gset (gset (gset (gset (gset (gset_any _ _ _ _) _ _) _ _) _ _) _ _) _ _
 have hT5 : Turn (fun k => k = g) w5 ((((((w5.setCell ⟨g, i * 6, none⟩ (.int .i64 x.who)).setCell ⟨g, i * 6 + 1, none⟩ (.int .i64 x.seen)).setCell ⟨g, i * 6 + 2, none⟩ (.slice x.b x.bl x.bn)).setCell ⟨g, i * 6 + 3, none⟩ (.slice x.q x.ql x.qn)).setCell ⟨g, i * 6 + 4, none⟩ (.int .i64 x.done)).setCell ⟨g, i * 6 + 5, none⟩ (.int .i64 x.made)) := Turn.grown hg5 (fun k hk => by injection hk with hk; exact hk.symm)
 refine ⟨h.put hT5 i x c ho ?_, hg5⟩
 obtain ⟨cs, mm, hg9⟩ := h.cli.ty g rfl
 obtain ⟨b, bn, q, qn, rfl, r1, r2⟩ := hx
 have hn : ∀ (e : TypeId), e ≠ 30 → ∀ k, k = g → ∀ cs' m', w5.heap[k]? ≠ some (.cells cs' e m') := by
  rintro e he k rfl cs' m' h2
  rw [hg9] at h2
  injection h2 with h2; injection h2 with _ h2
  exact he h2.symm
 exact ⟨b, bn, q, qn, rfl, r1.turn hT5 (hn _ (by decide)), r2.turn hT5 (hn _ (by decide))⟩
set_option maxRecDepth 100000 in
set_option maxHeartbeats 2000000 in
theorem who22_no (wd : Wd) (e : Ev) (base : Nat) (L : Option Addr) (ln : Nat) (C : Option Addr) (cc : Nat) (N : Option Addr) (nc : Nat) (xs : List RC) (ys : List RL) (w : World) (hp : WP w base wd L ln C cc N nc xs ys) (hb : base ≤ w.heap.size) (hw : WInv wd) (hn : ¬ (1 ≤ e.who ∧ e.who ≤ 3)) :
  Calls Tryd.prog 113 #[.agg (cW wd L ln C xs cc N ys nc), .agg (cV e)] w (StepP w base C N) := by
 have HIN : Hid (inR e.who 1 3 = false) := by show _ = _; unfold inR; simpa using hn
 have hE4 : Ext w (((w.alloc (oW wd L ln C xs cc N ys nc)).alloc (oV e)).alloc (oW wd L ln C xs cc N ys nc)) := ext3 _ _ _ _
 have h3 := three_all w (oW wd L ln C xs cc N ys nc) (oV e) oW0
 obtain ⟨b0, b1, b2, b3, b4, bf⟩ := five_cells h3.1
 obtain ⟨e0, e1, e2, e3, e4, e5, e6, e7, ef⟩ := eight_cells h3.2.1
 have HZ := Lib.hid (three_all w (oW wd L ln C xs cc N ys nc) (oV e) (oW wd L ln C xs cc N ys nc)).2.2; have HE4 := Lib.hid hE4
 have HPW := Lib.hid (hp.ext hE4); have HW := Lib.hid hw
 clear hE4 hn hp hw h3
 go_enter Tryd.func113, Tryd.ntmps113
 go_wp2_with fail
 refine (in_c _ _ _ _).mono ?_
 rintro r w' ⟨rfl, hw'⟩
 rw [HIN.out]
 subst hw'
 go_wp2_with fail
 obtain ⟨k0, k1, k2, k3, k4, kf⟩ := five_cells HZ.out
 refine bodyPost_ret (v := .agg (cW wd L ln C xs cc N ys nc)) ?_ rfl ?_
 ·simp [results, Tryd.f113, go_sem]
 ·exact ⟨wd, L, ln, C, cc, N, nc, xs, ys, rfl, HW.out, HPW.out, Turn.ext HE4.out, fun k h => .inl h⟩
set_option maxRecDepth 100000 in
set_option maxHeartbeats 4000000 in
theorem who22_do (wd : Wd) (e : Ev) (base : Nat) (L : Option Addr) (ln : Nat) (g cc : Nat) (N : Option Addr) (nc : Nat) (xs : List RC) (ys : List RL) (w : World) (hp : WP w base wd L ln (some ⟨g, 0, none⟩) cc N nc xs ys) (hb : base ≤ w.heap.size) (hw : WInv wd) (i : Nat) (hd : e.who = (i : Int) + 1) (hi : i < 3) (h1 : e.kind = 1) (ho : OpW e.op) (hs : e.op.text.size ≤ maxLen) :
  Calls Tryd.prog 113 #[.agg (cW wd L ln (some ⟨g, 0, none⟩) xs cc N ys nc), .agg (cV e)] w (StepP w base (some ⟨g, 0, none⟩) N) := by
 have h3 := three_all w (oW wd L ln (some ⟨g, 0, none⟩) xs cc N ys nc) (oV e) oW0
 have hE3 : Ext w (((w.alloc (oW wd L ln (some ⟨g, 0, none⟩) xs cc N ys nc)).alloc (oV e)).alloc oW0) := ext3 _ _ _ _
 have hz3 : (((w.alloc (oW wd L ln (some ⟨g, 0, none⟩) xs cc N ys nc)).alloc (oV e)).alloc oW0).heap.size = w.heap.size + 3 := by simp only [alloc_sz]
 have HX1 := Lib.hid h3.1; have HX2 := Lib.hid h3.2.1; have HX3 := Lib.hid h3.2.2; have HE3 := Lib.hid hE3
 have HP := Lib.hid (hp.ext hE3); have HW := Lib.hid hw
 have hxl : xs.length = 3 := by have := hp.cls.1; have := hw.three; omega
 have hi1 : i < xs.length := by omega
 have hi2 : i < wd.cls.length := by have := hw.three; omega
 have hny : ys.length ≤ 12 := by have := hp.nets.1; have := hw.net; omega
 have hgw : g < w.heap.size := by
  obtain ⟨cs, mm, hg9⟩ := hp.cli.ty g rfl
  exact blk_lt hg9
 obtain ⟨xb, xo, he9, hbx, x0, x1, x2, x3, x4, x5⟩ := rc_at HP.out.cli.rdT.1 i hi1
 injection he9 with he9; injection he9 with he91 he92; subst he91; subst he92
 simp only [Nat.zero_add] at x0 x1 x2 x3 x4 x5
 have HXL := Lib.hid hxl
 have hil : (i : Int) < xs.length := by omega
 have hw1 : IntKind.i64.wrap (e.who - 1) = (i : Int) := by rw [IntKind.wrap_i64]; omega
 have HIN : Hid (inR e.who 1 3 = true) := by show _ = _; unfold inR; rw [decide_eq_true_eq]; omega
 have HD := Lib.hid hd
 have HCT := Lib.hid (HP.out.ct i hi1 hi2)
 have HCO := Lib.hid (hw.cls _ (List.getElem_mem hi2))
 have hfz := HP.out.cli.frzw
 obtain ⟨b0, b1, b2, b3, b4, bf⟩ := five_cells h3.1
 obtain ⟨e0, e1, e2, e3, e4, e5, e6, e7, ef⟩ := eight_cells h3.2.1
 obtain ⟨d0, d1, d2, d3, d4, df⟩ := five_cells h3.2.2
 clear h3 hE3 hp hw hxl hd
 have h1' : (e.kind == 1) = true := by simp [h1]
 have HO := Lib.hid ho; have HS9 := Lib.hid hs
 clear h1 ho hs
 go_enter Tryd.func113, Tryd.ntmps113
 go_wp2_with fail
 refine (in_c _ _ _ _).mono ?_
 rintro r w' ⟨rfl, hw'⟩
 rw [HIN.out]
 subst hw'
 generalize (((w.alloc (oW wd L ln (some ⟨g, 0, none⟩) xs cc N ys nc)).alloc (oV e)).alloc oW0) = W3 at *
 go_upto_region 6 with fail
 have hE4 : Ext W3 (W3.alloc (oR xs[i])) := (Below.refl _ _).alloc (Nat.le_refl _) _
 have HX4 := Lib.hid (World.alloc_heap_new W3 (oR xs[i]))
 have hz4 : (W3.alloc (oR xs[i])).heap.size = w.heap.size + 4 := by rw [alloc_sz, hz3]
 rw [hz3] at HX4
 have HE4 := Lib.hid hE4
 clear hE4 b0 b1 b2 b3 b4 bf e0 e1 e2 e3 e4 e5 e6 e7 ef d0 d1 d2 d3 d4 df x0 x1 x2 x3 x4 x5
 generalize (W3.alloc (oR xs[i])) = W4 at *
 have hs1 : w.heap.size < W4.heap.size := by omega
 have hs2 : w.heap.size + 1 < W4.heap.size := by omega
 have hs4 : w.heap.size + 3 < W4.heap.size := by omega
 have HY1 := Lib.hid ((HE4.out.block _ (blk_lt HX1.out)).trans HX1.out)
 have HY2 := Lib.hid ((HE4.out.block _ (blk_lt HX2.out)).trans HX2.out)
 have HY3 := Lib.hid ((HE4.out.block _ (blk_lt HX3.out)).trans HX3.out)
 have HP4 := Lib.hid (HP.out.ext HE4.out)
 have HE := Lib.hid (HE3.out.trans (HE4.out.mono HE3.out.size))
 obtain ⟨b0, b1, b2, b3, b4, bf⟩ := five_cells HY1.out
 obtain ⟨f0, f1, f2, f3, f4, f5, f6, f7, ff⟩ := eight_cells HY2.out
 obtain ⟨c0, c1, c2, c3, c4, c5, cf⟩ := six_cells HX4.out
 have HC := Lib.hid (do21_s wd.cls[i] _ e.op W4.drew ((HP4.out.ct i hi1 hi2).ext ((Below.refl _ _).drew)) HCO.out HO.out HS9.out)
 have HS : Hid (W4.drew.cell? ⟨w.heap.size, 3, none⟩ = some (.slice (some ⟨g, 0, none⟩) xs.length cc) ∧ W4.drew.cell? ⟨w.heap.size + 1, 1, none⟩ = some (.int .i64 e.who) ∧ W4.drew.cell? ⟨w.heap.size + 1, 3, none⟩ = some (.int .i64 e.op.kind) ∧ W4.drew.cell? ⟨w.heap.size + 1, 4, none⟩ = some (.int .i64 e.op.id) ∧ W4.drew.cell? ⟨w.heap.size + 1, 5, none⟩ = some (.int .i64 e.op.up) ∧ W4.drew.cell? ⟨w.heap.size + 1, 6, none⟩ = some (.int .i64 e.op.pos) ∧ W4.drew.cell? ⟨w.heap.size + 1, 7, none⟩ = some (.string e.op.text) ∧ W4.drew.cell? ⟨w.heap.size + 3, 0, none⟩ = some (.int .i64 xs[i].who) ∧ W4.drew.cell? ⟨w.heap.size + 3, 1, none⟩ = some (.int .i64 xs[i].seen) ∧ W4.drew.cell? ⟨w.heap.size + 3, 2, none⟩ = some (.slice xs[i].b xs[i].bl xs[i].bn) ∧ W4.drew.cell? ⟨w.heap.size + 3, 3, none⟩ = some (.slice xs[i].q xs[i].ql xs[i].qn) ∧ W4.drew.cell? ⟨w.heap.size + 3, 4, none⟩ = some (.int .i64 xs[i].done) ∧ W4.drew.cell? ⟨w.heap.size + 3, 5, none⟩ = some (.int .i64 xs[i].made)) := Lib.hid ⟨b3, f1, f3, f4, f5, f6, f7, c0, c1, c2, c3, c4, c5⟩
 clear b0 b1 b2 b3 b4 bf f0 f1 f2 f3 f4 f5 f6 f7 ff c0 c1 c2 c3 c4 c5 cf
 refine wp_region_B (fun w' => w'.cell? ⟨w.heap.size, 3, none⟩ = some (.slice (some ⟨g, 0, none⟩) xs.length cc) ∧ w'.cell? ⟨w.heap.size + 1, 1, none⟩ = some (.int .i64 e.who) ∧ w'.cell? ⟨w.heap.size + 1, 3, none⟩ = some (.int .i64 e.op.kind) ∧ w'.cell? ⟨w.heap.size + 1, 4, none⟩ = some (.int .i64 e.op.id) ∧ w'.cell? ⟨w.heap.size + 1, 5, none⟩ = some (.int .i64 e.op.up) ∧ w'.cell? ⟨w.heap.size + 1, 6, none⟩ = some (.int .i64 e.op.pos) ∧ w'.cell? ⟨w.heap.size + 1, 7, none⟩ = some (.string e.op.text) ∧ w'.cell? ⟨w.heap.size + 3, 0, none⟩ = some (.int .i64 xs[i].who) ∧ w'.cell? ⟨w.heap.size + 3, 1, none⟩ = some (.int .i64 xs[i].seen) ∧ w'.cell? ⟨w.heap.size + 3, 2, none⟩ = some (.slice xs[i].b xs[i].bl xs[i].bn) ∧ w'.cell? ⟨w.heap.size + 3, 3, none⟩ = some (.slice xs[i].q xs[i].ql xs[i].qn) ∧ w'.cell? ⟨w.heap.size + 3, 4, none⟩ = some (.int .i64 xs[i].done) ∧ w'.cell? ⟨w.heap.size + 3, 5, none⟩ = some (.int .i64 xs[i].made)) 13 (by kernel_rfl) ?_
 refine WB.take (i := 0) (v := ?_) rfl (by kernel_rfl) (by kernel_rfl) (by kernel_rfl) (by kernel_rfl) (fun _ _ _ h => h) HS.out (Or.inl ⟨by rfl, ?_⟩) ?_
 rotate_left
 ·(rintro w ⟨s0, s1, s2, s3, s4, s5, s6, s7, s8, s9, s10, s11, s12⟩; go_simp; try with_reducible rfl)
 try simp only [Act.put, List.setIfInBounds_toArray, List.set_cons_zero, List.set_cons_succ]
 refine WB.take (i := 1) (v := ?_) rfl (by kernel_rfl) (by kernel_rfl) (by kernel_rfl) (by kernel_rfl) (fun _ _ _ h => h) HS.out (Or.inl ⟨by rfl, ?_⟩) ?_
 rotate_left
 ·(rintro w ⟨s0, s1, s2, s3, s4, s5, s6, s7, s8, s9, s10, s11, s12⟩; go_simp; try with_reducible rfl)
 try simp only [Act.put, List.setIfInBounds_toArray, List.set_cons_zero, List.set_cons_succ]
 refine WB.take (i := 2) (v := ?_) rfl (by kernel_rfl) (by kernel_rfl) (by kernel_rfl) (by kernel_rfl) (fun _ _ _ h => h) HS.out (Or.inl ⟨by rfl, ?_⟩) ?_
 rotate_left
 ·(rintro w ⟨s0, s1, s2, s3, s4, s5, s6, s7, s8, s9, s10, s11, s12⟩; go_simp; try with_reducible rfl)
 try simp only [Act.put, List.setIfInBounds_toArray, List.set_cons_zero, List.set_cons_succ]
 refine WB.take (i := 3) (v := ?_) rfl (by kernel_rfl) (by kernel_rfl) (by kernel_rfl) (by kernel_rfl) (fun _ _ _ h => h) HS.out (Or.inl ⟨by rfl, ?_⟩) ?_
 rotate_left
 ·(rintro w ⟨s0, s1, s2, s3, s4, s5, s6, s7, s8, s9, s10, s11, s12⟩; go_simp; try with_reducible rfl)
 try simp only [Act.put, List.setIfInBounds_toArray, List.set_cons_zero, List.set_cons_succ]
 refine WB.take (i := 4) (v := ?_) rfl (by kernel_rfl) (by kernel_rfl) (by kernel_rfl) (by kernel_rfl) (fun _ _ _ h => h) HS.out (Or.inl ⟨by rfl, ?_⟩) ?_
 rotate_left
 ·(rintro w ⟨s0, s1, s2, s3, s4, s5, s6, s7, s8, s9, s10, s11, s12⟩; go_simp; try with_reducible rfl)
 try simp only [Act.put, List.setIfInBounds_toArray, List.set_cons_zero, List.set_cons_succ]
 refine WB.take (i := 5) (v := ?_) rfl (by kernel_rfl) (by kernel_rfl) (by kernel_rfl) (by kernel_rfl) (fun _ _ _ h => h) HS.out (Or.inl ⟨by rfl, ?_⟩) ?_
 rotate_left
 ·(rintro w ⟨s0, s1, s2, s3, s4, s5, s6, s7, s8, s9, s10, s11, s12⟩; go_simp; try with_reducible rfl)
 try simp only [Act.put, List.setIfInBounds_toArray, List.set_cons_zero, List.set_cons_succ]
 refine WB.take (i := 6) (v := ?_) rfl (by kernel_rfl) (by kernel_rfl) (by kernel_rfl) (by kernel_rfl) (fun _ _ _ h => h) HS.out (Or.inl ⟨by rfl, ?_⟩) ?_
 rotate_left
 ·(rintro w ⟨s0, s1, s2, s3, s4, s5, s6, s7, s8, s9, s10, s11, s12⟩; go_simp; try with_reducible rfl)
 try simp only [Act.put, List.setIfInBounds_toArray, List.set_cons_zero, List.set_cons_succ]
 refine WB.take (i := 7) (v := ?_) rfl (by kernel_rfl) (by kernel_rfl) (by kernel_rfl) (by kernel_rfl) (fun _ _ _ h => h) HS.out (Or.inl ⟨by rfl, ?_⟩) ?_
 rotate_left
 ·(rintro w ⟨s0, s1, s2, s3, s4, s5, s6, s7, s8, s9, s10, s11, s12⟩; go_simp; try with_reducible rfl)
 try simp only [Act.put, List.setIfInBounds_toArray, List.set_cons_zero, List.set_cons_succ]
 refine WB.one (i := 8) (by kernel_rfl) rfl (fun K hK => ?_)
 have HK := Lib.hid hK
 clear hK
 go_simp
 refine HC.out.mono ?_
 rintro r w5 ⟨v5, rfl, hct5, hb5⟩
 obtain ⟨x, rfl, hx⟩ := hct5.raw2
 have hE5 : Ext W4 w5 := ((Below.refl _ _).drew).trans hb5
 obtain ⟨q0, q1, q2, q3, q4, q5, q6, q7, q8, q9, q10, q11, q12⟩ := HS.out
 have HS5 : Hid (w5.cell? ⟨w.heap.size, 3, none⟩ = some (.slice (some ⟨g, 0, none⟩) xs.length cc) ∧ w5.cell? ⟨w.heap.size + 1, 1, none⟩ = some (.int .i64 e.who) ∧ w5.cell? ⟨w.heap.size + 1, 3, none⟩ = some (.int .i64 e.op.kind) ∧ w5.cell? ⟨w.heap.size + 1, 4, none⟩ = some (.int .i64 e.op.id) ∧ w5.cell? ⟨w.heap.size + 1, 5, none⟩ = some (.int .i64 e.op.up) ∧ w5.cell? ⟨w.heap.size + 1, 6, none⟩ = some (.int .i64 e.op.pos) ∧ w5.cell? ⟨w.heap.size + 1, 7, none⟩ = some (.string e.op.text) ∧ w5.cell? ⟨w.heap.size + 3, 0, none⟩ = some (.int .i64 xs[i].who) ∧ w5.cell? ⟨w.heap.size + 3, 1, none⟩ = some (.int .i64 xs[i].seen) ∧ w5.cell? ⟨w.heap.size + 3, 2, none⟩ = some (.slice xs[i].b xs[i].bl xs[i].bn) ∧ w5.cell? ⟨w.heap.size + 3, 3, none⟩ = some (.slice xs[i].q xs[i].ql xs[i].qn) ∧ w5.cell? ⟨w.heap.size + 3, 4, none⟩ = some (.int .i64 xs[i].done) ∧ w5.cell? ⟨w.heap.size + 3, 5, none⟩ = some (.int .i64 xs[i].made)) := Lib.hid ⟨(hb5.cell (p := ⟨w.heap.size, 3, none⟩) hs1).trans q0, (hb5.cell (p := ⟨w.heap.size + 1, 1, none⟩) hs2).trans q1, (hb5.cell (p := ⟨w.heap.size + 1, 3, none⟩) hs2).trans q2, (hb5.cell (p := ⟨w.heap.size + 1, 4, none⟩) hs2).trans q3, (hb5.cell (p := ⟨w.heap.size + 1, 5, none⟩) hs2).trans q4, (hb5.cell (p := ⟨w.heap.size + 1, 6, none⟩) hs2).trans q5, (hb5.cell (p := ⟨w.heap.size + 1, 7, none⟩) hs2).trans q6, (hb5.cell (p := ⟨w.heap.size + 3, 0, none⟩) hs4).trans q7, (hb5.cell (p := ⟨w.heap.size + 3, 1, none⟩) hs4).trans q8, (hb5.cell (p := ⟨w.heap.size + 3, 2, none⟩) hs4).trans q9, (hb5.cell (p := ⟨w.heap.size + 3, 3, none⟩) hs4).trans q10, (hb5.cell (p := ⟨w.heap.size + 3, 4, none⟩) hs4).trans q11, (hb5.cell (p := ⟨w.heap.size + 3, 5, none⟩) hs4).trans q12⟩
 clear q0 q1 q2 q3 q4 q5 q6 q7 q8 q9 q10 q11 q12 hct5
 have hp5 := HP4.out.ext hE5
 obtain ⟨hp6, hg6⟩ := hp5.put6 i hi1 x (doS wd.cls[i] e.op).1 hx
 obtain ⟨xb, xo, he9, hbx5, x0, x1, x2, x3, x4, x5⟩ := rc_at hp5.cli.rdT.1 i hi1
 injection he9 with he9; injection he9 with he91 he92; subst he91; subst he92
 simp only [Nat.zero_add] at x0 x1 x2 x3 x4 x5
 have hf5 := hp5.cli.frzw
 have hzx := (hg6.block _ (blk_lt ((hE5.block _ (blk_lt HY3.out)).trans HY3.out)) (by intro e; injection e with e; omega)).trans ((hE5.block _ (blk_lt HY3.out)).trans HY3.out)
 have hwx := (hg6.block _ (blk_lt ((hE5.block _ (blk_lt HY1.out)).trans HY1.out)) (by intro e; injection e with e; omega)).trans ((hE5.block _ (blk_lt HY1.out)).trans HY1.out)
 have hT6 : Turn (OwnB (some ⟨g, 0, none⟩) N) w ((((((w5.setCell ⟨g, i * 6, none⟩ (.int .i64 x.who)).setCell ⟨g, i * 6 + 1, none⟩ (.int .i64 x.seen)).setCell ⟨g, i * 6 + 2, none⟩ (.slice x.b x.bl x.bn)).setCell ⟨g, i * 6 + 3, none⟩ (.slice x.q x.ql x.qn)).setCell ⟨g, i * 6 + 4, none⟩ (.int .i64 x.done)).setCell ⟨g, i * 6 + 5, none⟩ (.int .i64 x.made)) := (Turn.ext (HE.out.trans (hE5.mono (by omega)))).then (S' := OwnB (some ⟨g, 0, none⟩) N) (Turn.grown hg6 (fun k hk => by injection hk with hk; exact .inl (by rw [← hk]; rfl))) (fun k hk => .inl hk)
 have HP6 := Lib.hid hp6; have HZX := Lib.hid hzx; have HWX := Lib.hid hwx; have HT6 := Lib.hid hT6
 clear hp5 hp6 hg6 hzx hwx hT6 hE5 hb5 hfz
 refine HK.out _ _ ⟨fun _ => HS5.out, ?_⟩
 clear HK K HS
 refine WB.takeP (i := 9) (v := ?_) rfl (by kernel_rfl) (by kernel_rfl) (by kernel_rfl) (by kernel_rfl) (fun _ _ _ h => h) HS5.out (Or.inl ⟨by rfl, ?_⟩) ?_
 rotate_left
 ·(rintro w -; go_simp; try with_reducible rfl)
 try simp only [Act.put, List.setIfInBounds_toArray, List.set_cons_zero, List.set_cons_succ]
 refine WB.takeP (i := 10) (v := ?_) rfl (by kernel_rfl) (by kernel_rfl) (by kernel_rfl) (by kernel_rfl) (fun _ _ _ h => h) HS5.out (Or.inl ⟨by rfl, ?_⟩) ?_
 rotate_left
 ·(rintro w -; go_simp; try with_reducible rfl)
 try simp only [Act.put, List.setIfInBounds_toArray, List.set_cons_zero, List.set_cons_succ]
 refine WB.takeP (i := 11) (v := ?_) rfl (by kernel_rfl) (by kernel_rfl) (by kernel_rfl) (by kernel_rfl) (fun _ _ _ h => h) HS5.out (Or.inl ⟨by rfl, ?_⟩) ?_
 rotate_left
 ·(rintro w -; go_simp; try with_reducible rfl)
 try simp only [Act.put, List.setIfInBounds_toArray, List.set_cons_zero, List.set_cons_succ]
 refine WB.takeP (i := 12) (v := ?_) rfl (by kernel_rfl) (by kernel_rfl) (by kernel_rfl) (by kernel_rfl) (fun _ _ _ h => h) HS5.out (Or.inl ⟨by rfl, ?_⟩) ?_
 rotate_left
 ·(rintro w -; go_simp; try with_reducible rfl)
 try simp only [Act.put, List.setIfInBounds_toArray, List.set_cons_zero, List.set_cons_succ]
 refine WB.one (i := 13) (by kernel_rfl) rfl (fun K hK => ?_)
 have HK := Lib.hid hK
 clear hK
 go_simp
 refine HK.out _ _ ⟨fun h => (no_late h (by kernel_rfl)).elim, ?_⟩
 clear HK K x0 x1 x2 x3 x4 x5 HS5 HC
 refine WB.done (by kernel_rfl) ?_
 generalize ((((((w5.setCell ⟨g, i * 6, none⟩ (.int .i64 x.who)).setCell ⟨g, i * 6 + 1, none⟩ (.int .i64 x.seen)).setCell ⟨g, i * 6 + 2, none⟩ (.slice x.b x.bl x.bn)).setCell ⟨g, i * 6 + 3, none⟩ (.slice x.q x.ql x.qn)).setCell ⟨g, i * 6 + 4, none⟩ (.int .i64 x.done)).setCell ⟨g, i * 6 + 5, none⟩ (.int .i64 x.made)) = W6 at *
 have hz := put5_at (.slice L wd.log.length ln) (.int .i64 wd.safe) (.bool wd.up) (.slice (some ⟨g, 0, none⟩) xs.length cc) (.slice N ys.length nc) HZX.out
 have hk : KeepT W6 (put5 W6 (w.heap.size + 1 + 1) (.slice L wd.log.length ln) (.int .i64 wd.safe) (.bool wd.up) (.slice (some ⟨g, 0, none⟩) xs.length cc) (.slice N ys.length nc)) := KeepT.grown (gset (gset (gset (gset (gset_any _ _ _ _) _ _) _ _) _ _) _ _) HZX.out (by decide) (by decide) (by decide) (by decide)
 have hwR : w.heap.size ≤ w.heap.size + 1 + 1 := by omega
 have hT : Turn (OwnB (some ⟨g, 0, none⟩) N) w (put5 W6 (w.heap.size + 1 + 1) (.slice L wd.log.length ln) (.int .i64 wd.safe) (.bool wd.up) (.slice (some ⟨g, 0, none⟩) xs.length cc) (.slice N ys.length nc)) := (((((HT6.out).setNew hwR 0 _).setNew hwR 1 _).setNew hwR 2 _).setNew hwR 3 _).setNew hwR 4 _
 have HZ9 := Lib.hid hz; have HP9 := Lib.hid ((HP6.out).keep hk); have HT9 := Lib.hid hT
 clear hz hk hT
 obtain ⟨b0, b1, b2, b3, b4, bf⟩ := five_cells HWX.out
 obtain ⟨d0, d1, d2, d3, d4, df⟩ := five_cells HZX.out
 go_wp2_with fail
 obtain ⟨k0, k1, k2, k3, k4, kf⟩ := five_cells HZ9.out
 refine bodyPost_ret (v := .agg (cW wd L ln (some ⟨g, 0, none⟩) xs cc N ys nc)) ?_ rfl ?_
 ·simp [results, Tryd.f113, go_sem, k0, k1, k2, k3, k4]
 ·exact ⟨{ wd with cls := wd.cls.set i (doS wd.cls[i] e.op).1 }, L, ln, _, cc, N, nc, xs.set i x, ys, by rw [List.length_set], set_cls_ok HW.out i (doS_ok HCO.out), HP9.out, HT9.out, fun k h => .inl h⟩
open Go.RowKit Go.Lib
theorem news_ok {w : Wd} (h : WInv w) {who n : Int} (h1 : 1 ≤ who) (h2 : who ≤ 3) (h3 : 0 ≤ n) (h4 : n ≤ w.safe) {m : List Entry} (hm : ∀ e ∈ m, e ∈ w.log) (hl : m.length ≤ w.log.length) : LInv ⟨who, n, m⟩ :=
 ⟨⟨by show 0 ≤ who; omega, h2⟩, ⟨h3, by show n ≤ 40; have := h.safe1; have := h.len; omega⟩, fun e he => h.log e (hm e he), by show m.length ≤ 40; have := h.len; omega, fun h0 => by have : who = 0 := h0; omega⟩
theorem putW_same (w : Wd) (m : Lt) : (putW w m).log = w.log ∧ (putW w m).safe = w.safe ∧ (putW w m).up = w.up := by
 unfold putW; split <;> exact ⟨rfl, rfl, rfl⟩
set_option maxRecDepth 100000 in
set_option maxHeartbeats 4000000 in
theorem who22_news (wd : Wd) (e : Ev) (base : Nat) (L : Option Addr) (ln : Nat) (g cc : Nat) (N : Option Addr) (nc : Nat) (xs : List RC) (ys : List RL) (w : World) (hp : WP w base wd L ln (some ⟨g, 0, none⟩) cc N nc xs ys) (hb : base ≤ w.heap.size) (hw : WInv wd) (i : Nat) (hd : e.who = (i : Int) + 1) (hi : i < 3) (up : Bool) (hu : wd.up = up) (h4 : e.kind = 4) :
  Calls Tryd.prog 113 #[.agg #[.slice L wd.log.length ln, .int .i64 wd.safe, .bool up, .slice (some ⟨g, 0, none⟩) xs.length cc, .slice N ys.length nc], .agg (cV e)] w (StepP w base (some ⟨g, 0, none⟩) N) := by
 have h3 := three_all w (.cells #[.slice L wd.log.length ln, .int .i64 wd.safe, .bool up, .slice (some ⟨g, 0, none⟩) xs.length cc, .slice N ys.length nc] 93) (oV e) oW0
 have hE3 : Ext w (((w.alloc (.cells #[.slice L wd.log.length ln, .int .i64 wd.safe, .bool up, .slice (some ⟨g, 0, none⟩) xs.length cc, .slice N ys.length nc] 93)).alloc (oV e)).alloc oW0) := ext3 _ _ _ _
 have hz3 : (((w.alloc (.cells #[.slice L wd.log.length ln, .int .i64 wd.safe, .bool up, .slice (some ⟨g, 0, none⟩) xs.length cc, .slice N ys.length nc] 93)).alloc (oV e)).alloc oW0).heap.size = w.heap.size + 3 := by simp only [alloc_sz]
 have HX1 := Lib.hid h3.1; have HX2 := Lib.hid h3.2.1; have HX3 := Lib.hid h3.2.2; have HE3 := Lib.hid hE3
 have HP := Lib.hid (hp.ext hE3); have HW := Lib.hid hw
 have hxl : xs.length = 3 := by have := hp.cls.1; have := hw.three; omega
 have hi1 : i < xs.length := by omega
 have hi2 : i < wd.cls.length := by have := hw.three; omega
 have hny : ys.length ≤ 12 := by have := hp.nets.1; have := hw.net; omega
 have hgw : g < w.heap.size := by
  obtain ⟨cs, mm, hg9⟩ := hp.cli.ty g rfl
  exact blk_lt hg9
 obtain ⟨xb, xo, he9, hbx, x0, x1, x2, x3, x4, x5⟩ := rc_at HP.out.cli.rdT.1 i hi1
 injection he9 with he9; injection he9 with he91 he92; subst he91; subst he92
 simp only [Nat.zero_add] at x0 x1 x2 x3 x4 x5
 have HXL := Lib.hid hxl
 have hil : (i : Int) < xs.length := by omega
 have hw1 : IntKind.i64.wrap (e.who - 1) = (i : Int) := by rw [IntKind.wrap_i64]; omega
 have HIN : Hid (inR e.who 1 3 = true) := by show _ = _; unfold inR; rw [decide_eq_true_eq]; omega
 have HD := Lib.hid hd
 have HCT := Lib.hid (HP.out.ct i hi1 hi2)
 have HCO := Lib.hid (hw.cls _ (List.getElem_mem hi2))
 have hfz := HP.out.cli.frzw
 obtain ⟨b0, b1, b2, b3, b4, bf⟩ := five_cells h3.1
 obtain ⟨e0, e1, e2, e3, e4, e5, e6, e7, ef⟩ := eight_cells h3.2.1
 obtain ⟨d0, d1, d2, d3, d4, df⟩ := five_cells h3.2.2
 have hpw := hp
 clear h3 hE3 hp hw hxl hd
 have h1' : (e.kind == 1) = false := by simp [h4]
 have h2' : (e.kind == 2) = false := by simp [h4]
 have h4' : (e.kind == 4) = true := by simp [h4]
 have HU := Lib.hid hu
 have hNw : ∀ b, N.map Addr.block = some b → b < w.heap.size := fun b h => by
  obtain ⟨cs, mm, h9⟩ := hpw.let_.ty b (by rw [ob_map]; exact h)
  exact blk_lt h9
 clear h4 hu hpw
 go_enter Tryd.func113, Tryd.ntmps113
 go_wp2_with fail
 refine (in_c _ _ _ _).mono ?_
 rintro r w' ⟨rfl, hw'⟩
 rw [HIN.out]
 subst hw'
 generalize (((w.alloc (.cells #[.slice L wd.log.length ln, .int .i64 wd.safe, .bool up, .slice (some ⟨g, 0, none⟩) xs.length cc, .slice N ys.length nc] 93)).alloc (oV e)).alloc oW0) = W3 at *
 cases up with
 |false =>
  go_upto_region 15 with fail
  have hE4 : Ext W3 (W3.alloc (oR xs[i])) := (Below.refl _ _).alloc (Nat.le_refl _) _
  have HX4 := Lib.hid (World.alloc_heap_new W3 (oR xs[i]))
  have hz4 : (W3.alloc (oR xs[i])).heap.size = w.heap.size + 4 := by rw [alloc_sz, hz3]
  rw [hz3] at HX4
  have HE4 := Lib.hid hE4
  clear hE4 b0 b1 b2 b3 b4 bf e0 e1 e2 e3 e4 e5 e6 e7 ef d0 d1 d2 d3 d4 df x0 x1 x2 x3 x4 x5
  generalize (W3.alloc (oR xs[i])) = W4 at *
  have hs1 : w.heap.size < W4.heap.size := by omega
  have hs2 : w.heap.size + 1 < W4.heap.size := by omega
  have hs4 : w.heap.size + 3 < W4.heap.size := by omega
  have HY1 := Lib.hid ((HE4.out.block _ (blk_lt HX1.out)).trans HX1.out)
  have HY2 := Lib.hid ((HE4.out.block _ (blk_lt HX2.out)).trans HX2.out)
  have HY3 := Lib.hid ((HE4.out.block _ (blk_lt HX3.out)).trans HX3.out)
  have HP4 := Lib.hid (HP.out.ext HE4.out)
  have HE := Lib.hid (HE3.out.trans (HE4.out.mono HE3.out.size))
  have hz := put5_at (.slice L wd.log.length ln) (.int .i64 wd.safe) (.bool false) (.slice (some ⟨g, 0, none⟩) xs.length cc) (.slice N ys.length nc) HY3.out
  have hk : KeepT W4 (put5 W4 (w.heap.size + 1 + 1) (.slice L wd.log.length ln) (.int .i64 wd.safe) (.bool false) (.slice (some ⟨g, 0, none⟩) xs.length cc) (.slice N ys.length nc)) := KeepT.grown (gset (gset (gset (gset (gset_any _ _ _ _) _ _) _ _) _ _) _ _) HY3.out (by decide) (by decide) (by decide) (by decide)
  have hwR : w.heap.size ≤ w.heap.size + 1 + 1 := by omega
  have hT : Turn (OwnB (some ⟨g, 0, none⟩) N) w (put5 W4 (w.heap.size + 1 + 1) (.slice L wd.log.length ln) (.int .i64 wd.safe) (.bool false) (.slice (some ⟨g, 0, none⟩) xs.length cc) (.slice N ys.length nc)) := ((((((Turn.ext HE.out)).setNew hwR 0 _).setNew hwR 1 _).setNew hwR 2 _).setNew hwR 3 _).setNew hwR 4 _
  have HZ9 := Lib.hid hz; have HP9 := Lib.hid ((HP4.out).keep hk); have HT9 := Lib.hid hT
  clear hz hk hT
  obtain ⟨b0, b1, b2, b3, b4, bf⟩ := five_cells HY1.out
  obtain ⟨d0, d1, d2, d3, d4, df⟩ := five_cells HY3.out
  go_wp2_with fail
  obtain ⟨k0, k1, k2, k3, k4, kf⟩ := five_cells HZ9.out
  refine bodyPost_ret (v := .agg #[.slice L wd.log.length ln, .int .i64 wd.safe, .bool false, .slice (some ⟨g, 0, none⟩) xs.length cc, .slice N ys.length nc]) ?_ rfl ?_
  ·simp [results, Tryd.f113, go_sem, k0, k1, k2, k3, k4]
  ·exact ⟨wd, L, ln, _, cc, N, nc, xs, ys, by rw [HU.out], HW.out, HP9.out, HT9.out, fun k h => .inl h⟩
 |true =>
  by_cases hin : 0 ≤ e.n ∧ e.n ≤ wd.safe
  ·have HI2 : Hid (inR e.n 0 wd.safe = true) := by show _ = _; unfold inR; simpa using hin
   have HIN9 := Lib.hid hin
   clear hin
   go_wp2_with fail
   refine (in_c _ _ _ _).mono ?_
   rintro r w' ⟨rfl, hw'⟩
   rw [HI2.out]
   subst hw'
   have hE4 : Ext W3 (W3.alloc (oR xs[i])) := (Below.refl _ _).alloc (Nat.le_refl _) _
   have HX4 := Lib.hid (World.alloc_heap_new W3 (oR xs[i]))
   have hz4 : (W3.alloc (oR xs[i])).heap.size = w.heap.size + 4 := by rw [alloc_sz, hz3]
   rw [hz3] at HX4
   have HE4 := Lib.hid hE4
   clear hE4 b0 b1 b2 b3 b4 bf e0 e1 e2 e3 e4 e5 e6 e7 ef d0 d1 d2 d3 d4 df x0 x1 x2 x3 x4 x5
   generalize (W3.alloc (oR xs[i])) = W4 at *
   have hs1 : w.heap.size < W4.heap.size := by omega
   have hs2 : w.heap.size + 1 < W4.heap.size := by omega
   have hs4 : w.heap.size + 3 < W4.heap.size := by omega
   have HY1 := Lib.hid ((HE4.out.block _ (blk_lt HX1.out)).trans HX1.out)
   have HY2 := Lib.hid ((HE4.out.block _ (blk_lt HX2.out)).trans HX2.out)
   have HY3 := Lib.hid ((HE4.out.block _ (blk_lt HX3.out)).trans HX3.out)
   have HP4 := Lib.hid (HP.out.ext HE4.out)
   have HE := Lib.hid (HE3.out.trans (HE4.out.mono HE3.out.size))
   obtain ⟨b0, b1, b2, b3, b4, bf⟩ := five_cells HY1.out
   obtain ⟨f0, f1, f2, f3, f4, f5, f6, f7, ff⟩ := eight_cells HY2.out
   have HS : Hid (W4.drew.cell? ⟨w.heap.size, 0, none⟩ = some (.slice L wd.log.length ln) ∧ W4.drew.cell? ⟨w.heap.size, 1, none⟩ = some (.int .i64 wd.safe) ∧ W4.drew.cell? ⟨w.heap.size, 2, none⟩ = some (.bool true) ∧ W4.drew.cell? ⟨w.heap.size, 3, none⟩ = some (.slice (some ⟨g, 0, none⟩) xs.length cc) ∧ W4.drew.cell? ⟨w.heap.size, 4, none⟩ = some (.slice N ys.length nc) ∧ W4.drew.cell? ⟨w.heap.size + 1, 1, none⟩ = some (.int .i64 e.who) ∧ W4.drew.cell? ⟨w.heap.size + 1, 2, none⟩ = some (.int .i64 e.n)) := Lib.hid ⟨b0, b1, b2, b3, b4, f1, f2⟩
   have hlen := HW.out.len
   have HC := Lib.hid (news_s L ln wd.log wd.safe true e.n W4.drew (HP4.out.log.ext ((Below.refl _ _).drew)) HW.out.log (by omega) HW.out.safe0 HW.out.safe1)
   clear b0 b1 b2 b3 b4 bf f0 f1 f2 f3 f4 f5 f6 f7 ff
   go_upto_region 14 with fail
   refine wp_region_B (fun w' => w'.cell? ⟨w.heap.size, 0, none⟩ = some (.slice L wd.log.length ln) ∧ w'.cell? ⟨w.heap.size, 1, none⟩ = some (.int .i64 wd.safe) ∧ w'.cell? ⟨w.heap.size, 2, none⟩ = some (.bool true) ∧ w'.cell? ⟨w.heap.size, 3, none⟩ = some (.slice (some ⟨g, 0, none⟩) xs.length cc) ∧ w'.cell? ⟨w.heap.size, 4, none⟩ = some (.slice N ys.length nc) ∧ w'.cell? ⟨w.heap.size + 1, 1, none⟩ = some (.int .i64 e.who) ∧ w'.cell? ⟨w.heap.size + 1, 2, none⟩ = some (.int .i64 e.n)) 12 (by kernel_rfl) ?_
   refine WB.take (i := 0) (v := ?_) rfl (by kernel_rfl) (by kernel_rfl) (by kernel_rfl) (by kernel_rfl) (fun _ _ _ h => h) HS.out (Or.inl ⟨by rfl, ?_⟩) ?_
   rotate_left
   ·(rintro w ⟨s0, s1, s2, s3, s4, s5, s6⟩; go_simp; try with_reducible rfl)
   try simp only [Act.put, List.setIfInBounds_toArray, List.set_cons_zero, List.set_cons_succ]
   refine WB.take (i := 1) (v := ?_) rfl (by kernel_rfl) (by kernel_rfl) (by kernel_rfl) (by kernel_rfl) (fun _ _ _ h => h) HS.out (Or.inl ⟨by rfl, ?_⟩) ?_
   rotate_left
   ·(rintro w ⟨s0, s1, s2, s3, s4, s5, s6⟩; go_simp; try with_reducible rfl)
   try simp only [Act.put, List.setIfInBounds_toArray, List.set_cons_zero, List.set_cons_succ]
   refine WB.take (i := 2) (v := ?_) rfl (by kernel_rfl) (by kernel_rfl) (by kernel_rfl) (by kernel_rfl) (fun _ _ _ h => h) HS.out (Or.inl ⟨by rfl, ?_⟩) ?_
   rotate_left
   ·(rintro w ⟨s0, s1, s2, s3, s4, s5, s6⟩; go_simp; try with_reducible rfl)
   try simp only [Act.put, List.setIfInBounds_toArray, List.set_cons_zero, List.set_cons_succ]
   refine WB.take (i := 3) (v := ?_) rfl (by kernel_rfl) (by kernel_rfl) (by kernel_rfl) (by kernel_rfl) (fun _ _ _ h => h) HS.out (Or.inl ⟨by rfl, ?_⟩) ?_
   rotate_left
   ·(rintro w ⟨s0, s1, s2, s3, s4, s5, s6⟩; go_simp; try with_reducible rfl)
   try simp only [Act.put, List.setIfInBounds_toArray, List.set_cons_zero, List.set_cons_succ]
   refine WB.take (i := 4) (v := ?_) rfl (by kernel_rfl) (by kernel_rfl) (by kernel_rfl) (by kernel_rfl) (fun _ _ _ h => h) HS.out (Or.inl ⟨by rfl, ?_⟩) ?_
   rotate_left
   ·(rintro w ⟨s0, s1, s2, s3, s4, s5, s6⟩; go_simp; try with_reducible rfl)
   try simp only [Act.put, List.setIfInBounds_toArray, List.set_cons_zero, List.set_cons_succ]
   refine WB.take (i := 5) (v := ?_) rfl (by kernel_rfl) (by kernel_rfl) (by kernel_rfl) (by kernel_rfl) (fun _ _ _ h => h) HS.out (Or.inl ⟨by rfl, ?_⟩) ?_
   rotate_left
   ·(rintro w ⟨s0, s1, s2, s3, s4, s5, s6⟩; go_simp; try with_reducible rfl)
   try simp only [Act.put, List.setIfInBounds_toArray, List.set_cons_zero, List.set_cons_succ]
   refine WB.take (i := 6) (v := ?_) rfl (by kernel_rfl) (by kernel_rfl) (by kernel_rfl) (by kernel_rfl) (fun _ _ _ h => h) HS.out (Or.inl ⟨by rfl, ?_⟩) ?_
   rotate_left
   ·(rintro w ⟨s0, s1, s2, s3, s4, s5, s6⟩; go_simp; try with_reducible rfl)
   try simp only [Act.put, List.setIfInBounds_toArray, List.set_cons_zero, List.set_cons_succ]
   refine WB.take (i := 7) (v := ?_) rfl (by kernel_rfl) (by kernel_rfl) (by kernel_rfl) (by kernel_rfl) (fun _ _ _ h => h) HS.out (Or.inl ⟨by rfl, ?_⟩) ?_
   rotate_left
   ·(rintro w ⟨s0, s1, s2, s3, s4, s5, s6⟩; go_simp; try with_reducible rfl)
   try simp only [Act.put, List.setIfInBounds_toArray, List.set_cons_zero, List.set_cons_succ]
   refine WB.take (i := 8) (v := ?_) rfl (by kernel_rfl) (by kernel_rfl) (by kernel_rfl) (by kernel_rfl) (fun _ _ _ h => h) HS.out (Or.inl ⟨by rfl, ?_⟩) ?_
   rotate_left
   ·(rintro w ⟨s0, s1, s2, s3, s4, s5, s6⟩; go_simp; try with_reducible rfl)
   try simp only [Act.put, List.setIfInBounds_toArray, List.set_cons_zero, List.set_cons_succ]
   refine WB.one (i := 9) (by kernel_rfl) rfl (fun K hK => ?_)
   have HK := Lib.hid hK
   clear hK
   go_simp
   refine HC.out.mono ?_
   rintro r w5 ⟨A, an, m, rfl, hm5, hmem, hml, hb5⟩
   have hE5 : Ext W4 w5 := ((Below.refl _ _).drew).trans hb5
   obtain ⟨q0, q1, q2, q3, q4, q5, q6⟩ := HS.out
   have HS5 : Hid (w5.cell? ⟨w.heap.size, 0, none⟩ = some (.slice L wd.log.length ln) ∧ w5.cell? ⟨w.heap.size, 1, none⟩ = some (.int .i64 wd.safe) ∧ w5.cell? ⟨w.heap.size, 2, none⟩ = some (.bool true) ∧ w5.cell? ⟨w.heap.size, 3, none⟩ = some (.slice (some ⟨g, 0, none⟩) xs.length cc) ∧ w5.cell? ⟨w.heap.size, 4, none⟩ = some (.slice N ys.length nc) ∧ w5.cell? ⟨w.heap.size + 1, 1, none⟩ = some (.int .i64 e.who) ∧ w5.cell? ⟨w.heap.size + 1, 2, none⟩ = some (.int .i64 e.n)) := Lib.hid ⟨(hb5.cell (p := ⟨w.heap.size, 0, none⟩) hs1).trans q0, (hb5.cell (p := ⟨w.heap.size, 1, none⟩) hs1).trans q1, (hb5.cell (p := ⟨w.heap.size, 2, none⟩) hs1).trans q2, (hb5.cell (p := ⟨w.heap.size, 3, none⟩) hs1).trans q3, (hb5.cell (p := ⟨w.heap.size, 4, none⟩) hs1).trans q4, (hb5.cell (p := ⟨w.heap.size + 1, 1, none⟩) hs2).trans q5, (hb5.cell (p := ⟨w.heap.size + 1, 2, none⟩) hs2).trans q6⟩
   clear q0 q1 q2 q3 q4 q5 q6
   refine HK.out _ _ ⟨fun _ => HS5.out, ?_⟩
   clear HK K HS HC
   refine WB.takeP (i := 10) (v := ?_) rfl (by kernel_rfl) (by kernel_rfl) (by kernel_rfl) (by kernel_rfl) (fun _ _ _ h => h) HS5.out (Or.inl ⟨by rfl, ?_⟩) ?_
   rotate_left
   ·(rintro w -; go_simp; try with_reducible rfl)
   try simp only [Act.put, List.setIfInBounds_toArray, List.set_cons_zero, List.set_cons_succ]
   have hP := put22_s wd (⟨e.who, e.n, m⟩ : Lt) base L ln (some ⟨g, 0, none⟩) cc N nc xs ys A an w5 (HP4.out.ext hE5) hm5 (by have := hE5.size; omega)
   rw [HU.out] at hP
   try dsimp only at hP
   have HPT := Lib.hid hP
   have HLI := Lib.hid (news_ok HW.out (who := e.who) (n := e.n) (by have := HD.out; omega) (by have := HD.out; omega) HIN9.out.1 HIN9.out.2 hmem hml)
   have HE5 := Lib.hid hE5
   clear hP hb5 hm5 hmem hml hE5
   refine WB.one (i := 11) (by kernel_rfl) rfl (fun K hK => ?_)
   have HK := Lib.hid hK
   clear hK
   go_simp
   refine HPT.out.mono ?_
   rintro r w6 ⟨N', nc', ys', rfl, hp6, hT6, hN6⟩
   have hs5 := HE5.out.size
   have hlx : ∀ b, b < w.heap.size + 3 → w.heap.size ≤ b → ¬ OwnB none N b := fun b h1 h2 h => by
    rcases h with h | h
    ·cases h
    ·obtain ⟨cs, mm, h9⟩ := HP.out.let_.ty b (by rw [ob_map]; exact h)
     have := hNw b h
     omega
   have hbx : w6.heap[w.heap.size]? = w5.heap[w.heap.size]? := hT6.block _ (by omega) (hlx _ (by omega) (by omega))
   have hby : w6.heap[w.heap.size + 1]? = w5.heap[w.heap.size + 1]? := hT6.block _ (by omega) (hlx _ (by omega) (by omega))
   have hbz : w6.heap[w.heap.size + 1 + 1]? = w5.heap[w.heap.size + 1 + 1]? := hT6.block _ (by omega) (hlx _ (by omega) (by omega))
   obtain ⟨q0, q1, q2, q3, q4, q5, q6⟩ := HS5.out
   have HS6 : Hid (w6.cell? ⟨w.heap.size, 0, none⟩ = some (.slice L wd.log.length ln) ∧ w6.cell? ⟨w.heap.size, 1, none⟩ = some (.int .i64 wd.safe) ∧ w6.cell? ⟨w.heap.size, 2, none⟩ = some (.bool true) ∧ w6.cell? ⟨w.heap.size, 3, none⟩ = some (.slice (some ⟨g, 0, none⟩) xs.length cc) ∧ w6.cell? ⟨w.heap.size, 4, none⟩ = some (.slice N ys.length nc) ∧ w6.cell? ⟨w.heap.size + 1, 1, none⟩ = some (.int .i64 e.who) ∧ w6.cell? ⟨w.heap.size + 1, 2, none⟩ = some (.int .i64 e.n)) := Lib.hid ⟨(World.cell?_of_block hbx).trans q0, (World.cell?_of_block hbx).trans q1, (World.cell?_of_block hbx).trans q2, (World.cell?_of_block hbx).trans q3, (World.cell?_of_block hbx).trans q4, (World.cell?_of_block hby).trans q5, (World.cell?_of_block hby).trans q6⟩
   clear q0 q1 q2 q3 q4 q5 q6
   have hzx := hbz.trans ((HE5.out.block _ (blk_lt HY3.out)).trans HY3.out)
   refine HK.out _ _ ⟨fun _ => HS6.out, ?_⟩
   clear HK K HS5 HPT
   try simp only [Act.put, List.setIfInBounds_toArray, List.set_cons_zero, List.set_cons_succ]
   have hz := put5_at (.slice L wd.log.length ln) (.int .i64 wd.safe) (.bool true) (.slice (some ⟨g, 0, none⟩) xs.length cc) (.slice N' ys'.length nc') hzx
   have hk : KeepT w6 (put5 w6 (w.heap.size + 1 + 1) (.slice L wd.log.length ln) (.int .i64 wd.safe) (.bool true) (.slice (some ⟨g, 0, none⟩) xs.length cc) (.slice N' ys'.length nc')) := KeepT.grown (gset (gset (gset (gset (gset_any _ _ _ _) _ _) _ _) _ _) _ _) hzx (by decide) (by decide) (by decide) (by decide)
   have hwR : w.heap.size ≤ w.heap.size + 1 + 1 := by omega
   have hT7 : Turn (OwnB (some ⟨g, 0, none⟩) N) w w6 := (Turn.ext (HE.out.trans (HE5.out.mono (by omega)))).then (S' := OwnB none N) hT6 (fun i hi => .inl (hi.elim (fun h => by cases h) .inr))
   have hT : Turn (OwnB (some ⟨g, 0, none⟩) N) w (put5 w6 (w.heap.size + 1 + 1) (.slice L wd.log.length ln) (.int .i64 wd.safe) (.bool true) (.slice (some ⟨g, 0, none⟩) xs.length cc) (.slice N' ys'.length nc')) := ((((hT7.setNew hwR 0 _).setNew hwR 1 _).setNew hwR 2 _).setNew hwR 3 _).setNew hwR 4 _
   have HZ9 := Lib.hid hz; have HP9 := Lib.hid (hp6.keep hk); have HT9 := Lib.hid hT
   have HN9 : Hid (∀ k, OwnB none N' k → OwnB none N k ∨ w.heap.size ≤ k) := fun k h => (hN6 k h).imp id (fun h => by omega)
   obtain ⟨d0, d1, d2, d3, d4, df⟩ := five_cells hzx
   clear hz hk hT hT7 hT6 hN6 hp6 hbx hby hbz hlx hNw
   refine WB.one (i := 12) (by kernel_rfl) rfl (fun K hK => ?_)
   have HK := Lib.hid hK
   clear hK
   go_simp
   refine HK.out _ _ ⟨fun h => (no_late h (by kernel_rfl)).elim, ?_⟩
   clear HK K d0 d1 d2 d3 d4 df hzx HS6
   refine WB.done (by kernel_rfl) ?_
   go_wp2_with fail
   obtain ⟨k0, k1, k2, k3, k4, kf⟩ := five_cells HZ9.out
   refine bodyPost_ret (v := .agg #[.slice L wd.log.length ln, .int .i64 wd.safe, .bool true, .slice (some ⟨g, 0, none⟩) xs.length cc, .slice N' ys'.length nc']) ?_ rfl ?_
   ·simp [results, Tryd.f113, go_sem, k0, k1, k2, k3, k4]
   ·exact ⟨putW wd ⟨e.who, e.n, m⟩, L, ln, _, cc, N', nc', xs, ys', by rw [(putW_same wd _).1, (putW_same wd _).2.1, (putW_same wd _).2.2, HU.out], putW_ok HW.out HLI.out, HP9.out, HT9.out, fun k h => h.elim (fun h => .inl (.inl h)) (fun h => (HN9.out k (.inr h)).imp (fun h => h.elim (fun h => by cases h) .inr) id)⟩
  ·have HI2 : Hid (inR e.n 0 wd.safe = false) := by show _ = _; unfold inR; simpa using hin
   clear hin
   go_wp2_with fail
   refine (in_c _ _ _ _).mono ?_
   rintro r w' ⟨rfl, hw'⟩
   rw [HI2.out]
   subst hw'
   go_upto_region 15 with fail
   have hE4 : Ext W3 (W3.alloc (oR xs[i])) := (Below.refl _ _).alloc (Nat.le_refl _) _
   have HX4 := Lib.hid (World.alloc_heap_new W3 (oR xs[i]))
   have hz4 : (W3.alloc (oR xs[i])).heap.size = w.heap.size + 4 := by rw [alloc_sz, hz3]
   rw [hz3] at HX4
   have HE4 := Lib.hid hE4
   clear hE4 b0 b1 b2 b3 b4 bf e0 e1 e2 e3 e4 e5 e6 e7 ef d0 d1 d2 d3 d4 df x0 x1 x2 x3 x4 x5
   generalize (W3.alloc (oR xs[i])) = W4 at *
   have hs1 : w.heap.size < W4.heap.size := by omega
   have hs2 : w.heap.size + 1 < W4.heap.size := by omega
   have hs4 : w.heap.size + 3 < W4.heap.size := by omega
   have HY1 := Lib.hid ((HE4.out.block _ (blk_lt HX1.out)).trans HX1.out)
   have HY2 := Lib.hid ((HE4.out.block _ (blk_lt HX2.out)).trans HX2.out)
   have HY3 := Lib.hid ((HE4.out.block _ (blk_lt HX3.out)).trans HX3.out)
   have HP4 := Lib.hid (HP.out.ext HE4.out)
   have HE := Lib.hid (HE3.out.trans (HE4.out.mono HE3.out.size))
   have hz := put5_at (.slice L wd.log.length ln) (.int .i64 wd.safe) (.bool true) (.slice (some ⟨g, 0, none⟩) xs.length cc) (.slice N ys.length nc) HY3.out
   have hk : KeepT W4 (put5 W4 (w.heap.size + 1 + 1) (.slice L wd.log.length ln) (.int .i64 wd.safe) (.bool true) (.slice (some ⟨g, 0, none⟩) xs.length cc) (.slice N ys.length nc)) := KeepT.grown (gset (gset (gset (gset (gset_any _ _ _ _) _ _) _ _) _ _) _ _) HY3.out (by decide) (by decide) (by decide) (by decide)
   have hwR : w.heap.size ≤ w.heap.size + 1 + 1 := by omega
   have hT : Turn (OwnB (some ⟨g, 0, none⟩) N) w (put5 W4 (w.heap.size + 1 + 1) (.slice L wd.log.length ln) (.int .i64 wd.safe) (.bool true) (.slice (some ⟨g, 0, none⟩) xs.length cc) (.slice N ys.length nc)) := ((((((Turn.ext HE.out)).setNew hwR 0 _).setNew hwR 1 _).setNew hwR 2 _).setNew hwR 3 _).setNew hwR 4 _
   have HZ9 := Lib.hid hz; have HP9 := Lib.hid ((HP4.out).keep hk); have HT9 := Lib.hid hT
   clear hz hk hT
   obtain ⟨b0, b1, b2, b3, b4, bf⟩ := five_cells HY1.out
   obtain ⟨d0, d1, d2, d3, d4, df⟩ := five_cells HY3.out
   go_wp2_with fail
   obtain ⟨k0, k1, k2, k3, k4, kf⟩ := five_cells HZ9.out
   refine bodyPost_ret (v := .agg #[.slice L wd.log.length ln, .int .i64 wd.safe, .bool true, .slice (some ⟨g, 0, none⟩) xs.length cc, .slice N ys.length nc]) ?_ rfl ?_
   ·simp [results, Tryd.f113, go_sem, k0, k1, k2, k3, k4]
   ·exact ⟨wd, L, ln, _, cc, N, nc, xs, ys, by rw [HU.out], HW.out, HP9.out, HT9.out, fun k h => .inl h⟩
end Go.Proofs.YtjhbbgeebobcpaaDoor
