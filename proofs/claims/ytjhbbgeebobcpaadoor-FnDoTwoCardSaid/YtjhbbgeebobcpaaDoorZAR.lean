/- Walk of the reference: a letter is brought to somebody. .. A letter is brought: to the server, or to somebody. -/
import Derived.Test.YtjhbbgeebobcpaaDoorZAQ
namespace Go.Proofs.YtjhbbgeebobcpaaDoor
open Go.RowKit Go.Lib
set_option linter.unusedVariables false
set_option linter.unusedSimpArgs false
theorem Own.at0w {α : Type} [Flat α] {e : TypeId} {w : World} {base n c : Nat} {A : Option Addr} {l : List α} (h : Own e w base (.slice A n c) l) (hn : 0 < n) : ∃ g, A = some ⟨g, 0, none⟩ := by
 rcases h.1.2 with ⟨h9, h8⟩ | ⟨g, cap, cur, h9, _⟩
 ·simp only [Value.slice.injEq] at h9; omega
 ·simp only [Value.slice.injEq] at h9; exact ⟨g, h9.1⟩
theorem Own.frzw {α : Type} [Flat α] {e : TypeId} {w : World} {base g n cap : Nat} {L : List α} (h : Own e w base (.slice (some ⟨g, 0, none⟩) n cap) L) : ∀ o, w.frozen? ⟨g, o, none⟩ = false := by
 rcases h.1.2 with ⟨h9, _⟩ | ⟨g9, cap9, cur9, h9, _, h8, _⟩
 ·cases h9
 ·simp only [Value.slice.injEq, Option.some.injEq, Addr.mk.injEq, and_true] at h9
  obtain ⟨h91, -⟩ := h9
  subst h91
  intro o
  simp [World.frozen?, h8]
theorem own_put_rc {w : World} {base g cap n : Nat} {L : List RC} (h : Own 30 w base (.slice (some ⟨g, 0, none⟩) n cap) L) (hn : L.length = n) (k : Nat) (hk : k < n) (x : RC) :
  Own 30 ((((((w.setCell ⟨g, k * 6, none⟩ (.int .i64 x.who)).setCell ⟨g, k * 6 + 1, none⟩ (.int .i64 x.seen)).setCell ⟨g, k * 6 + 2, none⟩ (.slice x.b x.bl x.bn)).setCell ⟨g, k * 6 + 3, none⟩ (.slice x.q x.ql x.qn)).setCell ⟨g, k * 6 + 4, none⟩ (.int .i64 x.done)).setCell ⟨g, k * 6 + 5, none⟩ (.int .i64 x.made)) base (.slice (some ⟨g, 0, none⟩) n cap) (L.set k x) := by
 subst hn
 have e0 := (Own.store h k hk ⟨x.who, L[k].seen, L[k].b, L[k].bl, L[k].bn, L[k].q, L[k].ql, L[k].qn, L[k].done, L[k].made⟩ trivial 0 (.int .i64 x.who) (by decide) rfl).1
 have e1 := (Own.store (l := L.set k ⟨x.who, L[k].seen, L[k].b, L[k].bl, L[k].bn, L[k].q, L[k].ql, L[k].qn, L[k].done, L[k].made⟩) (by rw [List.length_set] at *; exact e0) k (by rw [List.length_set]; exact hk) ⟨x.who, x.seen, L[k].b, L[k].bl, L[k].bn, L[k].q, L[k].ql, L[k].qn, L[k].done, L[k].made⟩ trivial 1 (.int .i64 x.seen) (by decide) (by rw [List.getElem_set_self]; rfl)).1
 rw [List.set_set] at e1
 have e2 := (Own.store (l := L.set k ⟨x.who, x.seen, L[k].b, L[k].bl, L[k].bn, L[k].q, L[k].ql, L[k].qn, L[k].done, L[k].made⟩) (by rw [List.length_set] at *; exact e1) k (by rw [List.length_set]; exact hk) ⟨x.who, x.seen, x.b, x.bl, x.bn, L[k].q, L[k].ql, L[k].qn, L[k].done, L[k].made⟩ trivial 2 (.slice x.b x.bl x.bn) (by decide) (by rw [List.getElem_set_self]; rfl)).1
 rw [List.set_set] at e2
 have e3 := (Own.store (l := L.set k ⟨x.who, x.seen, x.b, x.bl, x.bn, L[k].q, L[k].ql, L[k].qn, L[k].done, L[k].made⟩) (by rw [List.length_set] at *; exact e2) k (by rw [List.length_set]; exact hk) ⟨x.who, x.seen, x.b, x.bl, x.bn, x.q, x.ql, x.qn, L[k].done, L[k].made⟩ trivial 3 (.slice x.q x.ql x.qn) (by decide) (by rw [List.getElem_set_self]; rfl)).1
 rw [List.set_set] at e3
 have e4 := (Own.store (l := L.set k ⟨x.who, x.seen, x.b, x.bl, x.bn, x.q, x.ql, x.qn, L[k].done, L[k].made⟩) (by rw [List.length_set] at *; exact e3) k (by rw [List.length_set]; exact hk) ⟨x.who, x.seen, x.b, x.bl, x.bn, x.q, x.ql, x.qn, x.done, L[k].made⟩ trivial 4 (.int .i64 x.done) (by decide) (by rw [List.getElem_set_self]; rfl)).1
 rw [List.set_set] at e4
 have e5 := (Own.store (l := L.set k ⟨x.who, x.seen, x.b, x.bl, x.bn, x.q, x.ql, x.qn, x.done, L[k].made⟩) (by rw [List.length_set] at *; exact e4) k (by rw [List.length_set]; exact hk) ⟨x.who, x.seen, x.b, x.bl, x.bn, x.q, x.ql, x.qn, x.done, x.made⟩ trivial 5 (.int .i64 x.made) (by decide) (by rw [List.getElem_set_self]; rfl)).1
 rw [List.set_set] at e5
 rw [List.length_set] at e5
 exact e5
theorem WP.put {W W' : World} {base : Nat} {w : Wd} {L N : Option Addr} {ln g cc nc : Nat} {xs : List RC} {ys : List RL} (h : WP W base w L ln (some ⟨g, 0, none⟩) cc N nc xs ys) (hT : Turn (fun k => k = g) W W') (i : Nat) (x : RC) (c : Client) (ho : Own 30 W' base (.slice (some ⟨g, 0, none⟩) xs.length cc) (xs.set i x)) (hx : RcOk W' x c) :
  WP W' base { w with cls := w.cls.set i c } L ln (some ⟨g, 0, none⟩) cc N nc (xs.set i x) ys := by
 obtain ⟨cs, m, hg⟩ := h.cli.ty g rfl
 have hn : ∀ (e : TypeId), e ≠ 30 → ∀ k, k = g → ∀ cs' m', W.heap[k]? ≠ some (.cells cs' e m') := by
  rintro e he k rfl cs' m' h2
  rw [hg] at h2
  injection h2 with h2; injection h2 with _ h2
  exact he h2.symm
 refine ⟨h.log.turn hT (hn _ (by decide)), by rw [List.length_set]; exact ho, h.let_.turn hT (fun k hk e0 => ?_), ?_, h.nets.imp (fun x m hl => ?_)⟩
 ·obtain ⟨c2, m2, h2⟩ := h.let_.ty k hk
  exact hn _ (by decide) k e0 _ _ h2
 ·refine (h.cls.imp (fun x c hl => ?_)).set i hx
  obtain ⟨b, bn, q, qn, rfl, r1, r2⟩ := hl
  exact ⟨b, bn, q, qn, rfl, r1.turn hT (hn _ (by decide)), r2.turn hT (hn _ (by decide))⟩
 ·obtain ⟨a, n, rfl, r1⟩ := hl
  exact ⟨a, n, rfl, r1.turn hT (hn _ (by decide))⟩
theorem no_late {b : Bool} (h : b = false) (h' : b = true) : False := by rw [h] at h'; cases h'
theorem CT.raw2 {W : World} {c : Client} {v : Value} (h : CT W c v) : ∃ x : RC, v = .agg (cR x) ∧ RcOk W x c := by
 obtain ⟨A1, n1, A2, n2, rfl, h1, h2⟩ := h
 exact ⟨⟨c.who, c.seen, A1, c.base.length, n1, A2, c.wait.length, n2, c.done, c.made⟩, rfl, A1, n1, A2, n2, rfl, h1, h2⟩
def BcP (w : World) (base : Nat) (wd : Wd) (i : Nat) (c : Client) (L : Option Addr) (ln g cc : Nat) (N : Option Addr) (nc : Nat) (xs : List RC) (ys : List RL) (wx : World) : Prop :=
 ∃ x : RC, wx.heap[w.heap.size]? = some (.cells #[.slice L wd.log.length ln, .int .i64 wd.safe, .bool wd.up, .slice (some ⟨g, 0, none⟩) xs.length cc, .slice N ys.length nc] 93 (0, 0)) ∧ wx.heap[w.heap.size + 1 + 1]? = some (.cells #[.slice none 0 0, .int .i64 0, .bool false, .slice none 0 0, .slice none 0 0] 93 (0, 0)) ∧ WP wx base { wd with cls := wd.cls.set i c } L ln (some ⟨g, 0, none⟩) cc N nc (xs.set i x) ys ∧ Turn (fun k => k = g) w wx
set_option maxRecDepth 100000 in
set_option maxHeartbeats 4000000 in
theorem bring1g_s (wd : Wd) (m : Lt) (base : Nat) (L : Option Addr) (ln : Nat) (g cc : Nat) (N : Option Addr) (nc : Nat) (xs : List RC) (ys : List RL) (A : Option Addr) (an : Nat) (w : World) (hp : WP w base wd L ln (some ⟨g, 0, none⟩) cc N nc xs ys) (hm : RdT 44 w A an m.list) (hb : base ≤ w.heap.size) (i : Nat) (hd : m.dst = (i : Int) + 1) (hi : i < xs.length) (hi2 : i < wd.cls.length) (hx3 : xs.length ≤ 3) (hok : clientOk wd.cls[i] = true) (hm0 : LInv m) :
  Calls Tryd.prog 120 #[.agg #[.slice L wd.log.length ln, .int .i64 wd.safe, .bool wd.up, .slice (some ⟨g, 0, none⟩) xs.length cc, .slice N ys.length nc], .agg (cL m A an)] w fun x w' => ∃ xs' : List RC, x = .returned (.agg #[.slice L wd.log.length ln, .int .i64 wd.safe, .bool wd.up, .slice (some ⟨g, 0, none⟩) xs'.length cc, .slice N ys.length nc]) ∧ WP w' base { wd with cls := wd.cls.set i (hearS wd.cls[i] m.frm m.list).1 } L ln (some ⟨g, 0, none⟩) cc N nc xs' ys ∧ Turn (OwnB (some ⟨g, 0, none⟩) none) w w' := by
 have h3 := three_all w (.cells #[.slice L wd.log.length ln, .int .i64 wd.safe, .bool wd.up, .slice (some ⟨g, 0, none⟩) xs.length cc, .slice N ys.length nc] 93) (oL m A an) oW0
 have hE3 : Ext w (((w.alloc (.cells #[.slice L wd.log.length ln, .int .i64 wd.safe, .bool wd.up, .slice (some ⟨g, 0, none⟩) xs.length cc, .slice N ys.length nc] 93)).alloc (oL m A an)).alloc oW0) := ext3 _ _ _ _
 have hz3 : (((w.alloc (.cells #[.slice L wd.log.length ln, .int .i64 wd.safe, .bool wd.up, .slice (some ⟨g, 0, none⟩) xs.length cc, .slice N ys.length nc] 93)).alloc (oL m A an)).alloc oW0).heap.size = w.heap.size + 3 := by simp only [alloc_sz]
 have HX1 := Lib.hid h3.1; have HX2 := Lib.hid h3.2.1; have HX3 := Lib.hid h3.2.2; have HE3 := Lib.hid hE3
 have HP := Lib.hid (hp.ext hE3); have HM := Lib.hid (hm.ext hE3)
 have hgw : g < w.heap.size := by
  obtain ⟨cs, mm, hg9⟩ := hp.cli.ty g rfl
  exact blk_lt hg9
 obtain ⟨c0, c1, c2, cf⟩ := tri_cells h3.2.1
 have h0' : (m.dst == 0) = false := by simp; omega
 have HD := Lib.hid hd
 clear h3 hE3 hp hm hd
 go_enter Tryd.func120, Tryd.ntmps120
 go_upto_region 4 with fail
 clear c0 c1 c2 cf
 generalize (((w.alloc (.cells #[.slice L wd.log.length ln, .int .i64 wd.safe, .bool wd.up, .slice (some ⟨g, 0, none⟩) xs.length cc, .slice N ys.length nc] 93)).alloc (oL m A an)).alloc oW0) = W3 at *
 obtain ⟨b0, b1, b2, b3, b4, bf⟩ := five_cells HX1.out
 obtain ⟨c0, c1, c2, cf⟩ := tri_cells HX2.out
 obtain ⟨g', off', e9, hbg, x0, x1, x2, x3, x4, x5⟩ := rc_at HP.out.cli.rdT.1 i hi
 injection e9 with e9; injection e9 with e91 e92; subst e91; subst e92
 simp only [Nat.zero_add] at x0 x1 x2 x3 x4 x5
 have hct := HP.out.ct i hi hi2
 have hw1 : IntKind.i64.wrap (m.dst - 1) = (i : Int) := by have := HD.out; rw [IntKind.wrap_i64]; omega
 have hil : (i : Int) < xs.length := by omega
 obtain ⟨hm1, hm2, hm3, hm4, hm5⟩ := hm0
 have HC := Lib.hid (hear_s wd.cls[i] _ m.frm A an m.list W3.drew (hct.ext ((Below.refl _ _).drew)) (HM.out.1.ext ((Below.refl _ _).drew)) hok hm2.1 hm2.2 hm3 (by omega))
 have hfz := HP.out.cli.frzw
 have hs1 := blk_lt HX1.out; have hs2 := blk_lt HX2.out
 have HS : Hid (W3.drew.cell? ⟨w.heap.size, 3, none⟩ = some (.slice (some ⟨g, 0, none⟩) xs.length cc) ∧ W3.drew.cell? ⟨w.heap.size + 1, 0, none⟩ = some (.int .i64 m.dst) ∧ W3.drew.cell? ⟨w.heap.size + 1, 1, none⟩ = some (.int .i64 m.frm) ∧ W3.drew.cell? ⟨w.heap.size + 1, 2, none⟩ = some (.slice A m.list.length an) ∧ W3.drew.cell? ⟨g, i * 6, none⟩ = some (.int .i64 xs[i].who) ∧ W3.drew.cell? ⟨g, i * 6 + 1, none⟩ = some (.int .i64 xs[i].seen) ∧ W3.drew.cell? ⟨g, i * 6 + 2, none⟩ = some (.slice xs[i].b xs[i].bl xs[i].bn) ∧ W3.drew.cell? ⟨g, i * 6 + 3, none⟩ = some (.slice xs[i].q xs[i].ql xs[i].qn) ∧ W3.drew.cell? ⟨g, i * 6 + 4, none⟩ = some (.int .i64 xs[i].done) ∧ W3.drew.cell? ⟨g, i * 6 + 5, none⟩ = some (.int .i64 xs[i].made)) := Lib.hid ⟨b3, c0, c1, c2, x0, x1, x2, x3, x4, x5⟩
 clear b0 b1 b2 b3 b4 bf c0 c1 c2 cf x0 x1 x2 x3 x4 x5
 have fin : ∀ (w5 : World) (x : RC), RcOk w5 x (hearS wd.cls[i] m.frm m.list).1 → Ext W3.drew w5 → BcP w base wd i (hearS wd.cls[i] m.frm m.list).1 L ln g cc N nc xs ys ((((((w5.setCell ⟨g, i * 6, none⟩ (.int .i64 x.who)).setCell ⟨g, i * 6 + 1, none⟩ (.int .i64 x.seen)).setCell ⟨g, i * 6 + 2, none⟩ (.slice x.b x.bl x.bn)).setCell ⟨g, i * 6 + 3, none⟩ (.slice x.q x.ql x.qn)).setCell ⟨g, i * 6 + 4, none⟩ (.int .i64 x.done)).setCell ⟨g, i * 6 + 5, none⟩ (.int .i64 x.made)) := fun w5 x hx hb5 => by
  have hE5 : Ext W3 w5 := ((Below.refl _ _).drew).trans hb5
  have hp5 := HP.out.ext hE5
  have ho := own_put_rc hp5.cli rfl i hi x
  have hg5 : w5.grownBy ((((((w5.setCell ⟨g, i * 6, none⟩ (.int .i64 x.who)).setCell ⟨g, i * 6 + 1, none⟩ (.int .i64 x.seen)).setCell ⟨g, i * 6 + 2, none⟩ (.slice x.b x.bl x.bn)).setCell ⟨g, i * 6 + 3, none⟩ (.slice x.q x.ql x.qn)).setCell ⟨g, i * 6 + 4, none⟩ (.int .i64 x.done)).setCell ⟨g, i * 6 + 5, none⟩ (.int .i64 x.made)) (some g) := gset (gset (gset (gset (gset (gset_any _ _ _ _) _ _) _ _) _ _) _ _) _ _
  have hT5 : Turn (fun k => k = g) w5 ((((((w5.setCell ⟨g, i * 6, none⟩ (.int .i64 x.who)).setCell ⟨g, i * 6 + 1, none⟩ (.int .i64 x.seen)).setCell ⟨g, i * 6 + 2, none⟩ (.slice x.b x.bl x.bn)).setCell ⟨g, i * 6 + 3, none⟩ (.slice x.q x.ql x.qn)).setCell ⟨g, i * 6 + 4, none⟩ (.int .i64 x.done)).setCell ⟨g, i * 6 + 5, none⟩ (.int .i64 x.made)) := Turn.grown hg5 (fun k hk => by injection hk with hk; exact hk.symm)
  have hx5 : RcOk ((((((w5.setCell ⟨g, i * 6, none⟩ (.int .i64 x.who)).setCell ⟨g, i * 6 + 1, none⟩ (.int .i64 x.seen)).setCell ⟨g, i * 6 + 2, none⟩ (.slice x.b x.bl x.bn)).setCell ⟨g, i * 6 + 3, none⟩ (.slice x.q x.ql x.qn)).setCell ⟨g, i * 6 + 4, none⟩ (.int .i64 x.done)).setCell ⟨g, i * 6 + 5, none⟩ (.int .i64 x.made)) x (hearS wd.cls[i] m.frm m.list).1 := by
   obtain ⟨cs, mm, hg9⟩ := hp5.cli.ty g rfl
   obtain ⟨b, bn, q, qn, rfl, r1, r2⟩ := hx
   have hn : ∀ (e : TypeId), e ≠ 30 → ∀ k, k = g → ∀ cs' m', w5.heap[k]? ≠ some (.cells cs' e m') := by
    rintro e he k rfl cs' m' h2
    rw [hg9] at h2
    injection h2 with h2; injection h2 with _ h2
    exact he h2.symm
   exact ⟨b, bn, q, qn, rfl, r1.turn hT5 (hn _ (by decide)), r2.turn hT5 (hn _ (by decide))⟩
  refine ⟨x, (hg5.block _ (blk_lt ((hE5.block _ hs1).trans HX1.out)) (by intro e; injection e with e; omega)).trans ((hE5.block _ hs1).trans HX1.out), (hg5.block _ (blk_lt ((hE5.block _ (blk_lt HX3.out)).trans HX3.out)) (by intro e; injection e with e; omega)).trans ((hE5.block _ (blk_lt HX3.out)).trans HX3.out), hp5.put hT5 i x _ ho hx5, (Turn.ext (HE3.out.trans (hE5.mono HE3.out.size))).then hT5 (fun k hk => .inl hk)⟩
 have FIN := Lib.hid fin
 clear fin
 go_cut [20] (fun s wx => BcP w base wd i (hearS wd.cls[i] m.frm m.list).1 L ln g cc N nc xs ys wx)
 case first =>
  refine wp_region_B (fun w' => w'.cell? ⟨w.heap.size, 3, none⟩ = some (.slice (some ⟨g, 0, none⟩) xs.length cc) ∧ w'.cell? ⟨w.heap.size + 1, 0, none⟩ = some (.int .i64 m.dst) ∧ w'.cell? ⟨w.heap.size + 1, 1, none⟩ = some (.int .i64 m.frm) ∧ w'.cell? ⟨w.heap.size + 1, 2, none⟩ = some (.slice A m.list.length an) ∧ w'.cell? ⟨g, i * 6, none⟩ = some (.int .i64 xs[i].who) ∧ w'.cell? ⟨g, i * 6 + 1, none⟩ = some (.int .i64 xs[i].seen) ∧ w'.cell? ⟨g, i * 6 + 2, none⟩ = some (.slice xs[i].b xs[i].bl xs[i].bn) ∧ w'.cell? ⟨g, i * 6 + 3, none⟩ = some (.slice xs[i].q xs[i].ql xs[i].qn) ∧ w'.cell? ⟨g, i * 6 + 4, none⟩ = some (.int .i64 xs[i].done) ∧ w'.cell? ⟨g, i * 6 + 5, none⟩ = some (.int .i64 xs[i].made)) 21 (by kernel_rfl) ?_
  refine WB.take (i := 0) (v := ?_) rfl (by kernel_rfl) (by kernel_rfl) (by kernel_rfl) (by kernel_rfl) (fun _ _ _ h => h) HS.out (Or.inl ⟨by rfl, ?_⟩) ?_
  rotate_left
  ·(rintro w ⟨s0, s1, s2, s3, y0, y1, y2, y3, y4, y5⟩; go_simp; try with_reducible rfl)
  try simp only [Act.put, List.setIfInBounds_toArray, List.set_cons_zero, List.set_cons_succ]
  refine WB.take (i := 1) (v := ?_) rfl (by kernel_rfl) (by kernel_rfl) (by kernel_rfl) (by kernel_rfl) (fun _ _ _ h => h) HS.out (Or.inl ⟨by rfl, ?_⟩) ?_
  rotate_left
  ·(rintro w ⟨s0, s1, s2, s3, y0, y1, y2, y3, y4, y5⟩; go_simp; try with_reducible rfl)
  try simp only [Act.put, List.setIfInBounds_toArray, List.set_cons_zero, List.set_cons_succ]
  refine WB.take (i := 2) (v := ?_) rfl (by kernel_rfl) (by kernel_rfl) (by kernel_rfl) (by kernel_rfl) (fun _ _ _ h => h) HS.out (Or.inl ⟨by rfl, ?_⟩) ?_
  rotate_left
  ·(rintro w ⟨s0, s1, s2, s3, y0, y1, y2, y3, y4, y5⟩; go_simp; try with_reducible rfl)
  try simp only [Act.put, List.setIfInBounds_toArray, List.set_cons_zero, List.set_cons_succ]
  refine WB.take (i := 3) (v := ?_) rfl (by kernel_rfl) (by kernel_rfl) (by kernel_rfl) (by kernel_rfl) (fun _ _ _ h => h) HS.out (Or.inl ⟨by rfl, ?_⟩) ?_
  rotate_left
  ·(rintro w ⟨s0, s1, s2, s3, y0, y1, y2, y3, y4, y5⟩; go_simp; try with_reducible rfl)
  try simp only [Act.put, List.setIfInBounds_toArray, List.set_cons_zero, List.set_cons_succ]
  refine WB.take (i := 4) (v := ?_) rfl (by kernel_rfl) (by kernel_rfl) (by kernel_rfl) (by kernel_rfl) (fun _ _ _ h => h) HS.out (Or.inl ⟨by rfl, ?_⟩) ?_
  rotate_left
  ·(rintro w ⟨s0, s1, s2, s3, y0, y1, y2, y3, y4, y5⟩; go_simp; try with_reducible rfl)
  try simp only [Act.put, List.setIfInBounds_toArray, List.set_cons_zero, List.set_cons_succ]
  refine WB.take (i := 5) (v := ?_) rfl (by kernel_rfl) (by kernel_rfl) (by kernel_rfl) (by kernel_rfl) (fun _ _ _ h => h) HS.out (Or.inl ⟨by rfl, ?_⟩) ?_
  rotate_left
  ·(rintro w ⟨s0, s1, s2, s3, y0, y1, y2, y3, y4, y5⟩; go_simp; try with_reducible rfl)
  try simp only [Act.put, List.setIfInBounds_toArray, List.set_cons_zero, List.set_cons_succ]
  refine WB.take (i := 6) (v := ?_) rfl (by kernel_rfl) (by kernel_rfl) (by kernel_rfl) (by kernel_rfl) (fun _ _ _ h => h) HS.out (Or.inl ⟨by rfl, ?_⟩) ?_
  rotate_left
  ·(rintro w ⟨s0, s1, s2, s3, y0, y1, y2, y3, y4, y5⟩; go_simp; try with_reducible rfl)
  try simp only [Act.put, List.setIfInBounds_toArray, List.set_cons_zero, List.set_cons_succ]
  refine WB.take (i := 7) (v := ?_) rfl (by kernel_rfl) (by kernel_rfl) (by kernel_rfl) (by kernel_rfl) (fun _ _ _ h => h) HS.out (Or.inl ⟨by rfl, ?_⟩) ?_
  rotate_left
  ·(rintro w ⟨s0, s1, s2, s3, y0, y1, y2, y3, y4, y5⟩; go_simp; try with_reducible rfl)
  try simp only [Act.put, List.setIfInBounds_toArray, List.set_cons_zero, List.set_cons_succ]
  refine WB.take (i := 8) (v := ?_) rfl (by kernel_rfl) (by kernel_rfl) (by kernel_rfl) (by kernel_rfl) (fun _ _ _ h => h) HS.out (Or.inl ⟨by rfl, ?_⟩) ?_
  rotate_left
  ·(rintro w ⟨s0, s1, s2, s3, y0, y1, y2, y3, y4, y5⟩; go_simp; try with_reducible rfl)
  try simp only [Act.put, List.setIfInBounds_toArray, List.set_cons_zero, List.set_cons_succ]
  refine WB.take (i := 9) (v := ?_) rfl (by kernel_rfl) (by kernel_rfl) (by kernel_rfl) (by kernel_rfl) (fun _ _ _ h => h) HS.out (Or.inl ⟨by rfl, ?_⟩) ?_
  rotate_left
  ·(rintro w ⟨s0, s1, s2, s3, y0, y1, y2, y3, y4, y5⟩; go_simp; try with_reducible rfl)
  try simp only [Act.put, List.setIfInBounds_toArray, List.set_cons_zero, List.set_cons_succ]
  refine WB.take (i := 10) (v := ?_) rfl (by kernel_rfl) (by kernel_rfl) (by kernel_rfl) (by kernel_rfl) (fun _ _ _ h => h) HS.out (Or.inl ⟨by rfl, ?_⟩) ?_
  rotate_left
  ·(rintro w ⟨s0, s1, s2, s3, y0, y1, y2, y3, y4, y5⟩; go_simp; try with_reducible rfl)
  try simp only [Act.put, List.setIfInBounds_toArray, List.set_cons_zero, List.set_cons_succ]
  refine WB.take (i := 11) (v := ?_) rfl (by kernel_rfl) (by kernel_rfl) (by kernel_rfl) (by kernel_rfl) (fun _ _ _ h => h) HS.out (Or.inl ⟨by rfl, ?_⟩) ?_
  rotate_left
  ·(rintro w ⟨s0, s1, s2, s3, y0, y1, y2, y3, y4, y5⟩; go_simp; try with_reducible rfl)
  try simp only [Act.put, List.setIfInBounds_toArray, List.set_cons_zero, List.set_cons_succ]
  refine WB.take (i := 12) (v := ?_) rfl (by kernel_rfl) (by kernel_rfl) (by kernel_rfl) (by kernel_rfl) (fun _ _ _ h => h) HS.out (Or.inl ⟨by rfl, ?_⟩) ?_
  rotate_left
  ·(rintro w ⟨s0, s1, s2, s3, y0, y1, y2, y3, y4, y5⟩; go_simp; try with_reducible rfl)
  try simp only [Act.put, List.setIfInBounds_toArray, List.set_cons_zero, List.set_cons_succ]
  refine WB.take (i := 13) (v := ?_) rfl (by kernel_rfl) (by kernel_rfl) (by kernel_rfl) (by kernel_rfl) (fun _ _ _ h => h) HS.out (Or.inl ⟨by rfl, ?_⟩) ?_
  rotate_left
  ·(rintro w ⟨s0, s1, s2, s3, y0, y1, y2, y3, y4, y5⟩; go_simp; try with_reducible rfl)
  try simp only [Act.put, List.setIfInBounds_toArray, List.set_cons_zero, List.set_cons_succ]
  refine WB.take (i := 14) (v := ?_) rfl (by kernel_rfl) (by kernel_rfl) (by kernel_rfl) (by kernel_rfl) (fun _ _ _ h => h) HS.out (Or.inl ⟨by rfl, ?_⟩) ?_
  rotate_left
  ·(rintro w ⟨s0, s1, s2, s3, y0, y1, y2, y3, y4, y5⟩; go_simp; try with_reducible rfl)
  try simp only [Act.put, List.setIfInBounds_toArray, List.set_cons_zero, List.set_cons_succ]
  refine WB.take (i := 15) (v := ?_) rfl (by kernel_rfl) (by kernel_rfl) (by kernel_rfl) (by kernel_rfl) (fun _ _ _ h => h) HS.out (Or.inl ⟨by rfl, ?_⟩) ?_
  rotate_left
  ·(rintro w ⟨s0, s1, s2, s3, y0, y1, y2, y3, y4, y5⟩; go_simp; try with_reducible rfl)
  try simp only [Act.put, List.setIfInBounds_toArray, List.set_cons_zero, List.set_cons_succ]
  refine WB.one (i := 16) (by kernel_rfl) rfl (fun K hK => ?_)
  have HK := Lib.hid hK
  clear hK
  go_simp
  refine HC.out.mono ?_
  rintro r w5 ⟨v5, rfl, hct5, hb5⟩
  obtain ⟨x, rfl, hx⟩ := hct5.raw2
  have q0 := (HS.out).1
  have q1 := (HS.out).2.1
  have q2 := (HS.out).2.2.1
  have q3 := (HS.out).2.2.2.1
  have q4 := (HS.out).2.2.2.2.1
  have q5 := (HS.out).2.2.2.2.2.1
  have q6 := (HS.out).2.2.2.2.2.2.1
  have q7 := (HS.out).2.2.2.2.2.2.2.1
  have q8 := (HS.out).2.2.2.2.2.2.2.2.1
  have q9 := (HS.out).2.2.2.2.2.2.2.2.2
  have HS5 : Hid (w5.cell? ⟨w.heap.size, 3, none⟩ = some (.slice (some ⟨g, 0, none⟩) xs.length cc) ∧ w5.cell? ⟨w.heap.size + 1, 0, none⟩ = some (.int .i64 m.dst) ∧ w5.cell? ⟨w.heap.size + 1, 1, none⟩ = some (.int .i64 m.frm) ∧ w5.cell? ⟨w.heap.size + 1, 2, none⟩ = some (.slice A m.list.length an) ∧ w5.cell? ⟨g, i * 6, none⟩ = some (.int .i64 xs[i].who) ∧ w5.cell? ⟨g, i * 6 + 1, none⟩ = some (.int .i64 xs[i].seen) ∧ w5.cell? ⟨g, i * 6 + 2, none⟩ = some (.slice xs[i].b xs[i].bl xs[i].bn) ∧ w5.cell? ⟨g, i * 6 + 3, none⟩ = some (.slice xs[i].q xs[i].ql xs[i].qn) ∧ w5.cell? ⟨g, i * 6 + 4, none⟩ = some (.int .i64 xs[i].done) ∧ w5.cell? ⟨g, i * 6 + 5, none⟩ = some (.int .i64 xs[i].made)) := Lib.hid ⟨(hb5.cell (p := ⟨w.heap.size, 3, none⟩) (by first | exact hs1 | exact hs2)).trans q0, (hb5.cell (p := ⟨w.heap.size + 1, 0, none⟩) (by first | exact hs1 | exact hs2)).trans q1, (hb5.cell (p := ⟨w.heap.size + 1, 1, none⟩) (by first | exact hs1 | exact hs2)).trans q2, (hb5.cell (p := ⟨w.heap.size + 1, 2, none⟩) (by first | exact hs1 | exact hs2)).trans q3, (hb5.cell (p := ⟨g, i * 6, none⟩) hbg).trans q4, (hb5.cell (p := ⟨g, i * 6 + 1, none⟩) hbg).trans q5, (hb5.cell (p := ⟨g, i * 6 + 2, none⟩) hbg).trans q6, (hb5.cell (p := ⟨g, i * 6 + 3, none⟩) hbg).trans q7, (hb5.cell (p := ⟨g, i * 6 + 4, none⟩) hbg).trans q8, (hb5.cell (p := ⟨g, i * 6 + 5, none⟩) hbg).trans q9⟩
  have HX := Lib.hid hx; have HB5 := Lib.hid hb5
  clear q0 q1 q2 q3 q4 q5 q6 q7 q8 q9 hx hct5
  have hf5 : ∀ o, w5.frozen? ⟨g, o, none⟩ = false := fun o => (hb5.frozen (p := ⟨g, o, none⟩) hbg).trans (hfz o)
  clear hfz hb5
  refine HK.out _ _ ⟨fun _ => HS5.out, ?_⟩
  clear HK K HS
  refine WB.takeP (i := 17) (v := ?_) rfl (by kernel_rfl) (by kernel_rfl) (by kernel_rfl) (by kernel_rfl) (fun _ _ _ h => h) HS5.out (Or.inl ⟨by rfl, ?_⟩) ?_
  rotate_left
  ·(rintro w -; go_simp; try with_reducible rfl)
  try simp only [Act.put, List.setIfInBounds_toArray, List.set_cons_zero, List.set_cons_succ]
  refine WB.takeP (i := 18) (v := ?_) rfl (by kernel_rfl) (by kernel_rfl) (by kernel_rfl) (by kernel_rfl) (fun _ _ _ h => h) HS5.out (Or.inl ⟨by rfl, ?_⟩) ?_
  rotate_left
  ·(rintro w -; go_simp; try with_reducible rfl)
  try simp only [Act.put, List.setIfInBounds_toArray, List.set_cons_zero, List.set_cons_succ]
  refine WB.takeP (i := 19) (v := ?_) rfl (by kernel_rfl) (by kernel_rfl) (by kernel_rfl) (by kernel_rfl) (fun _ _ _ h => h) HS5.out (Or.inl ⟨by rfl, ?_⟩) ?_
  rotate_left
  ·(rintro w -; go_simp; try with_reducible rfl)
  try simp only [Act.put, List.setIfInBounds_toArray, List.set_cons_zero, List.set_cons_succ]
  refine WB.takeP (i := 20) (v := ?_) rfl (by kernel_rfl) (by kernel_rfl) (by kernel_rfl) (by kernel_rfl) (fun _ _ _ h => h) HS5.out (Or.inl ⟨by rfl, ?_⟩) ?_
  rotate_left
  ·(rintro w -; go_simp; try with_reducible rfl)
  try simp only [Act.put, List.setIfInBounds_toArray, List.set_cons_zero, List.set_cons_succ]
  refine WB.one (i := 21) (by kernel_rfl) rfl (fun K hK => ?_)
  have HK := Lib.hid hK
  clear hK
  have q0 := (HS5.out).1
  have q1 := (HS5.out).2.1
  have q2 := (HS5.out).2.2.1
  have q3 := (HS5.out).2.2.2.1
  have q4 := (HS5.out).2.2.2.2.1
  have q5 := (HS5.out).2.2.2.2.2.1
  have q6 := (HS5.out).2.2.2.2.2.2.1
  have q7 := (HS5.out).2.2.2.2.2.2.2.1
  have q8 := (HS5.out).2.2.2.2.2.2.2.2.1
  have q9 := (HS5.out).2.2.2.2.2.2.2.2.2
  clear HS5
  go_simp
  refine HK.out _ _ ⟨fun h => (no_late h (by kernel_rfl)).elim, ?_⟩
  clear HK K
  refine WB.done (by kernel_rfl) ?_
  go_wp2_with fail
  go_meet
  exact FIN.out _ _ HX.out HB5.out
 case rest =>
  obtain ⟨x, hbx, hzx, hp9, hT9⟩ := hcut
  clear hfz HS HC FIN
  obtain ⟨b0, b1, b2, b3, b4, bf⟩ := five_cells hbx
  obtain ⟨d0, d1, d2, d3, d4, df⟩ := five_cells hzx
  have hz := put5_at (.slice L wd.log.length ln) (.int .i64 wd.safe) (.bool wd.up) (.slice (some ⟨g, 0, none⟩) xs.length cc) (.slice N ys.length nc) hzx
  have hk : KeepT wc (put5 wc (w.heap.size + 1 + 1) (.slice L wd.log.length ln) (.int .i64 wd.safe) (.bool wd.up) (.slice (some ⟨g, 0, none⟩) xs.length cc) (.slice N ys.length nc)) := KeepT.grown (gset (gset (gset (gset (gset_any _ _ _ _) _ _) _ _) _ _) _ _) hzx (by decide) (by decide) (by decide) (by decide)
  have hwR : w.heap.size ≤ w.heap.size + 1 + 1 := by omega
  have hT : Turn (OwnB (some ⟨g, 0, none⟩) none) w (put5 wc (w.heap.size + 1 + 1) (.slice L wd.log.length ln) (.int .i64 wd.safe) (.bool wd.up) (.slice (some ⟨g, 0, none⟩) xs.length cc) (.slice N ys.length nc)) := (((((hT9.mono (fun k hk => .inl (by rw [hk]; rfl))).setNew hwR 0 _).setNew hwR 1 _).setNew hwR 2 _).setNew hwR 3 _).setNew hwR 4 _
  have HZ := Lib.hid hz; have HP9 := Lib.hid (hp9.keep hk); have HT := Lib.hid hT
  clear hz hk hT hp9 hT9
  go_wp2_with fail
  obtain ⟨k0, k1, k2, k3, k4, kf⟩ := five_cells HZ.out
  refine bodyPost_ret (v := .agg #[.slice L wd.log.length ln, .int .i64 wd.safe, .bool wd.up, .slice (some ⟨g, 0, none⟩) xs.length cc, .slice N ys.length nc]) ?_ rfl ?_
  ·simp [results, Tryd.f120, go_sem, k0, k1, k2, k3, k4]
  ·exact ⟨xs.set i x, by rw [List.length_set], HP9.out, HT.out⟩
open Go.RowKit Go.Lib
def bringW (w : Wd) (m : Lt) : Wd :=
 if m.dst = 0 then (match m.list[0]? with | some e => { w with log := (srvS w.log w.up e).1 } | none => w)
 else (match w.cls[(m.dst - 1).toNat]? with | some c => { w with cls := w.cls.set (m.dst - 1).toNat (hearS c m.frm m.list).1 } | none => w)
theorem set_cls_ok {w : Wd} (h : WInv w) (i : Nat) {c : Client} (hc : clientOk c = true) : WInv { w with cls := w.cls.set i c } :=
 ⟨h.log, h.len, h.safe0, h.safe1, by show (w.cls.set i c).length = 3; rw [List.length_set]; exact h.three, fun x hx => by
  rcases List.mem_or_eq_of_mem_set hx with h1 | h1
  ·exact h.cls x h1
  ·rw [h1]; exact hc, h.net, h.nets⟩
theorem set_log_ok {w : Wd} (h : WInv w) {l : List Entry} (h1 : ∀ e ∈ l, entryOk e = true) (h2 : l.length ≤ 40) (h3 : w.safe ≤ l.length) : WInv { w with log := l } :=
 ⟨h1, h2, h.safe0, h3, h.three, h.cls, h.net, h.nets⟩
theorem bringW_ok {w : Wd} {m : Lt} (h : WInv w) (hm : LInv m) : WInv (bringW w m) := by
 unfold bringW
 split
 ·split
  ·rename_i e he
   have h9 := srvS_ok (up := w.up) h.len h.log (hm.2.2.1 e (List.mem_of_getElem? he))
   have hs := h.safe1
   exact set_log_ok h h9.2.2 h9.1 (by omega)
  ·exact h
 ·split
  ·rename_i c hc
   exact set_cls_ok h _ (hearS_ok (h.cls c (List.mem_of_getElem? hc)) hm.2.1.1 hm.2.2.1)
  ·exact h
theorem bringW_same (w : Wd) (m : Lt) : (bringW w m).safe = w.safe ∧ (bringW w m).up = w.up ∧ (bringW w m).nets = w.nets := by
 unfold bringW
 split <;> split <;> exact ⟨rfl, rfl, rfl⟩
theorem bring_s (wd : Wd) (m : Lt) (base : Nat) (L : Option Addr) (ln : Nat) (C : Option Addr) (cc : Nat) (N : Option Addr) (nc : Nat) (xs : List RC) (ys : List RL) (A : Option Addr) (an : Nat) (w : World) (hp : WP w base wd L ln C cc N nc xs ys) (hm : RdT 44 w A an m.list) (hb : base ≤ w.heap.size) (hw : WInv wd) (hm0 : LInv m) :
  Calls Tryd.prog 120 #[.agg (cW wd L ln C xs cc N ys nc), .agg (cL m A an)] w
   fun x w' => ∃ (L' : Option Addr) (ln' : Nat) (xs' : List RC), x = .returned (.agg #[.slice L' (bringW wd m).log.length ln', .int .i64 wd.safe, .bool wd.up, .slice C xs'.length cc, .slice N ys.length nc]) ∧ WP w' base (bringW wd m) L' ln' C cc N nc xs' ys ∧ Turn (OwnB C none) w w' := by
 have hlen := hw.len
 by_cases hd : m.dst = 0
 ·have hl0 := hm0.2.2.2.2 hd
  have hw0 : bringW wd m = { wd with log := (srvS wd.log wd.up (m.list[0]'hl0)).1 } := by
   unfold bringW; rw [if_pos hd, List.getElem?_eq_getElem hl0]
  refine (bring0_s wd m base L ln C cc N nc xs ys A an w hp hm hb hd hl0 hlen).mono ?_
  rintro x w' ⟨L', n', rfl, h1, h2⟩
  rw [hw0]
  exact ⟨L', n', xs, rfl, h1, Turn.ext h2⟩
 ·have hr := hm0.1
  obtain ⟨i, hi⟩ : ∃ i : Nat, i = (m.dst - 1).toNat := ⟨_, rfl⟩
  have hdi : m.dst = (i : Int) + 1 := by omega
  have h3 := hw.three
  have hi2 : i < wd.cls.length := by omega
  have hlx := hp.cls.1
  obtain ⟨g, rfl⟩ := hp.cli.at0w (by omega)
  have hw0 : bringW wd m = { wd with cls := wd.cls.set i (hearS wd.cls[i] m.frm m.list).1 } := by
   unfold bringW; rw [if_neg hd, ← hi, List.getElem?_eq_getElem hi2]
  refine (bring1g_s wd m base L ln g cc N nc xs ys A an w hp hm hb i hdi (by omega) hi2 (by omega) (hw.cls _ (List.getElem_mem hi2)) hm0).mono ?_
  rintro x w' ⟨xs', rfl, h1, h2⟩
  rw [hw0]
  exact ⟨L, ln, xs', rfl, h1, h2⟩
end Go.Proofs.YtjhbbgeebobcpaaDoor
