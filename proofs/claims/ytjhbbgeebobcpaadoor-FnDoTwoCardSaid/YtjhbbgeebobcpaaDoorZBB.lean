/- Walk of the draw of somebody. -/
import Derived.Test.YtjhbbgeebobcpaaDoorZBA
namespace Go.Proofs.YtjhbbgeebobcpaaDoor
open Go.RowKit Go.Lib
set_option linter.unusedVariables false
set_option linter.unusedSimpArgs false
def KeepRE (w w' : World) : Prop := ∀ (k : Nat) (cs : Array Value) (ty : TypeId) (m : Nat × Nat), w.heap[k]? = some (.cells cs ty m) → (ty = 47 ∨ ty = 44) → w'.heap[k]? = some (.cells cs ty m)
theorem KeepRE.grown {w w' : World} {r : Nat} {cs0 : Array Value} {ty0 : TypeId} {m0 : Nat × Nat} (h : w.grownBy w' (some r)) (hr : w.heap[r]? = some (.cells cs0 ty0 m0)) (h1 : ty0 ≠ 47) (h2 : ty0 ≠ 44) : KeepRE w w' := by
 intro k cs ty m hk ht
 refine (h.block k (blk_lt hk) (fun e => ?_)).trans hk
 injection e with e
 subst e
 rw [hr] at hk
 injection hk with hk; injection hk with _ hk
 subst hk
 rcases ht with h | h
 ·exact h1 h
 ·exact h2 h
theorem Own.keepR {α : Type} [Flat α] {e : TypeId} {w w' : World} {base : Nat} {v : Value} {l : List α} (h : Own e w base v l) (hk : KeepRE w w') (he : e = 47 ∨ e = 44) : Own e w' base v l := by
 refine ⟨⟨h.1.1, ?_⟩, h.2⟩
 rcases h.1.2 with h1 | ⟨g, cap, cur, h1, h2, h3, h4⟩
 ·exact .inl h1
 ·exact .inr ⟨g, cap, cur, h1, h2, hk g _ _ _ h3 he, h4⟩
theorem RcO.keepR {W W' : World} {base : Nat} {x : RC} {c : Client} (h : RcO W base x c) (hk : KeepRE W W') : RcO W' base x c := by
 obtain ⟨b, bn, q, qn, rfl, r1, r2⟩ := h
 exact ⟨b, bn, q, qn, rfl, r1.keepR hk (.inl rfl), r2.keepR hk (.inr rfl)⟩
theorem RcO.co {W : World} {base : Nat} {x : RC} {c : Client} (h : RcO W base x c) : CO W base c (.agg (cR x)) := by
 obtain ⟨b, bn, q, qn, rfl, r1, r2⟩ := h
 exact ⟨b, bn, q, qn, rfl, r1, r2⟩
theorem CD.done {c : Client} (h : CD c) {v : Int} (hv : 0 ≤ v ∧ v ≤ 100) : CD { c with done := v } := by
 obtain ⟨⟨⟨a1, a2, a3, a4⟩, a5, a6, a7⟩, b1, b2, b3, b4⟩ := h
 exact ⟨⟨⟨a1, a2, ⟨by show _ ≤ v; omega, by show v ≤ _; omega⟩, a4⟩, a5, a6, a7⟩, b1, b2, b3, b4⟩
def CliS (w : World) (r q : Nat) (c : Client) (cb : Nat) (wx : World) : Prop :=
 ∃ x : RC, RcO wx w.heap.size x c ∧ wx.heap[cb]? = some (.cells #[.int .i64 x.who, .int .i64 x.seen, .slice x.b x.bl x.bn, .slice x.q x.ql x.qn, .int .i64 x.done, .int .i64 x.made] 30 (0, 0)) ∧ wx.heap[w.heap.size]? = some (.cells #[.int .i64 0, .int .i64 0, .slice none 0 0, .slice none 0 0, .int .i64 0, .int .i64 0] 30 (0, 0)) ∧ w.heap.size < cb ∧ Rdr wx r q ∧ w.grownBy wx (some r)
def CliP (r p : Nat) (w : World) (x : Ending) (w' : World) : Prop :=
 ∃ (c : Client) (v : Value) (p' : Nat), x = .returned v ∧ CO w' w.heap.size c v ∧ CW c ∧ p ≤ p' ∧ p' ≤ p + 6000 ∧ Rdr w' r p' ∧ w.grownBy w' (some r)
set_option maxRecDepth 100000 in
set_option maxHeartbeats 1600000 in
theorem client_d (r p : Nat) (w : World) (h : Rdr w r p) (hp : p < 800000000) :
  Calls Tryd.prog 51 #[.pointer (some ⟨r, 0, none⟩)] w (CliP r p w) := by
 have hrl := h.lt
 have hE1 : Ext w (w.alloc oC0) := (Below.refl _ _).alloc (Nat.le_refl _) _
 have HZ0 := Lib.hid (World.alloc_heap_new w oC0); have HE0 := Lib.hid hE1; have HR0 := Lib.hid (h.ext hE1)
 have hz1 := alloc_sz w oC0
 clear hE1 h
 go_enter Tryd.func51, Tryd.ntmps51
 go_wp2_with fail
 generalize (w.alloc oC0) = W0 at *
 refine (world_d r p W0 HR0.out (by omega)).mono ?_
 rintro x w1 ⟨log, L, ln, safe, up, C, cc, xs, cls, N, nl, nc, q, rfl, hd1, hq1, hq2, hR1, hg1⟩
 have hs1 := hg1.size
 obtain ⟨g, go, rfl, -⟩ := rc_at hd1.fcli.1 0 hd1.fpos
 have hE2 : Ext w1 (w1.alloc (.cells #[.slice L log.length ln, .int .i64 safe, .bool up, .slice (some ⟨g, go, none⟩) xs.length cc, .slice N nl nc] 93)) := (Below.refl _ _).alloc (Nat.le_refl _) _
 have hz2 := alloc_sz w1 (.cells #[.slice L log.length ln, .int .i64 safe, .bool up, .slice (some ⟨g, go, none⟩) xs.length cc, .slice N nl nc] 93)
 have hd2 := hd1.keep (KeepT.ext hE2)
 have hxp := hd1.fpos; have hx3 := hd1.fthr
 have HD2 : Hid (Dw (w1.alloc (.cells #[.slice L log.length ln, .int .i64 safe, .bool up, .slice (some ⟨g, go, none⟩) xs.length cc, .slice N nl nc] 93)) w.heap.size log L ln safe (some ⟨g, go, none⟩) cc xs cls) := ⟨hd2.flog, hd2.flen, hd2.fops, hd2.fs0, hd2.fs1, hd2.fcli, hd2.fpos, hd2.fthr, hd2.fcls.imp (fun x c h => h.lower (by omega)), hd2.fok⟩
 have HB2 := Lib.hid (World.alloc_heap_new w1 (.cells #[.slice L log.length ln, .int .i64 safe, .bool up, .slice (some ⟨g, go, none⟩) xs.length cc, .slice N nl nc] 93))
 have hz01 := (hg1.block _ (blk_lt HZ0.out) (fun e => by injection e with e; omega)).trans HZ0.out
 have HZ2 := Lib.hid ((hE2.block _ (blk_lt hz01)).trans hz01)
 have HG2 := Lib.hid (gtrans (gext HE0.out : w.grownBy W0 (some r)) (gtrans hg1 (gext hE2))); have HR2 := Lib.hid (hR1.ext hE2)
 clear hE2 hd1 hd2 hg1 hR1 hz01 HZ0 HE0 HR0
 go_upto_region 2 with fail
 generalize (w1.alloc (.cells #[.slice L log.length ln, .int .i64 safe, .bool up, .slice (some ⟨g, go, none⟩) xs.length cc, .slice N nl nc] 93)) = w2 at *
 have hEd : Ext w2 w2.drew := (Below.refl _ _).drew
 obtain ⟨w3, hw3⟩ : ∃ W, W = w2.drew := ⟨_, rfl⟩
 have HD : Hid (Dw w3 w.heap.size log L ln safe (some ⟨g, go, none⟩) cc xs cls) := by rw [hw3]; exact HD2.out.keep (KeepT.ext hEd)
 have HB3 : Hid (w3.heap[w1.heap.size]? = some (.cells #[.slice L log.length ln, .int .i64 safe, .bool up, .slice (some ⟨g, go, none⟩) xs.length cc, .slice N nl nc] 93 (0, 0))) := by rw [hw3]; exact HB2.out
 have HZ3 : Hid (w3.heap[w.heap.size]? = some (.cells cC0 30 (0, 0))) := by rw [hw3]; exact HZ2.out
 have HG3 : Hid (w.grownBy w3 (some r)) := by rw [hw3]; exact gtrans HG2.out (gext hEd)
 have HR3 : Hid (Rdr w3 r q) := by rw [hw3]; exact HR2.out.ext hEd
 have HD3 := HD
 have HS : Hid (w3.cell? ⟨w1.heap.size, 3, none⟩ = some (.slice (some ⟨g, go, none⟩) xs.length cc) ∧ Rd w3 (some ⟨g, go, none⟩) cc xs) := Lib.hid ⟨(five_cells HB3.out).2.2.2.1, HD.out.fcli.1⟩
 have hs3 : w1.heap.size < w3.heap.size := blk_lt HB3.out
 clear hEd
 go_cut [4] (fun s wx => ∃ (c : Client) (cb : Nat), CD c ∧ s = .pointer (some ⟨cb, 0, none⟩) ∧ CliS w r (q + 1) c cb wx)
 case first =>
  refine wp_region_B (fun w' => w'.cell? ⟨w1.heap.size, 3, none⟩ = some (.slice (some ⟨g, go, none⟩) xs.length cc) ∧ Rd w' (some ⟨g, go, none⟩) cc xs) 10 (by kernel_rfl) ?_
  rw [← hw3]
  clear hw3
  refine WB.take (i := 0) (v := ?_) rfl (by kernel_rfl) (by kernel_rfl) (by kernel_rfl) (by kernel_rfl) (fun _ _ _ h => h) HS.out (Or.inl ⟨by rfl, ?_⟩) ?_
  rotate_left
  ·(rintro w ⟨s0, s1⟩; go_simp; try with_reducible rfl)
  try simp only [Act.put, List.setIfInBounds_toArray, List.set_cons_zero, List.set_cons_succ]
  refine WB.take (i := 1) (v := ?_) rfl (by kernel_rfl) (by kernel_rfl) (by kernel_rfl) (by kernel_rfl) (fun _ _ _ h => h) HS.out (Or.inl ⟨by rfl, ?_⟩) ?_
  rotate_left
  ·(rintro w ⟨s0, s1⟩; go_simp; try with_reducible rfl)
  try simp only [Act.put, List.setIfInBounds_toArray, List.set_cons_zero, List.set_cons_succ]
  refine WB.take (i := 2) (v := ?_) rfl (by kernel_rfl) (by kernel_rfl) (by kernel_rfl) (by kernel_rfl) (fun _ _ _ h => h) HS.out (Or.inl ⟨by rfl, ?_⟩) ?_
  rotate_left
  ·(rintro w ⟨s0, s1⟩; go_simp; try with_reducible rfl)
  try simp only [Act.put, List.setIfInBounds_toArray, List.set_cons_zero, List.set_cons_succ]
  refine WB.take (i := 3) (v := ?_) rfl (by kernel_rfl) (by kernel_rfl) (by kernel_rfl) (by kernel_rfl) (fun _ _ _ h => h) HS.out (Or.inl ⟨by rfl, ?_⟩) ?_
  rotate_left
  ·(rintro w ⟨s0, s1⟩; go_simp; try with_reducible rfl)
  try simp only [Act.put, List.setIfInBounds_toArray, List.set_cons_zero, List.set_cons_succ]
  refine WB.take (i := 4) (v := ?_) rfl (by kernel_rfl) (by kernel_rfl) (by kernel_rfl) (by kernel_rfl) (fun _ _ _ h => h) HS.out (Or.inl ⟨by rfl, ?_⟩) ?_
  rotate_left
  ·(rintro w ⟨s0, s1⟩; go_simp; try with_reducible rfl)
  try simp only [Act.put, List.setIfInBounds_toArray, List.set_cons_zero, List.set_cons_succ]
  refine WB.take (i := 5) (v := ?_) rfl (by kernel_rfl) (by kernel_rfl) (by kernel_rfl) (by kernel_rfl) (fun _ _ _ h => h) HS.out (Or.inl ⟨by rfl, ?_⟩) ?_
  rotate_left
  ·(rintro w ⟨s0, s1⟩; go_simp; try with_reducible rfl)
  try simp only [Act.put, List.setIfInBounds_toArray, List.set_cons_zero, List.set_cons_succ]
  refine WB.two (i := 6) (j := 9) (by kernel_rfl) rfl rfl (fun K hK => ?_) (fun K hK => ?_)
  ·have HKK := Lib.hid hK
   clear hK
   go_simp
   refine (pick_c r q (xs.length : Int) _ HR3.out (by omega) ⟨by omega, by omega⟩).mono ?_
   rintro r9 w5 ⟨v, rfl, hv0, hv1, -, hR, hg⟩
   have hvb := hv1 (by omega)
   refine Exists.elim (⟨v.toNat, by omega⟩ : ∃ kk : Nat, v = kk) ?_
   intro kk hkk
   rw [hkk]
   have hkx : kk < xs.length := by omega
   have hki : (kk : Int) < xs.length := by omega
   have hkc : kk < cls.length := by have := HD.out.fcls.1; omega
   clear hv1 hkk hvb hv0
   have hk5 : KeepT w3 w5 := by
    obtain ⟨A, c, bs, hbk, -⟩ := HR3.out
    exact KeepT.grown hg hbk (by decide) (by decide) (by decide) (by decide)
   have HD5 := Lib.hid (HD3.out.keep hk5)
   have HB5 := Lib.hid ((hg.block _ (blk_lt HB3.out) (fun e => by injection e with e; omega)).trans HB3.out)
   have HZ5 := Lib.hid ((hg.block _ (blk_lt HZ3.out) (fun e => by injection e with e; omega)).trans HZ3.out)
   have HG5 := Lib.hid (gtrans HG3.out hg); have HR5 := Lib.hid hR
   have HS5 : Hid (w5.cell? ⟨w1.heap.size, 3, none⟩ = some (.slice (some ⟨g, go, none⟩) xs.length cc) ∧ Rd w5 (some ⟨g, go, none⟩) cc xs) := Lib.hid ⟨(five_cells HB5.out).2.2.2.1, HD5.out.fcli.1⟩
   refine HKK.out _ _ ⟨fun _ => HS5.out, ?_⟩
   clear HKK K hg hR hk5
   try simp only [Act.put, List.setIfInBounds_toArray, List.set_cons_zero, List.set_cons_succ]
   refine WB.takeP (i := 7) (v := ?_) rfl (by kernel_rfl) (by kernel_rfl) (by kernel_rfl) (by kernel_rfl) (fun _ _ _ h => h) HS5.out (Or.inl ⟨by rfl, ?_⟩) ?_
   rotate_left
   ·(rintro w -; go_simp; try with_reducible rfl)
   try simp only [Act.put, List.setIfInBounds_toArray, List.set_cons_zero, List.set_cons_succ]
   refine WB.take (i := 8) (v := ?_) rfl (by kernel_rfl) (by kernel_rfl) (by kernel_rfl) (by kernel_rfl) (fun _ _ _ h => h) HS5.out (Or.inl ⟨by rfl, ?_⟩) ?_
   rotate_left
   ·rintro w ⟨s0, s1⟩
    obtain ⟨xb, xo, he9, hbx9, x0, x1, x2, x3, x4, x5⟩ := rc_at s1 kk hkx
    injection he9 with he9; injection he9 with he91 he92; subst he91; subst he92
    go_simp
    try with_reducible rfl
   try simp only [Act.put, List.setIfInBounds_toArray, List.set_cons_zero, List.set_cons_succ]
   have hE6 : Ext w5 (w5.alloc oC0) := (Below.refl _ _).alloc (Nat.le_refl _) _
   have hs5 := HG5.out.size
   have HCB := Lib.hid (World.alloc_heap_new w5 oC0)
   have HD6 := Lib.hid (HD5.out.keep (KeepT.ext hE6)); have HB6 := Lib.hid ((hE6.block _ (blk_lt HB5.out)).trans HB5.out); have HZ6 := Lib.hid ((hE6.block _ (blk_lt HZ5.out)).trans HZ5.out)
   have HG6 := Lib.hid (gtrans HG5.out (gext hE6)); have HR6 := Lib.hid (HR5.out.ext hE6)
   have HS6 : Hid ((w5.alloc oC0).cell? ⟨w1.heap.size, 3, none⟩ = some (.slice (some ⟨g, go, none⟩) xs.length cc) ∧ Rd (w5.alloc oC0) (some ⟨g, go, none⟩) cc xs) := Lib.hid ⟨(five_cells HB6.out).2.2.2.1, HD6.out.fcli.1⟩
   have hrw5 := HR5.out.lt
   have hzw5 := blk_lt HZ5.out
   refine WB.one (i := 9) (by kernel_rfl) rfl (fun K hK => ?_)
   have HKK := Lib.hid hK
   clear hK
   go_simp
   refine HKK.out _ _ ⟨fun _ => HS6.out, ?_⟩
   clear HKK K hE6 HS5
   try simp only [Act.put, List.setIfInBounds_toArray, List.set_cons_zero, List.set_cons_succ]
   have hE9 : Ext w5 (w5.alloc (oR xs[kk])) := (Below.refl _ _).alloc (Nat.le_refl _) _
   have HF : Hid (CliS w r (q + 1) cls[kk] w5.heap.size (w5.alloc (oR xs[kk]))) := ⟨xs[kk], (HD5.out.fcls.2 kk hkx hkc).ext hE9, World.alloc_heap_new w5 (oR xs[kk]), (hE9.block _ (blk_lt HZ5.out)).trans HZ5.out, by omega, HR5.out.ext hE9, gtrans HG5.out (gext hE9)⟩
   have HCD := Lib.hid (HD5.out.fok _ (List.getElem_mem hkc))
   clear hE9
   have z0 := (six_cells HCB.out).1
   have z1 := (six_cells HCB.out).2.1
   have z2 := (six_cells HCB.out).2.2.1
   have z3 := (six_cells HCB.out).2.2.2.1
   have z4 := (six_cells HCB.out).2.2.2.2.1
   have z5 := (six_cells HCB.out).2.2.2.2.2.1
   have zf := (six_cells HCB.out).2.2.2.2.2.2
   refine WB.one (i := 10) (by kernel_rfl) rfl (fun K hK => ?_)
   have HKK := Lib.hid hK
   clear hK
   go_simp
   refine HKK.out _ _ ⟨fun h => (no_late h (by kernel_rfl)).elim, ?_⟩
   clear HKK K z0 z1 z2 z3 z4 z5 zf
   refine WB.done (by kernel_rfl) ?_
   go_wp2_with fail
   go_meet
   exact ⟨cls[kk], w5.heap.size, HCD.out, rfl, HF.out⟩
  ·have HKK := Lib.hid hK
   clear hK
   have hE4 : Ext w3 (w3.alloc oC0) := (Below.refl _ _).alloc (Nat.le_refl _) _
   have HC4 := Lib.hid (World.alloc_heap_new w3 oC0)
   have HD4 := Lib.hid (HD.out.keep (KeepT.ext hE4)); have HB4 := Lib.hid ((hE4.block _ (blk_lt HB3.out)).trans HB3.out); have HZ4 := Lib.hid ((hE4.block _ (blk_lt HZ3.out)).trans HZ3.out)
   have HG4 := Lib.hid (gtrans HG3.out (gext hE4)); have HR4 := Lib.hid (HR3.out.ext hE4)
   have hs34 := HG3.out.size
   have hrl3 := HR3.out.lt
   have hzl3 := blk_lt HZ3.out
   have HS4 : Hid ((w3.alloc oC0).cell? ⟨w1.heap.size, 3, none⟩ = some (.slice (some ⟨g, go, none⟩) xs.length cc) ∧ Rd (w3.alloc oC0) (some ⟨g, go, none⟩) cc xs) := Lib.hid ⟨(five_cells HB4.out).2.2.2.1, HD4.out.fcli.1⟩
   go_simp
   refine HKK.out _ _ ⟨fun _ => HS4.out, ?_⟩
   clear HKK K HS
   try simp only [Act.put, List.setIfInBounds_toArray, List.set_cons_zero, List.set_cons_succ]
   generalize (w3.alloc oC0) = w4 at *
   have hlc := blk_lt HC4.out
   refine WB.one (i := 6) (by kernel_rfl) rfl (fun K hK => ?_)
   have HKK := Lib.hid hK
   clear hK
   go_simp
   refine (pick_c r q (xs.length : Int) _ HR4.out (by omega) ⟨by omega, by omega⟩).mono ?_
   rintro r9 w5 ⟨v, rfl, hv0, hv1, -, hR, hg⟩
   have hvb := hv1 (by omega)
   refine Exists.elim (⟨v.toNat, by omega⟩ : ∃ kk : Nat, v = kk) ?_
   intro kk hkk
   rw [hkk]
   have hkx : kk < xs.length := by omega
   have hki : (kk : Int) < xs.length := by omega
   have hkc : kk < cls.length := by have := HD.out.fcls.1; omega
   clear hv1 hkk hvb hv0
   have hk5 : KeepT w4 w5 := by
    obtain ⟨A, c, bs, hbk, -⟩ := HR4.out
    exact KeepT.grown hg hbk (by decide) (by decide) (by decide) (by decide)
   have HD5 := Lib.hid (HD4.out.keep hk5)
   have HB5 := Lib.hid ((hg.block _ (blk_lt HB4.out) (fun e => by injection e with e; omega)).trans HB4.out)
   have HZ5 := Lib.hid ((hg.block _ (blk_lt HZ4.out) (fun e => by injection e with e; omega)).trans HZ4.out)
   have HG5 := Lib.hid (gtrans HG4.out hg); have HR5 := Lib.hid hR
   have HCB := Lib.hid ((hg.block _ hlc (fun e => by injection e with e; omega)).trans HC4.out)
   have HS5 : Hid (w5.cell? ⟨w1.heap.size, 3, none⟩ = some (.slice (some ⟨g, go, none⟩) xs.length cc) ∧ Rd w5 (some ⟨g, go, none⟩) cc xs) := Lib.hid ⟨(five_cells HB5.out).2.2.2.1, HD5.out.fcli.1⟩
   refine HKK.out _ _ ⟨fun _ => HS5.out, ?_⟩
   clear HKK K HS4 hg hR hk5 hE4
   try simp only [Act.put, List.setIfInBounds_toArray, List.set_cons_zero, List.set_cons_succ]
   refine WB.takeP (i := 7) (v := ?_) rfl (by kernel_rfl) (by kernel_rfl) (by kernel_rfl) (by kernel_rfl) (fun _ _ _ h => h) HS5.out (Or.inl ⟨by rfl, ?_⟩) ?_
   rotate_left
   ·(rintro w -; go_simp; try with_reducible rfl)
   try simp only [Act.put, List.setIfInBounds_toArray, List.set_cons_zero, List.set_cons_succ]
   refine WB.take (i := 8) (v := ?_) rfl (by kernel_rfl) (by kernel_rfl) (by kernel_rfl) (by kernel_rfl) (fun _ _ _ h => h) HS5.out (Or.inl ⟨by rfl, ?_⟩) ?_
   rotate_left
   ·rintro w ⟨s0, s1⟩
    obtain ⟨xb, xo, he9, hbx9, x0, x1, x2, x3, x4, x5⟩ := rc_at s1 kk hkx
    injection he9 with he9; injection he9 with he91 he92; subst he91; subst he92
    go_simp
    try with_reducible rfl
   try simp only [Act.put, List.setIfInBounds_toArray, List.set_cons_zero, List.set_cons_succ]
   have hp6 := put6_at (.int .i64 xs[kk].who) (.int .i64 xs[kk].seen) (.slice xs[kk].b xs[kk].bl xs[kk].bn) (.slice xs[kk].q xs[kk].ql xs[kk].qn) (.int .i64 xs[kk].done) (.int .i64 xs[kk].made) HCB.out
   have hg6 : w5.grownBy (put6 w5 w3.heap.size (.int .i64 xs[kk].who) (.int .i64 xs[kk].seen) (.slice xs[kk].b xs[kk].bl xs[kk].bn) (.slice xs[kk].q xs[kk].ql xs[kk].qn) (.int .i64 xs[kk].done) (.int .i64 xs[kk].made)) (some w3.heap.size) := gset (gset (gset (gset (gset (gset_any _ _ _ _) _ _) _ _) _ _) _ _) _ _
   have hk6 : KeepRE w5 (put6 w5 w3.heap.size (.int .i64 xs[kk].who) (.int .i64 xs[kk].seen) (.slice xs[kk].b xs[kk].bl xs[kk].bn) (.slice xs[kk].q xs[kk].ql xs[kk].qn) (.int .i64 xs[kk].done) (.int .i64 xs[kk].made)) := KeepRE.grown hg6 HCB.out (by decide) (by decide)
   have HF : Hid (CliS w r (q + 1) cls[kk] w3.heap.size (put6 w5 w3.heap.size (.int .i64 xs[kk].who) (.int .i64 xs[kk].seen) (.slice xs[kk].b xs[kk].bl xs[kk].bn) (.slice xs[kk].q xs[kk].ql xs[kk].qn) (.int .i64 xs[kk].done) (.int .i64 xs[kk].made))) := ⟨xs[kk], (HD5.out.fcls.2 kk hkx hkc).keepR hk6, hp6, (hg6.block _ (blk_lt HZ5.out) (by intro e; injection e with e; omega)).trans HZ5.out, by omega, HR5.out.other hg6 (by omega), gmix HG5.out hg6 (fun b hb => by injection hb with hb; omega)⟩
   have HCD := Lib.hid (HD5.out.fok _ (List.getElem_mem hkc))
   clear hp6 hg6 hk6
   have z0 := (six_cells HCB.out).1
   have z1 := (six_cells HCB.out).2.1
   have z2 := (six_cells HCB.out).2.2.1
   have z3 := (six_cells HCB.out).2.2.2.1
   have z4 := (six_cells HCB.out).2.2.2.2.1
   have z5 := (six_cells HCB.out).2.2.2.2.2.1
   have zf := (six_cells HCB.out).2.2.2.2.2.2
   refine WB.one (i := 10) (by kernel_rfl) rfl (fun K hK => ?_)
   have HKK := Lib.hid hK
   clear hK
   go_simp
   refine HKK.out _ _ ⟨fun h => (no_late h (by kernel_rfl)).elim, ?_⟩
   clear HKK K z0 z1 z2 z3 z4 z5 zf
   refine WB.done (by kernel_rfl) ?_
   go_wp2_with fail
   go_meet
   exact ⟨cls[kk], w3.heap.size, HCD.out, rfl, HF.out⟩
 case rest =>
  obtain ⟨c, cb, hcd, rfl, x, hx, hbx, hzx, hcb, hR1, hG1⟩ := hcut
  have HX0 := Lib.hid hx; have HB0 := Lib.hid hbx; have HZ0 := Lib.hid hzx; have HR0 := Lib.hid hR1; have HG0 := Lib.hid hG1; have HCD := Lib.hid hcd
  clear HS HD HD2 HD3 HB2 HB3 HZ2 HZ3 HG2 HG3 HR2 HR3 hw3 hs3 hcd hx hbx hzx hR1 hG1
  go_wp2_with fail
  refine (pick_c r (q + 1) 24 _ HR0.out (by omega) ⟨by omega, by omega⟩).mono ?_
  rintro r9 w4 ⟨v, rfl, hv0, hv1, -, hR, hg⟩
  have hk : KeepT wc w4 := by
   obtain ⟨A, c9, bs, hbk, -⟩ := HR0.out
   exact KeepT.grown hg hbk (by decide) (by decide) (by decide) (by decide)
  have HX4 := Lib.hid (HX0.out.keep hk)
  have HB4 := Lib.hid ((hg.block _ (blk_lt HB0.out) (fun e => by injection e with e; omega)).trans HB0.out)
  have HZ4 := Lib.hid ((hg.block _ (blk_lt HZ0.out) (fun e => by injection e with e; omega)).trans HZ0.out)
  have HG4 := Lib.hid (gtrans HG0.out hg); have HR4 := Lib.hid hR
  clear hk hg hR
  by_cases h0 : v = 0
  ·subst h0
   go_wp2_with fail
   refine (pick_c r (q + 1 + 1) 4 _ HR4.out (by omega) ⟨by omega, by omega⟩).mono ?_
   rintro r9 w5 ⟨v5, rfl, hv50, hv51, -, hR, hg⟩
   have hvb := hv51 (by omega)
   have hk : KeepT w4 w5 := by
    obtain ⟨A, c9, bs, hbk, -⟩ := HR4.out
    exact KeepT.grown hg hbk (by decide) (by decide) (by decide) (by decide)
   have HX5 := Lib.hid (HX4.out.keep hk)
   have HB5 := Lib.hid ((hg.block _ (blk_lt HB4.out) (fun e => by injection e with e; omega)).trans HB4.out)
   have HZ5 := Lib.hid ((hg.block _ (blk_lt HZ4.out) (fun e => by injection e with e; omega)).trans HZ4.out)
   have HG5 := Lib.hid (gtrans HG4.out hg); have HR5 := Lib.hid hR
   clear hk hg hR
   have hg7 : w5.grownBy (w5.setCell ⟨cb, 4, none⟩ (.int .i64 v5)) (some cb) := gset_any w5 cb 4 _
   have HBX := Lib.hid (set_at (i := 4) (v := .int .i64 v5) HB5.out)
   have HZX := Lib.hid ((hg7.block _ (blk_lt HZ5.out) (by intro e; injection e with e; omega)).trans HZ5.out)
   have HXX : Hid (RcO (w5.setCell ⟨cb, 4, none⟩ (.int .i64 v5)) w.heap.size (⟨x.who, x.seen, x.b, x.bl, x.bn, x.q, x.ql, x.qn, v5, x.made⟩ : RC) { c with done := v5 }) := by
    obtain ⟨b, bn, qq, qn, he, r1, r2⟩ := HX5.out.keepR (KeepRE.grown hg7 HB5.out (by decide) (by decide))
    rw [he]
    exact ⟨b, bn, qq, qn, rfl, r1, r2⟩
   have HGX := Lib.hid (gmix HG5.out hg7 (fun b hb => by injection hb with hb; omega))
   have HRX := Lib.hid (HR5.out.other hg7 (by omega))
   have HCW : Hid (CW { c with done := v5 }) := (HCD.out.done ⟨by omega, by omega⟩).1
   obtain ⟨c0, c1, c2, c3, c4, c5, cf⟩ := six_cells HB5.out
   clear hg7
   go_upto_region 8 with fail
   clear c0 c1 c2 c3 c4 c5 cf
   generalize (w5.setCell ⟨cb, 4, none⟩ (.int .i64 v5)) = W7 at *
   have hz := put6_at (.int .i64 x.who) (.int .i64 x.seen) (.slice x.b x.bl x.bn) (.slice x.q x.ql x.qn) (.int .i64 v5) (.int .i64 x.made) HZX.out
   have hg : W7.grownBy (put6 W7 w.heap.size (.int .i64 x.who) (.int .i64 x.seen) (.slice x.b x.bl x.bn) (.slice x.q x.ql x.qn) (.int .i64 v5) (.int .i64 x.made)) (some w.heap.size) := gset (gset (gset (gset (gset (gset_any _ _ _ _) _ _) _ _) _ _) _ _) _ _
   have HZ9 := Lib.hid hz
   have HC9 := Lib.hid (RcO.keepR HXX.out (KeepRE.grown hg HZX.out (by decide) (by decide)))
   have HR9 := Lib.hid (Rdr.other HRX.out hg hrl)
   have HG9 := Lib.hid (gmix HGX.out hg (fun b hb => by injection hb with hb; omega))
   obtain ⟨c0, c1, c2, c3, c4, c5, cf⟩ := six_cells HBX.out
   obtain ⟨d0, d1, d2, d3, d4, d5, df⟩ := six_cells HZX.out
   clear hz hg
   go_wp2_with fail
   obtain ⟨k0, k1, k2, k3, k4, k5, kf⟩ := six_cells HZ9.out
   refine bodyPost_ret (v := .agg #[.int .i64 x.who, .int .i64 x.seen, .slice x.b x.bl x.bn, .slice x.q x.ql x.qn, .int .i64 v5, .int .i64 x.made]) ?_ rfl ?_
   ·simp [results, Tryd.f51, go_sem, k0, k1, k2, k3, k4, k5]
   ·exact ⟨_, _, q + 1 + 1 + 1, rfl, HC9.out.co, HCW.out, by omega, by omega, HR9.out, HG9.out⟩
  by_cases h1 : v = 1
  ·subst h1
   obtain ⟨b, bn, qq, qn, hxe, hr1, hr2⟩ := HX4.out
   have HB4b : Hid (w4.heap[cb]? = some (.cells (cC c b bn qq qn) 30 (0, 0))) := by have h := HB4.out; rw [hxe] at h; exact h
   clear hxe hv0 hv1 h0
   have hEd : Ext w4 w4.drew := (Below.refl _ _).drew
   obtain ⟨w5, hw5⟩ : ∃ W, W = w4.drew := ⟨_, rfl⟩
   have HB5 : Hid (w5.heap[cb]? = some (.cells (cC c b bn qq qn) 30 (0, 0))) := by rw [hw5]; exact HB4b.out
   have HZ5 : Hid (w5.heap[w.heap.size]? = some (.cells cC0 30 (0, 0))) := by rw [hw5]; exact HZ4.out
   have H15 : Hid (Own 47 w5 w.heap.size (.slice b c.base.length bn) c.base) := by rw [hw5]; exact hr1.below hEd
   have H25 : Hid (Own 44 w5 w.heap.size (.slice qq c.wait.length qn) c.wait) := by rw [hw5]; exact hr2.below hEd
   have HG5 : Hid (w.grownBy w5 (some r)) := by rw [hw5]; exact gtrans HG4.out (gext hEd)
   have HR5 : Hid (Rdr w5 r (q + 1 + 1)) := by rw [hw5]; exact HR4.out.ext hEd
   have HS : Hid (w5.cell? ⟨cb, 3, none⟩ = some (.slice qq c.wait.length qn) ∧ w5.cell? ⟨cb, 0, none⟩ = some (.int .i64 c.who)) := Lib.hid ⟨(six_cells HB5.out).2.2.2.1, (six_cells HB5.out).1⟩
   clear hr1 hr2 hEd
   go_upto_region 7 with fail
   refine wp_region_B (fun w' => w'.cell? ⟨cb, 3, none⟩ = some (.slice qq c.wait.length qn) ∧ w'.cell? ⟨cb, 0, none⟩ = some (.int .i64 c.who)) 13 (by kernel_rfl) ?_
   rw [← hw5]
   clear hw5
   refine WB.take (i := 0) (v := ?_) rfl (by kernel_rfl) (by kernel_rfl) (by kernel_rfl) (by kernel_rfl) (fun _ _ _ h => h) HS.out (Or.inl ⟨by rfl, ?_⟩) ?_
   rotate_left
   ·(rintro w ⟨s0, s1⟩; go_simp; try with_reducible rfl)
   try simp only [Act.put, List.setIfInBounds_toArray, List.set_cons_zero, List.set_cons_succ]
   refine WB.take (i := 1) (v := ?_) rfl (by kernel_rfl) (by kernel_rfl) (by kernel_rfl) (by kernel_rfl) (fun _ _ _ h => h) HS.out (Or.inl ⟨by rfl, ?_⟩) ?_
   rotate_left
   ·(rintro w ⟨s0, s1⟩; go_simp; try with_reducible rfl)
   try simp only [Act.put, List.setIfInBounds_toArray, List.set_cons_zero, List.set_cons_succ]
   refine WB.take (i := 2) (v := ?_) rfl (by kernel_rfl) (by kernel_rfl) (by kernel_rfl) (by kernel_rfl) (fun _ _ _ h => h) HS.out (Or.inl ⟨by rfl, ?_⟩) ?_
   rotate_left
   ·(rintro w ⟨s0, s1⟩; go_simp; try with_reducible rfl)
   try simp only [Act.put, List.setIfInBounds_toArray, List.set_cons_zero, List.set_cons_succ]
   refine WB.take (i := 3) (v := ?_) rfl (by kernel_rfl) (by kernel_rfl) (by kernel_rfl) (by kernel_rfl) (fun _ _ _ h => h) HS.out (Or.inl ⟨by rfl, ?_⟩) ?_
   rotate_left
   ·(rintro w ⟨s0, s1⟩; go_simp; try with_reducible rfl)
   try simp only [Act.put, List.setIfInBounds_toArray, List.set_cons_zero, List.set_cons_succ]
   refine WB.take (i := 4) (v := ?_) rfl (by kernel_rfl) (by kernel_rfl) (by kernel_rfl) (by kernel_rfl) (fun _ _ _ h => h) HS.out (Or.inl ⟨by rfl, ?_⟩) ?_
   rotate_left
   ·(rintro w ⟨s0, s1⟩; go_simp; try with_reducible rfl)
   try simp only [Act.put, List.setIfInBounds_toArray, List.set_cons_zero, List.set_cons_succ]
   refine WB.takeP (i := 7) (v := ?_) rfl (by kernel_rfl) (by kernel_rfl) (by kernel_rfl) (by kernel_rfl) (fun _ _ _ h => h) HS.out (Or.inl ⟨by rfl, ?_⟩) ?_
   rotate_left
   ·(rintro w -; go_simp; try with_reducible rfl)
   try simp only [Act.put, List.setIfInBounds_toArray, List.set_cons_zero, List.set_cons_succ]
   refine WB.one (i := 5) (by kernel_rfl) rfl (fun K hK => ?_)
   have HKK := Lib.hid hK
   clear hK
   go_simp
   refine (pick_c r (q + 1 + 1) 9 _ HR5.out (by omega) ⟨by omega, by omega⟩).mono ?_
   rintro r9 w6 ⟨v6, rfl, hv0, hv1, -, hR, hg⟩
   have hvb := hv1 (by omega)
   have hk : KeepT w5 w6 := by
    obtain ⟨A, c9, bs, hbk, -⟩ := HR5.out
    exact KeepT.grown hg hbk (by decide) (by decide) (by decide) (by decide)
   have H16 := Lib.hid (H15.out.keep hk (.inl rfl)); have H26 := Lib.hid (H25.out.keep hk (.inr (.inl rfl)))
   have HB6 := Lib.hid ((hg.block _ (blk_lt HB5.out) (fun e => by injection e with e; omega)).trans HB5.out)
   have HZ6 := Lib.hid ((hg.block _ (blk_lt HZ5.out) (fun e => by injection e with e; omega)).trans HZ5.out)
   have HG6 := Lib.hid (gtrans HG5.out hg); have HR6 := Lib.hid hR
   have HS6 : Hid (w6.cell? ⟨cb, 3, none⟩ = some (.slice qq c.wait.length qn) ∧ w6.cell? ⟨cb, 0, none⟩ = some (.int .i64 c.who)) := Lib.hid ⟨(six_cells HB6.out).2.2.2.1, (six_cells HB6.out).1⟩
   clear hk hg hR
   have hwv : IntKind.i64.wrap (1 + v6) = 1 + v6 := by rw [IntKind.wrap_i64]; omega
   refine HKK.out _ _ ⟨fun _ => HS6.out, ?_⟩
   clear HKK K HS hv1
   try simp only [Act.put, List.setIfInBounds_toArray, List.set_cons_zero, List.set_cons_succ]
   refine WB.takeP (i := 6) (v := ?_) rfl (by kernel_rfl) (by kernel_rfl) (by kernel_rfl) (by kernel_rfl) (fun _ _ _ h => h) HS6.out (Or.inl ⟨by rfl, ?_⟩) ?_
   rotate_left
   ·(rintro w -; go_simp; try with_reducible rfl)
   try simp only [Act.put, List.setIfInBounds_toArray, List.set_cons_zero, List.set_cons_succ]
   refine WB.one (i := 8) (by kernel_rfl) rfl (fun K hK => ?_)
   have HKK := Lib.hid hK
   clear hK
   go_simp
   refine (opx_d r (q + 1 + 1 + 1) _ HR6.out (by omega)).mono ?_
   rintro r9 w7 ⟨o, p7, rfl, hsm, hq71, hq72, hR, hg⟩
   rw [show o.val = .agg (cO o) from rfl]
   have HSM := Lib.hid hsm
   clear hsm
   have hk : KeepT w6 w7 := by
    obtain ⟨A, c9, bs, hbk, -⟩ := HR6.out
    exact KeepT.grown hg hbk (by decide) (by decide) (by decide) (by decide)
   have H17 := Lib.hid (H16.out.keep hk (.inl rfl)); have H27 := Lib.hid (H26.out.keep hk (.inr (.inl rfl)))
   have HB7 := Lib.hid ((hg.block _ (blk_lt HB6.out) (fun e => by injection e with e; omega)).trans HB6.out)
   have HZ7 := Lib.hid ((hg.block _ (blk_lt HZ6.out) (fun e => by injection e with e; omega)).trans HZ6.out)
   have HG7 := Lib.hid (gtrans HG6.out hg); have HR7 := Lib.hid hR
   have HS7 : Hid (w7.cell? ⟨cb, 3, none⟩ = some (.slice qq c.wait.length qn) ∧ w7.cell? ⟨cb, 0, none⟩ = some (.int .i64 c.who)) := Lib.hid ⟨(six_cells HB7.out).2.2.2.1, (six_cells HB7.out).1⟩
   clear hk hg hR
   refine HKK.out _ _ ⟨fun _ => HS7.out, ?_⟩
   clear HKK K HS6
   try simp only [Act.put, List.setIfInBounds_toArray, List.set_cons_zero, List.set_cons_succ]
   refine WB.takeP (i := 9) (v := ?_) rfl (by kernel_rfl) (by kernel_rfl) (by kernel_rfl) (by kernel_rfl) (fun _ _ _ h => h) HS7.out (Or.inl ⟨by rfl, ?_⟩) ?_
   rotate_left
   ·(rintro w -; go_simp; try with_reducible rfl)
   try simp only [Act.put, List.setIfInBounds_toArray, List.set_cons_zero, List.set_cons_succ]
   have hE8 : Ext w7 (w7.alloc (.cells #[.int .i64 c.who, .int .i64 (1 + v6), .int .i64 o.kind, .int .i64 o.id, .int .i64 o.up, .int .i64 o.pos, .string o.text] 44)) := (Below.refl _ _).alloc (Nat.le_refl _) _
   have hs7 := HG7.out.size
   have happ := app_one el_ent H27.out (⟨c.who, 1 + v6, o⟩ : Entry) (by have := HSM.out.2.2.2.2; show o.text.size ≤ maxLen; unfold maxLen; omega) (by have := HCD.out.2.1; omega) hs7 #[.int .i64 c.who, .int .i64 (1 + v6), .int .i64 o.kind, .int .i64 o.id, .int .i64 o.up, .int .i64 o.pos, .string o.text] rfl
   have HB8 := Lib.hid ((hE8.block _ (blk_lt HB7.out)).trans HB7.out)
   have HS8 : Hid ((w7.alloc (.cells #[.int .i64 c.who, .int .i64 (1 + v6), .int .i64 o.kind, .int .i64 o.id, .int .i64 o.up, .int .i64 o.pos, .string o.text] 44)).cell? ⟨cb, 3, none⟩ = some (.slice qq c.wait.length qn) ∧ (w7.alloc (.cells #[.int .i64 c.who, .int .i64 (1 + v6), .int .i64 o.kind, .int .i64 o.id, .int .i64 o.up, .int .i64 o.pos, .string o.text] 44)).cell? ⟨cb, 0, none⟩ = some (.int .i64 c.who)) := Lib.hid ⟨(six_cells HB8.out).2.2.2.1, (six_cells HB8.out).1⟩
   refine WB.one (i := 10) (by kernel_rfl) rfl (fun K hK => ?_)
   have HKK := Lib.hid hK
   clear hK
   go_simp
   refine HKK.out _ _ ⟨fun _ => HS8.out, ?_⟩
   clear HKK K HS7
   try simp only [Act.put, List.setIfInBounds_toArray, List.set_cons_zero, List.set_cons_succ]
   refine Exists.elim happ ?_
   intro v8 happ
   refine Exists.elim happ ?_
   intro w8 happ
   have hrun := happ.1; have ho8 := happ.2.1; have hg8 := happ.2.2
   refine Exists.elim ho8.rd ?_
   intro Q8 hv8
   refine Exists.elim hv8 ?_
   intro n8 hv8
   have hv8' := hv8.1
   subst hv8'
   refine Exists.elim (⟨_, rfl⟩ : ∃ wl, wl = c.wait ++ [(⟨c.who, 1 + v6, o⟩ : Entry)]) ?_
   intro wl hwl
   rw [← hwl] at ho8 hrun
   have hoa := H27.out.below hE8
   have hob := box_grown HB8.out hg8 hoa (by decide)
   have hzb := box_grown ((hE8.block _ (blk_lt HZ7.out)).trans HZ7.out) hg8 hoa (by decide)
   have hr8 := (H17.out.below hE8).grownO hg8 hoa (by decide)
   have hR8 := (HR7.out.ext hE8).row hg8 (fun b hb => by have := (hoa.blk b hb).1; omega)
   have hG8 := gmix (gtrans HG7.out (gext hE8)) hg8 (fun b hb => (hoa.blk b hb).1)
   have hg9 : w8.grownBy (w8.setCell ⟨cb, 3, none⟩ (.slice Q8 wl.length n8)) (some cb) := gset_any w8 cb 3 _
   have HB9 := Lib.hid (set_at (i := 3) (v := .slice Q8 wl.length n8) hob)
   have HZ9 := Lib.hid ((hg9.block _ (blk_lt hzb) (by intro e; injection e with e; omega)).trans hzb)
   have HX9 : Hid (RcO (w8.setCell ⟨cb, 3, none⟩ (.slice Q8 wl.length n8)) w.heap.size ⟨c.who, c.seen, b, c.base.length, bn, Q8, wl.length, n8, c.done, c.made⟩ { c with wait := wl }) := ⟨b, bn, Q8, n8, rfl, own_put hr8 hob (by decide) 3 _, own_put ho8 hob (by decide) 3 _⟩
   have HR9 := Lib.hid (hR8.other hg9 (by omega))
   have HG9 := Lib.hid (gmix hG8 hg9 (fun b hb => by injection hb with hb; omega))
   have HCW : Hid (CW { c with wait := wl }) := by
    have hc := HCD.out
    refine ⟨hc.1.1, hc.1.2.1, fun e he => ?_, by show wl.length ≤ 2000000; rw [hwl, List.length_append, List.length_singleton]; have := hc.2.1; omega⟩
    have he' : e ∈ wl := he
    rw [hwl] at he'
    rcases List.mem_append.1 he' with h1 | h1
    ·exact hc.1.2.2.1 e h1
    ·rw [List.mem_singleton.1 h1]; exact HSM.out.w
   have HSA : Hid (w8.cell? ⟨cb, 3, none⟩ = some (.slice qq c.wait.length qn) ∧ w8.cell? ⟨cb, 0, none⟩ = some (.int .i64 c.who)) := Lib.hid ⟨(six_cells hob).2.2.2.1, (six_cells hob).1⟩
   have HRUN := Lib.hid hrun; have HOB := Lib.hid hob
   clear happ hrun ho8 hg8 hv8 hwl hoa hob hzb hr8 hR8 hG8 hg9 hE8
   refine WB.one (i := 11) (by kernel_rfl) rfl (fun K hK => ?_)
   refine step_append_run rfl _ _ _ rfl rfl rfl HRUN.out ?_
   refine hK _ _ ⟨fun _ => HSA.out, ?_⟩
   clear hK K HS8 HRUN
   try simp only [Act.put, List.setIfInBounds_toArray, List.set_cons_zero, List.set_cons_succ]
   refine WB.takeP (i := 12) (v := ?_) rfl (by kernel_rfl) (by kernel_rfl) (by kernel_rfl) (by kernel_rfl) (fun _ _ _ h => h) HSA.out (Or.inl ⟨by rfl, ?_⟩) ?_
   rotate_left
   ·(rintro w -; go_simp; try with_reducible rfl)
   try simp only [Act.put, List.setIfInBounds_toArray, List.set_cons_zero, List.set_cons_succ]
   refine WB.one (i := 13) (by kernel_rfl) rfl (fun K hK => ?_)
   have HKK := Lib.hid hK
   clear hK
   have c0 := (six_cells HOB.out).1
   have c1 := (six_cells HOB.out).2.1
   have c2 := (six_cells HOB.out).2.2.1
   have c3 := (six_cells HOB.out).2.2.2.1
   have c4 := (six_cells HOB.out).2.2.2.2.1
   have c5 := (six_cells HOB.out).2.2.2.2.2.1
   have cf := (six_cells HOB.out).2.2.2.2.2.2
   go_simp
   refine HKK.out _ _ ⟨fun h => (no_late h (by kernel_rfl)).elim, ?_⟩
   clear HKK K HSA c0 c1 c2 c3 c4 c5 cf HOB
   refine WB.done (by kernel_rfl) ?_
   generalize (w8.setCell ⟨cb, 3, none⟩ (.slice Q8 wl.length n8)) = W9 at *
   have HB9b : Hid (W9.heap[cb]? = some (.cells #[.int .i64 c.who, .int .i64 c.seen, .slice b c.base.length bn, .slice Q8 wl.length n8, .int .i64 c.done, .int .i64 c.made] 30 (0, 0))) := HB9.out
   have hz := put6_at (.int .i64 c.who) (.int .i64 c.seen) (.slice b c.base.length bn) (.slice Q8 wl.length n8) (.int .i64 c.done) (.int .i64 c.made) HZ9.out
   have hg : W9.grownBy (put6 W9 w.heap.size (.int .i64 c.who) (.int .i64 c.seen) (.slice b c.base.length bn) (.slice Q8 wl.length n8) (.int .i64 c.done) (.int .i64 c.made)) (some w.heap.size) := gset (gset (gset (gset (gset (gset_any _ _ _ _) _ _) _ _) _ _) _ _) _ _
   have HZa := Lib.hid hz
   have HC9 := Lib.hid (RcO.keepR HX9.out (KeepRE.grown hg HZ9.out (by decide) (by decide)))
   have HRa := Lib.hid (Rdr.other HR9.out hg hrl)
   have HGa := Lib.hid (gmix HG9.out hg (fun b hb => by injection hb with hb; omega))
   obtain ⟨c0, c1, c2, c3, c4, c5, cf⟩ := six_cells HB9b.out
   obtain ⟨d0, d1, d2, d3, d4, d5, df⟩ := six_cells HZ9.out
   clear hz hg
   go_wp2_with fail
   obtain ⟨k0, k1, k2, k3, k4, k5, kf⟩ := six_cells HZa.out
   refine bodyPost_ret (v := .agg #[.int .i64 c.who, .int .i64 c.seen, .slice b c.base.length bn, .slice Q8 wl.length n8, .int .i64 c.done, .int .i64 c.made]) ?_ rfl ?_
   ·simp [results, Tryd.f51, go_sem, k0, k1, k2, k3, k4, k5]
   ·exact ⟨_, _, p7, rfl, HC9.out.co, HCW.out, by omega, by omega, HRa.out, HGa.out⟩
  ·have q0 : (v == 0) = false := by simp [h0]
   have q1 : (v == 1) = false := by simp [h1]
   clear h0 h1 hv0 hv1
   have hz := put6_at (.int .i64 x.who) (.int .i64 x.seen) (.slice x.b x.bl x.bn) (.slice x.q x.ql x.qn) (.int .i64 x.done) (.int .i64 x.made) HZ4.out
   have hg : w4.grownBy (put6 w4 w.heap.size (.int .i64 x.who) (.int .i64 x.seen) (.slice x.b x.bl x.bn) (.slice x.q x.ql x.qn) (.int .i64 x.done) (.int .i64 x.made)) (some w.heap.size) := gset (gset (gset (gset (gset (gset_any _ _ _ _) _ _) _ _) _ _) _ _) _ _
   have HZ9 := Lib.hid hz
   have HC9 := Lib.hid (RcO.keepR HX4.out (KeepRE.grown hg HZ4.out (by decide) (by decide)))
   have HR9 := Lib.hid (Rdr.other HR4.out hg hrl)
   have HG9 := Lib.hid (gmix HG4.out hg (fun b hb => by injection hb with hb; omega))
   obtain ⟨c0, c1, c2, c3, c4, c5, cf⟩ := six_cells HB4.out
   obtain ⟨d0, d1, d2, d3, d4, d5, df⟩ := six_cells HZ4.out
   clear hz hg
   go_wp2_with fail
   obtain ⟨k0, k1, k2, k3, k4, k5, kf⟩ := six_cells HZ9.out
   refine bodyPost_ret (v := .agg (cR x)) ?_ rfl ?_
   ·simp [results, Tryd.f51, go_sem, k0, k1, k2, k3, k4, k5]
   ·exact ⟨c, _, q + 1 + 1, rfl, HC9.out.co, HCD.out.1, by omega, by omega, HR9.out, HG9.out⟩
end Go.Proofs.YtjhbbgeebobcpaaDoor
