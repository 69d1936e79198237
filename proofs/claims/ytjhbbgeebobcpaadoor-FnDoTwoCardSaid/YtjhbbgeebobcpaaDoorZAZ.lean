/- Walk of the draw of a play. -/
import Derived.Test.YtjhbbgeebobcpaaDoorZAY
namespace Go.Proofs.YtjhbbgeebobcpaaDoor
open Go.RowKit Go.Lib
set_option linter.unusedVariables false
set_option linter.unusedSimpArgs false
instance : Flat Ev := ⟨fun e => [.int .i64 e.kind, .int .i64 e.who, .int .i64 e.n, .int .i64 e.op.kind, .int .i64 e.op.id, .int .i64 e.op.up, .int .i64 e.op.pos, .string e.op.text], 8, fun _ => rfl, fun _ u hu => by simp at hu; rcases hu with rfl | rfl | rfl | rfl | rfl | rfl | rfl | rfl <;> rfl, by omega, fun e => e.op.text.size ≤ maxLen⟩
theorem ev_info : ∃ i : TypeInfo, Tryd.prog.info? 147 = some i ∧ i.zero = some (.agg #[.int .i64 0, .int .i64 0, .int .i64 0, .int .i64 0, .int .i64 0, .int .i64 0, .int .i64 0, .string ⟨#[]⟩]) ∧ i.size = 8 ∧ i.bytes = 72 := info_parts (by kernel_rfl)
theorem el_ev : El Ev 147 130 := ⟨by kernel_rfl, info_of ev_info (by decide) rfl rfl⟩
theorem WP.lower {W : World} {base base' : Nat} {w : Wd} {L C N : Option Addr} {ln cc nc : Nat} {xs : List RC} {ys : List RL} (h : WP W base w L ln C cc N nc xs ys) (hb : base' ≤ base) : WP W base' w L ln C cc N nc xs ys :=
 ⟨h.log, h.cli.lower hb, h.let_.lower hb, h.cls, h.nets⟩
theorem keepT_own {α : Type} [Flat α] {e : TypeId} {W W' : World} {base : Nat} {v : Value} {xs : List α} (ho : Own e W base v xs) (hg : W.grownBy W' v.ownBlock) (h1 : e ≠ 47) (h2 : e ≠ 44) (h3 : e ≠ 30) (h4 : e ≠ 161) : KeepT W W' := by
 cases hv : v.ownBlock with
 |none => rw [hv] at hg; exact fun k cs ty m hk _ => (hg.block k (blk_lt hk) (by simp)).trans hk
 |some k =>
  obtain ⟨cs, m, hk⟩ := ho.ty k hv
  rw [hv] at hg
  exact KeepT.grown hg hk h1 h2 h3 h4
theorem ownB_ty {W : World} {base : Nat} {w : Wd} {L C N : Option Addr} {ln cc nc : Nat} {xs : List RC} {ys : List RL} (h : WP W base w L ln C cc N nc xs ys) {k : Nat} (hk : OwnB C N k) : base ≤ k ∧ ∃ cs ty m, W.heap[k]? = some (.cells cs ty m) ∧ (ty = 30 ∨ ty = 161) := by
 rcases hk with hk | hk
 ·obtain ⟨cs, m, h1⟩ := h.cli.ty k (by rw [ob_map]; exact hk)
  exact ⟨(h.cli.blk k (by rw [ob_map]; exact hk)).1, cs, _, m, h1, .inl rfl⟩
 ·obtain ⟨cs, m, h1⟩ := h.let_.ty k (by rw [ob_map]; exact hk)
  exact ⟨(h.let_.blk k (by rw [ob_map]; exact hk)).1, cs, _, m, h1, .inr rfl⟩
theorem WP.box {W W' : World} {base : Nat} {w : Wd} {L C N : Option Addr} {ln cc nc : Nat} {xs : List RC} {ys : List RL} (h : WP W base w L ln C cc N nc xs ys) (hT : Turn (OwnB C N) W W') {b : Nat} {cs : Array Value} {ty : TypeId} {m : Nat × Nat} (hb : W.heap[b]? = some (.cells cs ty m)) (h1 : ty ≠ 30) (h2 : ty ≠ 161) : W'.heap[b]? = some (.cells cs ty m) :=
 (hT.block b (blk_lt hb) (fun hk => by
  obtain ⟨-, c2, t2, m2, h3, h4⟩ := ownB_ty h hk
  rw [hb] at h3
  injection h3 with h3; injection h3 with _ h3
  rcases h4 with h4 | h4
  ·exact h1 (h3.trans h4)
  ·exact h2 (h3.trans h4))).trans hb
theorem WP.ownT {α : Type} [Flat α] {e : TypeId} {W W' : World} {base base' : Nat} {w : Wd} {L C N : Option Addr} {ln cc nc : Nat} {xs : List RC} {ys : List RL} {v : Value} {l : List α} (h : WP W base w L ln C cc N nc xs ys) (hT : Turn (OwnB C N) W W') (ho : Own e W base' v l) (h1 : e ≠ 30) (h2 : e ≠ 161) : Own e W' base' v l :=
 ho.turn hT (fun k hk hs => by
  obtain ⟨cs, m, hb⟩ := ho.ty k hk
  obtain ⟨-, c2, t2, m2, h3, h4⟩ := ownB_ty h hs
  rw [hb] at h3
  injection h3 with h3; injection h3 with _ h3
  rcases h4 with h4 | h4
  ·exact h1 (h3.trans h4)
  ·exact h2 (h3.trans h4))
theorem Rdr.turn {S : Nat → Prop} {w w' : World} {r p : Nat} (h : Rdr w r p) (hT : Turn S w w') (hS : ∀ k, S k → r < k) : Rdr w' r p := by
 obtain ⟨A, c, bs, h1, h2, h3, h4⟩ := h
 refine ⟨A, c, bs, (hT.block r (blk_lt h1) (fun e => by have := hS r e; omega)).trans h1, ⟨h2.1, h2.2.1, fun h0 => ?_, h2.2.2.2⟩, h3, h4⟩
 obtain ⟨b, off, rfl, hh⟩ := h2.2.2.1 h0
 have hbr := h4 b off rfl
 exact ⟨b, off, rfl, fun j v hv => (World.cell?_of_block (hT.block b (by have := blk_lt h1; omega) (fun e => by have := hS b e; omega))).trans (hh j v hv)⟩
theorem Own.keepB {α : Type} [Flat α] {e : TypeId} {W W' : World} {base b : Nat} {v : Value} {l : List α} {cs : Array Value} {ty : TypeId} {m : Nat × Nat} (h : Own e W base v l) (hg : W.grownBy W' (some b)) (hb : W.heap[b]? = some (.cells cs ty m)) (hne : ty ≠ e) : Own e W' base v l := by
 refine h.grown hg ?_
 cases hv : v.ownBlock with
 |none => exact .inl rfl
 |some k =>
  refine .inr (fun eq => ?_)
  injection eq with eq
  subst eq
  obtain ⟨c1, m1, h1⟩ := h.ty k hv
  rw [hb] at h1
  injection h1 with h1; injection h1 with _ h1
  exact hne h1
theorem gturn {S : Nat → Prop} {w wr w' : World} {row : Option Nat} (h : w.grownBy wr row) (hT : Turn S wr w') (hS : ∀ k, S k → w.heap.size ≤ k) : w.grownBy w' row :=
 ⟨hT.os.trans h.os, hT.tape.trans h.tape, hT.output.trans h.output, Nat.le_trans h.size hT.size, fun k hk hne => (hT.block k (Nat.lt_of_lt_of_le hk h.size) (fun e => by have := hS k e; omega)).trans (h.block k hk hne)⟩
theorem newW_ok : WInv ⟨[], 0, true, clisNew 3, []⟩ :=
 ⟨fun e h => by simp at h, by simp, by simp, by simp, by simp [clisNew], by decide, by simp, fun m h => by simp at h⟩
def PlayP (r p : Nat) (w : World) (x : Ending) (w' : World) : Prop := ∃ (ev v : Value) (wd : Wd) (p' : Nat), x = .returned (.tuple #[ev, v]) ∧ WInv wd ∧ WVc w' w.heap.size wd v ∧ p ≤ p' ∧ p' ≤ p + 3000 ∧ Rdr w' r p' ∧ w.grownBy w' (some r)
set_option maxRecDepth 100000 in
set_option maxHeartbeats 4000000 in
theorem play_d (r p : Nat) (w : World) (h : Rdr w r p) (hp : p < 990000000) :
  Calls Tryd.prog 87 #[.pointer (some ⟨r, 0, none⟩)] w (PlayP r p w) := by
 have hrl := h.lt
 have hE1 : Ext w (w.alloc oW0) := (Below.refl _ _).alloc (Nat.le_refl _) _
 have HZ0 := Lib.hid (World.alloc_heap_new w oW0); have HE0 := Lib.hid hE1; have HR0 := Lib.hid (h.ext hE1)
 have hz1 := alloc_sz w oW0
 clear hE1 h
 go_enter Tryd.func87, Tryd.ntmps87
 go_wp2_with fail
 generalize (w.alloc oW0) = W0 at *
 refine (worldNew_s W0).mono ?_
 rintro x w1 ⟨v1, rfl, ⟨L, ln, C, cc, N, nc, xs, ys, rfl, hp1⟩, hb1⟩
 have hs1 := hb1.size
 dsimp only [List.length_nil]
 have hE2 : Ext w1 (w1.alloc (.cells #[.slice L 0 ln, .int .i64 0, .bool true, .slice C xs.length cc, .slice N ys.length nc] 93)) := (Below.refl _ _).alloc (Nat.le_refl _) _
 have hx2 := World.alloc_heap_new w1 (.cells #[.slice L 0 ln, .int .i64 0, .bool true, .slice C xs.length cc, .slice N ys.length nc] 93)
 have hz2 := alloc_sz w1 (.cells #[.slice L 0 ln, .int .i64 0, .bool true, .slice C xs.length cc, .slice N ys.length nc] 93)
 have HZ2 := Lib.hid ((hE2.block _ (blk_lt ((hb1.block _ (blk_lt HZ0.out)).trans HZ0.out))).trans ((hb1.block _ (blk_lt HZ0.out)).trans HZ0.out))
 have HX2 := Lib.hid hx2
 have HP2 := Lib.hid ((hp1.ext hE2).lower (base' := w.heap.size) (by omega))
 have hE02 : Ext w (w1.alloc (.cells #[.slice L 0 ln, .int .i64 0, .bool true, .slice C xs.length cc, .slice N ys.length nc] 93)) := (HE0.out.trans (hb1.mono (by omega))).trans (hE2.mono (by omega))
 have HE2 := Lib.hid hE02; have HR2 := Lib.hid ((HR0.out.ext hb1).ext hE2)
 clear hE2 hx2 hp1 hE02 hb1
 go_wp2_with fail
 generalize (w1.alloc (.cells #[.slice L 0 ln, .int .i64 0, .bool true, .slice C xs.length cc, .slice N ys.length nc] 93)) = W2 at *
 have hE3 : Ext W2 (W2.alloc (.cells #[] 147)) := (Below.refl _ _).alloc (Nat.le_refl _) _
 refine (pick_c r p 46 _ (HR2.out.ext hE3) (by omega) ⟨by omega, by omega⟩).mono ?_
 rintro r9 w3 ⟨v, rfl, hv0, hv1, -, hR3, hg3⟩
 have hvb := hv1 (by omega)
 obtain ⟨t0, rfl⟩ : ∃ t : Nat, v = t := ⟨v.toNat, by omega⟩
 have hos := own_made (e := 147) (α := Ev) W2 w.heap.size (by omega)
 have HO3 := Lib.hid (hos.grown hg3 (.inr (by simp only [Value.ownBlock, ne_eq, Option.some.injEq]; omega)))
 have hk3 : KeepT (W2.alloc (.cells #[] 147)) w3 := by
  obtain ⟨A, c, bs, hbk, -⟩ := HR2.out.ext hE3
  exact KeepT.grown hg3 hbk (by decide) (by decide) (by decide) (by decide)
 have HP3 := Lib.hid ((HP2.out.ext hE3).keep hk3)
 have HX3 := Lib.hid ((hg3.block _ (blk_lt ((hE3.block _ (blk_lt HX2.out)).trans HX2.out)) (fun e => by injection e with e; omega)).trans ((hE3.block _ (blk_lt HX2.out)).trans HX2.out))
 have HZ3 := Lib.hid ((hg3.block _ (blk_lt ((hE3.block _ (blk_lt HZ2.out)).trans HZ2.out)) (fun e => by injection e with e; omega)).trans ((hE3.block _ (blk_lt HZ2.out)).trans HZ2.out))
 have HG3 := Lib.hid (gtrans (gext (HE2.out.trans (hE3.mono (by omega)))) hg3)
 have HR3 := Lib.hid hR3
 clear hos hk3 hR3 hg3 hE3 hv1
 go_wp2_with fail
 go_loopg [5, 6] t0 (fun gk ev i wr => ∃ (t q : Nat) (es : List Ev) (E : Option Addr) (ec : Nat) (wk : Wd) (L : Option Addr) (ln : Nat) (C : Option Addr) (cc : Nat) (N : Option Addr) (nc : Nat) (xs : List RC) (ys : List RL), t ≤ 45 ∧ Hid (gk = t) ∧ i = .int .i64 t ∧ ev = .slice E es.length ec ∧ Hid (Own 147 wr w.heap.size (.slice E es.length ec) es) ∧ es.length + t ≤ 45 ∧ p ≤ q ∧ q + 60 * t ≤ p + 2800 ∧ Hid (Rdr wr r q) ∧ Hid (WInv wk) ∧ Hid (wr.heap[w1.heap.size]? = some (.cells (cW wk L ln C xs cc N ys nc) 93 (0, 0))) ∧ Hid (wr.heap[w.heap.size]? = some (.cells cW0 93 (0, 0))) ∧ Hid (WP wr w.heap.size wk L ln C cc N nc xs ys) ∧ Hid (w.grownBy wr (some r)))
 case atStart => exact ⟨t0, p + 1, [], some ⟨w1.heap.size + 1, 0, none⟩, 0, ⟨[], 0, true, clisNew 3, []⟩, L, ln, C, cc, N, nc, xs, ys, by omega, rfl, rfl, rfl, by have h := HO3.out; rw [hz2] at h; exact h, by simp; omega, by omega, by omega, HR3.out, newW_ok, HX3.out, HZ3.out, HP3.out, HG3.out⟩
 case round =>
  obtain ⟨t, q, es, E, ec, wk, L, ln, C, cc, N, nc, xs, ys, ht, HGK, rfl, rfl, HO, hel, hq1, hq2, HR, HI, HB, HZ, HP, HG⟩ := hrel
  have hgs := HG.out.size
  have hs1b := blk_lt HB.out; have hs0b := blk_lt HZ.out
  obtain ⟨b0, b1, b2, b3, b4, bf⟩ := five_cells HB.out
  by_cases hlt : 0 < t
  ·have hti : (0 : Int) < t := by omega
   have HC := Lib.hid (event_d r q wk w.heap.size L ln C cc N nc xs ys wr HR.out (by omega) HP.out HI.out hrl)
   go_wp2_with fail
   refine HC.out.mono ?_
   rintro r9 w5 ⟨e, q', rfl, hev, hq3, hq4, hR5, hg5⟩
   have hk5 : KeepT wr w5 := by
    obtain ⟨A, c, bs, hbk, -⟩ := HR.out
    exact KeepT.grown hg5 hbk (by decide) (by decide) (by decide) (by decide)
   have hb5 := (hg5.block _ hs1b (fun e => by injection e with e; omega)).trans HB.out
   have hzz5 := (hg5.block _ hs0b (fun e => by injection e with e; omega)).trans HZ.out
   have ho5 := HO.out.grown hg5 (.inr (fun e => by have := (HO.out.blk r e).1; omega))
   have hp5 := HP.out.keep hk5
   have hG5 := gtrans HG.out hg5
   have hE6 : Ext w5 (w5.alloc (.cells #[.int .i64 e.kind, .int .i64 e.who, .int .i64 e.n, .int .i64 e.op.kind, .int .i64 e.op.id, .int .i64 e.op.up, .int .i64 e.op.pos, .string e.op.text] 147)) := (Below.refl _ _).alloc (Nat.le_refl _) _
   have hx6 := World.alloc_heap_new w5 (.cells #[.int .i64 e.kind, .int .i64 e.who, .int .i64 e.n, .int .i64 e.op.kind, .int .i64 e.op.id, .int .i64 e.op.up, .int .i64 e.op.pos, .string e.op.text] 147)
   have hz6 := alloc_sz w5 (.cells #[.int .i64 e.kind, .int .i64 e.who, .int .i64 e.n, .int .i64 e.op.kind, .int .i64 e.op.id, .int .i64 e.op.up, .int .i64 e.op.pos, .string e.op.text] 147)
   have hs5 := hG5.size
   obtain ⟨v8, w8, hrun, ho8, hg8⟩ := app_one el_ev (ho5.below hE6) e hev.2 (by omega) (by omega) #[.int .i64 e.kind, .int .i64 e.who, .int .i64 e.n, .int .i64 e.op.kind, .int .i64 e.op.id, .int .i64 e.op.up, .int .i64 e.op.pos, .string e.op.text] rfl
   rw [hz6] at hrun
   obtain ⟨E8, e8, hv8, -⟩ := ho8.rd
   rw [List.length_append, List.length_singleton] at hv8
   subst hv8
   have hE7 : Ext w5 ((w5.alloc (.cells #[.int .i64 e.kind, .int .i64 e.who, .int .i64 e.n, .int .i64 e.op.kind, .int .i64 e.op.id, .int .i64 e.op.up, .int .i64 e.op.pos, .string e.op.text] 147)).alloc (.cells #[.int .i64 e.kind, .int .i64 e.who, .int .i64 e.n, .int .i64 e.op.kind, .int .i64 e.op.id, .int .i64 e.op.up, .int .i64 e.op.pos, .string e.op.text] 147)) := hE6.alloc hE6.size _
   have ho7 := ho5.below hE7
   have hk8 : KeepT w5 w8 := (KeepT.ext hE7).trans (keepT_own ho7 hg8 (by decide) (by decide) (by decide) (by decide))
   have hb8 := box_grown ((hE7.block _ (blk_lt hb5)).trans hb5) hg8 ho7 (by decide)
   have hzz8 := box_grown ((hE7.block _ (blk_lt hzz5)).trans hzz5) hg8 ho7 (by decide)
   have hx8 : w8.heap[w5.heap.size]? = some (.cells #[.int .i64 e.kind, .int .i64 e.who, .int .i64 e.n, .int .i64 e.op.kind, .int .i64 e.op.id, .int .i64 e.op.up, .int .i64 e.op.pos, .string e.op.text] 147 (0, 0)) := by
    have h9 : ((w5.alloc (.cells #[.int .i64 e.kind, .int .i64 e.who, .int .i64 e.n, .int .i64 e.op.kind, .int .i64 e.op.id, .int .i64 e.op.up, .int .i64 e.op.pos, .string e.op.text] 147)).alloc (.cells #[.int .i64 e.kind, .int .i64 e.who, .int .i64 e.n, .int .i64 e.op.kind, .int .i64 e.op.id, .int .i64 e.op.up, .int .i64 e.op.pos, .string e.op.text] 147)).heap[w5.heap.size]? = some (.cells #[.int .i64 e.kind, .int .i64 e.who, .int .i64 e.n, .int .i64 e.op.kind, .int .i64 e.op.id, .int .i64 e.op.up, .int .i64 e.op.pos, .string e.op.text] 147 (0, 0)) := (Below.heap_alloc (w5.alloc (.cells #[.int .i64 e.kind, .int .i64 e.who, .int .i64 e.n, .int .i64 e.op.kind, .int .i64 e.op.id, .int .i64 e.op.up, .int .i64 e.op.pos, .string e.op.text] 147)) _ w5.heap.size (by omega)).trans hx6
    exact (hg8.block _ (by have := alloc_sz (w5.alloc (.cells #[.int .i64 e.kind, .int .i64 e.who, .int .i64 e.n, .int .i64 e.op.kind, .int .i64 e.op.id, .int .i64 e.op.up, .int .i64 e.op.pos, .string e.op.text] 147)) (.cells #[.int .i64 e.kind, .int .i64 e.who, .int .i64 e.n, .int .i64 e.op.kind, .int .i64 e.op.id, .int .i64 e.op.up, .int .i64 e.op.pos, .string e.op.text] 147); omega) (fun e9 => by have := (ho5.blk _ e9.symm).2; omega)).trans h9
   have hp8 := hp5.keep hk8
   have hR8 : Rdr w8 r q' := (hR5.ext hE7).row hg8 (fun b hb => by have := (ho7.blk b hb).1; omega)
   have hG8 : w.grownBy w8 (some r) := gmix (gtrans hG5 (gext hE7)) hg8 (fun b hb => (ho7.blk b hb).1)
   have hsz8 := hG8.size
   have HC8 := Lib.hid (do22_s wk e w.heap.size L ln C cc N nc xs ys w8 hp8 hsz8 HI.out hev.1 hev.2)
   have HRUN := Lib.hid hrun; have HB5 := Lib.hid hb5; have HB8 := Lib.hid hb8; have HZ8 := Lib.hid hzz8; have HX6 := Lib.hid hx6; have HX8 := Lib.hid hx8; have HP8 := Lib.hid hp8; have HR8 := Lib.hid hR8; have HG8 := Lib.hid hG8; have HO8 := Lib.hid ho8
   clear hk5 hb5 hzz5 ho5 hp5 hG5 hE6 hx6 hrun ho8 hg8 hE7 ho7 hk8 hb8 hzz8 hx8 hp8 hR8 hG8 hR5 hg5 HC b0 b1 b2 b3 b4 bf
   go_upto_region 7 with fail
   obtain ⟨z0, z1, z2, z3, z4, z5, z6, z7, zf⟩ := eight_cells HX6.out
   obtain ⟨y0, y1, y2, y3, y4, y5, y6, y7, yf⟩ := eight_cells HX8.out
   obtain ⟨b0, b1, b2, b3, b4, bf⟩ := five_cells HB8.out
   go_upto_region 8 with (at_builtin; refine wpList_append_run rfl _ _ _ rfl rfl rfl HRUN.out ?_)
   clear z0 z1 z2 z3 z4 z5 z6 z7 zf HRUN HX6 HB5
   go_wp2_with fail
   refine HC8.out.mono ?_
   rintro r9 w9 ⟨wk2, L2, ln2, C2, cc2, N2, nc2, xs2, ys2, rfl, hi9, hp9, hT9, hO9⟩
   clear b0 b1 b2 b3 b4 bf y0 y1 y2 y3 y4 y5 y6 y7 yf HC8
   have hb9 := HP8.out.box hT9 HB8.out (by decide) (by decide)
   have hzz9 := HP8.out.box hT9 HZ8.out (by decide) (by decide)
   have ho9 := HP8.out.ownT hT9 HO8.out (by decide) (by decide)
   have hR9 := HR8.out.turn hT9 (fun k hk => by have := (ownB_ty HP8.out hk).1; omega)
   have hG9 := gturn HG8.out hT9 (fun k hk => (ownB_ty HP8.out hk).1)
   have hx := put5_at (.slice L2 wk2.log.length ln2) (.int .i64 wk2.safe) (.bool wk2.up) (.slice C2 xs2.length cc2) (.slice N2 ys2.length nc2) hb9
   have hk : KeepT w9 (put5 w9 w1.heap.size (.slice L2 wk2.log.length ln2) (.int .i64 wk2.safe) (.bool wk2.up) (.slice C2 xs2.length cc2) (.slice N2 ys2.length nc2)) := KeepT.grown (gset (gset (gset (gset (gset_any _ _ _ _) _ _) _ _) _ _) _ _) hb9 (by decide) (by decide) (by decide) (by decide)
   have hg : w9.grownBy (put5 w9 w1.heap.size (.slice L2 wk2.log.length ln2) (.int .i64 wk2.safe) (.bool wk2.up) (.slice C2 xs2.length cc2) (.slice N2 ys2.length nc2)) (some w1.heap.size) := gset (gset (gset (gset (gset_any _ _ _ _) _ _) _ _) _ _) _ _
   have HX9 := Lib.hid hx
   have HZ9 := Lib.hid ((hg.block _ (blk_lt hzz9) (by intro e; injection e with e; omega)).trans hzz9)
   have HP9 := Lib.hid (hp9.keep hk)
   have HO9 := Lib.hid (ho9.keepB hg hb9 (by decide))
   have HR9 := Lib.hid (hR9.other hg (by omega))
   have HG9 := Lib.hid (gmix hG9 hg (fun b hb => by injection hb with hb; omega))
   have HI9 := Lib.hid hi9
   obtain ⟨d0, d1, d2, d3, d4, df⟩ := five_cells hb9
   clear hb9 hzz9 ho9 hR9 hG9 hx hk hg hp9 hT9 hO9 hi9
   go_wp2_with fail
   have htc : (t : Int) - 1 = ((t - 1 : Nat) : Int) := by omega
   have hel2 : (es ++ [e]).length = es.length + 1 := by simp
   have HEL := Lib.hid hel2
   clear hel2 d0 d1 d2 d3 d4 df
   go_roundg (t - 1)
   case measure => have := HGK.out; omega
   case rel => exact ⟨t - 1, q', es ++ [e], E8, e8, wk2, L2, ln2, C2, cc2, N2, nc2, xs2, ys2, by omega, rfl, by rw [htc], by rw [HEL.out], by rw [HEL.out]; exact HO9.out, by rw [HEL.out]; omega, by omega, by omega, HR9.out, HI9.out, HX9.out, HZ9.out, HP9.out, HG9.out⟩
  ·have ht0 : t = 0 := by omega
   have hti : ¬ ((0 : Int) < t) := by omega
   have HC := Lib.hid (copy22_s wk w.heap.size L ln C cc N nc xs ys wr HP.out HI.out)
   go_wp2_with fail
   refine HC.out.mono ?_
   rintro r9 w5 ⟨v5, rfl, ⟨L2, ln2, C2, cc2, N2, nc2, xs2, ys2, rfl, hp5, hc5⟩, hb5⟩
   have hzz5 := (hb5.block _ hs0b).trans HZ.out
   have hz := put5_at (.slice L2 wk.log.length ln2) (.int .i64 wk.safe) (.bool wk.up) (.slice C2 xs2.length cc2) (.slice N2 ys2.length nc2) hzz5
   have hk : KeepT w5 (put5 w5 w.heap.size (.slice L2 wk.log.length ln2) (.int .i64 wk.safe) (.bool wk.up) (.slice C2 xs2.length cc2) (.slice N2 ys2.length nc2)) := KeepT.grown (gset (gset (gset (gset (gset_any _ _ _ _) _ _) _ _) _ _) _ _) hzz5 (by decide) (by decide) (by decide) (by decide)
   have hg : w5.grownBy (put5 w5 w.heap.size (.slice L2 wk.log.length ln2) (.int .i64 wk.safe) (.bool wk.up) (.slice C2 xs2.length cc2) (.slice N2 ys2.length nc2)) (some w.heap.size) := gset (gset (gset (gset (gset_any _ _ _ _) _ _) _ _) _ _) _ _
   have HZ9 := Lib.hid hz
   have HP9 := Lib.hid ((hp5.lower hgs).keep hk)
   have HC9 := Lib.hid (hc5.imp (fun x c h => (h.lower hgs).keep hk))
   have HR9 := Lib.hid ((HR.out.ext hb5).other hg hrl)
   have HG9 := Lib.hid (gmix (gtrans HG.out (gext hb5)) hg (fun b hb => by injection hb with hb; omega))
   obtain ⟨d0, d1, d2, d3, d4, df⟩ := five_cells hzz5
   clear hzz5 hz hk hg hp5 hc5 hb5 HC b0 b1 b2 b3 b4 bf
   go_wp2_with fail
   obtain ⟨k0, k1, k2, k3, k4, kf⟩ := five_cells HZ9.out
   refine bodyPost_ret (v := .tuple #[.slice E es.length ec, .agg (cW wk L2 ln2 C2 xs2 cc2 N2 ys2 nc2)]) ?_ rfl ?_
   ·simp [results, Tryd.f87, go_sem, k0, k1, k2, k3, k4]
   ·exact ⟨_, _, wk, q, rfl, HI.out, ⟨L2, ln2, C2, cc2, N2, nc2, xs2, ys2, rfl, HP9.out, HC9.out⟩, hq1, by omega, HR9.out, HG9.out⟩
end Go.Proofs.YtjhbbgeebobcpaaDoor
