/- Worlds: how they lie in memory, and what is kept of them. .. A letter is brought: to the server, or to somebody. -/
import Derived.Test.YtjhbbgeebobcpaaDoorZAG
import Derived.Test.YtjhbbgeebobcpaaDoorZAH
import Derived.Deep.DeepCutAuto
import Derived.Deep.CutBlock
import Derived.Deep.RegionWith
import Derived.OrdersHeld
namespace Go.Proofs.YtjhbbgeebobcpaaDoor
open Go.RowKit Go.Lib
set_option linter.unusedVariables false
structure RC where
 who : Int
 seen : Int
 b : Option Addr
 bl : Nat
 bn : Nat
 q : Option Addr
 ql : Nat
 qn : Nat
 done : Int
 made : Int
structure RL where
 dst : Int
 frm : Int
 a : Option Addr
 n : Nat
 c : Nat
instance : Flat RC := ⟨fun x => [.int .i64 x.who, .int .i64 x.seen, .slice x.b x.bl x.bn, .slice x.q x.ql x.qn, .int .i64 x.done, .int .i64 x.made], 6, fun _ => rfl, fun _ u hu => by simp at hu; rcases hu with rfl | rfl | rfl | rfl | rfl | rfl <;> rfl, by omega, fun _ => True⟩
instance : Flat RL := ⟨fun x => [.int .i64 x.dst, .int .i64 x.frm, .slice x.a x.n x.c], 3, fun _ => rfl, fun _ u hu => by simp at hu; rcases hu with rfl | rfl | rfl <;> rfl, by omega, fun _ => True⟩
theorem cli_info : ∃ i : TypeInfo, Tryd.prog.info? 30 = some i ∧ i.zero = some (.agg cC0) ∧ i.size = 6 ∧ i.bytes = 80 := info_parts (by kernel_rfl)
theorem let_info : ∃ i : TypeInfo, Tryd.prog.info? 161 = some i ∧ i.zero = some (.agg #[.int .i64 0, .int .i64 0, .slice none 0 0]) ∧ i.size = 3 ∧ i.bytes = 40 := info_parts (by kernel_rfl)
theorem el_cli : El RC 30 90 := ⟨by kernel_rfl, info_of cli_info (by decide) rfl rfl⟩
theorem el_let : El RL 161 91 := ⟨by kernel_rfl, info_of let_info (by decide) rfl rfl⟩
theorem rc_at {w : World} {A : Option Addr} {c : Nat} {l : List RC} (h : Rd w A c l) (k : Nat) (hk : k < l.length) :
  ∃ b off, A = some ⟨b, off, none⟩ ∧ b < w.heap.size ∧ w.cell? ⟨b, off + k * 6, none⟩ = some (.int .i64 l[k].who) ∧ w.cell? ⟨b, off + k * 6 + 1, none⟩ = some (.int .i64 l[k].seen) ∧ w.cell? ⟨b, off + k * 6 + 2, none⟩ = some (.slice l[k].b l[k].bl l[k].bn) ∧
   w.cell? ⟨b, off + k * 6 + 3, none⟩ = some (.slice l[k].q l[k].ql l[k].qn) ∧ w.cell? ⟨b, off + k * 6 + 4, none⟩ = some (.int .i64 l[k].done) ∧ w.cell? ⟨b, off + k * 6 + 5, none⟩ = some (.int .i64 l[k].made) := by
 obtain ⟨b, off, rfl, hb, hc⟩ := h.at_ k hk
 exact ⟨b, off, rfl, hb, hc 0 _ rfl, hc 1 _ rfl, hc 2 _ rfl, hc 3 _ rfl, hc 4 _ rfl, hc 5 _ rfl⟩
theorem rl_at {w : World} {A : Option Addr} {c : Nat} {l : List RL} (h : Rd w A c l) (k : Nat) (hk : k < l.length) :
  ∃ b off, A = some ⟨b, off, none⟩ ∧ b < w.heap.size ∧ w.cell? ⟨b, off + k * 3, none⟩ = some (.int .i64 l[k].dst) ∧ w.cell? ⟨b, off + k * 3 + 1, none⟩ = some (.int .i64 l[k].frm) ∧ w.cell? ⟨b, off + k * 3 + 2, none⟩ = some (.slice l[k].a l[k].n l[k].c) := by
 obtain ⟨b, off, rfl, hb, hc⟩ := h.at_ k hk
 exact ⟨b, off, rfl, hb, hc 0 _ rfl, hc 1 _ rfl, hc 2 _ rfl⟩
/-! ### lists side by side -/
def All2 {α β : Type} (P : α → β → Prop) (xs : List α) (cs : List β) : Prop := xs.length = cs.length ∧ ∀ (i : Nat) (h : i < xs.length) (h' : i < cs.length), P xs[i] cs[i]
section
variable {α β : Type} {P Q : α → β → Prop} {xs ys : List α} {cs ds : List β}
theorem All2.imp (h : All2 P xs cs) (hi : ∀ x c, P x c → Q x c) : All2 Q xs cs := ⟨h.1, fun i h1 h2 => hi _ _ (h.2 i h1 h2)⟩
theorem All2.nil : All2 P [] [] := ⟨rfl, fun i h _ => by simp at h⟩
theorem All2.append (h : All2 P xs cs) (k : All2 P ys ds) : All2 P (xs ++ ys) (cs ++ ds) := by
 refine ⟨by rw [List.length_append, List.length_append, h.1, k.1], fun i h1 h2 => ?_⟩
 by_cases hi : i < xs.length
 ·rw [List.getElem_append_left hi, List.getElem_append_left (by rw [← h.1]; exact hi)]
  exact h.2 i _ _
 ·rw [List.getElem_append_right (by omega), List.getElem_append_right (by rw [← h.1]; omega)]
  have := k.2 (i - xs.length) (by rw [List.length_append] at h1; omega) (by rw [List.length_append, ← h.1] at h2; omega)
  simpa only [h.1] using this
theorem All2.one {x : α} {c : β} (h : P x c) : All2 P [x] [c] := ⟨rfl, fun i h1 _ => by
 have : i = 0 := by simpa using h1
 subst this; exact h⟩
theorem All2.set (h : All2 P xs cs) (k : Nat) {x : α} {c : β} (hx : P x c) : All2 P (xs.set k x) (cs.set k c) := by
 refine ⟨by rw [List.length_set, List.length_set, h.1], fun i h1 h2 => ?_⟩
 rw [List.length_set] at h1 h2
 by_cases hi : k = i
 ·subst hi; rw [List.getElem_set_self, List.getElem_set_self]; exact hx
 ·rw [List.getElem_set_ne hi, List.getElem_set_ne hi]; exact h.2 i h1 h2
theorem All2.take (h : All2 P xs cs) (k : Nat) : All2 P (xs.take k) (cs.take k) := by
 refine ⟨by rw [List.length_take, List.length_take, h.1], fun i h1 h2 => ?_⟩
 rw [List.getElem_take, List.getElem_take]; exact h.2 i _ _
theorem All2.drop (h : All2 P xs cs) (k : Nat) : All2 P (xs.drop k) (cs.drop k) := by
 refine ⟨by rw [List.length_drop, List.length_drop, h.1], fun i h1 h2 => ?_⟩
 rw [List.getElem_drop, List.getElem_drop]; exact h.2 _ _ _
end
/-! ### what stays -/
structure Turn (S : Nat → Prop) (w w' : World) : Prop where
 os : w'.os = w.os
 tape : w'.tape = w.tape
 output : w'.output = w.output
 size : w.heap.size ≤ w'.heap.size
 block : ∀ k, k < w.heap.size → ¬ S k → w'.heap[k]? = w.heap[k]?
theorem Turn.refl (S : Nat → Prop) (w : World) : Turn S w w := ⟨rfl, rfl, rfl, Nat.le_refl _, fun _ _ _ => rfl⟩
theorem Turn.ext {S : Nat → Prop} {w w' : World} (h : Ext w w') : Turn S w w' := ⟨h.os, h.tape, h.output, h.size, fun k hk _ => h.block k hk⟩
theorem Turn.then {S S' : Nat → Prop} {a b c : World} (h : Turn S a b) (k : Turn S' b c) (hs : ∀ i, S' i → S i ∨ a.heap.size ≤ i) : Turn S a c :=
 ⟨k.os.trans h.os, k.tape.trans h.tape, k.output.trans h.output, Nat.le_trans h.size k.size, fun i hi hn => (k.block i (Nat.lt_of_lt_of_le hi h.size) (fun e => by rcases hs i e with h1 | h1; exact hn h1; omega)).trans (h.block i hi hn)⟩
theorem Turn.thenE {S : Nat → Prop} {a b c : World} (h : Turn S a b) (k : Ext b c) : Turn S a c := h.then (S' := S) (Turn.ext k) (fun i hi => .inl hi)
theorem Turn.grown {S : Nat → Prop} {w w' : World} {row : Option Nat} (h : w.grownBy w' row) (hr : ∀ k, row = some k → S k) : Turn S w w' :=
 ⟨h.os, h.tape, h.output, h.size, fun k hk hn => h.block k hk (fun e => hn (hr k e.symm))⟩
theorem Turn.below {S : Nat → Prop} {B : Nat} {w0 w w' : World} (h : Turn S w w') (h0 : Below B w0 w) (hS : ∀ k, S k → B ≤ k) (hs : B ≤ w.heap.size) : Below B w0 w' :=
 ⟨h.os.trans h0.os, h.tape.trans h0.tape, h.output.trans h0.output, Nat.le_trans h0.size h.size, fun k hk => (h.block k (by omega) (fun e => by have := hS k e; omega)).trans (h0.block k hk)⟩
theorem Turn.mono {S S' : Nat → Prop} {w w' : World} (h : Turn S w w') (hs : ∀ k, S k → S' k) : Turn S' w w' := ⟨h.os, h.tape, h.output, h.size, fun k hk hn => h.block k hk (fun e => hn (hs k e))⟩
def KeepT (w w' : World) : Prop := ∀ (k : Nat) (cs : Array Value) (ty : TypeId) (m : Nat × Nat), w.heap[k]? = some (.cells cs ty m) → (ty = 47 ∨ ty = 44 ∨ ty = 30 ∨ ty = 161) → w'.heap[k]? = some (.cells cs ty m)
theorem KeepT.ext {w w' : World} (h : Ext w w') : KeepT w w' := fun k cs ty m hk _ => (h.block k (blk_lt hk)).trans hk
theorem KeepT.trans {a b c : World} (h : KeepT a b) (k : KeepT b c) : KeepT a c := fun i cs ty m hi ht => k i cs ty m (h i cs ty m hi ht) ht
theorem KeepT.grown {w w' : World} {r : Nat} {cs0 : Array Value} {ty0 : TypeId} {m0 : Nat × Nat} (h : w.grownBy w' (some r)) (hr : w.heap[r]? = some (.cells cs0 ty0 m0)) (h1 : ty0 ≠ 47) (h2 : ty0 ≠ 44) (h3 : ty0 ≠ 30) (h4 : ty0 ≠ 161) : KeepT w w' := by
 intro k cs ty m hk ht
 refine (h.block k (blk_lt hk) (fun e => ?_)).trans hk
 injection e with e
 subst e
 rw [hr] at hk
 injection hk with hk; injection hk with _ hk
 subst hk
 rcases ht with h | h | h | h
 ·exact h1 h
 ·exact h2 h
 ·exact h3 h
 ·exact h4 h
section
variable {α : Type} [Flat α] {e : TypeId} {w w' : World} {A : Option Addr} {c : Nat} {l : List α}
theorem RdT.blk (h : RdT e w A c l) (hb : 0 < l.length → ∀ bb off cs m, A = some ⟨bb, off, none⟩ → w.heap[bb]? = some (.cells cs e m) → w'.heap[bb]? = w.heap[bb]?) : RdT e w' A c l := by
 refine ⟨⟨h.1.1, h.1.2.1, fun h0 => ?_, h.1.2.2.2⟩, fun h0 bb off e0 => ?_⟩
 ·obtain ⟨bb, off, rfl, hh⟩ := h.1.2.2.1 h0
  obtain ⟨cs, m, h1⟩ := h.2 h0 bb off rfl
  exact ⟨bb, off, rfl, fun j v hv => (World.cell?_of_block (hb h0 bb off cs m rfl h1)).trans (hh j v hv)⟩
 ·obtain ⟨cs, m, h1⟩ := h.2 h0 bb off e0
  exact ⟨cs, m, (hb h0 bb off cs m e0 h1).trans h1⟩
theorem RdT.keep (h : RdT e w A c l) (hk : KeepT w w') (he : e = 47 ∨ e = 44 ∨ e = 30 ∨ e = 161) : RdT e w' A c l :=
 h.blk fun _ bb _ cs m _ h1 => (hk bb cs e m h1 he).trans h1.symm
theorem RdT.turn {S : Nat → Prop} (h : RdT e w A c l) (ht : Turn S w w') (hs : ∀ k, S k → ∀ cs m, w.heap[k]? ≠ some (.cells cs e m)) : RdT e w' A c l :=
 h.blk fun _ bb _ cs m _ h1 => ht.block bb (blk_lt h1) (fun e0 => hs bb e0 cs m h1)
theorem Own.keep {base : Nat} {v : Value} (h : Own e w base v l) (hk : KeepT w w') (he : e = 47 ∨ e = 44 ∨ e = 30 ∨ e = 161) : Own e w' base v l := by
 refine ⟨⟨h.1.1, ?_⟩, h.2⟩
 rcases h.1.2 with h1 | ⟨g, cap, cur, h1, h2, h3, h4⟩
 ·exact .inl h1
 ·exact .inr ⟨g, cap, cur, h1, h2, hk g _ _ _ h3 he, h4⟩
theorem Own.turn {S : Nat → Prop} {base : Nat} {v : Value} (h : Own e w base v l) (ht : Turn S w w') (hs : ∀ k, v.ownBlock = some k → ¬ S k) : Own e w' base v l := by
 refine ⟨⟨h.1.1, ?_⟩, h.2⟩
 rcases h.1.2 with h1 | ⟨g, cap, cur, h1, h2, h3, h4⟩
 ·exact .inl h1
 ·exact .inr ⟨g, cap, cur, h1, h2, (ht.block g (blk_lt h3) (hs g (by rw [h1]; rfl))).trans h3, h4⟩
theorem Own.ty {base : Nat} {v : Value} (h : Own e w base v l) (k : Nat) (hk : v.ownBlock = some k) : ∃ cs m, w.heap[k]? = some (.cells cs e m) := by
 rcases h.1.2 with ⟨rfl, _⟩ | ⟨g, cap, cur, rfl, _, h3, _⟩
 ·cases hk
 ·simp only [Value.ownBlock, Option.some.injEq] at hk
  subst hk; exact ⟨_, _, h3⟩
end
/-! ### worlds -/
structure Lt where
 dst : Int
 frm : Int
 list : List Entry
structure Wd where
 log : List Entry
 safe : Int
 up : Bool
 cls : List Client
 nets : List Lt
abbrev cR (x : RC) : Array Value := #[.int .i64 x.who, .int .i64 x.seen, .slice x.b x.bl x.bn, .slice x.q x.ql x.qn, .int .i64 x.done, .int .i64 x.made]
abbrev oR (x : RC) : Obj := .cells #[.int .i64 x.who, .int .i64 x.seen, .slice x.b x.bl x.bn, .slice x.q x.ql x.qn, .int .i64 x.done, .int .i64 x.made] 30
abbrev cL (m : Lt) (A : Option Addr) (n : Nat) : Array Value := #[.int .i64 m.dst, .int .i64 m.frm, .slice A m.list.length n]
abbrev oL (m : Lt) (A : Option Addr) (n : Nat) : Obj := .cells #[.int .i64 m.dst, .int .i64 m.frm, .slice A m.list.length n] 161
abbrev cW (w : Wd) (L : Option Addr) (l : Nat) (C : Option Addr) (x : List RC) (c : Nat) (N : Option Addr) (y : List RL) (n : Nat) : Array Value := #[.slice L w.log.length l, .int .i64 w.safe, .bool w.up, .slice C x.length c, .slice N y.length n]
abbrev oW (w : Wd) (L : Option Addr) (l : Nat) (C : Option Addr) (x : List RC) (c : Nat) (N : Option Addr) (y : List RL) (n : Nat) : Obj := .cells #[.slice L w.log.length l, .int .i64 w.safe, .bool w.up, .slice C x.length c, .slice N y.length n] 93
abbrev cW0 : Array Value := #[.slice none 0 0, .int .i64 0, .bool false, .slice none 0 0, .slice none 0 0]
abbrev oW0 : Obj := .cells #[.slice none 0 0, .int .i64 0, .bool false, .slice none 0 0, .slice none 0 0] 93
def RcOk (W : World) (x : RC) (c : Client) : Prop := ∃ b bn q qn, x = ⟨c.who, c.seen, b, c.base.length, bn, q, c.wait.length, qn, c.done, c.made⟩ ∧ RdT 47 W b bn c.base ∧ RdT 44 W q qn c.wait
def LtOk (W : World) (x : RL) (m : Lt) : Prop := ∃ a n, x = ⟨m.dst, m.frm, a, m.list.length, n⟩ ∧ RdT 44 W a n m.list
structure WP (W : World) (base : Nat) (w : Wd) (L : Option Addr) (ln : Nat) (C : Option Addr) (cc : Nat) (N : Option Addr) (nc : Nat) (xs : List RC) (ys : List RL) : Prop where
 log : RdT 44 W L ln w.log
 cli : Own 30 W base (.slice C xs.length cc) xs
 let_ : Own 161 W base (.slice N ys.length nc) ys
 cls : All2 (RcOk W) xs w.cls
 nets : All2 (LtOk W) ys w.nets
def WV (W : World) (base : Nat) (w : Wd) (v : Value) : Prop :=
 ∃ L ln C cc N nc xs ys, v = .agg #[.slice L w.log.length ln, .int .i64 w.safe, .bool w.up, .slice C xs.length cc, .slice N ys.length nc] ∧ WP W base w L ln C cc N nc xs ys
theorem RcOk.keep {W W' : World} {x : RC} {c : Client} (h : RcOk W x c) (hk : KeepT W W') : RcOk W' x c := by
 obtain ⟨b, bn, q, qn, rfl, h1, h2⟩ := h
 exact ⟨b, bn, q, qn, rfl, h1.keep hk (.inl rfl), h2.keep hk (.inr (.inl rfl))⟩
theorem LtOk.keep {W W' : World} {x : RL} {m : Lt} (h : LtOk W x m) (hk : KeepT W W') : LtOk W' x m := by
 obtain ⟨a, n, rfl, h1⟩ := h
 exact ⟨a, n, rfl, h1.keep hk (.inr (.inl rfl))⟩
theorem WP.keep {W W' : World} {base : Nat} {w : Wd} {L C N : Option Addr} {ln cc nc : Nat} {xs : List RC} {ys : List RL} (h : WP W base w L ln C cc N nc xs ys) (hk : KeepT W W') : WP W' base w L ln C cc N nc xs ys :=
 ⟨h.log.keep hk (.inr (.inl rfl)), h.cli.keep hk (.inr (.inr (.inl rfl))), h.let_.keep hk (.inr (.inr (.inr rfl))), h.cls.imp (fun _ _ h => h.keep hk), h.nets.imp (fun _ _ h => h.keep hk)⟩
theorem WV.keep {W W' : World} {base : Nat} {w : Wd} {v : Value} (h : WV W base w v) (hk : KeepT W W') : WV W' base w v := by
 obtain ⟨L, ln, C, cc, N, nc, xs, ys, rfl, hp⟩ := h
 exact ⟨L, ln, C, cc, N, nc, xs, ys, rfl, hp.keep hk⟩
theorem WP.ext {W W' : World} {base : Nat} {w : Wd} {L C N : Option Addr} {ln cc nc : Nat} {xs : List RC} {ys : List RL} (h : WP W base w L ln C cc N nc xs ys) (hb : Ext W W') : WP W' base w L ln C cc N nc xs ys := h.keep (KeepT.ext hb)
theorem WV.ext {W W' : World} {base : Nat} {w : Wd} {v : Value} (h : WV W base w v) (hb : Ext W W') : WV W' base w v := h.keep (KeepT.ext hb)
theorem WP.ct {W : World} {base : Nat} {w : Wd} {L C N : Option Addr} {ln cc nc : Nat} {xs : List RC} {ys : List RL} (h : WP W base w L ln C cc N nc xs ys) (k : Nat) (hk : k < xs.length) (hk' : k < w.cls.length) :
  CT W w.cls[k] (.agg (cR xs[k])) := by
 obtain ⟨b, bn, q, qn, e, h1, h2⟩ := h.cls.2 k hk hk'
 rw [e]
 exact ⟨b, bn, q, qn, rfl, h1, h2⟩
/-! ### what is kept of a world -/
def LInv (m : Lt) : Prop := (0 ≤ m.dst ∧ m.dst ≤ 3) ∧ (0 ≤ m.frm ∧ m.frm ≤ 40) ∧ (∀ e ∈ m.list, entryOk e = true) ∧ m.list.length ≤ 40 ∧ (m.dst = 0 → 0 < m.list.length)
structure WInv (w : Wd) : Prop where
 log : ∀ e ∈ w.log, entryOk e = true
 len : w.log.length ≤ 40
 safe0 : 0 ≤ w.safe
 safe1 : w.safe ≤ w.log.length
 three : w.cls.length = 3
 cls : ∀ c ∈ w.cls, clientOk c = true
 net : w.nets.length ≤ 12
 nets : ∀ m ∈ w.nets, LInv m
open Go.RowKit Go.Lib
set_option maxRecDepth 100000 in
theorem serverNew_s (w : World) :
  Calls Tryd.prog 111 #[] w fun x w' => ∃ L n, x = .returned (.agg #[.slice L 0 n, .int .i64 0, .bool true]) ∧ RdT 44 w' L n ([] : List Entry) ∧ Ext w w' := by
 have hz := (two_new w (.cells #[.slice (some ⟨w.heap.size + 1, 0, none⟩) 0 0, .int .i64 0, .bool true] 89) (.cells #[] 44)).1
 have hE : Ext w ((w.alloc (.cells #[.slice (some ⟨w.heap.size + 1, 0, none⟩) 0 0, .int .i64 0, .bool true] 89)).alloc (.cells #[] 44)) := ((Below.refl _ w).alloc (Nat.le_refl _) _).alloc (by rw [alloc_sz]; omega) _
 have HE := Lib.hid hE
 clear hE
 go_enter Tryd.func111, Tryd.ntmps111
 go_wp2_with fail
 obtain ⟨k0, k1, k2, kf⟩ := tri_cells hz
 refine bodyPost_ret (v := .agg #[.slice (some ⟨w.heap.size + 1, 0, none⟩) 0 0, .int .i64 0, .bool true]) ?_ rfl ?_
 ·simp [results, Tryd.f111, go_sem]
 ·exact ⟨_, _, rfl, ⟨⟨by simp, by simp, fun h => by simp at h, by simp⟩, fun h => by simp at h⟩, HE.out⟩
set_option maxRecDepth 100000 in
theorem clientNewS_s (who : Int) (w : World) (h : 1 ≤ who ∧ who ≤ 3) :
  Calls Tryd.prog 112 #[.int .i64 who] w fun x w' => ∃ v, x = .returned (.tuple #[v, .bool true]) ∧ CT w' ⟨who, 0, treeNew, [], 0, 0⟩ v ∧ Ext w w' := by
 have HI := Lib.hid (fun W => in_c who 1 3 W)
 have hin : inR who 1 3 = true := by unfold inR; rw [decide_eq_true_eq]; exact h
 rw [hin] at HI
 go_enter Tryd.func112, Tryd.ntmps112
 go_wp2_with fail
 refine (HI.out _).mono ?_
 rintro x w1 ⟨rfl, rfl⟩
 go_wp2_with fail
 refine (new_s _).mono ?_
 rintro x w2 ⟨v2, rfl, ho, hb2⟩
 obtain ⟨A3, n3, rfl, -⟩ := ho.rd
 have hx := (hb2.block w.heap.size (by rw [alloc_sz]; omega)).trans (World.alloc_heap_new w oC0)
 obtain ⟨d0, d1, d2, d3, d4, d5, df⟩ := six_cells hx
 have HX := Lib.hid hx; have HO := Lib.hid ho; have hlt := blk_lt hx
 have HE := Lib.hid (((Below.refl w.heap.size w).alloc (Nat.le_refl _) oC0).trans (hb2.mono (by rw [alloc_sz]; omega)))
 clear hx ho hb2 HI hin
 go_wp2_with fail
 have hz6 := put6_at (.int .i64 who) (.int .i64 0) (.slice A3 treeNew.length n3) (.slice (some ⟨w2.heap.size, 0, none⟩) 0 0) (.int .i64 0) (.int .i64 0) HX.out
 have hz := (Below.heap_alloc (put6 w2 w.heap.size (.int .i64 who) (.int .i64 0) (.slice A3 treeNew.length n3) (.slice (some ⟨w2.heap.size, 0, none⟩) 0 0) (.int .i64 0) (.int .i64 0)) (.cells #[] 44) w.heap.size (by rw [put6_size]; exact hlt)).trans hz6
 have hA : Ext (put6 w2 w.heap.size (.int .i64 who) (.int .i64 0) (.slice A3 treeNew.length n3) (.slice (some ⟨w2.heap.size, 0, none⟩) 0 0) (.int .i64 0) (.int .i64 0)) ((put6 w2 w.heap.size (.int .i64 who) (.int .i64 0) (.slice A3 treeNew.length n3) (.slice (some ⟨w2.heap.size, 0, none⟩) 0 0) (.int .i64 0) (.int .i64 0)).alloc (.cells #[] 44)) := (Below.refl _ _).alloc (Nat.le_refl _) _
 have hE := (put6_below (.int .i64 who) (.int .i64 0) (.slice A3 treeNew.length n3) (.slice (some ⟨w2.heap.size, 0, none⟩) 0 0) (.int .i64 0) (.int .i64 0) HE.out (Nat.le_refl _)).trans (hA.mono (by rw [put6_size]; omega))
 have hq := (HO.out.rdT.put6 HX.out (by decide) (.int .i64 who) (.int .i64 0) (.slice A3 treeNew.length n3) (.slice (some ⟨w2.heap.size, 0, none⟩) 0 0) (.int .i64 0) (.int .i64 0)).ext hA
 obtain ⟨k0, k1, k2, k3, k4, k5, kf⟩ := six_cells hz
 refine bodyPost_ret (v := .tuple #[.agg #[.int .i64 who, .int .i64 0, .slice A3 treeNew.length n3, .slice (some ⟨w2.heap.size, 0, none⟩) 0 0, .int .i64 0, .int .i64 0], .bool true]) ?_ rfl ?_
 ·simp [results, Tryd.f112, go_sem, k0, k1, k2, k3, k4, k5]
 ·exact ⟨_, rfl, ⟨_, _, _, _, rfl, hq, ⟨⟨by simp, by simp, fun h => by simp at h, by simp⟩, fun h => by simp at h⟩⟩, hE⟩
open Go.RowKit Go.Lib
theorem RdT.grownO {α β : Type} [Flat α] [Flat β] {e e' : TypeId} {W W' : World} {A : Option Addr} {c base : Nat} {l : List α} {v : Value} {xs : List β} (h : RdT e W A c l) (hg : W.grownBy W' v.ownBlock) (ho : Own e' W base v xs) (hne : e' ≠ e) : RdT e W' A c l :=
 h.blk fun _ bb _ cs m _ h1 => hg.block bb (blk_lt h1) (fun e0 => by
  obtain ⟨cs', m', h2⟩ := ho.ty bb e0.symm
  rw [h1] at h2
  injection h2 with h2; injection h2 with _ h2
  exact hne h2.symm)
theorem RcOk.grownO {β : Type} [Flat β] {e' : TypeId} {W W' : World} {base : Nat} {v : Value} {xs : List β} {x : RC} {c : Client} (h : RcOk W x c) (hg : W.grownBy W' v.ownBlock) (ho : Own e' W base v xs) (h1 : e' ≠ 47) (h2 : e' ≠ 44) : RcOk W' x c := by
 obtain ⟨b, bn, q, qn, rfl, r1, r2⟩ := h
 exact ⟨b, bn, q, qn, rfl, r1.grownO hg ho h1, r2.grownO hg ho h2⟩
theorem LtOk.grownO {β : Type} [Flat β] {e' : TypeId} {W W' : World} {base : Nat} {v : Value} {xs : List β} {x : RL} {m : Lt} (h : LtOk W x m) (hg : W.grownBy W' v.ownBlock) (ho : Own e' W base v xs) (h2 : e' ≠ 44) : LtOk W' x m := by
 obtain ⟨a, n, rfl, r1⟩ := h
 exact ⟨a, n, rfl, r1.grownO hg ho h2⟩
theorem RcOk.ext {W W' : World} {x : RC} {c : Client} (h : RcOk W x c) (hb : Ext W W') : RcOk W' x c := h.keep (KeepT.ext hb)
theorem LtOk.ext {W W' : World} {x : RL} {m : Lt} (h : LtOk W x m) (hb : Ext W W') : LtOk W' x m := h.keep (KeepT.ext hb)
theorem CT.raw {W : World} {c : Client} {v : Value} (h : CT W c v) : ∃ x : RC, v = .agg (Flat.enc x).toArray ∧ RcOk W x c := by
 obtain ⟨A1, n1, A2, n2, rfl, h1, h2⟩ := h
 exact ⟨⟨c.who, c.seen, A1, c.base.length, n1, A2, c.wait.length, n2, c.done, c.made⟩, rfl, A1, n1, A2, n2, rfl, h1, h2⟩
theorem Own.grownO {α β : Type} [Flat α] [Flat β] {e e' : TypeId} {W W' : World} {base base' : Nat} {v v' : Value} {l : List α} {xs : List β} (h : Own e W base v l) (hg : W.grownBy W' v'.ownBlock) (ho : Own e' W base' v' xs) (hne : e' ≠ e) : Own e W' base v l := by
 refine h.grown hg ?_
 cases hv : v.ownBlock with
 |none => exact .inl rfl
 |some k =>
  refine .inr (fun eq => ?_)
  obtain ⟨c1, m1, h1⟩ := h.ty k hv
  obtain ⟨c2, m2, h2⟩ := ho.ty k eq.symm
  rw [h1] at h2
  injection h2 with h2; injection h2 with _ h2
  exact hne h2.symm
theorem RcOk.set {W : World} {x : RC} {c : Client} {b : Nat} {cs : Array Value} {ty : TypeId} {m : Nat × Nat} (h : RcOk W x c) (hb : W.heap[b]? = some (.cells cs ty m)) (h1 : ty ≠ 47) (h2 : ty ≠ 44) (i : Nat) (v : Value) : RcOk (W.setCell ⟨b, i, none⟩ v) x c := by
 obtain ⟨a, bn, q, qn, rfl, r1, r2⟩ := h
 exact ⟨a, bn, q, qn, rfl, r1.set hb h1 i v, r2.set hb h2 i v⟩
def clisNew (k : Nat) : List Client := (List.range k).map fun (i : Nat) => (⟨(i : Int) + 1, 0, treeNew, [], 0, 0⟩ : Client)
theorem clisNew_succ (k : Nat) : clisNew (k + 1) = clisNew k ++ [⟨(k : Int) + 1, 0, treeNew, [], 0, 0⟩] := by
 unfold clisNew; rw [List.range_succ, List.map_append]; rfl
set_option maxRecDepth 100000 in
set_option maxHeartbeats 2000000 in
theorem worldNew_s (w : World) :
  Calls Tryd.prog 104 #[] w fun x w' => ∃ v, x = .returned v ∧ WV w' w.heap.size ⟨[], 0, true, clisNew 3, []⟩ v ∧ Ext w w' := by
 have hx := World.alloc_heap_new w oW0
 have hE : Ext w (w.alloc oW0) := (Below.refl _ w).alloc (Nat.le_refl _) _
 have HX := Lib.hid hx; have HE := Lib.hid hE
 clear hx hE
 go_enter Tryd.func104, Tryd.ntmps104
 go_wp2_with fail
 generalize (w.alloc oW0) = W at *
 refine (serverNew_s W).mono ?_
 rintro x w1 ⟨L, ln, rfl, hl, hb1⟩
 have HE1 := Lib.hid (HE.out.trans (hb1.mono HE.out.size)); have HX1 := Lib.hid ((hb1.block w.heap.size (blk_lt HX.out)).trans HX.out); have HL := Lib.hid hl
 have hs1 := HE1.out.size
 clear hl hb1
 go_wp2_with fail
 have h2 := two_new w1 (.cells #[] 161) (.cells #[.slice L 0 ln, .int .i64 0, .bool true, .slice none 0 0, (.slice (some ⟨w1.heap.size, 0, none⟩) 0 0)] 93)
 have hE3 : Ext w1 ((w1.alloc (.cells #[] 161)).alloc (.cells #[.slice L 0 ln, .int .i64 0, .bool true, .slice none 0 0, (.slice (some ⟨w1.heap.size, 0, none⟩) 0 0)] 93)) := ((Below.refl _ w1).alloc (Nat.le_refl _) _).alloc (by rw [alloc_sz]; omega) _
 have hln : Own 161 ((w1.alloc (.cells #[] 161)).alloc (.cells #[.slice L 0 ln, .int .i64 0, .bool true, .slice none 0 0, (.slice (some ⟨w1.heap.size, 0, none⟩) 0 0)] 93)) w.heap.size (.slice (some ⟨w1.heap.size, 0, none⟩) 0 0) ([] : List RL) := (own_made (e := 161) (α := RL) w1 w.heap.size hs1).below ((Below.refl _ _).alloc (Nat.le_refl _) _)
 have HB3 := Lib.hid h2.2; have HE3 := Lib.hid (HE1.out.trans (hE3.mono hs1)); have HN3 := Lib.hid hln; have HL3 := Lib.hid (HL.out.ext hE3)
 have HZ3 := Lib.hid ((hE3.block w.heap.size (blk_lt HX1.out)).trans HX1.out)
 clear h2 hE3 hln
 generalize ((w1.alloc (.cells #[] 161)).alloc (.cells #[.slice L 0 ln, .int .i64 0, .bool true, .slice none 0 0, (.slice (some ⟨w1.heap.size, 0, none⟩) 0 0)] 93)) = W3 at *
 go_loopg [2] 3 (fun gk i wr => ∃ (k : Nat) (xs : List RC) (C : Option Addr) (cc : Nat), k ≤ 3 ∧ Hid (gk = 3 - k) ∧ i = .int .i64 ((k : Int) + 1) ∧ Hid (xs.length = k) ∧ Hid (wr.heap[w1.heap.size + 1]? = some (.cells #[.slice L 0 ln, .int .i64 0, .bool true, .slice C xs.length cc, (.slice (some ⟨w1.heap.size, 0, none⟩) 0 0)] 93 (0, 0))) ∧ Hid (Own 30 wr w.heap.size (.slice C xs.length cc) xs) ∧ Hid (Own 161 wr w.heap.size (.slice (some ⟨w1.heap.size, 0, none⟩) 0 0) ([] : List RL)) ∧ Hid (All2 (RcOk wr) xs (clisNew k)) ∧ Hid (RdT 44 wr L ln ([] : List Entry)) ∧ Hid (wr.heap[w.heap.size]? = some (.cells cW0 93 (0, 0))) ∧ Hid (Ext w wr))
 case atStart => exact ⟨0, [], none, 0, by omega, rfl, rfl, rfl, HB3.out, Own.nil _ _ _, HN3.out, All2.nil, HL3.out, HZ3.out, HE3.out⟩
 case round =>
  obtain ⟨k, xs, C, cc, hk, HK, rfl, HXL, HB, HO, HN, HA, HQ, HZ, HW⟩ := hrel
  by_cases hlt : k < 3
  ·have hle : (k : Int) + 1 ≤ 3 := by omega
   have HC := Lib.hid (clientNewS_s ((k : Int) + 1) wr ⟨by omega, by omega⟩)
   go_wp2_with fail
   refine HC.out.mono ?_
   rintro x w5 ⟨v5, rfl, ⟨A1, n1, A2, n2, rfl, r1, r2⟩, hb5⟩
   have hs5 := hb5.size
   have hltb := blk_lt HB.out
   have hs1' := HW.out.size
   have hE6 : Ext w5 (w5.alloc (.cells #[.int .i64 ((k : Int) + 1), .int .i64 0, .slice A1 treeNew.length n1, .slice A2 0 n2, .int .i64 0, .int .i64 0] 30)) := (Below.refl _ w5).alloc (Nat.le_refl _) _
   have hsz6 := alloc_sz w5 (.cells #[.int .i64 ((k : Int) + 1), .int .i64 0, .slice A1 treeNew.length n1, .slice A2 0 n2, .int .i64 0, .int .i64 0] 30)
   have hx6 := World.alloc_heap_new w5 (.cells #[.int .i64 ((k : Int) + 1), .int .i64 0, .slice A1 treeNew.length n1, .slice A2 0 n2, .int .i64 0, .int .i64 0] 30)
   have hE56 : Ext wr (w5.alloc (.cells #[.int .i64 ((k : Int) + 1), .int .i64 0, .slice A1 treeNew.length n1, .slice A2 0 n2, .int .i64 0, .int .i64 0] 30)) := hb5.trans (hE6.mono hs5)
   have HX6 := Lib.hid hx6; have HE56 := Lib.hid hE56; have HR1 := Lib.hid (r1.ext hE6); have HR2 := Lib.hid (r2.ext hE6)
   have hbo5 := (hb5.block _ hltb).trans HB.out
   obtain ⟨d0, d1, d2, d3, d4, df⟩ := five_cells hbo5
   clear hE6 hx6 hE56 r1 r2 hb5 HC hbo5
   go_upto_region 6 with fail
   clear d0 d1 d2 d3 d4 df
   generalize (w5.alloc (.cells #[.int .i64 ((k : Int) + 1), .int .i64 0, .slice A1 treeNew.length n1, .slice A2 0 n2, .int .i64 0, .int .i64 0] 30)) = W6 at *
   have hbo := (HE56.out.block _ hltb).trans HB.out
   obtain ⟨b0, b1, b2, b3, b4, bf⟩ := five_cells hbo
   obtain ⟨c0, c1, c2, c3, c4, c5, cf⟩ := six_cells HX6.out
   have hown := HO.out.below HE56.out
   have hlt0 : w.heap.size ≤ W6.heap.size := by omega
   obtain ⟨v7, w7, hrun, ho7, hg7⟩ := app_one el_cli hown (⟨(k : Int) + 1, 0, A1, treeNew.length, n1, A2, 0, n2, 0, 0⟩ : RC) trivial (by have := HXL.out; omega) hlt0 #[.int .i64 ((k : Int) + 1), .int .i64 0, .slice A1 treeNew.length n1, .slice A2 0 n2, .int .i64 0, .int .i64 0] rfl
   obtain ⟨C', cc', hv9, -⟩ := ho7.rd
   rw [List.length_append, List.length_singleton] at hv9
   subst hv9
   have hw7 := hg7.block (w1.heap.size + 1) (by rw [alloc_sz]; have := blk_lt hbo; omega) (fun e0 => by
    obtain ⟨cs', m', h2⟩ := hown.ty _ e0.symm
    rw [hbo] at h2
    injection h2 with h2; injection h2 with _ h2
    exact absurd h2 (by decide))
   have hbo7 := hw7.trans ((Below.heap_alloc W6 _ (w1.heap.size + 1) (blk_lt hbo)).trans hbo)
   obtain ⟨e0, e1, e2, e3, e4, ef⟩ := five_cells hbo7
   have HBO7 := Lib.hid hbo7
   clear hw7 hbo7
   have HB6 := Lib.hid hbo; have HRUN := Lib.hid hrun; have HO7 := Lib.hid ho7; have HG7 := Lib.hid hg7; have HOW := Lib.hid hown
   have HSZ6 := Lib.hid hsz6
   clear hown ho7 hg7 hbo hsz6
   go_wp2_with (at_builtin; refine wpList_append_run rfl _ _ _ rfl rfl rfl hrun ?_)
   go_roundg (3 - (k + 1))
   case measure => have := HK.out; omega
   case rel =>
    have hEa : Ext W6 (W6.alloc (.cells #[.int .i64 ((k : Int) + 1), .int .i64 0, .slice A1 treeNew.length n1, .slice A2 0 n2, .int .i64 0, .int .i64 0] 30)) := (Below.refl _ _).alloc (Nat.le_refl _) _
    have hoa := HOW.out.below hEa
    have hall : All2 (RcOk (w7.setCell ⟨w1.heap.size + 1, 3, none⟩ (.slice C' (xs.length + 1) cc'))) (xs ++ [⟨(k : Int) + 1, 0, A1, treeNew.length, n1, A2, 0, n2, 0, 0⟩]) (clisNew (k + 1)) := by
     rw [clisNew_succ]
     refine (HA.out.imp (fun x c h => ((((h.ext HE56.out).ext hEa).grownO HG7.out hoa (by decide) (by decide)).set HBO7.out (by decide) (by decide) 3 _))).append (All2.one ⟨A1, n1, A2, n2, rfl, ?_, ?_⟩)
     ·exact ((HR1.out.ext hEa).grownO HG7.out hoa (by decide)).set HBO7.out (by decide) 3 _
     ·exact ((HR2.out.ext hEa).grownO HG7.out hoa (by decide)).set HBO7.out (by decide) 3 _
    have hne0 : w.heap.size ≠ w1.heap.size + 1 := by omega
    have hz6 := (hEa.block _ (blk_lt ((HE56.out.block _ (blk_lt HZ.out)).trans HZ.out))).trans ((HE56.out.block _ (blk_lt HZ.out)).trans HZ.out)
    have hz7 := (HG7.out.block w.heap.size (blk_lt hz6) (fun e9 => by
     obtain ⟨c2, m2, h2⟩ := hoa.ty _ e9.symm
     rw [hz6] at h2
     injection h2 with h2; injection h2 with _ h2
     exact absurd h2 (by decide))).trans hz6
    have hxl : (xs ++ [(⟨(k : Int) + 1, 0, A1, treeNew.length, n1, A2, 0, n2, 0, 0⟩ : RC)]).length = xs.length + 1 := by simp
    have hEw : Ext w W6 := HW.out.trans (HE56.out.mono HW.out.size)
    refine ⟨k + 1, xs ++ [⟨(k : Int) + 1, 0, A1, treeNew.length, n1, A2, 0, n2, 0, 0⟩], C', cc', by omega, rfl, by go_num, ?_, ?_, ?_, ?_, Lib.hid hall, ?_, (setx hne0).trans hz7, ?_⟩
    ·show _ = _; rw [hxl, HXL.out]
    ·show _ = _; rw [hxl]; exact set_at HBO7.out
    ·show Own _ _ _ _ _; rw [hxl]; exact own_put HO7.out HBO7.out (by decide) 3 _
    ·exact own_put (((HN.out.below HE56.out).below hEa).grownO HG7.out hoa (by decide)) HBO7.out (by decide) 3 _
    ·exact (((HQ.out.ext HE56.out).ext hEa).grownO HG7.out hoa (by decide)).set HBO7.out (by decide) 3 _
    ·exact (hoa.over (hEw.alloc hEw.size _) HG7.out (Nat.le_refl _) (by rw [alloc_sz]; have := hEw.size; omega)).setCell (p := ⟨w1.heap.size + 1, 3, none⟩) (show w.heap.size ≤ w1.heap.size + 1 by omega) _
  ·have hk3 : k = 3 := by omega
   subst hk3
   have hli : ¬ ((3 : Int) + 1 ≤ 3) := by omega
   obtain ⟨b0, b1, b2, b3, b4, bf⟩ := five_cells HB.out
   obtain ⟨d0, d1, d2, d3, d4, df⟩ := five_cells HZ.out
   have hz := put5_at (.slice L 0 ln) (.int .i64 0) (.bool true) (.slice C xs.length cc) (.slice (some ⟨w1.heap.size, 0, none⟩) 0 0) HZ.out
   have hk : KeepT wr (put5 wr w.heap.size (.slice L 0 ln) (.int .i64 0) (.bool true) (.slice C xs.length cc) (.slice (some ⟨w1.heap.size, 0, none⟩) 0 0)) := KeepT.grown (gset (gset (gset (gset (gset_any _ _ _ _) _ _) _ _) _ _) _ _) HZ.out (by decide) (by decide) (by decide) (by decide)
   have hp : WP wr w.heap.size ⟨[], 0, true, clisNew 3, []⟩ L ln C cc (some ⟨w1.heap.size, 0, none⟩) 0 xs [] := ⟨HQ.out, HO.out, HN.out, HA.out, All2.nil⟩
   have hE9 : Ext w (put5 wr w.heap.size (.slice L 0 ln) (.int .i64 0) (.bool true) (.slice C xs.length cc) (.slice (some ⟨w1.heap.size, 0, none⟩) 0 0)) := ((((HW.out.setCell (Nat.le_refl _) _).setCell (Nat.le_refl _) _).setCell (Nat.le_refl _) _).setCell (Nat.le_refl _) _).setCell (Nat.le_refl _) _
   have HZ9 := Lib.hid hz; have HP9 := Lib.hid (hp.keep hk); have HE9 := Lib.hid hE9
   clear hz hk hp hE9
   go_wp2_with fail
   obtain ⟨k0, k1, k2, k3, k4, kf⟩ := five_cells HZ9.out
   refine bodyPost_ret (v := .agg #[.slice L 0 ln, .int .i64 0, .bool true, .slice C xs.length cc, .slice (some ⟨w1.heap.size, 0, none⟩) 0 0]) ?_ rfl ?_
   ·simp [results, Tryd.f104, go_sem, k0, k1, k2, k3, k4]
   ·exact ⟨_, rfl, ⟨_, _, _, _, _, _, _, _, rfl, HP9.out⟩, HE9.out⟩
open Go.RowKit Go.Lib
def OwnB (C N : Option Addr) (k : Nat) : Prop := C.map Addr.block = some k ∨ N.map Addr.block = some k
theorem ob_map (A : Option Addr) (n c : Nat) : (Value.slice A n c).ownBlock = A.map Addr.block := by cases A <;> rfl
theorem Turn.setNew {S : Nat → Prop} {w W : World} (h : Turn S w W) {b : Nat} (hb : w.heap.size ≤ b) (i : Nat) (v : Value) : Turn S w (W.setCell ⟨b, i, none⟩ v) :=
 h.then (S' := fun k => k = b) (Turn.grown (gset_any W b i v) (fun k hk => by injection hk with hk; exact hk.symm)) (fun k hk => .inr (by rw [hk]; exact hb))
def putW (w : Wd) (m : Lt) : Wd := if w.nets.length < 12 then { w with nets := w.nets ++ [m] } else w
theorem putW_ok {w : Wd} {m : Lt} (h : WInv w) (hm : LInv m) : WInv (putW w m) := by
 unfold putW
 split
 ·rename_i hl
  exact ⟨h.log, h.len, h.safe0, h.safe1, h.three, h.cls, by show (w.nets ++ [m]).length ≤ 12; rw [List.length_append, List.length_singleton]; omega, fun x hx => by
   rcases List.mem_append.1 hx with h1 | h1
   ·exact h.nets x h1
   ·rw [List.mem_singleton.1 h1]; exact hm⟩
 ·exact h
theorem app_one_b {α : Type} [Flat α] {e s : TypeId} (E : El α e s) {w : World} {base : Nat} {v : Value} {l : List α} (h0 : Own e w base v l) (x : α) (hx : Flat.okE x) (hl : l.length < 1000000) (hb : base ≤ w.heap.size) (cs : Array Value) (hc : cs.toList = Flat.enc x) :
  ∃ v' w', (Builtin.append_ #[s, s] s #[v, .slice (some ⟨w.heap.size, 0, none⟩) 1 1]).run Tryd.prog (w.alloc (.cells cs e)) = .ok v' w' ∧ Own e w' base v' (l ++ [x]) ∧ (w.alloc (.cells cs e)).grownBy w' v.ownBlock ∧ (v'.ownBlock = v.ownBlock ∨ ∀ k, v'.ownBlock = some k → w.heap.size ≤ k) := by
 have h := h0.below ((Below.refl _ _).alloc (Nat.le_refl _) (.cells cs e))
 have hr := rd_box w x hx cs hc e
 obtain ⟨i, z, hi, hz, hs, hby, hzs⟩ := E.info
 have hn : ∀ j u, (flat [x])[j]? = some u → (w.alloc (.cells cs e)).cell? ((⟨w.heap.size, 0, none⟩ : Addr).add j) = some u := by
  intro j u hj
  obtain ⟨b, off, h, hc⟩ := hr.2.2.1 (by simp)
  cases h
  have e1 : (⟨w.heap.size, 0, none⟩ : Addr).add j = ⟨w.heap.size, 0 + j, none⟩ := by unfold Addr.add; split <;> simp_all
  rw [e1]
  exact hc j u hj
 have hbb : (l.length + 1) * i.bytes ≤ 1000000 * 200 := Nat.mul_le_mul (by omega) hby
 obtain ⟨v', w', hrun, hown, hgrow, -, hblk⟩ := run_append_own_at (P := Tryd.prog) (w := w.alloc (.cells cs e)) base s s e i z (Flat.sz α) i.bytes E.und hi hz hs rfl hzs Flat.pos v l.length (flat l) h.1 ⟨w.heap.size, 0, none⟩ 1 1 (flat [x]) (by rw [flat_length]; simp) hn (flat_one_cell [x]) (by unfold maxLen; omega) (by omega) (by rw [alloc_sz]; omega)
 refine ⟨v', w', hrun, ⟨?_, ?_⟩, hgrow, ?_⟩
 ·rw [List.length_append, flat_append]; exact hown
 ·intro y hy
  rcases List.mem_append.1 hy with h1 | h1
  ·exact h0.2 y h1
  ·rw [List.mem_singleton.1 h1]; exact hx
 ·rcases hblk with h1 | h1
  ·exact .inl h1
  ·refine .inr fun k hk => ?_
   rw [h1] at hk
   injection hk with hk
   rw [alloc_sz] at hk
   omega
theorem box_grown {β : Type} [Flat β] {e' : TypeId} {W W' : World} {base b : Nat} {v : Value} {xs : List β} {cs : Array Value} {ty : TypeId} {m : Nat × Nat} (h : W.heap[b]? = some (.cells cs ty m)) (hg : W.grownBy W' v.ownBlock) (ho : Own e' W base v xs) (hne : e' ≠ ty) : W'.heap[b]? = some (.cells cs ty m) :=
 (hg.block b (blk_lt h) (fun e0 => by
  obtain ⟨c2, m2, h2⟩ := ho.ty b e0.symm
  rw [h] at h2
  injection h2 with h2; injection h2 with _ h2
  exact hne h2.symm)).trans h
set_option maxRecDepth 100000 in
set_option maxHeartbeats 2000000 in
theorem put22_s (wd : Wd) (m : Lt) (base : Nat) (L : Option Addr) (ln : Nat) (C : Option Addr) (cc : Nat) (N : Option Addr) (nc : Nat) (xs : List RC) (ys : List RL) (A : Option Addr) (an : Nat) (w : World) (hp : WP w base wd L ln C cc N nc xs ys) (hm : RdT 44 w A an m.list) (hb : base ≤ w.heap.size) :
  Calls Tryd.prog 118 #[.agg #[.slice L wd.log.length ln, .int .i64 wd.safe, .bool wd.up, .slice C xs.length cc, .slice N ys.length nc], .agg (cL m A an)] w fun x w' => ∃ (N' : Option Addr) (nc' : Nat) (ys' : List RL), x = .returned (.agg #[.slice L wd.log.length ln, .int .i64 wd.safe, .bool wd.up, .slice C xs.length cc, .slice N' ys'.length nc']) ∧ WP w' base (putW wd m) L ln C cc N' nc' xs ys' ∧ Turn (OwnB none N) w w' ∧ ∀ k, OwnB none N' k → OwnB none N k ∨ w.heap.size ≤ k := by
 have h3 := three_all w (.cells #[.slice L wd.log.length ln, .int .i64 wd.safe, .bool wd.up, .slice C xs.length cc, .slice N ys.length nc] 93) (oL m A an) oW0
 have hE3 : Ext w (((w.alloc (.cells #[.slice L wd.log.length ln, .int .i64 wd.safe, .bool wd.up, .slice C xs.length cc, .slice N ys.length nc] 93)).alloc (oL m A an)).alloc oW0) := ext3 _ _ _ _
 have hz3 : (((w.alloc (.cells #[.slice L wd.log.length ln, .int .i64 wd.safe, .bool wd.up, .slice C xs.length cc, .slice N ys.length nc] 93)).alloc (oL m A an)).alloc oW0).heap.size = w.heap.size + 3 := by simp only [alloc_sz]
 have HLEN := Lib.hid hp.nets.1
 have HX1 := Lib.hid h3.1; have HX2 := Lib.hid h3.2.1; have HX3 := Lib.hid h3.2.2; have HE3 := Lib.hid hE3
 have HP := Lib.hid (hp.ext hE3); have HM := Lib.hid (hm.ext hE3)
 obtain ⟨b0, b1, b2, b3, b4, bf⟩ := five_cells h3.1
 have HPW := Lib.hid hp
 clear h3 hE3 hp hm
 go_enter Tryd.func118, Tryd.ntmps118
 by_cases hl : ys.length < 12
 ·have HW9 : Hid (putW wd m = { wd with nets := wd.nets ++ [m] }) := by show _ = _; unfold putW; rw [if_pos (by have := HLEN.out; omega)]
  have hl' : (ys.length : Int) < 12 := by omega
  go_upto_region 2 with fail
  clear b0 b1 b2 b3 b4 bf
  generalize (((w.alloc (.cells #[.slice L wd.log.length ln, .int .i64 wd.safe, .bool wd.up, .slice C xs.length cc, .slice N ys.length nc] 93)).alloc (oL m A an)).alloc oW0) = W3 at *
  obtain ⟨b0, b1, b2, b3, b4, bf⟩ := five_cells HX1.out
  obtain ⟨c0, c1, c2, cf⟩ := tri_cells HX2.out
  have hown := HP.out.let_
  have hlt0 : base ≤ W3.heap.size := by omega
  obtain ⟨v7, w7, hrun, ho7, hg7, hbk7⟩ := app_one_b el_let hown (⟨m.dst, m.frm, A, m.list.length, an⟩ : RL) trivial (by omega) hlt0 (cL m A an) rfl
  obtain ⟨N', nc', hv9, -⟩ := ho7.rd
  rw [List.length_append, List.length_singleton] at hv9
  subst hv9
  have hEa : Ext W3 (W3.alloc (oL m A an)) := (Below.refl _ _).alloc (Nat.le_refl _) _
  have hoa := hown.below hEa
  have hx1 := box_grown ((hEa.block _ (blk_lt HX1.out)).trans HX1.out) hg7 hoa (by decide)
  have hx3 := box_grown ((hEa.block _ (blk_lt HX3.out)).trans HX3.out) hg7 hoa (by decide)
  obtain ⟨f0, f1, f2, f3, f4, ff⟩ := five_cells hx1
  obtain ⟨g0, g1, g2, g3, g4, gf⟩ := five_cells hx3
  have HO7 := Lib.hid ho7; have HG7 := Lib.hid hg7; have HOA := Lib.hid hoa; have HY1 := Lib.hid hx1; have HY3 := Lib.hid hx3; have HSZ := Lib.hid hz3
  clear hown ho7 hg7 hoa hx1 hx3 hz3 hEa
  go_wp2_with (at_builtin; refine wpList_append_run rfl _ _ _ rfl rfl rfl hrun ?_)
  have hzz := (setx (w := w7) (o := 4) (v := .slice N' (ys.length + 1) nc') (b := w.heap.size) (b' := w.heap.size + 1 + 1) (by omega)).trans HY3.out
  have hz := put5_at (.slice L wd.log.length ln) (.int .i64 wd.safe) (.bool wd.up) (.slice C xs.length cc) (.slice N' (ys.length + 1) nc') hzz
  have HZ := Lib.hid hz
  clear hz
  obtain ⟨k0, k1, k2, k3, k4, kf⟩ := five_cells HZ.out
  refine bodyPost_ret (v := .agg #[.slice L wd.log.length ln, .int .i64 wd.safe, .bool wd.up, .slice C xs.length cc, .slice N' (ys.length + 1) nc']) ?_ rfl ?_
  ·simp [results, Tryd.f118, go_sem, k0, k1, k2, k3, k4]
  ·have hEa : Ext W3 (W3.alloc (oL m A an)) := (Below.refl _ _).alloc (Nat.le_refl _) _
   have hk : KeepT w7 (put5 (w7.setCell ⟨w.heap.size, 4, none⟩ (.slice N' (ys.length + 1) nc')) (w.heap.size + 1 + 1) (.slice L wd.log.length ln) (.int .i64 wd.safe) (.bool wd.up) (.slice C xs.length cc) (.slice N' (ys.length + 1) nc')) := (KeepT.grown (gset_any w7 w.heap.size 4 _) HY1.out (by decide) (by decide) (by decide) (by decide)).trans (KeepT.grown (gset (gset (gset (gset (gset_any _ _ _ _) _ _) _ _) _ _) _ _) hzz (by decide) (by decide) (by decide) (by decide))
   have hyl : (ys ++ [(⟨m.dst, m.frm, A, m.list.length, an⟩ : RL)]).length = ys.length + 1 := by simp
   have hp7 : WP w7 base { wd with nets := wd.nets ++ [m] } L ln C cc N' nc' xs (ys ++ [⟨m.dst, m.frm, A, m.list.length, an⟩]) :=
    ⟨(HP.out.log.ext hEa).grownO HG7.out HOA.out (by decide), (HP.out.cli.below hEa).grownO HG7.out HOA.out (by decide), by rw [hyl]; exact HO7.out,
     HP.out.cls.imp (fun _ _ h => (h.ext hEa).grownO HG7.out HOA.out (by decide) (by decide)),
     (HP.out.nets.imp (fun _ _ h => (h.ext hEa).grownO HG7.out HOA.out (by decide))).append (All2.one ⟨A, an, rfl, (HM.out.ext hEa).grownO HG7.out HOA.out (by decide)⟩)⟩
   have hT7 : Turn (OwnB none N) w w7 := ((Turn.ext HE3.out).thenE hEa).then (S' := OwnB none N) (Turn.grown HG7.out (fun k hk => .inr (by rw [← ob_map N ys.length nc]; exact hk))) (fun i hi => .inl hi)
   have hwR : w.heap.size ≤ w.heap.size + 1 + 1 := by omega
   refine ⟨N', nc', ys ++ [⟨m.dst, m.frm, A, m.list.length, an⟩], by rw [hyl], by rw [HW9.out]; exact hp7.keep hk, ((((((hT7.setNew (Nat.le_refl _) 4 _).setNew hwR 0 _).setNew hwR 1 _).setNew hwR 2 _).setNew hwR 3 _).setNew hwR 4 _), fun k h9 => ?_⟩
   rcases h9 with h9 | h9
   ·exact .inl (.inl h9)
   ·rw [← ob_map N' (ys.length + 1) nc'] at h9
    rcases hbk7 with h8 | h8
    ·rw [h8, ob_map] at h9; exact .inl (.inr h9)
    ·have := h8 k h9
     have hs := HE3.out.size
     exact .inr (by omega)
 ·have HW9 : Hid (putW wd m = wd) := by show _ = _; unfold putW; rw [if_neg (by have := HLEN.out; omega)]
  have hl' : ¬ ((ys.length : Int) < 12) := by omega
  have hE4 : Ext w (((w.alloc (.cells #[.slice L wd.log.length ln, .int .i64 wd.safe, .bool wd.up, .slice C xs.length cc, .slice N ys.length nc] 93)).alloc (oL m A an)).alloc (.cells #[.slice L wd.log.length ln, .int .i64 wd.safe, .bool wd.up, .slice C xs.length cc, .slice N ys.length nc] 93)) := ext3 _ _ _ _
  have HZ := Lib.hid (three_all w (.cells #[.slice L wd.log.length ln, .int .i64 wd.safe, .bool wd.up, .slice C xs.length cc, .slice N ys.length nc] 93) (oL m A an) (.cells #[.slice L wd.log.length ln, .int .i64 wd.safe, .bool wd.up, .slice C xs.length cc, .slice N ys.length nc] 93)).2.2; have HE4 := Lib.hid hE4
  clear hE4
  go_wp2_with fail
  obtain ⟨k0, k1, k2, k3, k4, kf⟩ := five_cells HZ.out
  refine bodyPost_ret (v := .agg #[.slice L wd.log.length ln, .int .i64 wd.safe, .bool wd.up, .slice C xs.length cc, .slice N ys.length nc]) ?_ rfl ?_
  ·simp [results, Tryd.f118, go_sem]
  ·exact ⟨N, nc, ys, rfl, by rw [HW9.out]; exact HPW.out.ext HE4.out, Turn.ext HE4.out, fun k h => .inl h⟩
open Go.RowKit Go.Lib
def BrP (w : World) (base : Nat) (wd : Wd) (e : Entry) (C : Option Addr) (cc : Nat) (N : Option Addr) (nc : Nat) (xs : List RC) (ys : List RL) (wx : World) : Prop :=
 ∃ L' n', wx.heap[w.heap.size]? = some (.cells #[.slice L' (srvS wd.log wd.up e).1.length n', .int .i64 wd.safe, .bool wd.up, .slice C xs.length cc, .slice N ys.length nc] 93 (0, 0)) ∧ wx.heap[w.heap.size + 1 + 1]? = some (.cells #[.slice none 0 0, .int .i64 0, .bool false, .slice none 0 0, .slice none 0 0] 93 (0, 0)) ∧ WP wx base { wd with log := (srvS wd.log wd.up e).1 } L' n' C cc N nc xs ys ∧ Ext w wx
set_option maxRecDepth 100000 in
set_option maxHeartbeats 4000000 in
theorem bring0_s (wd : Wd) (m : Lt) (base : Nat) (L : Option Addr) (ln : Nat) (C : Option Addr) (cc : Nat) (N : Option Addr) (nc : Nat) (xs : List RC) (ys : List RL) (A : Option Addr) (an : Nat) (w : World) (hp : WP w base wd L ln C cc N nc xs ys) (hm : RdT 44 w A an m.list) (hb : base ≤ w.heap.size) (h0 : m.dst = 0) (hl0 : 0 < m.list.length) (hll : wd.log.length ≤ 40) :
  Calls Tryd.prog 120 #[.agg (cW wd L ln C xs cc N ys nc), .agg (cL m A an)] w fun x w' => ∃ (L' : Option Addr) (n' : Nat), x = .returned (.agg #[.slice L' (srvS wd.log wd.up (m.list[0]'hl0)).1.length n', .int .i64 wd.safe, .bool wd.up, .slice C xs.length cc, .slice N ys.length nc]) ∧ WP w' base { wd with log := (srvS wd.log wd.up (m.list[0]'hl0)).1 } L' n' C cc N nc xs ys ∧ Ext w w' := by
 have h3 := three_all w (oW wd L ln C xs cc N ys nc) (oL m A an) oW0
 have hE3 : Ext w (((w.alloc (oW wd L ln C xs cc N ys nc)).alloc (oL m A an)).alloc oW0) := ext3 _ _ _ _
 have hz3 : (((w.alloc (oW wd L ln C xs cc N ys nc)).alloc (oL m A an)).alloc oW0).heap.size = w.heap.size + 3 := by simp only [alloc_sz]
 have HX1 := Lib.hid h3.1; have HX2 := Lib.hid h3.2.1; have HX3 := Lib.hid h3.2.2; have HE3 := Lib.hid hE3
 have HP := Lib.hid (hp.ext hE3); have HM := Lib.hid (hm.ext hE3)
 obtain ⟨c0, c1, c2, cf⟩ := tri_cells h3.2.1
 have h0' : (m.dst == 0) = true := by simp [h0]
 have HD := Lib.hid h0
 clear h3 hE3 hp hm h0
 go_enter Tryd.func120, Tryd.ntmps120
 go_upto_region 2 with fail
 clear c0 c1 c2 cf
 generalize (((w.alloc (oW wd L ln C xs cc N ys nc)).alloc (oL m A an)).alloc oW0) = W3 at *
 obtain ⟨b0, b1, b2, b3, b4, bf⟩ := five_cells HX1.out
 obtain ⟨c0, c1, c2, cf⟩ := tri_cells HX2.out
 obtain ⟨b, off, rfl, hbl, e0, e1, e2, e3, e4, e5, e6⟩ := ent_at HM.out.1 0 hl0
 simp only [Nat.zero_mul, Nat.add_zero] at e0 e1 e2 e3 e4 e5 e6
 have hoe := HM.out.1.okAt 0 hl0
 have HC := Lib.hid (hear13_s L ln wd.log wd.safe wd.up (m.list[0]'hl0) W3.drew (HP.out.log.ext ((Below.refl _ _).drew)) hoe (by omega))
 have hli : (0 : Int) < m.list.length := by omega
 have hx1 := blk_lt HX1.out
 have fin : ∀ (w5 : World) (L' : Option Addr) (n' : Nat), RdT 44 w5 L' n' (srvS wd.log wd.up (m.list[0]'hl0)).1 → Ext W3.drew w5 → BrP w base wd (m.list[0]'hl0) C cc N nc xs ys (((w5.setCell ⟨w.heap.size, 0, none⟩ (.slice L' (srvS wd.log wd.up (m.list[0]'hl0)).1.length n')).setCell ⟨w.heap.size, 1, none⟩ (.int .i64 wd.safe)).setCell ⟨w.heap.size, 2, none⟩ (.bool wd.up)) := fun w5 L' n' hq hb5 => by
  have hE5 : Ext W3 w5 := ((Below.refl _ _).drew).trans hb5
  have hbx := (hE5.block _ hx1).trans HX1.out
  have hk : KeepT w5 (((w5.setCell ⟨w.heap.size, 0, none⟩ (.slice L' (srvS wd.log wd.up (m.list[0]'hl0)).1.length n')).setCell ⟨w.heap.size, 1, none⟩ (.int .i64 wd.safe)).setCell ⟨w.heap.size, 2, none⟩ (.bool wd.up)) := KeepT.grown (gset (gset (gset_any _ _ _ _) _ _) _ _) hbx (by decide) (by decide) (by decide) (by decide)
  have hp5 := HP.out.ext hE5
  have hp6 : WP w5 base { wd with log := (srvS wd.log wd.up (m.list[0]'hl0)).1 } L' n' C cc N nc xs ys := ⟨hq, hp5.cli, hp5.let_, hp5.cls, hp5.nets⟩
  exact ⟨L', n', set_at (set_at (set_at hbx)), (setx (by omega)).trans ((setx (by omega)).trans ((setx (by omega)).trans ((hE5.block _ (blk_lt HX3.out)).trans HX3.out))), hp6.keep hk, (((HE3.out.trans (hE5.mono HE3.out.size)).setCell (p := ⟨w.heap.size, 0, none⟩) (Nat.le_refl _) _).setCell (p := ⟨w.heap.size, 1, none⟩) (Nat.le_refl _) _).setCell (p := ⟨w.heap.size, 2, none⟩) (Nat.le_refl _) _⟩
 have FIN := Lib.hid fin
 clear fin
 go_cut [8] (fun s wx => BrP w base wd (m.list[0]'hl0) C cc N nc xs ys wx)
 case first =>
  go_region_with (go_at_call 122; refine HC.out.mono ?_; rintro r w5 ⟨L', n', rfl, hq, hb5⟩; obtain ⟨f0, f1, f2, f3, f4, ff⟩ := five_cells ((hb5.block _ hx1).trans HX1.out); have HQ := Lib.hid hq; have HB5 := Lib.hid hb5; clear hq hb5)
  all_goals
   go_wp2_with fail
   go_meet
   exact FIN.out _ _ _ HQ.out HB5.out
 case rest =>
  obtain ⟨L', n', hbx, hzx, hp9, hE9⟩ := hcut
  clear b0 b1 b2 b3 b4 bf c0 c1 c2 cf e0 e1 e2 e3 e4 e5 e6
  obtain ⟨b0, b1, b2, b3, b4, bf⟩ := five_cells hbx
  obtain ⟨d0, d1, d2, d3, d4, df⟩ := five_cells hzx
  have hz := put5_at (.slice L' (srvS wd.log wd.up (m.list[0]'hl0)).1.length n') (.int .i64 wd.safe) (.bool wd.up) (.slice C xs.length cc) (.slice N ys.length nc) hzx
  have hk : KeepT wc (put5 wc (w.heap.size + 1 + 1) (.slice L' (srvS wd.log wd.up (m.list[0]'hl0)).1.length n') (.int .i64 wd.safe) (.bool wd.up) (.slice C xs.length cc) (.slice N ys.length nc)) := KeepT.grown (gset (gset (gset (gset (gset_any _ _ _ _) _ _) _ _) _ _) _ _) hzx (by decide) (by decide) (by decide) (by decide)
  have hwR : w.heap.size ≤ w.heap.size + 1 + 1 := by omega
  have hE : Ext w (put5 wc (w.heap.size + 1 + 1) (.slice L' (srvS wd.log wd.up (m.list[0]'hl0)).1.length n') (.int .i64 wd.safe) (.bool wd.up) (.slice C xs.length cc) (.slice N ys.length nc)) := ((((hE9.setCell (p := ⟨w.heap.size + 1 + 1, 0, none⟩) hwR _).setCell (p := ⟨w.heap.size + 1 + 1, 1, none⟩) hwR _).setCell (p := ⟨w.heap.size + 1 + 1, 2, none⟩) hwR _).setCell (p := ⟨w.heap.size + 1 + 1, 3, none⟩) hwR _).setCell (p := ⟨w.heap.size + 1 + 1, 4, none⟩) hwR _
  have HZ := Lib.hid hz; have HP9 := Lib.hid (hp9.keep hk); have HE := Lib.hid hE
  clear hz hk hE hp9 hE9 FIN HC
  go_wp2_with fail
  obtain ⟨k0, k1, k2, k3, k4, kf⟩ := five_cells HZ.out
  refine bodyPost_ret (v := .agg #[.slice L' (srvS wd.log wd.up (m.list[0]'hl0)).1.length n', .int .i64 wd.safe, .bool wd.up, .slice C xs.length cc, .slice N ys.length nc]) ?_ rfl ?_
  ·simp [results, Tryd.f120, go_sem, k0, k1, k2, k3, k4]
  ·exact ⟨L', n', rfl, HP9.out, HE.out⟩
open Go Go.RowKit Go.Lib
section
variable {P : Program} {ops : Array Oper} {Q : Exit → Act → World → Prop} {md : Region.Mode} {S : World → Prop} {n : Nat}
def WB (P : Program) (md : Region.Mode) (ops : Array Oper) (Q : Exit → Act → World → Prop) (S : World → Prop) (n : Nat) : Nat → Array Bool → Act → World → Prop
 |0, l, a, w => Region.ready md ops l = [] ∧ Q .normal a w
 |k + 1, l, a, w => (Region.ready md ops l = [] → Q .normal a w) ∧ ∀ i ∈ Region.ready md ops l, wpOp P ops Q i (fun a' w' => ((l.setIfInBounds i true).getD n true = false → S w') ∧ WB P md ops Q S n k (l.setIfInBounds i true) a' w') a w
theorem WB.any : ∀ (k : Nat) (l : Array Bool) (a : Act) (w : World), WB P md ops Q S n k l a w → wpAny P md ops Q k l a w
 |0, _, _, _, h => h
 |k + 1, _, _, _, h => ⟨h.1, fun i hi => wpOp_mono (fun a' w' h' => WB.any k _ a' w' h'.2) (h.2 i hi)⟩
def waitB (md : Region.Mode) (ops : Array Oper) (n i : Nat) : Bool :=
 match ops[n]? with
 |some oj => oj.after.any (fun e => Region.binds md e && e.on == i)
 |none => false
theorem waitB_spec {i j : Nat} (h : waitB md ops n i = true) (oj : Oper) (hj : ops[j]? = some oj) (hno : ∀ e ∈ oj.after, Region.binds md e = true → e.on ≠ i) : j ≠ n := by
 rintro rfl
 unfold waitB at h
 rw [hj] at h
 obtain ⟨e, he, hb⟩ := Array.any_eq_true'.1 h
 simp only [Bool.and_eq_true, beq_iff_eq] at hb
 exact hno e he hb.1 hb.2
theorem WB.first {i : Nat} {oi : Oper} {v : Value} (hi : ops[i]? = some oi) (hsel : ∀ (j : Nat) (o : Oper) cs b, ops[j]? = some o → o.op ≠ .select cs b)
  (hQ : ∀ c a w, Q (.panic c) (a.put oi.dst v) w → Q (.panic c) a w) (hne : n ≠ i) (hl : waitB md ops n i = true ∨ ∀ w, S w) :
  ∀ (k : Nat) (l : Array Bool) (a : Act) (w : World),
   (∀ j oj, ops[j]? = some oj → j ≠ i → l.getD j true = false → (∀ e ∈ oj.after, Region.binds md e = true → e.on ≠ i) → oi.apart ops oj = true) →
   i ∈ Region.ready md ops l → YieldsIf P ops S oi v a → l.getD n true = false ∨ (∀ w, S w) → S w →
   WB P md ops Q S n k (l.setIfInBounds i true) (a.put oi.dst v) w → WB P md ops Q S n (k + 1) l a w := by
 intro k
 induction k with
 |zero =>
  intro l a w _ hr hy hn hS H
  refine ⟨fun h => (by rw [h] at hr; cases hr), fun j hj => ?_⟩
  by_cases hji : j = i
  ·subst hji; exact hy.wpOp hi hS ⟨fun _ => hS, H⟩
  ·have := ready_mono hj hji
   rw [H.1] at this
   cases this
 |succ k ih =>
  intro l a w hfree hr hy hn hS H
  refine ⟨fun h => (by rw [h] at hr; cases hr), fun j hj => ?_⟩
  by_cases hji : j = i
  ·subst hji; exact hy.wpOp hi hS ⟨fun _ => hS, H⟩
  ·obtain ⟨hju, oj, hoj, hall⟩ := mem_ready.1 hj
   have hnot : ∀ e ∈ oj.after, Region.binds md e = true → e.on ≠ i := by
    intro e he hb heq
    have h1 := hall e he hb
    have h0 := (mem_ready.1 hr).1
    rw [heq] at h1
    rcases Nat.lt_or_ge i l.size with h' | h'
    ·simp [h'] at h0 h1; rw [h0] at h1; cases h1
    ·simp [Array.getElem?_eq_none h'] at h1
   have hSj : ∀ w', (((l.setIfInBounds i true).setIfInBounds j true).getD n true = false → S w') → S w' := fun w' h => by
    rcases hl with h9 | h9
    ·rcases hn with hn | hn
     ·exact h (by rw [getD_set_ne true (Ne.symm (waitB_spec h9 oj hoj hnot).symm), getD_set_ne true (Ne.symm hne)]; exact hn)
     ·exact hn w'
    ·exact h9 w'
   have hnj : (l.setIfInBounds j true).getD n true = false ∨ ∀ w, S w := by
    rcases hl with h9 | h9
    ·rcases hn with hn | hn
     ·exact .inl (by rw [getD_set_ne true (Ne.symm (waitB_spec h9 oj hoj hnot).symm)]; exact hn)
     ·exact .inr hn
    ·exact .inr h9
   refine wpOp_mono (fun a' w' h3 => ⟨fun _ => hSj w' h3.2.1, ih (l.setIfInBounds j true) a' w' (fun m om hm hmi hun hno => ?_) (ready_mono hr (Ne.symm hji)) h3.1 hnj (hSj w' h3.2.1) ?_⟩)
    (wpOp_putIf hoj (hfree j oj hoj hji hju hnot) (fun cs b => hsel i oi cs b hi) (fun cs b => hsel j oj cs b hoj) hQ hy (H.2 j (ready_mono hj hji)))
   ·refine hfree m om hm hmi ?_ hno
    by_cases hjm : j = m
    ·subst hjm; exact hju
    ·rw [getD_set_ne true hjm] at hun; exact hun
   ·rw [Array.setIfInBounds_comm _ _ hji]
    exact h3.2.2
theorem WB.firstP {i : Nat} {oi : Oper} {v : Value} (hi : ops[i]? = some oi) (hsel : ∀ (j : Nat) (o : Oper) cs b, ops[j]? = some o → o.op ≠ .select cs b)
  (hQ : ∀ c a w, Q (.panic c) (a.put oi.dst v) w → Q (.panic c) a w) (hne : n ≠ i) :
  ∀ (k : Nat) (l : Array Bool) (a : Act) (w : World),
   (∀ j oj, ops[j]? = some oj → j ≠ i → l.getD j true = false → (∀ e ∈ oj.after, Region.binds md e = true → e.on ≠ i) → oi.apart ops oj = true) →
   i ∈ Region.ready md ops l → YieldsIf P ops (fun _ => True) oi v a → (l.getD n true = false → S w) →
   WB P md ops Q S n k (l.setIfInBounds i true) (a.put oi.dst v) w → WB P md ops Q S n (k + 1) l a w := by
 intro k
 induction k with
 |zero =>
  intro l a w _ hr hy hS H
  refine ⟨fun h => (by rw [h] at hr; cases hr), fun j hj => ?_⟩
  by_cases hji : j = i
  ·subst hji; exact hy.wpOp hi trivial ⟨fun h => hS (by rw [getD_set_ne true (Ne.symm hne)] at h; exact h), H⟩
  ·have := ready_mono hj hji
   rw [H.1] at this
   cases this
 |succ k ih =>
  intro l a w hfree hr hy hS H
  refine ⟨fun h => (by rw [h] at hr; cases hr), fun j hj => ?_⟩
  by_cases hji : j = i
  ·subst hji; exact hy.wpOp hi trivial ⟨fun h => hS (by rw [getD_set_ne true (Ne.symm hne)] at h; exact h), H⟩
  ·obtain ⟨hju, oj, hoj, hall⟩ := mem_ready.1 hj
   have hnot : ∀ e ∈ oj.after, Region.binds md e = true → e.on ≠ i := by
    intro e he hb heq
    have h1 := hall e he hb
    have h0 := (mem_ready.1 hr).1
    rw [heq] at h1
    rcases Nat.lt_or_ge i l.size with h' | h'
    ·simp [h'] at h0 h1; rw [h0] at h1; cases h1
    ·simp [Array.getElem?_eq_none h'] at h1
   have hSj : ∀ w', (((l.setIfInBounds i true).setIfInBounds j true).getD n true = false → S w') → (l.setIfInBounds j true).getD n true = false → S w' := fun w' h h9 => by
    refine h ?_
    rw [← Array.setIfInBounds_comm _ _ hji, getD_set_ne true (Ne.symm hne)]
    exact h9
   refine wpOp_mono (fun a' w' h3 => ⟨hSj w' h3.2.1, ih (l.setIfInBounds j true) a' w' (fun m om hm hmi hun hno => ?_) (ready_mono hr (Ne.symm hji)) h3.1 (hSj w' h3.2.1) ?_⟩)
    (wpOp_putIf hoj (hfree j oj hoj hji hju hnot) (fun cs b => hsel i oi cs b hi) (fun cs b => hsel j oj cs b hoj) hQ hy (H.2 j (ready_mono hj hji)))
   ·refine hfree m om hm hmi ?_ hno
    by_cases hjm : j = m
    ·subst hjm; exact hju
    ·rw [getD_set_ne true hjm] at hun; exact hun
   ·rw [Array.setIfInBounds_comm _ _ hji]
    exact h3.2.2
theorem WB.take {i : Nat} {oi : Oper} {v : Value} {k : Nat} {l : Array Bool} {a : Act} {w : World} (hi : ops[i]? = some oi)
  (hs : Region.noSelect ops = true) (hf : Region.free md ops l i = true) (hr : (Region.ready md ops l).contains i = true) (hl : (waitB md ops n i && (n != i && !(l.getD n true))) = true)
  (hQ : ∀ c a w, Q (.panic c) (a.put oi.dst v) w → Q (.panic c) a w) (hS : S w) (hy : YieldsIf P ops S oi v a)
  (h : WB P md ops Q S n k (l.setIfInBounds i true) (a.put oi.dst v) w) : WB P md ops Q S n (k + 1) l a w := by
 simp only [Bool.and_eq_true, bne_iff_ne, Bool.not_eq_true'] at hl
 exact WB.first hi (Region.noSelect_spec hs) hQ hl.2.1 (.inl hl.1) k l a w (Region.free_spec hi hf) (by simpa using hr) hy (.inl hl.2.2) hS h
theorem WB.takeP {i : Nat} {oi : Oper} {v : Value} {k : Nat} {l : Array Bool} {a : Act} {w : World} (hi : ops[i]? = some oi)
  (hs : Region.noSelect ops = true) (hf : Region.free md ops l i = true) (hr : (Region.ready md ops l).contains i = true) (hl : (n != i) = true)
  (hQ : ∀ c a w, Q (.panic c) (a.put oi.dst v) w → Q (.panic c) a w) (hS : S w) (hy : YieldsIf P ops (fun _ => True) oi v a)
  (h : WB P md ops Q S n k (l.setIfInBounds i true) (a.put oi.dst v) w) : WB P md ops Q S n (k + 1) l a w :=
 WB.firstP hi (Region.noSelect_spec hs) hQ (by simpa using hl) k l a w (Region.free_spec hi hf) (by simpa using hr) hy (fun _ => hS) h
theorem WB.one {i : Nat} {o : Oper} {k : Nat} {l : Array Bool} {a : Act} {w : World} (hr : Region.ready md ops l = [i]) (ho : ops[i]? = some o)
  (h : ∀ K' : Act → World → Prop, (∀ a w, ((l.setIfInBounds i true).getD n true = false → S w) ∧ WB P md ops Q S n k (l.setIfInBounds i true) a w → K' a w) → if Region.wanted o (yielded ops a.tmps) = true then Oper.wp P o a w K' Q else K' (a.put o.dst undef) w) :
  WB P md ops Q S n (k + 1) l a w :=
by
 refine ⟨fun h0 => ?_, fun j hj => ?_⟩
 ·rw [hr] at h0; cases h0
 ·rw [hr] at hj
  obtain rfl : j = i := by simpa using hj
  exact wpOp_step ho h
theorem WB.two {i j : Nat} {oi oj : Oper} {k : Nat} {l : Array Bool} {a : Act} {w : World} (hr : Region.ready md ops l = [i, j]) (hoi : ops[i]? = some oi) (hoj : ops[j]? = some oj)
  (h1 : ∀ K' : Act → World → Prop, (∀ a w, ((l.setIfInBounds i true).getD n true = false → S w) ∧ WB P md ops Q S n k (l.setIfInBounds i true) a w → K' a w) → if Region.wanted oi (yielded ops a.tmps) = true then Oper.wp P oi a w K' Q else K' (a.put oi.dst undef) w)
  (h2 : ∀ K' : Act → World → Prop, (∀ a w, ((l.setIfInBounds j true).getD n true = false → S w) ∧ WB P md ops Q S n k (l.setIfInBounds j true) a w → K' a w) → if Region.wanted oj (yielded ops a.tmps) = true then Oper.wp P oj a w K' Q else K' (a.put oj.dst undef) w) :
  WB P md ops Q S n (k + 1) l a w := by
 refine ⟨fun h0 => ?_, fun m hm => ?_⟩
 ·rw [hr] at h0; cases h0
 ·rw [hr] at hm
  rcases List.mem_cons.1 hm with h9 | h9
  ·subst h9; exact wpOp_step hoi h1
  ·obtain rfl : m = j := by simpa using h9
   exact wpOp_step hoj h2
theorem WB.done {k : Nat} {l : Array Bool} {a : Act} {w : World} (hr : Region.ready md ops l = []) (h : Q .normal a w) : WB P md ops Q S n k l a w := by
 cases k with
 |zero => exact ⟨hr, h⟩
 |succ k => exact ⟨fun _ => h, fun i hi => by rw [hr] at hi; cases hi⟩
theorem WB.of_any {k : Nat} {l : Array Bool} {a : Act} {w : World} (hn : l.getD n true = true) (h : wpAny P md ops Q k l a w) : WB P md ops Q S n k l a w := by
 induction k generalizing l a w with
 |zero => exact h
 |succ k ih =>
  refine ⟨h.1, fun i hi => wpOp_mono (fun a' w' h' => ?_) (h.2 i hi)⟩
  have h9 : (l.setIfInBounds i true).getD n true = true := by
   by_cases hin : i = n
   ·subst hin
    by_cases hs : i < l.size
    ·simp [hs]
    ·simp [hs]
   ·rw [getD_set_ne true hin]; exact hn
  exact ⟨fun h0 => (by rw [h9] at h0; cases h0), ih h9 h'⟩
theorem wp_region_B (S : World → Prop) (n : Nat) {id : Nat} {a : Act} {w : World} (hm : P.follows .mixedOrders = true)
  (h : WB P .any ops Q S n ops.size (Array.replicate ops.size false) a w.drew) : (Code.region id ops true).wp P Q a w :=
 wp_region_any hm (WB.any _ _ _ _ h)
end
open Go.RowKit Go.Lib
set_option linter.unusedSimpArgs false
theorem Own.at0w {α : Type} [Flat α] {e : TypeId} {w : World} {base n c : Nat} {A : Option Addr} {l : List α} (h : Own e w base (.slice A n c) l) (hn : 0 < n) : ∃ g, A = some ⟨g, 0, none⟩ := by
 rcases h.1.2 with ⟨h9, h8⟩ | ⟨g, cap, cur, h9, _⟩
 ·simp only [Value.slice.injEq] at h9; omega
 ·simp only [Value.slice.injEq] at h9; exact ⟨g, h9.1⟩
theorem Own.frzw {α : Type} [Flat α] {e : TypeId} {w : World} {base g n cap : Nat} {L : List α} (h : Own e w base (.slice (some ⟨g, 0, none⟩) n cap) L) : ∀ o, w.frozen? ⟨g, o, none⟩ = false := by
 rcases h.1.2 with ⟨h9, _⟩ | ⟨g9, cap9, cur9, h9, _, h8, _⟩
 ·cases h9
 ·simp only [Value.slice.injEq, Option.some.injEq, Addr.mk.injEq, and_true] at h9
  obtain ⟨h91, -⟩ := h9
  subst h91
  intro o
  simp [World.frozen?, h8]
theorem own_put_rc {w : World} {base g cap n : Nat} {L : List RC} (h : Own 30 w base (.slice (some ⟨g, 0, none⟩) n cap) L) (hn : L.length = n) (k : Nat) (hk : k < n) (x : RC) :
  Own 30 ((((((w.setCell ⟨g, k * 6, none⟩ (.int .i64 x.who)).setCell ⟨g, k * 6 + 1, none⟩ (.int .i64 x.seen)).setCell ⟨g, k * 6 + 2, none⟩ (.slice x.b x.bl x.bn)).setCell ⟨g, k * 6 + 3, none⟩ (.slice x.q x.ql x.qn)).setCell ⟨g, k * 6 + 4, none⟩ (.int .i64 x.done)).setCell ⟨g, k * 6 + 5, none⟩ (.int .i64 x.made)) base (.slice (some ⟨g, 0, none⟩) n cap) (L.set k x) := by
 subst hn
 have e0 := (Own.store h k hk ⟨x.who, L[k].seen, L[k].b, L[k].bl, L[k].bn, L[k].q, L[k].ql, L[k].qn, L[k].done, L[k].made⟩ trivial 0 (.int .i64 x.who) (by decide) rfl).1
 have e1 := (Own.store (l := L.set k ⟨x.who, L[k].seen, L[k].b, L[k].bl, L[k].bn, L[k].q, L[k].ql, L[k].qn, L[k].done, L[k].made⟩) (by rw [List.length_set] at *; exact e0) k (by rw [List.length_set]; exact hk) ⟨x.who, x.seen, L[k].b, L[k].bl, L[k].bn, L[k].q, L[k].ql, L[k].qn, L[k].done, L[k].made⟩ trivial 1 (.int .i64 x.seen) (by decide) (by rw [List.getElem_set_self]; rfl)).1
 rw [List.set_set] at e1
 have e2 := (Own.store (l := L.set k ⟨x.who, x.seen, L[k].b, L[k].bl, L[k].bn, L[k].q, L[k].ql, L[k].qn, L[k].done, L[k].made⟩) (by rw [List.length_set] at *; exact e1) k (by rw [List.length_set]; exact hk) ⟨x.who, x.seen, x.b, x.bl, x.bn, L[k].q, L[k].ql, L[k].qn, L[k].done, L[k].made⟩ trivial 2 (.slice x.b x.bl x.bn) (by decide) (by rw [List.getElem_set_self]; rfl)).1
 rw [List.set_set] at e2
 have e3 := (Own.store (l := L.set k ⟨x.who, x.seen, x.b, x.bl, x.bn, L[k].q, L[k].ql, L[k].qn, L[k].done, L[k].made⟩) (by rw [List.length_set] at *; exact e2) k (by rw [List.length_set]; exact hk) ⟨x.who, x.seen, x.b, x.bl, x.bn, x.q, x.ql, x.qn, L[k].done, L[k].made⟩ trivial 3 (.slice x.q x.ql x.qn) (by decide) (by rw [List.getElem_set_self]; rfl)).1
 rw [List.set_set] at e3
 have e4 := (Own.store (l := L.set k ⟨x.who, x.seen, x.b, x.bl, x.bn, x.q, x.ql, x.qn, L[k].done, L[k].made⟩) (by rw [List.length_set] at *; exact e3) k (by rw [List.length_set]; exact hk) ⟨x.who, x.seen, x.b, x.bl, x.bn, x.q, x.ql, x.qn, x.done, L[k].made⟩ trivial 4 (.int .i64 x.done) (by decide) (by rw [List.getElem_set_self]; rfl)).1
 rw [List.set_set] at e4
 have e5 := (Own.store (l := L.set k ⟨x.who, x.seen, x.b, x.bl, x.bn, x.q, x.ql, x.qn, x.done, L[k].made⟩) (by rw [List.length_set] at *; exact e4) k (by rw [List.length_set]; exact hk) ⟨x.who, x.seen, x.b, x.bl, x.bn, x.q, x.ql, x.qn, x.done, x.made⟩ trivial 5 (.int .i64 x.made) (by decide) (by rw [List.getElem_set_self]; rfl)).1
 rw [List.set_set] at e5
 rw [List.length_set] at e5
 exact e5
theorem WP.put {W W' : World} {base : Nat} {w : Wd} {L N : Option Addr} {ln g cc nc : Nat} {xs : List RC} {ys : List RL} (h : WP W base w L ln (some ⟨g, 0, none⟩) cc N nc xs ys) (hT : Turn (fun k => k = g) W W') (i : Nat) (x : RC) (c : Client) (ho : Own 30 W' base (.slice (some ⟨g, 0, none⟩) xs.length cc) (xs.set i x)) (hx : RcOk W' x c) :
  WP W' base { w with cls := w.cls.set i c } L ln (some ⟨g, 0, none⟩) cc N nc (xs.set i x) ys := by
 obtain ⟨cs, m, hg⟩ := h.cli.ty g rfl
 have hn : ∀ (e : TypeId), e ≠ 30 → ∀ k, k = g → ∀ cs' m', W.heap[k]? ≠ some (.cells cs' e m') := by
  rintro e he k rfl cs' m' h2
  rw [hg] at h2
  injection h2 with h2; injection h2 with _ h2
  exact he h2.symm
 refine ⟨h.log.turn hT (hn _ (by decide)), by rw [List.length_set]; exact ho, h.let_.turn hT (fun k hk e0 => ?_), ?_, h.nets.imp (fun x m hl => ?_)⟩
 ·obtain ⟨c2, m2, h2⟩ := h.let_.ty k hk
  exact hn _ (by decide) k e0 _ _ h2
 ·refine (h.cls.imp (fun x c hl => ?_)).set i hx
  obtain ⟨b, bn, q, qn, rfl, r1, r2⟩ := hl
  exact ⟨b, bn, q, qn, rfl, r1.turn hT (hn _ (by decide)), r2.turn hT (hn _ (by decide))⟩
 ·obtain ⟨a, n, rfl, r1⟩ := hl
  exact ⟨a, n, rfl, r1.turn hT (hn _ (by decide))⟩
theorem no_late {b : Bool} (h : b = false) (h' : b = true) : False := by rw [h] at h'; cases h'
theorem CT.raw2 {W : World} {c : Client} {v : Value} (h : CT W c v) : ∃ x : RC, v = .agg (cR x) ∧ RcOk W x c := by
 obtain ⟨A1, n1, A2, n2, rfl, h1, h2⟩ := h
 exact ⟨⟨c.who, c.seen, A1, c.base.length, n1, A2, c.wait.length, n2, c.done, c.made⟩, rfl, A1, n1, A2, n2, rfl, h1, h2⟩
def BcP (w : World) (base : Nat) (wd : Wd) (i : Nat) (c : Client) (L : Option Addr) (ln g cc : Nat) (N : Option Addr) (nc : Nat) (xs : List RC) (ys : List RL) (wx : World) : Prop :=
 ∃ x : RC, wx.heap[w.heap.size]? = some (.cells #[.slice L wd.log.length ln, .int .i64 wd.safe, .bool wd.up, .slice (some ⟨g, 0, none⟩) xs.length cc, .slice N ys.length nc] 93 (0, 0)) ∧ wx.heap[w.heap.size + 1 + 1]? = some (.cells #[.slice none 0 0, .int .i64 0, .bool false, .slice none 0 0, .slice none 0 0] 93 (0, 0)) ∧ WP wx base { wd with cls := wd.cls.set i c } L ln (some ⟨g, 0, none⟩) cc N nc (xs.set i x) ys ∧ Turn (fun k => k = g) w wx
set_option maxRecDepth 100000 in
set_option maxHeartbeats 4000000 in
theorem bring1g_s (wd : Wd) (m : Lt) (base : Nat) (L : Option Addr) (ln : Nat) (g cc : Nat) (N : Option Addr) (nc : Nat) (xs : List RC) (ys : List RL) (A : Option Addr) (an : Nat) (w : World) (hp : WP w base wd L ln (some ⟨g, 0, none⟩) cc N nc xs ys) (hm : RdT 44 w A an m.list) (hb : base ≤ w.heap.size) (i : Nat) (hd : m.dst = (i : Int) + 1) (hi : i < xs.length) (hi2 : i < wd.cls.length) (hx3 : xs.length ≤ 3) (hok : clientOk wd.cls[i] = true) (hm0 : LInv m) :
  Calls Tryd.prog 120 #[.agg #[.slice L wd.log.length ln, .int .i64 wd.safe, .bool wd.up, .slice (some ⟨g, 0, none⟩) xs.length cc, .slice N ys.length nc], .agg (cL m A an)] w fun x w' => ∃ xs' : List RC, x = .returned (.agg #[.slice L wd.log.length ln, .int .i64 wd.safe, .bool wd.up, .slice (some ⟨g, 0, none⟩) xs'.length cc, .slice N ys.length nc]) ∧ WP w' base { wd with cls := wd.cls.set i (hearS wd.cls[i] m.frm m.list).1 } L ln (some ⟨g, 0, none⟩) cc N nc xs' ys ∧ Turn (OwnB (some ⟨g, 0, none⟩) none) w w' := by
 have h3 := three_all w (.cells #[.slice L wd.log.length ln, .int .i64 wd.safe, .bool wd.up, .slice (some ⟨g, 0, none⟩) xs.length cc, .slice N ys.length nc] 93) (oL m A an) oW0
 have hE3 : Ext w (((w.alloc (.cells #[.slice L wd.log.length ln, .int .i64 wd.safe, .bool wd.up, .slice (some ⟨g, 0, none⟩) xs.length cc, .slice N ys.length nc] 93)).alloc (oL m A an)).alloc oW0) := ext3 _ _ _ _
 have hz3 : (((w.alloc (.cells #[.slice L wd.log.length ln, .int .i64 wd.safe, .bool wd.up, .slice (some ⟨g, 0, none⟩) xs.length cc, .slice N ys.length nc] 93)).alloc (oL m A an)).alloc oW0).heap.size = w.heap.size + 3 := by simp only [alloc_sz]
 have HX1 := Lib.hid h3.1; have HX2 := Lib.hid h3.2.1; have HX3 := Lib.hid h3.2.2; have HE3 := Lib.hid hE3
 have HP := Lib.hid (hp.ext hE3); have HM := Lib.hid (hm.ext hE3)
 have hgw : g < w.heap.size := by
  obtain ⟨cs, mm, hg9⟩ := hp.cli.ty g rfl
  exact blk_lt hg9
 obtain ⟨c0, c1, c2, cf⟩ := tri_cells h3.2.1
 have h0' : (m.dst == 0) = false := by simp; omega
 have HD := Lib.hid hd
 clear h3 hE3 hp hm hd
 go_enter Tryd.func120, Tryd.ntmps120
 go_upto_region 4 with fail
 clear c0 c1 c2 cf
 generalize (((w.alloc (.cells #[.slice L wd.log.length ln, .int .i64 wd.safe, .bool wd.up, .slice (some ⟨g, 0, none⟩) xs.length cc, .slice N ys.length nc] 93)).alloc (oL m A an)).alloc oW0) = W3 at *
 obtain ⟨b0, b1, b2, b3, b4, bf⟩ := five_cells HX1.out
 obtain ⟨c0, c1, c2, cf⟩ := tri_cells HX2.out
 obtain ⟨g', off', e9, hbg, x0, x1, x2, x3, x4, x5⟩ := rc_at HP.out.cli.rdT.1 i hi
 injection e9 with e9; injection e9 with e91 e92; subst e91; subst e92
 simp only [Nat.zero_add] at x0 x1 x2 x3 x4 x5
 have hct := HP.out.ct i hi hi2
 have hw1 : IntKind.i64.wrap (m.dst - 1) = (i : Int) := by have := HD.out; rw [IntKind.wrap_i64]; omega
 have hil : (i : Int) < xs.length := by omega
 obtain ⟨hm1, hm2, hm3, hm4, hm5⟩ := hm0
 have HC := Lib.hid (hear_s wd.cls[i] _ m.frm A an m.list W3.drew (hct.ext ((Below.refl _ _).drew)) (HM.out.1.ext ((Below.refl _ _).drew)) hok hm2.1 hm2.2 hm3 (by omega))
 have hfz := HP.out.cli.frzw
 have hs1 := blk_lt HX1.out; have hs2 := blk_lt HX2.out
 have HS : Hid (W3.drew.cell? ⟨w.heap.size, 3, none⟩ = some (.slice (some ⟨g, 0, none⟩) xs.length cc) ∧ W3.drew.cell? ⟨w.heap.size + 1, 0, none⟩ = some (.int .i64 m.dst) ∧ W3.drew.cell? ⟨w.heap.size + 1, 1, none⟩ = some (.int .i64 m.frm) ∧ W3.drew.cell? ⟨w.heap.size + 1, 2, none⟩ = some (.slice A m.list.length an) ∧ W3.drew.cell? ⟨g, i * 6, none⟩ = some (.int .i64 xs[i].who) ∧ W3.drew.cell? ⟨g, i * 6 + 1, none⟩ = some (.int .i64 xs[i].seen) ∧ W3.drew.cell? ⟨g, i * 6 + 2, none⟩ = some (.slice xs[i].b xs[i].bl xs[i].bn) ∧ W3.drew.cell? ⟨g, i * 6 + 3, none⟩ = some (.slice xs[i].q xs[i].ql xs[i].qn) ∧ W3.drew.cell? ⟨g, i * 6 + 4, none⟩ = some (.int .i64 xs[i].done) ∧ W3.drew.cell? ⟨g, i * 6 + 5, none⟩ = some (.int .i64 xs[i].made)) := Lib.hid ⟨b3, c0, c1, c2, x0, x1, x2, x3, x4, x5⟩
 clear b0 b1 b2 b3 b4 bf c0 c1 c2 cf x0 x1 x2 x3 x4 x5
 have fin : ∀ (w5 : World) (x : RC), RcOk w5 x (hearS wd.cls[i] m.frm m.list).1 → Ext W3.drew w5 → BcP w base wd i (hearS wd.cls[i] m.frm m.list).1 L ln g cc N nc xs ys ((((((w5.setCell ⟨g, i * 6, none⟩ (.int .i64 x.who)).setCell ⟨g, i * 6 + 1, none⟩ (.int .i64 x.seen)).setCell ⟨g, i * 6 + 2, none⟩ (.slice x.b x.bl x.bn)).setCell ⟨g, i * 6 + 3, none⟩ (.slice x.q x.ql x.qn)).setCell ⟨g, i * 6 + 4, none⟩ (.int .i64 x.done)).setCell ⟨g, i * 6 + 5, none⟩ (.int .i64 x.made)) := fun w5 x hx hb5 => by
  have hE5 : Ext W3 w5 := ((Below.refl _ _).drew).trans hb5
  have hp5 := HP.out.ext hE5
  have ho := own_put_rc hp5.cli rfl i hi x
  have hg5 : w5.grownBy ((((((w5.setCell ⟨g, i * 6, none⟩ (.int .i64 x.who)).setCell ⟨g, i * 6 + 1, none⟩ (.int .i64 x.seen)).setCell ⟨g, i * 6 + 2, none⟩ (.slice x.b x.bl x.bn)).setCell ⟨g, i * 6 + 3, none⟩ (.slice x.q x.ql x.qn)).setCell ⟨g, i * 6 + 4, none⟩ (.int .i64 x.done)).setCell ⟨g, i * 6 + 5, none⟩ (.int .i64 x.made)) (some g) := gset (gset (gset (gset (gset (gset_any _ _ _ _) _ _) _ _) _ _) _ _) _ _
  have hT5 : Turn (fun k => k = g) w5 ((((((w5.setCell ⟨g, i * 6, none⟩ (.int .i64 x.who)).setCell ⟨g, i * 6 + 1, none⟩ (.int .i64 x.seen)).setCell ⟨g, i * 6 + 2, none⟩ (.slice x.b x.bl x.bn)).setCell ⟨g, i * 6 + 3, none⟩ (.slice x.q x.ql x.qn)).setCell ⟨g, i * 6 + 4, none⟩ (.int .i64 x.done)).setCell ⟨g, i * 6 + 5, none⟩ (.int .i64 x.made)) := Turn.grown hg5 (fun k hk => by injection hk with hk; exact hk.symm)
  have hx5 : RcOk ((((((w5.setCell ⟨g, i * 6, none⟩ (.int .i64 x.who)).setCell ⟨g, i * 6 + 1, none⟩ (.int .i64 x.seen)).setCell ⟨g, i * 6 + 2, none⟩ (.slice x.b x.bl x.bn)).setCell ⟨g, i * 6 + 3, none⟩ (.slice x.q x.ql x.qn)).setCell ⟨g, i * 6 + 4, none⟩ (.int .i64 x.done)).setCell ⟨g, i * 6 + 5, none⟩ (.int .i64 x.made)) x (hearS wd.cls[i] m.frm m.list).1 := by
   obtain ⟨cs, mm, hg9⟩ := hp5.cli.ty g rfl
   obtain ⟨b, bn, q, qn, rfl, r1, r2⟩ := hx
   have hn : ∀ (e : TypeId), e ≠ 30 → ∀ k, k = g → ∀ cs' m', w5.heap[k]? ≠ some (.cells cs' e m') := by
    rintro e he k rfl cs' m' h2
    rw [hg9] at h2
    injection h2 with h2; injection h2 with _ h2
    exact he h2.symm
   exact ⟨b, bn, q, qn, rfl, r1.turn hT5 (hn _ (by decide)), r2.turn hT5 (hn _ (by decide))⟩
  refine ⟨x, (hg5.block _ (blk_lt ((hE5.block _ hs1).trans HX1.out)) (by intro e; injection e with e; omega)).trans ((hE5.block _ hs1).trans HX1.out), (hg5.block _ (blk_lt ((hE5.block _ (blk_lt HX3.out)).trans HX3.out)) (by intro e; injection e with e; omega)).trans ((hE5.block _ (blk_lt HX3.out)).trans HX3.out), hp5.put hT5 i x _ ho hx5, (Turn.ext (HE3.out.trans (hE5.mono HE3.out.size))).then hT5 (fun k hk => .inl hk)⟩
 have FIN := Lib.hid fin
 clear fin
 go_cut [20] (fun s wx => BcP w base wd i (hearS wd.cls[i] m.frm m.list).1 L ln g cc N nc xs ys wx)
 case first =>
  refine wp_region_B (fun w' => w'.cell? ⟨w.heap.size, 3, none⟩ = some (.slice (some ⟨g, 0, none⟩) xs.length cc) ∧ w'.cell? ⟨w.heap.size + 1, 0, none⟩ = some (.int .i64 m.dst) ∧ w'.cell? ⟨w.heap.size + 1, 1, none⟩ = some (.int .i64 m.frm) ∧ w'.cell? ⟨w.heap.size + 1, 2, none⟩ = some (.slice A m.list.length an) ∧ w'.cell? ⟨g, i * 6, none⟩ = some (.int .i64 xs[i].who) ∧ w'.cell? ⟨g, i * 6 + 1, none⟩ = some (.int .i64 xs[i].seen) ∧ w'.cell? ⟨g, i * 6 + 2, none⟩ = some (.slice xs[i].b xs[i].bl xs[i].bn) ∧ w'.cell? ⟨g, i * 6 + 3, none⟩ = some (.slice xs[i].q xs[i].ql xs[i].qn) ∧ w'.cell? ⟨g, i * 6 + 4, none⟩ = some (.int .i64 xs[i].done) ∧ w'.cell? ⟨g, i * 6 + 5, none⟩ = some (.int .i64 xs[i].made)) 21 (by kernel_rfl) ?_
  refine WB.take (i := 0) (v := ?_) rfl (by kernel_rfl) (by kernel_rfl) (by kernel_rfl) (by kernel_rfl) (fun _ _ _ h => h) HS.out (Or.inl ⟨by rfl, ?_⟩) ?_
  rotate_left
  ·(rintro w ⟨s0, s1, s2, s3, y0, y1, y2, y3, y4, y5⟩; go_simp; try with_reducible rfl)
  try simp only [Act.put, List.setIfInBounds_toArray, List.set_cons_zero, List.set_cons_succ]
  refine WB.take (i := 1) (v := ?_) rfl (by kernel_rfl) (by kernel_rfl) (by kernel_rfl) (by kernel_rfl) (fun _ _ _ h => h) HS.out (Or.inl ⟨by rfl, ?_⟩) ?_
  rotate_left
  ·(rintro w ⟨s0, s1, s2, s3, y0, y1, y2, y3, y4, y5⟩; go_simp; try with_reducible rfl)
  try simp only [Act.put, List.setIfInBounds_toArray, List.set_cons_zero, List.set_cons_succ]
  refine WB.take (i := 2) (v := ?_) rfl (by kernel_rfl) (by kernel_rfl) (by kernel_rfl) (by kernel_rfl) (fun _ _ _ h => h) HS.out (Or.inl ⟨by rfl, ?_⟩) ?_
  rotate_left
  ·(rintro w ⟨s0, s1, s2, s3, y0, y1, y2, y3, y4, y5⟩; go_simp; try with_reducible rfl)
  try simp only [Act.put, List.setIfInBounds_toArray, List.set_cons_zero, List.set_cons_succ]
  refine WB.take (i := 3) (v := ?_) rfl (by kernel_rfl) (by kernel_rfl) (by kernel_rfl) (by kernel_rfl) (fun _ _ _ h => h) HS.out (Or.inl ⟨by rfl, ?_⟩) ?_
  rotate_left
  ·(rintro w ⟨s0, s1, s2, s3, y0, y1, y2, y3, y4, y5⟩; go_simp; try with_reducible rfl)
  try simp only [Act.put, List.setIfInBounds_toArray, List.set_cons_zero, List.set_cons_succ]
  refine WB.take (i := 4) (v := ?_) rfl (by kernel_rfl) (by kernel_rfl) (by kernel_rfl) (by kernel_rfl) (fun _ _ _ h => h) HS.out (Or.inl ⟨by rfl, ?_⟩) ?_
  rotate_left
  ·(rintro w ⟨s0, s1, s2, s3, y0, y1, y2, y3, y4, y5⟩; go_simp; try with_reducible rfl)
  try simp only [Act.put, List.setIfInBounds_toArray, List.set_cons_zero, List.set_cons_succ]
  refine WB.take (i := 5) (v := ?_) rfl (by kernel_rfl) (by kernel_rfl) (by kernel_rfl) (by kernel_rfl) (fun _ _ _ h => h) HS.out (Or.inl ⟨by rfl, ?_⟩) ?_
  rotate_left
  ·(rintro w ⟨s0, s1, s2, s3, y0, y1, y2, y3, y4, y5⟩; go_simp; try with_reducible rfl)
  try simp only [Act.put, List.setIfInBounds_toArray, List.set_cons_zero, List.set_cons_succ]
  refine WB.take (i := 6) (v := ?_) rfl (by kernel_rfl) (by kernel_rfl) (by kernel_rfl) (by kernel_rfl) (fun _ _ _ h => h) HS.out (Or.inl ⟨by rfl, ?_⟩) ?_
  rotate_left
  ·(rintro w ⟨s0, s1, s2, s3, y0, y1, y2, y3, y4, y5⟩; go_simp; try with_reducible rfl)
  try simp only [Act.put, List.setIfInBounds_toArray, List.set_cons_zero, List.set_cons_succ]
  refine WB.take (i := 7) (v := ?_) rfl (by kernel_rfl) (by kernel_rfl) (by kernel_rfl) (by kernel_rfl) (fun _ _ _ h => h) HS.out (Or.inl ⟨by rfl, ?_⟩) ?_
  rotate_left
  ·(rintro w ⟨s0, s1, s2, s3, y0, y1, y2, y3, y4, y5⟩; go_simp; try with_reducible rfl)
  try simp only [Act.put, List.setIfInBounds_toArray, List.set_cons_zero, List.set_cons_succ]
  refine WB.take (i := 8) (v := ?_) rfl (by kernel_rfl) (by kernel_rfl) (by kernel_rfl) (by kernel_rfl) (fun _ _ _ h => h) HS.out (Or.inl ⟨by rfl, ?_⟩) ?_
  rotate_left
  ·(rintro w ⟨s0, s1, s2, s3, y0, y1, y2, y3, y4, y5⟩; go_simp; try with_reducible rfl)
  try simp only [Act.put, List.setIfInBounds_toArray, List.set_cons_zero, List.set_cons_succ]
  refine WB.take (i := 9) (v := ?_) rfl (by kernel_rfl) (by kernel_rfl) (by kernel_rfl) (by kernel_rfl) (fun _ _ _ h => h) HS.out (Or.inl ⟨by rfl, ?_⟩) ?_
  rotate_left
  ·(rintro w ⟨s0, s1, s2, s3, y0, y1, y2, y3, y4, y5⟩; go_simp; try with_reducible rfl)
  try simp only [Act.put, List.setIfInBounds_toArray, List.set_cons_zero, List.set_cons_succ]
  refine WB.take (i := 10) (v := ?_) rfl (by kernel_rfl) (by kernel_rfl) (by kernel_rfl) (by kernel_rfl) (fun _ _ _ h => h) HS.out (Or.inl ⟨by rfl, ?_⟩) ?_
  rotate_left
  ·(rintro w ⟨s0, s1, s2, s3, y0, y1, y2, y3, y4, y5⟩; go_simp; try with_reducible rfl)
  try simp only [Act.put, List.setIfInBounds_toArray, List.set_cons_zero, List.set_cons_succ]
  refine WB.take (i := 11) (v := ?_) rfl (by kernel_rfl) (by kernel_rfl) (by kernel_rfl) (by kernel_rfl) (fun _ _ _ h => h) HS.out (Or.inl ⟨by rfl, ?_⟩) ?_
  rotate_left
  ·(rintro w ⟨s0, s1, s2, s3, y0, y1, y2, y3, y4, y5⟩; go_simp; try with_reducible rfl)
  try simp only [Act.put, List.setIfInBounds_toArray, List.set_cons_zero, List.set_cons_succ]
  refine WB.take (i := 12) (v := ?_) rfl (by kernel_rfl) (by kernel_rfl) (by kernel_rfl) (by kernel_rfl) (fun _ _ _ h => h) HS.out (Or.inl ⟨by rfl, ?_⟩) ?_
  rotate_left
  ·(rintro w ⟨s0, s1, s2, s3, y0, y1, y2, y3, y4, y5⟩; go_simp; try with_reducible rfl)
  try simp only [Act.put, List.setIfInBounds_toArray, List.set_cons_zero, List.set_cons_succ]
  refine WB.take (i := 13) (v := ?_) rfl (by kernel_rfl) (by kernel_rfl) (by kernel_rfl) (by kernel_rfl) (fun _ _ _ h => h) HS.out (Or.inl ⟨by rfl, ?_⟩) ?_
  rotate_left
  ·(rintro w ⟨s0, s1, s2, s3, y0, y1, y2, y3, y4, y5⟩; go_simp; try with_reducible rfl)
  try simp only [Act.put, List.setIfInBounds_toArray, List.set_cons_zero, List.set_cons_succ]
  refine WB.take (i := 14) (v := ?_) rfl (by kernel_rfl) (by kernel_rfl) (by kernel_rfl) (by kernel_rfl) (fun _ _ _ h => h) HS.out (Or.inl ⟨by rfl, ?_⟩) ?_
  rotate_left
  ·(rintro w ⟨s0, s1, s2, s3, y0, y1, y2, y3, y4, y5⟩; go_simp; try with_reducible rfl)
  try simp only [Act.put, List.setIfInBounds_toArray, List.set_cons_zero, List.set_cons_succ]
  refine WB.take (i := 15) (v := ?_) rfl (by kernel_rfl) (by kernel_rfl) (by kernel_rfl) (by kernel_rfl) (fun _ _ _ h => h) HS.out (Or.inl ⟨by rfl, ?_⟩) ?_
  rotate_left
  ·(rintro w ⟨s0, s1, s2, s3, y0, y1, y2, y3, y4, y5⟩; go_simp; try with_reducible rfl)
  try simp only [Act.put, List.setIfInBounds_toArray, List.set_cons_zero, List.set_cons_succ]
  refine WB.one (i := 16) (by kernel_rfl) rfl (fun K hK => ?_)
  have HK := Lib.hid hK
  clear hK
  go_simp
  refine HC.out.mono ?_
  rintro r w5 ⟨v5, rfl, hct5, hb5⟩
  obtain ⟨x, rfl, hx⟩ := hct5.raw2
  have q0 := (HS.out).1
  have q1 := (HS.out).2.1
  have q2 := (HS.out).2.2.1
  have q3 := (HS.out).2.2.2.1
  have q4 := (HS.out).2.2.2.2.1
  have q5 := (HS.out).2.2.2.2.2.1
  have q6 := (HS.out).2.2.2.2.2.2.1
  have q7 := (HS.out).2.2.2.2.2.2.2.1
  have q8 := (HS.out).2.2.2.2.2.2.2.2.1
  have q9 := (HS.out).2.2.2.2.2.2.2.2.2
  have HS5 : Hid (w5.cell? ⟨w.heap.size, 3, none⟩ = some (.slice (some ⟨g, 0, none⟩) xs.length cc) ∧ w5.cell? ⟨w.heap.size + 1, 0, none⟩ = some (.int .i64 m.dst) ∧ w5.cell? ⟨w.heap.size + 1, 1, none⟩ = some (.int .i64 m.frm) ∧ w5.cell? ⟨w.heap.size + 1, 2, none⟩ = some (.slice A m.list.length an) ∧ w5.cell? ⟨g, i * 6, none⟩ = some (.int .i64 xs[i].who) ∧ w5.cell? ⟨g, i * 6 + 1, none⟩ = some (.int .i64 xs[i].seen) ∧ w5.cell? ⟨g, i * 6 + 2, none⟩ = some (.slice xs[i].b xs[i].bl xs[i].bn) ∧ w5.cell? ⟨g, i * 6 + 3, none⟩ = some (.slice xs[i].q xs[i].ql xs[i].qn) ∧ w5.cell? ⟨g, i * 6 + 4, none⟩ = some (.int .i64 xs[i].done) ∧ w5.cell? ⟨g, i * 6 + 5, none⟩ = some (.int .i64 xs[i].made)) := Lib.hid ⟨(hb5.cell (p := ⟨w.heap.size, 3, none⟩) (by first | exact hs1 | exact hs2)).trans q0, (hb5.cell (p := ⟨w.heap.size + 1, 0, none⟩) (by first | exact hs1 | exact hs2)).trans q1, (hb5.cell (p := ⟨w.heap.size + 1, 1, none⟩) (by first | exact hs1 | exact hs2)).trans q2, (hb5.cell (p := ⟨w.heap.size + 1, 2, none⟩) (by first | exact hs1 | exact hs2)).trans q3, (hb5.cell (p := ⟨g, i * 6, none⟩) hbg).trans q4, (hb5.cell (p := ⟨g, i * 6 + 1, none⟩) hbg).trans q5, (hb5.cell (p := ⟨g, i * 6 + 2, none⟩) hbg).trans q6, (hb5.cell (p := ⟨g, i * 6 + 3, none⟩) hbg).trans q7, (hb5.cell (p := ⟨g, i * 6 + 4, none⟩) hbg).trans q8, (hb5.cell (p := ⟨g, i * 6 + 5, none⟩) hbg).trans q9⟩
  have HX := Lib.hid hx; have HB5 := Lib.hid hb5
  clear q0 q1 q2 q3 q4 q5 q6 q7 q8 q9 hx hct5
  have hf5 : ∀ o, w5.frozen? ⟨g, o, none⟩ = false := fun o => (hb5.frozen (p := ⟨g, o, none⟩) hbg).trans (hfz o)
  clear hfz hb5
  refine HK.out _ _ ⟨fun _ => HS5.out, ?_⟩
  clear HK K HS
  refine WB.takeP (i := 17) (v := ?_) rfl (by kernel_rfl) (by kernel_rfl) (by kernel_rfl) (by kernel_rfl) (fun _ _ _ h => h) HS5.out (Or.inl ⟨by rfl, ?_⟩) ?_
  rotate_left
  ·(rintro w -; go_simp; try with_reducible rfl)
  try simp only [Act.put, List.setIfInBounds_toArray, List.set_cons_zero, List.set_cons_succ]
  refine WB.takeP (i := 18) (v := ?_) rfl (by kernel_rfl) (by kernel_rfl) (by kernel_rfl) (by kernel_rfl) (fun _ _ _ h => h) HS5.out (Or.inl ⟨by rfl, ?_⟩) ?_
  rotate_left
  ·(rintro w -; go_simp; try with_reducible rfl)
  try simp only [Act.put, List.setIfInBounds_toArray, List.set_cons_zero, List.set_cons_succ]
  refine WB.takeP (i := 19) (v := ?_) rfl (by kernel_rfl) (by kernel_rfl) (by kernel_rfl) (by kernel_rfl) (fun _ _ _ h => h) HS5.out (Or.inl ⟨by rfl, ?_⟩) ?_
  rotate_left
  ·(rintro w -; go_simp; try with_reducible rfl)
  try simp only [Act.put, List.setIfInBounds_toArray, List.set_cons_zero, List.set_cons_succ]
  refine WB.takeP (i := 20) (v := ?_) rfl (by kernel_rfl) (by kernel_rfl) (by kernel_rfl) (by kernel_rfl) (fun _ _ _ h => h) HS5.out (Or.inl ⟨by rfl, ?_⟩) ?_
  rotate_left
  ·(rintro w -; go_simp; try with_reducible rfl)
  try simp only [Act.put, List.setIfInBounds_toArray, List.set_cons_zero, List.set_cons_succ]
  refine WB.one (i := 21) (by kernel_rfl) rfl (fun K hK => ?_)
  have HK := Lib.hid hK
  clear hK
  have q0 := (HS5.out).1
  have q1 := (HS5.out).2.1
  have q2 := (HS5.out).2.2.1
  have q3 := (HS5.out).2.2.2.1
  have q4 := (HS5.out).2.2.2.2.1
  have q5 := (HS5.out).2.2.2.2.2.1
  have q6 := (HS5.out).2.2.2.2.2.2.1
  have q7 := (HS5.out).2.2.2.2.2.2.2.1
  have q8 := (HS5.out).2.2.2.2.2.2.2.2.1
  have q9 := (HS5.out).2.2.2.2.2.2.2.2.2
  clear HS5
  go_simp
  refine HK.out _ _ ⟨fun h => (no_late h (by kernel_rfl)).elim, ?_⟩
  clear HK K
  refine WB.done (by kernel_rfl) ?_
  go_wp2_with fail
  go_meet
  exact FIN.out _ _ HX.out HB5.out
 case rest =>
  obtain ⟨x, hbx, hzx, hp9, hT9⟩ := hcut
  clear hfz HS HC FIN
  obtain ⟨b0, b1, b2, b3, b4, bf⟩ := five_cells hbx
  obtain ⟨d0, d1, d2, d3, d4, df⟩ := five_cells hzx
  have hz := put5_at (.slice L wd.log.length ln) (.int .i64 wd.safe) (.bool wd.up) (.slice (some ⟨g, 0, none⟩) xs.length cc) (.slice N ys.length nc) hzx
  have hk : KeepT wc (put5 wc (w.heap.size + 1 + 1) (.slice L wd.log.length ln) (.int .i64 wd.safe) (.bool wd.up) (.slice (some ⟨g, 0, none⟩) xs.length cc) (.slice N ys.length nc)) := KeepT.grown (gset (gset (gset (gset (gset_any _ _ _ _) _ _) _ _) _ _) _ _) hzx (by decide) (by decide) (by decide) (by decide)
  have hwR : w.heap.size ≤ w.heap.size + 1 + 1 := by omega
  have hT : Turn (OwnB (some ⟨g, 0, none⟩) none) w (put5 wc (w.heap.size + 1 + 1) (.slice L wd.log.length ln) (.int .i64 wd.safe) (.bool wd.up) (.slice (some ⟨g, 0, none⟩) xs.length cc) (.slice N ys.length nc)) := (((((hT9.mono (fun k hk => .inl (by rw [hk]; rfl))).setNew hwR 0 _).setNew hwR 1 _).setNew hwR 2 _).setNew hwR 3 _).setNew hwR 4 _
  have HZ := Lib.hid hz; have HP9 := Lib.hid (hp9.keep hk); have HT := Lib.hid hT
  clear hz hk hT hp9 hT9
  go_wp2_with fail
  obtain ⟨k0, k1, k2, k3, k4, kf⟩ := five_cells HZ.out
  refine bodyPost_ret (v := .agg #[.slice L wd.log.length ln, .int .i64 wd.safe, .bool wd.up, .slice (some ⟨g, 0, none⟩) xs.length cc, .slice N ys.length nc]) ?_ rfl ?_
  ·simp [results, Tryd.f120, go_sem, k0, k1, k2, k3, k4]
  ·exact ⟨xs.set i x, by rw [List.length_set], HP9.out, HT.out⟩
open Go.RowKit Go.Lib
def bringW (w : Wd) (m : Lt) : Wd :=
 if m.dst = 0 then (match m.list[0]? with | some e => { w with log := (srvS w.log w.up e).1 } | none => w)
 else (match w.cls[(m.dst - 1).toNat]? with | some c => { w with cls := w.cls.set (m.dst - 1).toNat (hearS c m.frm m.list).1 } | none => w)
theorem set_cls_ok {w : Wd} (h : WInv w) (i : Nat) {c : Client} (hc : clientOk c = true) : WInv { w with cls := w.cls.set i c } :=
 ⟨h.log, h.len, h.safe0, h.safe1, by show (w.cls.set i c).length = 3; rw [List.length_set]; exact h.three, fun x hx => by
  rcases List.mem_or_eq_of_mem_set hx with h1 | h1
  ·exact h.cls x h1
  ·rw [h1]; exact hc, h.net, h.nets⟩
theorem set_log_ok {w : Wd} (h : WInv w) {l : List Entry} (h1 : ∀ e ∈ l, entryOk e = true) (h2 : l.length ≤ 40) (h3 : w.safe ≤ l.length) : WInv { w with log := l } :=
 ⟨h1, h2, h.safe0, h3, h.three, h.cls, h.net, h.nets⟩
theorem bringW_ok {w : Wd} {m : Lt} (h : WInv w) (hm : LInv m) : WInv (bringW w m) := by
 unfold bringW
 split
 ·split
  ·rename_i e he
   have h9 := srvS_ok (up := w.up) h.len h.log (hm.2.2.1 e (List.mem_of_getElem? he))
   have hs := h.safe1
   exact set_log_ok h h9.2.2 h9.1 (by omega)
  ·exact h
 ·split
  ·rename_i c hc
   exact set_cls_ok h _ (hearS_ok (h.cls c (List.mem_of_getElem? hc)) hm.2.1.1 hm.2.2.1)
  ·exact h
theorem bringW_same (w : Wd) (m : Lt) : (bringW w m).safe = w.safe ∧ (bringW w m).up = w.up ∧ (bringW w m).nets = w.nets := by
 unfold bringW
 split <;> split <;> exact ⟨rfl, rfl, rfl⟩
theorem bring_s (wd : Wd) (m : Lt) (base : Nat) (L : Option Addr) (ln : Nat) (C : Option Addr) (cc : Nat) (N : Option Addr) (nc : Nat) (xs : List RC) (ys : List RL) (A : Option Addr) (an : Nat) (w : World) (hp : WP w base wd L ln C cc N nc xs ys) (hm : RdT 44 w A an m.list) (hb : base ≤ w.heap.size) (hw : WInv wd) (hm0 : LInv m) :
  Calls Tryd.prog 120 #[.agg (cW wd L ln C xs cc N ys nc), .agg (cL m A an)] w
   fun x w' => ∃ (L' : Option Addr) (ln' : Nat) (xs' : List RC), x = .returned (.agg #[.slice L' (bringW wd m).log.length ln', .int .i64 wd.safe, .bool wd.up, .slice C xs'.length cc, .slice N ys.length nc]) ∧ WP w' base (bringW wd m) L' ln' C cc N nc xs' ys ∧ Turn (OwnB C none) w w' := by
 have hlen := hw.len
 by_cases hd : m.dst = 0
 ·have hl0 := hm0.2.2.2.2 hd
  have hw0 : bringW wd m = { wd with log := (srvS wd.log wd.up (m.list[0]'hl0)).1 } := by
   unfold bringW; rw [if_pos hd, List.getElem?_eq_getElem hl0]
  refine (bring0_s wd m base L ln C cc N nc xs ys A an w hp hm hb hd hl0 hlen).mono ?_
  rintro x w' ⟨L', n', rfl, h1, h2⟩
  rw [hw0]
  exact ⟨L', n', xs, rfl, h1, Turn.ext h2⟩
 ·have hr := hm0.1
  obtain ⟨i, hi⟩ : ∃ i : Nat, i = (m.dst - 1).toNat := ⟨_, rfl⟩
  have hdi : m.dst = (i : Int) + 1 := by omega
  have h3 := hw.three
  have hi2 : i < wd.cls.length := by omega
  have hlx := hp.cls.1
  obtain ⟨g, rfl⟩ := hp.cli.at0w (by omega)
  have hw0 : bringW wd m = { wd with cls := wd.cls.set i (hearS wd.cls[i] m.frm m.list).1 } := by
   unfold bringW; rw [if_neg hd, ← hi, List.getElem?_eq_getElem hi2]
  refine (bring1g_s wd m base L ln g cc N nc xs ys A an w hp hm hb i hdi (by omega) hi2 (by omega) (hw.cls _ (List.getElem_mem hi2)) hm0).mono ?_
  rintro x w' ⟨xs', rfl, h1, h2⟩
  rw [hw0]
  exact ⟨L, ln, xs', rfl, h1, h2⟩
end Go.Proofs.YtjhbbgeebobcpaaDoor
