/- Worlds: how they lie in memory, and what is kept of them. Walks of the reference: a new server, somebody new. Walk of the reference: a new world. -/
import Derived.Test.YtjhbbgeebobcpaaDoorQW
import Derived.Test.YtjhbbgeebobcpaaDoorRB
import Derived.Deep.DeepCutAuto
import Derived.Deep.CutBlock
namespace Go.Proofs.YtjhbbgeebobcpaaDoor
open Go.RowKit Go.Lib
set_option linter.unusedVariables false

/-- A client's cells in a slice. -/
structure RC where
  who : Int
  seen : Int
  b : Option Addr
  bl : Nat
  bn : Nat
  q : Option Addr
  ql : Nat
  qn : Nat
  done : Int
  made : Int
/-- A letter's cells in a slice. -/
structure RL where
  dst : Int
  frm : Int
  a : Option Addr
  n : Nat
  c : Nat
instance : Flat RC := ⟨fun x => [.int .i64 x.who, .int .i64 x.seen, .slice x.b x.bl x.bn, .slice x.q x.ql x.qn, .int .i64 x.done, .int .i64 x.made], 6, fun _ => rfl, fun _ u hu => by simp at hu; rcases hu with rfl | rfl | rfl | rfl | rfl | rfl <;> rfl, by omega, fun _ => True⟩
instance : Flat RL := ⟨fun x => [.int .i64 x.dst, .int .i64 x.frm, .slice x.a x.n x.c], 3, fun _ => rfl, fun _ u hu => by simp at hu; rcases hu with rfl | rfl | rfl <;> rfl, by omega, fun _ => True⟩
theorem cli_info : ∃ i : TypeInfo, Tryd.prog.info? 30 = some i ∧ i.zero = some (.agg #[.int .i64 0, .int .i64 0, .slice none 0 0, .slice none 0 0, .int .i64 0, .int .i64 0]) ∧ i.size = 6 ∧ i.bytes = 80 := info_parts (by kernel_rfl)
theorem let_info : ∃ i : TypeInfo, Tryd.prog.info? 161 = some i ∧ i.zero = some (.agg #[.int .i64 0, .int .i64 0, .slice none 0 0]) ∧ i.size = 3 ∧ i.bytes = 40 := info_parts (by kernel_rfl)
theorem el_cli : El RC 30 90 := ⟨by kernel_rfl, info_of cli_info (by decide) rfl rfl⟩
theorem el_let : El RL 161 91 := ⟨by kernel_rfl, info_of let_info (by decide) rfl rfl⟩
theorem rc_at {w : World} {A : Option Addr} {c : Nat} {l : List RC} (h : Rd w A c l) (k : Nat) (hk : k < l.length) :
    ∃ b off, A = some ⟨b, off, none⟩ ∧ b < w.heap.size ∧ w.cell? ⟨b, off + k * 6, none⟩ = some (.int .i64 l[k].who) ∧ w.cell? ⟨b, off + k * 6 + 1, none⟩ = some (.int .i64 l[k].seen) ∧ w.cell? ⟨b, off + k * 6 + 2, none⟩ = some (.slice l[k].b l[k].bl l[k].bn) ∧
      w.cell? ⟨b, off + k * 6 + 3, none⟩ = some (.slice l[k].q l[k].ql l[k].qn) ∧ w.cell? ⟨b, off + k * 6 + 4, none⟩ = some (.int .i64 l[k].done) ∧ w.cell? ⟨b, off + k * 6 + 5, none⟩ = some (.int .i64 l[k].made) := by
  obtain ⟨b, off, rfl, hb, hc⟩ := h.at_ k hk
  exact ⟨b, off, rfl, hb, hc 0 _ rfl, hc 1 _ rfl, hc 2 _ rfl, hc 3 _ rfl, hc 4 _ rfl, hc 5 _ rfl⟩
theorem rl_at {w : World} {A : Option Addr} {c : Nat} {l : List RL} (h : Rd w A c l) (k : Nat) (hk : k < l.length) :
    ∃ b off, A = some ⟨b, off, none⟩ ∧ b < w.heap.size ∧ w.cell? ⟨b, off + k * 3, none⟩ = some (.int .i64 l[k].dst) ∧ w.cell? ⟨b, off + k * 3 + 1, none⟩ = some (.int .i64 l[k].frm) ∧ w.cell? ⟨b, off + k * 3 + 2, none⟩ = some (.slice l[k].a l[k].n l[k].c) := by
  obtain ⟨b, off, rfl, hb, hc⟩ := h.at_ k hk
  exact ⟨b, off, rfl, hb, hc 0 _ rfl, hc 1 _ rfl, hc 2 _ rfl⟩

/-! ### lists side by side -/
def All2 {α β : Type} (P : α → β → Prop) (xs : List α) (cs : List β) : Prop := xs.length = cs.length ∧ ∀ (i : Nat) (h : i < xs.length) (h' : i < cs.length), P xs[i] cs[i]
section
variable {α β : Type} {P Q : α → β → Prop} {xs ys : List α} {cs ds : List β}
theorem All2.imp (h : All2 P xs cs) (hi : ∀ x c, P x c → Q x c) : All2 Q xs cs := ⟨h.1, fun i h1 h2 => hi _ _ (h.2 i h1 h2)⟩
theorem All2.nil : All2 P [] [] := ⟨rfl, fun i h _ => by simp at h⟩
theorem All2.append (h : All2 P xs cs) (k : All2 P ys ds) : All2 P (xs ++ ys) (cs ++ ds) := by
  refine ⟨by rw [List.length_append, List.length_append, h.1, k.1], fun i h1 h2 => ?_⟩
  by_cases hi : i < xs.length
  · rw [List.getElem_append_left hi, List.getElem_append_left (by rw [← h.1]; exact hi)]
    exact h.2 i _ _
  · rw [List.getElem_append_right (by omega), List.getElem_append_right (by rw [← h.1]; omega)]
    have := k.2 (i - xs.length) (by rw [List.length_append] at h1; omega) (by rw [List.length_append, ← h.1] at h2; omega)
    simpa only [h.1] using this
theorem All2.one {x : α} {c : β} (h : P x c) : All2 P [x] [c] := ⟨rfl, fun i h1 _ => by
  have : i = 0 := by simpa using h1
  subst this; exact h⟩
theorem All2.set (h : All2 P xs cs) (k : Nat) {x : α} {c : β} (hx : P x c) : All2 P (xs.set k x) (cs.set k c) := by
  refine ⟨by rw [List.length_set, List.length_set, h.1], fun i h1 h2 => ?_⟩
  rw [List.length_set] at h1 h2
  by_cases hi : k = i
  · subst hi; rw [List.getElem_set_self, List.getElem_set_self]; exact hx
  · rw [List.getElem_set_ne hi, List.getElem_set_ne hi]; exact h.2 i h1 h2
theorem All2.take (h : All2 P xs cs) (k : Nat) : All2 P (xs.take k) (cs.take k) := by
  refine ⟨by rw [List.length_take, List.length_take, h.1], fun i h1 h2 => ?_⟩
  rw [List.getElem_take, List.getElem_take]; exact h.2 i _ _
theorem All2.drop (h : All2 P xs cs) (k : Nat) : All2 P (xs.drop k) (cs.drop k) := by
  refine ⟨by rw [List.length_drop, List.length_drop, h.1], fun i h1 h2 => ?_⟩
  rw [List.getElem_drop, List.getElem_drop]; exact h.2 _ _ _
end

/-! ### what stays -/
/-- All blocks but those of S stay. -/
structure Turn (S : Nat → Prop) (w w' : World) : Prop where
  os : w'.os = w.os
  tape : w'.tape = w.tape
  output : w'.output = w.output
  size : w.heap.size ≤ w'.heap.size
  block : ∀ k, k < w.heap.size → ¬ S k → w'.heap[k]? = w.heap[k]?
theorem Turn.refl (S : Nat → Prop) (w : World) : Turn S w w := ⟨rfl, rfl, rfl, Nat.le_refl _, fun _ _ _ => rfl⟩
theorem Turn.ext {S : Nat → Prop} {w w' : World} (h : Ext w w') : Turn S w w' := ⟨h.os, h.tape, h.output, h.size, fun k hk _ => h.block k hk⟩
theorem Turn.then {S S' : Nat → Prop} {a b c : World} (h : Turn S a b) (k : Turn S' b c) (hs : ∀ i, S' i → S i ∨ a.heap.size ≤ i) : Turn S a c :=
  ⟨k.os.trans h.os, k.tape.trans h.tape, k.output.trans h.output, Nat.le_trans h.size k.size, fun i hi hn => (k.block i (Nat.lt_of_lt_of_le hi h.size) (fun e => by rcases hs i e with h1 | h1; exact hn h1; omega)).trans (h.block i hi hn)⟩
theorem Turn.thenE {S : Nat → Prop} {a b c : World} (h : Turn S a b) (k : Ext b c) : Turn S a c := h.then (S' := S) (Turn.ext k) (fun i hi => .inl hi)
theorem Turn.grown {S : Nat → Prop} {w w' : World} {row : Option Nat} (h : w.grownBy w' row) (hr : ∀ k, row = some k → S k) : Turn S w w' :=
  ⟨h.os, h.tape, h.output, h.size, fun k hk hn => h.block k hk (fun e => hn (hr k e.symm))⟩
theorem Turn.below {S : Nat → Prop} {B : Nat} {w0 w w' : World} (h : Turn S w w') (h0 : Below B w0 w) (hS : ∀ k, S k → B ≤ k) (hs : B ≤ w.heap.size) : Below B w0 w' :=
  ⟨h.os.trans h0.os, h.tape.trans h0.tape, h.output.trans h0.output, Nat.le_trans h0.size h.size, fun k hk => (h.block k (by omega) (fun e => by have := hS k e; omega)).trans (h0.block k hk)⟩
theorem Turn.mono {S S' : Nat → Prop} {w w' : World} (h : Turn S w w') (hs : ∀ k, S k → S' k) : Turn S' w w' := ⟨h.os, h.tape, h.output, h.size, fun k hk hn => h.block k hk (fun e => hn (hs k e))⟩

/-- The blocks of rows, entries, clients and letters stay. -/
def KeepT (w w' : World) : Prop := ∀ (k : Nat) (cs : Array Value) (ty : TypeId) (m : Nat × Nat), w.heap[k]? = some (.cells cs ty m) → (ty = 47 ∨ ty = 44 ∨ ty = 30 ∨ ty = 161) → w'.heap[k]? = some (.cells cs ty m)
theorem KeepT.ext {w w' : World} (h : Ext w w') : KeepT w w' := fun k cs ty m hk _ => (h.block k (blk_lt hk)).trans hk
theorem KeepT.trans {a b c : World} (h : KeepT a b) (k : KeepT b c) : KeepT a c := fun i cs ty m hi ht => k i cs ty m (h i cs ty m hi ht) ht
theorem KeepT.grown {w w' : World} {r : Nat} {cs0 : Array Value} {ty0 : TypeId} {m0 : Nat × Nat} (h : w.grownBy w' (some r)) (hr : w.heap[r]? = some (.cells cs0 ty0 m0)) (h1 : ty0 ≠ 47) (h2 : ty0 ≠ 44) (h3 : ty0 ≠ 30) (h4 : ty0 ≠ 161) : KeepT w w' := by
  intro k cs ty m hk ht
  refine (h.block k (blk_lt hk) (fun e => ?_)).trans hk
  injection e with e
  subst e
  rw [hr] at hk
  injection hk with hk; injection hk with _ hk
  subst hk
  rcases ht with h | h | h | h
  · exact h1 h
  · exact h2 h
  · exact h3 h
  · exact h4 h
section
variable {α : Type} [Flat α] {e : TypeId} {w w' : World} {A : Option Addr} {c : Nat} {l : List α}
/-- Where its block stays, it can be read still. -/
theorem RdT.blk (h : RdT e w A c l) (hb : 0 < l.length → ∀ bb off cs m, A = some ⟨bb, off, none⟩ → w.heap[bb]? = some (.cells cs e m) → w'.heap[bb]? = w.heap[bb]?) : RdT e w' A c l := by
  refine ⟨⟨h.1.1, h.1.2.1, fun h0 => ?_, h.1.2.2.2⟩, fun h0 bb off e0 => ?_⟩
  · obtain ⟨bb, off, rfl, hh⟩ := h.1.2.2.1 h0
    obtain ⟨cs, m, h1⟩ := h.2 h0 bb off rfl
    exact ⟨bb, off, rfl, fun j v hv => (World.cell?_of_block (hb h0 bb off cs m rfl h1)).trans (hh j v hv)⟩
  · obtain ⟨cs, m, h1⟩ := h.2 h0 bb off e0
    exact ⟨cs, m, (hb h0 bb off cs m e0 h1).trans h1⟩
theorem RdT.keep (h : RdT e w A c l) (hk : KeepT w w') (he : e = 47 ∨ e = 44 ∨ e = 30 ∨ e = 161) : RdT e w' A c l :=
  h.blk fun _ bb _ cs m _ h1 => (hk bb cs e m h1 he).trans h1.symm
theorem RdT.turn {S : Nat → Prop} (h : RdT e w A c l) (ht : Turn S w w') (hs : ∀ k, S k → ∀ cs m, w.heap[k]? ≠ some (.cells cs e m)) : RdT e w' A c l :=
  h.blk fun _ bb _ cs m _ h1 => ht.block bb (blk_lt h1) (fun e0 => hs bb e0 cs m h1)
theorem Own.keep {base : Nat} {v : Value} (h : Own e w base v l) (hk : KeepT w w') (he : e = 47 ∨ e = 44 ∨ e = 30 ∨ e = 161) : Own e w' base v l := by
  refine ⟨⟨h.1.1, ?_⟩, h.2⟩
  rcases h.1.2 with h1 | ⟨g, cap, cur, h1, h2, h3, h4⟩
  · exact .inl h1
  · exact .inr ⟨g, cap, cur, h1, h2, hk g _ _ _ h3 he, h4⟩
theorem Own.turn {S : Nat → Prop} {base : Nat} {v : Value} (h : Own e w base v l) (ht : Turn S w w') (hs : ∀ k, v.ownBlock = some k → ¬ S k) : Own e w' base v l := by
  refine ⟨⟨h.1.1, ?_⟩, h.2⟩
  rcases h.1.2 with h1 | ⟨g, cap, cur, h1, h2, h3, h4⟩
  · exact .inl h1
  · exact .inr ⟨g, cap, cur, h1, h2, (ht.block g (blk_lt h3) (hs g (by rw [h1]; rfl))).trans h3, h4⟩
/-- The block that is owned has the elements' type. -/
theorem Own.ty {base : Nat} {v : Value} (h : Own e w base v l) (k : Nat) (hk : v.ownBlock = some k) : ∃ cs m, w.heap[k]? = some (.cells cs e m) := by
  rcases h.1.2 with ⟨rfl, _⟩ | ⟨g, cap, cur, rfl, _, h3, _⟩
  · cases hk
  · simp only [Value.ownBlock, Option.some.injEq] at hk
    subst hk; exact ⟨_, _, h3⟩
end

/-! ### worlds -/
structure Lt where
  dst : Int
  frm : Int
  list : List Entry
structure Wd where
  log : List Entry
  safe : Int
  up : Bool
  cls : List Client
  nets : List Lt
def RcOk (W : World) (x : RC) (c : Client) : Prop := ∃ b bn q qn, x = ⟨c.who, c.seen, b, c.base.length, bn, q, c.wait.length, qn, c.done, c.made⟩ ∧ RdT 47 W b bn c.base ∧ RdT 44 W q qn c.wait
def LtOk (W : World) (x : RL) (m : Lt) : Prop := ∃ a n, x = ⟨m.dst, m.frm, a, m.list.length, n⟩ ∧ RdT 44 W a n m.list
/-- A world's parts: the log's slice, the clients' and the letters'. -/
structure WP (W : World) (base : Nat) (w : Wd) (L : Option Addr) (ln : Nat) (C : Option Addr) (cc : Nat) (N : Option Addr) (nc : Nat) (xs : List RC) (ys : List RL) : Prop where
  log : RdT 44 W L ln w.log
  cli : Own 30 W base (.slice C xs.length cc) xs
  let_ : Own 161 W base (.slice N ys.length nc) ys
  cls : All2 (RcOk W) xs w.cls
  nets : All2 (LtOk W) ys w.nets
/-- A value that is a world. -/
def WV (W : World) (base : Nat) (w : Wd) (v : Value) : Prop :=
  ∃ L ln C cc N nc xs ys, v = .agg #[.slice L w.log.length ln, .int .i64 w.safe, .bool w.up, .slice C xs.length cc, .slice N ys.length nc] ∧ WP W base w L ln C cc N nc xs ys
theorem RcOk.keep {W W' : World} {x : RC} {c : Client} (h : RcOk W x c) (hk : KeepT W W') : RcOk W' x c := by
  obtain ⟨b, bn, q, qn, rfl, h1, h2⟩ := h
  exact ⟨b, bn, q, qn, rfl, h1.keep hk (.inl rfl), h2.keep hk (.inr (.inl rfl))⟩
theorem LtOk.keep {W W' : World} {x : RL} {m : Lt} (h : LtOk W x m) (hk : KeepT W W') : LtOk W' x m := by
  obtain ⟨a, n, rfl, h1⟩ := h
  exact ⟨a, n, rfl, h1.keep hk (.inr (.inl rfl))⟩
theorem WP.keep {W W' : World} {base : Nat} {w : Wd} {L C N : Option Addr} {ln cc nc : Nat} {xs : List RC} {ys : List RL} (h : WP W base w L ln C cc N nc xs ys) (hk : KeepT W W') : WP W' base w L ln C cc N nc xs ys :=
  ⟨h.log.keep hk (.inr (.inl rfl)), h.cli.keep hk (.inr (.inr (.inl rfl))), h.let_.keep hk (.inr (.inr (.inr rfl))), h.cls.imp (fun _ _ h => h.keep hk), h.nets.imp (fun _ _ h => h.keep hk)⟩
theorem WV.keep {W W' : World} {base : Nat} {w : Wd} {v : Value} (h : WV W base w v) (hk : KeepT W W') : WV W' base w v := by
  obtain ⟨L, ln, C, cc, N, nc, xs, ys, rfl, hp⟩ := h
  exact ⟨L, ln, C, cc, N, nc, xs, ys, rfl, hp.keep hk⟩
theorem WP.ext {W W' : World} {base : Nat} {w : Wd} {L C N : Option Addr} {ln cc nc : Nat} {xs : List RC} {ys : List RL} (h : WP W base w L ln C cc N nc xs ys) (hb : Ext W W') : WP W' base w L ln C cc N nc xs ys := h.keep (KeepT.ext hb)
theorem WV.ext {W W' : World} {base : Nat} {w : Wd} {v : Value} (h : WV W base w v) (hb : Ext W W') : WV W' base w v := h.keep (KeepT.ext hb)
/-- The client at a place. -/
theorem WP.ct {W : World} {base : Nat} {w : Wd} {L C N : Option Addr} {ln cc nc : Nat} {xs : List RC} {ys : List RL} (h : WP W base w L ln C cc N nc xs ys) (k : Nat) (hk : k < xs.length) (hk' : k < w.cls.length) :
    CT W w.cls[k] (.agg #[.int .i64 xs[k].who, .int .i64 xs[k].seen, .slice xs[k].b xs[k].bl xs[k].bn, .slice xs[k].q xs[k].ql xs[k].qn, .int .i64 xs[k].done, .int .i64 xs[k].made]) := by
  obtain ⟨b, bn, q, qn, e, h1, h2⟩ := h.cls.2 k hk hk'
  rw [e]
  exact ⟨b, bn, q, qn, rfl, h1, h2⟩

/-! ### what is kept of a world -/
def LInv (m : Lt) : Prop := (0 ≤ m.dst ∧ m.dst ≤ 3) ∧ (0 ≤ m.frm ∧ m.frm ≤ 40) ∧ (∀ e ∈ m.list, entryOk e = true) ∧ m.list.length ≤ 40 ∧ (m.dst = 0 → 0 < m.list.length)
structure WInv (w : Wd) : Prop where
  log : ∀ e ∈ w.log, entryOk e = true
  len : w.log.length ≤ 40
  safe0 : 0 ≤ w.safe
  safe1 : w.safe ≤ w.log.length
  three : w.cls.length = 3
  cls : ∀ c ∈ w.cls, clientOk c = true
  net : w.nets.length ≤ 12
  nets : ∀ m ∈ w.nets, LInv m
end Go.Proofs.YtjhbbgeebobcpaaDoor
namespace Go.Proofs.YtjhbbgeebobcpaaDoor
open Go.RowKit Go.Lib
set_option linter.unusedVariables false

set_option maxRecDepth 100000 in
theorem serverNew_s (w : World) :
    Calls Tryd.prog 111 #[] w fun x w' => ∃ L n, x = .returned (.agg #[.slice L 0 n, .int .i64 0, .bool true]) ∧ RdT 44 w' L n ([] : List Entry) ∧ Ext w w' := by
  have hz := (two_new w (.cells #[.slice (some ⟨w.heap.size + 1, 0, none⟩) 0 0, .int .i64 0, .bool true] 89) (.cells #[] 44)).1
  have hE : Ext w ((w.alloc (.cells #[.slice (some ⟨w.heap.size + 1, 0, none⟩) 0 0, .int .i64 0, .bool true] 89)).alloc (.cells #[] 44)) := ((Below.refl _ w).alloc (Nat.le_refl _) _).alloc (by rw [alloc_sz]; omega) _
  have HE := Lib.hid hE
  clear hE
  go_enter Tryd.func111, Tryd.ntmps111
  go_wp2_with fail
  obtain ⟨k0, k1, k2, kf⟩ := tri_cells hz
  refine bodyPost_ret (v := .agg #[.slice (some ⟨w.heap.size + 1, 0, none⟩) 0 0, .int .i64 0, .bool true]) ?_ rfl ?_
  · simp [results, Tryd.f111, go_sem]
  · exact ⟨_, _, rfl, ⟨⟨by simp, by simp, fun h => by simp at h, by simp⟩, fun h => by simp at h⟩, HE.out⟩

set_option maxRecDepth 100000 in
theorem clientNewS_s (who : Int) (w : World) (h : 1 ≤ who ∧ who ≤ 3) :
    Calls Tryd.prog 112 #[.int .i64 who] w fun x w' => ∃ v, x = .returned (.tuple #[v, .bool true]) ∧ CT w' ⟨who, 0, treeNew, [], 0, 0⟩ v ∧ Ext w w' := by
  have HI := Lib.hid (fun W => in_c who 1 3 W)
  have hin : inR who 1 3 = true := by unfold inR; rw [decide_eq_true_eq]; exact h
  rw [hin] at HI
  go_enter Tryd.func112, Tryd.ntmps112
  go_wp2_with fail
  refine (HI.out _).mono ?_
  rintro x w1 ⟨rfl, rfl⟩
  go_wp2_with fail
  refine (new_s _).mono ?_
  rintro x w2 ⟨v2, rfl, ho, hb2⟩
  obtain ⟨A3, n3, rfl, -⟩ := ho.rd
  have hx := (hb2.block w.heap.size (by rw [alloc_sz]; omega)).trans (World.alloc_heap_new w (.cells #[.int .i64 0, .int .i64 0, .slice none 0 0, .slice none 0 0, .int .i64 0, .int .i64 0] 30))
  obtain ⟨d0, d1, d2, d3, d4, d5, df⟩ := six_cells hx
  have HX := Lib.hid hx; have HO := Lib.hid ho; have hlt := blk_lt hx
  have HE := Lib.hid (((Below.refl w.heap.size w).alloc (Nat.le_refl _) (.cells #[.int .i64 0, .int .i64 0, .slice none 0 0, .slice none 0 0, .int .i64 0, .int .i64 0] 30)).trans (hb2.mono (by rw [alloc_sz]; omega)))
  clear hx ho hb2 HI hin
  go_wp2_with fail
  have hz6 := put6_at (.int .i64 who) (.int .i64 0) (.slice A3 treeNew.length n3) (.slice (some ⟨w2.heap.size, 0, none⟩) 0 0) (.int .i64 0) (.int .i64 0) HX.out
  have hz := (Below.heap_alloc (put6 w2 w.heap.size (.int .i64 who) (.int .i64 0) (.slice A3 treeNew.length n3) (.slice (some ⟨w2.heap.size, 0, none⟩) 0 0) (.int .i64 0) (.int .i64 0)) (.cells #[] 44) w.heap.size (by rw [put6_size]; exact hlt)).trans hz6
  have hA : Ext (put6 w2 w.heap.size (.int .i64 who) (.int .i64 0) (.slice A3 treeNew.length n3) (.slice (some ⟨w2.heap.size, 0, none⟩) 0 0) (.int .i64 0) (.int .i64 0)) ((put6 w2 w.heap.size (.int .i64 who) (.int .i64 0) (.slice A3 treeNew.length n3) (.slice (some ⟨w2.heap.size, 0, none⟩) 0 0) (.int .i64 0) (.int .i64 0)).alloc (.cells #[] 44)) := (Below.refl _ _).alloc (Nat.le_refl _) _
  have hE := (put6_below (.int .i64 who) (.int .i64 0) (.slice A3 treeNew.length n3) (.slice (some ⟨w2.heap.size, 0, none⟩) 0 0) (.int .i64 0) (.int .i64 0) HE.out (Nat.le_refl _)).trans (hA.mono (by rw [put6_size]; omega))
  have hq := (HO.out.rdT.put6 HX.out (by decide) (.int .i64 who) (.int .i64 0) (.slice A3 treeNew.length n3) (.slice (some ⟨w2.heap.size, 0, none⟩) 0 0) (.int .i64 0) (.int .i64 0)).ext hA
  obtain ⟨k0, k1, k2, k3, k4, k5, kf⟩ := six_cells hz
  refine bodyPost_ret (v := .tuple #[.agg #[.int .i64 who, .int .i64 0, .slice A3 treeNew.length n3, .slice (some ⟨w2.heap.size, 0, none⟩) 0 0, .int .i64 0, .int .i64 0], .bool true]) ?_ rfl ?_
  · simp [results, Tryd.f112, go_sem, k0, k1, k2, k3, k4, k5]
  · exact ⟨_, rfl, ⟨_, _, _, _, rfl, hq, ⟨⟨by simp, by simp, fun h => by simp at h, by simp⟩, fun h => by simp at h⟩⟩, hE⟩
end Go.Proofs.YtjhbbgeebobcpaaDoor
namespace Go.Proofs.YtjhbbgeebobcpaaDoor
open Go.RowKit Go.Lib
set_option linter.unusedVariables false

/-- A store or an append of the call's own, in a block of another type. -/
theorem RdT.grownO {α β : Type} [Flat α] [Flat β] {e e' : TypeId} {W W' : World} {A : Option Addr} {c base : Nat} {l : List α} {v : Value} {xs : List β} (h : RdT e W A c l) (hg : W.grownBy W' v.ownBlock) (ho : Own e' W base v xs) (hne : e' ≠ e) : RdT e W' A c l :=
  h.blk fun _ bb _ cs m _ h1 => hg.block bb (blk_lt h1) (fun e0 => by
    obtain ⟨cs', m', h2⟩ := ho.ty bb e0.symm
    rw [h1] at h2
    injection h2 with h2; injection h2 with _ h2
    exact hne h2.symm)
theorem RcOk.grownO {β : Type} [Flat β] {e' : TypeId} {W W' : World} {base : Nat} {v : Value} {xs : List β} {x : RC} {c : Client} (h : RcOk W x c) (hg : W.grownBy W' v.ownBlock) (ho : Own e' W base v xs) (h1 : e' ≠ 47) (h2 : e' ≠ 44) : RcOk W' x c := by
  obtain ⟨b, bn, q, qn, rfl, r1, r2⟩ := h
  exact ⟨b, bn, q, qn, rfl, r1.grownO hg ho h1, r2.grownO hg ho h2⟩
theorem LtOk.grownO {β : Type} [Flat β] {e' : TypeId} {W W' : World} {base : Nat} {v : Value} {xs : List β} {x : RL} {m : Lt} (h : LtOk W x m) (hg : W.grownBy W' v.ownBlock) (ho : Own e' W base v xs) (h2 : e' ≠ 44) : LtOk W' x m := by
  obtain ⟨a, n, rfl, r1⟩ := h
  exact ⟨a, n, rfl, r1.grownO hg ho h2⟩
theorem RcOk.ext {W W' : World} {x : RC} {c : Client} (h : RcOk W x c) (hb : Ext W W') : RcOk W' x c := h.keep (KeepT.ext hb)
theorem LtOk.ext {W W' : World} {x : RL} {m : Lt} (h : LtOk W x m) (hb : Ext W W') : LtOk W' x m := h.keep (KeepT.ext hb)
/-- A client's value as raw cells. -/
theorem CT.raw {W : World} {c : Client} {v : Value} (h : CT W c v) : ∃ x : RC, v = .agg (Flat.enc x).toArray ∧ RcOk W x c := by
  obtain ⟨A1, n1, A2, n2, rfl, h1, h2⟩ := h
  exact ⟨⟨c.who, c.seen, A1, c.base.length, n1, A2, c.wait.length, n2, c.done, c.made⟩, rfl, A1, n1, A2, n2, rfl, h1, h2⟩
theorem Own.grownO {α β : Type} [Flat α] [Flat β] {e e' : TypeId} {W W' : World} {base base' : Nat} {v v' : Value} {l : List α} {xs : List β} (h : Own e W base v l) (hg : W.grownBy W' v'.ownBlock) (ho : Own e' W base' v' xs) (hne : e' ≠ e) : Own e W' base v l := by
  refine h.grown hg ?_
  cases hv : v.ownBlock with
  | none => exact .inl rfl
  | some k =>
    refine .inr (fun eq => ?_)
    obtain ⟨c1, m1, h1⟩ := h.ty k hv
    obtain ⟨c2, m2, h2⟩ := ho.ty k eq.symm
    rw [h1] at h2
    injection h2 with h2; injection h2 with _ h2
    exact hne h2.symm
theorem RcOk.set {W : World} {x : RC} {c : Client} {b : Nat} {cs : Array Value} {ty : TypeId} {m : Nat × Nat} (h : RcOk W x c) (hb : W.heap[b]? = some (.cells cs ty m)) (h1 : ty ≠ 47) (h2 : ty ≠ 44) (i : Nat) (v : Value) : RcOk (W.setCell ⟨b, i, none⟩ v) x c := by
  obtain ⟨a, bn, q, qn, rfl, r1, r2⟩ := h
  exact ⟨a, bn, q, qn, rfl, r1.set hb h1 i v, r2.set hb h2 i v⟩
def clisNew (k : Nat) : List Client := (List.range k).map fun (i : Nat) => (⟨(i : Int) + 1, 0, treeNew, [], 0, 0⟩ : Client)
theorem clisNew_succ (k : Nat) : clisNew (k + 1) = clisNew k ++ [⟨(k : Int) + 1, 0, treeNew, [], 0, 0⟩] := by
  unfold clisNew; rw [List.range_succ, List.map_append]; rfl

set_option maxRecDepth 100000 in
set_option maxHeartbeats 2000000 in
theorem worldNew_s (w : World) :
    Calls Tryd.prog 104 #[] w fun x w' => ∃ v, x = .returned v ∧ WV w' w.heap.size ⟨[], 0, true, clisNew 3, []⟩ v ∧ Ext w w' := by
  have hx := World.alloc_heap_new w (.cells #[.slice none 0 0, .int .i64 0, .bool false, .slice none 0 0, .slice none 0 0] 93)
  have hE : Ext w (w.alloc (.cells #[.slice none 0 0, .int .i64 0, .bool false, .slice none 0 0, .slice none 0 0] 93)) := (Below.refl _ w).alloc (Nat.le_refl _) _
  have HX := Lib.hid hx; have HE := Lib.hid hE
  clear hx hE
  go_enter Tryd.func104, Tryd.ntmps104
  go_wp2_with fail
  generalize (w.alloc (.cells #[.slice none 0 0, .int .i64 0, .bool false, .slice none 0 0, .slice none 0 0] 93)) = W at *
  refine (serverNew_s W).mono ?_
  rintro x w1 ⟨L, ln, rfl, hl, hb1⟩
  have HE1 := Lib.hid (HE.out.trans (hb1.mono HE.out.size)); have HX1 := Lib.hid ((hb1.block w.heap.size (blk_lt HX.out)).trans HX.out); have HL := Lib.hid hl
  have hs1 := HE1.out.size
  clear hl hb1
  go_wp2_with fail
  have h2 := two_new w1 (.cells #[] 161) (.cells #[.slice L 0 ln, .int .i64 0, .bool true, .slice none 0 0, (.slice (some ⟨w1.heap.size, 0, none⟩) 0 0)] 93)
  have hE3 : Ext w1 ((w1.alloc (.cells #[] 161)).alloc (.cells #[.slice L 0 ln, .int .i64 0, .bool true, .slice none 0 0, (.slice (some ⟨w1.heap.size, 0, none⟩) 0 0)] 93)) := ((Below.refl _ w1).alloc (Nat.le_refl _) _).alloc (by rw [alloc_sz]; omega) _
  have hln : Own 161 ((w1.alloc (.cells #[] 161)).alloc (.cells #[.slice L 0 ln, .int .i64 0, .bool true, .slice none 0 0, (.slice (some ⟨w1.heap.size, 0, none⟩) 0 0)] 93)) w.heap.size (.slice (some ⟨w1.heap.size, 0, none⟩) 0 0) ([] : List RL) := (own_made (e := 161) (α := RL) w1 w.heap.size hs1).below ((Below.refl _ _).alloc (Nat.le_refl _) _)
  have HB3 := Lib.hid h2.2; have HE3 := Lib.hid (HE1.out.trans (hE3.mono hs1)); have HN3 := Lib.hid hln; have HL3 := Lib.hid (HL.out.ext hE3)
  have HZ3 := Lib.hid ((hE3.block w.heap.size (blk_lt HX1.out)).trans HX1.out)
  clear h2 hE3 hln
  generalize ((w1.alloc (.cells #[] 161)).alloc (.cells #[.slice L 0 ln, .int .i64 0, .bool true, .slice none 0 0, (.slice (some ⟨w1.heap.size, 0, none⟩) 0 0)] 93)) = W3 at *
  go_loopg [2] 3 (fun gk i wr => ∃ (k : Nat) (xs : List RC) (C : Option Addr) (cc : Nat), k ≤ 3 ∧ Hid (gk = 3 - k) ∧ i = .int .i64 ((k : Int) + 1) ∧ Hid (xs.length = k) ∧ Hid (wr.heap[w1.heap.size + 1]? = some (.cells #[.slice L 0 ln, .int .i64 0, .bool true, .slice C xs.length cc, (.slice (some ⟨w1.heap.size, 0, none⟩) 0 0)] 93 (0, 0))) ∧ Hid (Own 30 wr w.heap.size (.slice C xs.length cc) xs) ∧ Hid (Own 161 wr w.heap.size (.slice (some ⟨w1.heap.size, 0, none⟩) 0 0) ([] : List RL)) ∧ Hid (All2 (RcOk wr) xs (clisNew k)) ∧ Hid (RdT 44 wr L ln ([] : List Entry)) ∧ Hid (wr.heap[w.heap.size]? = some (.cells #[.slice none 0 0, .int .i64 0, .bool false, .slice none 0 0, .slice none 0 0] 93 (0, 0))) ∧ Hid (Ext w wr))
  case atStart => exact ⟨0, [], none, 0, by omega, rfl, rfl, rfl, HB3.out, Own.nil _ _ _, HN3.out, All2.nil, HL3.out, HZ3.out, HE3.out⟩
  case round =>
    obtain ⟨k, xs, C, cc, hk, HK, rfl, HXL, HB, HO, HN, HA, HQ, HZ, HW⟩ := hrel
    by_cases hlt : k < 3
    · have hle : (k : Int) + 1 ≤ 3 := by omega
      have HC := Lib.hid (clientNewS_s ((k : Int) + 1) wr ⟨by omega, by omega⟩)
      go_wp2_with fail
      refine HC.out.mono ?_
      rintro x w5 ⟨v5, rfl, ⟨A1, n1, A2, n2, rfl, r1, r2⟩, hb5⟩
      have hs5 := hb5.size
      have hltb := blk_lt HB.out
      have hs1' := HW.out.size
      have hE6 : Ext w5 (w5.alloc (.cells #[.int .i64 ((k : Int) + 1), .int .i64 0, .slice A1 treeNew.length n1, .slice A2 0 n2, .int .i64 0, .int .i64 0] 30)) := (Below.refl _ w5).alloc (Nat.le_refl _) _
      have hsz6 := alloc_sz w5 (.cells #[.int .i64 ((k : Int) + 1), .int .i64 0, .slice A1 treeNew.length n1, .slice A2 0 n2, .int .i64 0, .int .i64 0] 30)
      have hx6 := World.alloc_heap_new w5 (.cells #[.int .i64 ((k : Int) + 1), .int .i64 0, .slice A1 treeNew.length n1, .slice A2 0 n2, .int .i64 0, .int .i64 0] 30)
      have hE56 : Ext wr (w5.alloc (.cells #[.int .i64 ((k : Int) + 1), .int .i64 0, .slice A1 treeNew.length n1, .slice A2 0 n2, .int .i64 0, .int .i64 0] 30)) := hb5.trans (hE6.mono hs5)
      have HX6 := Lib.hid hx6; have HE56 := Lib.hid hE56; have HR1 := Lib.hid (r1.ext hE6); have HR2 := Lib.hid (r2.ext hE6)
      have hbo5 := (hb5.block _ hltb).trans HB.out
      obtain ⟨d0, d1, d2, d3, d4, df⟩ := five_cells hbo5
      clear hE6 hx6 hE56 r1 r2 hb5 HC hbo5
      go_upto_region 6 with fail
      clear d0 d1 d2 d3 d4 df
      generalize (w5.alloc (.cells #[.int .i64 ((k : Int) + 1), .int .i64 0, .slice A1 treeNew.length n1, .slice A2 0 n2, .int .i64 0, .int .i64 0] 30)) = W6 at *
      have hbo := (HE56.out.block _ hltb).trans HB.out
      obtain ⟨b0, b1, b2, b3, b4, bf⟩ := five_cells hbo
      obtain ⟨c0, c1, c2, c3, c4, c5, cf⟩ := six_cells HX6.out
      have hown := HO.out.below HE56.out
      have hlt0 : w.heap.size ≤ W6.heap.size := by omega
      obtain ⟨v7, w7, hrun, ho7, hg7⟩ := app_one el_cli hown (⟨(k : Int) + 1, 0, A1, treeNew.length, n1, A2, 0, n2, 0, 0⟩ : RC) trivial (by have := HXL.out; omega) hlt0 #[.int .i64 ((k : Int) + 1), .int .i64 0, .slice A1 treeNew.length n1, .slice A2 0 n2, .int .i64 0, .int .i64 0] rfl
      obtain ⟨C', cc', hv9, -⟩ := ho7.rd
      rw [List.length_append, List.length_singleton] at hv9
      subst hv9
      have hw7 := hg7.block (w1.heap.size + 1) (by rw [alloc_sz]; have := blk_lt hbo; omega) (fun e0 => by
        obtain ⟨cs', m', h2⟩ := hown.ty _ e0.symm
        rw [hbo] at h2
        injection h2 with h2; injection h2 with _ h2
        exact absurd h2 (by decide))
      have hbo7 := hw7.trans ((Below.heap_alloc W6 _ (w1.heap.size + 1) (blk_lt hbo)).trans hbo)
      obtain ⟨e0, e1, e2, e3, e4, ef⟩ := five_cells hbo7
      have HBO7 := Lib.hid hbo7
      clear hw7 hbo7
      have HB6 := Lib.hid hbo; have HRUN := Lib.hid hrun; have HO7 := Lib.hid ho7; have HG7 := Lib.hid hg7; have HOW := Lib.hid hown
      have HSZ6 := Lib.hid hsz6
      clear hown ho7 hg7 hbo hsz6
      go_wp2_with (at_builtin; refine wpList_append_run rfl _ _ _ rfl rfl rfl hrun ?_)
      go_roundg (3 - (k + 1))
      case measure => have := HK.out; omega
      case rel =>
        have hEa : Ext W6 (W6.alloc (.cells #[.int .i64 ((k : Int) + 1), .int .i64 0, .slice A1 treeNew.length n1, .slice A2 0 n2, .int .i64 0, .int .i64 0] 30)) := (Below.refl _ _).alloc (Nat.le_refl _) _
        have hoa := HOW.out.below hEa
        have hall : All2 (RcOk (w7.setCell ⟨w1.heap.size + 1, 3, none⟩ (.slice C' (xs.length + 1) cc'))) (xs ++ [⟨(k : Int) + 1, 0, A1, treeNew.length, n1, A2, 0, n2, 0, 0⟩]) (clisNew (k + 1)) := by
          rw [clisNew_succ]
          refine (HA.out.imp (fun x c h => ((((h.ext HE56.out).ext hEa).grownO HG7.out hoa (by decide) (by decide)).set HBO7.out (by decide) (by decide) 3 _))).append (All2.one ⟨A1, n1, A2, n2, rfl, ?_, ?_⟩)
          · exact ((HR1.out.ext hEa).grownO HG7.out hoa (by decide)).set HBO7.out (by decide) 3 _
          · exact ((HR2.out.ext hEa).grownO HG7.out hoa (by decide)).set HBO7.out (by decide) 3 _
        have hne0 : w.heap.size ≠ w1.heap.size + 1 := by omega
        have hz6 := (hEa.block _ (blk_lt ((HE56.out.block _ (blk_lt HZ.out)).trans HZ.out))).trans ((HE56.out.block _ (blk_lt HZ.out)).trans HZ.out)
        have hz7 := (HG7.out.block w.heap.size (blk_lt hz6) (fun e9 => by
          obtain ⟨c2, m2, h2⟩ := hoa.ty _ e9.symm
          rw [hz6] at h2
          injection h2 with h2; injection h2 with _ h2
          exact absurd h2 (by decide))).trans hz6
        have hxl : (xs ++ [(⟨(k : Int) + 1, 0, A1, treeNew.length, n1, A2, 0, n2, 0, 0⟩ : RC)]).length = xs.length + 1 := by simp
        have hEw : Ext w W6 := HW.out.trans (HE56.out.mono HW.out.size)
        refine ⟨k + 1, xs ++ [⟨(k : Int) + 1, 0, A1, treeNew.length, n1, A2, 0, n2, 0, 0⟩], C', cc', by omega, rfl, by go_num, ?_, ?_, ?_, ?_, Lib.hid hall, ?_, (setx hne0).trans hz7, ?_⟩
        · show _ = _; rw [hxl, HXL.out]
        · show _ = _; rw [hxl]; exact set_at HBO7.out
        · show Own _ _ _ _ _; rw [hxl]; exact own_put HO7.out HBO7.out (by decide) 3 _
        · exact own_put (((HN.out.below HE56.out).below hEa).grownO HG7.out hoa (by decide)) HBO7.out (by decide) 3 _
        · exact (((HQ.out.ext HE56.out).ext hEa).grownO HG7.out hoa (by decide)).set HBO7.out (by decide) 3 _
        · exact (hoa.over (hEw.alloc hEw.size _) HG7.out (Nat.le_refl _) (by rw [alloc_sz]; have := hEw.size; omega)).setCell (p := ⟨w1.heap.size + 1, 3, none⟩) (show w.heap.size ≤ w1.heap.size + 1 by omega) _
    · have hk3 : k = 3 := by omega
      subst hk3
      have hli : ¬ ((3 : Int) + 1 ≤ 3) := by omega
      obtain ⟨b0, b1, b2, b3, b4, bf⟩ := five_cells HB.out
      obtain ⟨d0, d1, d2, d3, d4, df⟩ := five_cells HZ.out
      have hz := put5_at (.slice L 0 ln) (.int .i64 0) (.bool true) (.slice C xs.length cc) (.slice (some ⟨w1.heap.size, 0, none⟩) 0 0) HZ.out
      have hk : KeepT wr (put5 wr w.heap.size (.slice L 0 ln) (.int .i64 0) (.bool true) (.slice C xs.length cc) (.slice (some ⟨w1.heap.size, 0, none⟩) 0 0)) := KeepT.grown (gset (gset (gset (gset (gset_any _ _ _ _) _ _) _ _) _ _) _ _) HZ.out (by decide) (by decide) (by decide) (by decide)
      have hp : WP wr w.heap.size ⟨[], 0, true, clisNew 3, []⟩ L ln C cc (some ⟨w1.heap.size, 0, none⟩) 0 xs [] := ⟨HQ.out, HO.out, HN.out, HA.out, All2.nil⟩
      have hE9 : Ext w (put5 wr w.heap.size (.slice L 0 ln) (.int .i64 0) (.bool true) (.slice C xs.length cc) (.slice (some ⟨w1.heap.size, 0, none⟩) 0 0)) := ((((HW.out.setCell (Nat.le_refl _) _).setCell (Nat.le_refl _) _).setCell (Nat.le_refl _) _).setCell (Nat.le_refl _) _).setCell (Nat.le_refl _) _
      have HZ9 := Lib.hid hz; have HP9 := Lib.hid (hp.keep hk); have HE9 := Lib.hid hE9
      clear hz hk hp hE9
      go_wp2_with fail
      obtain ⟨k0, k1, k2, k3, k4, kf⟩ := five_cells HZ9.out
      refine bodyPost_ret (v := .agg #[.slice L 0 ln, .int .i64 0, .bool true, .slice C xs.length cc, .slice (some ⟨w1.heap.size, 0, none⟩) 0 0]) ?_ rfl ?_
      · simp [results, Tryd.f104, go_sem, k0, k1, k2, k3, k4]
      · exact ⟨_, rfl, ⟨_, _, _, _, _, _, _, _, rfl, HP9.out⟩, HE9.out⟩
end Go.Proofs.YtjhbbgeebobcpaaDoor
