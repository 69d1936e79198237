/- Loops over functions: one law, at the wide fence. The children of a row, one by one. The row ahead of a row. -/
import Derived.RangeFuncNested
import Derived.RangeFuncBound
import Derived.RangeFuncCalls
import Derived.RangeFuncLeaves
import Derived.Shelf.Abstract
import Derived.Shelf.RegionOpen
import Derived.WalkKit
import Derived.OwnWalkIn
import Derived.TacticsInMore
import Derived.LoopNIn
import Derived.LoopIn
import Derived.Test.YtjhbbgeebobcpaaDoorQG
namespace Go.Proofs.YtjhbbgeebobcpaaDoor
open Go.RowKit Go.Shelf
set_option linter.unusedVariables false
attribute [local go_sem] Oper.semAt_some

/-- All that lay lies as it lay, but cells of these types, and these blocks of book-keeping. -/
structure Kept (ts : List TypeId) (L : Nat → Prop) (W W' : World) : Prop where
  os : W'.os = W.os
  tape : W'.tape = W.tape
  output : W'.output = W.output
  size : W.heap.size ≤ W'.heap.size
  cells : ∀ (b : Nat) (cs : Array Value) (ty : TypeId) (m : Nat × Nat), W.heap[b]? = some (Obj.cells cs ty m) → ty ∉ ts → W'.heap[b]? = some (Obj.cells cs ty m)
  rest : ∀ (b : Nat) (o : Obj), W.heap[b]? = some o → o.isCells = false → ¬ L b → W'.heap[b]? = some o
/-- What lay below B lies as it lay, and all cells of these types. -/
structure Stab (B : Nat) (ts : List TypeId) (W W' : World) : Prop where
  os : W'.os = W.os
  tape : W'.tape = W.tape
  output : W'.output = W.output
  size : W.heap.size ≤ W'.heap.size
  low : ∀ b, b < B → W'.heap[b]? = W.heap[b]?
  cells : ∀ (b : Nat) (cs : Array Value) (ty : TypeId) (m : Nat × Nat), W.heap[b]? = some (Obj.cells cs ty m) → ty ∈ ts → W'.heap[b]? = some (Obj.cells cs ty m)
def SFrom (B : Nat) (ts : List TypeId) (I : Nat → World → Prop) : Prop := ∀ k W W', I k W → Stab B ts W W' → I k W'

theorem blk_lt {W : World} {b : Nat} {o : Obj} (h : W.heap[b]? = some o) : b < W.heap.size := (Array.getElem?_eq_some_iff.1 h).1
section
variable {ts : List TypeId} {L : Nat → Prop} {W W' W'' : World} {B : Nat}
theorem Kept.refl (W : World) : Kept ts L W W := ⟨rfl, rfl, rfl, Nat.le_refl _, fun _ _ _ _ h _ => h, fun _ _ h _ _ => h⟩
theorem Kept.trans (h : Kept ts L W W') (k : Kept ts L W' W'') : Kept ts L W W'' :=
  ⟨k.os.trans h.os, k.tape.trans h.tape, k.output.trans h.output, Nat.le_trans h.size k.size, fun b cs ty m hb ht => k.cells b cs ty m (h.cells b cs ty m hb ht) ht, fun b o hb ho hL => k.rest b o (h.rest b o hb ho hL) ho hL⟩
theorem Kept.mono {L' : Nat → Prop} (h : Kept ts L W W') (hL : ∀ k, L k → L' k) : Kept ts L' W W' := ⟨h.os, h.tape, h.output, h.size, h.cells, fun b o hb ho hn => h.rest b o hb ho (fun hl => hn (hL b hl))⟩
/-- A step that leaves what lay there from its start on. -/
theorem Kept.below (h : Kept ts L W W') (hb : Below W.heap.size W' W'') (hs : W'.heap.size ≤ W''.heap.size) : Kept ts L W W'' :=
  ⟨hb.os.trans h.os, hb.tape.trans h.tape, hb.output.trans h.output, Nat.le_trans h.size hs, fun b cs ty m hW ht => (hb.block b (blk_lt hW)).trans (h.cells b cs ty m hW ht), fun b o hW ho hL => (hb.block b (blk_lt hW)).trans (h.rest b o hW ho hL)⟩
theorem Kept.of_ext (h : Ext W W') : Kept ts L W W' := (Kept.refl W).below h h.size
theorem Kept.alloc (h : Kept ts L W W') (o : Obj) : Kept ts L W (W'.alloc o) := h.trans (Kept.of_ext ((Below.refl _ _).alloc (Nat.le_refl _) o))
theorem Kept.setCell (h : Kept ts L W W') {b : Nat} (hb : W.heap.size ≤ b) (i : Nat) (v : Value) : Kept ts L W (W'.setCell ⟨b, i, none⟩ v) :=
  h.below ((Below.refl _ _).setCell hb v) (Nat.le_of_eq (setsz _ _ _).symm)
theorem Kept.putNew (h : Kept ts L W W') {b : Nat} (hb : W.heap.size ≤ b ∨ L b ∧ ∃ o, W'.heap[b]? = some o ∧ o.isCells = false) (o' : Obj) : Kept ts L W (W'.putObj b o') := by
  rcases hb with hb | ⟨hl, o, ho, hc⟩
  · exact ⟨h.os, h.tape, h.output, by simpa using h.size, fun k cs ty m hW ht => (World.putObj_heap_other (by have := blk_lt hW; omega)).trans (h.cells k cs ty m hW ht), fun k o hW ho hL => (World.putObj_heap_other (by have := blk_lt hW; omega)).trans (h.rest k o hW ho hL)⟩
  · exact ⟨h.os, h.tape, h.output, by simpa using h.size,
      fun k cs ty m hW ht => (World.putObj_heap_other (fun e => by subst e; rw [h.cells _ cs ty m hW ht] at ho; cases ho; cases hc)).trans (h.cells k cs ty m hW ht),
      fun k o hW ho hL => (World.putObj_heap_other (fun e => by subst e; exact hL hl)).trans (h.rest k o hW ho hL)⟩
theorem Kept.cell (h : Kept ts L W W') {b : Nat} {cs : Array Value} {ty : TypeId} {m : Nat × Nat} (hb : W.heap[b]? = some (Obj.cells cs ty m)) (ht : ty ∉ ts) (o : Nat) : W'.cell? ⟨b, o, none⟩ = W.cell? ⟨b, o, none⟩ := cell_blk ((h.cells b cs ty m hb ht).trans hb.symm) o
theorem Stab.refl (W : World) : Stab B ts W W := ⟨rfl, rfl, rfl, Nat.le_refl _, fun _ _ => rfl, fun _ _ _ _ h _ => h⟩
theorem Stab.trans (h : Stab B ts W W') (k : Stab B ts W' W'') : Stab B ts W W'' :=
  ⟨k.os.trans h.os, k.tape.trans h.tape, k.output.trans h.output, Nat.le_trans h.size k.size, fun b hb => (k.low b hb).trans (h.low b hb), fun b cs ty m hb ht => k.cells b cs ty m (h.cells b cs ty m hb ht) ht⟩
theorem Stab.mono {B' : Nat} (h : Stab B ts W W') (hB : B' ≤ B) : Stab B' ts W W' := ⟨h.os, h.tape, h.output, h.size, fun b hb => h.low b (by omega), h.cells⟩
theorem Stab.of_ext (h : Ext W W') (hB : B ≤ W.heap.size) : Stab B ts W W' := ⟨h.os, h.tape, h.output, h.size, fun b hb => h.block b (by omega), fun b cs ty m hb _ => (h.block b (blk_lt hb)).trans hb⟩
theorem Stab.alloc (h : Stab B ts W W') (hB : B ≤ W.heap.size) (o : Obj) : Stab B ts W (W'.alloc o) := h.trans (Stab.of_ext ((Below.refl _ _).alloc (Nat.le_refl _) o) (Nat.le_trans hB h.size))
theorem Stab.put (h : Stab B ts W W') {b : Nat} (hB : B ≤ b) {o : Obj} (ho : W'.heap[b]? = some o) (hc : o.isCells = false) (o' : Obj) : Stab B ts W (W'.putObj b o') :=
  h.trans ⟨rfl, rfl, rfl, by simp, fun k hk => World.putObj_heap_other (by omega), fun k cs ty m hk _ => (World.putObj_heap_other (fun e => by subst e; rw [hk] at ho; cases ho; cases hc)).trans hk⟩
theorem Stab.setCell (h : Stab B ts W W') {b : Nat} (hB : B ≤ b) {cs : Array Value} {ty : TypeId} {m : Nat × Nat} (ho : W'.heap[b]? = some (Obj.cells cs ty m)) (ht : ty ∉ ts) (i : Nat) (v : Value) : Stab B ts W (W'.setCell ⟨b, i, none⟩ v) := by
  have hs : ∀ x : World, (x.setCell ⟨b, i, none⟩ v).os = x.os ∧ (x.setCell ⟨b, i, none⟩ v).tape = x.tape ∧ (x.setCell ⟨b, i, none⟩ v).output = x.output := fun x => by unfold World.setCell; split <;> exact ⟨rfl, rfl, rfl⟩
  refine h.trans ⟨(hs _).1, (hs _).2.1, (hs _).2.2, Nat.le_of_eq (setsz _ _ _).symm, fun k hk => setx (by omega), fun k cs' ty' m' hk ht' => (setx (fun e => ?_)).trans hk⟩
  subst e; rw [hk] at ho; injection ho with ho; injection ho with _ ho; exact ht (ho ▸ ht')
theorem SFrom.and {I I' : Nat → World → Prop} (h : SFrom B ts I) (h' : SFrom B ts I') : SFrom B ts (fun k W => I k W ∧ I' k W) := fun k W W' hs hg => ⟨h k W W' hs.1 hg, h' k W W' hs.2 hg⟩
theorem SFrom.below {w0 : World} {n0 : Nat} (hB : n0 ≤ B) : SFrom B ts (fun _ W => Below n0 w0 W) := fun k W W' h s => ⟨s.os.trans h.os, s.tape.trans h.tape, s.output.trans h.output, Nat.le_trans h.size s.size, fun b hb => (s.low b (by omega)).trans (h.block b hb)⟩
end

theorem roundIn_any {n m : Nat} {P : Program} {l : Nat} {f : FuncId} {tmps : Array Value} {assign body : Code} {w : World} {R : Ending → World → Prop} (h : RoundIn Fence.wide m P l f tmps assign body w R) : RoundIn Fence.wide n P l f tmps assign body w R := ⟨h.1, fun c cs _ => h.2 c cs (room_wide _)⟩
theorem yieldAt_any {n m : Nat} {P : Program} {l : Nat} {args : Array Value} {W : World} {R : Ending → World → Prop} (h : YieldAt Fence.wide m P l args W R) : YieldAt Fence.wide n P l args W R := by
  obtain ⟨fn, tmps, assign, body, hy, hR⟩ := h
  exact ⟨fn, tmps, assign, body, hy, roundIn_any hR⟩

/-- What an iterator does that hands out just xs. -/
def Seqs {α : Type} (P : Program) (st : Prop) (ts : List TypeId) (g : Nat) (lb : Array Value) (encs : α → Array Value) (xs : List α) (w : World) : Prop :=
  ∀ (l : Nat) (L : Nat → Prop) (J Jx : Nat → World → Prop) (W : World), Ext w W → L l → (∀ k, L k → k < W.heap.size) → SFrom W.heap.size ts J → SFrom W.heap.size ts Jx → (∀ k W1, Jx k W1 → st) →
    (∀ (k : Nat) (hk : k < xs.length) (W1 : World), J k W1 → YieldAt Fence.wide 0 P l (encs xs[k]) W1 fun e W' =>
      (e = .returned (.bool true) ∧ J (k + 1) W' ∧ Kept ts L W1 W') ∨ (e = .returned (.bool false) ∧ Jx (k + 1) W')) →
    J 0 W → Calls P g (#[.func (.yield l) #[] #[]] ++ lb) W fun e W' => (∃ v, e = .returned v) ∧ (J xs.length W' ∨ ∃ k, Jx k W')

/-- How a body may be left. -/
def postX (ts : List TypeId) (L : Nat → Prop) (I : Nat → World → Prop) (Ix : Code → Nat → World → Prop) (k : Nat) (W : World) : Exit → Act → World → Prop
  | .normal, _, W' => Kept ts L W W' ∧ I k W'
  | .ret, _, W' => Kept ts L W W' ∧ Ix .ret k W'
  | .exit id, _, W' => Kept ts L W W' ∧ Ix (.exit id) k W'
  | .goto t, _, W' => Kept ts L W W' ∧ Ix (.goto t) k W'
  | .panic _, _, _ => False
  | .outgrown, _, _ => False

theorem wp_rangeX {α : Type} {P : Program} {n : Nat} {g : Operand} {ps : Array Tmp} {assign body : Code} {Q : Exit → Act → World → Prop} {a : Act} {w : World} (st : Prop) (ts : List TypeId) (L : Nat → Prop)
    {gf : Nat} {lb : Array Value} (hg : a.eval g = .func (.func gf) #[] lb) (eg : ∀ args w, (callFunc gf args).run P w = .ok (.enter gf args) w)
    {encs : α → Array Value} {xs : List α} (hseq : Seqs P st ts gf lb encs xs w) (hps : ∀ x, (encs x).size = ps.size) (hL : ∀ k, L k → k < w.heap.size)
    (I : Nat → World → Prop) (Ix : Code → Nat → World → Prop) (hI : SFrom w.heap.size ts I) (hIx : ∀ c, SFrom w.heap.size ts (Ix c)) (hst : ∀ c k W, Ix c k W → st) (h0 : I 0 w) (a₁ : α → Act)
    (hassign : ∀ (l : Nat) (x : α) (W : World) (K : Act → World → Prop), K (a₁ x) W →
      assign.wpIn (Fence.wide.inRound l) 3 P (Exit.then K (fun _ _ _ => False)) { tmps := (ps.zip (encs x)).foldl (fun t (p, v) => t.setIfInBounds p v) a.tmps, defers := [] } W)
    (hbody : ∀ (l k : Nat) (hk : k < xs.length) (W : World), w.heap.size ≤ l → I k W → body.wpIn (Fence.wide.inRound l) 3 P (postX ts L I Ix (k + 1) W) (a₁ xs[k]) W)
    (hdone : ∀ (D : Nat) (W : World), w.heap.size ≤ D → I xs.length W → W.heap[D]? = some (.deferred (some [])) → Q .normal { a with defers := { target := .collected D, args := #[] } :: a.defers } W)
    (hstop : ∀ (D : Nat) (c : Code) (k : Nat) (W : World), w.heap.size ≤ D → Ix c k W → W.heap[D]? = some (.deferred (some [])) → c.wpIn Fence.wide n P Q { a with defers := { target := .collected D, args := #[] } :: a.defers } W) :
    (Code.rangeFunc g ps assign body).wpIn Fence.wide n P Q a w := by
  refine wpIn_rangeFunc ?_
  intro fn hfn
  show ∃ l mark w₁ d w₁' f args w₂, (Instr.enterLoop fn a.tmps ps assign body none).run P w = .ok (l, mark) w₁ ∧ _
  obtain ⟨rec, hrec⟩ : ∃ rec : LoopState → Option Code → Loop, rec = fun st pe => { state := st, pending := pe, fn, tmps := a.tmps, params := ps, assign, body, defers := w.heap.size } := ⟨_, rfl⟩
  obtain ⟨W1, hW1⟩ : ∃ W1, (w.alloc (.deferred (some []))).alloc (.loop (rec .ready none)) = W1 := ⟨_, rfl⟩
  have hsz : W1.heap.size = w.heap.size + 2 := by rw [← hW1, alloc_sz, alloc_sz]
  have hL1 : W1.heap[w.heap.size + 1]? = some (.loop (rec .ready none)) := by
    rw [← hW1]; have := World.alloc_heap_new (w.alloc (.deferred (some []))) (.loop (rec .ready none)); rwa [World.size_alloc] at this
  have hK1 : W1.heap[w.heap.size]? = some (.deferred (some [])) := by
    rw [← hW1]; exact (Below.heap_alloc _ _ _ (by simp)).trans (World.alloc_heap_new w _)
  have hs1 : Stab w.heap.size ts w W1 := by rw [← hW1]; exact ((Stab.refl w).alloc (Nat.le_refl _) _).alloc (Nat.le_refl _) _
  have hI1 : I 0 W1 := hI 0 _ _ h0 hs1
  have hb1 : Ext w W1 := by rw [← hW1]; exact ((Below.refl _ w).alloc (Nat.le_refl _) _).alloc (by simp) _
  refine ⟨w.heap.size + 1, [{ target := .collected w.heap.size, args := #[] }], W1, { target := .fn (.func gf) lb, args := #[.func (.yield (w.heap.size + 1)) #[] #[]] }, W1, gf,
    #[.func (.yield (w.heap.size + 1)) #[] #[]] ++ lb, W1, ?_, ?_, ?_, ?_, (fun h => by cases h), ?_⟩
  · rw [← hW1, hrec]; exact run_enterLoop_outer _ _ _ _ _
  · simp only [resolve, hg]
    simp [go_sem]
  · intro f' hf'; exact trivial
  · simp [invoke, go_sem, eg]
  · have hlow : ∀ {A B : World}, Stab W1.heap.size ts A B → Stab w.heap.size ts A B := fun h => h.mono (by omega)
    refine (callsIn_wide (n := n - 1)).2 ((hseq (w.heap.size + 1) (fun k => L k ∨ k = w.heap.size + 1)
      (fun k W => I k W ∧ W.heap[w.heap.size + 1]? = some (.loop (rec .ready none)) ∧ W.heap[w.heap.size]? = some (.deferred (some [])))
      (fun k W => ∃ c, Ix c k W ∧ W.heap[w.heap.size + 1]? = some (.loop (rec .done (some c))) ∧ W.heap[w.heap.size]? = some (.deferred (some [])))
      W1 hb1 (.inr rfl) (fun k h => by
        rcases h with h | h
        · have := hL k h; omega
        · omega)
      (fun k A B hs hg' => ⟨hI k A B hs.1 (hlow hg'), (hg'.low _ (by omega)).trans hs.2.1, (hg'.low _ (by omega)).trans hs.2.2⟩)
      (fun k A B hs hg' => by
        obtain ⟨c, hc, hl, hk⟩ := hs
        exact ⟨c, hIx c k A B hc (hlow hg'), (hg'.low _ (by omega)).trans hl, (hg'.low _ (by omega)).trans hk⟩)
      (fun k W2 ⟨c, hc, _⟩ => hst c k W2 hc)
      ?_ ⟨hI1, hL1, hK1⟩).mono ?_)
    · -- one round
      rintro k hk W ⟨hi, hl, hkD⟩
      have hlt : w.heap.size + 1 < W.heap.size := blk_lt hl
      have hy := run_yield (P := P) (args := encs xs[k]) hl (by rw [hrec]; exact hps xs[k])
      rw [hrec] at hy
      refine yieldAt_any ⟨fn, _, assign, body, hy, roundIn_of_wpIn (n := 3) hfn (hassign _ xs[k] W _ ?_)⟩
      clear hy
      refine ⟨_, run_beginRound hl (by rw [hrec]), ?_⟩
      have hl2 : (W.putObj (w.heap.size + 1) (.loop { rec .ready none with state := .busy })).heap[w.heap.size + 1]? = some (.loop { rec .ready none with state := .busy }) := World.putObj_heap_same hlt
      have hk2 : (W.putObj (w.heap.size + 1) (.loop { rec .ready none with state := .busy })).heap[w.heap.size]? = some (.deferred (some [])) := (World.putObj_heap_other (by omega)).trans hkD
      have hi2 : I k (W.putObj (w.heap.size + 1) (.loop { rec .ready none with state := .busy })) := hI k _ _ hi ((Stab.refl W).put (by omega) hl rfl _)
      have hw2 : Kept ts (fun k => L k ∨ k = w.heap.size + 1) W (W.putObj (w.heap.size + 1) (.loop { rec .ready none with state := .busy })) := (Kept.refl W).putNew (.inr ⟨.inr rfl, _, hl, rfl⟩) _
      refine wpIn_mono (hbody _ k hk _ (by omega) hi2) ?_
      have fin : ∀ (jump : Option Code) (W3 : World), Kept ts L (W.putObj (w.heap.size + 1) (.loop { rec .ready none with state := .busy })) W3 →
          (Instr.endRound (w.heap.size + 1) jump).run P W3 = .ok (.bool jump.isNone) (W3.putObj (w.heap.size + 1) (.loop (rec (if jump.isNone then .ready else .done) jump))) ∧
          W3.heap[w.heap.size + 1]? = some (.loop { rec .ready none with state := .busy }) ∧
          (W3.putObj (w.heap.size + 1) (.loop (rec (if jump.isNone then .ready else .done) jump))).heap[w.heap.size + 1]? = some (.loop (rec (if jump.isNone then .ready else .done) jump)) ∧
          (W3.putObj (w.heap.size + 1) (.loop (rec (if jump.isNone then .ready else .done) jump))).heap[w.heap.size]? = some (.deferred (some [])) := fun jump W3 hk3 => by
        have hl3 := hk3.rest _ _ hl2 rfl (fun h => by have := hL _ h; omega)
        have := run_endRound (P := P) jump hl3
        rw [hrec] at this ⊢
        exact ⟨this, by rw [hrec] at hl3; exact hl3, World.putObj_heap_same (blk_lt hl3), (World.putObj_heap_other (by omega)).trans (hk3.rest _ _ hk2 rfl (fun h => by have := hL _ h; omega))⟩
      rintro e a3 W3 hp
      cases e with
      | normal =>
        obtain ⟨hk3, hi3⟩ := hp
        obtain ⟨hr, hl3, hl4, hk4⟩ := fin none W3 hk3
        exact ⟨_, _, hr, .inl ⟨rfl, ⟨hI _ _ _ hi3 ((Stab.refl _).put (by omega) hl3 rfl _), hl4, hk4⟩, (hw2.trans (hk3.mono fun _ => .inl)).putNew (.inr ⟨.inr rfl, _, hl3, rfl⟩) _⟩⟩
      | ret =>
        obtain ⟨hk3, hi3⟩ := hp
        obtain ⟨hr, hl3, hl4, hk4⟩ := fin (some .ret) W3 hk3
        exact ⟨_, _, hr, .inr ⟨rfl, .ret, hIx _ _ _ _ hi3 ((Stab.refl _).put (by omega) hl3 rfl _), hl4, hk4⟩⟩
      | exit id =>
        obtain ⟨hk3, hi3⟩ := hp
        obtain ⟨hr, hl3, hl4, hk4⟩ := fin (some (.exit id)) W3 hk3
        exact ⟨_, _, hr, .inr ⟨rfl, .exit id, hIx _ _ _ _ hi3 ((Stab.refl _).put (by omega) hl3 rfl _), hl4, hk4⟩⟩
      | goto t =>
        obtain ⟨hk3, hi3⟩ := hp
        obtain ⟨hr, hl3, hl4, hk4⟩ := fin (some (.goto t)) W3 hk3
        exact ⟨_, _, hr, .inr ⟨rfl, .goto t, hIx _ _ _ _ hi3 ((Stab.refl _).put (by omega) hl3 rfl _), hl4, hk4⟩⟩
      | panic ch => exact hp.elim
      | outgrown => exact hp.elim
    · -- behind the iterator
      rintro e W2 ⟨⟨v, rfl⟩, (⟨hi, hl, hk⟩ | ⟨k, c, hi, hl, hk⟩)⟩
      · exact ⟨none, _, by have := run_endLoop (P := P) hl (by rw [hrec]; simp); rw [hrec] at this; exact this, hdone _ _ (Nat.le_refl _) (hI _ _ _ hi ((Stab.refl _).put (by omega) hl rfl _)) ((World.putObj_heap_other (by omega)).trans hk)⟩
      · exact ⟨some c, _, by have := run_endLoop (P := P) hl (by rw [hrec]; simp); rw [hrec] at this; exact this, hstop _ c k _ (Nat.le_refl _) (hIx c _ _ _ hi ((Stab.refl _).put (by omega) hl rfl _)) ((World.putObj_heap_other (by omega)).trans hk)⟩
end Go.Proofs.YtjhbbgeebobcpaaDoor
namespace Go.Proofs.YtjhbbgeebobcpaaDoor
open Go.RowKit Go.Shelf
set_option linter.unusedVariables false
attribute [local go_sem] Oper.semAt_some

theorem T.Has.kept {ts : List TypeId} {L : Nat → Prop} {W W' : World} {adr : Int → Nat} {top : Bool} {up : Value} {t : T} (h : T.Has (hpOf W) adr top up t) (k : Kept ts L W W') (hts : 122 ∉ ts) : T.Has (hpOf W') adr top up t :=
  T.has_same t top up (fun j hj => by
    obtain ⟨a, b, c, d, e⟩ := T.has_at t top up h j hj
    exact (k.cells _ _ _ _ e hts).trans e.symm) h
theorem T.Has.stab {ts : List TypeId} {B : Nat} {W W' : World} {adr : Int → Nat} {top : Bool} {up : Value} {t : T} (h : T.Has (hpOf W) adr top up t) (k : Stab B ts W W') (hlt : ∀ j ∈ T.ids t, adr j < B) : T.Has (hpOf W') adr top up t :=
  T.has_same t top up (fun j hj => k.low _ (hlt j hj)) h

theorem kids_c (u : Option Addr) (w : World) : Calls Tryd.prog 110 #[.pointer u] w fun e w' => e = .returned (.func (.func 117) #[] #[.pointer (some ⟨w.heap.size, 0, none⟩)]) ∧ w' = w.alloc (.cells #[.pointer u] 116) := by
  go_enter Tryd.func110, Tryd.ntmps110
  go_wp2
  go_ret
  exact ⟨rfl, rfl⟩

theorem kids1_s (st : Prop) (ts : List TypeId) (hts : 122 ∉ ts) (adr : Int → Nat) (b : Nat) (u : Int) (a1 a2 a4 : Value) (f : T) (w : World) (hu : w.heap[adr u]? = some (nodeO u a1 a2 (T.pt adr f) a4)) (hf : T.Has (hpOf w) adr false (PP adr u) f)
    (hb : w.heap[b]? = some (.cells #[PP adr u] 116 (0, 0))) :
    Seqs Tryd.prog st ts 117 #[.pointer (some ⟨b, 0, none⟩)] (fun j : Int => #[PP adr j]) (T.chain f) w := by
  intro l L J Jx W hW hl hL hJ hJx hst hY h0
  have hb' : W.cell? ⟨b, 0, none⟩ = some (PP adr u) := by
    rw [cell_blk (hW.block b (blk_lt hb))]; simp [World.cell?, hb]
  have hu' := (hW.block _ (blk_lt hu)).trans hu
  obtain ⟨-, -, -, c3, -, -⟩ := cells_of hu'
  obtain ⟨fp, hfp⟩ := pt_pointer adr f
  have hf' : T.Has (hpOf W) adr false (PP adr u) f := T.has_same f _ _ (fun j hj => by
    obtain ⟨x1, x2, x3, x4, e⟩ := T.has_at f _ _ hf j hj
    exact hW.block _ (blk_lt e)) hf
  rw [hfp] at c3
  have HY := Lib.hid hY; have HF := Lib.hid hf'; have HP := Lib.hid hfp; have H0 := Lib.hid h0
  clear hY hW hu hf hb hu' hf' hfp h0 hJ hJx hst
  refine (callsIn_wide (n := 3)).1 ?_
  refine callsIn_of_wp Tryd.func117 rfl trivial ?_ rfl
  simp only [Tryd.ntmps117, List.size_toArray, List.length_cons, List.length_nil, Nat.reduceAdd, Nat.reduceSub, Array.replicate_succ, Array.replicate_zero, List.push_toArray, List.append_toArray, List.nil_append, List.cons_append]
  gi_wp2
  let rel : Nat → Value → World → Prop := fun n v wr => ∃ (k : Nat) (r : T), n = (T.chain f).length - k ∧ k ≤ (T.chain f).length ∧ T.chain r = (T.chain f).drop k ∧ v = T.pt adr r ∧ T.Has (hpOf wr) adr false (PP adr u) r ∧ J k wr
  gi_loopw [3] (fun v wr => ∃ n, Hid (rel n v wr)) (fun v wr => leastOf (fun n => rel n v wr))
  case atStart => exact ⟨_, 0, f, rfl, Nat.zero_le _, by simp, HP.out.symm, HF.out, H0.out⟩
  case round =>
    have hspec := leastOf_spec (p := fun n => rel n u3 wr) hrel
    generalize hm : leastOf (fun n => rel n u3 wr) = m at hspec
    obtain ⟨k, r, hn, hk, hch, hv, hr, hj⟩ := hspec.1
    have HM := Lib.hid hm
    clear hspec hrel hm
    cases r with
    | nil =>
      have hkl : k = (T.chain f).length := by
        have := congrArg List.length hch
        simp only [T.chain, List.length_nil, List.length_drop] at this
        omega
      simp only [T.pt] at hv
      subst hv
      have HJ := Lib.hid hj
      clear hr hch hn hj
      gi_wp2
      go_end0
      rw [← hkl]
      exact ⟨⟨_, rfl⟩, .inl HJ.out⟩
    | node i x g n =>
      simp only [T.pt] at hv
      subst hv
      simp only [T.chain] at hch
      have hlt : k < (T.chain f).length := by
        have := congrArg List.length hch
        simp only [List.length_cons, List.length_drop] at this
        omega
      have hi : (T.chain f)[k] = i := by
        have := List.drop_eq_getElem_cons hlt
        rw [← hch] at this
        injection this with h1 _
        exact h1.symm
      obtain ⟨hbl, hg, hnx⟩ := hr
      obtain ⟨fn, tmps, assign, body, hy, hR⟩ := HY.out k hlt wr hj
      rw [hi] at hy
      have HN := Lib.hid hnx; have HB := Lib.hid hbl; have HCH := Lib.hid hch; have HNN := Lib.hid hn
      have HLT := Lib.hid hlt
      clear hnx hbl hg hch hn hi hj hlt HY
      gi_wp2
      refine (roundIn_any hR).mono ?_
      clear hR
      rintro e W3 (⟨rfl, hJ3, hk3⟩ | ⟨rfl, hJx3⟩)
      · have hb3 := hk3.cells _ _ _ _ HB.out hts
        obtain ⟨-, -, -, -, c4, -⟩ := cells_of hb3
        obtain ⟨np, hnp⟩ := nx_pointer adr false n
        rw [hnp] at c4
        have HJ3 := Lib.hid hJ3; have HK3 := Lib.hid hk3; have HNP := Lib.hid hnp
        clear hb3 hJ3 hk3 hnp
        gi_wp2
        go_roundw
        case rel =>
          exact ⟨_, k + 1, n, rfl, HLT.out, by rw [List.drop_eq_getElem_cons HLT.out] at HCH; exact (List.cons.inj HCH.out).2, HNP.out.symm, HN.out.kept HK3.out hts, HJ3.out⟩
        case measure =>
          show leastOf (fun n' => rel n' (.pointer np) W3) < leastOf (fun n => rel n _ wr)
          rw [HM.out, HNN.out]
          refine Nat.lt_of_le_of_lt ((leastOf_spec (p := fun n' => rel n' (.pointer np) W3) ⟨(T.chain f).length - (k + 1), k + 1, n, rfl, HLT.out, by rw [List.drop_eq_getElem_cons HLT.out] at HCH; exact (List.cons.inj HCH.out).2, HNP.out.symm, HN.out.kept HK3.out hts, HJ3.out⟩).2 _ ⟨k + 1, n, rfl, HLT.out, by rw [List.drop_eq_getElem_cons HLT.out] at HCH; exact (List.cons.inj HCH.out).2, HNP.out.symm, HN.out.kept HK3.out hts, HJ3.out⟩) ?_
          have := HLT.out
          omega
      · have HJ3 := Lib.hid hJx3
        clear hJx3
        gi_wp2
        refine bodyPost_ret (results_none rfl _ _ _) rfl ?_
        exact ⟨⟨_, rfl⟩, .inr ⟨k + 1, HJ3.out⟩⟩
end Go.Proofs.YtjhbbgeebobcpaaDoor
namespace Go.Proofs.YtjhbbgeebobcpaaDoor
open Go.RowKit Go.Shelf
set_option linter.unusedVariables false
attribute [local go_sem] Oper.semAt_some

namespace T
theorem prev_top (m : Int) (g : T) : ∀ (k : Nat) (pr : Option Int), (ids g).Nodup → (chain g)[k]? = some m → prevOf m pr g = some (if k = 0 then pr else (chain g)[k - 1]?) := by
  induction g with
  | nil => intro k pr _ h; simp [chain] at h
  | node i x f n ihf ihn =>
    intro k pr nd h
    simp only [ids, List.nodup_cons, List.nodup_append, List.mem_append, not_or] at nd
    obtain ⟨⟨n1, n2⟩, ndf, ndn, hdis⟩ := nd
    simp only [chain] at h ⊢
    cases k with
    | zero => simp at h; subst h; simp [prevOf]
    | succ k =>
      rw [List.getElem?_cons_succ] at h
      have hm := chain_sub n m (List.mem_of_getElem? h)
      have hne : ¬ i = m := fun e => n2 (by rw [e]; exact hm)
      rw [prevOf, if_neg hne, prevOf_not m none f (fun hh => hdis m hh m hm rfl), Option.none_or, ihn k (some i) ndn h]
      cases k with
      | zero => simp
      | succ k => simp
theorem prev_in (m u : Int) (y : ByteArray) (g : T) (t : T) : ∀ pr, (ids t).Nodup → get u t = some (y, g) → m ∈ chain g → prevOf m pr t = prevOf m none g := by
  induction t with
  | nil => intro _ _ h; simp [get] at h
  | node i x f n ihf ihn =>
    intro pr nd hg hm
    have hmm := (get_sub u _ _ _ hg).2 m (chain_sub g m hm)
    simp only [ids, List.nodup_cons, List.nodup_append, List.mem_append, not_or] at nd
    obtain ⟨⟨n1, n2⟩, ndf, ndn, hdis⟩ := nd
    simp only [get] at hg
    split at hg
    · simp only [Option.some.injEq, Prod.mk.injEq] at hg
      obtain ⟨rfl, rfl⟩ := hg
      have hmf := chain_sub f m hm
      rw [prevOf, if_neg (fun e => n1 (by rw [e]; exact hmf)), prevOf_not m (some i) n (fun hh => hdis m hmf m hh rfl), Option.or_none]
    · rw [Option.or_eq_some_iff] at hg
      rcases hg with hg | ⟨_, hg⟩
      · have hmf := (get_sub u _ _ _ hg).2 m (chain_sub g m hm)
        rw [prevOf, if_neg (fun e => n1 (by rw [e]; exact hmf)), prevOf_not m (some i) n (fun hh => hdis m hmf m hh rfl), Option.or_none, ihf none ndf hg hm]
      · have hmn := (get_sub u _ _ _ hg).2 m (chain_sub g m hm)
        rw [prevOf, if_neg (fun e => n2 (by rw [e]; exact hmn)), prevOf_not m none f (fun hh => hdis m hh m hmn rfl), Option.none_or, ihn _ ndn hg hm]
end T

theorem T.chain_nodup (t : T) (nd : (T.ids t).Nodup) : (T.chain t).Nodup := by
  induction t with
  | nil => exact List.nodup_nil
  | node i x f n ihf ihn =>
    simp only [T.ids, List.nodup_cons, List.nodup_append, List.mem_append, not_or] at nd
    simp only [T.chain, List.nodup_cons]
    exact ⟨fun h => nd.1.2 (T.chain_sub n i h), ihn nd.2.2.1⟩
theorem one_cell {W : World} {b : Nat} {v : Value} {ty : TypeId} (h : W.heap[b]? = some (.cells #[v] ty (0, 0))) : W.cell? ⟨b, 0, none⟩ = some v ∧ W.frozen? ⟨b, 0, none⟩ = false := ⟨by simp [World.cell?, h], by simp [World.frozen?, h]⟩
theorem one_set {W : World} {b : Nat} {v u : Value} {ty : TypeId} (h : W.heap[b]? = some (.cells #[v] ty (0, 0))) : (W.setCell ⟨b, 0, none⟩ u).heap[b]? = some (.cells #[u] ty (0, 0)) := by
  unfold World.setCell
  simp only [Array.getElem?_modify, h]; rfl
theorem Kept.setTurn {ts : List TypeId} {L : Nat → Prop} {W W' : World} (h : Kept ts L W W') {b : Nat} {cs : Array Value} {ty : TypeId} {m : Nat × Nat} (ho : W'.heap[b]? = some (.cells cs ty m)) (ht : ty ∈ ts) (i : Nat) (v : Value) : Kept ts L W (W'.setCell ⟨b, i, none⟩ v) := by
  have hs : ∀ x : World, (x.setCell ⟨b, i, none⟩ v).os = x.os ∧ (x.setCell ⟨b, i, none⟩ v).tape = x.tape ∧ (x.setCell ⟨b, i, none⟩ v).output = x.output := fun x => by unfold World.setCell; split <;> exact ⟨rfl, rfl, rfl⟩
  refine h.trans ⟨(hs _).1, (hs _).2.1, (hs _).2.2, Nat.le_of_eq (setsz _ _ _).symm, fun k cs' ty' m' hk ht' => (setx (fun e => ?_)).trans hk, fun k o hk hc _ => (setx (fun e => ?_)).trans hk⟩
  · subst e; rw [hk] at ho; injection ho with ho; injection ho with _ ho; exact ht' (ho ▸ ht)
  · subst e; rw [hk] at ho; injection ho with ho; rw [ho] at hc; cases hc
def prevAt (l : List Int) (k : Nat) : Option Int := if k = 0 then none else l[k - 1]?
set_option maxRecDepth 100000 in
theorem ahead_c (g : Nat) (adr : Int → Nat) (t : T) (id u : Int) (w : World) (hf : Frs w g adr t) (hi : id ∈ T.ids t) (hu : T.upOf id none t = some (some u)) :
    Calls Tryd.prog 101 #[PP adr id] w fun e w' => ∃ q, T.prevOf id none t = some q ∧ e = .returned (upv adr q) ∧ Ext w w' := by
  obtain ⟨x, f, n, top, q, hg, hn, hq, -, hb, hsub⟩ := hf.info id hi
  rw [hu] at hq; injection hq with hq; subst hq
  obtain ⟨y, fu, hgu⟩ := T.get_some u t (by
    rcases T.up_get t hf.nd id u none hu with ⟨_, h⟩ | ⟨y', g', h, _⟩
    · cases h
    · exact (T.get_sub _ _ _ _ h).1)
  have hch : id ∈ T.chain fu := by
    rcases T.up_get t hf.nd id u none hu with ⟨_, h⟩ | ⟨y', g', h, h2⟩
    · cases h
    · rw [hgu] at h; injection h with h; injection h with _ h; rw [h]; exact h2
  have hum := (T.get_sub _ _ _ _ hgu).1
  obtain ⟨xu, fu', nu, topu, qu, hgu', -, -, -, hbu, hsubu⟩ := hf.info u hum
  rw [hgu] at hgu'; injection hgu' with hgu'; injection hgu' with e1 e2; subst e1; subst e2
  obtain ⟨-, -, c2, -, -, -⟩ := cells_of hb
  simp only [upv] at c2
  have hpv := T.prev_in id u y fu t none hf.nd hgu hch
  rw [hpv]
  have hlt := blk_lt hb
  refine (callsIn_wide (n := 3)).1 ?_
  have HF := Lib.hid hf; have HC := Lib.hid hch; have HB := Lib.hid hb; have HBU := Lib.hid hbu; have HS := Lib.hid hsubu
  have HND : Hid (T.ids fu).Nodup := (T.get_nodup u y fu t hf.nd hgu).1
  clear hf hi hu hch hb hbu hsub hsubu hg hgu hpv hum
  refine callsIn_of_wp_marks Tryd.func101 rfl trivial ?_ rfl
  simp only [Tryd.ntmps101, List.size_toArray, List.length_cons, List.length_nil, Nat.reduceAdd, Nat.reduceSub, Array.replicate_succ, Array.replicate_zero, List.push_toArray, List.append_toArray, List.nil_append, List.cons_append]
  gi_wp2_with (refine ⟨trivial, ?_⟩; gi_at_call 110; refine (callsIn_wide.2 (kids_c _ _)).mono ?_; rintro e w1 ⟨rfl, rfl⟩)
  obtain ⟨W0, hW0⟩ : ∃ W0, (((w.alloc (.cells #[PP adr id] 116)).alloc (.cells #[.pointer none] 116)).alloc (.cells #[.pointer (some ⟨adr u, 0, none⟩)] 116)) = W0 := ⟨_, rfl⟩
  obtain ⟨p, hp⟩ : ∃ p, (T.chain fu)[p]? = some id := List.mem_iff_getElem?.1 HC.out
  have hpl : p < (T.chain fu).length := (List.getElem?_eq_some_iff.1 hp).1
  have hsz : W0.heap.size = w.heap.size + 3 := by rw [← hW0, alloc_sz, alloc_sz, alloc_sz]
  have hB0 : Ext w W0 := by rw [← hW0]; exact (((Below.refl _ _).alloc (Nat.le_refl _) _).alloc (by rw [alloc_sz]; omega) _).alloc (by rw [alloc_sz, alloc_sz]; omega) _
  have hx0 : W0.heap[w.heap.size]? = some (.cells #[PP adr id] 116 (0, 0)) ∧ W0.heap[w.heap.size + 1]? = some (.cells #[nilp] 116 (0, 0)) ∧ W0.heap[w.heap.size + 1 + 1]? = some (.cells #[PP adr u] 116 (0, 0)) := by
    rw [← hW0]
    have e1 : ∀ (a : Array Obj) (x y z : Obj), ((((a.push x).push y).push z)[a.size]?) = some x ∧ ((((a.push x).push y).push z)[a.size + 1]?) = some y ∧ ((((a.push x).push y).push z)[a.size + 1 + 1]?) = some z := by
      intro a x y z
      refine ⟨?_, ?_, ?_⟩
      · rw [Array.getElem?_push_lt (by simp; omega), Array.getElem_push_lt (by simp), Array.getElem_push_eq]
      · rw [Array.getElem?_push_lt (by simp)]
        simp [Array.getElem_push]
      · rw [show a.size + 1 + 1 = ((a.push x).push y).size by simp, Array.getElem?_push_size]
    exact e1 _ _ _ _
  obtain ⟨hx1, hx2, hx3⟩ := hx0
  rw [hW0]
  have hbu0 := (hB0.block _ (blk_lt HBU.out)).trans HBU.out
  have hs0 : T.Has (hpOf W0) adr false (PP adr u) fu := T.has_same fu _ _ (fun j hj => by
    obtain ⟨x1, x2, x3, x4, e⟩ := T.has_at fu _ _ HS.out j hj
    exact hB0.block _ (blk_lt e)) HS.out
  have hgat := HF.out
  refine' wp_rangeX True [116] (fun _ => False) (gf := 117) (lb := #[.pointer (some ⟨w.heap.size + 1 + 1, 0, none⟩)]) rfl (enters_of Tryd.func117 (by kernel_rfl) rfl)
    (kids1_s True [116] (by decide) adr (w.heap.size + 1 + 1) u _ _ _ fu W0 hbu0 hs0 hx3) (fun _ => rfl) (fun _ h => h.elim)
    (fun k W => k ≤ p ∧ W.heap[w.heap.size]? = some (.cells #[PP adr id] 116 (0, 0)) ∧ W.heap[w.heap.size + 1]? = some (.cells #[upv adr (prevAt (T.chain fu) k)] 116 (0, 0)) ∧ Ext w W)
    (fun c k W => c = .exit 0 ∧ W.heap[w.heap.size + 1]? = some (.cells #[upv adr (prevAt (T.chain fu) p)] 116 (0, 0)) ∧ Ext w W)
    (fun k W W' h s => ⟨h.1, (s.low _ (by omega)).trans h.2.1, (s.low _ (by omega)).trans h.2.2.1, SFrom.below (ts := [116]) (B := W0.heap.size) (by omega) k W W' h.2.2.2 s⟩)
    (fun c k W W' h s => ⟨h.1, (s.low _ (by omega)).trans h.2.1, SFrom.below (ts := [116]) (B := W0.heap.size) (by omega) k W W' h.2.2 s⟩)
    (fun _ _ _ _ => trivial) ⟨Nat.zero_le _, hx1, hx2, hB0⟩ _ ?assign ?body ?done ?stop
  case assign =>
    intro l x W K hK
    gi_wp2
    exact hK
  case body =>
    rintro l k hk W hl ⟨hkp, b1, b2, hB⟩
    have hcd : (T.chain fu).Nodup := T.chain_nodup fu HND.out
    have hkm : (T.chain fu)[k] ∈ T.chain fu := List.getElem_mem hk
    have hblk : ∀ j ∈ T.chain fu, ∃ c, W.heap[adr j]? = some (.cells c 122 (0, 0)) := fun j hj => by
      obtain ⟨x1, x2, x3, x4, e⟩ := T.has_at fu _ _ HS.out j (T.chain_sub fu j hj)
      exact ⟨_, (hB.block _ (blk_lt e)).trans e⟩
    obtain ⟨c1, f1⟩ := one_cell b1
    obtain ⟨ca, hca⟩ := hblk _ hkm
    obtain ⟨cb, hcb⟩ := hblk id HC.out
    obtain ⟨cc2, f2⟩ := one_cell b2
    have hk1 : (T.chain fu)[k]? = some (T.chain fu)[k] := List.getElem?_eq_getElem hk
    have hxl := blk_lt b2
    by_cases hkp' : k = p
    · have he : (T.chain fu)[k] = id := by subst hkp'; rw [hk1] at hp; exact Option.some.inj hp
      have B2 := Lib.hid b2; have BB := Lib.hid hB; have KP := Lib.hid hkp'
      rw [he]
      have q1 := eql_same ⟨adr id, 0, none⟩
      clear hca hcb hblk b1 b2 hB hkp' hp hk1 cc2 f2 he hbu0 hs0 hgat hx1 hx2 hx3 hW0 hcd hkm hkp
      gi_wp2
      exact ⟨Kept.refl _, rfl, by rw [← KP.out]; exact B2.out, BB.out⟩
    · have hne : (T.chain fu)[k] ≠ id := fun e => hkp' (by
        exact (List.getElem?_inj hk hcd).1 (hk1.trans ((congrArg some e).trans hp.symm)))
      have hadr : adr (T.chain fu)[k] ≠ adr id := fun e => by
        obtain ⟨x1, x2, x3, x4, e1⟩ := T.has_at fu _ _ HS.out _ (T.chain_sub fu _ hkm)
        exact T.adr_ne (h := hpOf w) HB.out e1 hne e
      have q1 := eql_other (W := W) (a := ⟨adr (T.chain fu)[k], 0, none⟩) (b := ⟨adr id, 0, none⟩) (fun e => hadr (by injection e)) hca hcb
      have B1 := Lib.hid b1; have B2 := Lib.hid b2; have BB := Lib.hid hB; have KP := Lib.hid hkp'
      clear hca hcb hblk b1 b2 hB hkp' hp hk1 hbu0 hs0 hgat hx1 hx2 hx3 hW0 hcd hkm hne hadr
      gi_wp2
      refine ⟨Kept.setTurn (Kept.refl _) B2.out (by simp) _ _, ?_, (setx (by omega)).trans B1.out, ?_, BB.out.setCell (by simp) _⟩
      · have := KP.out; omega
      · rw [one_set B2.out, prevAt, if_neg (by omega), Nat.add_sub_cancel, List.getElem?_eq_getElem hk]; rfl
  case done =>
    rintro D W hD ⟨hkp, -, -, -⟩ hK
    exact absurd hkp (by omega)
  case stop =>
    rintro D c k W hD ⟨rfl, b2, hB⟩ hK
    obtain ⟨cc2, f2⟩ := one_cell b2
    have BB := Lib.hid hB
    clear b2 hB hbu0 hs0 hgat hx1 hx2 hx3 hW0
    gi_wp2
    refine ⟨by simp, .inl ⟨_, _, rfl, run_takeDeferred hK, ?_⟩⟩
    refine ⟨_, results_tmp rfl _ _ _, _, T.prev_top id fu p none HND.out hp, rfl, ?_⟩
    exact BB.out.trans (belowK_b (w := w) (Nat.le_refl _) W D _ _ (by omega) hK rfl rfl)
end Go.Proofs.YtjhbbgeebobcpaaDoor
