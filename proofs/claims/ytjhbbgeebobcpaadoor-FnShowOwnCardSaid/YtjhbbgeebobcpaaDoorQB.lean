/- How slices of flat structs lie in memory: what is read, what is owned, how either is carried on. Walks of the reference: numbers, texts, changes and entries that are ok. Outlines as first-child, next-sibling trees: plain Lean. -/
import Derived.Test.YtjhbbgeebobcpaaDoorQA
import Derived.Maps.Own
import Derived.Maps.OwnOps
import Derived.Maps.Views
namespace Go.Proofs.YtjhbbgeebobcpaaDoor
open Go.RowKit
set_option linter.unusedVariables false

/-! ### flat structs -/
def rowE (r : Row) : List Value := [.int .i64 r.id, .int .i64 r.depth, .string r.text]
def entE (e : Entry) : List Value := [.int .i64 e.who, .int .i64 e.seq, .int .i64 e.op.kind, .int .i64 e.op.id, .int .i64 e.op.up, .int .i64 e.op.pos, .string e.op.text]

/-- Every element of one width. -/
class Flat (α : Type) where
  enc : α → List Value
  sz : Nat
  len : ∀ x, (enc x).length = sz
  one : ∀ x, ∀ u ∈ enc x, u.oneCell' = true
  pos : 0 < sz
  okE : α → Prop
instance : Flat Row := ⟨rowE, 3, fun _ => rfl, fun _ u hu => by simp [rowE] at hu; rcases hu with rfl | rfl | rfl <;> rfl, by omega, fun r => r.text.size ≤ maxLen⟩
instance : Flat Entry := ⟨entE, 7, fun _ => rfl, fun _ u hu => by simp [entE] at hu; rcases hu with rfl | rfl | rfl | rfl | rfl | rfl | rfl <;> rfl, by omega, fun e => e.op.text.size ≤ maxLen⟩
instance : Flat Int := ⟨fun x => [.int .i64 x], 1, fun _ => rfl, fun _ u hu => by simp at hu; subst hu; rfl, by omega, fun _ => True⟩
instance : Flat ByteArray := ⟨fun x => [.string x], 1, fun _ => rfl, fun _ u hu => by simp at hu; subst hu; rfl, by omega, fun s => s.size ≤ maxLen⟩

section
variable {α : Type} [Flat α]
open Flat
def flat (l : List α) : List Value := l.flatMap enc
theorem flat_nil : flat ([] : List α) = [] := rfl
theorem flat_append (l m : List α) : flat (l ++ m) = flat l ++ flat m := by simp [flat]
theorem flat_one (x : α) : flat [x] = enc x := by simp [flat]
theorem flat_cons (x : α) (l : List α) : flat (x :: l) = enc x ++ flat l := by simp [flat]
theorem flat_length (l : List α) : (flat l).length = l.length * sz α := by
  induction l with
  | nil => simp [flat]
  | cons x l ih => rw [flat_cons, List.length_append, ih, Flat.len, List.length_cons, Nat.add_mul]; omega
theorem flat_one_cell (l : List α) : ∀ u ∈ flat l, u.oneCell' = true := by
  intro u hu
  simp only [flat, List.mem_flatMap] at hu
  obtain ⟨x, _, hx⟩ := hu
  exact Flat.one x u hx
theorem flat_at (l : List α) (k : Nat) (hk : k < l.length) (j : Nat) (hj : j < sz α) : (flat l)[k * sz α + j]? = (enc l[k])[j]? := by
  induction l generalizing k with
  | nil => simp at hk
  | cons x l ih =>
    rw [flat_cons]
    cases k with
    | zero => simp only [Nat.zero_mul, Nat.zero_add, List.getElem_cons_zero]; rw [List.getElem?_append_left (by rw [Flat.len]; exact hj)]
    | succ k =>
      have h1 : (k + 1) * sz α + j = (enc x).length + (k * sz α + j) := by rw [Flat.len, Nat.add_mul]; omega
      rw [h1, List.getElem?_append_right (by omega), Nat.add_sub_cancel_left]
      simpa using ih k (by simpa using hk)
theorem flat_take (l : List α) (k : Nat) : flat (l.take k) = (flat l).take (k * sz α) := by
  induction l generalizing k with
  | nil => simp [flat]
  | cons x l ih =>
    cases k with
    | zero => simp [flat]
    | succ k =>
      rw [List.take_succ_cons, flat_cons, flat_cons, ih, Nat.add_mul, Nat.one_mul, Nat.add_comm, List.take_append, Flat.len]
      rw [List.take_of_length_le (i := sz α + k * sz α) (by rw [Flat.len]; omega), Nat.add_sub_cancel_left]
theorem flat_drop (l : List α) (k : Nat) : flat (l.drop k) = (flat l).drop (k * sz α) := by
  induction l generalizing k with
  | nil => simp [flat]
  | cons x l ih =>
    cases k with
    | zero => simp [flat]
    | succ k =>
      rw [List.drop_succ_cons, flat_cons, ih, Nat.add_mul, Nat.one_mul, Nat.add_comm (k * sz α), List.drop_append, Flat.len]
      rw [List.drop_of_length_le (i := sz α + k * sz α) (by rw [Flat.len]; omega), Nat.add_sub_cancel_left, List.nil_append]

/-! ### what is read -/
/-- A slice at A with these elements can be read. -/
def Rd (w : World) (A : Option Addr) (c : Nat) (l : List α) : Prop :=
  l.length ≤ c ∧ c ≤ maxLen ∧ (0 < l.length → ∃ b off, A = some ⟨b, off, none⟩ ∧ ∀ j v, (flat l)[j]? = some v → w.cell? ⟨b, off + j, none⟩ = some v) ∧ ∀ x ∈ l, okE x
theorem Rd.ok {w : World} {A : Option Addr} {c : Nat} {l : List α} (h : Rd w A c l) : ∀ x ∈ l, okE x := h.2.2.2
theorem Rd.okAt {w : World} {A : Option Addr} {c : Nat} {l : List α} (h : Rd w A c l) (k : Nat) (hk : k < l.length) : okE l[k] := h.2.2.2 _ (List.getElem_mem hk)

theorem Rd.at_ {w : World} {A : Option Addr} {c : Nat} {l : List α} (h : Rd w A c l) (k : Nat) (hk : k < l.length) :
    ∃ b off, A = some ⟨b, off, none⟩ ∧ b < w.heap.size ∧ ∀ j v, (enc l[k])[j]? = some v → w.cell? ⟨b, off + (k * sz α + j), none⟩ = some v := by
  obtain ⟨b, off, rfl, hc⟩ := h.2.2.1 (by omega)
  have key : ∀ j v, (enc l[k])[j]? = some v → w.cell? ⟨b, off + (k * sz α + j), none⟩ = some v := by
    intro j v hv
    have hj : j < sz α := by
      have := (List.getElem?_eq_some_iff.1 hv).1
      rwa [Flat.len] at this
    exact hc _ v (by rw [flat_at l k hk j hj]; exact hv)
  refine ⟨b, off, rfl, ?_, key⟩
  have h0 := key 0 ((enc l[k])[0]'(by rw [Flat.len]; exact Flat.pos)) (List.getElem?_eq_getElem _)
  exact World.block_lt_of_cell? w _ h0
theorem Rd.mono {w w' : World} {A : Option Addr} {c : Nat} {l : List α} (h : Rd w A c l) (hc : ∀ a v, w.cell? a = some v → (∀ b off, A = some ⟨b, off, none⟩ → a.block = b) → w'.cell? a = some v) : Rd w' A c l := by
  refine ⟨h.1, h.2.1, fun h0 => ?_, h.2.2.2⟩
  obtain ⟨b, off, rfl, hh⟩ := h.2.2.1 h0
  exact ⟨b, off, rfl, fun j v hv => hc _ _ (hh j v hv) (fun b' off' e => by cases e; rfl)⟩
theorem Rd.ext {w w' : World} {A : Option Addr} {c : Nat} {l : List α} (h : Rd w A c l) (hb : Below w.heap.size w w') : Rd w' A c l :=
  h.mono fun a v hv _ => (hb.cell (World.block_lt_of_cell? w a hv)).trans hv
theorem Rd.grown {w w' : World} {A : Option Addr} {c : Nat} {l : List α} (h : Rd w A c l) {row : Option Nat} (hg : w.grownBy w' row) (hne : ∀ b off, A = some ⟨b, off, none⟩ → some b ≠ row) : Rd w' A c l := by
  refine ⟨h.1, h.2.1, fun h0 => ?_, h.2.2.2⟩
  obtain ⟨b, off, rfl, hh⟩ := h.2.2.1 h0
  exact ⟨b, off, rfl, fun j v hv => hg.cell (hh j v hv) (hne b off rfl)⟩
theorem Rd.alloc {w : World} {A : Option Addr} {c : Nat} {l : List α} (h : Rd w A c l) (o : Obj) : Rd (w.alloc o) A c l := h.ext ((Below.refl _ _).alloc (Nat.le_refl _) o)
theorem Rd.drewN {w : World} {A : Option Addr} {c : Nat} {l : List α} (h : Rd w A c l) (n : Nat) : Rd (w.drewN n) A c l := h
theorem Rd.nil (w : World) : Rd w none 0 ([] : List α) := ⟨by simp, by simp [maxLen], fun h => by simp at h, by simp⟩
theorem Rd.take {w : World} {A : Option Addr} {c : Nat} {l : List α} (h : Rd w A c l) (k : Nat) : Rd w A c (l.take k) := by
  refine ⟨by rw [List.length_take]; have := h.1; omega, h.2.1, fun h0 => ?_, fun x hx => h.2.2.2 x (List.mem_of_mem_take hx)⟩
  obtain ⟨b, off, rfl, hh⟩ := h.2.2.1 (by rw [List.length_take] at h0; omega)
  refine ⟨b, off, rfl, fun j v hv => hh j v ?_⟩
  rw [flat_take, List.getElem?_take] at hv
  split at hv
  · exact hv
  · cases hv
theorem Rd.drop {w : World} {b off c : Nat} {l : List α} (h : Rd w (some ⟨b, off, none⟩) c l) (k : Nat) (hk : k ≤ l.length) : Rd w (some ⟨b, off + k * sz α, none⟩) (c - k) (l.drop k) := by
  refine ⟨by rw [List.length_drop]; have := h.1; omega, by have := h.2.1; omega, fun h0 => ?_, fun x hx => h.2.2.2 x (List.mem_of_mem_drop hx)⟩
  obtain ⟨b', off', e, hh⟩ := h.2.2.1 (by rw [List.length_drop] at h0; omega)
  injection e with e; injection e with e1 e2; subst e1; subst e2
  refine ⟨b, off + k * sz α, rfl, fun j v hv => ?_⟩
  rw [flat_drop, List.getElem?_drop] at hv
  rw [Nat.add_assoc]
  exact hh _ v hv

/-! ### what is owned -/
/-- A slice value that owns a row of its own, with these elements. -/
def Own (e : TypeId) (w : World) (base : Nat) (v : Value) (l : List α) : Prop := w.ownsRow base e (sz α) v l.length (flat l) ∧ ∀ x ∈ l, okE x
theorem Own.rd {e : TypeId} {w : World} {base : Nat} {v : Value} {l : List α} (h : Own e w base v l) : ∃ A c, v = .slice A l.length c ∧ Rd w A c l := by
  rcases h.1.2 with ⟨rfl, h0⟩ | ⟨g, cap, cur, rfl, hb, hh, hn, hc, hs, ht⟩
  · exact ⟨none, 0, by rw [h0], ⟨by omega, by simp [maxLen], fun hp => by omega, h.2⟩⟩
  · refine ⟨_, cap, rfl, hn, hc, fun h0 => ⟨g, 0, rfl, fun j v hv => ?_⟩, h.2⟩
    have := World.ownsRow.cells h.1 (g := g) rfl j v hv
    have ha : (⟨g, 0, none⟩ : Addr).add j = ⟨g, 0 + j, none⟩ := by unfold Addr.add; split <;> simp_all
    rwa [ha] at this
theorem Own.below {e : TypeId} {w w' : World} {base : Nat} {v : Value} {l : List α} (h : Own e w base v l) (hb : Below w.heap.size w w') : Own e w' base v l :=
  ⟨World.ownsRow.kept (row := none) h.1 ⟨hb.os, hb.tape, hb.output, hb.size, fun i hi _ => hb.block i hi⟩ (by cases v.ownBlock <;> simp), h.2⟩
theorem Own.grown {e : TypeId} {w w' : World} {base : Nat} {v : Value} {l : List α} (h : Own e w base v l) {row : Option Nat} (hg : w.grownBy w' row) (hne : v.ownBlock = none ∨ v.ownBlock ≠ row) : Own e w' base v l := ⟨World.ownsRow.kept h.1 hg hne, h.2⟩
theorem Own.nil (e : TypeId) (w : World) (base : Nat) : Own e w base (.slice none 0 0) ([] : List α) := ⟨World.ownsRow_nil _ _ _ _, by simp⟩
theorem Own.lower {e : TypeId} {w : World} {base base' : Nat} {v : Value} {l : List α} (h : Own e w base v l) (hb : base' ≤ base) : Own e w base' v l := by
  refine ⟨⟨h.1.1, ?_⟩, h.2⟩
  rcases h.1.2 with h | ⟨g, cap, cur, h1, h2, h3⟩
  · exact .inl h
  · exact .inr ⟨g, cap, cur, h1, by omega, h3⟩
theorem Own.blk {e : TypeId} {w : World} {base : Nat} {v : Value} {l : List α} (h : Own e w base v l) (k : Nat) (hk : v.ownBlock = some k) : base ≤ k ∧ k < w.heap.size := World.ownsRow.lt h.1 k hk
end

theorem ext_box {w w1 : World} {o : Obj} (h : Ext (w.alloc o) w1) : Ext w w1 := ((Below.refl _ _).alloc (Nat.le_refl _) _).trans (h.mono (by simp))
theorem ext_boxd {w w1 : World} {o : Obj} (h : Ext (w.alloc o).drew w1) : Ext w w1 := ((Below.refl _ _).alloc (Nat.le_refl _) _).drew.trans (h.mono (by simp))
theorem ext_then {B : Nat} {a b c : World} (h : Below B a b) (k : Ext b c) (hB : B ≤ b.heap.size) : Below B a c := h.trans (k.mono hB)
theorem ent_at {w : World} {A : Option Addr} {c : Nat} {l : List Entry} (h : Rd w A c l) (k : Nat) (hk : k < l.length) :
    ∃ b off, A = some ⟨b, off, none⟩ ∧ b < w.heap.size ∧ w.cell? ⟨b, off + k * 7, none⟩ = some (.int .i64 l[k].who) ∧ w.cell? ⟨b, off + k * 7 + 1, none⟩ = some (.int .i64 l[k].seq) ∧ w.cell? ⟨b, off + k * 7 + 2, none⟩ = some (.int .i64 l[k].op.kind) ∧
      w.cell? ⟨b, off + k * 7 + 3, none⟩ = some (.int .i64 l[k].op.id) ∧ w.cell? ⟨b, off + k * 7 + 4, none⟩ = some (.int .i64 l[k].op.up) ∧ w.cell? ⟨b, off + k * 7 + 5, none⟩ = some (.int .i64 l[k].op.pos) ∧ w.cell? ⟨b, off + k * 7 + 6, none⟩ = some (.string l[k].op.text) := by
  obtain ⟨b, off, rfl, hb, hc⟩ := h.at_ k hk
  exact ⟨b, off, rfl, hb, hc 0 _ rfl, hc 1 _ rfl, hc 2 _ rfl, hc 3 _ rfl, hc 4 _ rfl, hc 5 _ rfl, hc 6 _ rfl⟩
theorem row_at {w : World} {A : Option Addr} {c : Nat} {l : List Row} (h : Rd w A c l) (k : Nat) (hk : k < l.length) :
    ∃ b off, A = some ⟨b, off, none⟩ ∧ b < w.heap.size ∧ w.cell? ⟨b, off + k * 3, none⟩ = some (.int .i64 l[k].id) ∧ w.cell? ⟨b, off + k * 3 + 1, none⟩ = some (.int .i64 l[k].depth) ∧ w.cell? ⟨b, off + k * 3 + 2, none⟩ = some (.string l[k].text) := by
  obtain ⟨b, off, rfl, hb, hc⟩ := h.at_ k hk
  exact ⟨b, off, rfl, hb, hc 0 _ rfl, hc 1 _ rfl, hc 2 _ rfl⟩
theorem grown_of_ext {w w' : World} (h : Below w.heap.size w w') : w.grownBy w' none := ⟨h.os, h.tape, h.output, h.size, fun i hi _ => h.block i hi⟩
theorem ext_grown {B : Nat} {w0 w w' : World} (h : Below B w0 w) {row : Option Nat} (hg : w.grownBy w' row) (hB : B ≤ w.heap.size) (hr : ∀ k, row = some k → B ≤ k) : Below B w0 w' := h.grown hg hB hr
theorem ext_trans {B : Nat} {a b c : World} (h : Below B a b) (hB : B ≤ b.heap.size) (k : Below b.heap.size b c) : Below B a c := h.trans (k.mono hB)

/-! ### the tally -/
abbrev intD (n : Int) : DataW Unit := .lit (.int .i64 n)
/-- Block b is a map of counts: f says them. -/
def Tal (w : World) (b n : Nat) (f : Int → Int) : Prop :=
  ∃ D : DataW Unit, w.ownsMap Tryd.prog 3 (plainElem Tryd.prog 3) b n D ∧ Maps.IsMap D ∧ ∀ x : Int, (Lit.int .i64 x).wf = true → D.atKey (.int .i64 x) (intD 0) = intD (f x)

theorem under_int : Tryd.prog.underlying 3 = some (.int .i64) := Tryd.underlying3
theorem zero_int (W : World) : (zeroValue 3).run Tryd.prog W = .ok (.int .i64 0) W := by kernel_rfl
theorem Tal.made (w : World) : Tal (w.alloc (.map #[] 0)) w.heap.size 0 (fun _ => 0) :=
  ⟨.map [], World.ownsMap_made _ _ _ _, Maps.isMap_empty, fun _ _ => rfl⟩
theorem Tal.grown {w w' : World} {b n : Nat} {f : Int → Int} (h : Tal w b n f) {row : Option Nat} (hg : w.grownBy w' row) (hne : some b ≠ row) : Tal w' b n f := by
  obtain ⟨D, h1, h2⟩ := h
  exact ⟨D, h1.kept hg hne, h2⟩
theorem Tal.below {w w' : World} {b n : Nat} {f : Int → Int} (h : Tal w b n f) (hb : Below w.heap.size w w') : Tal w' b n f := h.grown (grown_of_ext hb) (by simp)
theorem Tal.lt {w : World} {b n : Nat} {f : Int → Int} (h : Tal w b n f) : b < w.heap.size := by
  obtain ⟨D, h1, _⟩ := h; exact h1.lt
theorem Tal.look {w : World} {b n : Nat} {f : Int → Int} (h : Tal w b n f) (k : Int) (hk : (Lit.int .i64 k).wf = true) :
    (Instr.lookup 72 (.map (some b)) (.int .i64 k) false).run Tryd.prog w = .ok (.int .i64 (f k)) w := by
  obtain ⟨D, h1, _, h3⟩ := h
  obtain ⟨c, hrun, hat, _⟩ := h1.lookup_int (t := 72) (q := .i64) (Maps.int_keyed under_int) Tryd.underlying72 under_int (zero_int w) (Maps.keyOf_int_mk under_int hk)
  have hc := (h3 k hk).symm.trans hat
  have hc' : f k = c := (Lit.int.inj (DataW.lit.inj hc)).2
  rw [hc']
  exact hrun
def upd (f : Int → Int) (k v : Int) : Int → Int := fun x => if x = k then v else f x
theorem Tal.put {w : World} {b n : Nat} {f : Int → Int} (h : Tal w b n f) (hn : n < maxLen) (k v : Int) (hk : (Lit.int .i64 k).wf = true) (hv : (Lit.int .i64 v).wf = true) :
    ∃ w', (Instr.mapUpdate 72 (.map (some b)) (.int .i64 k) (.int .i64 v)).run Tryd.prog w = .ok () w' ∧ Tal w' b (n + 1) (upd f k v) ∧ w.grownBy w' (some b) := by
  obtain ⟨D, h1, h2, h3⟩ := h
  obtain ⟨w', hrun, ho, hg⟩ := h1.update (t := 72) (Maps.int_keyed under_int) Tryd.underlying72 hn (key := .int .i64 k) (val := .int .i64 v) (Maps.keyOf_int_mk under_int hk) (plainElem_int under_int hv)
  refine ⟨w', hrun, ⟨_, ho, h2.put _ _, fun x hx => ?_⟩, hg⟩
  by_cases he : x = k
  · subst he
    rw [Maps.atKey_put_same (k := .int .i64 x) h2 (show WideAt.IsKeyLit (.int .i64 x) from trivial)]
    simp [upd]
  · rw [Maps.atKey_put_other (k := .int .i64 k) (k' := .int .i64 x) (fun e => he (Lit.int.inj e).2), h3 x hx]
    simp [upd, he]

theorem add_c (b n : Nat) (f : Int → Int) (k : Int) (w : World) (h : Tal w b n f) (hn : n < maxLen) (hk : (Lit.int .i64 k).wf = true) (h0 : 0 ≤ f k) (h1 : f k < 1000) :
    Calls Tryd.prog 50 #[.map (some b), .int .i64 k] w fun e w' => e = .returned (.int .i64 (f k + 1)) ∧ Tal w' b (n + 1) (upd f k (f k + 1)) ∧ w.grownBy w' (some b) := by
  have hl := h.look k hk
  obtain ⟨w1, hp, ht, hg⟩ := h.put hn k (f k + 1) hk (WalkArith.wf_i64 (by omega))
  have hl1 := ht.look k hk
  have he : upd f k (f k + 1) k = f k + 1 := by simp [upd]
  rw [he] at hl1
  clear he
  have HT := Lib.hid ht; have HG := Lib.hid hg; clear ht hg h
  go_enter Tryd.func50, Tryd.ntmps50
  go_wp2
  go_ret
  exact ⟨rfl, HT.out, HG.out⟩
end Go.Proofs.YtjhbbgeebobcpaaDoor
namespace Go.Proofs.YtjhbbgeebobcpaaDoor
open Go.RowKit
set_option linter.unusedVariables false

def i64 (x : Int) : Prop := -9223372036854775808 ≤ x ∧ x ≤ 9223372036854775807
def OpW (o : Op) : Prop := i64 o.id ∧ i64 o.up ∧ i64 o.pos
def inR (n a b : Int) : Bool := decide (a ≤ n ∧ n ≤ b)
def dv (a b : Int) : Int := a.tdiv b
def rm (a b : Int) : Int := a.tmod b

theorem in_c (n a b : Int) (w : World) :
    Calls Tryd.prog 54 #[.int .i64 n, .int .i64 a, .int .i64 b] w fun e w' => e = .returned (.bool (inR n a b)) ∧ w' = w := by
  by_cases h1 : a ≤ n <;> by_cases h2 : n ≤ b
  all_goals
    go_enter Tryd.func54, Tryd.ntmps54
    go_wp2
    go_ret
    exact ⟨by simp [inR, h1, h2], rfl⟩

theorem made_s (id : Int) (w : World) (hi : i64 id) :
    Calls Tryd.prog 92 #[.int .i64 id] w fun e w' => e = .returned (.bool (isMade id)) ∧ w' = w := by
  obtain ⟨hi1, hi2⟩ := hi
  by_cases h0 : 0 ≤ id
  · have hq : 0 ≤ id / 10 ∧ id / 10 ≤ 922337203685477580 := by omega
    obtain ⟨hq0, hq1⟩ := hq
    have e1 : isMade id = (inR (id / 10) 1 3 && inR (id % 10) 1 6) := by
      rw [Bool.eq_iff_iff, Bool.and_eq_true]
      simp only [inR, isMade_iff, decide_eq_true_eq]
      omega
    rw [e1]
    cases h3 : inR (id / 10) 1 3
    · have HC := Lib.hid (in_c (id / 10) 1 3 w)
      rw [h3] at HC
      clear h3 e1
      go_enter Tryd.func92, Tryd.ntmps92
      go_wp2_with (go_at_call 54; refine HC.out.mono ?_; rintro e w' ⟨rfl, rfl⟩)
      go_ret
      exact ⟨rfl, rfl⟩
    · have HC := Lib.hid (in_c (id / 10) 1 3 w)
      rw [h3] at HC
      clear h3 e1
      go_enter Tryd.func92, Tryd.ntmps92
      go_wp2_with fail
      refine HC.out.mono ?_; rintro e w' ⟨rfl, rfl⟩
      go_wp2_with fail
      refine (in_c (id % 10) 1 6 _).mono ?_; rintro e w' ⟨rfl, rfl⟩
      go_wp2_with fail
      go_ret
      exact ⟨by simp, rfl⟩
  · have e1 : isMade id = false := by simp [isMade]; omega
    have hq : id.tdiv 10 ≤ 0 ∧ -922337203685477580 ≤ id.tdiv 10 := by
      have e2 : id.tdiv 10 = -((-id) / 10) := by rw [← Int.tdiv_eq_ediv_of_nonneg (by omega), Int.neg_tdiv, Int.neg_neg]
      omega
    obtain ⟨hq0, hq1⟩ := hq
    have h3 : inR (id.tdiv 10) 1 3 = false := by simp [inR]; omega
    rw [e1]
    have HC := Lib.hid (in_c (id.tdiv 10) 1 3 w)
    rw [h3] at HC
    clear h3 e1
    go_enter Tryd.func92, Tryd.ntmps92
    go_wp2_with fail
    refine HC.out.mono ?_; rintro e w' ⟨rfl, rfl⟩
    go_wp2_with fail
    go_ret
    exact ⟨rfl, rfl⟩

theorem root_s (id : Int) (w : World) :
    Calls Tryd.prog 78 #[.int .i64 id] w fun e w' => e = .returned (.bool (isRoot id)) ∧ w' = w := by
  go_enter Tryd.func78, Tryd.ntmps78
  go_wp2_with fail
  refine (in_c id 1 3 _).mono ?_; rintro e w' ⟨rfl, rfl⟩
  go_wp2_with fail
  go_ret
  exact ⟨by rfl, rfl⟩

def idOk (id : Int) : Bool := isRoot id || isMade id
theorem id_s (id : Int) (w : World) (hi : i64 id) :
    Calls Tryd.prog 98 #[.int .i64 id] w fun e w' => e = .returned (.bool (idOk id)) ∧ w' = w := by
  cases hr : isRoot id
  · have HC := Lib.hid (root_s id w)
    rw [hr] at HC
    have HM := Lib.hid (made_s id w hi)
    have he : idOk id = isMade id := by simp [idOk, hr]
    have HE := Lib.hid he
    clear hr he hi
    go_enter Tryd.func98, Tryd.ntmps98
    go_wp2_with fail
    refine HC.out.mono ?_; rintro e w' ⟨rfl, rfl⟩
    go_wp2_with fail
    refine HM.out.mono ?_; rintro e w' ⟨rfl, rfl⟩
    go_wp2_with fail
    go_ret
    exact ⟨by rw [HE.out]; rfl, rfl⟩
  · have HC := Lib.hid (root_s id w)
    rw [hr] at HC
    have he : idOk id = true := by simp [idOk, hr]
    have HE := Lib.hid he
    clear hr he hi
    go_enter Tryd.func98, Tryd.ntmps98
    go_wp2_with fail
    refine HC.out.mono ?_; rintro e w' ⟨rfl, rfl⟩
    go_wp2_with fail
    go_ret
    exact ⟨by rw [HE.out]; rfl, rfl⟩

theorem rowMade_s (who n : Int) (w : World) (h1 : i64 who) (h2 : i64 n) :
    Calls Tryd.prog 93 #[.int .i64 who, .int .i64 n] w fun e w' => e = .returned (.int .i64 (rowMade who n)) ∧ w' = w := by
  cases ha : inR who 1 3
  · have HC := Lib.hid (in_c who 1 3 w)
    rw [ha] at HC
    have he : rowMade who n = 0 := by unfold rowMade; rw [if_neg]; intro ⟨a, b, _⟩; simp [inR, a, b] at ha
    rw [he]
    clear ha he h1 h2
    go_enter Tryd.func93, Tryd.ntmps93
    go_wp2_with fail
    refine HC.out.mono ?_; rintro e w' ⟨rfl, rfl⟩
    go_wp2_with fail
    go_ret
    exact ⟨rfl, rfl⟩
  · have HC := Lib.hid (in_c who 1 3 w)
    rw [ha] at HC
    have ha' : 1 ≤ who ∧ who ≤ 3 := by simpa [inR] using ha
    obtain ⟨ha0, ha1⟩ := ha'
    cases hb : inR n 1 6
    · have HD := Lib.hid (in_c n 1 6 w)
      rw [hb] at HD
      have he : rowMade who n = 0 := by unfold rowMade; rw [if_neg]; intro ⟨_, _, a, b⟩; simp [inR, a, b] at hb
      rw [he]
      clear ha he h1 h2 hb
      go_enter Tryd.func93, Tryd.ntmps93
      go_wp2_with fail
      refine HC.out.mono ?_; rintro e w' ⟨rfl, rfl⟩
      go_wp2_with fail
      refine HD.out.mono ?_; rintro e w' ⟨rfl, rfl⟩
      go_wp2_with fail
      go_ret
      exact ⟨rfl, rfl⟩
    · have HD := Lib.hid (in_c n 1 6 w)
      rw [hb] at HD
      have hb' : 1 ≤ n ∧ n ≤ 6 := by simpa [inR] using hb
      obtain ⟨hb0, hb1⟩ := hb'
      have he : rowMade who n = 10 * who + n := by unfold rowMade; rw [if_pos ⟨ha0, ha1, hb0, hb1⟩]
      rw [he]
      clear ha he h1 h2 hb
      go_enter Tryd.func93, Tryd.ntmps93
      go_wp2_with fail
      refine HC.out.mono ?_; rintro e w' ⟨rfl, rfl⟩
      go_wp2_with fail
      refine HD.out.mono ?_; rintro e w' ⟨rfl, rfl⟩
      go_wp2_with fail
      go_ret
      exact ⟨rfl, rfl⟩

set_option maxHeartbeats 400000 in
theorem text_s (s : ByteArray) (w : World) (hs : s.size ≤ maxLen) :
    Calls Tryd.prog 91 #[.string s] w fun e w' => e = .returned (.bool (textOk s)) ∧ w' = w := by
  unfold maxLen at hs
  go_enter Tryd.func91, Tryd.ntmps91
  go_wp2_with fail
  go_loop [3] (fun i => ∃ k : Nat, k ≤ s.size ∧ i = .int .i64 k ∧ Hid ((s.data.toList.take k).all letter = true)) (fun i => s.size - (intOf i).toNat)
  case atStart => exact ⟨0, Nat.zero_le _, rfl, rfl⟩
  case round =>
    obtain ⟨k, hk, rfl, HA⟩ := hrel
    by_cases hlt : k < s.size
    · have HT := Lib.hid (take_all s k hlt)
      have hub : (s[k].toNat : Int) < 256 := by have := s[k].toNat_lt; omega
      cases hl : letter s[k]
      · have HB := Lib.hid (all_bad s.data.toList k (by simpa using hlt) hl)
        have HC := Lib.hid (in_c (s[k].toNat : Int) 97 100 w)
        have h9 : inR (s[k].toNat : Int) 97 100 = false := by simp [letter] at hl; simp [inR]; omega
        rw [h9] at HC
        clear hl h9
        go_wp2_with fail
        refine HC.out.mono ?_; rintro e w' ⟨rfl, rfl⟩
        go_wp2_with fail
        go_ret
        exact ⟨by rw [textOk, HB.out, Bool.and_false]; rfl, rfl⟩
      · have HL := Lib.hid hl
        have HC := Lib.hid (in_c (s[k].toNat : Int) 97 100 w)
        have h9 : inR (s[k].toNat : Int) 97 100 = true := by simp [letter] at hl; simp [inR]; omega
        rw [h9] at HC
        clear hl h9
        go_wp2_with fail
        refine HC.out.mono ?_; rintro e w' ⟨rfl, rfl⟩
        go_wp2_with fail
        go_round
        case rel => exact ⟨k + 1, by omega, by go_num, by show _ = _; rw [HT.out, HA.out, HL.out]; rfl⟩
        case measure => simp [intOf]; omega
    · have hall : s.data.toList.all letter = true := by have := HA.out; rwa [List.take_of_length_le (by simp; omega)] at this
      have HALL := Lib.hid hall
      clear hall
      by_cases h4 : s.size ≤ 4
      · have HE : Hid (textOk s = true) := by show _ = _; rw [textOk, HALL.out, Bool.and_true]; simp [h4]
        go_wp2_with fail
        go_ret
        exact ⟨by rw [HE.out]; simp; omega, rfl⟩
      · have HE : Hid (textOk s = false) := by show _ = _; rw [textOk, HALL.out, Bool.and_true]; simp; omega
        go_wp2_with fail
        go_ret
        exact ⟨by rw [HE.out]; simp; omega, rfl⟩
end Go.Proofs.YtjhbbgeebobcpaaDoor
namespace Go.Proofs.YtjhbbgeebobcpaaDoor
set_option linter.unusedVariables false

inductive T where
  | nil
  | node (id : Int) (tx : ByteArray) (first next : T)

namespace T
def ids : T → List Int
  | nil => []
  | node id _ f n => id :: (ids f ++ ids n)
def rows (d : Int) : T → List Row
  | nil => []
  | node id tx f n => ⟨id, d, tx⟩ :: (rows (d + 1) f ++ rows d n)
def chain : T → List Int
  | nil => []
  | node id _ _ n => id :: chain n
/-- The text of a row, and what stands under it. -/
def get (m : Int) : T → Option (ByteArray × T)
  | nil => none
  | node id tx f n => if id = m then some (tx, f) else (get m f).or (get m n)
/-- Under which row a row stands. -/
def upOf (m : Int) (up : Option Int) : T → Option (Option Int)
  | nil => none
  | node id tx f n => if id = m then some up else (upOf m (some id) f).or (upOf m up n)
def cut (m : Int) : T → T
  | nil => nil
  | node id tx f n => if id = m then n else node id tx (cut m f) (cut m n)
def insF (u : Int) (id : Int) (tx : ByteArray) (s : T) : T → T
  | nil => nil
  | node i x f n => if i = u then node i x (node id tx s f) n else node i x (insF u id tx s f) (insF u id tx s n)
def insN (a : Int) (id : Int) (tx : ByteArray) (s : T) : T → T
  | nil => nil
  | node i x f n => if i = a then node i x f (node id tx s n) else node i x (insN a id tx s f) (insN a id tx s n)
def setT (m : Int) (tx : ByteArray) : T → T
  | nil => nil
  | node i x f n => if i = m then node i tx f n else node i x (setT m tx f) (setT m tx n)

theorem rows_ids (d : Int) (t : T) : (rows d t).map (·.id) = ids t := by
  induction t generalizing d with
  | nil => rfl
  | node id tx f n ihf ihn => simp [rows, ids, ihf, ihn]
theorem rows_depth (d : Int) (t : T) : ∀ r ∈ rows d t, d ≤ r.depth := by
  induction t generalizing d with
  | nil => simp [rows]
  | node id tx f n ihf ihn =>
    intro r hr
    simp only [rows, List.mem_cons, List.mem_append] at hr
    rcases hr with rfl | hr | hr
    · exact Int.le_refl _
    · have := ihf (d + 1) r hr; omega
    · exact ihn d r hr
theorem rows_head (d : Int) (t : T) : ∀ r, (rows d t).head? = some r → r.depth = d := by
  cases t with
  | nil => simp [rows]
  | node id tx f n => intro r hr; simp [rows] at hr; rw [← hr]
theorem cut_not (m : Int) (t : T) (h : m ∉ ids t) : cut m t = t := by
  induction t with
  | nil => rfl
  | node id tx f n ihf ihn =>
    simp only [ids, List.mem_cons, List.mem_append, not_or] at h
    rw [cut, if_neg (fun e => h.1 e.symm), ihf h.2.1, ihn h.2.2]
theorem insF_not (u id : Int) (tx : ByteArray) (s t : T) (h : u ∉ ids t) : insF u id tx s t = t := by
  induction t with
  | nil => rfl
  | node i x f n ihf ihn =>
    simp only [ids, List.mem_cons, List.mem_append, not_or] at h
    rw [insF, if_neg (fun e => h.1 e.symm), ihf h.2.1, ihn h.2.2]
theorem insN_not (u id : Int) (tx : ByteArray) (s t : T) (h : u ∉ ids t) : insN u id tx s t = t := by
  induction t with
  | nil => rfl
  | node i x f n ihf ihn =>
    simp only [ids, List.mem_cons, List.mem_append, not_or] at h
    rw [insN, if_neg (fun e => h.1 e.symm), ihf h.2.1, ihn h.2.2]
theorem setT_not (u : Int) (tx : ByteArray) (t : T) (h : u ∉ ids t) : setT u tx t = t := by
  induction t with
  | nil => rfl
  | node i x f n ihf ihn =>
    simp only [ids, List.mem_cons, List.mem_append, not_or] at h
    rw [setT, if_neg (fun e => h.1 e.symm), ihf h.2.1, ihn h.2.2]
theorem get_not (m : Int) (t : T) (h : m ∉ ids t) : get m t = none := by
  induction t with
  | nil => rfl
  | node i x f n ihf ihn =>
    simp only [ids, List.mem_cons, List.mem_append, not_or] at h
    rw [get, if_neg (fun e => h.1 e.symm), ihf h.2.1, ihn h.2.2]; rfl
theorem upOf_not (m : Int) (up : Option Int) (t : T) (h : m ∉ ids t) : upOf m up t = none := by
  induction t generalizing up with
  | nil => rfl
  | node i x f n ihf ihn =>
    simp only [ids, List.mem_cons, List.mem_append, not_or] at h
    rw [upOf, if_neg (fun e => h.1 e.symm), ihf _ h.2.1, ihn _ h.2.2]; rfl

/-- Where a row stands in the list, and what each turn makes of the list. -/
structure Split (d : Int) (t : T) (m : Int) (pre : List Row) (k : Int) (x : ByteArray) (f n : T) (post : List Row) : Prop where
  all : rows d t = pre ++ ⟨m, k, x⟩ :: (rows (k + 1) f ++ (rows k n ++ post))
  got : get m t = some (x, f)
  deep : d ≤ k
  ends : ∀ r, post.head? = some r → r.depth < k
  cut : rows d (cut m t) = pre ++ (rows k n ++ post)
  insF : ∀ id tx s, rows d (insF m id tx s t) = pre ++ ⟨m, k, x⟩ :: (rows (k + 1) (node id tx s f) ++ (rows k n ++ post))
  insN : ∀ id tx s, rows d (insN m id tx s t) = pre ++ ⟨m, k, x⟩ :: (rows (k + 1) f ++ (rows k (node id tx s n) ++ post))
  setT : ∀ tx, rows d (setT m tx t) = pre ++ ⟨m, k, tx⟩ :: (rows (k + 1) f ++ (rows k n ++ post))

theorem split (m : Int) (t : T) (hm : m ∈ ids t) (nd : (ids t).Nodup) : ∀ d, ∃ pre k x f n post, Split d t m pre k x f n post := by
  induction t with
  | nil => simp [ids] at hm
  | node id tx f n ihf ihn =>
    intro d
    simp only [ids, List.nodup_cons, List.nodup_append, List.mem_append, not_or] at nd
    obtain ⟨⟨h1, h2⟩, ndf, ndn, hd⟩ := nd
    by_cases he : id = m
    · subst he
      exact ⟨[], d, tx, f, n, [], ⟨by simp [rows], by simp [get], Int.le_refl _, by simp, by simp [T.cut], by intro a b c; simp [T.insF, rows], by intro a b c; simp [T.insN, rows], by intro a; simp [T.setT, rows]⟩⟩
    · simp only [ids, List.mem_cons, List.mem_append] at hm
      have hm' : m ∈ ids f ∨ m ∈ ids n := by
        rcases hm with h | h
        · exact absurd h.symm he
        · exact h
      rcases hm' with hmf | hmn
      · have hmn : m ∉ ids n := fun h => hd m hmf m h rfl
        obtain ⟨pre, k, x, f', n', post, s⟩ := ihf hmf ndf (d + 1)
        refine ⟨⟨id, d, tx⟩ :: pre, k, x, f', n', post ++ rows d n, ?_⟩
        refine ⟨by simp [rows, s.all], by simp [get, he, s.got], by have := s.deep; omega, ?_, ?_, ?_, ?_, ?_⟩
        · intro r hr
          rw [List.head?_append] at hr
          cases hp : post.head? with
          | none => rw [hp] at hr; have h3 := rows_head d n r (by simpa using hr); have := s.deep; omega
          | some q => rw [hp] at hr; simp at hr; rw [← hr]; exact s.ends q hp
        · simp [T.cut, he, rows, s.cut, cut_not m n hmn]
        · intro a b c; simp [T.insF, he, rows, s.insF, insF_not m a b c n hmn]
        · intro a b c; simp [T.insN, he, rows, s.insN, insN_not m a b c n hmn]
        · intro a; simp [T.setT, he, rows, s.setT, setT_not m a n hmn]
      · have hmf : m ∉ ids f := fun h => hd m h m hmn rfl
        obtain ⟨pre, k, x, f', n', post, s⟩ := ihn hmn ndn d
        refine ⟨⟨id, d, tx⟩ :: (rows (d + 1) f ++ pre), k, x, f', n', post, ?_⟩
        refine ⟨by simp [rows, s.all], by simp [get, he, s.got, get_not m f hmf], s.deep, s.ends, ?_, ?_, ?_, ?_⟩
        · simp [T.cut, he, rows, s.cut, cut_not m f hmf]
        · intro a b c; simp [T.insF, he, rows, s.insF, insF_not m a b c f hmf]
        · intro a b c; simp [T.insN, he, rows, s.insN, insN_not m a b c f hmf]
        · intro a; simp [T.setT, he, rows, s.setT, setT_not m a f hmf]
end T
end Go.Proofs.YtjhbbgeebobcpaaDoor
