/- What a row gives: a client as an argument, and a slice of rows or entries. -/
import Derived.Test.YtikcnbkoeglecaaDoorQQ
import Derived.Test.YtikcnbkoeglecaaDoorRC
import Derived.Deep.Slices
import Derived.Deep.Strs
namespace Go.Proofs.YtikcnbkoeglecaaDoor
open Go.RowKit Go.ChangeShapes Go.WideShapes Go.ChangeAt
set_option linter.unusedVariables false

section
variable {H : Type} {enc : TypeId × Value → H} {W : World} {base : Nat} {sp : Nat → Bool} {hd : Bool}

theorem i64_wf {n : Int} (h : (Lit.int .i64 n).wf = true) : i64 n := by
  simp [Lit.wf, IntKind.min, IntKind.max, IntKind.signed, IntKind.bits] at h
  unfold i64; omega
theorem cell_int {t : TypeId} {fuel : Nat} {a : Value} {y : DataW H × List MemPlace} (ht : Tryd.prog.underlying t = some (.int .i64)) (h : DataW.trod enc Tryd.prog W 0 sp hd fuel t [a] = some y) : ∃ z : Int, a = .int .i64 z ∧ i64 z := by
  obtain ⟨n, e, _, hw⟩ := DataW.trod_int ht h
  obtain rfl := List.cons.inj e |>.1
  exact ⟨n, rfl, i64_wf hw⟩
theorem cell_text {t : TypeId} {fuel : Nat} {a : Value} {y : DataW H × List MemPlace} (ht : Tryd.prog.underlying t = some .string) (h : DataW.trod enc Tryd.prog W 0 sp hd fuel t [a] = some y) : ∃ z : ByteArray, a = .string z ∧ z.size ≤ maxLen := by
  obtain ⟨n, e, _, hw⟩ := DataW.trod_string ht h
  obtain rfl := List.cons.inj e |>.1
  exact ⟨n, rfl, hw⟩

set_option maxRecDepth 100000 in
/-- A slice of flat structs that came in. -/
theorem arg_flat {α : Type} [Flat α] {t e : TypeId} {v : Value} {fuel : Nat} {x : DataW H × List MemPlace} (ht : Tryd.prog.underlying t = some (.slice e)) (hce : Tryd.prog.cellsOf e = Flat.sz α) (ok : α → Prop)
    (hE : ∀ n cs y, DataW.trod enc Tryd.prog W 0 sp hd n e cs = some y → ∃ r : α, cs = Flat.enc r ∧ Flat.okE r ∧ ok r)
    (hv : Value.okWide Tryd.prog W .any base t v) (h : DataW.trod enc Tryd.prog W 0 sp hd fuel t [v] = some x) :
    ∃ (A : Option Addr) (n : Nat) (l : List α), v = .slice A l.length n ∧ Rd W A n l ∧ ∀ r ∈ l, ok r := by
  obtain ⟨A, len, cap, rfl, hA⟩ := arg_slice ht hv
  rcases Go.Deep.open_slice ht h with ⟨e0, _⟩ | ⟨a, len', cap', m, n, D, Pl, e0, _, hl, hm, hmm, _, hx⟩
  · simp only [List.cons.injEq, Value.slice.injEq, and_true] at e0
    obtain ⟨rfl, rfl, rfl⟩ := e0
    exact ⟨none, 0, [], rfl, Rd.nil W, by simp⟩
  · simp only [List.cons.injEq, Value.slice.injEq, and_true] at e0
    obtain ⟨rfl, rfl, rfl⟩ := e0
    obtain ⟨b, off, spot⟩ := a
    obtain ⟨hs, hb⟩ := hA _ rfl
    simp only at hs hb
    subst hs
    have hlm : len ≤ m := by rw [hmm]; split <;> omega
    have key : ∀ i, i < len → ∃ r : α, (∀ j, j < Flat.sz α → W.cell? ⟨b, off + (i * Flat.sz α + j), none⟩ = (Flat.enc r)[j]?) ∧ Flat.okE r ∧ ok r := by
      intro i hi
      obtain ⟨cs', h1, h2⟩ := hx i (by omega)
      obtain ⟨r, rfl, hr1, hr2⟩ := hE _ _ _ h2
      refine ⟨r, fun j hj => ?_, hr1, hr2⟩
      rw [hce] at h1
      have h3 := (World.cells?_some h1).2.2 j hj
      rw [← h3]
      have hadd : ∀ (o k : Nat), (⟨b, o, none⟩ : Addr).add k = ⟨b, o + k, none⟩ := by intro o k; unfold Addr.add; split <;> simp_all
      rw [hadd, hadd, Nat.add_assoc]
    have key' : ∀ i : Fin len, ∃ r : α, (∀ j, j < Flat.sz α → W.cell? ⟨b, off + (i.1 * Flat.sz α + j), none⟩ = (Flat.enc r)[j]?) ∧ Flat.okE r ∧ ok r := fun i => key i.1 i.2
    have hR := Classical.skolem.1 key'
    obtain ⟨R, hR⟩ := hR
    have hlen : (List.ofFn R).length = len := List.length_ofFn
    refine ⟨some ⟨b, off, none⟩, cap, List.ofFn R, by rw [hlen], ⟨by rw [hlen]; exact hl, hm, fun _ => ⟨b, off, rfl, fun j v hv => ?_⟩, fun r hr => ?_⟩, fun r hr => ?_⟩
    · have hpos := Flat.pos (α := α)
      have hjl : j < (flat (List.ofFn R)).length := (List.getElem?_eq_some_iff.1 hv).1
      rw [flat_length, hlen] at hjl
      have hmd : j % Flat.sz α < Flat.sz α := Nat.mod_lt _ hpos
      have hdv : j / Flat.sz α < len := Nat.div_lt_of_lt_mul (by rw [Nat.mul_comm]; exact hjl)
      have he : j = j / Flat.sz α * Flat.sz α + j % Flat.sz α := by rw [Nat.mul_comm]; exact (Nat.div_add_mod _ _).symm
      have h1 := flat_at (List.ofFn R) (j / Flat.sz α) (by rw [hlen]; exact hdv) (j % Flat.sz α) hmd
      rw [← he, hv, List.getElem_ofFn] at h1
      have h2 := (hR ⟨j / Flat.sz α, hdv⟩).1 (j % Flat.sz α) hmd
      rw [← h1] at h2
      rw [he]; exact h2
    · obtain ⟨i, rfl⟩ := List.mem_ofFn.1 hr
      exact (hR i).2.1
    · obtain ⟨i, rfl⟩ := List.mem_ofFn.1 hr
      exact (hR i).2.2

theorem cellsRow : Tryd.prog.cellsOf 112 = 3 := by kernel_rfl
theorem cellsEntry : Tryd.prog.cellsOf 86 = 7 := by kernel_rfl
theorem cellsOp : Tryd.prog.cellsOf 84 = 5 := by kernel_rfl
theorem cellsClient : Tryd.prog.cellsOf 40 = 6 := by kernel_rfl
theorem cellsRows : Tryd.prog.cellsOf 37 = 1 := by kernel_rfl
theorem cellsEntries : Tryd.prog.cellsOf 38 = 1 := by kernel_rfl
theorem cellsText : Tryd.prog.cellsOf 9 = 1 := by kernel_rfl

theorem trod_struct5 {t : TypeId} {f0 f1 f2 f3 f4 : Field} {fuel : Nat} {cs : List Value} {x : DataW H × List MemPlace} (ht : Tryd.prog.underlying t = some (.struct #[f0, f1, f2, f3, f4])) (h : DataW.trod enc Tryd.prog W 0 sp hd fuel t cs = some x) :
    ∃ y0 y1 y2 y3 y4 n, cs.length = Tryd.prog.cellsOf t ∧ DataW.trod enc Tryd.prog W 0 sp hd n f0.type ((cs.drop f0.offset).take (Tryd.prog.cellsOf f0.type)) = some y0 ∧ DataW.trod enc Tryd.prog W 0 sp hd n f1.type ((cs.drop f1.offset).take (Tryd.prog.cellsOf f1.type)) = some y1 ∧
      DataW.trod enc Tryd.prog W 0 sp hd n f2.type ((cs.drop f2.offset).take (Tryd.prog.cellsOf f2.type)) = some y2 ∧ DataW.trod enc Tryd.prog W 0 sp hd n f3.type ((cs.drop f3.offset).take (Tryd.prog.cellsOf f3.type)) = some y3 ∧ DataW.trod enc Tryd.prog W 0 sp hd n f4.type ((cs.drop f4.offset).take (Tryd.prog.cellsOf f4.type)) = some y4 := by
  obtain ⟨xs, n, _, rfl, hl, hlen, hf⟩ := DataW.trod_struct ht h
  match xs, hlen with
  | [y0, y1, y2, y3, y4], _ => exact ⟨y0, y1, y2, y3, y4, n, hl, by simpa using hf 0 f0 rfl, by simpa using hf 1 f1 rfl, by simpa using hf 2 f2 rfl, by simpa using hf 3 f3 rfl, by simpa using hf 4 f4 rfl⟩
theorem trod_struct6 {t : TypeId} {f0 f1 f2 f3 f4 f5 : Field} {fuel : Nat} {cs : List Value} {x : DataW H × List MemPlace} (ht : Tryd.prog.underlying t = some (.struct #[f0, f1, f2, f3, f4, f5])) (h : DataW.trod enc Tryd.prog W 0 sp hd fuel t cs = some x) :
    ∃ y0 y1 y2 y3 y4 y5 n, cs.length = Tryd.prog.cellsOf t ∧ DataW.trod enc Tryd.prog W 0 sp hd n f0.type ((cs.drop f0.offset).take (Tryd.prog.cellsOf f0.type)) = some y0 ∧ DataW.trod enc Tryd.prog W 0 sp hd n f1.type ((cs.drop f1.offset).take (Tryd.prog.cellsOf f1.type)) = some y1 ∧
      DataW.trod enc Tryd.prog W 0 sp hd n f2.type ((cs.drop f2.offset).take (Tryd.prog.cellsOf f2.type)) = some y2 ∧ DataW.trod enc Tryd.prog W 0 sp hd n f3.type ((cs.drop f3.offset).take (Tryd.prog.cellsOf f3.type)) = some y3 ∧ DataW.trod enc Tryd.prog W 0 sp hd n f4.type ((cs.drop f4.offset).take (Tryd.prog.cellsOf f4.type)) = some y4 ∧
      DataW.trod enc Tryd.prog W 0 sp hd n f5.type ((cs.drop f5.offset).take (Tryd.prog.cellsOf f5.type)) = some y5 := by
  obtain ⟨xs, n, _, rfl, hl, hlen, hf⟩ := DataW.trod_struct ht h
  match xs, hlen with
  | [y0, y1, y2, y3, y4, y5], _ => exact ⟨y0, y1, y2, y3, y4, y5, n, hl, by simpa using hf 0 f0 rfl, by simpa using hf 1 f1 rfl, by simpa using hf 2 f2 rfl, by simpa using hf 3 f3 rfl, by simpa using hf 4 f4 rfl, by simpa using hf 5 f5 rfl⟩

set_option maxRecDepth 100000 in
theorem row_in {fuel : Nat} {cs : List Value} {y : DataW H × List MemPlace} (h : DataW.trod enc Tryd.prog W 0 sp hd fuel 112 cs = some y) : ∃ r : Row, cs = rowE r ∧ r.text.size ≤ maxLen ∧ (i64 r.id ∧ i64 r.depth) := by
  obtain ⟨y0, y1, y2, n, _, hl, h0, h1, h2⟩ := Go.Deep.trod_struct3 Tryd.underlying112 h
  rw [cellsRow] at hl
  match cs, hl with
  | [a, b, c], _ =>
    simp only [cellsInt, cellsText, List.drop, List.take] at h0 h1 h2
    obtain ⟨z0, rfl, w0⟩ := cell_int Tryd.underlying3 h0
    obtain ⟨z1, rfl, w1⟩ := cell_int Tryd.underlying3 h1
    obtain ⟨z2, rfl, w2⟩ := cell_text Tryd.underlying9 h2
    exact ⟨⟨z0, z1, z2⟩, rfl, w2, w0, w1⟩
set_option maxRecDepth 100000 in
theorem op_in {fuel : Nat} {cs : List Value} {y : DataW H × List MemPlace} (h : DataW.trod enc Tryd.prog W 0 sp hd fuel 84 cs = some y) : ∃ o : Op, cs = [.int .i64 o.kind, .int .i64 o.id, .int .i64 o.up, .int .i64 o.pos, .string o.text] ∧ o.text.size ≤ maxLen ∧ (i64 o.kind ∧ OpW o) := by
  obtain ⟨y0, y1, y2, y3, y4, n, hl, h0, h1, h2, h3, h4⟩ := trod_struct5 Tryd.underlying84 h
  rw [cellsOp] at hl
  match cs, hl with
  | [a, b, c, d, e], _ =>
    simp only [cellsInt, cellsText, List.drop, List.take] at h0 h1 h2 h3 h4
    obtain ⟨z0, rfl, w0⟩ := cell_int Tryd.underlying3 h0
    obtain ⟨z1, rfl, w1⟩ := cell_int Tryd.underlying3 h1
    obtain ⟨z2, rfl, w2⟩ := cell_int Tryd.underlying3 h2
    obtain ⟨z3, rfl, w3⟩ := cell_int Tryd.underlying3 h3
    obtain ⟨z4, rfl, w4⟩ := cell_text Tryd.underlying9 h4
    exact ⟨⟨z0, z1, z2, z3, z4⟩, rfl, w4, w0, w1, w2, w3⟩
set_option maxRecDepth 100000 in
theorem ent_in {fuel : Nat} {cs : List Value} {y : DataW H × List MemPlace} (h : DataW.trod enc Tryd.prog W 0 sp hd fuel 86 cs = some y) : ∃ e : Entry, cs = entE e ∧ e.op.text.size ≤ maxLen ∧ (i64 e.who ∧ i64 e.seq ∧ i64 e.op.kind ∧ OpW e.op) := by
  obtain ⟨y0, y1, y2, n, _, hl, h0, h1, h2⟩ := Go.Deep.trod_struct3 Tryd.underlying86 h
  rw [cellsEntry] at hl
  match cs, hl with
  | [a, b, c, d, e, f, g], _ =>
    simp only [cellsInt, cellsOp, List.drop, List.take] at h0 h1 h2
    obtain ⟨z0, rfl, w0⟩ := cell_int Tryd.underlying3 h0
    obtain ⟨z1, rfl, w1⟩ := cell_int Tryd.underlying3 h1
    obtain ⟨o, e, w2, w3, w4⟩ := op_in h2
    simp only [List.cons.injEq, and_true] at e
    obtain ⟨rfl, rfl, rfl, rfl, rfl⟩ := e
    exact ⟨⟨z0, z1, o⟩, rfl, w2, w0, w1, w3, w4⟩

set_option maxRecDepth 100000 in
theorem arg_rows {v : Value} {fuel : Nat} {x : DataW H × List MemPlace} (hv : Value.okWide Tryd.prog W .any base 37 v) (h : DataW.trod enc Tryd.prog W 0 sp hd fuel 37 [v] = some x) :
    ∃ (A : Option Addr) (n : Nat) (l : List Row), v = .slice A l.length n ∧ Rd W A n l ∧ ∀ r ∈ l, i64 r.id ∧ i64 r.depth :=
  arg_flat Tryd.underlying37 cellsRow _ (fun _ _ _ => row_in) hv h
set_option maxRecDepth 100000 in
theorem arg_entries {v : Value} {fuel : Nat} {x : DataW H × List MemPlace} (hv : Value.okWide Tryd.prog W .any base 38 v) (h : DataW.trod enc Tryd.prog W 0 sp hd fuel 38 [v] = some x) :
    ∃ (A : Option Addr) (n : Nat) (l : List Entry), v = .slice A l.length n ∧ Rd W A n l ∧ ∀ e ∈ l, i64 e.who ∧ i64 e.seq ∧ i64 e.op.kind ∧ OpW e.op :=
  arg_flat Tryd.underlying38 cellsEntry _ (fun _ _ _ => ent_in) hv h

theorem client_cells : Tryd.prog.cellTypes Tryd.prog.depth 40 = some [3, 3, 37, 38, 3, 3] := by kernel_rfl

set_option maxRecDepth 100000 in
/-- A client that came in. -/
theorem arg_client {v : Value} {d : DataW H} {p : List MemPlace} (hv : Value.okWide Tryd.prog W .any base 40 v) (h : DataW.Trod enc Tryd.prog W 0 sp hd 40 v d p) :
    ∃ c : Client, CV W c v ∧ (i64 c.who ∧ i64 c.seen ∧ i64 c.done ∧ i64 c.made) ∧ (∀ r ∈ c.base, i64 r.id ∧ i64 r.depth) ∧ ∀ e ∈ c.wait, i64 e.who ∧ i64 e.seq ∧ i64 e.op.kind ∧ OpW e.op := by
  obtain ⟨fuel, h⟩ := h
  unfold Value.okWide at hv
  rw [Tryd.underlying40] at hv
  obtain ⟨cs, rfl, hsz, ts, hts, _, hcell⟩ := hv
  rw [client_cells] at hts
  obtain rfl := Option.some.inj hts
  obtain ⟨y0, y1, y2, y3, y4, y5, n, hl, h0, h1, h2, h3, h4, h5⟩ := trod_struct6 Tryd.underlying40 h
  obtain ⟨cs⟩ := cs
  rw [cellsClient] at hsz
  simp only [Value.cells] at h0 h1 h2 h3 h4 h5
  match cs, hsz with
  | [a, b, c, d, e, f], _ =>
    simp only [cellsInt, cellsRows, cellsEntries, List.drop, List.take] at h0 h1 h2 h3 h4 h5
    obtain ⟨z0, rfl, w0⟩ := cell_int Tryd.underlying3 h0
    obtain ⟨z1, rfl, w1⟩ := cell_int Tryd.underlying3 h1
    obtain ⟨z4, rfl, w4⟩ := cell_int Tryd.underlying3 h4
    obtain ⟨z5, rfl, w5⟩ := cell_int Tryd.underlying3 h5
    obtain ⟨u2, hu2, ok2⟩ := hcell 2 c rfl
    obtain ⟨u3, hu3, ok3⟩ := hcell 3 d rfl
    obtain rfl := Option.some.inj hu2
    obtain rfl := Option.some.inj hu3
    obtain ⟨A1, n1, l1, rfl, hr1, hi1⟩ := arg_rows (base := base) (by unfold Value.okWide; rw [Tryd.underlying37]; exact ok2) h2
    obtain ⟨A2, n2, l2, rfl, hr2, hi2⟩ := arg_entries (base := base) (by unfold Value.okWide; rw [Tryd.underlying38]; exact ok3) h3
    exact ⟨⟨z0, z1, l1, l2, z4, z5⟩, ⟨A1, n1, A2, n2, rfl, hr1, hr2⟩, ⟨w0, w1, w4, w5⟩, hi1, hi2⟩
end
end Go.Proofs.YtikcnbkoeglecaaDoor
