/- The exact laws' helpers: entries and clients are marked. The exact laws' helpers: marks are still held. -/
import Derived.Test.YtikcnbkoeglecaaDoorRF
import Derived.Test.YtikcnbkoeglecaaDoorRA
import Derived.Test.YtikcnbkoeglecaaDoorRC
import Derived.Test.YtikcnbkoeglecaaDoorQP
import Derived.Deep.RegionHeld3
namespace Go.Proofs.YtikcnbkoeglecaaDoor
open Go.RowKit
set_option linter.unusedVariables false

theorem own_mark_ent {w : World} {base g cap n : Nat} {L : List Entry} (h : Own 58 w base (.slice (some ⟨g, 0, none⟩) n cap) L) (hn : L.length = n) (k : Nat) (hk : k < n) (x0 x1 x2 x3 x4 x5 : Int) :
    ∃ t : ByteArray, Own 58 ((((((w.setCell ⟨g, k * 7, none⟩ (.int .i64 x0)).setCell ⟨g, k * 7 + 1, none⟩ (.int .i64 x1)).setCell ⟨g, k * 7 + 2, none⟩ (.int .i64 x2)).setCell ⟨g, k * 7 + 3, none⟩ (.int .i64 x3)).setCell ⟨g, k * 7 + 4, none⟩ (.int .i64 x4)).setCell ⟨g, k * 7 + 5, none⟩ (.int .i64 x5)) base (.slice (some ⟨g, 0, none⟩) n cap) (L.set k ⟨x0, x1, ⟨x2, x3, x4, x5, t⟩⟩) := by
  subst hn
  have hT : L[k].op.text.size ≤ maxLen := h.2 L[k] (List.getElem_mem hk)
  have e0 := (Own.store h k hk ⟨x0, L[k].seq, ⟨L[k].op.kind, L[k].op.id, L[k].op.up, L[k].op.pos, L[k].op.text⟩⟩ (show L[k].op.text.size ≤ maxLen from hT) 0 (.int .i64 x0) (by decide) rfl).1
  have e1 := (Own.store (l := L.set k ⟨x0, L[k].seq, ⟨L[k].op.kind, L[k].op.id, L[k].op.up, L[k].op.pos, L[k].op.text⟩⟩) (by rw [List.length_set] at *; exact e0) k (by rw [List.length_set]; exact hk) ⟨x0, x1, ⟨L[k].op.kind, L[k].op.id, L[k].op.up, L[k].op.pos, L[k].op.text⟩⟩ (show L[k].op.text.size ≤ maxLen from hT) 1 (.int .i64 x1) (by decide) (by rw [List.getElem_set_self]; rfl)).1
  rw [List.set_set] at e1
  have e2 := (Own.store (l := L.set k ⟨x0, x1, ⟨L[k].op.kind, L[k].op.id, L[k].op.up, L[k].op.pos, L[k].op.text⟩⟩) (by rw [List.length_set] at *; exact e1) k (by rw [List.length_set]; exact hk) ⟨x0, x1, ⟨x2, L[k].op.id, L[k].op.up, L[k].op.pos, L[k].op.text⟩⟩ (show L[k].op.text.size ≤ maxLen from hT) 2 (.int .i64 x2) (by decide) (by rw [List.getElem_set_self]; rfl)).1
  rw [List.set_set] at e2
  have e3 := (Own.store (l := L.set k ⟨x0, x1, ⟨x2, L[k].op.id, L[k].op.up, L[k].op.pos, L[k].op.text⟩⟩) (by rw [List.length_set] at *; exact e2) k (by rw [List.length_set]; exact hk) ⟨x0, x1, ⟨x2, x3, L[k].op.up, L[k].op.pos, L[k].op.text⟩⟩ (show L[k].op.text.size ≤ maxLen from hT) 3 (.int .i64 x3) (by decide) (by rw [List.getElem_set_self]; rfl)).1
  rw [List.set_set] at e3
  have e4 := (Own.store (l := L.set k ⟨x0, x1, ⟨x2, x3, L[k].op.up, L[k].op.pos, L[k].op.text⟩⟩) (by rw [List.length_set] at *; exact e3) k (by rw [List.length_set]; exact hk) ⟨x0, x1, ⟨x2, x3, x4, L[k].op.pos, L[k].op.text⟩⟩ (show L[k].op.text.size ≤ maxLen from hT) 4 (.int .i64 x4) (by decide) (by rw [List.getElem_set_self]; rfl)).1
  rw [List.set_set] at e4
  have e5 := (Own.store (l := L.set k ⟨x0, x1, ⟨x2, x3, x4, L[k].op.pos, L[k].op.text⟩⟩) (by rw [List.length_set] at *; exact e4) k (by rw [List.length_set]; exact hk) ⟨x0, x1, ⟨x2, x3, x4, x5, L[k].op.text⟩⟩ (show L[k].op.text.size ≤ maxLen from hT) 5 (.int .i64 x5) (by decide) (by rw [List.getElem_set_self]; rfl)).1
  rw [List.set_set] at e5
  rw [List.length_set] at e5
  exact ⟨_, e5⟩
theorem own_mark_etext {w : World} {base g cap n : Nat} {L : List Entry} {x0 x1 x2 x3 x4 x5 : Int} {t : ByteArray} (k : Nat) (hk : k < n) (hn : L.length = n) (h : Own 58 w base (.slice (some ⟨g, 0, none⟩) n cap) (L.set k ⟨x0, x1, ⟨x2, x3, x4, x5, t⟩⟩)) (x : Entry) (hx : x.op.text.size ≤ maxLen) (h0 : x.who = x0) (h1 : x.seq = x1) (h2 : x.op.kind = x2) (h3 : x.op.id = x3) (h4 : x.op.up = x4) (h5 : x.op.pos = x5) :
    Own 58 (w.setCell ⟨g, k * 7 + 6, none⟩ (.string x.op.text)) base (.slice (some ⟨g, 0, none⟩) n cap) (L.set k x) := by
  subst hn; subst h0; subst h1; subst h2; subst h3; subst h4; subst h5
  have e3 := (Own.store (l := L.set k ⟨x.who, x.seq, ⟨x.op.kind, x.op.id, x.op.up, x.op.pos, t⟩⟩) (by rw [List.length_set]; exact h) k (by rw [List.length_set]; exact hk) x hx 6 (.string x.op.text) (by decide) (by rw [List.getElem_set_self]; rfl)).1
  rw [List.set_set, List.length_set] at e3
  exact e3

set_option maxRecDepth 100000 in
set_option maxHeartbeats 4000000 in
theorem markEntryS_c (v : Value) (l : List Entry) (base k : Nat) (w : World) (h : Own 58 w base v l) (hk : 0 < k) (hb : k + 7 * l.length ≤ 100000000) :
    Calls Tryd.prog 28 #[v, .int .i64 k] w fun x w' => x = .returned (.int .i64 (k + 7 * l.length : Nat)) ∧ Own 58 w' base v (markEs k l.length) ∧ w.grownBy w' v.ownBlock := by
  obtain ⟨A, c, rfl, hr⟩ := h.rd
  have HO := Lib.hid h
  clear h hr
  go_enter Tryd.func28, Tryd.ntmps28
  go_wp2_with fail
  go_loopg [1, 5] l.length (fun gk a i wr => ∃ j m : Nat, j ≤ l.length ∧ m ≤ 100000000 ∧ Hid (m = k + 7 * j) ∧ Hid (gk = l.length - j) ∧ a = .int .i64 m ∧ i = .int .i64 j ∧ Hid (Own 58 wr base (.slice A l.length c) (markEs k j ++ l.drop j)) ∧ Hid (w.grownBy wr (Value.slice A l.length c).ownBlock))
  case atStart => exact ⟨0, k, Nat.zero_le _, by omega, rfl, rfl, rfl, rfl, HO.out, World.grownBy.refl _ _⟩
  case round =>
    obtain ⟨j, m, hj, hm9, HM, HK, rfl, rfl, HQ, HG⟩ := hrel
    by_cases hlt : j < l.length
    · obtain ⟨g, rfl⟩ := HQ.out.at0 (by omega)
      have hL : (markEs k j ++ l.drop j).length = l.length := mark_len (markEnt k) l j hj
      have hm8 : m ≤ 99999993 := by have := HM.out; omega
      have hf := HQ.out.frz
      obtain ⟨v0, v1, v2, v3, v4, v5, v6, y0, y1, y2, y3, y4, y5, y6⟩ := HQ.out.cells7 j hlt
      obtain ⟨t, ho1⟩ := own_mark_ent HQ.out hL j hlt m (m + 1) (m + 1 + 1) (m + 1 + 1 + 1) (m + 1 + 1 + 1 + 1) (m + 1 + 1 + 1 + 1 + 1)
      have hmk := HM.out
      have hT := markText_c (m + 6) ((((((wr.setCell ⟨g, j * 7, none⟩ (.int .i64 m)).setCell ⟨g, j * 7 + 1, none⟩ (.int .i64 (m + 1))).setCell ⟨g, j * 7 + 2, none⟩ (.int .i64 (m + 1 + 1))).setCell ⟨g, j * 7 + 3, none⟩ (.int .i64 (m + 1 + 1 + 1))).setCell ⟨g, j * 7 + 4, none⟩ (.int .i64 (m + 1 + 1 + 1 + 1))).setCell ⟨g, j * 7 + 5, none⟩ (.int .i64 (m + 1 + 1 + 1 + 1 + 1))) (by omega) (by omega)
      rw [show (((m + 6 : Nat)) : Int) = (m : Int) + 1 + 1 + 1 + 1 + 1 + 1 by omega] at hT
      have HT := Lib.hid hT; have HO1 := Lib.hid ho1; have HL := Lib.hid hL
      have hlt' : (j : Int) < l.length := by omega
      clear ho1 hL hmk hT
      go_wp2_with fail
      refine HT.out.mono ?_
      rintro e w1 ⟨rfl, hb1⟩
      have hq1 := HO1.out.below hb1
      have hf1 := hq1.frz
      obtain ⟨_, _, _, _, _, _, u6, _, _, _, _, _, _, z6⟩ := hq1.cells7 j hlt
      have HQ1 := Lib.hid hq1; have HB1 := Lib.hid hb1
      clear hq1 hb1 hf y0 y1 y2 y3 y4 y5 y6
      go_wp2_with fail
      go_roundg (l.length - (j + 1))
      case measure => have := HK.out; omega
      case rel =>
        have hm := HM.out
        subst hm
        refine ⟨j + 1, k + 7 * j + 7, by omega, by omega, by show _ = _; omega, rfl, by go_num, by go_num, ?_, ?_⟩
        · have h1 := own_mark_etext j hlt HL.out HQ1.out (markEnt k j) (markB_size _ (by omega)) (by show ((k + 7 * j : Nat) : Int) = _; rfl) (by show ((k + 7 * j + 1 : Nat) : Int) = _; omega) (by show ((k + 7 * j + 2 : Nat) : Int) = _; omega) (by show ((k + 7 * j + 3 : Nat) : Int) = _; omega) (by show ((k + 7 * j + 4 : Nat) : Int) = _; omega) (by show ((k + 7 * j + 5 : Nat) : Int) = _; omega)
          have h2 := mark_step (markEnt k) l j hlt
          unfold markEs at h1 ⊢
          rw [h2] at h1
          exact h1
        · exact gset (gtrans0 (gset (gset (gset (gset (gset (gset HG.out _ _) _ _) _ _) _ _) _ _) _ _) (gext0 HB1.out)) _ _
    · have hjl : j = l.length := by omega
      subst hjl
      have hq := HQ.out
      rw [List.drop_length, List.append_nil] at hq
      have HF := Lib.hid hq
      have hm := HM.out
      clear hq
      go_wp2_with fail
      go_ret
      exact ⟨by rw [hm]; rfl, HF.out, HG.out⟩

/-- What lies below lo, or from hi on, stays. -/
structure Out (lo hi : Nat) (w w' : World) : Prop where
  os : w'.os = w.os
  tape : w'.tape = w.tape
  output : w'.output = w.output
  size : w.heap.size ≤ w'.heap.size
  block : ∀ k, k < w.heap.size → (k < lo ∨ hi ≤ k) → w'.heap[k]? = w.heap[k]?
theorem Out.refl (lo hi : Nat) (w : World) : Out lo hi w w := ⟨rfl, rfl, rfl, Nat.le_refl _, fun _ _ _ => rfl⟩
theorem Out.trans {lo hi : Nat} {a b c : World} (h : Out lo hi a b) (k : Out lo hi b c) : Out lo hi a c :=
  ⟨k.os.trans h.os, k.tape.trans h.tape, k.output.trans h.output, Nat.le_trans h.size k.size, fun i hi hne => (k.block i (Nat.lt_of_lt_of_le hi h.size) hne).trans (h.block i hi hne)⟩
theorem Out.ext {lo hi : Nat} {w w' : World} (h : Ext w w') : Out lo hi w w' := ⟨h.os, h.tape, h.output, h.size, fun i hi _ => h.block i hi⟩
theorem Out.grown {lo hi : Nat} {w w' : World} {row : Option Nat} (h : w.grownBy w' row) (hr : ∀ k, row = some k → lo ≤ k ∧ k < hi) : Out lo hi w w' :=
  ⟨h.os, h.tape, h.output, h.size, fun i hi hne => h.block i hi (fun e => by have := hr i e.symm; omega)⟩
theorem Out.below {lo hi B : Nat} {w0 w w' : World} (h : Out lo hi w w') (h0 : Below B w0 w) (hB : B ≤ lo) (hs : B ≤ w.heap.size) : Below B w0 w' :=
  ⟨h.os.trans h0.os, h.tape.trans h0.tape, h.output.trans h0.output, Nat.le_trans h0.size h.size, fun k hk => (h.block k (by omega) (.inl (by omega))).trans (h0.block k hk)⟩
theorem Own.out {α : Type} [Flat α] {e : TypeId} {lo hi : Nat} {w w' : World} {base : Nat} {v : Value} {l : List α} (h : Own e w base v l) (ho : Out lo hi w w') (hb : ∀ k, v.ownBlock = some k → k < lo ∨ hi ≤ k) : Own e w' base v l := by
  refine ⟨⟨h.1.1, ?_⟩, h.2⟩
  rcases h.1.2 with h1 | ⟨g, cap, cur, h1, h2, h3, h4⟩
  · exact .inl h1
  · exact .inr ⟨g, cap, cur, h1, h2, (ho.block g (blk_lt h3) (hb g (by rw [h1]; rfl))).trans h3, h4⟩
theorem Own.sep {w : World} {base base' : Nat} {v v' : Value} {l : List Row} {m : List Entry} (h : Own 61 w base v l) (h' : Own 58 w base' v' m) : v'.ownBlock = none ∨ v'.ownBlock ≠ v.ownBlock := by
  rcases h'.1.2 with ⟨rfl, _⟩ | ⟨g, cap, cur, rfl, _, hb, _⟩
  · exact .inl rfl
  · refine .inr fun e => ?_
    rcases h.1.2 with ⟨rfl, _⟩ | ⟨g', cap', cur', rfl, _, hb', _⟩
    · cases e
    · simp only [Value.ownBlock, Option.some.injEq] at e
      subst e
      rw [hb] at hb'
      simp at hb'

theorem CO.below {w w' : World} {base : Nat} {c : Client} {v : Value} (h : CO w base c v) (hb : Ext w w') : CO w' base c v := by
  obtain ⟨A1, n1, A2, n2, rfl, h1, h2⟩ := h
  exact ⟨A1, n1, A2, n2, rfl, h1.below hb, h2.below hb⟩
def markCl (c : Client) (k : Nat) : Client := ⟨c.who, c.seen, markRs k c.base.length, markEs (k + 3 * c.base.length) c.wait.length, c.done, c.made⟩
set_option maxRecDepth 100000 in
set_option maxHeartbeats 4000000 in
theorem markClient_c (c : Client) (v : Value) (base k : Nat) (w0 w : World) (h0 : CO w0 base c v) (h : CO w base c v) (hs0 : w0.heap.size ≤ w.heap.size) (hk : 0 < k) (hb : k + 3 * c.base.length + 7 * c.wait.length ≤ 100000000) :
    Calls Tryd.prog 21 #[v, .int .i64 k] w fun x w' => x = .returned (.int .i64 (k + 3 * c.base.length + 7 * c.wait.length : Nat)) ∧ CO w' base (markCl c k) v ∧ Out base w0.heap.size w w' := by
  obtain ⟨A1, n1, A2, n2, rfl, z1, z2⟩ := h0
  obtain ⟨B1, m1, B2, m2, e, h1, h2⟩ := h
  simp only [Value.agg.injEq, Array.mk.injEq, List.cons.injEq, Value.slice.injEq, true_and, and_true] at e
  obtain ⟨⟨rfl, rfl⟩, ⟨rfl, rfl⟩⟩ := e
  have hE0 : Ext w (w.alloc (.cells #[.int .i64 c.who, .int .i64 c.seen, .slice A1 c.base.length n1, .slice A2 c.wait.length n2, .int .i64 c.done, .int .i64 c.made] 30)) := (Below.refl _ w).alloc (Nat.le_refl _) _
  have hX := World.alloc_heap_new w (.cells #[.int .i64 c.who, .int .i64 c.seen, .slice A1 c.base.length n1, .slice A2 c.wait.length n2, .int .i64 c.done, .int .i64 c.made] 30)
  have h1e := h1.below hE0
  have h2e := h2.below hE0
  have HB1 := Lib.hid (fun k => z1.blk k); have HB2 := Lib.hid (fun k => z2.blk k)
  have HSP := Lib.hid (h1.sep h2)
  have HM1 := Lib.hid (markRowS_c _ c.base base k _ h1e hk (by omega))
  have HX := Lib.hid hX; have HE0 := Lib.hid hE0; have H2 := Lib.hid h2e
  clear h1 h2 h1e h2e hX hE0 z1 z2
  go_enter Tryd.func21, Tryd.ntmps21
  go_wp2_with fail
  refine HM1.out.mono ?_
  rintro e w1 ⟨rfl, ho1, hg1⟩
  have hx1 := (hg1.block w.heap.size (blk_lt HX.out) (fun e => by have := (HB1.out w.heap.size e.symm).2; omega)).trans HX.out
  have ho2 := H2.out.grown hg1 HSP.out
  have HM2 := Lib.hid (markEntryS_c _ c.wait base (k + 3 * c.base.length) w1 ho2 (by omega) (by omega))
  have HO1 := Lib.hid ho1; have HG1 := Lib.hid hg1
  obtain ⟨c0, c1, c2, c3, c4, c5, cf⟩ := six_cells hx1
  clear ho1 hg1 hx1 ho2
  go_wp2_with fail
  refine HM2.out.mono ?_
  rintro e w2 ⟨rfl, ho2, hg2⟩
  have HO2 := Lib.hid ho2; have HG2 := Lib.hid hg2
  clear ho2 hg2 c0 c1 c2 c3 c4 c5 cf
  go_wp2_with fail
  go_ret
  refine ⟨rfl, ?_, ?_⟩
  · have r1 := HO1.out.grown HG2.out (by
      rcases HSP.out with h | h
      · rw [h]
        cases hh : (Value.slice A1 c.base.length n1).ownBlock
        · exact .inl rfl
        · exact .inr (by simp)
      · exact .inr (fun e => h e.symm))
    refine ⟨A1, n1, A2, n2, ?_, ?_, ?_⟩
    · simp only [markCl, markRs_len, markEs_len]
    · simp only [markCl, markRs_len]; exact r1
    · simp only [markCl, markEs_len]; exact HO2.out
  · exact ((Out.ext HE0.out).trans (Out.grown HG1.out HB1.out)).trans (Out.grown HG2.out HB2.out)
end Go.Proofs.YtikcnbkoeglecaaDoor
namespace Go.Proofs.YtikcnbkoeglecaaDoor
open Go.RowKit
set_option linter.unusedVariables false

set_option maxRecDepth 100000 in
set_option maxHeartbeats 4000000 in
theorem heldRowS_c (A : Option Addr) (c n k : Nat) (w : World) (hr : Rd w A c (markRs k n)) (hk : 0 < k) (hb : k + 3 * n ≤ 100000000) :
    Calls Tryd.prog 23 #[.slice A n c, .int .i64 k] w fun x w' => x = .returned (.int .i64 (k + 3 * n : Nat)) ∧ Ext w w' := by
  have HR := Lib.hid hr
  clear hr
  go_enter Tryd.func23, Tryd.ntmps23
  go_wp2_with fail
  go_loopg [1, 5] n (fun gk a i wr => ∃ j m : Nat, j ≤ n ∧ m ≤ 100000000 ∧ Hid (m = k + 3 * j) ∧ Hid (gk = n - j) ∧ a = .int .i64 m ∧ i = .int .i64 j ∧ Hid (Ext w wr))
  case atStart => exact ⟨0, k, Nat.zero_le _, by omega, rfl, rfl, rfl, rfl, Below.refl _ _⟩
  case round =>
    obtain ⟨j, m, hj, hm9, HM, HK, rfl, rfl, HB⟩ := hrel
    by_cases hlt : j < n
    · have hjl : j < (markRs k n).length := by rw [markRs_len]; exact hlt
      obtain ⟨b, off, rfl, hbl, c0, c1, c2⟩ := row_at (HR.out.ext HB.out) j hjl
      have hat := markRs_at k n j hjl
      have hm := HM.out
      subst hm
      have y0 : wr.cell? ⟨b, off + j * 3, none⟩ = some (.int .i64 ((k + 3 * j : Nat) : Int)) := by rw [c0, hat]; rfl
      have y1 : wr.cell? ⟨b, off + j * 3 + 1, none⟩ = some (.int .i64 (((k + 3 * j : Nat) : Int) + 1)) := by
        rw [c1, hat]; show some (Value.int .i64 ((k + 3 * j + 1 : Nat) : Int)) = _
        congr 2 <;> omega
      have y2 : wr.cell? ⟨b, off + j * 3 + 2, none⟩ = some (.string (markB (k + 3 * j + 2))) := by rw [c2, hat]; rfl
      have hm8 : k + 3 * j ≤ 99999997 := by omega
      have hT := markText_c (k + 3 * j + 2) wr.drew (by omega) (by omega)
      rw [show (((k + 3 * j + 2 : Nat)) : Int) = ((k + 3 * j : Nat) : Int) + 1 + 1 by omega] at hT
      generalize hmm : k + 3 * j = m at *
      have HMM := Lib.hid hmm
      have HT := Lib.hid hT
      have hlt' : (j : Int) < n := by omega
      have hnb : n ≤ 100000000 := by omega
      clear hT hmm hat c0 c1 c2 hjl hb
      go_wp2_with fail
      have E0 : wr.drew.cell? ⟨b, off + j * 3 + 2, none⟩ = some (.string (markB (m + 2))) := y2
      clear y0 y1 y2
      go_region_held3 (fun w' => w'.cell? ⟨b, off + j * 3 + 2, none⟩ = some (.string (markB (m + 2))))
        (first | exact E1 | exact E0 | go_keep)
        (first
          | (go_at_call 55; refine HT.out.mono ?_; rintro e w1 ⟨rfl, hb1⟩; obtain ⟨hc1, hf1⟩ := bcell hb1
             have E1 : w1.cell? ⟨b, off + j * 3 + 2, none⟩ = some (.string (markB (m + 2))) := (hc1 _ _ hbl).trans E0
             have HB1 := Lib.hid hb1; clear hc1 hf1 hb1))
      go_wp2_with fail
      go_roundg (n - (j + 1))
      case measure => have := HK.out; omega
      case rel =>
        have := HMM.out
        exact ⟨j + 1, m + 3, by omega, by omega, by show _ = _; omega, rfl, by go_num, by go_num, HB.out.trans ((Ext.drewN (Below.refl _ _) 1).trans (HB1.out.mono HB.out.size))⟩
    · have hjl : j = n := by omega
      subst hjl
      have hm := HM.out
      go_wp2_with fail
      go_ret
      exact ⟨by rw [hm]; rfl, HB.out⟩

set_option maxRecDepth 100000 in
set_option maxHeartbeats 4000000 in
theorem heldEntryS_c (A : Option Addr) (c n k : Nat) (w : World) (hr : Rd w A c (markEs k n)) (hk : 0 < k) (hb : k + 7 * n ≤ 100000000) :
    Calls Tryd.prog 62 #[.slice A n c, .int .i64 k] w fun x w' => x = .returned (.int .i64 (k + 7 * n : Nat)) ∧ Ext w w' := by
  have HR := Lib.hid hr
  clear hr
  go_enter Tryd.func62, Tryd.ntmps62
  go_wp2_with fail
  go_loopg [1, 5] n (fun gk a i wr => ∃ j m : Nat, j ≤ n ∧ m ≤ 100000000 ∧ Hid (m = k + 7 * j) ∧ Hid (gk = n - j) ∧ a = .int .i64 m ∧ i = .int .i64 j ∧ Hid (Ext w wr))
  case atStart => exact ⟨0, k, Nat.zero_le _, by omega, rfl, rfl, rfl, rfl, Below.refl _ _⟩
  case round =>
    obtain ⟨j, m, hj, hm9, HM, HK, rfl, rfl, HB⟩ := hrel
    by_cases hlt : j < n
    · have hjl : j < (markEs k n).length := by rw [markEs_len]; exact hlt
      obtain ⟨b, off, rfl, hbl, c0, c1, c2, c3, c4, c5, c6⟩ := ent_at (HR.out.ext HB.out) j hjl
      have hat := markEs_at k n j hjl
      have hm := HM.out
      subst hm
      have y0 : wr.cell? ⟨b, off + j * 7, none⟩ = some (.int .i64 ((k + 7 * j : Nat) : Int)) := by rw [c0, hat]; rfl
      have y1 : wr.cell? ⟨b, off + j * 7 + 1, none⟩ = some (.int .i64 (((k + 7 * j : Nat) : Int) + 1)) := by
        rw [c1, hat]; show some (Value.int .i64 ((k + 7 * j + 1 : Nat) : Int)) = _
        congr 2 <;> omega
      have y2 : wr.cell? ⟨b, off + j * 7 + 2, none⟩ = some (.int .i64 (((k + 7 * j : Nat) : Int) + 1 + 1)) := by
        rw [c2, hat]; show some (Value.int .i64 ((k + 7 * j + 2 : Nat) : Int)) = _
        congr 2 <;> omega
      have y3 : wr.cell? ⟨b, off + j * 7 + 3, none⟩ = some (.int .i64 (((k + 7 * j : Nat) : Int) + 1 + 1 + 1)) := by
        rw [c3, hat]; show some (Value.int .i64 ((k + 7 * j + 3 : Nat) : Int)) = _
        congr 2 <;> omega
      have y4 : wr.cell? ⟨b, off + j * 7 + 4, none⟩ = some (.int .i64 (((k + 7 * j : Nat) : Int) + 1 + 1 + 1 + 1)) := by
        rw [c4, hat]; show some (Value.int .i64 ((k + 7 * j + 4 : Nat) : Int)) = _
        congr 2 <;> omega
      have y5 : wr.cell? ⟨b, off + j * 7 + 5, none⟩ = some (.int .i64 (((k + 7 * j : Nat) : Int) + 1 + 1 + 1 + 1 + 1)) := by
        rw [c5, hat]; show some (Value.int .i64 ((k + 7 * j + 5 : Nat) : Int)) = _
        congr 2 <;> omega
      have y6 : wr.cell? ⟨b, off + j * 7 + 6, none⟩ = some (.string (markB (k + 7 * j + 6))) := by rw [c6, hat]; rfl
      have hm8 : k + 7 * j ≤ 99999993 := by omega
      have hT := markText_c (k + 7 * j + 6) wr.drew (by omega) (by omega)
      rw [show (((k + 7 * j + 6 : Nat)) : Int) = ((k + 7 * j : Nat) : Int) + 1 + 1 + 1 + 1 + 1 + 1 by omega] at hT
      generalize hmm : k + 7 * j = m at *
      have HMM := Lib.hid hmm
      have HT := Lib.hid hT
      have hlt' : (j : Int) < n := by omega
      have hnb : n ≤ 100000000 := by omega
      clear hT hmm hat c0 c1 c2 c3 c4 c5 c6 hjl hb
      go_wp2_with fail
      have E0 : wr.drew.cell? ⟨b, off + j * 7 + 6, none⟩ = some (.string (markB (m + 6))) := y6
      clear y0 y1 y2 y3 y4 y5 y6
      go_region_held3 (fun w' => w'.cell? ⟨b, off + j * 7 + 6, none⟩ = some (.string (markB (m + 6))))
        (first | exact E1 | exact E0 | go_keep)
        (first
          | (go_at_call 55; refine HT.out.mono ?_; rintro e w1 ⟨rfl, hb1⟩; obtain ⟨hc1, hf1⟩ := bcell hb1
             have E1 : w1.cell? ⟨b, off + j * 7 + 6, none⟩ = some (.string (markB (m + 6))) := (hc1 _ _ hbl).trans E0
             have HB1 := Lib.hid hb1; clear hc1 hf1 hb1))
      go_wp2_with fail
      go_roundg (n - (j + 1))
      case measure => have := HK.out; omega
      case rel =>
        have := HMM.out
        exact ⟨j + 1, m + 7, by omega, by omega, by show _ = _; omega, rfl, by go_num, by go_num, HB.out.trans ((Ext.drewN (Below.refl _ _) 1).trans (HB1.out.mono HB.out.size))⟩
    · have hjl : j = n := by omega
      subst hjl
      have hm := HM.out
      go_wp2_with fail
      go_ret
      exact ⟨by rw [hm]; rfl, HB.out⟩

theorem showL_S (c : Client) : showL c = showS c := by
  unfold showL showS
  split
  · rename_i h
    exact treeFrom_op (clientOk_parts h).2.2.2.1 (waitOk_ent (clientOk_parts h).2.2.2.2.2.2.2.2.2)
  · rfl
theorem runOps_ok (l : List Entry) : ∀ t : List Row, treeOk t = true → (∀ e ∈ l, opOk e.op = true) → treeOk (runOps t l) = true := by
  induction l with
  | nil => intro t h _; exact h
  | cons e l ih =>
    intro t h hl
    refine ih _ ?_ (fun x hx => hl x (List.mem_cons_of_mem _ hx))
    have ho := hl e List.mem_cons_self
    show treeOk (opDo t e.op) = true
    unfold opDo
    rw [h, ho]; exact treeOk_do t e.op h ho
theorem showL_len (c : Client) : (showL c).length ≤ 1000 := by
  unfold showL
  split
  · rename_i h
    have := treeOk_len (runOps_ok _ _ (clientOk_parts h).2.2.2.1 (waitOk_ent (clientOk_parts h).2.2.2.2.2.2.2.2.2))
    exact this
  · simp
end Go.Proofs.YtikcnbkoeglecaaDoor
