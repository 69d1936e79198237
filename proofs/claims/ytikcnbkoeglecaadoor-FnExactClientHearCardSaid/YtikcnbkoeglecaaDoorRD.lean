/- The exact laws' helpers: copies of rows, entries and clients. -/
import Derived.Test.YtikcnbkoeglecaaDoorRA
import Derived.Test.YtikcnbkoeglecaaDoorQK
namespace Go.Proofs.YtikcnbkoeglecaaDoor
open Go.RowKit
set_option linter.unusedVariables false

def row0 : Row := ⟨0, 0, ⟨#[]⟩⟩
def ent0 : Entry := ⟨0, 0, ⟨0, 0, 0, 0, ⟨#[]⟩⟩⟩
theorem flat_made {α : Type} [Flat α] (x : α) (n : Nat) (cs : Array Value) (hc : cs.toList = Flat.enc x) : (madeCells cs (n * Flat.sz α)).toList = flat (List.replicate n x) := by
  have hcs : cs.size = Flat.sz α := by rw [← Array.length_toList, hc, Flat.len]
  have hpos := Flat.pos (α := α)
  apply List.ext_getElem?
  intro j
  by_cases hj : j < n * Flat.sz α
  · have hm : j % Flat.sz α < Flat.sz α := Nat.mod_lt _ hpos
    have hd : j / Flat.sz α < n := Nat.div_lt_of_lt_mul (by rw [Nat.mul_comm]; exact hj)
    have he : j = j / Flat.sz α * Flat.sz α + j % Flat.sz α := by rw [Nat.mul_comm]; exact (Nat.div_add_mod _ _).symm
    have h1 := flat_at (List.replicate n x) (j / Flat.sz α) (by simpa using hd) (j % Flat.sz α) hm
    rw [← he, List.getElem_replicate, ← hc] at h1
    rw [h1]
    simp only [madeCells, Array.toList_map, Array.toList_range, List.getElem?_map, List.getElem?_range hj, Option.map_some, hcs, Array.getElem?_toList]
    rw [getElem!_pos cs _ (by omega), Array.getElem?_eq_getElem (by omega)]
  · rw [List.getElem?_eq_none (by simp [size_madeCells]; omega), List.getElem?_eq_none (by rw [flat_length, List.length_replicate]; omega)]

theorem own_put_row {w : World} {base g cap n : Nat} {L : List Row} (h : Own 61 w base (.slice (some ⟨g, 0, none⟩) n cap) L) (hn : L.length = n) (k : Nat) (hk : k < n) (x : Row) (hx : x.text.size ≤ maxLen) :
    Own 61 (((w.setCell ⟨g, k * 3, none⟩ (.int .i64 x.id)).setCell ⟨g, k * 3 + 1, none⟩ (.int .i64 x.depth)).setCell ⟨g, k * 3 + 2, none⟩ (.string x.text)) base (.slice (some ⟨g, 0, none⟩) n cap) (L.set k x) := by
  subst hn
  have e1 := (Own.store h k hk ⟨x.id, L[k].depth, L[k].text⟩ (show L[k].text.size ≤ maxLen from h.2 L[k] (List.getElem_mem hk)) 0 (.int .i64 x.id) (by decide) rfl).1
  have e2 := (Own.store (l := L.set k ⟨x.id, L[k].depth, L[k].text⟩) (by rw [List.length_set]; exact e1) k (by rw [List.length_set]; exact hk) ⟨x.id, x.depth, L[k].text⟩ (show L[k].text.size ≤ maxLen from h.2 L[k] (List.getElem_mem hk)) 1 (.int .i64 x.depth) (by decide) (by rw [List.getElem_set_self]; rfl)).1
  rw [List.set_set] at e2
  have e3 := (Own.store (l := L.set k ⟨x.id, x.depth, L[k].text⟩) (by rw [List.length_set] at e2 ⊢; exact e2) k (by rw [List.length_set]; exact hk) x hx 2 (.string x.text) (by decide) (by rw [List.getElem_set_self]; rfl)).1
  rw [List.set_set, List.length_set] at e3
  exact e3
theorem Own.frz {α : Type} [Flat α] {e : TypeId} {w : World} {base g n cap : Nat} {L : List α} (h : Own e w base (.slice (some ⟨g, 0, none⟩) n cap) L) : ∀ o, w.frozen? ⟨g, o, none⟩ = false := by
  rcases h.1.2 with ⟨h9, _⟩ | ⟨g9, cap9, cur9, h9, _, h8, _⟩
  · cases h9
  · simp only [Value.slice.injEq, Option.some.injEq, Addr.mk.injEq, and_true] at h9
    obtain ⟨h91, -⟩ := h9
    subst h91
    intro o
    simp [World.frozen?, h8]
theorem Own.slice_rd {α : Type} [Flat α] {e : TypeId} {w : World} {base g n cap : Nat} {L : List α} (h : Own e w base (.slice (some ⟨g, 0, none⟩) n cap) L) : Rd w (some ⟨g, 0, none⟩) cap L ∧ n = L.length := by
  obtain ⟨A, c, e, hr⟩ := h.rd
  simp only [Value.slice.injEq] at e
  obtain ⟨e1, e2, e3⟩ := e
  subst e1; subst e3
  exact ⟨hr, e2⟩
theorem Own.cells3 {w : World} {base g n cap : Nat} {L : List Row} (h : Own 61 w base (.slice (some ⟨g, 0, none⟩) n cap) L) (k : Nat) (hk : k < n) :
    ∃ v0 v1 v2, w.cell? ⟨g, k * 3, none⟩ = some v0 ∧ w.cell? ⟨g, k * 3 + 1, none⟩ = some v1 ∧ w.cell? ⟨g, k * 3 + 2, none⟩ = some v2 := by
  obtain ⟨hr, hn⟩ := h.slice_rd
  obtain ⟨b, off, e, _, c0, c1, c2⟩ := row_at hr k (by omega)
  simp only [Option.some.injEq, Addr.mk.injEq, and_true] at e
  obtain ⟨e1, e2⟩ := e
  subst e1; subst e2
  simp only [Nat.zero_add] at c0 c1 c2
  exact ⟨_, _, _, c0, c1, c2⟩
theorem step_list {α : Type} (l : List α) (z : α) (k : Nat) (hk : k < l.length) : (l.take k ++ List.replicate (l.length - k) z).set k l[k] = l.take (k + 1) ++ List.replicate (l.length - (k + 1)) z := by
  have hlen : (l.take k).length = k := by rw [List.length_take]; omega
  rw [List.set_append_right _ _ (by omega), hlen, Nat.sub_self, show l.length - k = (l.length - (k + 1)) + 1 by omega, List.replicate_succ, List.set_cons_zero, List.take_succ_eq_append_getElem hk, List.append_assoc, List.singleton_append]

theorem mid3_new (w : World) (x y z : Obj) : (((w.alloc x).alloc y).alloc z).heap[w.heap.size + 1]? = some y := by
  have h := (two_new w x y).2
  have hs := blk_lt h
  exact (Below.heap_alloc _ z _ hs).trans h
theorem cells3 {W : World} {b : Nat} {v0 v1 v2 : Value} {ty : TypeId} (h : W.heap[b]? = some (.cells #[v0, v1, v2] ty (0, 0))) :
    W.cell? ⟨b, 0, none⟩ = some v0 ∧ W.cell? ⟨b, 1, none⟩ = some v1 ∧ W.cell? ⟨b, 2, none⟩ = some v2 := by
  refine ⟨by simp [World.cell?, h], by simp [World.cell?, h], by simp [World.cell?, h]⟩
theorem ext3 (w : World) (x y z : Obj) : Ext w (((w.alloc x).alloc y).alloc z) := (((Below.refl _ w).alloc (Nat.le_refl _) x).alloc (by simp) y).alloc (by simp only [alloc_sz]; omega) z

set_option maxRecDepth 100000 in
theorem toRow_c (r : Row) (w : World) :
    Calls Tryd.prog 80 #[.agg #[.int .i64 r.id, .int .i64 r.depth, .string r.text]] w fun x w' => x = .returned (.agg #[.int .i64 r.id, .int .i64 r.depth, .string r.text]) ∧ Ext w w' := by
  go_enter Tryd.func80, Tryd.ntmps80
  go_wp2_with fail
  have hz := mid3_new w (.cells #[.int .i64 r.id, .int .i64 r.depth, .string r.text] 112) (.cells #[.int .i64 r.id, .int .i64 r.depth, .string r.text] 61) (.cells #[.int .i64 r.id, .int .i64 r.depth, .string r.text] 61)
  obtain ⟨k0, k1, k2⟩ := cells3 hz
  refine bodyPost_ret (v := .agg #[.int .i64 r.id, .int .i64 r.depth, .string r.text]) ?_ rfl ⟨rfl, ext3 _ _ _ _⟩
  simp [results, Tryd.f80, go_sem, k0, k1, k2]

set_option maxRecDepth 100000 in
set_option maxHeartbeats 1000000 in
theorem toRowS_c (A : Option Addr) (c : Nat) (l : List Row) (w : World) (hr : Rd w A c l) (hb : l.length ≤ 2000000) :
    Calls Tryd.prog 51 #[.slice A l.length c] w fun x w' => ∃ v, x = .returned v ∧ Own 61 w' w.heap.size v l ∧ Ext w w' := by
  obtain ⟨i0, hi, hz0, hz1, hz2⟩ := row_info
  have HR := Lib.hid hr
  clear hr
  go_enter Tryd.func51, Tryd.ntmps51
  go_wp2_with (first
    | (refine wpList_make_full _ rfl _ _ 25 rfl w.heap.size 61 i0 _ 3 und_rows hi hz0 hz1 .i64 .i64 _ _ l.length rfl rfl rfl rfl (by rw [hz2]; omega) (by unfold maxLen; omega) (Nat.le_refl _) ?_; intro w0 hown0 hgrow0; have HO := Lib.hid hown0; have HG := Lib.hid hgrow0; clear hown0 hgrow0))
  have hown : Own 61 w0 w.heap.size (.slice (some ⟨w.heap.size, 0, none⟩) l.length l.length) (List.replicate l.length row0) := by
    refine ⟨?_, fun x hx => by rw [(List.mem_replicate.1 hx).2]; show (0 : Nat) ≤ maxLen; exact Nat.zero_le _⟩
    rw [List.length_replicate, ← flat_made row0 l.length #[.int .i64 0, .int .i64 0, .string ⟨#[]⟩] rfl]
    exact HO.out
  have HB0 : Hid (Ext w w0) := (Below.refl w.heap.size w).grown HG.out (Nat.le_refl _) (by simp)
  have HOW := Lib.hid hown
  clear hown hi hz0 hz1 hz2 HO HG
  go_loopg [4] l.length (fun gk i wr => ∃ k : Nat, k ≤ l.length ∧ Hid (gk = l.length - k) ∧ i = .int .i64 k ∧ Hid (Own 61 wr w.heap.size (.slice (some ⟨w.heap.size, 0, none⟩) l.length l.length) (l.take k ++ List.replicate (l.length - k) row0)) ∧ Hid (Ext w wr))
  case atStart => exact ⟨0, Nat.zero_le _, rfl, rfl, HOW.out, HB0.out⟩
  case round =>
    obtain ⟨k, hk, HK, rfl, HQ, HB⟩ := hrel
    by_cases hlt : k < l.length
    · obtain ⟨b, off, rfl, hbl, c0, c1, c2⟩ := row_at (HR.out.ext HB.out) k hlt
      have HT := Lib.hid (toRow_c l[k] wr)
      have hlt' : (k : Int) < l.length := by omega
      go_wp2_with fail
      refine HT.out.mono ?_
      rintro e w1 ⟨rfl, hb1⟩
      have hq1 := HQ.out.below hb1
      have hf1 := hq1.frz
      obtain ⟨v0, v1, v2, y0, y1, y2⟩ := hq1.cells3 k hlt
      have HQ1 := Lib.hid hq1; have HB1 := Lib.hid (HB.out.trans (hb1.mono HB.out.size))
      clear hq1 hb1 c0 c1 c2 HT
      go_wp2_with fail
      go_roundg (l.length - (k + 1))
      case measure => have := HK.out; omega
      case rel =>
        refine ⟨k + 1, by omega, rfl, by go_num, ?_, ?_⟩
        · have := own_put_row HQ1.out (by rw [List.length_append, List.length_take, List.length_replicate]; omega) k hlt l[k] (HR.out.okAt k hlt)
          rw [step_list l row0 k hlt] at this
          exact this
        · exact ((HB1.out.setCell (Nat.le_refl _) _).setCell (Nat.le_refl _) _).setCell (Nat.le_refl _) _
    · have hkl : k = l.length := by omega
      subst hkl
      have hq := HQ.out
      rw [List.take_length, Nat.sub_self, List.replicate_zero, List.append_nil] at hq
      have HF := Lib.hid hq
      clear hq
      go_wp2_with fail
      go_ret
      exact ⟨_, rfl, HF.out, HB.out⟩
theorem own_put_ent {w : World} {base g cap n : Nat} {L : List Entry} (h : Own 58 w base (.slice (some ⟨g, 0, none⟩) n cap) L) (hn : L.length = n) (k : Nat) (hk : k < n) (x : Entry) (hx : x.op.text.size ≤ maxLen) :
    Own 58 (((((((w.setCell ⟨g, k * 7, none⟩ (.int .i64 x.who)).setCell ⟨g, k * 7 + 1, none⟩ (.int .i64 x.seq)).setCell ⟨g, k * 7 + 2, none⟩ (.int .i64 x.op.kind)).setCell ⟨g, k * 7 + 3, none⟩ (.int .i64 x.op.id)).setCell ⟨g, k * 7 + 4, none⟩ (.int .i64 x.op.up)).setCell ⟨g, k * 7 + 5, none⟩ (.int .i64 x.op.pos)).setCell ⟨g, k * 7 + 6, none⟩ (.string x.op.text)) base (.slice (some ⟨g, 0, none⟩) n cap) (L.set k x) := by
  subst hn
  have hLk : L[k].op.text.size ≤ maxLen := h.2 L[k] (List.getElem_mem hk)
  have e0 := (Own.store h k hk ⟨x.who, L[k].seq, ⟨L[k].op.kind, L[k].op.id, L[k].op.up, L[k].op.pos, L[k].op.text⟩⟩ (show L[k].op.text.size ≤ maxLen from hLk) 0 (.int .i64 x.who) (by decide) rfl).1
  have e1 := (Own.store (l := L.set k ⟨x.who, L[k].seq, ⟨L[k].op.kind, L[k].op.id, L[k].op.up, L[k].op.pos, L[k].op.text⟩⟩) (by rw [List.length_set] at *; exact e0) k (by rw [List.length_set]; exact hk) ⟨x.who, x.seq, ⟨L[k].op.kind, L[k].op.id, L[k].op.up, L[k].op.pos, L[k].op.text⟩⟩ (show L[k].op.text.size ≤ maxLen from hLk) 1 (.int .i64 x.seq) (by decide) (by rw [List.getElem_set_self]; rfl)).1
  rw [List.set_set] at e1
  have e2 := (Own.store (l := L.set k ⟨x.who, x.seq, ⟨L[k].op.kind, L[k].op.id, L[k].op.up, L[k].op.pos, L[k].op.text⟩⟩) (by rw [List.length_set] at *; exact e1) k (by rw [List.length_set]; exact hk) ⟨x.who, x.seq, ⟨x.op.kind, L[k].op.id, L[k].op.up, L[k].op.pos, L[k].op.text⟩⟩ (show L[k].op.text.size ≤ maxLen from hLk) 2 (.int .i64 x.op.kind) (by decide) (by rw [List.getElem_set_self]; rfl)).1
  rw [List.set_set] at e2
  have e3 := (Own.store (l := L.set k ⟨x.who, x.seq, ⟨x.op.kind, L[k].op.id, L[k].op.up, L[k].op.pos, L[k].op.text⟩⟩) (by rw [List.length_set] at *; exact e2) k (by rw [List.length_set]; exact hk) ⟨x.who, x.seq, ⟨x.op.kind, x.op.id, L[k].op.up, L[k].op.pos, L[k].op.text⟩⟩ (show L[k].op.text.size ≤ maxLen from hLk) 3 (.int .i64 x.op.id) (by decide) (by rw [List.getElem_set_self]; rfl)).1
  rw [List.set_set] at e3
  have e4 := (Own.store (l := L.set k ⟨x.who, x.seq, ⟨x.op.kind, x.op.id, L[k].op.up, L[k].op.pos, L[k].op.text⟩⟩) (by rw [List.length_set] at *; exact e3) k (by rw [List.length_set]; exact hk) ⟨x.who, x.seq, ⟨x.op.kind, x.op.id, x.op.up, L[k].op.pos, L[k].op.text⟩⟩ (show L[k].op.text.size ≤ maxLen from hLk) 4 (.int .i64 x.op.up) (by decide) (by rw [List.getElem_set_self]; rfl)).1
  rw [List.set_set] at e4
  have e5 := (Own.store (l := L.set k ⟨x.who, x.seq, ⟨x.op.kind, x.op.id, x.op.up, L[k].op.pos, L[k].op.text⟩⟩) (by rw [List.length_set] at *; exact e4) k (by rw [List.length_set]; exact hk) ⟨x.who, x.seq, ⟨x.op.kind, x.op.id, x.op.up, x.op.pos, L[k].op.text⟩⟩ (show L[k].op.text.size ≤ maxLen from hLk) 5 (.int .i64 x.op.pos) (by decide) (by rw [List.getElem_set_self]; rfl)).1
  rw [List.set_set] at e5
  have e6 := (Own.store (l := L.set k ⟨x.who, x.seq, ⟨x.op.kind, x.op.id, x.op.up, x.op.pos, L[k].op.text⟩⟩) (by rw [List.length_set] at *; exact e5) k (by rw [List.length_set]; exact hk) ⟨x.who, x.seq, ⟨x.op.kind, x.op.id, x.op.up, x.op.pos, x.op.text⟩⟩ hx 6 (.string x.op.text) (by decide) (by rw [List.getElem_set_self]; rfl)).1
  rw [List.set_set] at e6
  rw [List.length_set] at e6
  exact e6
theorem Own.cells7 {w : World} {base g n cap : Nat} {L : List Entry} (h : Own 58 w base (.slice (some ⟨g, 0, none⟩) n cap) L) (k : Nat) (hk : k < n) :
    ∃ v0 v1 v2 v3 v4 v5 v6, w.cell? ⟨g, k * 7, none⟩ = some v0 ∧ w.cell? ⟨g, k * 7 + 1, none⟩ = some v1 ∧ w.cell? ⟨g, k * 7 + 2, none⟩ = some v2 ∧ w.cell? ⟨g, k * 7 + 3, none⟩ = some v3 ∧ w.cell? ⟨g, k * 7 + 4, none⟩ = some v4 ∧ w.cell? ⟨g, k * 7 + 5, none⟩ = some v5 ∧ w.cell? ⟨g, k * 7 + 6, none⟩ = some v6 := by
  obtain ⟨hr, hn⟩ := h.slice_rd
  obtain ⟨b, off, e, _, c0, c1, c2, c3, c4, c5, c6⟩ := ent_at hr k (by omega)
  simp only [Option.some.injEq, Addr.mk.injEq, and_true] at e
  obtain ⟨e1, e2⟩ := e
  subst e1; subst e2
  simp only [Nat.zero_add] at c0 c1 c2 c3 c4 c5 c6
  exact ⟨_, _, _, _, _, _, _, c0, c1, c2, c3, c4, c5, c6⟩
theorem cells5 {W : World} {b : Nat} {v0 v1 v2 v3 v4 : Value} {ty : TypeId} (h : W.heap[b]? = some (.cells #[v0, v1, v2, v3, v4] ty (0, 0))) :
    W.cell? ⟨b, 0, none⟩ = some v0 ∧ W.cell? ⟨b, 1, none⟩ = some v1 ∧ W.cell? ⟨b, 2, none⟩ = some v2 ∧ W.cell? ⟨b, 3, none⟩ = some v3 ∧ W.cell? ⟨b, 4, none⟩ = some v4 := by
  refine ⟨by simp [World.cell?, h], by simp [World.cell?, h], by simp [World.cell?, h], by simp [World.cell?, h], by simp [World.cell?, h]⟩
set_option maxRecDepth 100000 in
theorem toOp_c (o : Op) (w : World) :
    Calls Tryd.prog 82 #[.agg #[.int .i64 o.kind, .int .i64 o.id, .int .i64 o.up, .int .i64 o.pos, .string o.text]] w fun x w' => x = .returned (.agg #[.int .i64 o.kind, .int .i64 o.id, .int .i64 o.up, .int .i64 o.pos, .string o.text]) ∧ Ext w w' := by
  go_enter Tryd.func82, Tryd.ntmps82
  go_wp2_with fail
  have hz := mid3_new w (.cells #[.int .i64 o.kind, .int .i64 o.id, .int .i64 o.up, .int .i64 o.pos, .string o.text] 84) (.cells #[.int .i64 o.kind, .int .i64 o.id, .int .i64 o.up, .int .i64 o.pos, .string o.text] 56) (.cells #[.int .i64 o.kind, .int .i64 o.id, .int .i64 o.up, .int .i64 o.pos, .string o.text] 56)
  obtain ⟨k0, k1, k2, k3, k4⟩ := cells5 hz
  refine bodyPost_ret (v := .agg #[.int .i64 o.kind, .int .i64 o.id, .int .i64 o.up, .int .i64 o.pos, .string o.text]) ?_ rfl ⟨rfl, ext3 _ _ _ _⟩
  simp [results, Tryd.f82, go_sem, k0, k1, k2, k3, k4]

theorem three_all (w : World) (x y z : Obj) : (((w.alloc x).alloc y).alloc z).heap[w.heap.size]? = some x ∧ (((w.alloc x).alloc y).alloc z).heap[w.heap.size + 1]? = some y ∧ (((w.alloc x).alloc y).alloc z).heap[w.heap.size + 2]? = some z := by
  have h := two_new w x y
  have hs : ((w.alloc x).alloc y).heap.size = w.heap.size + 2 := by simp only [alloc_sz]
  have hz : (((w.alloc x).alloc y).alloc z).heap[((w.alloc x).alloc y).heap.size]? = some z := (MapKept.heap_alloc _ z).1
  rw [hs] at hz
  exact ⟨(Below.heap_alloc _ z _ (by omega)).trans h.1, (Below.heap_alloc _ z _ (by omega)).trans h.2, hz⟩

set_option maxRecDepth 100000 in
set_option maxHeartbeats 1000000 in
theorem toEntry_c (e : Entry) (w : World) :
    Calls Tryd.prog 60 #[.agg #[.int .i64 e.who, .int .i64 e.seq, .int .i64 e.op.kind, .int .i64 e.op.id, .int .i64 e.op.up, .int .i64 e.op.pos, .string e.op.text]] w fun x w' => x = .returned (.agg #[.int .i64 e.who, .int .i64 e.seq, .int .i64 e.op.kind, .int .i64 e.op.id, .int .i64 e.op.up, .int .i64 e.op.pos, .string e.op.text]) ∧ Ext w w' := by
  go_enter Tryd.func60, Tryd.ntmps60
  go_wp2_with fail
  refine (toOp_c e.op _).mono ?_
  rintro x w1 ⟨rfl, hb1⟩
  have h3 := three_all w (.cells #[.int .i64 e.who, .int .i64 e.seq, .int .i64 e.op.kind, .int .i64 e.op.id, .int .i64 e.op.up, .int .i64 e.op.pos, .string e.op.text] 86) (.cells #[.int .i64 0, .int .i64 0, .int .i64 0, .int .i64 0, .int .i64 0, .int .i64 0, .string ⟨#[]⟩] 58) (.cells #[.int .i64 e.who, .int .i64 e.seq, .int .i64 0, .int .i64 0, .int .i64 0, .int .i64 0, .string ⟨#[]⟩] 58)
  have hs3 : (((w.alloc (.cells #[.int .i64 e.who, .int .i64 e.seq, .int .i64 e.op.kind, .int .i64 e.op.id, .int .i64 e.op.up, .int .i64 e.op.pos, .string e.op.text] 86)).alloc (.cells #[.int .i64 0, .int .i64 0, .int .i64 0, .int .i64 0, .int .i64 0, .int .i64 0, .string ⟨#[]⟩] 58)).alloc (.cells #[.int .i64 e.who, .int .i64 e.seq, .int .i64 0, .int .i64 0, .int .i64 0, .int .i64 0, .string ⟨#[]⟩] 58)).heap.size = w.heap.size + 3 := by simp only [alloc_sz]
  have y1 := (hb1.block (w.heap.size + 1) (by rw [hs3]; omega)).trans h3.2.1
  have y2 := (hb1.block (w.heap.size + 1 + 1) (by rw [hs3]; omega)).trans h3.2.2
  have hsz := hb1.size
  rw [hs3] at hsz
  have HE1 := Lib.hid ((ext3 w (.cells #[.int .i64 e.who, .int .i64 e.seq, .int .i64 e.op.kind, .int .i64 e.op.id, .int .i64 e.op.up, .int .i64 e.op.pos, .string e.op.text] 86) (.cells #[.int .i64 0, .int .i64 0, .int .i64 0, .int .i64 0, .int .i64 0, .int .i64 0, .string ⟨#[]⟩] 58) (.cells #[.int .i64 e.who, .int .i64 e.seq, .int .i64 0, .int .i64 0, .int .i64 0, .int .i64 0, .string ⟨#[]⟩] 58)).trans (hb1.mono (by rw [hs3]; omega)))
  obtain ⟨c0, c1, c2, c3, c4, c5, c6, cf⟩ := seven_cells y1
  obtain ⟨d0, d1, d2, d3, d4, d5, d6, df⟩ := seven_cells y2
  have Y1 := Lib.hid y1
  clear h3 hs3 y1 y2 hb1
  go_wp2_with fail
  have hm : (((((w1.setCell ⟨w.heap.size + 1 + 1, 2, none⟩ (.int .i64 e.op.kind)).setCell ⟨w.heap.size + 1 + 1, 3, none⟩ (.int .i64 e.op.id)).setCell ⟨w.heap.size + 1 + 1, 4, none⟩ (.int .i64 e.op.up)).setCell ⟨w.heap.size + 1 + 1, 5, none⟩ (.int .i64 e.op.pos)).setCell ⟨w.heap.size + 1 + 1, 6, none⟩ (.string e.op.text)).heap[w.heap.size + 1]? = _ := (setx (by omega)).trans ((setx (by omega)).trans ((setx (by omega)).trans ((setx (by omega)).trans ((setx (by omega)).trans Y1.out))))
  have hz : ((((((((((((w1.setCell ⟨w.heap.size + 1 + 1, 2, none⟩ (.int .i64 e.op.kind)).setCell ⟨w.heap.size + 1 + 1, 3, none⟩ (.int .i64 e.op.id)).setCell ⟨w.heap.size + 1 + 1, 4, none⟩ (.int .i64 e.op.up)).setCell ⟨w.heap.size + 1 + 1, 5, none⟩ (.int .i64 e.op.pos)).setCell ⟨w.heap.size + 1 + 1, 6, none⟩ (.string e.op.text)).setCell ⟨w.heap.size + 1, 0, none⟩ (.int .i64 e.who)).setCell ⟨w.heap.size + 1, 1, none⟩ (.int .i64 e.seq)).setCell ⟨w.heap.size + 1, 2, none⟩ (.int .i64 e.op.kind)).setCell ⟨w.heap.size + 1, 3, none⟩ (.int .i64 e.op.id)).setCell ⟨w.heap.size + 1, 4, none⟩ (.int .i64 e.op.up)).setCell ⟨w.heap.size + 1, 5, none⟩ (.int .i64 e.op.pos)).setCell ⟨w.heap.size + 1, 6, none⟩ (.string e.op.text)).heap[w.heap.size + 1]? = some (.cells #[.int .i64 e.who, .int .i64 e.seq, .int .i64 e.op.kind, .int .i64 e.op.id, .int .i64 e.op.up, .int .i64 e.op.pos, .string e.op.text] 58 (0, 0)) := set_at (v := (.string e.op.text)) (i := 6) (set_at (v := (.int .i64 e.op.pos)) (i := 5) (set_at (v := (.int .i64 e.op.up)) (i := 4) (set_at (v := (.int .i64 e.op.id)) (i := 3) (set_at (v := (.int .i64 e.op.kind)) (i := 2) (set_at (v := (.int .i64 e.seq)) (i := 1) (set_at (v := (.int .i64 e.who)) (i := 0) (hm)))))))
  obtain ⟨k0, k1, k2, k3, k4, k5, k6, kf⟩ := seven_cells hz
  refine bodyPost_ret (v := .agg #[.int .i64 e.who, .int .i64 e.seq, .int .i64 e.op.kind, .int .i64 e.op.id, .int .i64 e.op.up, .int .i64 e.op.pos, .string e.op.text]) ?_ rfl ⟨rfl, ?_⟩
  · simp [results, Tryd.f60, go_sem, k0, k1, k2, k3, k4, k5, k6]
  · have ha2 : w.heap.size ≤ w.heap.size + 1 + 1 := by omega
    have ha1 : w.heap.size ≤ w.heap.size + 1 := by omega
    exact ((((((((((((HE1.out.setCell ha2 _).setCell ha2 _).setCell ha2 _).setCell ha2 _).setCell ha2 _).setCell ha1 _).setCell ha1 _).setCell ha1 _).setCell ha1 _).setCell ha1 _).setCell ha1 _).setCell ha1 _)
set_option maxRecDepth 100000 in
set_option maxHeartbeats 1000000 in
theorem toEntryS_c (A : Option Addr) (c : Nat) (l : List Entry) (w : World) (hr : Rd w A c l) (hb : l.length ≤ 2000000) :
    Calls Tryd.prog 26 #[.slice A l.length c] w fun x w' => ∃ v, x = .returned v ∧ Own 58 w' w.heap.size v l ∧ Ext w w' := by
  obtain ⟨i0, hi, hz0, hz1, hz2⟩ := ent_info
  have HR := Lib.hid hr
  clear hr
  go_enter Tryd.func26, Tryd.ntmps26
  go_wp2_with (first
    | (refine wpList_make_full _ rfl _ _ 23 rfl w.heap.size 58 i0 _ 7 und_ents hi hz0 hz1 .i64 .i64 _ _ l.length rfl rfl rfl rfl (by rw [hz2]; omega) (by unfold maxLen; omega) (Nat.le_refl _) ?_; intro w0 hown0 hgent0; have HO := Lib.hid hown0; have HG := Lib.hid hgent0; clear hown0 hgent0))
  have hown : Own 58 w0 w.heap.size (.slice (some ⟨w.heap.size, 0, none⟩) l.length l.length) (List.replicate l.length ent0) := by
    refine ⟨?_, fun x hx => by rw [(List.mem_replicate.1 hx).2]; show (0 : Nat) ≤ maxLen; exact Nat.zero_le _⟩
    rw [List.length_replicate, ← flat_made ent0 l.length #[.int .i64 0, .int .i64 0, .int .i64 0, .int .i64 0, .int .i64 0, .int .i64 0, .string ⟨#[]⟩] rfl]
    exact HO.out
  have HB0 : Hid (Ext w w0) := (Below.refl w.heap.size w).grown HG.out (Nat.le_refl _) (by simp)
  have HOW := Lib.hid hown
  clear hown hi hz0 hz1 hz2 HO HG
  go_loopg [4] l.length (fun gk i wr => ∃ k : Nat, k ≤ l.length ∧ Hid (gk = l.length - k) ∧ i = .int .i64 k ∧ Hid (Own 58 wr w.heap.size (.slice (some ⟨w.heap.size, 0, none⟩) l.length l.length) (l.take k ++ List.replicate (l.length - k) ent0)) ∧ Hid (Ext w wr))
  case atStart => exact ⟨0, Nat.zero_le _, rfl, rfl, HOW.out, HB0.out⟩
  case round =>
    obtain ⟨k, hk, HK, rfl, HQ, HB⟩ := hrel
    by_cases hlt : k < l.length
    · obtain ⟨b, off, rfl, hbl, c0, c1, c2, c3, c4, c5, c6⟩ := ent_at (HR.out.ext HB.out) k hlt
      have HT := Lib.hid (toEntry_c l[k] wr)
      have hlt' : (k : Int) < l.length := by omega
      go_wp2_with fail
      refine HT.out.mono ?_
      rintro e w1 ⟨rfl, hb1⟩
      have hq1 := HQ.out.below hb1
      have hf1 := hq1.frz
      obtain ⟨v0, v1, v2, v3, v4, v5, v6, y0, y1, y2, y3, y4, y5, y6⟩ := hq1.cells7 k hlt
      have HQ1 := Lib.hid hq1; have HB1 := Lib.hid (HB.out.trans (hb1.mono HB.out.size))
      clear hq1 hb1 c0 c1 c2 c3 c4 c5 c6 HT
      go_wp2_with fail
      go_roundg (l.length - (k + 1))
      case measure => have := HK.out; omega
      case rel =>
        refine ⟨k + 1, by omega, rfl, by go_num, ?_, ?_⟩
        · have := own_put_ent HQ1.out (by rw [List.length_append, List.length_take, List.length_replicate]; omega) k hlt l[k] (HR.out.okAt k hlt)
          rw [step_list l ent0 k hlt] at this
          exact this
        · exact ((((((HB1.out.setCell (Nat.le_refl _) _).setCell (Nat.le_refl _) _).setCell (Nat.le_refl _) _).setCell (Nat.le_refl _) _).setCell (Nat.le_refl _) _).setCell (Nat.le_refl _) _).setCell (Nat.le_refl _) _
    · have hkl : k = l.length := by omega
      subst hkl
      have hq := HQ.out
      rw [List.take_length, Nat.sub_self, List.replicate_zero, List.append_nil] at hq
      have HF := Lib.hid hq
      clear hq
      go_wp2_with fail
      go_ret
      exact ⟨_, rfl, HF.out, HB.out⟩

set_option maxRecDepth 100000 in
set_option maxHeartbeats 1000000 in
theorem toClient_c (c : Client) (v : Value) (w : World) (h : CV w c v) (hb : c.base.length ≤ 2000000) (hw : c.wait.length ≤ 2000000) :
    Calls Tryd.prog 17 #[v] w fun r w' => ∃ v', r = .returned v' ∧ CO w' w.heap.size c v' ∧ Ext w w' := by
  obtain ⟨A1, n1, A2, n2, rfl, h1, h2⟩ := h
  have H1 := Lib.hid h1; have H2 := Lib.hid h2
  clear h1 h2
  go_enter Tryd.func17, Tryd.ntmps17
  go_wp2_with fail
  have h3 := three_all w (.cells #[.int .i64 c.who, .int .i64 c.seen, .slice A1 c.base.length n1, .slice A2 c.wait.length n2, .int .i64 c.done, .int .i64 c.made] 40) (.cells #[.int .i64 0, .int .i64 0, .slice none 0 0, .slice none 0 0, .int .i64 0, .int .i64 0] 30) (.cells #[.int .i64 c.who, .int .i64 c.seen, .slice none 0 0, .slice none 0 0, .int .i64 0, .int .i64 0] 30)
  have hs3 : (((w.alloc (.cells #[.int .i64 c.who, .int .i64 c.seen, .slice A1 c.base.length n1, .slice A2 c.wait.length n2, .int .i64 c.done, .int .i64 c.made] 40)).alloc (.cells #[.int .i64 0, .int .i64 0, .slice none 0 0, .slice none 0 0, .int .i64 0, .int .i64 0] 30)).alloc (.cells #[.int .i64 c.who, .int .i64 c.seen, .slice none 0 0, .slice none 0 0, .int .i64 0, .int .i64 0] 30)).heap.size = w.heap.size + 3 := by simp only [alloc_sz]
  have hE0 := ext3 w (.cells #[.int .i64 c.who, .int .i64 c.seen, .slice A1 c.base.length n1, .slice A2 c.wait.length n2, .int .i64 c.done, .int .i64 c.made] 40) (.cells #[.int .i64 0, .int .i64 0, .slice none 0 0, .slice none 0 0, .int .i64 0, .int .i64 0] 30) (.cells #[.int .i64 c.who, .int .i64 c.seen, .slice none 0 0, .slice none 0 0, .int .i64 0, .int .i64 0] 30)
  refine (toRowS_c A1 n1 c.base _ (H1.out.ext hE0) hb).mono ?_
  rintro e w1 ⟨v1, rfl, hown1, hb1⟩
  obtain ⟨A3, n3, rfl, hr3⟩ := hown1.rd
  have x1 := (hb1.block w.heap.size (by rw [hs3]; omega)).trans h3.1
  have y1 := (hb1.block (w.heap.size + 1) (by rw [hs3]; omega)).trans h3.2.1
  have z1 := (hb1.block (w.heap.size + 1 + 1) (by rw [hs3]; omega)).trans h3.2.2
  have hs1 := hb1.size
  rw [hs3] at hs1 hown1
  have hE1 : Ext w w1 := hE0.trans (hb1.mono (by rw [hs3]; omega))
  have HO1 := Lib.hid hown1; have X1 := Lib.hid x1; have Y1 := Lib.hid y1; have Z1 := Lib.hid z1; have HE1 := Lib.hid hE1
  obtain ⟨c0, c1, c2, c3, c4, c5, cf⟩ := six_cells x1
  obtain ⟨d0, d1, d2, d3, d4, d5, df⟩ := six_cells z1
  have ha2 : w.heap.size ≤ w.heap.size + 1 + 1 := by omega
  have ha1 : w.heap.size ≤ w.heap.size + 1 := by omega
  clear h3 hs3 hE0 hown1 hr3 hb1 x1 y1 z1 hE1
  go_wp2_with fail
  have hE2 : Ext w (w1.setCell ⟨w.heap.size + 1 + 1, 2, none⟩ (.slice A3 c.base.length n3)) := HE1.out.setCell ha2 _
  have HE2 := Lib.hid hE2
  refine (toEntryS_c A2 n2 c.wait _ (H2.out.ext hE2) hw).mono ?_
  rintro e w3 ⟨v3, rfl, hown3, hb3⟩
  obtain ⟨A4, n4, rfl, hr4⟩ := hown3.rd
  have x3 := (hb3.block w.heap.size (by rw [setsz]; omega)).trans ((setx (by omega)).trans X1.out)
  have y3 := (hb3.block (w.heap.size + 1) (by rw [setsz]; omega)).trans ((setx (by omega)).trans Y1.out)
  have z3 := (hb3.block (w.heap.size + 1 + 1) (by rw [setsz]; omega)).trans (set_at Z1.out)
  have hs3 := hb3.size
  rw [setsz] at hs3
  have hs2 : w.heap.size ≤ (w1.setCell ⟨w.heap.size + 1 + 1, 2, none⟩ (.slice A3 c.base.length n3)).heap.size := by rw [setsz]; omega
  have HO3 := Lib.hid hown3; have HB3 := Lib.hid hb3; have Y3 := Lib.hid y3
  clear c0 c1 c2 c3 c4 c5 cf d0 d1 d2 d3 d4 d5 df
  obtain ⟨c0, c1, c2, c3, c4, c5, cf⟩ := six_cells x3
  obtain ⟨d0, d1, d2, d3, d4, d5, df⟩ := six_cells (v0 := .int .i64 c.who) (v1 := .int .i64 c.seen) (v2 := .slice A3 c.base.length n3) (v3 := .slice none 0 0) (v4 := .int .i64 0) (v5 := .int .i64 0) z3
  obtain ⟨b0, b1, b2, b3, b4, b5, bf⟩ := six_cells y3
  clear hown3 hb3 hr4 hE2 x3 y3 z3
  go_wp2_with fail
  have hm : (((w3.setCell ⟨w.heap.size + 1 + 1, 3, none⟩ (.slice A4 c.wait.length n4)).setCell ⟨w.heap.size + 1 + 1, 4, none⟩ (.int .i64 c.done)).setCell ⟨w.heap.size + 1 + 1, 5, none⟩ (.int .i64 c.made)).heap[w.heap.size + 1]? = _ := (setx (by omega)).trans ((setx (by omega)).trans ((setx (by omega)).trans Y3.out))
  have hz : (((((((((w3.setCell ⟨w.heap.size + 1 + 1, 3, none⟩ (.slice A4 c.wait.length n4)).setCell ⟨w.heap.size + 1 + 1, 4, none⟩ (.int .i64 c.done)).setCell ⟨w.heap.size + 1 + 1, 5, none⟩ (.int .i64 c.made)).setCell ⟨w.heap.size + 1, 0, none⟩ (.int .i64 c.who)).setCell ⟨w.heap.size + 1, 1, none⟩ (.int .i64 c.seen)).setCell ⟨w.heap.size + 1, 2, none⟩ (.slice A3 c.base.length n3)).setCell ⟨w.heap.size + 1, 3, none⟩ (.slice A4 c.wait.length n4)).setCell ⟨w.heap.size + 1, 4, none⟩ (.int .i64 c.done)).setCell ⟨w.heap.size + 1, 5, none⟩ (.int .i64 c.made)).heap[w.heap.size + 1]? = some (.cells #[.int .i64 c.who, .int .i64 c.seen, .slice A3 c.base.length n3, .slice A4 c.wait.length n4, .int .i64 c.done, .int .i64 c.made] 30 (0, 0)) := set_at (v := (.int .i64 c.made)) (i := 5) (set_at (v := (.int .i64 c.done)) (i := 4) (set_at (v := (.slice A4 c.wait.length n4)) (i := 3) (set_at (v := (.slice A3 c.base.length n3)) (i := 2) (set_at (v := (.int .i64 c.seen)) (i := 1) (set_at (v := (.int .i64 c.who)) (i := 0) (hm))))))
  obtain ⟨k0, k1, k2, k3, k4, k5, kf⟩ := six_cells hz
  refine bodyPost_ret (v := .agg #[.int .i64 c.who, .int .i64 c.seen, .slice A3 c.base.length n3, .slice A4 c.wait.length n4, .int .i64 c.done, .int .i64 c.made]) ?_ rfl ?_
  · simp [results, Tryd.f17, go_sem, k0, k1, k2, k3, k4, k5]
  · have hfar : ∀ k, w.heap.size + 3 ≤ k → (((((((((w3.setCell ⟨w.heap.size + 1 + 1, 3, none⟩ (.slice A4 c.wait.length n4)).setCell ⟨w.heap.size + 1 + 1, 4, none⟩ (.int .i64 c.done)).setCell ⟨w.heap.size + 1 + 1, 5, none⟩ (.int .i64 c.made)).setCell ⟨w.heap.size + 1, 0, none⟩ (.int .i64 c.who)).setCell ⟨w.heap.size + 1, 1, none⟩ (.int .i64 c.seen)).setCell ⟨w.heap.size + 1, 2, none⟩ (.slice A3 c.base.length n3)).setCell ⟨w.heap.size + 1, 3, none⟩ (.slice A4 c.wait.length n4)).setCell ⟨w.heap.size + 1, 4, none⟩ (.int .i64 c.done)).setCell ⟨w.heap.size + 1, 5, none⟩ (.int .i64 c.made)).heap[k]? = w3.heap[k]? := fun k hk => (setx (by omega)).trans ((setx (by omega)).trans ((setx (by omega)).trans ((setx (by omega)).trans ((setx (by omega)).trans ((setx (by omega)).trans ((setx (by omega)).trans ((setx (by omega)).trans (setx (by omega)))))))))
    have r1 := (HO1.out.of_blocks (w' := (((((((((w3.setCell ⟨w.heap.size + 1 + 1, 3, none⟩ (.slice A4 c.wait.length n4)).setCell ⟨w.heap.size + 1 + 1, 4, none⟩ (.int .i64 c.done)).setCell ⟨w.heap.size + 1 + 1, 5, none⟩ (.int .i64 c.made)).setCell ⟨w.heap.size + 1, 0, none⟩ (.int .i64 c.who)).setCell ⟨w.heap.size + 1, 1, none⟩ (.int .i64 c.seen)).setCell ⟨w.heap.size + 1, 2, none⟩ (.slice A3 c.base.length n3)).setCell ⟨w.heap.size + 1, 3, none⟩ (.slice A4 c.wait.length n4)).setCell ⟨w.heap.size + 1, 4, none⟩ (.int .i64 c.done)).setCell ⟨w.heap.size + 1, 5, none⟩ (.int .i64 c.made))) (fun k hk hkl => (hfar k hk).trans ((HB3.out.block k (by rw [setsz]; exact hkl)).trans (setx (by omega))))).lower (base' := w.heap.size) (by omega)
    have r2 := (HO3.out.of_blocks (w' := (((((((((w3.setCell ⟨w.heap.size + 1 + 1, 3, none⟩ (.slice A4 c.wait.length n4)).setCell ⟨w.heap.size + 1 + 1, 4, none⟩ (.int .i64 c.done)).setCell ⟨w.heap.size + 1 + 1, 5, none⟩ (.int .i64 c.made)).setCell ⟨w.heap.size + 1, 0, none⟩ (.int .i64 c.who)).setCell ⟨w.heap.size + 1, 1, none⟩ (.int .i64 c.seen)).setCell ⟨w.heap.size + 1, 2, none⟩ (.slice A3 c.base.length n3)).setCell ⟨w.heap.size + 1, 3, none⟩ (.slice A4 c.wait.length n4)).setCell ⟨w.heap.size + 1, 4, none⟩ (.int .i64 c.done)).setCell ⟨w.heap.size + 1, 5, none⟩ (.int .i64 c.made))) (fun k hk hkl => hfar k (by rw [setsz] at hk; omega))).lower (base' := w.heap.size) hs2
    exact ⟨_, rfl, ⟨_, _, _, _, rfl, r1, r2⟩, ((((((((((HE2.out.trans (HB3.out.mono hs2)).setCell ha2 _).setCell ha2 _).setCell ha2 _).setCell ha1 _).setCell ha1 _).setCell ha1 _).setCell ha1 _).setCell ha1 _).setCell ha1 _)⟩
end Go.Proofs.YtikcnbkoeglecaaDoor
