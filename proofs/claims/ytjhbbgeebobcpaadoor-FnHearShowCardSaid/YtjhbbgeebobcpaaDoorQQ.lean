/- Appending to a slice of the call's own, one law for all kinds of elements; what a slice's cut reads. Walks of the reference: what stands right under a row, whether one stands under another. Walk of the reference: where a change puts a row. -/
import Derived.Test.YtjhbbgeebobcpaaDoorQP
import Derived.Laws.OwnMore
import Derived.Test.YtjhbbgeebobcpaaDoorQO
namespace Go.Proofs.YtjhbbgeebobcpaaDoor
open Go.RowKit Go.Lib
set_option linter.unusedVariables false
open Flat

/-- Elements of a type of the program: e is the element's type, s the slice's. -/
structure El (α : Type) [Flat α] (e s : TypeId) : Prop where
  und : Tryd.prog.underlying s = some (.slice e)
  info : ∃ (i : TypeInfo) (z : Value), Tryd.prog.info? e = some i ∧ i.zero = some z ∧ i.size = sz α ∧ i.bytes ≤ 200 ∧ z.cells.size = sz α
theorem info_of {e : TypeId} {z : Value} {n b m : Nat} (h : ∃ i : TypeInfo, Tryd.prog.info? e = some i ∧ i.zero = some z ∧ i.size = n ∧ i.bytes = b) (hb : b ≤ 200) (hz : z.cells.size = m) (hm : n = m) : ∃ (i : TypeInfo) (z : Value), Tryd.prog.info? e = some i ∧ i.zero = some z ∧ i.size = m ∧ i.bytes ≤ 200 ∧ z.cells.size = m := by
  obtain ⟨i, h1, h2, h3, h4⟩ := h
  exact ⟨i, z, h1, h2, by omega, by omega, hz⟩
theorem el_row : El Row 47 25 := ⟨und_rows, info_of row_info (by decide) rfl rfl⟩
theorem el_ent : El Entry 44 23 := ⟨und_ents, info_of ent_info (by decide) rfl rfl⟩
theorem int_info : ∃ i : TypeInfo, Tryd.prog.info? 3 = some i ∧ i.zero = some (.int .i64 0) ∧ i.size = 1 ∧ i.bytes = 8 := info_parts (by kernel_rfl)
theorem el_int : El Int 3 101 := ⟨by kernel_rfl, info_of int_info (by decide) rfl rfl⟩

section
variable {α : Type} [Flat α] {e s : TypeId}

theorem run_app_none (E : El α e s) {w : World} {base : Nat} {v : Value} {l : List α} (h : Own e w base v l) (c : Nat) : (Builtin.append_ #[s, s] s #[v, .slice none 0 c]).run Tryd.prog w = .ok v w := by
  obtain ⟨i, z, hi, hz, hs, -, -⟩ := E.info
  rcases h.1.2 with ⟨rfl, _⟩ | ⟨g, cap, cur, rfl, _, _, hnc, _⟩
  · simp [Builtin.append_, run_underlying E.und, sizeOf, typeInfo, hi, Builtin.lenOf, Builtin.firstCells]
  · simp [Builtin.append_, run_underlying E.und, sizeOf, typeInfo, hi, Builtin.lenOf, Builtin.firstCells, hnc, storeCells]
theorem grown_refl (w : World) (row : Option Nat) : w.grownBy w row := ⟨rfl, rfl, rfl, Nat.le_refl _, fun _ _ _ => rfl⟩
theorem Own.over {w w1 : World} {base B : Nat} {v : Value} {l : List α} (h : Own e w base v l) {w0 : World} (hb : Below B w0 w) (hg : w.grownBy w1 v.ownBlock) (hB : B ≤ base) (hs : B ≤ w.heap.size) : Below B w0 w1 :=
  ext_grown hb hg hs (fun k hk => Nat.le_trans hB (h.blk k hk).1)
/-- append(own, other...). -/
theorem app_at (E : El α e s) {w : World} {base : Nat} {v : Value} {l : List α} (h : Own e w base v l) {A : Option Addr} {c : Nat} {m : List α} (hr : Rd w A c m) (hl : l.length + m.length ≤ 1000000) (hb : base ≤ w.heap.size) :
    ∃ v' w', (Builtin.append_ #[s, s] s #[v, .slice A m.length c]).run Tryd.prog w = .ok v' w' ∧ Own e w' base v' (l ++ m) ∧ w.grownBy w' v.ownBlock := by
  cases A with
  | none =>
    have hm : m = [] := by
      cases m with
      | nil => rfl
      | cons x m => obtain ⟨b, off, h, _⟩ := hr.2.2.1 (by simp); cases h
    subst hm
    exact ⟨v, w, run_app_none E h c, by simpa using h, grown_refl _ _⟩
  | some a =>
    obtain ⟨i, z, hi, hz, hs, hby, hzs⟩ := E.info
    have hn : ∀ j u, (flat m)[j]? = some u → w.cell? (a.add j) = some u := by
      intro j u hj
      have hml : 0 < m.length := by
        cases m with
        | nil => simp [flat] at hj
        | cons x m => simp
      obtain ⟨b, off, h, hc⟩ := hr.2.2.1 hml
      cases h
      have e1 : (⟨b, off, none⟩ : Addr).add j = ⟨b, off + j, none⟩ := by unfold Addr.add; split <;> simp_all
      rw [e1]
      exact hc j u hj
    have hbb : (l.length + m.length) * i.bytes ≤ 1000000 * 200 := Nat.mul_le_mul hl hby
    obtain ⟨v', w', hrun, hown, hgrow, -, -⟩ := run_append_own_at (P := Tryd.prog) (w := w) base s s e i z (sz α) i.bytes E.und hi hz hs rfl hzs Flat.pos v l.length (flat l) h.1 a m.length c (flat m) (flat_length m) hn (flat_one_cell m) (by unfold maxLen; omega) (by omega) hb
    refine ⟨v', w', hrun, ⟨?_, ?_⟩, hgrow⟩
    · rw [List.length_append, flat_append]; exact hown
    · intro x hx
      rcases List.mem_append.1 hx with h1 | h1
      · exact h.2 x h1
      · exact hr.ok x h1
/-- A box with one element. -/
theorem rd_box (w : World) (x : α) (hx : okE x) (cs : Array Value) (hc : cs.toList = enc x) (ty : TypeId) : Rd (w.alloc (.cells cs ty)) (some ⟨w.heap.size, 0, none⟩) 1 [x] := by
  refine ⟨by simp, by simp [maxLen], fun _ => ⟨w.heap.size, 0, rfl, fun j v hv => ?_⟩, by simpa using hx⟩
  rw [flat_one, ← hc] at hv
  have hj : j < cs.size := by have := (List.getElem?_eq_some_iff.1 hv).1; simpa using this
  rw [Array.getElem?_toList] at hv
  have h9 := World.alloc_heap_new w (.cells cs ty)
  unfold World.cell?
  simp only [h9, Nat.zero_add]
  exact hv
/-- append(own, x). -/
theorem app_one (E : El α e s) {w : World} {base : Nat} {v : Value} {l : List α} (h : Own e w base v l) (x : α) (hx : okE x) (hl : l.length < 1000000) (hb : base ≤ w.heap.size) (cs : Array Value) (hc : cs.toList = enc x) :
    ∃ v' w', (Builtin.append_ #[s, s] s #[v, .slice (some ⟨w.heap.size, 0, none⟩) 1 1]).run Tryd.prog (w.alloc (.cells cs e)) = .ok v' w' ∧ Own e w' base v' (l ++ [x]) ∧ (w.alloc (.cells cs e)).grownBy w' v.ownBlock := by
  have h9 := app_at E (h.below ((Below.refl _ _).alloc (Nat.le_refl _) (.cells cs e))) (rd_box w x hx cs hc e) (by simp; omega) (by rw [alloc_sz]; omega)
  rw [List.length_singleton] at h9
  exact h9
theorem Own.over_one {w w1 : World} {base B : Nat} {v : Value} {l : List α} (h : Own e w base v l) {o : Obj} {w0 : World} (hb : Below B w0 w) (hg : (w.alloc o).grownBy w1 v.ownBlock) (hB : B ≤ base) (hs : B ≤ w.heap.size) : Below B w0 w1 :=
  (h.below ((Below.refl _ _).alloc (Nat.le_refl _) o)).over (hb.alloc hs o) hg hB (by rw [alloc_sz]; omega)
/-- An empty slice that is made. -/
theorem own_made (w : World) (base : Nat) (hb : base ≤ w.heap.size) : Own e (w.alloc (.cells #[] e)) base (.slice (some ⟨w.heap.size, 0, none⟩) 0 0) ([] : List α) :=
  ⟨World.ownsRow_made w #[] 0 hb (Nat.zero_le _) (by simp), by simp⟩
end

/-! ### cuts -/
theorem run_cut {α : Type} [Flat α] {e s : TypeId} (E : El α e s) (A : Option Addr) (n c k : Nat) (hk : k ≤ n) (w : World) : (Instr.slice s (.slice A n c) (some (.int .i64 k)) none none).run Tryd.prog w = .ok (.slice (fromA A c k (sz α)) (n - k) (c - k)) w := by
  obtain ⟨i, z, hi, hz, hs, hby, hzs⟩ := E.info
  have he : Tryd.prog.elem s = e := by unfold Program.elem; rw [E.und]
  have hu : Tryd.prog.underlying s = some (.slice (Tryd.prog.elem s)) := by rw [he]; exact E.und
  rw [run_slice_l w s A n c hu .i64 k (by omega) (by omega), he]
  have h2 : (sizeOf e).run Tryd.prog w = .ok (sz α) w := by simp [sizeOf, typeInfo, hi, hs]
  rw [h2]
  rfl
theorem run_head {α : Type} [Flat α] {e s : TypeId} (E : El α e s) (A : Option Addr) (n c k : Nat) (hk : k ≤ c) (w : World) : (Instr.slice s (.slice A n c) none (some (.int .i64 k)) none).run Tryd.prog w = .ok (.slice (fromA A c 0 (sz α)) k c) w := by
  obtain ⟨i, z, hi, hz, hs, hby, hzs⟩ := E.info
  have he : Tryd.prog.elem s = e := by unfold Program.elem; rw [E.und]
  have hu : Tryd.prog.underlying s = some (.slice (Tryd.prog.elem s)) := by rw [he]; exact E.und
  rw [run_slice_h w s A n c hu .i64 k (by omega) (by omega), he]
  have h2 : (sizeOf e).run Tryd.prog w = .ok (sz α) w := by simp [sizeOf, typeInfo, hi, hs]
  rw [h2]
  rfl
theorem run_mid {α : Type} [Flat α] {e s : TypeId} (E : El α e s) (A : Option Addr) (n c k m : Nat) (hk : k ≤ m) (hm : m ≤ c) (w : World) : (Instr.slice s (.slice A n c) (some (.int .i64 k)) (some (.int .i64 m)) none).run Tryd.prog w = .ok (.slice (fromA A c k (sz α)) (m - k) (c - k)) w := by
  obtain ⟨i, z, hi, hz, hs, hby, hzs⟩ := E.info
  have he : Tryd.prog.elem s = e := by unfold Program.elem; rw [E.und]
  have hu : Tryd.prog.underlying s = some (.slice (Tryd.prog.elem s)) := by rw [he]; exact E.und
  rw [run_slice_lh w s A n c hu .i64 .i64 k m (by omega) (by omega) (by omega), he]
  have h2 : (sizeOf e).run Tryd.prog w = .ok (sz α) w := by simp [sizeOf, typeInfo, hi, hs]
  rw [h2]
  rfl
theorem Rd.head {α : Type} [Flat α] {w : World} {A : Option Addr} {c : Nat} {l : List α} (h : Rd w A c l) (k : Nat) : Rd w (fromA A c 0 (sz α)) c (l.take k) := by
  have h1 := (h.from_ 0 (by omega)).take k
  simpa using h1
theorem Rd.mid {α : Type} [Flat α] {w : World} {A : Option Addr} {c : Nat} {l : List α} (h : Rd w A c l) (k m : Nat) (hk : k ≤ l.length) : Rd w (fromA A c k (sz α)) (c - k) ((l.drop k).take (m - k)) := (h.from_ k hk).take _

/-! ### storing into a slice of the call's own -/
section
variable {α : Type} [Flat α] {e s : TypeId}
theorem flat_set (l : List α) (k : Nat) (hk : k < l.length) (x : α) (j : Nat) (u : Value) (hj : j < sz α) (h : enc x = (enc l[k]).set j u) : flat (l.set k x) = (flat l).set (k * sz α + j) u := by
  induction l generalizing k with
  | nil => simp at hk
  | cons y l ih =>
    cases k with
    | zero =>
      simp only [List.getElem_cons_zero] at h
      rw [List.set_cons_zero, flat_cons, flat_cons, h, Nat.zero_mul, Nat.zero_add, List.set_append_left _ _ (by rw [Flat.len]; exact hj)]
    | succ k =>
      simp only [List.getElem_cons_succ] at h
      have hk' : k < l.length := by simpa using hk
      rw [List.set_cons_succ, flat_cons, flat_cons, ih k hk' h, List.set_append_right _ _ (by rw [Flat.len, Nat.add_mul]; omega)]
      congr 2
      rw [Flat.len, Nat.add_mul]; omega
theorem Own.some_ {w : World} {base : Nat} {v : Value} {l : List α} (h : Own e w base v l) (hl : 0 < l.length) : ∃ g cap, v = .slice (some ⟨g, 0, none⟩) l.length cap ∧ base ≤ g ∧ g < w.heap.size ∧ (∀ o, w.frozen? ⟨g, o, none⟩ = false) ∧ l.length ≤ cap := by
  rcases h.1.2 with ⟨_, h0⟩ | ⟨g, cap, cur, rfl, hb, hh, hn, hc, hs, ht⟩
  · omega
  · exact ⟨g, cap, rfl, hb, blk_lt hh, fun o => h.1.frozenAt o, hn⟩
theorem Own.store {w : World} {base g cap : Nat} {l : List α} (h : Own e w base (.slice (some ⟨g, 0, none⟩) l.length cap) l) (k : Nat) (hk : k < l.length) (x : α) (hx : okE x) (j : Nat) (u : Value) (hj : j < sz α) (he : enc x = (enc l[k]).set j u) :
    Own e (w.setCell ⟨g, k * sz α + j, none⟩ u) base (.slice (some ⟨g, 0, none⟩) l.length cap) (l.set k x) ∧ w.grownBy (w.setCell ⟨g, k * sz α + j, none⟩ u) (some g) := by
  obtain ⟨h1, h2⟩ := h.1.stored (k * sz α + j) u
  refine ⟨⟨?_, fun y hy => ?_⟩, h2⟩
  · rw [List.length_set, flat_set l k hk x j u hj he]; exact h1
  · rcases List.mem_or_eq_of_mem_set hy with h3 | h3
    · exact h.2 y h3
    · rw [h3]; exact hx
end
end Go.Proofs.YtjhbbgeebobcpaaDoor
namespace Go.Proofs.YtjhbbgeebobcpaaDoor
open Go.RowKit
set_option linter.unusedVariables false

def kidsTo (t : List Row) (a k : Nat) : List Int := (((t.take k).drop (a + 1)).filter (fun r => decide (r.depth = depAt t a + 1))).map (·.id)
theorem depAt_lt (t : List Row) (a : Nat) (ha : a < t.length) : depAt t a = t[a].depth := by unfold depAt; rw [List.getD_eq_getElem?_getD, List.getElem?_eq_getElem ha]; rfl
theorem kidsTo_start (t : List Row) (a : Nat) : kidsTo t a (a + 1) = [] := by unfold kidsTo; rw [List.drop_of_length_le (by rw [List.length_take]; omega)]; rfl
theorem kidsTo_next (t : List Row) (a k : Nat) (hk : k < t.length) (ha : a < k) : kidsTo t a (k + 1) = if t[k].depth = depAt t a + 1 then kidsTo t a k ++ [t[k].id] else kidsTo t a k := by
  unfold kidsTo
  rw [List.take_succ_eq_append_getElem hk, List.drop_append_of_le_length (by rw [List.length_take]; omega), List.filter_append, List.map_append]
  by_cases h : t[k].depth = depAt t a + 1 <;> simp [h]
theorem below_eq (t : List Row) (a : Nat) : (t.take (endOf t a)).drop (a + 1) = below t a := by
  have h : below t a = (t.drop (a + 1)).take (below t a).length := by
    unfold below
    exact (List.prefix_iff_eq_take.1 (List.takeWhile_prefix _))
  rw [List.drop_take, endOf, show a + 1 + (below t a).length - (a + 1) = (below t a).length by omega]
  exact h.symm
theorem kidsTo_end (t : List Row) (id : Int) (a : Nat) (h : idx t id = some a) : kidsTo t a (endOf t a) = kidsOf t id := by
  unfold kidsTo kidsOf
  rw [h, below_eq]
theorem kidsTo_len (t : List Row) (a k : Nat) : (kidsTo t a k).length ≤ t.length := by
  unfold kidsTo
  rw [List.length_map]
  refine Nat.le_trans (List.length_filter_le _ _) ?_
  rw [List.length_drop, List.length_take]; omega

set_option maxRecDepth 100000 in
set_option maxHeartbeats 2000000 in
theorem kids_s (A : Option Addr) (c : Nat) (t : List Row) (id : Int) (w : World) (hr : Rd w A c t) (hl : t.length ≤ 1000) (hok : ∀ r ∈ t, rowOk r = true) :
    Calls Tryd.prog 90 #[.slice A t.length c, .int .i64 id] w fun e w' => ∃ v, e = .returned v ∧ Own 3 w' w.heap.size v (kidsOf t id) ∧ Ext w w' := by
  have HR := Lib.hid hr; have HOK := Lib.hid hok
  have hm0 : Own 3 (w.alloc (.cells #[] 3)) w.heap.size (.slice (some ⟨w.heap.size, 0, none⟩) 0 0) ([] : List Int) := own_made w w.heap.size (Nat.le_refl _)
  have hE0 : Ext w (w.alloc (.cells #[] 3)) := (Below.refl _ _).alloc (Nat.le_refl _) _
  have HM0 := Lib.hid hm0; have HE0 := Lib.hid hE0
  have HAT := Lib.hid (at_s A c t id (w.alloc (.cells #[] 3)) (hr.alloc _))
  clear hr hok hm0 hE0
  cases hx : idx t id with
  | none =>
    have hat : atI t id = -1 := by unfold atI; rw [hx]
    have HK : Hid (kidsOf t id = []) := by show _ = _; unfold kidsOf; rw [hx]
    rw [hat] at HAT
    clear hat hx
    go_enter Tryd.func90, Tryd.ntmps90
    go_wp2_with fail
    refine HAT.out.mono ?_; rintro e w1 ⟨rfl, rfl⟩
    go_wp2_with fail
    go_ret
    exact ⟨_, rfl, by rw [HK.out]; exact HM0.out, HE0.out⟩
  | some a =>
    have hat : atI t id = a := by unfold atI; rw [hx]
    have ha := idx_lt hx
    have HK := Lib.hid (kidsTo_end t id a hx)
    rw [hat] at HAT
    have hda := rowOk_id (HOK.out t[a] (List.getElem_mem ha))
    obtain ⟨-, -, hda0, hda1⟩ := hda
    have hdd := depAt_lt t a ha
    have HDD := Lib.hid hdd
    have her := endOf_range t a ha
    obtain ⟨her0, her1⟩ := her
    clear hat hx hdd
    go_enter Tryd.func90, Tryd.ntmps90
    go_wp2_with fail
    refine HAT.out.mono ?_; rintro e w1 ⟨rfl, rfl⟩
    clear HAT
    go_wp2_with fail
    go_loopg [5, 7] (t.length - (a + 1)) (fun gk v i wr => ∃ k : Nat, k ≤ endOf t a ∧ a < k ∧ Hid (gk = t.length - k) ∧ i = .int .i64 k ∧ Hid (Own 3 wr w.heap.size v (kidsTo t a k)) ∧ Hid (Ext w wr))
    case atStart => exact ⟨a + 1, by omega, by omega, rfl, by go_num, by show Own _ _ _ _ _; rw [kidsTo_start]; exact HM0.out, HE0.out⟩
    case round =>
      obtain ⟨k, hk, hak, HKK, rfl, HO, HE⟩ := hrel
      have hsz := HE.out.size
      have HEN := Lib.hid (end_s A c t a wr (HR.out.ext HE.out) ha)
      by_cases hlt : k < endOf t a
      · have hkl : k < t.length := by omega
        obtain ⟨b, off, rfl, hbl, a0, a1, a2⟩ := row_at (HR.out.ext HE.out) a ha
        obtain ⟨b', off', e', hbl', c0, c1, c2⟩ := row_at (HR.out.ext HE.out) k hkl
        cases e'
        have hkl' : (k : Int) < t.length := by omega
        have ha' : (a : Int) < t.length := by omega
        have HN := Lib.hid (kidsTo_next t a k hkl hak)
        obtain ⟨A2, n2, rfl, -⟩ := HO.out.rd
        have hklen := kidsTo_len t a k
        by_cases hd : t[k].depth = t[a].depth + 1
        · have hN2 : Hid (kidsTo t a (k + 1) = kidsTo t a k ++ [t[k].id]) := by show _ = _; rw [HN.out, HDD.out, if_pos hd]
          have hd' : (t[k].depth == t[a].depth + 1) = true := by simp [hd]
          clear hd
          go_wp2_with fail
          refine HEN.out.mono ?_; rintro e w2 ⟨rfl, n1, rfl⟩
          go_wp2_with fail
          go_quiet (fail)
          obtain ⟨W3, hW3⟩ : ∃ W3, W3 = (wr.drewN n1).drewN nq := ⟨_, rfl⟩
          rw [← hW3]
          have x0 : W3.cell? ⟨b, off + k * 3, none⟩ = some (.int .i64 t[k].id) := by rw [hW3]; exact c0
          have hE3 : Ext w W3 := by rw [hW3]; exact Ext.drewN (Ext.drewN HE.out _) _
          have hO3 : Own 3 W3 w.heap.size (.slice A2 (kidsTo t a k).length n2) (kidsTo t a k) := by rw [hW3]; exact HO.out.below (Ext.drewN (Ext.drewN (Below.refl _ _) _) _)
          obtain ⟨v', w4, hrun, hown4, hg4⟩ := app_one el_int hO3 t[k].id trivial (by omega) hE3.size #[.int .i64 t[k].id] rfl
          have hB4 := hO3.over_one hE3 hg4 (Nat.le_refl _) hE3.size
          have HO4 := Lib.hid hown4; have HB4 := Lib.hid hB4
          clear hW3 hE3 hO3 hown4 hg4 hB4 a0 a1 a2 c0 c1 c2
          go_wp2_with (at_builtin; refine wpList_append_run rfl _ _ _ rfl rfl rfl hrun ?_)
          go_roundg (t.length - (k + 1))
          case measure => have := HKK.out; omega
          case rel => exact ⟨k + 1, by omega, by omega, rfl, by go_num, by rw [hN2.out]; exact HO4.out, HB4.out⟩
        · have hN2 : Hid (kidsTo t a (k + 1) = kidsTo t a k) := by show _ = _; rw [HN.out, HDD.out, if_neg hd]
          have hd' : (t[k].depth == t[a].depth + 1) = false := by simp [hd]
          clear hd
          go_wp2_with fail
          refine HEN.out.mono ?_; rintro e w2 ⟨rfl, nq, rfl⟩
          go_wp2_with fail
          go_quiet (fail)
          go_wp2_with fail
          go_roundg (t.length - (k + 1))
          case measure => have := HKK.out; omega
          case rel => exact ⟨k + 1, by omega, by omega, rfl, by go_num, by rw [hN2.out]; exact (HO.out.below (Ext.drewN (Below.refl _ _) _)), Ext.drewN HE.out _⟩
      · have hke : k = endOf t a := by omega
        rw [hke] at HO
        have HKE := Lib.hid hke
        clear hke
        go_wp2_with fail
        refine HEN.out.mono ?_; rintro e w2 ⟨rfl, nq, rfl⟩
        go_wp2_with fail
        go_ret
        exact ⟨_, rfl, by rw [← HK.out]; exact (HO.out.below (Ext.drewN (Below.refl _ _) _)), Ext.drewN HE.out _⟩

set_option maxRecDepth 100000 in
set_option maxHeartbeats 1000000 in
theorem under_s (A : Option Addr) (c : Nat) (t : List Row) (id under : Int) (w : World) (hr : Rd w A c t) :
    Calls Tryd.prog 109 #[.slice A t.length c, .int .i64 id, .int .i64 under] w fun e w' => e = .returned (.bool (underL t id under)) ∧ ∃ n, w' = w.drewN n := by
  have hm : t.length ≤ maxLen := Nat.le_trans hr.1 hr.2.1
  unfold maxLen at hm
  have HA := Lib.hid (at_s A c t id w hr)
  have HB := Lib.hid (at_s A c t under w hr)
  have HR := Lib.hid hr
  clear hr
  cases hx : idx t id with
  | none =>
    have hat : atI t id = -1 := by unfold atI; rw [hx]
    have HK : Hid (underL t id under = false) := by show _ = _; unfold underL; rw [hx]
    rw [hat] at HA
    clear hat hx
    go_enter Tryd.func109, Tryd.ntmps109
    go_wp2_with fail
    refine HA.out.mono ?_; rintro e w1 ⟨rfl, rfl⟩
    go_wp2_with fail
    refine HB.out.mono ?_; rintro e w1 ⟨rfl, rfl⟩
    go_wp2_with fail
    go_ret
    exact ⟨by rw [HK.out]; rfl, 0, rfl⟩
  | some a =>
    have hat : atI t id = a := by unfold atI; rw [hx]
    rw [hat] at HA
    clear hat
    cases hy : idx t under with
    | none =>
      have hbt : atI t under = -1 := by unfold atI; rw [hy]
      have HK : Hid (underL t id under = false) := by show _ = _; unfold underL; rw [hx, hy]
      rw [hbt] at HB
      clear hbt hx hy
      go_enter Tryd.func109, Tryd.ntmps109
      go_wp2_with fail
      refine HA.out.mono ?_; rintro e w1 ⟨rfl, rfl⟩
      go_wp2_with fail
      refine HB.out.mono ?_; rintro e w1 ⟨rfl, rfl⟩
      go_wp2_with fail
      go_ret
      exact ⟨by rw [HK.out]; rfl, 0, rfl⟩
    | some b =>
      have hbt : atI t under = b := by unfold atI; rw [hy]
      rw [hbt] at HB
      have hb := idx_lt hy
      have her := endOf_range t b hb
      obtain ⟨her0, her1⟩ := her
      have HEN := Lib.hid (end_s A c t b w HR.out hb)
      have HK : Hid (underL t id under = inR a b ((endOf t b : Int) - 1)) := by
        show _ = _; unfold underL inR; rw [hx, hy]
        rw [Bool.eq_iff_iff]; simp only [decide_eq_true_eq]; omega
      clear hbt hx hy
      go_enter Tryd.func109, Tryd.ntmps109
      go_wp2_with fail
      refine HA.out.mono ?_; rintro e w1 ⟨rfl, rfl⟩
      go_wp2_with fail
      refine HB.out.mono ?_; rintro e w1 ⟨rfl, rfl⟩
      go_wp2_with fail
      refine HEN.out.mono ?_; rintro e w1 ⟨rfl, n1, rfl⟩
      go_wp2_with fail
      refine (in_c _ _ _ _).mono ?_; rintro e w1 ⟨rfl, rfl⟩
      go_wp2_with fail
      go_ret
      exact ⟨by rw [HK.out]; rfl, _, rfl⟩
end Go.Proofs.YtjhbbgeebobcpaaDoor
namespace Go.Proofs.YtjhbbgeebobcpaaDoor
open Go.RowKit
set_option linter.unusedVariables false

theorem int_at {w : World} {A : Option Addr} {c : Nat} {l : List Int} (h : Rd w A c l) (k : Nat) (hk : k < l.length) :
    ∃ b off, A = some ⟨b, off, none⟩ ∧ b < w.heap.size ∧ w.cell? ⟨b, off + k, none⟩ = some (.int .i64 l[k]) := by
  obtain ⟨b, off, rfl, hb, hc⟩ := h.at_ k hk
  have h0 := hc 0 _ rfl
  exact ⟨b, off, rfl, hb, by have e : off + (k * 1 + 0) = off + k := by omega
                             rw [← e]; exact h0⟩
theorem five_cells {W : World} {b : Nat} {v0 v1 v2 v3 v4 : Value} {ty : TypeId} (h : W.heap[b]? = some (.cells #[v0, v1, v2, v3, v4] ty (0, 0))) :
    W.cell? ⟨b, 0, none⟩ = some v0 ∧ W.cell? ⟨b, 1, none⟩ = some v1 ∧ W.cell? ⟨b, 2, none⟩ = some v2 ∧ W.cell? ⟨b, 3, none⟩ = some v3 ∧ W.cell? ⟨b, 4, none⟩ = some v4 ∧ ∀ o, W.frozen? ⟨b, o, none⟩ = false := by
  refine ⟨by simp [World.cell?, h], by simp [World.cell?, h], by simp [World.cell?, h], by simp [World.cell?, h], by simp [World.cell?, h], fun o => by simp [World.frozen?, h]⟩
def whV (r : Option (Int × Int)) : Value := match r with | none => .tuple #[.int .i64 0, .int .i64 0, .bool false] | some (u, p) => .tuple #[.int .i64 u, .int .i64 p, .bool true]
def posTo (ks : List Int) (id pos : Int) : Int := if pos ∈ ks ∧ pos ≠ id then pos else 0

theorem posTo_next (ks : List Int) (id pos : Int) (k : Nat) (hk : k < ks.length) : posTo (ks.take (k + 1)) id pos = if ks[k] = pos ∧ pos ≠ id then pos else posTo (ks.take k) id pos := by
  have hm : (pos ∈ ks.take (k + 1)) ↔ (pos ∈ ks.take k ∨ pos = ks[k]) := by rw [List.take_succ_eq_append_getElem hk, List.mem_append, List.mem_singleton]
  unfold posTo
  simp only [hm]
  by_cases h1 : ks[k] = pos
  · by_cases h2 : pos = id <;> simp [h1, h2]
  · have : ¬ pos = ks[k] := fun e => h1 e.symm
    simp [h1, this]

set_option maxRecDepth 100000 in
set_option maxHeartbeats 4000000 in
theorem where_s (A : Option Addr) (c : Nat) (t : List Row) (o : Op) (w : World) (hr : Rd w A c t) (hl : t.length ≤ 1000) (hok : ∀ r ∈ t, rowOk r = true) :
    Calls Tryd.prog 95 #[.slice A t.length c, o.val] w fun e w' => e = .returned (whV (whereL t o)) ∧ Ext w w' := by
  show Calls Tryd.prog 95 #[.slice A t.length c, .agg #[.int .i64 o.kind, .int .i64 o.id, .int .i64 o.up, .int .i64 o.pos, .string o.text]] w _
  have hE : Ext w (w.alloc (.cells #[.int .i64 o.kind, .int .i64 o.id, .int .i64 o.up, .int .i64 o.pos, .string o.text] 42)) := (Below.refl _ w).alloc (Nat.le_refl _) _
  have hbx := World.alloc_heap_new w (.cells #[.int .i64 o.kind, .int .i64 o.id, .int .i64 o.up, .int .i64 o.pos, .string o.text] 42)
  have hsz := alloc_sz w (.cells #[.int .i64 o.kind, .int .i64 o.id, .int .i64 o.up, .int .i64 o.pos, .string o.text] 42)
  have hrw := hr.alloc (.cells #[.int .i64 o.kind, .int .i64 o.id, .int .i64 o.up, .int .i64 o.pos, .string o.text] 42)
  generalize hW0 : w.alloc (.cells #[.int .i64 o.kind, .int .i64 o.id, .int .i64 o.up, .int .i64 o.pos, .string o.text] 42) = W0 at hE hbx hsz hrw
  have HW0 := Lib.hid hW0
  have HE := Lib.hid hE; have HBX := Lib.hid hbx; have HSZ := Lib.hid hsz; have HR := Lib.hid hrw; have HOK := Lib.hid hok
  have HA1 := Lib.hid (at_s A c t o.id W0 hrw)
  have HA2 := Lib.hid (fun n => at_s A c t o.up (W0.drewN n) (hrw.drewN n))
  have HU := Lib.hid (under_s A c t o.up o.id W0 hrw)
  clear hE hbx hsz hrw hok hr hW0
  by_cases hk2 : o.kind = 2
  · have hk2' : (o.kind == 2) = true := by simp [hk2]
    have HX : Hid (whereL t o = none) := by show _ = _; unfold whereL; rw [if_pos (.inl hk2)]
    clear hk2
    go_enter Tryd.func95, Tryd.ntmps95
    go_wp2_with fail
    rw [HW0.out]
    refine HA1.out.mono ?_; rintro e w1 ⟨rfl, rfl⟩
    obtain ⟨d0, d1, d2, d3, d4, df⟩ := five_cells HBX.out
    go_wp2_with fail
    go_ret3
    exact ⟨by rw [HX.out]; rfl, HE.out⟩
  have hk2' : (o.kind == 2) = false := by simp [hk2]
  by_cases hbad : (idx t o.id).isSome ≠ decide (o.kind = 3)
  · have HX : Hid (whereL t o = none) := by show _ = _; unfold whereL; rw [if_pos (.inr (.inl hbad))]
    clear hk2
    cases hx : idx t o.id with
    | none =>
      rw [hx] at hbad
      have hk3 : (o.kind == 3) = true := by simp at hbad; simp [hbad]
      have hat : atI t o.id = -1 := by unfold atI; rw [hx]
      rw [hat] at HA1
      clear hat hx hbad
      go_enter Tryd.func95, Tryd.ntmps95
      go_wp2_with fail
      rw [HW0.out]
      refine HA1.out.mono ?_; rintro e w1 ⟨rfl, rfl⟩
      obtain ⟨d0, d1, d2, d3, d4, df⟩ := five_cells HBX.out
      go_wp2_with fail
      go_ret3
      exact ⟨by rw [HX.out]; rfl, HE.out⟩
    | some a =>
      rw [hx] at hbad
      have hk3 : (o.kind == 3) = false := by simp at hbad; simp [hbad]
      have hat : atI t o.id = a := by unfold atI; rw [hx]
      rw [hat] at HA1
      clear hat hx hbad
      go_enter Tryd.func95, Tryd.ntmps95
      go_wp2_with fail
      rw [HW0.out]
      refine HA1.out.mono ?_; rintro e w1 ⟨rfl, rfl⟩
      obtain ⟨d0, d1, d2, d3, d4, df⟩ := five_cells HBX.out
      go_wp2_with fail
      go_ret3
      exact ⟨by rw [HX.out]; rfl, HE.out⟩
  by_cases hun : (idx t o.id).isSome = true ∧ underL t o.up o.id = true
  · have HX : Hid (whereL t o = none) := by show _ = _; unfold whereL; rw [if_pos (.inr (.inr hun))]
    clear hk2
    cases hx : idx t o.id with
    | none => rw [hx] at hun; exact absurd hun.1 (by simp)
    | some a =>
      rw [hx] at hbad
      have hk3 : (o.kind == 3) = true := by simp at hbad; simp [hbad]
      have hat : atI t o.id = a := by unfold atI; rw [hx]
      rw [hat] at HA1
      rw [hun.2] at HU
      clear hat hx hbad hun
      go_enter Tryd.func95, Tryd.ntmps95
      go_wp2_with fail
      rw [HW0.out]
      refine HA1.out.mono ?_; rintro e w1 ⟨rfl, rfl⟩
      obtain ⟨d0, d1, d2, d3, d4, df⟩ := five_cells HBX.out
      go_wp2_with fail
      refine HU.out.mono ?_; rintro e w1 ⟨rfl, n1, rfl⟩
      go_wp2_with fail
      go_ret3
      exact ⟨by rw [HX.out]; rfl, Ext.drewN HE.out _⟩
  have hres : whereL t o = (if (idx t o.up).isNone = true then some (3, 0) else some (o.up, posTo (kidsOf t o.up) o.id o.pos)) := by
    unfold whereL posTo
    rw [if_neg (by rintro (h | h | h); exact hk2 h; exact hbad h; exact hun h)]
  have HX := Lib.hid hres
  clear hres
  have hcase : (idx t o.id = none ∧ o.kind ≠ 3) ∨ (∃ a, idx t o.id = some a ∧ o.kind = 3 ∧ underL t o.up o.id = false) := by
    cases hx : idx t o.id with
    | none => rw [hx] at hbad; exact .inl ⟨rfl, by simpa using hbad⟩
    | some a => rw [hx] at hbad hun; exact .inr ⟨a, rfl, by simpa using hbad, by simpa using hun⟩
  clear hk2 hbad hun
  go_enter Tryd.func95, Tryd.ntmps95
  go_wp2_with fail
  rw [HW0.out]
  rcases hcase with ⟨hx, hk3⟩ | ⟨a, hx, hk3, hun⟩
  · skip
    have hat : atI t o.id = -1 := by unfold atI; rw [hx]
    rw [hat] at HA1
    have hk3' : (o.kind == 3) = false := by simp [hk3]
    clear hat hx hk3
    refine HA1.out.mono ?_; rintro e w1 ⟨rfl, hw1⟩
    rw [hw1]
    obtain ⟨d0, d1, d2, d3, d4, df⟩ := five_cells HBX.out
    go_wp2_with fail
    obtain ⟨W1, hW1⟩ : ∃ W1, W1 = W0 := ⟨_, rfl⟩
    rw [← hW1]
    have hb1 : W1.heap[w.heap.size]? = some (.cells #[.int .i64 o.kind, .int .i64 o.id, .int .i64 o.up, .int .i64 o.pos, .string o.text] 42 (0, 0)) := by rw [hW1]; exact HBX.out
    have hE1 : Ext w W1 := by rw [hW1]; exact HE.out
    have hR1 : Rd W1 A c t := by rw [hW1]; exact HR.out
    have hA3 := at_s A c t o.up W1 hR1
    have HB1 := Lib.hid hb1; have HE1 := Lib.hid hE1; have HR1 := Lib.hid hR1
    clear d0 d1 d2 d3 d4 df hW1 hb1 hE1 hR1 HU HA1 HA2
    cases hy : idx t o.up with
    | none =>
      have hat : atI t o.up = -1 := by unfold atI; rw [hy]
      rw [hat] at hA3
      have HX2 : Hid (whereL t o = some (3, 0)) := by show _ = _; rw [HX.out, hy]; rfl
      have HA3 := Lib.hid hA3
      clear hat hy hA3
      refine HA3.out.mono ?_; rintro e w3 ⟨rfl, hw3⟩
      rw [hw3]
      go_wp2_with fail
      go_ret3
      exact ⟨by rw [HX2.out]; rfl, HE1.out⟩
    | some u =>
      have hat : atI t o.up = u := by unfold atI; rw [hy]
      rw [hat] at hA3
      have HX2 : Hid (whereL t o = some (o.up, posTo (kidsOf t o.up) o.id o.pos)) := by show _ = _; rw [HX.out, hy]; rfl
      have HA3 := Lib.hid hA3
      clear hat hy hA3
      refine HA3.out.mono ?_; rintro e w3 ⟨rfl, hw3⟩
      rw [hw3]
      go_wp2_with fail
      refine (kids_s A c t o.up W1 HR1.out hl HOK.out).mono ?_; rintro e w4 ⟨v4, rfl, hown4, hb4⟩
      obtain ⟨A4, n4, rfl, hr4⟩ := hown4.rd
      have hE4 : Ext w w4 := HE1.out.trans (hb4.mono HE1.out.size)
      have hlt1 : w.heap.size < W1.heap.size := blk_lt HB1.out
      obtain ⟨d0, d1, d2, d3, d4, df⟩ := five_cells ((hb4.block w.heap.size hlt1).trans HB1.out)
      have HE4 := Lib.hid hE4; have HR4 := Lib.hid hr4
      have hkl : (kidsOf t o.up).length ≤ maxLen := Nat.le_trans hr4.1 hr4.2.1
      unfold maxLen at hkl
      clear hown4 hb4 hE4 hr4
      generalize kidsOf t o.up = ks at *
      go_wp2_with fail
      go_loopg [9, 11] ks.length (fun gk p i wr => ∃ (k n : Nat), wr = w4.drewN n ∧ k ≤ ks.length ∧ Hid (gk = ks.length - k) ∧ i = .int .i64 k ∧ p = .int .i64 (posTo (ks.take k) o.id o.pos))
      case atStart => exact ⟨0, 0, rfl, Nat.zero_le _, rfl, rfl, by simp [posTo]⟩
      case round =>
        obtain ⟨k, n, rfl, hk, HK, rfl, rfl⟩ := hrel
        by_cases hlt : k < ks.length
        · obtain ⟨b, off, rfl, hbl, c0⟩ := int_at HR4.out k hlt
          have hlt' : (k : Int) < ks.length := by omega
          have HN := Lib.hid (posTo_next ks o.id o.pos k hlt)
          by_cases h1 : ks[k] = o.pos
          · have h1' : (ks[k] == o.pos) = true := by simp [h1]
            by_cases h2 : o.pos = o.id
            · have h2' : (o.pos != o.id) = false := by simp [h2]
              have HN2 : Hid (posTo (ks.take (k + 1)) o.id o.pos = posTo (ks.take k) o.id o.pos) := by show _ = _; rw [HN.out, if_neg (fun h => h.2 h2)]
              clear h1 h2
              go_wp2_with fail
              go_quiet (fail)
              go_wp2_with fail
              go_roundg (ks.length - (k + 1))
              case measure => have := HK.out; omega
              case rel => exact ⟨k + 1, _, rfl, by omega, rfl, by go_num, by rw [HN2.out]⟩
            · have h2' : (o.pos != o.id) = true := by simp [h2]
              have HN2 : Hid (posTo (ks.take (k + 1)) o.id o.pos = o.pos) := by show _ = _; rw [HN.out, if_pos ⟨h1, h2⟩]
              clear h1 h2
              go_wp2_with fail
              go_quiet (fail)
              go_wp2_with fail
              go_roundg (ks.length - (k + 1))
              case measure => have := HK.out; omega
              case rel => exact ⟨k + 1, _, rfl, by omega, rfl, by go_num, by rw [HN2.out]⟩
          · have h1' : (ks[k] == o.pos) = false := by simp [h1]
            have HN2 : Hid (posTo (ks.take (k + 1)) o.id o.pos = posTo (ks.take k) o.id o.pos) := by show _ = _; rw [HN.out, if_neg (fun h => h1 h.1)]
            clear h1
            go_wp2_with fail
            go_quiet (fail)
            go_wp2_with fail
            go_roundg (ks.length - (k + 1))
            case measure => have := HK.out; omega
            case rel => exact ⟨k + 1, _, rfl, by omega, rfl, by go_num, by rw [HN2.out]⟩
        · have hkl2 : k = ks.length := by omega
          have HP : Hid (posTo (ks.take k) o.id o.pos = posTo ks o.id o.pos) := by show _ = _; rw [hkl2, List.take_length]
          clear hkl2
          go_wp2_with fail
          go_ret3
          exact ⟨by rw [HX2.out, ← HP.out]; rfl, Ext.drewN HE4.out _⟩
  · skip
    have hat : atI t o.id = a := by unfold atI; rw [hx]
    rw [hat] at HA1
    rw [hun] at HU
    have hk3' : (o.kind == 3) = true := by simp [hk3]
    clear hat hx hk3 hun
    refine HA1.out.mono ?_; rintro e w1 ⟨rfl, hw1⟩
    rw [hw1]
    obtain ⟨d0, d1, d2, d3, d4, df⟩ := five_cells HBX.out
    go_wp2_with fail
    refine HU.out.mono ?_; rintro e w2 ⟨rfl, n1, hw2⟩
    rw [hw2]
    go_wp2_with fail
    obtain ⟨W1, hW1⟩ : ∃ W1, W1 = W0.drewN n1 := ⟨_, rfl⟩
    rw [← hW1]
    have hb1 : W1.heap[w.heap.size]? = some (.cells #[.int .i64 o.kind, .int .i64 o.id, .int .i64 o.up, .int .i64 o.pos, .string o.text] 42 (0, 0)) := by rw [hW1]; exact HBX.out
    have hE1 : Ext w W1 := by rw [hW1]; exact Ext.drewN HE.out _
    have hR1 : Rd W1 A c t := by rw [hW1]; exact HR.out
    have hA3 := at_s A c t o.up W1 hR1
    have HB1 := Lib.hid hb1; have HE1 := Lib.hid hE1; have HR1 := Lib.hid hR1
    clear d0 d1 d2 d3 d4 df hW1 hb1 hE1 hR1 HU HA1 HA2
    cases hy : idx t o.up with
    | none =>
      have hat : atI t o.up = -1 := by unfold atI; rw [hy]
      rw [hat] at hA3
      have HX2 : Hid (whereL t o = some (3, 0)) := by show _ = _; rw [HX.out, hy]; rfl
      have HA3 := Lib.hid hA3
      clear hat hy hA3
      refine HA3.out.mono ?_; rintro e w3 ⟨rfl, hw3⟩
      rw [hw3]
      go_wp2_with fail
      go_ret3
      exact ⟨by rw [HX2.out]; rfl, HE1.out⟩
    | some u =>
      have hat : atI t o.up = u := by unfold atI; rw [hy]
      rw [hat] at hA3
      have HX2 : Hid (whereL t o = some (o.up, posTo (kidsOf t o.up) o.id o.pos)) := by show _ = _; rw [HX.out, hy]; rfl
      have HA3 := Lib.hid hA3
      clear hat hy hA3
      refine HA3.out.mono ?_; rintro e w3 ⟨rfl, hw3⟩
      rw [hw3]
      go_wp2_with fail
      refine (kids_s A c t o.up W1 HR1.out hl HOK.out).mono ?_; rintro e w4 ⟨v4, rfl, hown4, hb4⟩
      obtain ⟨A4, n4, rfl, hr4⟩ := hown4.rd
      have hE4 : Ext w w4 := HE1.out.trans (hb4.mono HE1.out.size)
      have hlt1 : w.heap.size < W1.heap.size := blk_lt HB1.out
      obtain ⟨d0, d1, d2, d3, d4, df⟩ := five_cells ((hb4.block w.heap.size hlt1).trans HB1.out)
      have HE4 := Lib.hid hE4; have HR4 := Lib.hid hr4
      have hkl : (kidsOf t o.up).length ≤ maxLen := Nat.le_trans hr4.1 hr4.2.1
      unfold maxLen at hkl
      clear hown4 hb4 hE4 hr4
      generalize kidsOf t o.up = ks at *
      go_wp2_with fail
      go_loopg [9, 11] ks.length (fun gk p i wr => ∃ (k n : Nat), wr = w4.drewN n ∧ k ≤ ks.length ∧ Hid (gk = ks.length - k) ∧ i = .int .i64 k ∧ p = .int .i64 (posTo (ks.take k) o.id o.pos))
      case atStart => exact ⟨0, 0, rfl, Nat.zero_le _, rfl, rfl, by simp [posTo]⟩
      case round =>
        obtain ⟨k, n, rfl, hk, HK, rfl, rfl⟩ := hrel
        by_cases hlt : k < ks.length
        · obtain ⟨b, off, rfl, hbl, c0⟩ := int_at HR4.out k hlt
          have hlt' : (k : Int) < ks.length := by omega
          have HN := Lib.hid (posTo_next ks o.id o.pos k hlt)
          by_cases h1 : ks[k] = o.pos
          · have h1' : (ks[k] == o.pos) = true := by simp [h1]
            by_cases h2 : o.pos = o.id
            · have h2' : (o.pos != o.id) = false := by simp [h2]
              have HN2 : Hid (posTo (ks.take (k + 1)) o.id o.pos = posTo (ks.take k) o.id o.pos) := by show _ = _; rw [HN.out, if_neg (fun h => h.2 h2)]
              clear h1 h2
              go_wp2_with fail
              go_quiet (fail)
              go_wp2_with fail
              go_roundg (ks.length - (k + 1))
              case measure => have := HK.out; omega
              case rel => exact ⟨k + 1, _, rfl, by omega, rfl, by go_num, by rw [HN2.out]⟩
            · have h2' : (o.pos != o.id) = true := by simp [h2]
              have HN2 : Hid (posTo (ks.take (k + 1)) o.id o.pos = o.pos) := by show _ = _; rw [HN.out, if_pos ⟨h1, h2⟩]
              clear h1 h2
              go_wp2_with fail
              go_quiet (fail)
              go_wp2_with fail
              go_roundg (ks.length - (k + 1))
              case measure => have := HK.out; omega
              case rel => exact ⟨k + 1, _, rfl, by omega, rfl, by go_num, by rw [HN2.out]⟩
          · have h1' : (ks[k] == o.pos) = false := by simp [h1]
            have HN2 : Hid (posTo (ks.take (k + 1)) o.id o.pos = posTo (ks.take k) o.id o.pos) := by show _ = _; rw [HN.out, if_neg (fun h => h1 h.1)]
            clear h1
            go_wp2_with fail
            go_quiet (fail)
            go_wp2_with fail
            go_roundg (ks.length - (k + 1))
            case measure => have := HK.out; omega
            case rel => exact ⟨k + 1, _, rfl, by omega, rfl, by go_num, by rw [HN2.out]⟩
        · have hkl2 : k = ks.length := by omega
          have HP : Hid (posTo (ks.take k) o.id o.pos = posTo ks o.id o.pos) := by show _ = _; rw [hkl2, List.take_length]
          clear hkl2
          go_wp2_with fail
          go_ret3
          exact ⟨by rw [HX2.out, ← HP.out]; rfl, Ext.drewN HE4.out _⟩
end Go.Proofs.YtjhbbgeebobcpaaDoor
