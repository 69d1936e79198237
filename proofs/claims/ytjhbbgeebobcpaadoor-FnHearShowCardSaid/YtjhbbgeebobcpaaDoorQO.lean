/- Walks of the reference: where a row stands in a list, where what stands under it ends. A client hears. A client hears: what is too far away. -/
import Derived.Test.YtjhbbgeebobcpaaDoorQN
import Derived.Test.YtjhbbgeebobcpaaDoorQC
import Derived.Deep.QuietTactic
import Derived.BigQuiet
import Derived.Deep.LoopGhost
namespace Go.Proofs.YtjhbbgeebobcpaaDoor
open Go.RowKit
set_option linter.unusedVariables false

def atI (t : List Row) (id : Int) : Int := match idx t id with | some k => k | none => -1
theorem idx_first (t : List Row) (id : Int) (k : Nat) (hk : k < t.length) (h : ∀ j (hj : j < t.length), j < k → t[j].id ≠ id) (he : t[k].id = id) : idx t id = some k := by
  unfold idx
  rw [List.findIdx?_eq_some_iff_getElem]
  exact ⟨hk, by simp [he], fun j hj => by simpa using h j (by omega) hj⟩
theorem idx_no (t : List Row) (id : Int) (h : ∀ j (hj : j < t.length), t[j].id ≠ id) : idx t id = none := by
  rw [idx_none]
  intro hm
  obtain ⟨r, hr, e⟩ := List.mem_map.1 hm
  obtain ⟨j, hj, rfl⟩ := List.getElem_of_mem hr
  exact h j hj e
theorem idx_lt {t : List Row} {id : Int} {k : Nat} (h : idx t id = some k) : k < t.length := by
  unfold idx at h
  exact (List.findIdx?_eq_some_iff_getElem.1 h).1
theorem idx_id {t : List Row} {id : Int} {k : Nat} (h : idx t id = some k) : t[k]'(idx_lt h) = t[k]'(idx_lt h) ∧ (t[k]'(idx_lt h)).id = id := by
  unfold idx at h
  obtain ⟨h1, h2, _⟩ := List.findIdx?_eq_some_iff_getElem.1 h
  exact ⟨rfl, by simpa using h2⟩
theorem atI_range (t : List Row) (id : Int) : -1 ≤ atI t id ∧ atI t id < t.length := by
  unfold atI
  cases h : idx t id with
  | none => simp; omega
  | some k => have := idx_lt h; simp; omega

set_option maxRecDepth 100000 in
set_option maxHeartbeats 400000 in
theorem at_s (A : Option Addr) (c : Nat) (t : List Row) (id : Int) (w : World) (hr : Rd w A c t) :
    Calls Tryd.prog 94 #[.slice A t.length c, .int .i64 id] w fun e w' => e = .returned (.int .i64 (atI t id)) ∧ w' = w := by
  have hm : t.length ≤ maxLen := Nat.le_trans hr.1 hr.2.1
  unfold maxLen at hm
  have HR := Lib.hid hr
  clear hr
  go_enter Tryd.func94, Tryd.ntmps94
  go_wp2_with fail
  go_loop [5] (fun i => ∃ k : Nat, k ≤ t.length ∧ i = .int .i64 k ∧ Hid (∀ j (hj : j < t.length), j < k → t[j].id ≠ id)) (fun i => t.length - (intOf i).toNat)
  case atStart => exact ⟨0, Nat.zero_le _, rfl, fun j _ h => by omega⟩
  case round =>
    obtain ⟨k, hk, rfl, HA⟩ := hrel
    by_cases hlt : k < t.length
    · obtain ⟨b, off, rfl, hbl, c0, c1, c2⟩ := row_at HR.out k hlt
      by_cases he : t[k].id = id
      · have he' : (t[k].id == id) = true := by simp [he]
        have HX : Hid (atI t id = k) := by show _ = _; unfold atI; rw [idx_first t id k hlt HA.out he]
        clear he c1 c2
        go_wp2_with fail
        go_ret
        exact ⟨by rw [HX.out]; rfl, rfl⟩
      · have he' : (t[k].id == id) = false := by simp [he]
        have HN : Hid (∀ j (hj : j < t.length), j < k + 1 → t[j].id ≠ id) := fun j hj hjk => by
          by_cases e : j = k
          · subst e; exact he
          · exact HA.out j hj (by omega)
        clear he c1 c2
        go_wp2_with fail
        go_round
        case rel => exact ⟨k + 1, by omega, by go_num, HN⟩
        case measure => simp [intOf]; omega
    · have HX : Hid (atI t id = -1) := by show _ = _; unfold atI; rw [idx_no t id (fun j hj => HA.out j hj (by omega))]
      go_wp2_with fail
      go_ret
      exact ⟨by rw [HX.out]; rfl, rfl⟩

theorem endOf_first (t : List Row) (a k : Nat) (ha : a < k) (hk : k ≤ t.length) (h : ∀ j (hj : j < t.length), a < j → j < k → t[a].depth < t[j].depth) (he : ∀ hk' : k < t.length, t[k].depth ≤ t[a].depth) : endOf t a = k := by
  unfold endOf below
  have hd : depAt t a = t[a].depth := by unfold depAt; rw [List.getD_eq_getElem?_getD, List.getElem?_eq_getElem (by omega : a < t.length)]; rfl
  rw [hd]
  have hsp : t.drop (a + 1) = (t.take k).drop (a + 1) ++ t.drop k := by
    rw [← List.drop_append_of_le_length (by rw [List.length_take]; omega), List.take_append_drop]
  rw [hsp, List.takeWhile_append_of_pos]
  · have h0 : (t.drop k).takeWhile (fun r => decide (t[a].depth < r.depth)) = [] := by
      by_cases hkl : k < t.length
      · rw [List.drop_eq_getElem_cons hkl, List.takeWhile_cons]
        rw [if_neg]
        have := he hkl; simp; omega
      · rw [List.drop_of_length_le (by omega)]; rfl
    rw [h0]
    simp [List.length_take]; omega
  · intro r hr
    obtain ⟨j, hj, rfl⟩ := List.getElem_of_mem hr
    simp only [List.length_drop, List.length_take] at hj
    simp only [List.getElem_drop, List.getElem_take, decide_eq_true_eq]
    exact h _ (by omega) (by omega) (by omega)
theorem endOf_range (t : List Row) (a : Nat) (ha : a < t.length) : a < endOf t a ∧ endOf t a ≤ t.length := by
  unfold endOf below
  have : ((t.drop (a + 1)).takeWhile (fun r => decide (depAt t a < r.depth))).length ≤ (t.drop (a + 1)).length := (List.takeWhile_sublist _).length_le
  rw [List.length_drop] at this
  omega

set_option maxRecDepth 100000 in
set_option maxHeartbeats 1000000 in
theorem end_s (A : Option Addr) (c : Nat) (t : List Row) (a : Nat) (w : World) (hr : Rd w A c t) (ha : a < t.length) :
    Calls Tryd.prog 97 #[.slice A t.length c, .int .i64 a] w fun e w' => e = .returned (.int .i64 (endOf t a)) ∧ ∃ n, w' = w.drewN n := by
  have hm : t.length ≤ maxLen := Nat.le_trans hr.1 hr.2.1
  unfold maxLen at hm
  have HR := Lib.hid hr
  clear hr
  go_enter Tryd.func97, Tryd.ntmps97
  go_wp2_with fail
  go_loopg [5] (t.length - (a + 1)) (fun gk i wr => ∃ (k n : Nat), wr = w.drewN n ∧ k ≤ t.length ∧ a < k ∧ Hid (gk = t.length - k) ∧ i = .int .i64 k ∧ Hid (∀ j (hj : j < t.length), a < j → j < k → t[a].depth < t[j].depth))
  case atStart => exact ⟨a + 1, 0, rfl, by omega, by omega, rfl, by go_num, fun j hj h1 h2 => by omega⟩
  case round =>
    obtain ⟨k, n, rfl, hk, hak, HK, rfl, HA⟩ := hrel
    obtain ⟨b, off, rfl, hbl, a0, a1, a2⟩ := row_at HR.out a ha
    by_cases hlt : k < t.length
    · obtain ⟨b', off', e', hbl', c0, c1, c2⟩ := row_at HR.out k hlt
      cases e'
      have hlt' : (k : Int) < t.length := by omega
      have ha' : (a : Int) < t.length := by omega
      have hdl : decide ((k : Int) < t.length) = true := by simpa using hlt
      clear a0 a2 c0 c2
      by_cases hd : t[a].depth < t[k].depth
      · have HN : Hid (∀ j (hj : j < t.length), a < j → j < k + 1 → t[a].depth < t[j].depth) := fun j hj h1 h2 => by
          by_cases e : j = k
          · subst e; exact hd
          · exact HA.out j hj h1 (by omega)
        go_wp2_with fail
        go_quiet (fail)
        go_wp2_with fail
        go_roundg (t.length - (k + 1))
        case measure => have := HK.out; omega
        case rel => exact ⟨k + 1, _, rfl, by omega, by omega, rfl, by go_num, HN⟩
      · have hd' : t[k].depth ≤ t[a].depth := by omega
        have HX : Hid (endOf t a = k) := endOf_first t a k hak hk HA.out (fun _ => hd')
        clear hd
        go_wp2_with fail
        go_quiet (fail)
        go_wp2_with fail
        go_ret
        exact ⟨by rw [HX.out]; rfl, _, by rw [World.drewN_drewN]⟩
    · have HX : Hid (endOf t a = k) := endOf_first t a k hak hk HA.out (fun h => absurd h hlt)
      have hlt' : ¬ (k : Int) < t.length := by omega
      have hd : decide ((k : Int) < t.length) = false := by simpa using hlt'
      clear a0 a1 a2
      go_wp2_with fail
      go_quiet (fail)
      go_wp2_with fail
      go_ret
      exact ⟨by rw [HX.out]; rfl, _, by rw [World.drewN_drewN]⟩
end Go.Proofs.YtjhbbgeebobcpaaDoor
namespace Go.Proofs.YtjhbbgeebobcpaaDoor
open Go.RowKit
set_option linter.unusedVariables false

/-- What entries make of what waits, the outline, how many are done and how many are seen. -/
def hearL (who : Int) : List Entry → List Entry → List Row → Int → Int → Option (List Entry × List Row × Int × Int)
  | [], q, t, d, n => some (q, t, d, n)
  | e :: l, q, t, d, n =>
    if e.who = who then
      match q with
      | e0 :: q' => if e0 = e then hearL who l q' (opDo t e.op) (d + 1) (n + 1) else none
      | [] => none
    else hearL who l q (opDo t e.op) d (n + 1)
def clientHear (c : Client) (frm : Int) (l : List Entry) : Client × Bool :=
  if clientOk c = false ∨ frm < 0 ∨ 40 < frm then (noClient, false)
  else if l.all entryOk = false then (noClient, false)
  else if c.seen < frm ∨ 40 - frm < l.length then (c, false)
  else match hearL c.who (l.drop (min (c.seen - frm) l.length).toNat) c.wait c.base c.done c.seen with
    | none => (c, false)
    | some (q, t, d, n) => (⟨c.who, n, t, q, d, c.made⟩, true)
theorem treeOk_len {l : List Row} (h : treeOk l = true) : l.length ≤ 1000 := by
  obtain ⟨hv, he⟩ := T.valid_build l h
  have := hv.len
  rw [← T.rows_len 0, he] at this
  exact this
theorem clientOk_parts {c : Client} (h : clientOk c = true) : isWho c.who = true ∧ 0 ≤ c.seen ∧ c.seen ≤ 40 ∧ treeOk c.base = true ∧ 0 ≤ c.done ∧ c.done ≤ c.seen ∧ (c.wait.length : Int) ≤ 40 - c.done ∧ 0 ≤ c.made ∧ c.made ≤ 6 ∧ waitOk c = true := by
  simp only [clientOk, Bool.and_eq_true, decide_eq_true_eq] at h
  obtain ⟨⟨⟨⟨⟨⟨h1, h2⟩, h3⟩, h4⟩, h5⟩, h6⟩, h7⟩ := h
  exact ⟨h1, h2.1, h2.2, h3, h4.1, h4.2, h5, h6.1, h6.2, h7⟩
theorem CO.no (w : World) (base : Nat) : CO w base noClient (.agg #[.int .i64 0, .int .i64 0, .slice none 0 0, .slice none 0 0, .int .i64 0, .int .i64 0]) := ⟨none, 0, none, 0, rfl, Own.nil _ _ _, Own.nil _ _ _⟩
theorem CO.lower {w : World} {base base' : Nat} {c : Client} {v : Value} (h : CO w base c v) (hb : base' ≤ base) : CO w base' c v := by
  obtain ⟨A1, n1, A2, n2, rfl, h1, h2⟩ := h
  exact ⟨A1, n1, A2, n2, rfl, h1.lower hb, h2.lower hb⟩
theorem CV.no (w : World) : CV w noClient (.agg #[.int .i64 0, .int .i64 0, .slice none 0 0, .slice none 0 0, .int .i64 0, .int .i64 0]) := ⟨none, 0, none, 0, rfl, Rd.nil _, Rd.nil _⟩
theorem Rd.far {α : Type} [Flat α] {w w' : World} {A : Option Addr} {c : Nat} {l : List α} (h : Rd w A c l) (hb : ∀ k, k < w.heap.size → (∀ b off, A = some ⟨b, off, none⟩ → k = b → 0 < l.length → True) → w'.heap[k]? = w.heap[k]?) : Rd w' A c l := by
  refine ⟨h.1, h.2.1, fun h0 => ?_, h.2.2.2⟩
  obtain ⟨b, off, rfl, hh⟩ := h.2.2.1 h0
  exact ⟨b, off, rfl, fun j v hv => (cell_blk (hb b (World.block_lt_of_cell? w _ (hh j v hv)) (fun _ _ _ _ _ => trivial)) _).trans (hh j v hv)⟩

set_option maxRecDepth 100000 in
set_option maxHeartbeats 4000000 in
theorem clientHear_bad (c : Client) (v : Value) (frm : Int) (A : Option Addr) (cap : Nat) (l : List Entry) (w : World) (ht : Tab w) (h : CV w c v) (hr : Rd w A cap l) (hbad : clientOk c = false ∨ frm < 0 ∨ 40 < frm) :
    Calls Tryd.prog 18 #[v, .int .i64 frm, .slice A l.length cap] w fun r w' => ∃ v', r = .returned (.tuple #[v', .bool (clientHear c frm l).2]) ∧ CO w' w.heap.size (clientHear c frm l).1 v' ∧ Ext w w' := by
  have HRes : Hid (clientHear c frm l = (noClient, false)) := by show _ = _; unfold clientHear; rw [if_pos hbad]
  obtain ⟨A1, n1, A2, n2, rfl, h1, h2⟩ := h
  have hll : l.length ≤ maxLen := Nat.le_trans hr.1 hr.2.1
  unfold maxLen at hll
  have H1 := Lib.hid h1; have H2 := Lib.hid h2; have HT := Lib.hid ht; have HR := Lib.hid hr
  have hX := two_new w (.cells #[.int .i64 c.who, .int .i64 c.seen, .slice A1 c.base.length n1, .slice A2 c.wait.length n2, .int .i64 c.done, .int .i64 c.made] 30) (.cells #[.int .i64 0, .int .i64 0, .slice none 0 0, .slice none 0 0, .int .i64 0, .int .i64 0] 30)
  have hE0 : Ext w ((w.alloc (.cells #[.int .i64 c.who, .int .i64 c.seen, .slice A1 c.base.length n1, .slice A2 c.wait.length n2, .int .i64 c.done, .int .i64 c.made] 30)).alloc (.cells #[.int .i64 0, .int .i64 0, .slice none 0 0, .slice none 0 0, .int .i64 0, .int .i64 0] 30)) := ((Below.refl _ w).alloc (Nat.le_refl _) _).alloc (by rw [alloc_sz]; omega) _
  have hs0 : ((w.alloc (.cells #[.int .i64 c.who, .int .i64 c.seen, .slice A1 c.base.length n1, .slice A2 c.wait.length n2, .int .i64 c.done, .int .i64 c.made] 30)).alloc (.cells #[.int .i64 0, .int .i64 0, .slice none 0 0, .slice none 0 0, .int .i64 0, .int .i64 0] 30)).heap.size = w.heap.size + 2 := by rw [alloc_sz, alloc_sz]
  have HC := Lib.hid (clientOk_c c _ ((w.alloc (.cells #[.int .i64 c.who, .int .i64 c.seen, .slice A1 c.base.length n1, .slice A2 c.wait.length n2, .int .i64 c.done, .int .i64 c.made] 30)).alloc (.cells #[.int .i64 0, .int .i64 0, .slice none 0 0, .slice none 0 0, .int .i64 0, .int .i64 0] 30)) ((ht.alloc _).alloc _) ⟨A1, n1, A2, n2, rfl, (h1.alloc _).alloc _, (h2.alloc _).alloc _⟩)
  -- what a return of nobody leaves
  have hno : ∀ W : World, Ext ((w.alloc (.cells #[.int .i64 c.who, .int .i64 c.seen, .slice A1 c.base.length n1, .slice A2 c.wait.length n2, .int .i64 c.done, .int .i64 c.made] 30)).alloc (.cells #[.int .i64 0, .int .i64 0, .slice none 0 0, .slice none 0 0, .int .i64 0, .int .i64 0] 30)) W → Ext w W ∧ W.heap[w.heap.size]? = some (.cells #[.int .i64 c.who, .int .i64 c.seen, .slice A1 c.base.length n1, .slice A2 c.wait.length n2, .int .i64 c.done, .int .i64 c.made] 30 (0, 0)) ∧ W.heap[w.heap.size + 1]? = some (.cells #[.int .i64 0, .int .i64 0, .slice none 0 0, .slice none 0 0, .int .i64 0, .int .i64 0] 30 (0, 0)) := fun W hW =>
    ⟨hE0.trans (hW.mono (by rw [hs0]; omega)), (hW.block _ (by rw [hs0]; omega)).trans hX.1, (hW.block _ (by rw [hs0]; omega)).trans hX.2⟩
  have HNO := Lib.hid hno
  clear h1 h2 ht hr hX hE0 hs0 hno
  go_enter Tryd.func18, Tryd.ntmps18
  go_wp2_with fail
  refine HC.out.mono ?_
  rintro e w1 ⟨rfl, hb1⟩
  obtain ⟨hE1, hx1, hy1⟩ := HNO.out w1 hb1
  obtain ⟨c0, c1, c2, c3, c4, c5, cf⟩ := six_cells hx1
  obtain ⟨d0, d1, d2, d3, d4, d5, df⟩ := six_cells hy1
  have HB1 := Lib.hid hb1; have HX1 := Lib.hid hx1; have HY1 := Lib.hid hy1; have HE1 := Lib.hid hE1
  clear hb1 hx1 hy1 hE1 HC
  -- nobody is given back
  have HFIN : Hid (∀ W : World, Ext w W → W.heap[w.heap.size + 1]? = some (.cells #[.int .i64 0, .int .i64 0, .slice none 0 0, .slice none 0 0, .int .i64 0, .int .i64 0] 30 (0, 0)) →
      Ext w ((((((W.setCell ⟨w.heap.size + 1, 0, none⟩ (.int .i64 0)).setCell ⟨w.heap.size + 1, 1, none⟩ (.int .i64 0)).setCell ⟨w.heap.size + 1, 2, none⟩ (.slice none 0 0)).setCell ⟨w.heap.size + 1, 3, none⟩ (.slice none 0 0)).setCell ⟨w.heap.size + 1, 4, none⟩ (.int .i64 0)).setCell ⟨w.heap.size + 1, 5, none⟩ (.int .i64 0)) ∧
      ((((((W.setCell ⟨w.heap.size + 1, 0, none⟩ (.int .i64 0)).setCell ⟨w.heap.size + 1, 1, none⟩ (.int .i64 0)).setCell ⟨w.heap.size + 1, 2, none⟩ (.slice none 0 0)).setCell ⟨w.heap.size + 1, 3, none⟩ (.slice none 0 0)).setCell ⟨w.heap.size + 1, 4, none⟩ (.int .i64 0)).setCell ⟨w.heap.size + 1, 5, none⟩ (.int .i64 0)).heap[w.heap.size + 1]? = some (.cells #[.int .i64 0, .int .i64 0, .slice none 0 0, .slice none 0 0, .int .i64 0, .int .i64 0] 30 (0, 0))) := fun W hW hy =>
    ⟨((((((hW.setCell (Nat.le_succ _) _).setCell (Nat.le_succ _) _).setCell (Nat.le_succ _) _).setCell (Nat.le_succ _) _).setCell (Nat.le_succ _) _).setCell (Nat.le_succ _) _), set_at (set_at (set_at (set_at (set_at (set_at hy)))))⟩
  cases hok : clientOk c
  · clear hok hbad
    go_wp2_with fail
    obtain ⟨hE, hz⟩ := HFIN.out _ HE1.out HY1.out
    obtain ⟨k0, k1, k2, k3, k4, k5, kf⟩ := six_cells hz
    refine bodyPost_ret (v := .tuple #[.agg #[.int .i64 0, .int .i64 0, .slice none 0 0, .slice none 0 0, .int .i64 0, .int .i64 0], .bool false]) ?_ rfl ?_
    · simp [results, Tryd.f18, go_sem, k0, k1, k2, k3, k4, k5]
    · exact ⟨_, by rw [HRes.out], by rw [HRes.out]; exact CO.no _ _, hE⟩
  · rw [hok] at hbad
    clear hok
    by_cases hf0 : frm < 0
    · clear hbad
      go_wp2_with fail
      obtain ⟨hE, hz⟩ := HFIN.out _ HE1.out HY1.out
      obtain ⟨k0, k1, k2, k3, k4, k5, kf⟩ := six_cells hz
      refine bodyPost_ret (v := .tuple #[.agg #[.int .i64 0, .int .i64 0, .slice none 0 0, .slice none 0 0, .int .i64 0, .int .i64 0], .bool false]) ?_ rfl ?_
      · simp [results, Tryd.f18, go_sem, k0, k1, k2, k3, k4, k5]
      · exact ⟨_, by rw [HRes.out], by rw [HRes.out]; exact CO.no _ _, hE⟩
    · have hf1 : 40 < frm := by simp at hbad; omega
      clear hbad
      go_wp2_with fail
      obtain ⟨hE, hz⟩ := HFIN.out _ HE1.out HY1.out
      obtain ⟨k0, k1, k2, k3, k4, k5, kf⟩ := six_cells hz
      refine bodyPost_ret (v := .tuple #[.agg #[.int .i64 0, .int .i64 0, .slice none 0 0, .slice none 0 0, .int .i64 0, .int .i64 0], .bool false]) ?_ rfl ?_
      · simp [results, Tryd.f18, go_sem, k0, k1, k2, k3, k4, k5]
      · exact ⟨_, by rw [HRes.out], by rw [HRes.out]; exact CO.no _ _, hE⟩
set_option maxRecDepth 100000 in
set_option maxHeartbeats 4000000 in
theorem clientHear_entry (c : Client) (v : Value) (frm : Int) (A : Option Addr) (cap : Nat) (l : List Entry) (w : World) (ht : Tab w) (h : CV w c v) (hr : Rd w A cap l) (hok : clientOk c = true) (hf0 : ¬ frm < 0) (hf1 : ¬ 40 < frm) (hall : l.all entryOk = false) :
    Calls Tryd.prog 18 #[v, .int .i64 frm, .slice A l.length cap] w fun r w' => ∃ v', r = .returned (.tuple #[v', .bool (clientHear c frm l).2]) ∧ CO w' w.heap.size (clientHear c frm l).1 v' ∧ Ext w w' := by
  have HRes : Hid (clientHear c frm l = (noClient, false)) := by
    show _ = _
    unfold clientHear; rw [if_neg (by rw [hok]; simp; omega), if_pos hall]
  have HALL := Lib.hid hall
  clear hall
  obtain ⟨A1, n1, A2, n2, rfl, h1, h2⟩ := h
  have hll : l.length ≤ maxLen := Nat.le_trans hr.1 hr.2.1
  unfold maxLen at hll
  have H1 := Lib.hid h1; have H2 := Lib.hid h2; have HT := Lib.hid ht; have HR := Lib.hid hr
  have hX := two_new w (.cells #[.int .i64 c.who, .int .i64 c.seen, .slice A1 c.base.length n1, .slice A2 c.wait.length n2, .int .i64 c.done, .int .i64 c.made] 30) (.cells #[.int .i64 0, .int .i64 0, .slice none 0 0, .slice none 0 0, .int .i64 0, .int .i64 0] 30)
  have hE0 : Ext w ((w.alloc (.cells #[.int .i64 c.who, .int .i64 c.seen, .slice A1 c.base.length n1, .slice A2 c.wait.length n2, .int .i64 c.done, .int .i64 c.made] 30)).alloc (.cells #[.int .i64 0, .int .i64 0, .slice none 0 0, .slice none 0 0, .int .i64 0, .int .i64 0] 30)) := ((Below.refl _ w).alloc (Nat.le_refl _) _).alloc (by rw [alloc_sz]; omega) _
  have hs0 : ((w.alloc (.cells #[.int .i64 c.who, .int .i64 c.seen, .slice A1 c.base.length n1, .slice A2 c.wait.length n2, .int .i64 c.done, .int .i64 c.made] 30)).alloc (.cells #[.int .i64 0, .int .i64 0, .slice none 0 0, .slice none 0 0, .int .i64 0, .int .i64 0] 30)).heap.size = w.heap.size + 2 := by rw [alloc_sz, alloc_sz]
  have HC := Lib.hid (clientOk_c c _ ((w.alloc (.cells #[.int .i64 c.who, .int .i64 c.seen, .slice A1 c.base.length n1, .slice A2 c.wait.length n2, .int .i64 c.done, .int .i64 c.made] 30)).alloc (.cells #[.int .i64 0, .int .i64 0, .slice none 0 0, .slice none 0 0, .int .i64 0, .int .i64 0] 30)) ((ht.alloc _).alloc _) ⟨A1, n1, A2, n2, rfl, (h1.alloc _).alloc _, (h2.alloc _).alloc _⟩)
  -- what a return of nobody leaves
  have hno : ∀ W : World, Ext ((w.alloc (.cells #[.int .i64 c.who, .int .i64 c.seen, .slice A1 c.base.length n1, .slice A2 c.wait.length n2, .int .i64 c.done, .int .i64 c.made] 30)).alloc (.cells #[.int .i64 0, .int .i64 0, .slice none 0 0, .slice none 0 0, .int .i64 0, .int .i64 0] 30)) W → Ext w W ∧ W.heap[w.heap.size]? = some (.cells #[.int .i64 c.who, .int .i64 c.seen, .slice A1 c.base.length n1, .slice A2 c.wait.length n2, .int .i64 c.done, .int .i64 c.made] 30 (0, 0)) ∧ W.heap[w.heap.size + 1]? = some (.cells #[.int .i64 0, .int .i64 0, .slice none 0 0, .slice none 0 0, .int .i64 0, .int .i64 0] 30 (0, 0)) := fun W hW =>
    ⟨hE0.trans (hW.mono (by rw [hs0]; omega)), (hW.block _ (by rw [hs0]; omega)).trans hX.1, (hW.block _ (by rw [hs0]; omega)).trans hX.2⟩
  have HNO := Lib.hid hno
  clear h1 h2 ht hr hX hE0 hs0 hno
  go_enter Tryd.func18, Tryd.ntmps18
  go_wp2_with fail
  refine HC.out.mono ?_
  rintro e w1 ⟨rfl, hb1⟩
  obtain ⟨hE1, hx1, hy1⟩ := HNO.out w1 hb1
  obtain ⟨c0, c1, c2, c3, c4, c5, cf⟩ := six_cells hx1
  obtain ⟨d0, d1, d2, d3, d4, d5, df⟩ := six_cells hy1
  have HB1 := Lib.hid hb1; have HX1 := Lib.hid hx1; have HY1 := Lib.hid hy1; have HE1 := Lib.hid hE1
  clear hb1 hx1 hy1 hE1 HC
  -- nobody is given back
  have HFIN : Hid (∀ W : World, Ext w W → W.heap[w.heap.size + 1]? = some (.cells #[.int .i64 0, .int .i64 0, .slice none 0 0, .slice none 0 0, .int .i64 0, .int .i64 0] 30 (0, 0)) →
      Ext w ((((((W.setCell ⟨w.heap.size + 1, 0, none⟩ (.int .i64 0)).setCell ⟨w.heap.size + 1, 1, none⟩ (.int .i64 0)).setCell ⟨w.heap.size + 1, 2, none⟩ (.slice none 0 0)).setCell ⟨w.heap.size + 1, 3, none⟩ (.slice none 0 0)).setCell ⟨w.heap.size + 1, 4, none⟩ (.int .i64 0)).setCell ⟨w.heap.size + 1, 5, none⟩ (.int .i64 0)) ∧
      ((((((W.setCell ⟨w.heap.size + 1, 0, none⟩ (.int .i64 0)).setCell ⟨w.heap.size + 1, 1, none⟩ (.int .i64 0)).setCell ⟨w.heap.size + 1, 2, none⟩ (.slice none 0 0)).setCell ⟨w.heap.size + 1, 3, none⟩ (.slice none 0 0)).setCell ⟨w.heap.size + 1, 4, none⟩ (.int .i64 0)).setCell ⟨w.heap.size + 1, 5, none⟩ (.int .i64 0)).heap[w.heap.size + 1]? = some (.cells #[.int .i64 0, .int .i64 0, .slice none 0 0, .slice none 0 0, .int .i64 0, .int .i64 0] 30 (0, 0))) := fun W hW hy =>
    ⟨((((((hW.setCell (Nat.le_succ _) _).setCell (Nat.le_succ _) _).setCell (Nat.le_succ _) _).setCell (Nat.le_succ _) _).setCell (Nat.le_succ _) _).setCell (Nat.le_succ _) _), set_at (set_at (set_at (set_at (set_at (set_at hy)))))⟩
  rw [hok]
  clear hok
  go_wp2_with fail
  clear c0 c1 c2 c3 c4 c5 cf d0 d1 d2 d3 d4 d5 df
  go_loopg [29] l.length (fun gk i wr => ∃ k : Nat, k ≤ l.length ∧ Hid (gk = l.length - k) ∧ i = .int .i64 k ∧ Hid (∀ j (hj : j < l.length), j < k → entryOk l[j] = true) ∧ Hid (Ext ((w.alloc (.cells #[.int .i64 c.who, .int .i64 c.seen, .slice A1 c.base.length n1, .slice A2 c.wait.length n2, .int .i64 c.done, .int .i64 c.made] 30)).alloc (.cells #[.int .i64 0, .int .i64 0, .slice none 0 0, .slice none 0 0, .int .i64 0, .int .i64 0] 30)) wr))
  case atStart => exact ⟨0, Nat.zero_le _, rfl, rfl, fun j _ h => by omega, HB1.out⟩
  case round =>
    obtain ⟨k, hk, HK, rfl, HG, HW⟩ := hrel
    obtain ⟨hEx, hxr, hyr⟩ := HNO.out _ HW.out
    have HEX := Lib.hid hEx; have HXR := Lib.hid hxr; have HYR := Lib.hid hyr
    have hgt : w.heap.size + 1 < wr.heap.size := blk_lt hyr
    clear hxr hyr
    by_cases hlt : k < l.length
    · obtain ⟨b, off, rfl, hbl, e0, e1, e2, e3, e4, e5, e6⟩ := ent_at (HR.out.ext hEx) k hlt
      have hbx := World.alloc_heap_new wr (.cells #[.int .i64 l[k].who, .int .i64 l[k].seq, .int .i64 l[k].op.kind, .int .i64 l[k].op.id, .int .i64 l[k].op.up, .int .i64 l[k].op.pos, .string l[k].op.text] 44)
      have hC := Lib.hid (entryOk_c l[k] (wr.alloc (.cells #[.int .i64 l[k].who, .int .i64 l[k].seq, .int .i64 l[k].op.kind, .int .i64 l[k].op.id, .int .i64 l[k].op.up, .int .i64 l[k].op.pos, .string l[k].op.text] 44)) ((HT.out.below hEx HT.out.pos).alloc _) (HR.out.okAt k hlt))
      clear hEx
      go_wp2_with fail
      refine hC.out.mono ?_
      rintro e w2 ⟨rfl, hb2⟩
      have hW2 := HW.out.trans (((Below.refl _ wr).alloc HW.out.size _).trans (hb2.mono (Nat.le_trans HW.out.size (Nat.le_trans (Nat.le_succ _) (Nat.le_of_eq (alloc_sz _ _).symm)))))
      obtain ⟨hE2, hx2, hy2⟩ := HNO.out _ hW2
      have HW2 := Lib.hid hW2; have HE2 := Lib.hid hE2; have HY2 := Lib.hid hy2
      obtain ⟨d0, d1, d2, d3, d4, d5, df⟩ := six_cells hy2
      clear hbx hb2 hC hW2 hE2 hx2 hy2
      cases hek : entryOk l[k]
      · clear hek
        go_wp2_with fail
        obtain ⟨hE, hz⟩ := HFIN.out _ HE2.out HY2.out
        obtain ⟨k0, k1, k2, k3, k4, k5, kf⟩ := six_cells hz
        refine bodyPost_ret (v := .tuple #[.agg #[.int .i64 0, .int .i64 0, .slice none 0 0, .slice none 0 0, .int .i64 0, .int .i64 0], .bool false]) ?_ rfl ?_
        · simp [results, Tryd.f18, go_sem, k0, k1, k2, k3, k4, k5]
        · exact ⟨_, by rw [HRes.out], by rw [HRes.out]; exact CO.no _ _, hE⟩
      · have HEK := Lib.hid hek
        clear hek d0 d1 d2 d3 d4 d5 df
        go_wp2_with fail
        go_roundg (l.length - (k + 1))
        case measure => have := HK.out; omega
        case rel =>
          refine ⟨k + 1, by omega, rfl, by go_num, fun j hj hjk => ?_, HW2.out⟩
          by_cases e : j = k
          · subst e; exact HEK.out
          · exact HG.out j hj (by omega)
    · exfalso
      have hkl : k = l.length := by omega
      have : l.all entryOk = true := by
        rw [List.all_eq_true]
        intro x hx
        obtain ⟨j, hj, rfl⟩ := List.getElem_of_mem hx
        exact HG.out j hj (by omega)
      have h9 := HALL.out
      rw [this] at h9; cases h9
end Go.Proofs.YtjhbbgeebobcpaaDoor
namespace Go.Proofs.YtjhbbgeebobcpaaDoor
open Go.RowKit
set_option linter.unusedVariables false

/-- Six cells stored. -/
abbrev put6 (W : World) (b : Nat) (v0 v1 v2 v3 v4 v5 : Value) : World :=
  (((((W.setCell ⟨b, 0, none⟩ v0).setCell ⟨b, 1, none⟩ v1).setCell ⟨b, 2, none⟩ v2).setCell ⟨b, 3, none⟩ v3).setCell ⟨b, 4, none⟩ v4).setCell ⟨b, 5, none⟩ v5
theorem put6_at {W : World} {b : Nat} {a0 a1 a2 a3 a4 a5 : Value} {ty : TypeId} (v0 v1 v2 v3 v4 v5 : Value) (h : W.heap[b]? = some (.cells #[a0, a1, a2, a3, a4, a5] ty (0, 0))) : (put6 W b v0 v1 v2 v3 v4 v5).heap[b]? = some (.cells #[v0, v1, v2, v3, v4, v5] ty (0, 0)) :=
  set_at (set_at (set_at (set_at (set_at (set_at h)))))
theorem put6_far {W : World} {b k : Nat} (v0 v1 v2 v3 v4 v5 : Value) (h : k ≠ b) : (put6 W b v0 v1 v2 v3 v4 v5).heap[k]? = W.heap[k]? :=
  (setx h).trans ((setx h).trans ((setx h).trans ((setx h).trans ((setx h).trans (setx h)))))
theorem put6_below {B : Nat} {w0 W : World} {b : Nat} (v0 v1 v2 v3 v4 v5 : Value) (h : Below B w0 W) (hB : B ≤ b) : Below B w0 (put6 W b v0 v1 v2 v3 v4 v5) := (((((h.setCell hB _).setCell hB _).setCell hB _).setCell hB _).setCell hB _).setCell hB _
theorem put6_size (W : World) (b : Nat) (v0 v1 v2 v3 v4 v5 : Value) : (put6 W b v0 v1 v2 v3 v4 v5).heap.size = W.heap.size := by simp only [put6, setsz]

set_option maxRecDepth 100000 in
set_option maxHeartbeats 4000000 in
theorem clientHear_far (c : Client) (v : Value) (frm : Int) (A : Option Addr) (cap : Nat) (l : List Entry) (w : World) (ht : Tab w) (h : CV w c v) (hr : Rd w A cap l) (hok : clientOk c = true) (hf0 : ¬ frm < 0) (hf1 : ¬ 40 < frm) (hall : ∀ x ∈ l, entryOk x = true) (hfar : c.seen < frm ∨ 40 - frm < l.length) :
    Calls Tryd.prog 18 #[v, .int .i64 frm, .slice A l.length cap] w fun r w' => ∃ v', r = .returned (.tuple #[v', .bool (clientHear c frm l).2]) ∧ CO w' w.heap.size (clientHear c frm l).1 v' ∧ Ext w w' := by
  have HALL := Lib.hid hall; have HOK := Lib.hid hok
  have hres : clientHear c frm l = (c, false) := by
    have : l.all entryOk = true := List.all_eq_true.2 hall
    unfold clientHear; rw [if_neg (by rw [hok]; simp; omega), if_neg (by rw [this]; simp), if_pos hfar]
  have HRes := Lib.hid hres
  clear hall hres
  obtain ⟨A1, n1, A2, n2, rfl, h1, h2⟩ := h
  have hll : l.length ≤ maxLen := Nat.le_trans hr.1 hr.2.1
  unfold maxLen at hll
  have H1 := Lib.hid h1; have H2 := Lib.hid h2; have HT := Lib.hid ht; have HR := Lib.hid hr
  have hX := two_new w (.cells #[.int .i64 c.who, .int .i64 c.seen, .slice A1 c.base.length n1, .slice A2 c.wait.length n2, .int .i64 c.done, .int .i64 c.made] 30) (.cells #[.int .i64 0, .int .i64 0, .slice none 0 0, .slice none 0 0, .int .i64 0, .int .i64 0] 30)
  have hE0 : Ext w ((w.alloc (.cells #[.int .i64 c.who, .int .i64 c.seen, .slice A1 c.base.length n1, .slice A2 c.wait.length n2, .int .i64 c.done, .int .i64 c.made] 30)).alloc (.cells #[.int .i64 0, .int .i64 0, .slice none 0 0, .slice none 0 0, .int .i64 0, .int .i64 0] 30)) := ((Below.refl _ w).alloc (Nat.le_refl _) _).alloc (by rw [alloc_sz]; omega) _
  have hs0 : ((w.alloc (.cells #[.int .i64 c.who, .int .i64 c.seen, .slice A1 c.base.length n1, .slice A2 c.wait.length n2, .int .i64 c.done, .int .i64 c.made] 30)).alloc (.cells #[.int .i64 0, .int .i64 0, .slice none 0 0, .slice none 0 0, .int .i64 0, .int .i64 0] 30)).heap.size = w.heap.size + 2 := by rw [alloc_sz, alloc_sz]
  have HC := Lib.hid (clientOk_c c _ ((w.alloc (.cells #[.int .i64 c.who, .int .i64 c.seen, .slice A1 c.base.length n1, .slice A2 c.wait.length n2, .int .i64 c.done, .int .i64 c.made] 30)).alloc (.cells #[.int .i64 0, .int .i64 0, .slice none 0 0, .slice none 0 0, .int .i64 0, .int .i64 0] 30)) ((ht.alloc _).alloc _) ⟨A1, n1, A2, n2, rfl, (h1.alloc _).alloc _, (h2.alloc _).alloc _⟩)
  -- what a return of nobody leaves
  have hno : ∀ W : World, Ext ((w.alloc (.cells #[.int .i64 c.who, .int .i64 c.seen, .slice A1 c.base.length n1, .slice A2 c.wait.length n2, .int .i64 c.done, .int .i64 c.made] 30)).alloc (.cells #[.int .i64 0, .int .i64 0, .slice none 0 0, .slice none 0 0, .int .i64 0, .int .i64 0] 30)) W → Ext w W ∧ W.heap[w.heap.size]? = some (.cells #[.int .i64 c.who, .int .i64 c.seen, .slice A1 c.base.length n1, .slice A2 c.wait.length n2, .int .i64 c.done, .int .i64 c.made] 30 (0, 0)) ∧ W.heap[w.heap.size + 1]? = some (.cells #[.int .i64 0, .int .i64 0, .slice none 0 0, .slice none 0 0, .int .i64 0, .int .i64 0] 30 (0, 0)) := fun W hW =>
    ⟨hE0.trans (hW.mono (by rw [hs0]; omega)), (hW.block _ (by rw [hs0]; omega)).trans hX.1, (hW.block _ (by rw [hs0]; omega)).trans hX.2⟩
  have HNO := Lib.hid hno
  clear h1 h2 ht hr hX hE0 hs0 hno
  go_enter Tryd.func18, Tryd.ntmps18
  go_wp2_with fail
  refine HC.out.mono ?_
  rintro e w1 ⟨rfl, hb1⟩
  obtain ⟨hE1, hx1, hy1⟩ := HNO.out w1 hb1
  obtain ⟨c0, c1, c2, c3, c4, c5, cf⟩ := six_cells hx1
  obtain ⟨d0, d1, d2, d3, d4, d5, df⟩ := six_cells hy1
  have HB1 := Lib.hid hb1; have HX1 := Lib.hid hx1; have HY1 := Lib.hid hy1; have HE1 := Lib.hid hE1
  clear hb1 hx1 hy1 hE1 HC
  rw [hok]
  clear hok
  go_wp2_with fail
  clear c0 c1 c2 c3 c4 c5 cf d0 d1 d2 d3 d4 d5 df
  go_loopg [29] l.length (fun gk i wr => ∃ k : Nat, k ≤ l.length ∧ Hid (gk = l.length - k) ∧ i = .int .i64 k ∧ Hid (∀ j (hj : j < l.length), j < k → entryOk l[j] = true) ∧ Hid (Ext ((w.alloc (.cells #[.int .i64 c.who, .int .i64 c.seen, .slice A1 c.base.length n1, .slice A2 c.wait.length n2, .int .i64 c.done, .int .i64 c.made] 30)).alloc (.cells #[.int .i64 0, .int .i64 0, .slice none 0 0, .slice none 0 0, .int .i64 0, .int .i64 0] 30)) wr))
  case atStart => exact ⟨0, Nat.zero_le _, rfl, rfl, fun j _ h => by omega, HB1.out⟩
  case round =>
    obtain ⟨k, hk, HK, rfl, HG, HW⟩ := hrel
    obtain ⟨hEx, hxr, hyr⟩ := HNO.out _ HW.out
    have HEX := Lib.hid hEx; have HXR := Lib.hid hxr; have HYR := Lib.hid hyr
    have hgt : w.heap.size + 1 < wr.heap.size := blk_lt hyr
    clear hxr hyr
    by_cases hlt : k < l.length
    · obtain ⟨b, off, rfl, hbl, e0, e1, e2, e3, e4, e5, e6⟩ := ent_at (HR.out.ext hEx) k hlt
      have hbx := World.alloc_heap_new wr (.cells #[.int .i64 l[k].who, .int .i64 l[k].seq, .int .i64 l[k].op.kind, .int .i64 l[k].op.id, .int .i64 l[k].op.up, .int .i64 l[k].op.pos, .string l[k].op.text] 44)
      have hC := entryOk_c l[k] (wr.alloc (.cells #[.int .i64 l[k].who, .int .i64 l[k].seq, .int .i64 l[k].op.kind, .int .i64 l[k].op.id, .int .i64 l[k].op.up, .int .i64 l[k].op.pos, .string l[k].op.text] 44)) ((HT.out.below hEx HT.out.pos).alloc _) (HR.out.okAt k hlt)
      rw [HALL.out l[k] (List.getElem_mem hlt)] at hC
      have hC := Lib.hid hC
      clear hEx
      go_wp2_with fail
      refine hC.out.mono ?_
      rintro e w2 ⟨rfl, hb2⟩
      have hW2 := HW.out.trans (((Below.refl _ wr).alloc HW.out.size _).trans (hb2.mono (Nat.le_trans HW.out.size (Nat.le_trans (Nat.le_succ _) (Nat.le_of_eq (alloc_sz _ _).symm)))))
      obtain ⟨hE2, hx2, hy2⟩ := HNO.out _ hW2
      have HW2 := Lib.hid hW2; have HE2 := Lib.hid hE2; have HY2 := Lib.hid hy2
      obtain ⟨d0, d1, d2, d3, d4, d5, df⟩ := six_cells hy2
      clear hbx hb2 hC hW2 hE2 hx2 hy2
      · go_wp2_with fail
        go_roundg (l.length - (k + 1))
        case measure => have := HK.out; omega
        case rel => exact ⟨k + 1, by omega, rfl, by go_num, fun j hj hjk => HALL.out _ (List.getElem_mem hj), HW2.out⟩
    · have hkl : k = l.length := by omega
      obtain ⟨hw9, hs0, hs40, htr, hd0, hd1, hwl, hm0, hm1, hwt⟩ := clientOk_parts HOK.out
      have hbl := treeOk_len htr
      have HTR := Lib.hid htr
      obtain ⟨c0, c1, c2, c3, c4, c5, cf⟩ := six_cells HXR.out
      obtain ⟨d0, d1, d2, d3, d4, d5, df⟩ := six_cells HYR.out
      have HCP := Lib.hid (copyClient_c c _ wr ⟨A1, n1, A2, n2, rfl, H1.out.ext hEx, H2.out.ext hEx⟩ (by omega) (by omega))
      clear hwt hw9 htr hEx HG HK
      go_wp2_with fail
      refine HCP.out.mono ?_
      rintro e w3 ⟨v3, rfl, ⟨A5, n5, A6, n6, rfl, ho5, ho6⟩, hb3⟩
      have hx3 := (hb3.block w.heap.size (by omega)).trans HXR.out
      have hy3 := (hb3.block (w.heap.size + 1) hgt).trans HYR.out
      have hs3 := hb3.size
      clear c0 c1 c2 c3 c4 c5 cf d0 d1 d2 d3 d4 d5 df
      obtain ⟨c0, c1, c2, c3, c4, c5, cf⟩ := six_cells hx3
      obtain ⟨d0, d1, d2, d3, d4, d5, df⟩ := six_cells hy3
      have HX3 := Lib.hid hx3; have HY3 := Lib.hid hy3; have HO5 := Lib.hid ho5; have HO6 := Lib.hid ho6; have HB3 := Lib.hid hb3
      clear hx3 hy3 ho5 ho6 hb3 HCP
      go_wp2_with fail
      all_goals
        have hz := put6_at (W := put6 w3 w.heap.size (.int .i64 c.who) (.int .i64 c.seen) (.slice A5 c.base.length n5) (.slice A6 c.wait.length n6) (.int .i64 c.done) (.int .i64 c.made)) (b := w.heap.size + 1) (.int .i64 c.who) (.int .i64 c.seen) (.slice A5 c.base.length n5) (.slice A6 c.wait.length n6) (.int .i64 c.done) (.int .i64 c.made) ((put6_far _ _ _ _ _ _ (by omega)).trans HY3.out)
        obtain ⟨k0, k1, k2, k3, k4, k5, kf⟩ := six_cells hz
        refine bodyPost_ret (v := .tuple #[.agg #[.int .i64 c.who, .int .i64 c.seen, .slice A5 c.base.length n5, .slice A6 c.wait.length n6, .int .i64 c.done, .int .i64 c.made], .bool false]) ?_ rfl ?_
        · simp [results, Tryd.f18, go_sem, k0, k1, k2, k3, k4, k5]
        · refine ⟨_, by rw [HRes.out], ?_, put6_below _ _ _ _ _ _ (put6_below _ _ _ _ _ _ (HEX.out.trans (HB3.out.mono HEX.out.size)) (Nat.le_refl _)) (Nat.le_succ _)⟩
          rw [HRes.out]
          refine CO.lower (base := wr.heap.size) ⟨_, _, _, _, rfl, HO5.out.of_blocks (fun k hk _ => (put6_far _ _ _ _ _ _ (by omega)).trans (put6_far _ _ _ _ _ _ (by omega))), HO6.out.of_blocks (fun k hk _ => (put6_far _ _ _ _ _ _ (by omega)).trans (put6_far _ _ _ _ _ _ (by omega)))⟩ HEX.out.size
end Go.Proofs.YtjhbbgeebobcpaaDoor
