/- Walks of the laws' comparisons: rows, entries, clients. Walk of the laws' comparison of clients. -/
import Derived.Test.YtddpckkpaolpnaaDoorQL
namespace Go.Proofs.YtddpckkpaolpnaaDoor
open Go.RowKit
set_option linter.unusedVariables false

theorem row_ext {a b : Row} (h1 : a.id = b.id) (h2 : a.depth = b.depth) (h3 : a.text.toList = b.text.toList) : a = b := by
  obtain ⟨i1, d1, t1⟩ := a
  obtain ⟨i2, d2, t2⟩ := b
  simp only at h1 h2 h3
  have h8 := toList_inj h3
  subst h1 h2 h8; rfl
theorem neq_row (a b : Row) (W : World) : (binOp .neq 47 (.agg #[.int .i64 a.id, .int .i64 a.depth, .string a.text]) (.agg #[.int .i64 b.id, .int .i64 b.depth, .string b.text])).run Tryd.prog W = .ok (.bool (!decide (a = b))) W := by
  have u1 := Tryd.underlying47
  by_cases h : a = b
  · subst h
    go_simp
  · rw [decide_eq_false h]
    go_simp
    by_cases e1 : a.id = b.id
    · by_cases e2 : a.depth = b.depth
      · have e7 : ¬ a.text.toList = b.text.toList := fun e7 => h (row_ext e1 e2 e7)
        simp [e1, e2, e7]
      · simp [e1, e2]
    · simp [e1]

set_option maxRecDepth 100000 in
set_option maxHeartbeats 1000000 in
theorem lpRows_c (A : Option Addr) (c : Nat) (a : List Row) (A' : Option Addr) (c' : Nat) (b : List Row) (w : World) (hr : Rd w A c a) (hr' : Rd w A' c' b) :
    Calls Tryd.prog 6 #[.slice A a.length c, .slice A' b.length c'] w fun e w' => e = .returned (.bool (decide (a = b))) ∧ ∃ n, w' = w.drewN n := by
  have hm : a.length ≤ maxLen := Nat.le_trans hr.1 hr.2.1
  unfold maxLen at hm
  have HR := Lib.hid hr; have HR' := Lib.hid hr'
  clear hr hr'
  by_cases hl : a.length = b.length
  · have hl' : ((a.length : Int) != b.length) = false := by simp [hl]
    have HL := Lib.hid hl
    have hml : b.length ≤ 9223372036854775807 := by omega
    clear hl
    go_enter Tryd.func6, Tryd.ntmps6
    go_wp2_with fail
    go_loopg [5] a.length (fun gk i wr => ∃ (k n : Nat), wr = w.drewN n ∧ k ≤ a.length ∧ Hid (gk = a.length - k) ∧ i = .int .i64 k ∧ Hid (∀ j (h : j < a.length) (h' : j < b.length), j < k → a[j] = b[j]))
    case atStart => exact ⟨0, 0, rfl, Nat.zero_le _, rfl, rfl, fun j _ _ h => by omega⟩
    case round =>
      obtain ⟨k, n, rfl, hk, HK, rfl, HA⟩ := hrel
      by_cases hlt : k < a.length
      · have hltb : k < b.length := by have := HL.out; omega
        obtain ⟨b1, o1, rfl, -, c0, c1, c2⟩ := row_at HR.out k hlt
        obtain ⟨b2, o2, rfl, -, d0, d1, d2⟩ := row_at HR'.out k hltb
        have hlt' : (k : Int) < a.length := by omega
        have hltb' : (k : Int) < b.length := by omega
        have hq := neq_row a[k] b[k]
        by_cases he : a[k] = b[k]
        · rw [decide_eq_true he] at hq
          have HN : Hid (∀ j (h : j < a.length) (h' : j < b.length), j < k + 1 → a[j] = b[j]) := fun j h h' hj => by
            by_cases e : j = k
            · subst e; exact he
            · exact HA.out j h h' (by omega)
          clear he
          go_wp2_with fail
          go_quiet (fail)
          go_wp2_with fail
          go_roundg (a.length - (k + 1))
          case measure => have := HK.out; omega
          case rel => exact ⟨k + 1, _, rfl, by omega, rfl, by go_num, HN.out⟩
        · rw [decide_eq_false he] at hq
          have HX : Hid (decide (a = b) = false) := by show _ = _; rw [decide_eq_false]; intro e; subst e; exact he rfl
          clear he
          go_wp2_with fail
          go_quiet (fail)
          go_wp2_with fail
          go_ret
          exact ⟨by rw [HX.out]; rfl, _, by rw [World.drewN_drewN]⟩
      · have HX : Hid (decide (a = b) = true) := by
          show _ = _
          rw [decide_eq_true]
          exact List.ext_getElem HL.out (fun j h h' => HA.out j h h' (by omega))
        go_wp2_with fail
        go_ret
        exact ⟨by rw [HX.out]; rfl, _, rfl⟩
  · have hl' : ((a.length : Int) != b.length) = true := by simp; omega
    have HX : Hid (decide (a = b) = false) := by show _ = _; rw [decide_eq_false]; intro e; exact hl (by rw [e])
    clear hl
    go_enter Tryd.func6, Tryd.ntmps6
    go_wp2_with fail
    go_ret
    exact ⟨by rw [HX.out]; rfl, 0, rfl⟩

set_option maxRecDepth 100000 in
set_option maxHeartbeats 1000000 in
theorem lpLog_c (A : Option Addr) (c : Nat) (a : List Entry) (A' : Option Addr) (c' : Nat) (b : List Entry) (w : World) (hr : Rd w A c a) (hr' : Rd w A' c' b) :
    Calls Tryd.prog 31 #[.slice A a.length c, .slice A' b.length c'] w fun e w' => e = .returned (.bool (decide (a = b))) ∧ ∃ n, w' = w.drewN n := by
  have hm : a.length ≤ maxLen := Nat.le_trans hr.1 hr.2.1
  unfold maxLen at hm
  have HR := Lib.hid hr; have HR' := Lib.hid hr'
  clear hr hr'
  by_cases hl : a.length = b.length
  · have hl' : ((a.length : Int) != b.length) = false := by simp [hl]
    have HL := Lib.hid hl
    have hml : b.length ≤ 9223372036854775807 := by omega
    clear hl
    go_enter Tryd.func31, Tryd.ntmps31
    go_wp2_with fail
    go_loopg [5] a.length (fun gk i wr => ∃ (k n : Nat), wr = w.drewN n ∧ k ≤ a.length ∧ Hid (gk = a.length - k) ∧ i = .int .i64 k ∧ Hid (∀ j (h : j < a.length) (h' : j < b.length), j < k → a[j] = b[j]))
    case atStart => exact ⟨0, 0, rfl, Nat.zero_le _, rfl, rfl, fun j _ _ h => by omega⟩
    case round =>
      obtain ⟨k, n, rfl, hk, HK, rfl, HA⟩ := hrel
      by_cases hlt : k < a.length
      · have hltb : k < b.length := by have := HL.out; omega
        obtain ⟨b1, o1, rfl, -, c0, c1, c2, c3, c4, c5, c6⟩ := ent_at HR.out k hlt
        obtain ⟨b2, o2, rfl, -, d0, d1, d2, d3, d4, d5, d6⟩ := ent_at HR'.out k hltb
        have hlt' : (k : Int) < a.length := by omega
        have hltb' : (k : Int) < b.length := by omega
        have hq := neq_ent a[k] b[k]
        by_cases he : a[k] = b[k]
        · rw [decide_eq_true he] at hq
          have HN : Hid (∀ j (h : j < a.length) (h' : j < b.length), j < k + 1 → a[j] = b[j]) := fun j h h' hj => by
            by_cases e : j = k
            · subst e; exact he
            · exact HA.out j h h' (by omega)
          clear he
          go_wp2_with fail
          go_quiet (fail)
          go_wp2_with fail
          go_roundg (a.length - (k + 1))
          case measure => have := HK.out; omega
          case rel => exact ⟨k + 1, _, rfl, by omega, rfl, by go_num, HN.out⟩
        · rw [decide_eq_false he] at hq
          have HX : Hid (decide (a = b) = false) := by show _ = _; rw [decide_eq_false]; intro e; subst e; exact he rfl
          clear he
          go_wp2_with fail
          go_quiet (fail)
          go_wp2_with fail
          go_ret
          exact ⟨by rw [HX.out]; rfl, _, by rw [World.drewN_drewN]⟩
      · have HX : Hid (decide (a = b) = true) := by
          show _ = _
          rw [decide_eq_true]
          exact List.ext_getElem HL.out (fun j h h' => HA.out j h h' (by omega))
        go_wp2_with fail
        go_ret
        exact ⟨by rw [HX.out]; rfl, _, rfl⟩
  · have hl' : ((a.length : Int) != b.length) = true := by simp; omega
    have HX : Hid (decide (a = b) = false) := by show _ = _; rw [decide_eq_false]; intro e; exact hl (by rw [e])
    clear hl
    go_enter Tryd.func31, Tryd.ntmps31
    go_wp2_with fail
    go_ret
    exact ⟨by rw [HX.out]; rfl, 0, rfl⟩
end Go.Proofs.YtddpckkpaolpnaaDoor
namespace Go.Proofs.YtddpckkpaolpnaaDoor
open Go.RowKit
set_option linter.unusedVariables false

def clientEq (c d : Client) : Bool := decide (c.who = d.who) && (decide (c.seen = d.seen) && (decide (c.base = d.base) && (decide (c.wait = d.wait) && (decide (c.done = d.done) && decide (c.made = d.made)))))
theorem clientEq_refl (c : Client) : clientEq c c = true := by simp [clientEq]
theorem clientEq_iff (c d : Client) : clientEq c d = true ↔ c = d := by
  obtain ⟨a1, a2, a3, a4, a5, a6⟩ := c
  obtain ⟨b1, b2, b3, b4, b5, b6⟩ := d
  simp [clientEq]

set_option maxRecDepth 100000 in
set_option maxHeartbeats 4000000 in
theorem lpClient_c (c d : Client) (v v' : Value) (w : World) (h : CV w c v) (h' : CV w d v') :
    Calls Tryd.prog 12 #[v, v'] w fun e w' => e = .returned (.bool (clientEq c d)) ∧ Ext w w' := by
  obtain ⟨A1, n1, A2, n2, rfl, h1, h2⟩ := h
  obtain ⟨B1, m1, B2, m2, rfl, g1, g2⟩ := h'
  have hX := two_new w (.cells #[.int .i64 c.who, .int .i64 c.seen, .slice A1 c.base.length n1, .slice A2 c.wait.length n2, .int .i64 c.done, .int .i64 c.made] 30) (.cells #[.int .i64 d.who, .int .i64 d.seen, .slice B1 d.base.length m1, .slice B2 d.wait.length m2, .int .i64 d.done, .int .i64 d.made] 30)
  have hE0 : Ext w ((w.alloc (.cells #[.int .i64 c.who, .int .i64 c.seen, .slice A1 c.base.length n1, .slice A2 c.wait.length n2, .int .i64 c.done, .int .i64 c.made] 30)).alloc (.cells #[.int .i64 d.who, .int .i64 d.seen, .slice B1 d.base.length m1, .slice B2 d.wait.length m2, .int .i64 d.done, .int .i64 d.made] 30)) := ((Below.refl _ w).alloc (Nat.le_refl _) _).alloc (by rw [alloc_sz]; omega) _
  have HRW := Lib.hid (fun W => lpRows_c A1 n1 c.base B1 m1 d.base W)
  have HLW := Lib.hid (fun W => lpLog_c A2 n2 c.wait B2 m2 d.wait W)
  have HE0 := Lib.hid hE0; have HX := Lib.hid hX
  have H1 := Lib.hid h1; have H2 := Lib.hid h2; have G1 := Lib.hid g1; have G2 := Lib.hid g2
  have HK : Hid (clientEq c d = (decide (c.who = d.who) && (decide (c.seen = d.seen) && (decide (c.base = d.base) && (decide (c.wait = d.wait) && (decide (c.done = d.done) && decide (c.made = d.made))))))) := rfl
  clear hX hE0 h1 h2 g1 g2
  by_cases k0 : c.who = d.who
  rotate_left
  · rw [decide_eq_false k0] at HK
    have kb0 : (c.who == d.who) = false := by simp [k0]
    have HK : Hid (clientEq c d = false) := by show _ = _; rw [HK.out]; simp
    clear k0
    go_enter Tryd.func12, Tryd.ntmps12
    go_wp2_with fail
    go_ret
    exact ⟨by rw [HK.out]; rfl, HE0.out⟩
  rw [decide_eq_true k0] at HK
  have kb0 : (c.who == d.who) = true := by simp [k0]
  clear k0
  by_cases k1 : c.seen = d.seen
  rotate_left
  · rw [decide_eq_false k1] at HK
    have kb1 : (c.seen == d.seen) = false := by simp [k1]
    have HK : Hid (clientEq c d = false) := by show _ = _; rw [HK.out]; simp
    clear k1
    go_enter Tryd.func12, Tryd.ntmps12
    go_wp2_with fail
    go_ret
    exact ⟨by rw [HK.out]; rfl, HE0.out⟩
  rw [decide_eq_true k1] at HK
  have kb1 : (c.seen == d.seen) = true := by simp [k1]
  clear k1
  by_cases k2 : c.base = d.base
  rotate_left
  · rw [decide_eq_false k2] at HK
    simp only [decide_eq_false k2] at HRW
    have HK : Hid (clientEq c d = false) := by show _ = _; rw [HK.out]; simp
    clear k2
    go_enter Tryd.func12, Tryd.ntmps12
    go_wp2_with fail
    refine (HRW.out _ (H1.out.ext HE0.out) (G1.out.ext HE0.out)).mono ?_; rintro e w1 ⟨rfl, q1, hw1⟩
    have hE1 : Ext w w1 := by rw [hw1]; exact Ext.drewN HE0.out _
    have hc1 := six_cells (W := w1) (by rw [hw1]; exact HX.out.1)
    have hd1 := six_cells (W := w1) (by rw [hw1]; exact HX.out.2)
    obtain ⟨c0, c1, c2, c3, c4, c5, cf⟩ := hc1
    obtain ⟨d0, d1, d2, d3, d4, d5, df⟩ := hd1
    have HE1 := Lib.hid hE1; have HX1 := Lib.hid (show w1.heap[w.heap.size]? = some (.cells #[.int .i64 c.who, .int .i64 c.seen, .slice A1 c.base.length n1, .slice A2 c.wait.length n2, .int .i64 c.done, .int .i64 c.made] 30 (0, 0)) ∧ w1.heap[w.heap.size + 1]? = some (.cells #[.int .i64 d.who, .int .i64 d.seen, .slice B1 d.base.length m1, .slice B2 d.wait.length m2, .int .i64 d.done, .int .i64 d.made] 30 (0, 0)) by rw [hw1]; exact HX.out)
    clear hw1 hE1
    go_wp2_with fail
    go_ret
    exact ⟨by rw [HK.out]; rfl, HE1.out⟩
  rw [decide_eq_true k2] at HK
  simp only [decide_eq_true k2] at HRW
  clear k2
  by_cases k3 : c.wait = d.wait
  rotate_left
  · rw [decide_eq_false k3] at HK
    simp only [decide_eq_false k3] at HLW
    have HK : Hid (clientEq c d = false) := by show _ = _; rw [HK.out]; simp
    clear k3
    go_enter Tryd.func12, Tryd.ntmps12
    go_wp2_with fail
    refine (HRW.out _ (H1.out.ext HE0.out) (G1.out.ext HE0.out)).mono ?_; rintro e w1 ⟨rfl, q1, hw1⟩
    have hE1 : Ext w w1 := by rw [hw1]; exact Ext.drewN HE0.out _
    have hc1 := six_cells (W := w1) (by rw [hw1]; exact HX.out.1)
    have hd1 := six_cells (W := w1) (by rw [hw1]; exact HX.out.2)
    obtain ⟨c0, c1, c2, c3, c4, c5, cf⟩ := hc1
    obtain ⟨d0, d1, d2, d3, d4, d5, df⟩ := hd1
    have HE1 := Lib.hid hE1; have HX1 := Lib.hid (show w1.heap[w.heap.size]? = some (.cells #[.int .i64 c.who, .int .i64 c.seen, .slice A1 c.base.length n1, .slice A2 c.wait.length n2, .int .i64 c.done, .int .i64 c.made] 30 (0, 0)) ∧ w1.heap[w.heap.size + 1]? = some (.cells #[.int .i64 d.who, .int .i64 d.seen, .slice B1 d.base.length m1, .slice B2 d.wait.length m2, .int .i64 d.done, .int .i64 d.made] 30 (0, 0)) by rw [hw1]; exact HX.out)
    clear hw1 hE1
    go_wp2_with fail
    refine (HLW.out _ (H2.out.ext HE1.out) (G2.out.ext HE1.out)).mono ?_; rintro e w2 ⟨rfl, q2, hw2⟩
    have hE2 : Ext w w2 := by rw [hw2]; exact Ext.drewN HE1.out _
    have hc2 := six_cells (W := w2) (by rw [hw2]; exact HX1.out.1)
    have hd2 := six_cells (W := w2) (by rw [hw2]; exact HX1.out.2)
    clear c0 c1 c2 c3 c4 c5 cf d0 d1 d2 d3 d4 d5 df
    obtain ⟨c0, c1, c2, c3, c4, c5, cf⟩ := hc2
    obtain ⟨d0, d1, d2, d3, d4, d5, df⟩ := hd2
    have HE2 := Lib.hid hE2
    clear hw2 hE2
    go_wp2_with fail
    go_ret
    exact ⟨by rw [HK.out]; rfl, HE2.out⟩
  rw [decide_eq_true k3] at HK
  simp only [decide_eq_true k3] at HLW
  clear k3
  by_cases k4 : c.done = d.done
  rotate_left
  · rw [decide_eq_false k4] at HK
    have kb4 : (c.done == d.done) = false := by simp [k4]
    have HK : Hid (clientEq c d = false) := by show _ = _; rw [HK.out]; simp
    clear k4
    go_enter Tryd.func12, Tryd.ntmps12
    go_wp2_with fail
    refine (HRW.out _ (H1.out.ext HE0.out) (G1.out.ext HE0.out)).mono ?_; rintro e w1 ⟨rfl, q1, hw1⟩
    have hE1 : Ext w w1 := by rw [hw1]; exact Ext.drewN HE0.out _
    have hc1 := six_cells (W := w1) (by rw [hw1]; exact HX.out.1)
    have hd1 := six_cells (W := w1) (by rw [hw1]; exact HX.out.2)
    obtain ⟨c0, c1, c2, c3, c4, c5, cf⟩ := hc1
    obtain ⟨d0, d1, d2, d3, d4, d5, df⟩ := hd1
    have HE1 := Lib.hid hE1; have HX1 := Lib.hid (show w1.heap[w.heap.size]? = some (.cells #[.int .i64 c.who, .int .i64 c.seen, .slice A1 c.base.length n1, .slice A2 c.wait.length n2, .int .i64 c.done, .int .i64 c.made] 30 (0, 0)) ∧ w1.heap[w.heap.size + 1]? = some (.cells #[.int .i64 d.who, .int .i64 d.seen, .slice B1 d.base.length m1, .slice B2 d.wait.length m2, .int .i64 d.done, .int .i64 d.made] 30 (0, 0)) by rw [hw1]; exact HX.out)
    clear hw1 hE1
    go_wp2_with fail
    refine (HLW.out _ (H2.out.ext HE1.out) (G2.out.ext HE1.out)).mono ?_; rintro e w2 ⟨rfl, q2, hw2⟩
    have hE2 : Ext w w2 := by rw [hw2]; exact Ext.drewN HE1.out _
    have hc2 := six_cells (W := w2) (by rw [hw2]; exact HX1.out.1)
    have hd2 := six_cells (W := w2) (by rw [hw2]; exact HX1.out.2)
    clear c0 c1 c2 c3 c4 c5 cf d0 d1 d2 d3 d4 d5 df
    obtain ⟨c0, c1, c2, c3, c4, c5, cf⟩ := hc2
    obtain ⟨d0, d1, d2, d3, d4, d5, df⟩ := hd2
    have HE2 := Lib.hid hE2
    clear hw2 hE2
    go_wp2_with fail
    go_ret
    exact ⟨by rw [HK.out]; rfl, HE2.out⟩
  rw [decide_eq_true k4] at HK
  have kb4 : (c.done == d.done) = true := by simp [k4]
  clear k4
  by_cases k5 : c.made = d.made
  rotate_left
  · rw [decide_eq_false k5] at HK
    have kb5 : (c.made == d.made) = false := by simp [k5]
    have HK : Hid (clientEq c d = false) := by show _ = _; rw [HK.out]; simp
    clear k5
    go_enter Tryd.func12, Tryd.ntmps12
    go_wp2_with fail
    refine (HRW.out _ (H1.out.ext HE0.out) (G1.out.ext HE0.out)).mono ?_; rintro e w1 ⟨rfl, q1, hw1⟩
    have hE1 : Ext w w1 := by rw [hw1]; exact Ext.drewN HE0.out _
    have hc1 := six_cells (W := w1) (by rw [hw1]; exact HX.out.1)
    have hd1 := six_cells (W := w1) (by rw [hw1]; exact HX.out.2)
    obtain ⟨c0, c1, c2, c3, c4, c5, cf⟩ := hc1
    obtain ⟨d0, d1, d2, d3, d4, d5, df⟩ := hd1
    have HE1 := Lib.hid hE1; have HX1 := Lib.hid (show w1.heap[w.heap.size]? = some (.cells #[.int .i64 c.who, .int .i64 c.seen, .slice A1 c.base.length n1, .slice A2 c.wait.length n2, .int .i64 c.done, .int .i64 c.made] 30 (0, 0)) ∧ w1.heap[w.heap.size + 1]? = some (.cells #[.int .i64 d.who, .int .i64 d.seen, .slice B1 d.base.length m1, .slice B2 d.wait.length m2, .int .i64 d.done, .int .i64 d.made] 30 (0, 0)) by rw [hw1]; exact HX.out)
    clear hw1 hE1
    go_wp2_with fail
    refine (HLW.out _ (H2.out.ext HE1.out) (G2.out.ext HE1.out)).mono ?_; rintro e w2 ⟨rfl, q2, hw2⟩
    have hE2 : Ext w w2 := by rw [hw2]; exact Ext.drewN HE1.out _
    have hc2 := six_cells (W := w2) (by rw [hw2]; exact HX1.out.1)
    have hd2 := six_cells (W := w2) (by rw [hw2]; exact HX1.out.2)
    clear c0 c1 c2 c3 c4 c5 cf d0 d1 d2 d3 d4 d5 df
    obtain ⟨c0, c1, c2, c3, c4, c5, cf⟩ := hc2
    obtain ⟨d0, d1, d2, d3, d4, d5, df⟩ := hd2
    have HE2 := Lib.hid hE2
    clear hw2 hE2
    go_wp2_with fail
    go_ret
    exact ⟨by rw [HK.out]; rfl, HE2.out⟩
  rw [decide_eq_true k5] at HK
  have kb5 : (c.made == d.made) = true := by simp [k5]
  clear k5
  have HK : Hid (clientEq c d = true) := by show _ = _; rw [HK.out]; rfl
  go_enter Tryd.func12, Tryd.ntmps12
  go_wp2_with fail
  refine (HRW.out _ (H1.out.ext HE0.out) (G1.out.ext HE0.out)).mono ?_; rintro e w1 ⟨rfl, q1, hw1⟩
  have hE1 : Ext w w1 := by rw [hw1]; exact Ext.drewN HE0.out _
  have hc1 := six_cells (W := w1) (by rw [hw1]; exact HX.out.1)
  have hd1 := six_cells (W := w1) (by rw [hw1]; exact HX.out.2)
  obtain ⟨c0, c1, c2, c3, c4, c5, cf⟩ := hc1
  obtain ⟨d0, d1, d2, d3, d4, d5, df⟩ := hd1
  have HE1 := Lib.hid hE1; have HX1 := Lib.hid (show w1.heap[w.heap.size]? = some (.cells #[.int .i64 c.who, .int .i64 c.seen, .slice A1 c.base.length n1, .slice A2 c.wait.length n2, .int .i64 c.done, .int .i64 c.made] 30 (0, 0)) ∧ w1.heap[w.heap.size + 1]? = some (.cells #[.int .i64 d.who, .int .i64 d.seen, .slice B1 d.base.length m1, .slice B2 d.wait.length m2, .int .i64 d.done, .int .i64 d.made] 30 (0, 0)) by rw [hw1]; exact HX.out)
  clear hw1 hE1
  go_wp2_with fail
  refine (HLW.out _ (H2.out.ext HE1.out) (G2.out.ext HE1.out)).mono ?_; rintro e w2 ⟨rfl, q2, hw2⟩
  have hE2 : Ext w w2 := by rw [hw2]; exact Ext.drewN HE1.out _
  have hc2 := six_cells (W := w2) (by rw [hw2]; exact HX1.out.1)
  have hd2 := six_cells (W := w2) (by rw [hw2]; exact HX1.out.2)
  clear c0 c1 c2 c3 c4 c5 cf d0 d1 d2 d3 d4 d5 df
  obtain ⟨c0, c1, c2, c3, c4, c5, cf⟩ := hc2
  obtain ⟨d0, d1, d2, d3, d4, d5, df⟩ := hd2
  have HE2 := Lib.hid hE2
  clear hw2 hE2
  go_wp2_with fail
  go_ret
  exact ⟨by rw [HK.out]; rfl, HE2.out⟩
end Go.Proofs.YtddpckkpaolpnaaDoor
