/- Walks of the laws' comparisons: rows, entries, clients. .. Walk of impl.ClientDo; the reference's. -/
import Derived.Test.YtjhbbgeebobcpaaDoorZAI
import Derived.Test.YtjhbbgeebobcpaaDoorZAJ
import Derived.Test.YtjhbbgeebobcpaaDoorZAQ
import Derived.Test.YtjhbbgeebobcpaaDoorZAT
namespace Go.Proofs.YtjhbbgeebobcpaaDoor
open Go.RowKit
set_option linter.unusedVariables false
theorem row_ext {a b : Row} (h1 : a.id = b.id) (h2 : a.depth = b.depth) (h3 : a.text.toList = b.text.toList) : a = b := by
 obtain ⟨i1, d1, t1⟩ := a
 obtain ⟨i2, d2, t2⟩ := b
 simp only at h1 h2 h3
 have h8 := toList_inj h3
 subst h1 h2 h8; rfl
theorem neq_row (a b : Row) (W : World) : (binOp .neq 47 (.agg #[.int .i64 a.id, .int .i64 a.depth, .string a.text]) (.agg #[.int .i64 b.id, .int .i64 b.depth, .string b.text])).run Tryd.prog W = .ok (.bool (!decide (a = b))) W := by
 have u1 := Tryd.underlying47
 by_cases h : a = b
 ·subst h
  go_simp
 ·rw [decide_eq_false h]
  go_simp
  by_cases e1 : a.id = b.id
  ·by_cases e2 : a.depth = b.depth
   ·have e7 : ¬ a.text.toList = b.text.toList := fun e7 => h (row_ext e1 e2 e7)
    simp [e1, e2, e7]
   ·simp [e1, e2]
  ·simp [e1]
set_option maxRecDepth 100000 in
set_option maxHeartbeats 1000000 in
theorem lpRows_c (A : Option Addr) (c : Nat) (a : List Row) (A' : Option Addr) (c' : Nat) (b : List Row) (w : World) (hr : Rd w A c a) (hr' : Rd w A' c' b) :
  Calls Tryd.prog 14 #[.slice A a.length c, .slice A' b.length c'] w fun e w' => e = .returned (.bool (decide (a = b))) ∧ ∃ n, w' = w.drewN n := by
 have hm : a.length ≤ maxLen := Nat.le_trans hr.1 hr.2.1
 unfold maxLen at hm
 have HR := Lib.hid hr; have HR' := Lib.hid hr'
 clear hr hr'
 by_cases hl : a.length = b.length
 ·have hl' : ((a.length : Int) != b.length) = false := by simp [hl]
  have HL := Lib.hid hl
  have hml : b.length ≤ 9223372036854775807 := by omega
  clear hl
  go_enter Tryd.func14, Tryd.ntmps14
  go_wp2_with fail
  go_loopg [5] a.length (fun gk i wr => ∃ (k n : Nat), wr = w.drewN n ∧ k ≤ a.length ∧ Hid (gk = a.length - k) ∧ i = .int .i64 k ∧ Hid (∀ j (h : j < a.length) (h' : j < b.length), j < k → a[j] = b[j]))
  case atStart => exact ⟨0, 0, rfl, Nat.zero_le _, rfl, rfl, fun j _ _ h => by omega⟩
  case round =>
   obtain ⟨k, n, rfl, hk, HK, rfl, HA⟩ := hrel
   by_cases hlt : k < a.length
   ·have hltb : k < b.length := by have := HL.out; omega
    obtain ⟨b1, o1, rfl, -, c0, c1, c2⟩ := row_at HR.out k hlt
    obtain ⟨b2, o2, rfl, -, d0, d1, d2⟩ := row_at HR'.out k hltb
    have hlt' : (k : Int) < a.length := by omega
    have hltb' : (k : Int) < b.length := by omega
    have hq := neq_row a[k] b[k]
    by_cases he : a[k] = b[k]
    ·rw [decide_eq_true he] at hq
     have HN : Hid (∀ j (h : j < a.length) (h' : j < b.length), j < k + 1 → a[j] = b[j]) := fun j h h' hj => by
      by_cases e : j = k
      ·subst e; exact he
      ·exact HA.out j h h' (by omega)
     clear he
     go_wp2_with fail
     go_quiet (fail)
     go_wp2_with fail
     go_roundg (a.length - (k + 1))
     case measure => have := HK.out; omega
     case rel => exact ⟨k + 1, _, rfl, by omega, rfl, by go_num, HN.out⟩
    ·rw [decide_eq_false he] at hq
     have HX : Hid (decide (a = b) = false) := by show _ = _; rw [decide_eq_false]; intro e; subst e; exact he rfl
     clear he
     go_wp2_with fail
     go_quiet (fail)
     go_wp2_with fail
     go_ret
     exact ⟨by rw [HX.out]; rfl, _, by rw [World.drewN_drewN]⟩
   ·have HX : Hid (decide (a = b) = true) := by
     show _ = _
     rw [decide_eq_true]
     exact List.ext_getElem HL.out (fun j h h' => HA.out j h h' (by omega))
    go_wp2_with fail
    go_ret
    exact ⟨by rw [HX.out]; rfl, _, rfl⟩
 ·have hl' : ((a.length : Int) != b.length) = true := by simp; omega
  have HX : Hid (decide (a = b) = false) := by show _ = _; rw [decide_eq_false]; intro e; exact hl (by rw [e])
  clear hl
  go_enter Tryd.func14, Tryd.ntmps14
  go_wp2_with fail
  go_ret
  exact ⟨by rw [HX.out]; rfl, 0, rfl⟩
set_option maxRecDepth 100000 in
set_option maxHeartbeats 1000000 in
theorem lpLog_c (A : Option Addr) (c : Nat) (a : List Entry) (A' : Option Addr) (c' : Nat) (b : List Entry) (w : World) (hr : Rd w A c a) (hr' : Rd w A' c' b) :
  Calls Tryd.prog 30 #[.slice A a.length c, .slice A' b.length c'] w fun e w' => e = .returned (.bool (decide (a = b))) ∧ ∃ n, w' = w.drewN n := by
 have hm : a.length ≤ maxLen := Nat.le_trans hr.1 hr.2.1
 unfold maxLen at hm
 have HR := Lib.hid hr; have HR' := Lib.hid hr'
 clear hr hr'
 by_cases hl : a.length = b.length
 ·have hl' : ((a.length : Int) != b.length) = false := by simp [hl]
  have HL := Lib.hid hl
  have hml : b.length ≤ 9223372036854775807 := by omega
  clear hl
  go_enter Tryd.func30, Tryd.ntmps30
  go_wp2_with fail
  go_loopg [5] a.length (fun gk i wr => ∃ (k n : Nat), wr = w.drewN n ∧ k ≤ a.length ∧ Hid (gk = a.length - k) ∧ i = .int .i64 k ∧ Hid (∀ j (h : j < a.length) (h' : j < b.length), j < k → a[j] = b[j]))
  case atStart => exact ⟨0, 0, rfl, Nat.zero_le _, rfl, rfl, fun j _ _ h => by omega⟩
  case round =>
   obtain ⟨k, n, rfl, hk, HK, rfl, HA⟩ := hrel
   by_cases hlt : k < a.length
   ·have hltb : k < b.length := by have := HL.out; omega
    obtain ⟨b1, o1, rfl, -, c0, c1, c2, c3, c4, c5, c6⟩ := ent_at HR.out k hlt
    obtain ⟨b2, o2, rfl, -, d0, d1, d2, d3, d4, d5, d6⟩ := ent_at HR'.out k hltb
    have hlt' : (k : Int) < a.length := by omega
    have hltb' : (k : Int) < b.length := by omega
    have hq := neq_ent a[k] b[k]
    by_cases he : a[k] = b[k]
    ·rw [decide_eq_true he] at hq
     have HN : Hid (∀ j (h : j < a.length) (h' : j < b.length), j < k + 1 → a[j] = b[j]) := fun j h h' hj => by
      by_cases e : j = k
      ·subst e; exact he
      ·exact HA.out j h h' (by omega)
     clear he
     go_wp2_with fail
     go_quiet (fail)
     go_wp2_with fail
     go_roundg (a.length - (k + 1))
     case measure => have := HK.out; omega
     case rel => exact ⟨k + 1, _, rfl, by omega, rfl, by go_num, HN.out⟩
    ·rw [decide_eq_false he] at hq
     have HX : Hid (decide (a = b) = false) := by show _ = _; rw [decide_eq_false]; intro e; subst e; exact he rfl
     clear he
     go_wp2_with fail
     go_quiet (fail)
     go_wp2_with fail
     go_ret
     exact ⟨by rw [HX.out]; rfl, _, by rw [World.drewN_drewN]⟩
   ·have HX : Hid (decide (a = b) = true) := by
     show _ = _
     rw [decide_eq_true]
     exact List.ext_getElem HL.out (fun j h h' => HA.out j h h' (by omega))
    go_wp2_with fail
    go_ret
    exact ⟨by rw [HX.out]; rfl, _, rfl⟩
 ·have hl' : ((a.length : Int) != b.length) = true := by simp; omega
  have HX : Hid (decide (a = b) = false) := by show _ = _; rw [decide_eq_false]; intro e; exact hl (by rw [e])
  clear hl
  go_enter Tryd.func30, Tryd.ntmps30
  go_wp2_with fail
  go_ret
  exact ⟨by rw [HX.out]; rfl, 0, rfl⟩
end Go.Proofs.YtjhbbgeebobcpaaDoor
namespace Go.Proofs.YtjhbbgeebobcpaaDoor
open Go.RowKit
set_option linter.unusedVariables false
def clientEq (c d : Client) : Bool := decide (c.who = d.who) && (decide (c.seen = d.seen) && (decide (c.base = d.base) && (decide (c.wait = d.wait) && (decide (c.done = d.done) && decide (c.made = d.made)))))
theorem clientEq_refl (c : Client) : clientEq c c = true := by simp [clientEq]
theorem clientEq_iff (c d : Client) : clientEq c d = true ↔ c = d := by
 obtain ⟨a1, a2, a3, a4, a5, a6⟩ := c
 obtain ⟨b1, b2, b3, b4, b5, b6⟩ := d
 simp [clientEq]
set_option maxRecDepth 100000 in
set_option maxHeartbeats 4000000 in
theorem lpClient_c (c d : Client) (v v' : Value) (w : World) (h : CV w c v) (h' : CV w d v') :
  Calls Tryd.prog 20 #[v, v'] w fun e w' => e = .returned (.bool (clientEq c d)) ∧ Ext w w' := by
 obtain ⟨A1, n1, A2, n2, rfl, h1, h2⟩ := h
 obtain ⟨B1, m1, B2, m2, rfl, g1, g2⟩ := h'
 have hX := two_new w (oC c A1 n1 A2 n2) (oC d B1 m1 B2 m2)
 have hE0 : Ext w ((w.alloc (oC c A1 n1 A2 n2)).alloc (oC d B1 m1 B2 m2)) := ((Below.refl _ w).alloc (Nat.le_refl _) _).alloc (by rw [alloc_sz]; omega) _
 have HRW := Lib.hid (fun W => lpRows_c A1 n1 c.base B1 m1 d.base W)
 have HLW := Lib.hid (fun W => lpLog_c A2 n2 c.wait B2 m2 d.wait W)
 have HE0 := Lib.hid hE0; have HX := Lib.hid hX
 have H1 := Lib.hid h1; have H2 := Lib.hid h2; have G1 := Lib.hid g1; have G2 := Lib.hid g2
 have HK : Hid (clientEq c d = (decide (c.who = d.who) && (decide (c.seen = d.seen) && (decide (c.base = d.base) && (decide (c.wait = d.wait) && (decide (c.done = d.done) && decide (c.made = d.made))))))) := rfl
 clear hX hE0 h1 h2 g1 g2
 by_cases k0 : c.who = d.who
 rotate_left
 ·rw [decide_eq_false k0] at HK
  have kb0 : (c.who == d.who) = false := by simp [k0]
  have HK : Hid (clientEq c d = false) := by show _ = _; rw [HK.out]; simp
  clear k0
  go_enter Tryd.func20, Tryd.ntmps20
  go_wp2_with fail
  go_ret
  exact ⟨by rw [HK.out]; rfl, HE0.out⟩
 rw [decide_eq_true k0] at HK
 have kb0 : (c.who == d.who) = true := by simp [k0]
 clear k0
 by_cases k1 : c.seen = d.seen
 rotate_left
 ·rw [decide_eq_false k1] at HK
  have kb1 : (c.seen == d.seen) = false := by simp [k1]
  have HK : Hid (clientEq c d = false) := by show _ = _; rw [HK.out]; simp
  clear k1
  go_enter Tryd.func20, Tryd.ntmps20
  go_wp2_with fail
  go_ret
  exact ⟨by rw [HK.out]; rfl, HE0.out⟩
 rw [decide_eq_true k1] at HK
 have kb1 : (c.seen == d.seen) = true := by simp [k1]
 clear k1
 by_cases k2 : c.base = d.base
 rotate_left
 ·rw [decide_eq_false k2] at HK
  simp only [decide_eq_false k2] at HRW
  have HK : Hid (clientEq c d = false) := by show _ = _; rw [HK.out]; simp
  clear k2
  go_enter Tryd.func20, Tryd.ntmps20
  go_wp2_with fail
  refine (HRW.out _ (H1.out.ext HE0.out) (G1.out.ext HE0.out)).mono ?_; rintro e w1 ⟨rfl, q1, hw1⟩
  have hE1 : Ext w w1 := by rw [hw1]; exact Ext.drewN HE0.out _
  have hc1 := six_cells (W := w1) (by rw [hw1]; exact HX.out.1)
  have hd1 := six_cells (W := w1) (by rw [hw1]; exact HX.out.2)
  obtain ⟨c0, c1, c2, c3, c4, c5, cf⟩ := hc1
  obtain ⟨d0, d1, d2, d3, d4, d5, df⟩ := hd1
  have HE1 := Lib.hid hE1; have HX1 := Lib.hid (show w1.heap[w.heap.size]? = some (.cells (cC c A1 n1 A2 n2) 30 (0, 0)) ∧ w1.heap[w.heap.size + 1]? = some (.cells (cC d B1 m1 B2 m2) 30 (0, 0)) by rw [hw1]; exact HX.out)
  clear hw1 hE1
  go_wp2_with fail
  go_ret
  exact ⟨by rw [HK.out]; rfl, HE1.out⟩
 rw [decide_eq_true k2] at HK
 simp only [decide_eq_true k2] at HRW
 clear k2
 by_cases k3 : c.wait = d.wait
 rotate_left
 ·rw [decide_eq_false k3] at HK
  simp only [decide_eq_false k3] at HLW
  have HK : Hid (clientEq c d = false) := by show _ = _; rw [HK.out]; simp
  clear k3
  go_enter Tryd.func20, Tryd.ntmps20
  go_wp2_with fail
  refine (HRW.out _ (H1.out.ext HE0.out) (G1.out.ext HE0.out)).mono ?_; rintro e w1 ⟨rfl, q1, hw1⟩
  have hE1 : Ext w w1 := by rw [hw1]; exact Ext.drewN HE0.out _
  have hc1 := six_cells (W := w1) (by rw [hw1]; exact HX.out.1)
  have hd1 := six_cells (W := w1) (by rw [hw1]; exact HX.out.2)
  obtain ⟨c0, c1, c2, c3, c4, c5, cf⟩ := hc1
  obtain ⟨d0, d1, d2, d3, d4, d5, df⟩ := hd1
  have HE1 := Lib.hid hE1; have HX1 := Lib.hid (show w1.heap[w.heap.size]? = some (.cells (cC c A1 n1 A2 n2) 30 (0, 0)) ∧ w1.heap[w.heap.size + 1]? = some (.cells (cC d B1 m1 B2 m2) 30 (0, 0)) by rw [hw1]; exact HX.out)
  clear hw1 hE1
  go_wp2_with fail
  refine (HLW.out _ (H2.out.ext HE1.out) (G2.out.ext HE1.out)).mono ?_; rintro e w2 ⟨rfl, q2, hw2⟩
  have hE2 : Ext w w2 := by rw [hw2]; exact Ext.drewN HE1.out _
  have hc2 := six_cells (W := w2) (by rw [hw2]; exact HX1.out.1)
  have hd2 := six_cells (W := w2) (by rw [hw2]; exact HX1.out.2)
  clear c0 c1 c2 c3 c4 c5 cf d0 d1 d2 d3 d4 d5 df
  obtain ⟨c0, c1, c2, c3, c4, c5, cf⟩ := hc2
  obtain ⟨d0, d1, d2, d3, d4, d5, df⟩ := hd2
  have HE2 := Lib.hid hE2
  clear hw2 hE2
  go_wp2_with fail
  go_ret
  exact ⟨by rw [HK.out]; rfl, HE2.out⟩
 rw [decide_eq_true k3] at HK
 simp only [decide_eq_true k3] at HLW
 clear k3
 by_cases k4 : c.done = d.done
 rotate_left
 ·rw [decide_eq_false k4] at HK
  have kb4 : (c.done == d.done) = false := by simp [k4]
  have HK : Hid (clientEq c d = false) := by show _ = _; rw [HK.out]; simp
  clear k4
  go_enter Tryd.func20, Tryd.ntmps20
  go_wp2_with fail
  refine (HRW.out _ (H1.out.ext HE0.out) (G1.out.ext HE0.out)).mono ?_; rintro e w1 ⟨rfl, q1, hw1⟩
  have hE1 : Ext w w1 := by rw [hw1]; exact Ext.drewN HE0.out _
  have hc1 := six_cells (W := w1) (by rw [hw1]; exact HX.out.1)
  have hd1 := six_cells (W := w1) (by rw [hw1]; exact HX.out.2)
  obtain ⟨c0, c1, c2, c3, c4, c5, cf⟩ := hc1
  obtain ⟨d0, d1, d2, d3, d4, d5, df⟩ := hd1
  have HE1 := Lib.hid hE1; have HX1 := Lib.hid (show w1.heap[w.heap.size]? = some (.cells (cC c A1 n1 A2 n2) 30 (0, 0)) ∧ w1.heap[w.heap.size + 1]? = some (.cells (cC d B1 m1 B2 m2) 30 (0, 0)) by rw [hw1]; exact HX.out)
  clear hw1 hE1
  go_wp2_with fail
  refine (HLW.out _ (H2.out.ext HE1.out) (G2.out.ext HE1.out)).mono ?_; rintro e w2 ⟨rfl, q2, hw2⟩
  have hE2 : Ext w w2 := by rw [hw2]; exact Ext.drewN HE1.out _
  have hc2 := six_cells (W := w2) (by rw [hw2]; exact HX1.out.1)
  have hd2 := six_cells (W := w2) (by rw [hw2]; exact HX1.out.2)
  clear c0 c1 c2 c3 c4 c5 cf d0 d1 d2 d3 d4 d5 df
  obtain ⟨c0, c1, c2, c3, c4, c5, cf⟩ := hc2
  obtain ⟨d0, d1, d2, d3, d4, d5, df⟩ := hd2
  have HE2 := Lib.hid hE2
  clear hw2 hE2
  go_wp2_with fail
  go_ret
  exact ⟨by rw [HK.out]; rfl, HE2.out⟩
 rw [decide_eq_true k4] at HK
 have kb4 : (c.done == d.done) = true := by simp [k4]
 clear k4
 by_cases k5 : c.made = d.made
 rotate_left
 ·rw [decide_eq_false k5] at HK
  have kb5 : (c.made == d.made) = false := by simp [k5]
  have HK : Hid (clientEq c d = false) := by show _ = _; rw [HK.out]; simp
  clear k5
  go_enter Tryd.func20, Tryd.ntmps20
  go_wp2_with fail
  refine (HRW.out _ (H1.out.ext HE0.out) (G1.out.ext HE0.out)).mono ?_; rintro e w1 ⟨rfl, q1, hw1⟩
  have hE1 : Ext w w1 := by rw [hw1]; exact Ext.drewN HE0.out _
  have hc1 := six_cells (W := w1) (by rw [hw1]; exact HX.out.1)
  have hd1 := six_cells (W := w1) (by rw [hw1]; exact HX.out.2)
  obtain ⟨c0, c1, c2, c3, c4, c5, cf⟩ := hc1
  obtain ⟨d0, d1, d2, d3, d4, d5, df⟩ := hd1
  have HE1 := Lib.hid hE1; have HX1 := Lib.hid (show w1.heap[w.heap.size]? = some (.cells (cC c A1 n1 A2 n2) 30 (0, 0)) ∧ w1.heap[w.heap.size + 1]? = some (.cells (cC d B1 m1 B2 m2) 30 (0, 0)) by rw [hw1]; exact HX.out)
  clear hw1 hE1
  go_wp2_with fail
  refine (HLW.out _ (H2.out.ext HE1.out) (G2.out.ext HE1.out)).mono ?_; rintro e w2 ⟨rfl, q2, hw2⟩
  have hE2 : Ext w w2 := by rw [hw2]; exact Ext.drewN HE1.out _
  have hc2 := six_cells (W := w2) (by rw [hw2]; exact HX1.out.1)
  have hd2 := six_cells (W := w2) (by rw [hw2]; exact HX1.out.2)
  clear c0 c1 c2 c3 c4 c5 cf d0 d1 d2 d3 d4 d5 df
  obtain ⟨c0, c1, c2, c3, c4, c5, cf⟩ := hc2
  obtain ⟨d0, d1, d2, d3, d4, d5, df⟩ := hd2
  have HE2 := Lib.hid hE2
  clear hw2 hE2
  go_wp2_with fail
  go_ret
  exact ⟨by rw [HK.out]; rfl, HE2.out⟩
 rw [decide_eq_true k5] at HK
 have kb5 : (c.made == d.made) = true := by simp [k5]
 clear k5
 have HK : Hid (clientEq c d = true) := by show _ = _; rw [HK.out]; rfl
 go_enter Tryd.func20, Tryd.ntmps20
 go_wp2_with fail
 refine (HRW.out _ (H1.out.ext HE0.out) (G1.out.ext HE0.out)).mono ?_; rintro e w1 ⟨rfl, q1, hw1⟩
 have hE1 : Ext w w1 := by rw [hw1]; exact Ext.drewN HE0.out _
 have hc1 := six_cells (W := w1) (by rw [hw1]; exact HX.out.1)
 have hd1 := six_cells (W := w1) (by rw [hw1]; exact HX.out.2)
 obtain ⟨c0, c1, c2, c3, c4, c5, cf⟩ := hc1
 obtain ⟨d0, d1, d2, d3, d4, d5, df⟩ := hd1
 have HE1 := Lib.hid hE1; have HX1 := Lib.hid (show w1.heap[w.heap.size]? = some (.cells (cC c A1 n1 A2 n2) 30 (0, 0)) ∧ w1.heap[w.heap.size + 1]? = some (.cells (cC d B1 m1 B2 m2) 30 (0, 0)) by rw [hw1]; exact HX.out)
 clear hw1 hE1
 go_wp2_with fail
 refine (HLW.out _ (H2.out.ext HE1.out) (G2.out.ext HE1.out)).mono ?_; rintro e w2 ⟨rfl, q2, hw2⟩
 have hE2 : Ext w w2 := by rw [hw2]; exact Ext.drewN HE1.out _
 have hc2 := six_cells (W := w2) (by rw [hw2]; exact HX1.out.1)
 have hd2 := six_cells (W := w2) (by rw [hw2]; exact HX1.out.2)
 clear c0 c1 c2 c3 c4 c5 cf d0 d1 d2 d3 d4 d5 df
 obtain ⟨c0, c1, c2, c3, c4, c5, cf⟩ := hc2
 obtain ⟨d0, d1, d2, d3, d4, d5, df⟩ := hd2
 have HE2 := Lib.hid hE2
 clear hw2 hE2
 go_wp2_with fail
 go_ret
 exact ⟨by rw [HK.out]; rfl, HE2.out⟩
end Go.Proofs.YtjhbbgeebobcpaaDoor
namespace Go.Proofs.YtjhbbgeebobcpaaDoor
open Go.RowKit Go.Lib
set_option linter.unusedVariables false
theorem clientEq_self (c : Client) : clientEq c c = true := by unfold clientEq; simp
section
variable {P : Program} {ops : Array Oper} {Q : Exit → Act → World → Prop} {md : Region.Mode} {S : World → Prop} {n : Nat}
theorem WB.takeD {i : Nat} {d : Option Nat} {oi : Oper} {v : Value} {k : Nat} {l : Array Bool} {a : Act} {w : World} (hi : ops[i]? = some oi) (hd : oi.dst = d)
  (hs : Region.noSelect ops = true) (hf : Region.free md ops l i = true) (hr : (Region.ready md ops l).contains i = true) (hl : (waitB md ops n i && (n != i && !(l.getD n true))) = true)
  (hQ : ∀ c a w, Q (.panic c) (a.put oi.dst v) w → Q (.panic c) a w) (hS : S w) (hy : YieldsIf P ops S oi v a)
  (h : WB P md ops Q S n k (l.setIfInBounds i true) (a.put d v) w) : WB P md ops Q S n (k + 1) l a w := by
 subst hd; exact WB.take hi hs hf hr hl hQ hS hy h
theorem WB.takePD {i : Nat} {d : Option Nat} {oi : Oper} {v : Value} {k : Nat} {l : Array Bool} {a : Act} {w : World} (hi : ops[i]? = some oi) (hd : oi.dst = d)
  (hs : Region.noSelect ops = true) (hf : Region.free md ops l i = true) (hr : (Region.ready md ops l).contains i = true) (hl : (n != i) = true)
  (hQ : ∀ c a w, Q (.panic c) (a.put oi.dst v) w → Q (.panic c) a w) (hS : S w) (hy : YieldsIf P ops (fun _ => True) oi v a)
  (h : WB P md ops Q S n k (l.setIfInBounds i true) (a.put d v) w) : WB P md ops Q S n (k + 1) l a w := by
 subst hd; exact WB.takeP hi hs hf hr hl hQ hS hy h
end
end Go.Proofs.YtjhbbgeebobcpaaDoor
namespace Go.Proofs.YtjhbbgeebobcpaaDoor
open Go.RowKit Go.Lib
set_option linter.unusedVariables false
def clientDo (c : Client) (o : Op) : Client × Bool := if clientOk c = true then doS c o else (noClient, false)
theorem rowMade_c (who n : Int) (w : World) (h1 : i64 who) (h2 : i64 n) :
  Calls Tryd.prog 71 #[.int .i64 who, .int .i64 n] w fun e w' => e = .returned (.int .i64 (rowMade who n)) ∧ w' = w := by
 have HC := Lib.hid (whoOk_c who w)
 have hm : rowMade who n = if isWho who = true ∧ 1 ≤ n ∧ n ≤ 6 then 10 * who + n else 0 := by unfold rowMade isWho; simp [and_assoc]
 cases ha : isWho who
 ·rw [ha] at HC hm
  have hm0 : rowMade who n = 0 := by rw [hm]; simp
  rw [hm0]
  clear ha h1 h2 hm hm0
  go_enter Tryd.func71, Tryd.ntmps71
  go_wp2_with fail
  refine HC.out.mono ?_; rintro e w' ⟨rfl, rfl⟩
  go_wp2_with fail
  go_ret
  exact ⟨rfl, rfl⟩
 have ha' : 1 ≤ who ∧ who ≤ 3 := by unfold isWho at ha; simpa using ha
 obtain ⟨hw1, hw2⟩ := ha'
 rw [ha] at HC hm
 have HM := Lib.hid hm
 clear ha hm
 by_cases hn1 : n < 1
 ·have hm0 : rowMade who n = 0 := by rw [HM.out, if_neg (by omega)]
  rw [hm0]
  clear h1 h2 hm0 HM
  go_enter Tryd.func71, Tryd.ntmps71
  go_wp2_with fail
  refine HC.out.mono ?_; rintro e w' ⟨rfl, rfl⟩
  go_wp2_with fail
  go_ret
  exact ⟨rfl, rfl⟩
 by_cases hn2 : 6 < n
 ·have hm0 : rowMade who n = 0 := by rw [HM.out, if_neg (by omega)]
  rw [hm0]
  clear h1 h2 hm0 HM
  go_enter Tryd.func71, Tryd.ntmps71
  go_wp2_with fail
  refine HC.out.mono ?_; rintro e w' ⟨rfl, rfl⟩
  go_wp2_with fail
  go_ret
  exact ⟨rfl, rfl⟩
 have hm0 : rowMade who n = 10 * who + n := by rw [HM.out, if_pos ⟨rfl, by omega, by omega⟩]
 rw [hm0]
 clear h1 h2 hm0 HM
 have ha1 : IntKind.i64.wrap (10 * who) = 10 * who := by rw [IntKind.wrap_i64]; omega
 have ha2 : IntKind.i64.wrap (10 * who + n) = 10 * who + n := by rw [IntKind.wrap_i64]; omega
 go_enter Tryd.func71, Tryd.ntmps71
 go_wp2_with fail
 refine HC.out.mono ?_; rintro e w' ⟨rfl, rfl⟩
 go_wp2_with fail
 go_ret
 exact ⟨rfl, rfl⟩
set_option maxRecDepth 100000 in
set_option maxHeartbeats 4000000 in
theorem clientDo_c (c : Client) (v : Value) (o : Op) (w : World) (ht : Tab w) (h : CV w c v) (hs : o.text.size ≤ maxLen) :
  Calls Tryd.prog 35 #[v, .agg (cO o)] w fun r w' => ∃ v', r = .returned (.tuple #[v', .bool (clientDo c o).2]) ∧ CV w' (clientDo c o).1 v' ∧ Ext w w' := by
 obtain ⟨A1, n1, A2, n2, rfl, h1, h2⟩ := h
 have h3 := three_all w (oC c A1 n1 A2 n2) (oO o) oC0
 have hE3 : Ext w (((w.alloc (oC c A1 n1 A2 n2)).alloc (oO o)).alloc oC0) := ext3 _ _ _ _
 have hz3 : (((w.alloc (oC c A1 n1 A2 n2)).alloc (oO o)).alloc oC0).heap.size = w.heap.size + 1 + 1 + 1 := by simp only [alloc_sz]
 have HX1 := Lib.hid h3.1; have HX2 := Lib.hid h3.2.1; have HX3 := Lib.hid h3.2.2
 have hV3 : CV (((w.alloc (oC c A1 n1 A2 n2)).alloc (oO o)).alloc oC0) c (.agg (cC c A1 n1 A2 n2)) := ⟨A1, n1, A2, n2, rfl, h1.ext hE3, h2.ext hE3⟩
 have HV := Lib.hid hV3; have HT := Lib.hid (ht.below hE3 ht.pos); have HE3 := Lib.hid hE3
 have hlb : c.base.length ≤ maxLen := Nat.le_trans h1.1 h1.2.1
 have hlw : c.wait.length ≤ maxLen := Nat.le_trans h2.1 h2.2.1
 have HT0 := Lib.hid ht
 have HOE : Hid (Flat.okE (newEnt c o)) := hs
 clear h1 h2 h3 hE3 hV3 ht hlb hlw
 go_enter Tryd.func35, Tryd.ntmps35
 go_wp2_with fail
 generalize (((w.alloc (oC c A1 n1 A2 n2)).alloc (oO o)).alloc oC0) = W3 at *
 refine (clientOk_c c _ W3 HT.out HV.out).mono ?_
 rintro e w4 ⟨rfl, hb4⟩
 have hs4 := hb4.size
 have hx1 := (hb4.block _ (show w.heap.size < W3.heap.size by omega)).trans HX1.out; have hx2 := (hb4.block _ (show w.heap.size + 1 < W3.heap.size by omega)).trans HX2.out; have hx3 := (hb4.block _ (show w.heap.size + 1 + 1 < W3.heap.size by omega)).trans HX3.out
 have hE4 := HE3.out.trans (hb4.mono HE3.out.size)
 cases hok : clientOk c
 ·have HRes : Hid (clientDo c o = (noClient, false)) := by show _ = _; unfold clientDo; rw [hok]; rfl
  obtain ⟨d0, d1, d2, d3, d4, d5, df⟩ := six_cells hx3
  have hz := put6_at (.int .i64 0) (.int .i64 0) (.slice none 0 0) (.slice none 0 0) (.int .i64 0) (.int .i64 0) hx3
  have hE := put6_below (.int .i64 0) (.int .i64 0) (.slice none 0 0) (.slice none 0 0) (.int .i64 0) (.int .i64 0) hE4 (show w.heap.size ≤ w.heap.size + 1 + 1 from by omega)
  have HZ := Lib.hid hz; have HE := Lib.hid hE
  clear hz hE hx1 hx2 hx3 hE4 hb4 hok
  go_wp2_with fail
  obtain ⟨k0, k1, k2, k3, k4, k5, kf⟩ := six_cells HZ.out
  refine bodyPost_ret (v := .tuple #[.agg cC0, .bool false]) ?_ rfl ?_
  ·simp [results, Tryd.f35, go_sem, k0, k1, k2, k3, k4, k5]
  ·exact ⟨_, by rw [HRes.out], by rw [HRes.out]; exact CV.no _, HE.out⟩
 have HRes : Hid (clientDo c o = doS c o) := by show _ = _; unfold clientDo; rw [if_pos hok]
 obtain ⟨hw9, hs0, hs40, htr, hd0, hd1, hwl, hm0, hm1, hwt⟩ := clientOk_parts hok
 have hbl := treeOk_len htr
 have HX14 := Lib.hid hx1; have HX24 := Lib.hid hx2; have HX34 := Lib.hid hx3; have HE4 := Lib.hid hE4; have HT4 := Lib.hid (HT.out.below hb4 HT.out.pos); have HV4 := Lib.hid (HV.out.ext hb4)
 have hl4 : w.heap.size + 1 + 1 < w4.heap.size := by omega
 clear htr hwt hok hE4 HE3 HT HV HX1 HX2 HX3 hb4 hx2 hx3
 obtain ⟨d0, d1, d2, d3, d4, d5, df⟩ := six_cells hx1
 clear hx1
 go_wp2_with fail
 refine (copyClient_c c _ w4 HV4.out (by omega) (by omega)).mono ?_
 rintro e w5 ⟨v5, rfl, ⟨B1, m1, B2, m2, rfl, g1, g2⟩, hb5⟩
 have hs5 := hb5.size
 have hx1 := (hb5.block w.heap.size (by omega)).trans HX14.out; have hx2 := (hb5.block (w.heap.size + 1) (by omega)).trans HX24.out; have hx3 := (hb5.block (w.heap.size + 1 + 1) (by omega)).trans HX34.out
 have ho1 : Own 47 ((((((w5.setCell ⟨w.heap.size, 0, none⟩ (.int .i64 c.who)).setCell ⟨w.heap.size, 1, none⟩ (.int .i64 c.seen)).setCell ⟨w.heap.size, 2, none⟩ (.slice B1 c.base.length m1)).setCell ⟨w.heap.size, 3, none⟩ (.slice B2 c.wait.length m2)).setCell ⟨w.heap.size, 4, none⟩ (.int .i64 c.done)).setCell ⟨w.heap.size, 5, none⟩ (.int .i64 c.made)) w4.heap.size (.slice B1 c.base.length m1) c.base := own_put6 g1 hx1 (by decide) (.int .i64 c.who) (.int .i64 c.seen) (.slice B1 c.base.length m1) (.slice B2 c.wait.length m2) (.int .i64 c.done) (.int .i64 c.made)
 have ho2 : Own 44 ((((((w5.setCell ⟨w.heap.size, 0, none⟩ (.int .i64 c.who)).setCell ⟨w.heap.size, 1, none⟩ (.int .i64 c.seen)).setCell ⟨w.heap.size, 2, none⟩ (.slice B1 c.base.length m1)).setCell ⟨w.heap.size, 3, none⟩ (.slice B2 c.wait.length m2)).setCell ⟨w.heap.size, 4, none⟩ (.int .i64 c.done)).setCell ⟨w.heap.size, 5, none⟩ (.int .i64 c.made)) w4.heap.size (.slice B2 c.wait.length m2) c.wait := own_put6 g2 hx1 (by decide) (.int .i64 c.who) (.int .i64 c.seen) (.slice B1 c.base.length m1) (.slice B2 c.wait.length m2) (.int .i64 c.done) (.int .i64 c.made)
 have hy1 : ((((((w5.setCell ⟨w.heap.size, 0, none⟩ (.int .i64 c.who)).setCell ⟨w.heap.size, 1, none⟩ (.int .i64 c.seen)).setCell ⟨w.heap.size, 2, none⟩ (.slice B1 c.base.length m1)).setCell ⟨w.heap.size, 3, none⟩ (.slice B2 c.wait.length m2)).setCell ⟨w.heap.size, 4, none⟩ (.int .i64 c.done)).setCell ⟨w.heap.size, 5, none⟩ (.int .i64 c.made)).heap[w.heap.size]? = some (.cells (cC c B1 m1 B2 m2) 30 (0, 0)) := put6_at (.int .i64 c.who) (.int .i64 c.seen) (.slice B1 c.base.length m1) (.slice B2 c.wait.length m2) (.int .i64 c.done) (.int .i64 c.made) hx1
 have hy2 : ((((((w5.setCell ⟨w.heap.size, 0, none⟩ (.int .i64 c.who)).setCell ⟨w.heap.size, 1, none⟩ (.int .i64 c.seen)).setCell ⟨w.heap.size, 2, none⟩ (.slice B1 c.base.length m1)).setCell ⟨w.heap.size, 3, none⟩ (.slice B2 c.wait.length m2)).setCell ⟨w.heap.size, 4, none⟩ (.int .i64 c.done)).setCell ⟨w.heap.size, 5, none⟩ (.int .i64 c.made)).heap[w.heap.size + 1]? = some (.cells (cO o) 42 (0, 0)) := (put6_far (.int .i64 c.who) (.int .i64 c.seen) (.slice B1 c.base.length m1) (.slice B2 c.wait.length m2) (.int .i64 c.done) (.int .i64 c.made) (by omega)).trans hx2
 have hy3 : ((((((w5.setCell ⟨w.heap.size, 0, none⟩ (.int .i64 c.who)).setCell ⟨w.heap.size, 1, none⟩ (.int .i64 c.seen)).setCell ⟨w.heap.size, 2, none⟩ (.slice B1 c.base.length m1)).setCell ⟨w.heap.size, 3, none⟩ (.slice B2 c.wait.length m2)).setCell ⟨w.heap.size, 4, none⟩ (.int .i64 c.done)).setCell ⟨w.heap.size, 5, none⟩ (.int .i64 c.made)).heap[w.heap.size + 1 + 1]? = some (.cells cC0 30 (0, 0)) := (put6_far (.int .i64 c.who) (.int .i64 c.seen) (.slice B1 c.base.length m1) (.slice B2 c.wait.length m2) (.int .i64 c.done) (.int .i64 c.made) (by omega)).trans hx3
 have hE6 : Ext w ((((((w5.setCell ⟨w.heap.size, 0, none⟩ (.int .i64 c.who)).setCell ⟨w.heap.size, 1, none⟩ (.int .i64 c.seen)).setCell ⟨w.heap.size, 2, none⟩ (.slice B1 c.base.length m1)).setCell ⟨w.heap.size, 3, none⟩ (.slice B2 c.wait.length m2)).setCell ⟨w.heap.size, 4, none⟩ (.int .i64 c.done)).setCell ⟨w.heap.size, 5, none⟩ (.int .i64 c.made)) := put6_below (.int .i64 c.who) (.int .i64 c.seen) (.slice B1 c.base.length m1) (.slice B2 c.wait.length m2) (.int .i64 c.done) (.int .i64 c.made) (HE4.out.trans (hb5.mono HE4.out.size)) (Nat.le_refl _)
 have hz6 : ((((((w5.setCell ⟨w.heap.size, 0, none⟩ (.int .i64 c.who)).setCell ⟨w.heap.size, 1, none⟩ (.int .i64 c.seen)).setCell ⟨w.heap.size, 2, none⟩ (.slice B1 c.base.length m1)).setCell ⟨w.heap.size, 3, none⟩ (.slice B2 c.wait.length m2)).setCell ⟨w.heap.size, 4, none⟩ (.int .i64 c.done)).setCell ⟨w.heap.size, 5, none⟩ (.int .i64 c.made)).heap.size = w5.heap.size := put6_size w5 w.heap.size (.int .i64 c.who) (.int .i64 c.seen) (.slice B1 c.base.length m1) (.slice B2 c.wait.length m2) (.int .i64 c.done) (.int .i64 c.made)
 clear d0 d1 d2 d3 d4 d5 df
 obtain ⟨d0, d1, d2, d3, d4, d5, df⟩ := six_cells hx1
 obtain ⟨x0, x1, x2, x3, x4, x5, xf⟩ := six_cells hy1
 obtain ⟨y0, y1, y2, y3, y4, yf⟩ := five_cells hy2
 have HO1 := Lib.hid ho1; have HO2 := Lib.hid ho2; have HX1 := Lib.hid hy1; have HX2 := Lib.hid hy2; have HX3 := Lib.hid hy3; have HE6 := Lib.hid hE6
 clear g1 g2 hx1 hx2 hx3 ho1 ho2 hy1 hy2 hy3 hE6 hb5
 go_upto_region 4 with fail
 generalize ((((((w5.setCell ⟨w.heap.size, 0, none⟩ (.int .i64 c.who)).setCell ⟨w.heap.size, 1, none⟩ (.int .i64 c.seen)).setCell ⟨w.heap.size, 2, none⟩ (.slice B1 c.base.length m1)).setCell ⟨w.heap.size, 3, none⟩ (.slice B2 c.wait.length m2)).setCell ⟨w.heap.size, 4, none⟩ (.int .i64 c.done)).setCell ⟨w.heap.size, 5, none⟩ (.int .i64 c.made)) = W6 at *
 clear d0 d1 d2 d3 d4 d5 df
 go_upto_region 5 with fail
 have hE7 : Ext W6 (W6.alloc (.cells #[.int .i64 c.who, .int .i64 (c.done + (c.wait.length : Int) + 1), .int .i64 o.kind, .int .i64 o.id, .int .i64 o.up, .int .i64 o.pos, .string o.text] 44)) := (Below.refl _ _).alloc (Nat.le_refl _) _
 have hx1 := (hE7.block _ (blk_lt HX1.out)).trans HX1.out; have hx2 := (hE7.block _ (blk_lt HX2.out)).trans HX2.out; have hx3 := (hE7.block _ (blk_lt HX3.out)).trans HX3.out
 have hx4 := World.alloc_heap_new W6 (.cells #[.int .i64 c.who, .int .i64 (c.done + (c.wait.length : Int) + 1), .int .i64 o.kind, .int .i64 o.id, .int .i64 o.up, .int .i64 o.pos, .string o.text] 44)
 have HE7 := Lib.hid (HE6.out.trans (hE7.mono HE6.out.size)); have HB67 := Lib.hid hE7
 have HO17 := Lib.hid (HO1.out.below hE7); have HO27 := Lib.hid (HO2.out.below hE7)
 have hz7 := alloc_sz W6 (.cells #[.int .i64 c.who, .int .i64 (c.done + (c.wait.length : Int) + 1), .int .i64 o.kind, .int .i64 o.id, .int .i64 o.up, .int .i64 o.pos, .string o.text] 44)
 have HX6 := Lib.hid (⟨HX1.out, HX2.out, HX3.out⟩ : _ ∧ _ ∧ _)
 clear HX1 HX2 HX3 HO1 HO2 hE7 x0 x1 x2 x3 x4 x5 xf y0 y1 y2 y3 y4 yf
 rw [hz6] at hx4 hz7
 obtain ⟨eb, heb⟩ : ∃ eb, eb = w5.heap.size := ⟨_, rfl⟩
 have hebl : w.heap.size + 1 + 1 < eb ∧ w4.heap.size ≤ eb := by omega
 rw [← heb] at hx4 hz7 ⊢
 have HEB := Lib.hid heb
 clear heb
 generalize (W6.alloc (.cells #[.int .i64 c.who, .int .i64 (c.done + (c.wait.length : Int) + 1), .int .i64 o.kind, .int .i64 o.id, .int .i64 o.up, .int .i64 o.pos, .string o.text] 44)) = W7 at *
 have HX1 := Lib.hid hx1; have HX2 := Lib.hid hx2; have HX3 := Lib.hid hx3; have HX4 := Lib.hid hx4
 have hpos : eb < W7.heap.size := by omega
 have hlt1 : w.heap.size < W7.heap.size := by omega
 have hlt2 : w.heap.size + 1 < W7.heap.size := by omega
 have hlt3 : w.heap.size + 1 + 1 < W7.heap.size := by omega
 have hwr : IntKind.i64.wrap (c.made + 1) = c.made + 1 := by rw [IntKind.wrap_i64]; omega
 have HTT := Lib.hid (HT0.out.below HE7.out HT0.out.pos)
 have HEK := Lib.hid (entryOk_c (newEnt c o) W7.drew (HTT.out.below (Below.refl _ _).drew HTT.out.pos) hs)
 have HRM := Lib.hid (fun W => rowMade_c c.who (c.made + 1) W (by unfold isWho at hw9; rw [decide_eq_true_eq] at hw9; unfold i64; omega) (by unfold i64; omega))
 clear hx1 hx2 hx3 hx4
 go_cut [42] (fun s wx => ∃ z : Bool, s = .bool z ∧ Hid (z = true → (doS c o) = (c, false)) ∧ Hid (z = false → (doS c o) = (⟨c.who, c.seen, c.base, c.wait ++ [newEnt c o], c.done, if o.kind = 1 then c.made + 1 else c.made⟩, true)) ∧ Hid (Ext W7 wx))
 case first =>
  obtain ⟨e0, e1, e2, e3, e4, e5, e6, ef⟩ := seven_cells HX4.out
  obtain ⟨y0, y1, y2, y3, y4, yf⟩ := five_cells HX2.out
  obtain ⟨x0, x1, x2, x3, x4, x5, xf⟩ := six_cells HX1.out
  cases hen : entryOk (newEnt c o)
  ·rw [hen] at HEK
   have HNO : Hid (doS c o = (c, false)) := by show _ = _; unfold doS; rw [if_neg (fun h => by rw [hen] at h; cases h.1)]
   clear hen
   refine wp_region_any (by kernel_rfl) ?_
   change wpAny _ _ _ _ _ _ _ (World.drew _)
   refine wpAny_ready (rs := [0]) (by kernel_rfl) (by simp) ?_
   refine AllReady.cons rfl (fun K hK => ?_) AllReady.nil
   go_simp
   refine hK _ _ ?_; clear hK K
   refine wpAny_ready (rs := [1]) (by kernel_rfl) (by simp) ?_
   refine AllReady.cons rfl (fun K hK => ?_) AllReady.nil
   go_simp
   go_wp2_with (go_at_call 32; refine HEK.out.mono ?_; rintro e w1 ⟨rfl, hb1⟩; obtain ⟨z0, z1, z2, z3, z4, zf⟩ := five_cells ((hb1.block (w.heap.size + 1) hlt2).trans HX2.out); have HB1 := Lib.hid hb1; clear hb1)
   refine wpAny_ready (rs := [2]) (by kernel_rfl) (by simp) ?_
   refine AllReady.cons rfl (fun K hK => ?_) AllReady.nil
   go_simp
   refine hK _ _ ?_; clear hK K
   refine wpAny_ready (rs := [3]) (by kernel_rfl) (by simp) ?_
   refine AllReady.cons rfl (fun K hK => ?_) AllReady.nil
   go_simp
   refine hK _ _ ?_; clear hK K
   refine any_skip 4 rfl (by kernel_rfl) (by kernel_rfl) (by kernel_rfl) (fun _ _ _ h => h) (by kernel_rfl) ?_
   refine any_skip 5 rfl (by kernel_rfl) (by kernel_rfl) (by kernel_rfl) (fun _ _ _ h => h) (by kernel_rfl) ?_
   refine any_skip 6 rfl (by kernel_rfl) (by kernel_rfl) (by kernel_rfl) (fun _ _ _ h => h) (by kernel_rfl) ?_
   refine any_skip 7 rfl (by kernel_rfl) (by kernel_rfl) (by kernel_rfl) (fun _ _ _ h => h) (by kernel_rfl) ?_
   refine any_skip 8 rfl (by kernel_rfl) (by kernel_rfl) (by kernel_rfl) (fun _ _ _ h => h) (by kernel_rfl) ?_
   refine any_skip 9 rfl (by kernel_rfl) (by kernel_rfl) (by kernel_rfl) (fun _ _ _ h => h) (by kernel_rfl) ?_
   refine any_skip 10 rfl (by kernel_rfl) (by kernel_rfl) (by kernel_rfl) (fun _ _ _ h => h) (by kernel_rfl) ?_
   refine any_skip 11 rfl (by kernel_rfl) (by kernel_rfl) (by kernel_rfl) (fun _ _ _ h => h) (by kernel_rfl) ?_
   refine any_skip 12 rfl (by kernel_rfl) (by kernel_rfl) (by kernel_rfl) (fun _ _ _ h => h) (by kernel_rfl) ?_
   refine any_skip 13 rfl (by kernel_rfl) (by kernel_rfl) (by kernel_rfl) (fun _ _ _ h => h) (by kernel_rfl) ?_
   refine any_skip 14 rfl (by kernel_rfl) (by kernel_rfl) (by kernel_rfl) (fun _ _ _ h => h) (by kernel_rfl) ?_
   refine any_skip 15 rfl (by kernel_rfl) (by kernel_rfl) (by kernel_rfl) (fun _ _ _ h => h) (by kernel_rfl) ?_
   refine any_skip 16 rfl (by kernel_rfl) (by kernel_rfl) (by kernel_rfl) (fun _ _ _ h => h) (by kernel_rfl) ?_
   refine any_skip 17 rfl (by kernel_rfl) (by kernel_rfl) (by kernel_rfl) (fun _ _ _ h => h) (by kernel_rfl) ?_
   refine wpAny_ready (rs := [18]) (by kernel_rfl) (by simp) ?_
   refine AllReady.cons rfl (fun K hK => ?_) AllReady.nil
   go_simp
   refine hK _ _ ?_; clear hK K
   refine wpAny_done (by kernel_rfl) ?_ _
   go_wp2_with fail
   go_meet
   exact ⟨true, rfl, Lib.hid (fun _ => HNO.out), Lib.hid (fun h => by cases h), ((Below.refl _ _).drew).trans HB1.out⟩
  ·rw [hen] at HEK
   by_cases hk : o.kind = 1
   ·have hk' : (o.kind == 1) = true := by simp [hk]
    by_cases hid : o.id = rowMade c.who (c.made + 1)
    ·have hid' : (o.id != rowMade c.who (c.made + 1)) = false := by simp [hid]
     have HYES : Hid (doS c o = (⟨c.who, c.seen, c.base, c.wait ++ [newEnt c o], c.done, if o.kind = 1 then c.made + 1 else c.made⟩, true)) := by show _ = _; unfold doS; rw [if_pos ⟨hen, fun _ => hid⟩]
     clear hen hk hid
     have E0 : W7.drew.cell? ⟨w.heap.size + 1, 0, none⟩ = some (.int .i64 o.kind) ∧ W7.drew.cell? ⟨w.heap.size + 1, 1, none⟩ = some (.int .i64 o.id) ∧ W7.drew.cell? ⟨w.heap.size + 1, 2, none⟩ = some (.int .i64 o.up) ∧ W7.drew.cell? ⟨w.heap.size + 1, 3, none⟩ = some (.int .i64 o.pos) ∧ W7.drew.cell? ⟨w.heap.size + 1, 4, none⟩ = some (.string o.text) ∧ W7.drew.cell? ⟨w.heap.size, 0, none⟩ = some (.int .i64 c.who) ∧ W7.drew.cell? ⟨w.heap.size, 1, none⟩ = some (.int .i64 c.seen) ∧ W7.drew.cell? ⟨w.heap.size, 2, none⟩ = some (.slice B1 c.base.length m1) ∧ W7.drew.cell? ⟨w.heap.size, 3, none⟩ = some (.slice B2 c.wait.length m2) ∧ W7.drew.cell? ⟨w.heap.size, 4, none⟩ = some (.int .i64 c.done) ∧ W7.drew.cell? ⟨w.heap.size, 5, none⟩ = some (.int .i64 c.made) ∧ W7.drew.cell? ⟨eb, 0, none⟩ = some (.int .i64 c.who) ∧ W7.drew.cell? ⟨eb, 1, none⟩ = some (.int .i64 (c.done + (c.wait.length : Int) + 1)) ∧ W7.drew.cell? ⟨eb, 2, none⟩ = some (.int .i64 o.kind) ∧ W7.drew.cell? ⟨eb, 3, none⟩ = some (.int .i64 o.id) ∧ W7.drew.cell? ⟨eb, 4, none⟩ = some (.int .i64 o.up) ∧ W7.drew.cell? ⟨eb, 5, none⟩ = some (.int .i64 o.pos) ∧ W7.drew.cell? ⟨eb, 6, none⟩ = some (.string o.text) := ⟨y0, y1, y2, y3, y4, x0, x1, x2, x3, x4, x5, e0, e1, e2, e3, e4, e5, e6⟩
     clear y0 y1 y2 y3 y4 x0 x1 x2 x3 x4 x5 e0 e1 e2 e3 e4 e5 e6 yf xf ef
     go_region_held3 (fun w' => w'.cell? ⟨w.heap.size + 1, 0, none⟩ = some (.int .i64 o.kind) ∧ w'.cell? ⟨w.heap.size + 1, 1, none⟩ = some (.int .i64 o.id) ∧ w'.cell? ⟨w.heap.size + 1, 2, none⟩ = some (.int .i64 o.up) ∧ w'.cell? ⟨w.heap.size + 1, 3, none⟩ = some (.int .i64 o.pos) ∧ w'.cell? ⟨w.heap.size + 1, 4, none⟩ = some (.string o.text) ∧ w'.cell? ⟨w.heap.size, 0, none⟩ = some (.int .i64 c.who) ∧ w'.cell? ⟨w.heap.size, 1, none⟩ = some (.int .i64 c.seen) ∧ w'.cell? ⟨w.heap.size, 2, none⟩ = some (.slice B1 c.base.length m1) ∧ w'.cell? ⟨w.heap.size, 3, none⟩ = some (.slice B2 c.wait.length m2) ∧ w'.cell? ⟨w.heap.size, 4, none⟩ = some (.int .i64 c.done) ∧ w'.cell? ⟨w.heap.size, 5, none⟩ = some (.int .i64 c.made) ∧ w'.cell? ⟨eb, 0, none⟩ = some (.int .i64 c.who) ∧ w'.cell? ⟨eb, 1, none⟩ = some (.int .i64 (c.done + (c.wait.length : Int) + 1)) ∧ w'.cell? ⟨eb, 2, none⟩ = some (.int .i64 o.kind) ∧ w'.cell? ⟨eb, 3, none⟩ = some (.int .i64 o.id) ∧ w'.cell? ⟨eb, 4, none⟩ = some (.int .i64 o.up) ∧ w'.cell? ⟨eb, 5, none⟩ = some (.int .i64 o.pos) ∧ w'.cell? ⟨eb, 6, none⟩ = some (.string o.text))
      (first | exact E1 | exact E0 | go_keep)
      (first
       |(go_at_call 32; refine HEK.out.mono ?_; rintro e w1 ⟨rfl, hb1⟩; obtain ⟨hc1, hf1⟩ := bcell hb1
         have E1 : w1.cell? ⟨w.heap.size + 1, 0, none⟩ = some (.int .i64 o.kind) ∧ w1.cell? ⟨w.heap.size + 1, 1, none⟩ = some (.int .i64 o.id) ∧ w1.cell? ⟨w.heap.size + 1, 2, none⟩ = some (.int .i64 o.up) ∧ w1.cell? ⟨w.heap.size + 1, 3, none⟩ = some (.int .i64 o.pos) ∧ w1.cell? ⟨w.heap.size + 1, 4, none⟩ = some (.string o.text) ∧ w1.cell? ⟨w.heap.size, 0, none⟩ = some (.int .i64 c.who) ∧ w1.cell? ⟨w.heap.size, 1, none⟩ = some (.int .i64 c.seen) ∧ w1.cell? ⟨w.heap.size, 2, none⟩ = some (.slice B1 c.base.length m1) ∧ w1.cell? ⟨w.heap.size, 3, none⟩ = some (.slice B2 c.wait.length m2) ∧ w1.cell? ⟨w.heap.size, 4, none⟩ = some (.int .i64 c.done) ∧ w1.cell? ⟨w.heap.size, 5, none⟩ = some (.int .i64 c.made) ∧ w1.cell? ⟨eb, 0, none⟩ = some (.int .i64 c.who) ∧ w1.cell? ⟨eb, 1, none⟩ = some (.int .i64 (c.done + (c.wait.length : Int) + 1)) ∧ w1.cell? ⟨eb, 2, none⟩ = some (.int .i64 o.kind) ∧ w1.cell? ⟨eb, 3, none⟩ = some (.int .i64 o.id) ∧ w1.cell? ⟨eb, 4, none⟩ = some (.int .i64 o.up) ∧ w1.cell? ⟨eb, 5, none⟩ = some (.int .i64 o.pos) ∧ w1.cell? ⟨eb, 6, none⟩ = some (.string o.text) := ⟨(hc1 _ _ hlt2).trans E0.1, (hc1 _ _ hlt2).trans E0.2.1, (hc1 _ _ hlt2).trans E0.2.2.1, (hc1 _ _ hlt2).trans E0.2.2.2.1, (hc1 _ _ hlt2).trans E0.2.2.2.2.1, (hc1 _ _ hlt1).trans E0.2.2.2.2.2.1, (hc1 _ _ hlt1).trans E0.2.2.2.2.2.2.1, (hc1 _ _ hlt1).trans E0.2.2.2.2.2.2.2.1, (hc1 _ _ hlt1).trans E0.2.2.2.2.2.2.2.2.1, (hc1 _ _ hlt1).trans E0.2.2.2.2.2.2.2.2.2.1, (hc1 _ _ hlt1).trans E0.2.2.2.2.2.2.2.2.2.2.1, (hc1 _ _ hpos).trans E0.2.2.2.2.2.2.2.2.2.2.2.1, (hc1 _ _ hpos).trans E0.2.2.2.2.2.2.2.2.2.2.2.2.1, (hc1 _ _ hpos).trans E0.2.2.2.2.2.2.2.2.2.2.2.2.2.1, (hc1 _ _ hpos).trans E0.2.2.2.2.2.2.2.2.2.2.2.2.2.2.1, (hc1 _ _ hpos).trans E0.2.2.2.2.2.2.2.2.2.2.2.2.2.2.2.1, (hc1 _ _ hpos).trans E0.2.2.2.2.2.2.2.2.2.2.2.2.2.2.2.2.1, (hc1 _ _ hpos).trans E0.2.2.2.2.2.2.2.2.2.2.2.2.2.2.2.2.2⟩
         have HB1 := Lib.hid hb1; clear hc1 hf1 hb1)
       |(go_at_call 71; refine (HRM.out _).mono ?_; rintro e w2 ⟨rfl, hw2⟩; rw [hw2]; clear hw2))
     go_wp2_with fail
     go_meet
     exact ⟨false, rfl, Lib.hid (fun h => by cases h), Lib.hid (fun _ => HYES.out), ((Below.refl _ _).drew).trans HB1.out⟩
    ·have hid' : (o.id != rowMade c.who (c.made + 1)) = true := by simp [hid]
     have HNO : Hid (doS c o = (c, false)) := by show _ = _; unfold doS; rw [if_neg (fun h => hid (h.2 hk))]
     clear hen hk hid
     have E0 : W7.drew.cell? ⟨w.heap.size + 1, 0, none⟩ = some (.int .i64 o.kind) ∧ W7.drew.cell? ⟨w.heap.size + 1, 1, none⟩ = some (.int .i64 o.id) ∧ W7.drew.cell? ⟨w.heap.size + 1, 2, none⟩ = some (.int .i64 o.up) ∧ W7.drew.cell? ⟨w.heap.size + 1, 3, none⟩ = some (.int .i64 o.pos) ∧ W7.drew.cell? ⟨w.heap.size + 1, 4, none⟩ = some (.string o.text) ∧ W7.drew.cell? ⟨w.heap.size, 0, none⟩ = some (.int .i64 c.who) ∧ W7.drew.cell? ⟨w.heap.size, 1, none⟩ = some (.int .i64 c.seen) ∧ W7.drew.cell? ⟨w.heap.size, 2, none⟩ = some (.slice B1 c.base.length m1) ∧ W7.drew.cell? ⟨w.heap.size, 3, none⟩ = some (.slice B2 c.wait.length m2) ∧ W7.drew.cell? ⟨w.heap.size, 4, none⟩ = some (.int .i64 c.done) ∧ W7.drew.cell? ⟨w.heap.size, 5, none⟩ = some (.int .i64 c.made) ∧ W7.drew.cell? ⟨eb, 0, none⟩ = some (.int .i64 c.who) ∧ W7.drew.cell? ⟨eb, 1, none⟩ = some (.int .i64 (c.done + (c.wait.length : Int) + 1)) ∧ W7.drew.cell? ⟨eb, 2, none⟩ = some (.int .i64 o.kind) ∧ W7.drew.cell? ⟨eb, 3, none⟩ = some (.int .i64 o.id) ∧ W7.drew.cell? ⟨eb, 4, none⟩ = some (.int .i64 o.up) ∧ W7.drew.cell? ⟨eb, 5, none⟩ = some (.int .i64 o.pos) ∧ W7.drew.cell? ⟨eb, 6, none⟩ = some (.string o.text) := ⟨y0, y1, y2, y3, y4, x0, x1, x2, x3, x4, x5, e0, e1, e2, e3, e4, e5, e6⟩
     clear y0 y1 y2 y3 y4 x0 x1 x2 x3 x4 x5 e0 e1 e2 e3 e4 e5 e6 yf xf ef
     go_region_held3 (fun w' => w'.cell? ⟨w.heap.size + 1, 0, none⟩ = some (.int .i64 o.kind) ∧ w'.cell? ⟨w.heap.size + 1, 1, none⟩ = some (.int .i64 o.id) ∧ w'.cell? ⟨w.heap.size + 1, 2, none⟩ = some (.int .i64 o.up) ∧ w'.cell? ⟨w.heap.size + 1, 3, none⟩ = some (.int .i64 o.pos) ∧ w'.cell? ⟨w.heap.size + 1, 4, none⟩ = some (.string o.text) ∧ w'.cell? ⟨w.heap.size, 0, none⟩ = some (.int .i64 c.who) ∧ w'.cell? ⟨w.heap.size, 1, none⟩ = some (.int .i64 c.seen) ∧ w'.cell? ⟨w.heap.size, 2, none⟩ = some (.slice B1 c.base.length m1) ∧ w'.cell? ⟨w.heap.size, 3, none⟩ = some (.slice B2 c.wait.length m2) ∧ w'.cell? ⟨w.heap.size, 4, none⟩ = some (.int .i64 c.done) ∧ w'.cell? ⟨w.heap.size, 5, none⟩ = some (.int .i64 c.made) ∧ w'.cell? ⟨eb, 0, none⟩ = some (.int .i64 c.who) ∧ w'.cell? ⟨eb, 1, none⟩ = some (.int .i64 (c.done + (c.wait.length : Int) + 1)) ∧ w'.cell? ⟨eb, 2, none⟩ = some (.int .i64 o.kind) ∧ w'.cell? ⟨eb, 3, none⟩ = some (.int .i64 o.id) ∧ w'.cell? ⟨eb, 4, none⟩ = some (.int .i64 o.up) ∧ w'.cell? ⟨eb, 5, none⟩ = some (.int .i64 o.pos) ∧ w'.cell? ⟨eb, 6, none⟩ = some (.string o.text))
      (first | exact E1 | exact E0 | go_keep)
      (first
       |(go_at_call 32; refine HEK.out.mono ?_; rintro e w1 ⟨rfl, hb1⟩; obtain ⟨hc1, hf1⟩ := bcell hb1
         have E1 : w1.cell? ⟨w.heap.size + 1, 0, none⟩ = some (.int .i64 o.kind) ∧ w1.cell? ⟨w.heap.size + 1, 1, none⟩ = some (.int .i64 o.id) ∧ w1.cell? ⟨w.heap.size + 1, 2, none⟩ = some (.int .i64 o.up) ∧ w1.cell? ⟨w.heap.size + 1, 3, none⟩ = some (.int .i64 o.pos) ∧ w1.cell? ⟨w.heap.size + 1, 4, none⟩ = some (.string o.text) ∧ w1.cell? ⟨w.heap.size, 0, none⟩ = some (.int .i64 c.who) ∧ w1.cell? ⟨w.heap.size, 1, none⟩ = some (.int .i64 c.seen) ∧ w1.cell? ⟨w.heap.size, 2, none⟩ = some (.slice B1 c.base.length m1) ∧ w1.cell? ⟨w.heap.size, 3, none⟩ = some (.slice B2 c.wait.length m2) ∧ w1.cell? ⟨w.heap.size, 4, none⟩ = some (.int .i64 c.done) ∧ w1.cell? ⟨w.heap.size, 5, none⟩ = some (.int .i64 c.made) ∧ w1.cell? ⟨eb, 0, none⟩ = some (.int .i64 c.who) ∧ w1.cell? ⟨eb, 1, none⟩ = some (.int .i64 (c.done + (c.wait.length : Int) + 1)) ∧ w1.cell? ⟨eb, 2, none⟩ = some (.int .i64 o.kind) ∧ w1.cell? ⟨eb, 3, none⟩ = some (.int .i64 o.id) ∧ w1.cell? ⟨eb, 4, none⟩ = some (.int .i64 o.up) ∧ w1.cell? ⟨eb, 5, none⟩ = some (.int .i64 o.pos) ∧ w1.cell? ⟨eb, 6, none⟩ = some (.string o.text) := ⟨(hc1 _ _ hlt2).trans E0.1, (hc1 _ _ hlt2).trans E0.2.1, (hc1 _ _ hlt2).trans E0.2.2.1, (hc1 _ _ hlt2).trans E0.2.2.2.1, (hc1 _ _ hlt2).trans E0.2.2.2.2.1, (hc1 _ _ hlt1).trans E0.2.2.2.2.2.1, (hc1 _ _ hlt1).trans E0.2.2.2.2.2.2.1, (hc1 _ _ hlt1).trans E0.2.2.2.2.2.2.2.1, (hc1 _ _ hlt1).trans E0.2.2.2.2.2.2.2.2.1, (hc1 _ _ hlt1).trans E0.2.2.2.2.2.2.2.2.2.1, (hc1 _ _ hlt1).trans E0.2.2.2.2.2.2.2.2.2.2.1, (hc1 _ _ hpos).trans E0.2.2.2.2.2.2.2.2.2.2.2.1, (hc1 _ _ hpos).trans E0.2.2.2.2.2.2.2.2.2.2.2.2.1, (hc1 _ _ hpos).trans E0.2.2.2.2.2.2.2.2.2.2.2.2.2.1, (hc1 _ _ hpos).trans E0.2.2.2.2.2.2.2.2.2.2.2.2.2.2.1, (hc1 _ _ hpos).trans E0.2.2.2.2.2.2.2.2.2.2.2.2.2.2.2.1, (hc1 _ _ hpos).trans E0.2.2.2.2.2.2.2.2.2.2.2.2.2.2.2.2.1, (hc1 _ _ hpos).trans E0.2.2.2.2.2.2.2.2.2.2.2.2.2.2.2.2.2⟩
         have HB1 := Lib.hid hb1; clear hc1 hf1 hb1)
       |(go_at_call 71; refine (HRM.out _).mono ?_; rintro e w2 ⟨rfl, hw2⟩; rw [hw2]; clear hw2))
     go_wp2_with fail
     go_meet
     exact ⟨true, rfl, Lib.hid (fun _ => HNO.out), Lib.hid (fun h => by cases h), ((Below.refl _ _).drew).trans HB1.out⟩
   ·have hk' : (o.kind == 1) = false := by simp [hk]
    have HYES : Hid (doS c o = (⟨c.who, c.seen, c.base, c.wait ++ [newEnt c o], c.done, if o.kind = 1 then c.made + 1 else c.made⟩, true)) := by show _ = _; unfold doS; rw [if_pos ⟨hen, fun h => absurd h hk⟩]
    clear hen hk
    refine wp_region_any (by kernel_rfl) ?_
    change wpAny _ _ _ _ _ _ _ (World.drew _)
    refine wpAny_ready (rs := [0]) (by kernel_rfl) (by simp) ?_
    refine AllReady.cons rfl (fun K hK => ?_) AllReady.nil
    go_simp
    refine hK _ _ ?_; clear hK K
    refine wpAny_ready (rs := [1]) (by kernel_rfl) (by simp) ?_
    refine AllReady.cons rfl (fun K hK => ?_) AllReady.nil
    go_simp
    go_wp2_with (go_at_call 32; refine HEK.out.mono ?_; rintro e w1 ⟨rfl, hb1⟩; obtain ⟨z0, z1, z2, z3, z4, zf⟩ := five_cells ((hb1.block (w.heap.size + 1) hlt2).trans HX2.out); have HB1 := Lib.hid hb1; clear hb1)
    refine wpAny_ready (rs := [2]) (by kernel_rfl) (by simp) ?_
    refine AllReady.cons rfl (fun K hK => ?_) AllReady.nil
    go_simp
    refine hK _ _ ?_; clear hK K
    refine wpAny_ready (rs := [3]) (by kernel_rfl) (by simp) ?_
    refine AllReady.cons rfl (fun K hK => ?_) AllReady.nil
    go_simp
    refine hK _ _ ?_; clear hK K
    refine wpAny_ready (rs := [4]) (by kernel_rfl) (by simp) ?_
    refine AllReady.cons rfl (fun K hK => ?_) AllReady.nil
    go_simp
    refine hK _ _ ?_; clear hK K
    refine wpAny_ready (rs := [5]) (by kernel_rfl) (by simp) ?_
    refine AllReady.cons rfl (fun K hK => ?_) AllReady.nil
    go_simp
    refine hK _ _ ?_; clear hK K
    refine wpAny_ready (rs := [6]) (by kernel_rfl) (by simp) ?_
    refine AllReady.cons rfl (fun K hK => ?_) AllReady.nil
    go_simp
    refine hK _ _ ?_; clear hK K
    refine wpAny_ready (rs := [7]) (by kernel_rfl) (by simp) ?_
    refine AllReady.cons rfl (fun K hK => ?_) AllReady.nil
    go_simp
    refine hK _ _ ?_; clear hK K
    refine any_skip 8 rfl (by kernel_rfl) (by kernel_rfl) (by kernel_rfl) (fun _ _ _ h => h) (by kernel_rfl) ?_
    refine any_skip 9 rfl (by kernel_rfl) (by kernel_rfl) (by kernel_rfl) (fun _ _ _ h => h) (by kernel_rfl) ?_
    refine any_skip 10 rfl (by kernel_rfl) (by kernel_rfl) (by kernel_rfl) (fun _ _ _ h => h) (by kernel_rfl) ?_
    refine any_skip 11 rfl (by kernel_rfl) (by kernel_rfl) (by kernel_rfl) (fun _ _ _ h => h) (by kernel_rfl) ?_
    refine any_skip 12 rfl (by kernel_rfl) (by kernel_rfl) (by kernel_rfl) (fun _ _ _ h => h) (by kernel_rfl) ?_
    refine any_skip 13 rfl (by kernel_rfl) (by kernel_rfl) (by kernel_rfl) (fun _ _ _ h => h) (by kernel_rfl) ?_
    refine any_skip 14 rfl (by kernel_rfl) (by kernel_rfl) (by kernel_rfl) (fun _ _ _ h => h) (by kernel_rfl) ?_
    refine any_skip 15 rfl (by kernel_rfl) (by kernel_rfl) (by kernel_rfl) (fun _ _ _ h => h) (by kernel_rfl) ?_
    refine any_skip 16 rfl (by kernel_rfl) (by kernel_rfl) (by kernel_rfl) (fun _ _ _ h => h) (by kernel_rfl) ?_
    refine wpAny_ready (rs := [17]) (by kernel_rfl) (by simp) ?_
    refine AllReady.cons rfl (fun K hK => ?_) AllReady.nil
    go_simp
    refine hK _ _ ?_; clear hK K
    refine wpAny_ready (rs := [18]) (by kernel_rfl) (by simp) ?_
    refine AllReady.cons rfl (fun K hK => ?_) AllReady.nil
    go_simp
    refine hK _ _ ?_; clear hK K
    refine wpAny_done (by kernel_rfl) ?_ _
    go_wp2_with fail
    go_meet
    exact ⟨false, rfl, Lib.hid (fun h => by cases h), Lib.hid (fun _ => HYES.out), ((Below.refl _ _).drew).trans HB1.out⟩
 case rest =>
  obtain ⟨z, rfl, HZT, HZF, HW⟩ := hcut
  have hx1 := (HW.out.block _ hlt1).trans HX1.out
  have HEc := Lib.hid (HE7.out.trans (HW.out.mono HE7.out.size))
  obtain ⟨x0, x1, x2, x3, x4, x5, xf⟩ := six_cells hx1
  clear hx1 HEK HRM
  cases z
  ·have hoc := HO27.out.below HW.out
   have hwc := HW.out.size
   have hAp := app_one el_ent hoc (newEnt c o) HOE.out (by omega) (by omega) #[.int .i64 c.who, .int .i64 (c.done + (c.wait.length : Int) + 1), .int .i64 o.kind, .int .i64 o.id, .int .i64 o.up, .int .i64 o.pos, .string o.text] rfl
   obtain ⟨va, w9, ra1, ra2, ra3⟩ := hAp
   obtain ⟨Bv, nv, hv9, -⟩ := ra2.rd
   rw [List.length_append, List.length_singleton] at hv9
   subst hv9
   have hb9 : Below w4.heap.size W6 w9 := hoc.over_one ((HB67.out.trans (HW.out.mono HB67.out.size)).mono (by omega)) ra3 (Nat.le_refl _) (by omega)
   have hx6 := HX6.out
   have hx1 := (hb9.block _ (by omega)).trans HX6.out.1; have hx2 := (hb9.block _ (by omega)).trans HX6.out.2.1; have hx3 := (hb9.block _ (by omega)).trans HX6.out.2.2
   have hal : Ext wc (wc.alloc (.cells #[.int .i64 c.who, .int .i64 (c.done + (c.wait.length : Int) + 1), .int .i64 o.kind, .int .i64 o.id, .int .i64 o.up, .int .i64 o.pos, .string o.text] 44)) := (Below.refl _ _).alloc (Nat.le_refl _) _
   have hr1 : RdT 47 w9 B1 m1 c.base := ((HO17.out.rdT.ext HW.out).ext hal).grownO ra3 (hoc.below hal) (by decide)
   have hE9 : Ext w w9 := HE6.out.trans (hb9.mono (by omega))
   obtain ⟨e0, e1, e2, e3, e4, e5, e6, ef⟩ := seven_cells ((HW.out.block _ hpos).trans HX4.out)
   obtain ⟨z0, z1, z2, z3, z4, z5, zf⟩ := six_cells hx1
   have HX1 := Lib.hid (set_at (i := 3) (v := .slice Bv (c.wait.length + 1) nv) hx1)
   have HX2 := Lib.hid (((setx (v := .slice Bv (c.wait.length + 1) nv) (o := 3) (show w.heap.size + 1 ≠ w.heap.size by omega))).trans hx2); have HX3 := Lib.hid (((setx (v := .slice Bv (c.wait.length + 1) nv) (o := 3) (show w.heap.size + 1 + 1 ≠ w.heap.size by omega))).trans hx3)
   have HR1 := Lib.hid (hr1.set hx1 (by decide) 3 (.slice Bv (c.wait.length + 1) nv)); have HR2 := Lib.hid (ra2.rdT.set hx1 (by decide) 3 (.slice Bv (c.wait.length + 1) nv)); have HE9 := Lib.hid (hE9.setCell (Nat.le_refl w.heap.size) (.slice Bv (c.wait.length + 1) nv) (p := ⟨w.heap.size, 3, none⟩))
   clear hx1 hx2 hx3 hal hr1 hE9 hb9 ra2 ra3 hoc hx6
   go_upto_region 8 with (at_builtin; refine wpList_append_run rfl _ _ _ rfl rfl rfl ra1 ?_)
   generalize (w9.setCell ⟨w.heap.size, 3, none⟩ (.slice Bv (c.wait.length + 1) nv)) = W10 at *
   clear x0 x1 x2 x3 x4 x5 xf e0 e1 e2 e3 e4 e5 e6 ef z0 z1 z2 z3 z4 z5 zf ra1
   obtain ⟨y0, y1, y2, y3, y4, yf⟩ := five_cells HX2.out
   obtain ⟨x0, x1, x2, x3, x4, x5, xf⟩ := six_cells HX1.out
   obtain ⟨d0, d1, d2, d3, d4, d5, df⟩ := six_cells HX3.out
   by_cases hk : o.kind = 1
   ·have hk' : (o.kind == 1) = true := by simp [hk]
    have HK := Lib.hid hk
    clear hk
    go_upto_region 10 with fail
    have hz9 := (setx (v := .int .i64 (c.made + 1)) (o := 5) (show w.heap.size + 1 + 1 ≠ w.heap.size by omega)).trans HX3.out
    have hx9 := set_at (i := 5) (v := .int .i64 (c.made + 1)) HX1.out
    have hr1 := HR1.out.set HX1.out (by decide) 5 (.int .i64 (c.made + 1))
    have hr2 := HR2.out.set HX1.out (by decide) 5 (.int .i64 (c.made + 1))
    have hE9 := HE9.out.setCell (Nat.le_refl w.heap.size) (.int .i64 (c.made + 1)) (p := ⟨w.heap.size, 5, none⟩)
    generalize (W10.setCell ⟨w.heap.size, 5, none⟩ (.int .i64 (c.made + 1))) = W11 at *
    clear x0 x1 x2 x3 x4 x5 xf y0 y1 y2 y3 y4 yf d0 d1 d2 d3 d4 d5 df
    obtain ⟨x0, x1, x2, x3, x4, x5, xf⟩ := six_cells hx9
    obtain ⟨d0, d1, d2, d3, d4, d5, df⟩ := six_cells hz9
    have hz := put6_at (.int .i64 c.who) (.int .i64 c.seen) (.slice B1 c.base.length m1) (.slice Bv (c.wait.length + 1) nv) (.int .i64 c.done) (.int .i64 (c.made + 1)) hz9
    have hE := put6_below (.int .i64 c.who) (.int .i64 c.seen) (.slice B1 c.base.length m1) (.slice Bv (c.wait.length + 1) nv) (.int .i64 c.done) (.int .i64 (c.made + 1)) hE9 (show w.heap.size ≤ w.heap.size + 1 + 1 from by omega)
    have HZ := Lib.hid hz; have HE := Lib.hid hE; have HQ9 := Lib.hid ((hr2).put6 hz9 (by decide) (.int .i64 c.who) (.int .i64 c.seen) (.slice B1 c.base.length m1) (.slice Bv (c.wait.length + 1) nv) (.int .i64 c.done) (.int .i64 (c.made + 1))); have HR9 := Lib.hid ((hr1).put6 hz9 (by decide) (.int .i64 c.who) (.int .i64 c.seen) (.slice B1 c.base.length m1) (.slice Bv (c.wait.length + 1) nv) (.int .i64 c.done) (.int .i64 (c.made + 1)))
    have HY := Lib.hid ((by rw [HRes.out, HZF.out (by first | trivial | rfl), if_pos HK.out] : clientDo c o = (⟨c.who, c.seen, c.base, c.wait ++ [newEnt c o], c.done, c.made + 1⟩, true)))
    clear hz hE
    go_wp2_with fail
    obtain ⟨k0, k1, k2, k3, k4, k5, kf⟩ := six_cells HZ.out
    refine bodyPost_ret (v := .tuple #[.agg #[.int .i64 c.who, .int .i64 c.seen, .slice B1 c.base.length m1, .slice Bv (c.wait.length + 1) nv, .int .i64 c.done, .int .i64 (c.made + 1)], .bool true]) ?_ rfl ?_
    ·simp [results, Tryd.f35, go_sem, k0, k1, k2, k3, k4, k5]
    ·exact ⟨_, by rw [HY.out], by rw [HY.out]; exact CT.cv ⟨B1, m1, Bv, nv, by simp only [List.length_append, List.length_singleton], HR9.out, HQ9.out⟩, HE.out⟩
   ·have hk' : (o.kind == 1) = false := by simp [hk]
    have HK := Lib.hid hk
    clear hk
    have hz9 := HX3.out
    have hz := put6_at (.int .i64 c.who) (.int .i64 c.seen) (.slice B1 c.base.length m1) (.slice Bv (c.wait.length + 1) nv) (.int .i64 c.done) (.int .i64 c.made) hz9
    have hE := put6_below (.int .i64 c.who) (.int .i64 c.seen) (.slice B1 c.base.length m1) (.slice Bv (c.wait.length + 1) nv) (.int .i64 c.done) (.int .i64 c.made) HE9.out (show w.heap.size ≤ w.heap.size + 1 + 1 from by omega)
    have HZ := Lib.hid hz; have HE := Lib.hid hE; have HQ9 := Lib.hid ((HR2.out).put6 hz9 (by decide) (.int .i64 c.who) (.int .i64 c.seen) (.slice B1 c.base.length m1) (.slice Bv (c.wait.length + 1) nv) (.int .i64 c.done) (.int .i64 c.made)); have HR9 := Lib.hid ((HR1.out).put6 hz9 (by decide) (.int .i64 c.who) (.int .i64 c.seen) (.slice B1 c.base.length m1) (.slice Bv (c.wait.length + 1) nv) (.int .i64 c.done) (.int .i64 c.made))
    have HY := Lib.hid ((by rw [HRes.out, HZF.out (by first | trivial | rfl), if_neg HK.out] : clientDo c o = (⟨c.who, c.seen, c.base, c.wait ++ [newEnt c o], c.done, c.made⟩, true)))
    clear hz hE
    go_wp2_with fail
    obtain ⟨k0, k1, k2, k3, k4, k5, kf⟩ := six_cells HZ.out
    refine bodyPost_ret (v := .tuple #[.agg #[.int .i64 c.who, .int .i64 c.seen, .slice B1 c.base.length m1, .slice Bv (c.wait.length + 1) nv, .int .i64 c.done, .int .i64 c.made], .bool true]) ?_ rfl ?_
    ·simp [results, Tryd.f35, go_sem, k0, k1, k2, k3, k4, k5]
    ·exact ⟨_, by rw [HY.out], by rw [HY.out]; exact CT.cv ⟨B1, m1, Bv, nv, by simp only [List.length_append, List.length_singleton], HR9.out, HQ9.out⟩, HE.out⟩
  ·have hz3 := (HW.out.block _ hlt3).trans HX3.out
   obtain ⟨d0, d1, d2, d3, d4, d5, df⟩ := six_cells hz3
   have hz := put6_at (.int .i64 c.who) (.int .i64 c.seen) (.slice B1 c.base.length m1) (.slice B2 c.wait.length m2) (.int .i64 c.done) (.int .i64 c.made) hz3
   have hE := put6_below (.int .i64 c.who) (.int .i64 c.seen) (.slice B1 c.base.length m1) (.slice B2 c.wait.length m2) (.int .i64 c.done) (.int .i64 c.made) HEc.out (show w.heap.size ≤ w.heap.size + 1 + 1 from by omega)
   have HZ := Lib.hid hz; have HE := Lib.hid hE; have HR9 := Lib.hid ((HO17.out.rdT.ext HW.out).put6 hz3 (by decide) (.int .i64 c.who) (.int .i64 c.seen) (.slice B1 c.base.length m1) (.slice B2 c.wait.length m2) (.int .i64 c.done) (.int .i64 c.made)); have HQ9 := Lib.hid ((HO27.out.rdT.ext HW.out).put6 hz3 (by decide) (.int .i64 c.who) (.int .i64 c.seen) (.slice B1 c.base.length m1) (.slice B2 c.wait.length m2) (.int .i64 c.done) (.int .i64 c.made))
   clear hz3 hz hE
   go_wp2_with fail
   obtain ⟨k0, k1, k2, k3, k4, k5, kf⟩ := six_cells HZ.out
   refine bodyPost_ret (v := .tuple #[.agg (cC c B1 m1 B2 m2), .bool false]) ?_ rfl ?_
   ·simp [results, Tryd.f35, go_sem, k0, k1, k2, k3, k4, k5]
   ·exact ⟨_, by rw [HRes.out, HZT.out (by first | trivial | rfl)], by rw [HRes.out, HZT.out (by first | trivial | rfl)]; exact CT.cv ⟨_, _, _, _, rfl, HR9.out, HQ9.out⟩, HE.out⟩
end Go.Proofs.YtjhbbgeebobcpaaDoor
