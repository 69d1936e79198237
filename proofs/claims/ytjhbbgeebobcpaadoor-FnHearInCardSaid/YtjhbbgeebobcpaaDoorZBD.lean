/- Plain laws: hearing in parts, and twice. .. The walk of laws.FnHearTwice, over what is drawn. -/
import Derived.Test.YtjhbbgeebobcpaaDoorZBC
import Derived.Test.YtjhbbgeebobcpaaDoorZAM
import Derived.Test.YtjhbbgeebobcpaaDoorZAI
import Derived.Test.YtjhbbgeebobcpaaDoorZAJ
import Derived.Test.YtjhbbgeebobcpaaDoorZAL
namespace Go.Proofs.YtjhbbgeebobcpaaDoor
open Go.RowKit
set_option linter.unusedVariables false
theorem clientHear_of {c : Client} {frm : Int} {l q : List Entry} {t : List Row} {d n : Int} (hok : clientOk c = true) (h0 : 0 ≤ frm) (h1 : frm ≤ 40) (hall : ∀ e ∈ l, entryOk e = true) (hf : frm ≤ c.seen) (hl : frm + l.length ≤ 40) (hh : hearL c.who (l.drop (c.seen - frm).toNat) c.wait c.base c.done c.seen = some (q, t, d, n)) :
  clientHear c frm l = (⟨c.who, n, t, q, d, c.made⟩, true) := by
 rw [clientHear_S c frm l hok h0 h1 hall]
 unfold hearS
 rw [if_neg (by omega), hh]
theorem hear_parts {c : Client} {frm : Int} {l : List Entry} (h : (clientHear c frm l).2 = true) :
  (clientHear c frm l).1 = ⟨c.who, max c.seen (frm + l.length), runOps c.base (l.drop (c.seen - frm).toNat), c.wait.drop (ownN c.who (l.drop (c.seen - frm).toNat)), c.done + ownN c.who (l.drop (c.seen - frm).toNat), c.made⟩ ∧ ownN c.who (l.drop (c.seen - frm).toNat) ≤ c.wait.length ∧ clientOk (clientHear c frm l).1 = true := by
 obtain ⟨hok, h0, h1, hall, hf, hl, q, t, d, n, hh, he⟩ := clientHear_true h
 obtain ⟨a1, a2, a3, a4, a5⟩ := hearL_some _ _ _ _ _ _ _ _ _ _ hh
 have hk : clientOk (clientHear c frm l).1 = true := by rw [clientHear_S c frm l hok h0 h1 hall]; exact hearS_ok hok h0 hall
 refine ⟨?_, a2, hk⟩
 rw [he, a1, a3, a4, a5, List.length_drop]
 simp only [Client.mk.injEq, true_and, and_true]
 omega
theorem hear_twice {c : Client} {frm : Int} {l : List Entry} (h : (clientHear c frm l).2 = true) : clientHear (clientHear c frm l).1 frm l = ((clientHear c frm l).1, true) := by
 obtain ⟨hp, -, hk⟩ := hear_parts h
 obtain ⟨hok, h0, h1, hall, hf, hl, _⟩ := clientHear_true h
 generalize hx : (clientHear c frm l).1 = x at hp hk
 have hs : x.seen = max c.seen (frm + l.length) := by rw [hp]
 have hd : l.drop (x.seen - frm).toNat = [] := List.drop_of_length_le (by omega)
 rw [clientHear_of (q := x.wait) (t := x.base) (d := x.done) (n := x.seen) hk h0 h1 hall (by omega) hl (by rw [hd]; rfl)]
theorem hear_cut {c : Client} {frm : Int} {l : List Entry} (h : (clientHear c frm l).2 = true) (k : Nat) (hkl : k ≤ l.length) :
  (clientHear c frm (l.take k)).2 = true ∧ clientHear (clientHear c frm (l.take k)).1 (frm + k) (l.drop k) = clientHear c frm l := by
 obtain ⟨hok, h0, h1, hall, hf, hl, q, t, d, n, hh, he⟩ := clientHear_true h
 have hlk : (l.take k).length = k := by rw [List.length_take]; omega
 have hld : (l.drop k).length = l.length - k := List.length_drop
 have hs40 := (clientOk_parts hok).2.2.1
 have hall1 : ∀ e ∈ l.take k, entryOk e = true := fun e he => hall e (List.mem_of_mem_take he)
 have hall2 : ∀ e ∈ l.drop k, entryOk e = true := fun e he => hall e (List.mem_of_mem_drop he)
 obtain ⟨j, hj⟩ : ∃ j : Nat, j = (c.seen - frm).toNat := ⟨_, rfl⟩
 rw [← hj] at hh
 have hsplit : l.drop j = (l.take k).drop j ++ (l.drop k).drop (j - k) := by
  have h9 := List.drop_append (l₁ := l.take k) (l₂ := l.drop k) (i := j)
  rw [List.take_append_drop, hlk] at h9
  exact h9
 rw [hsplit, hearL_append] at hh
 cases h1' : hearL c.who ((l.take k).drop j) c.wait c.base c.done c.seen with
 |none => rw [h1'] at hh; cases hh
 |some p =>
  obtain ⟨q1, t1, d1, n1⟩ := p
  rw [h1'] at hh
  simp only [Option.bind_some] at hh
  have e1 := clientHear_of (frm := frm) (l := l.take k) (q := q1) (t := t1) (d := d1) (n := n1) hok h0 h1 hall1 hf (by omega) (by rw [← hj]; exact h1')
  have hk1 : clientOk (clientHear c frm (l.take k)).1 = true := by rw [clientHear_S c frm (l.take k) hok h0 h1 hall1]; exact hearS_ok hok h0 hall1
  rw [e1] at hk1 ⊢
  refine ⟨rfl, ?_⟩
  have hn1 : n1 = c.seen + ((l.take k).drop j).length := (hearL_some _ _ _ _ _ _ _ _ _ _ h1').2.2.2.2
  rw [List.length_drop, hlk] at hn1
  rw [he]
  have hjn : (n1 - (frm + k)).toNat = j - k := by omega
  exact clientHear_of (c := ⟨c.who, n1, t1, q1, d1, c.made⟩) hk1 (by omega) (by omega) hall2 (by show frm + k ≤ n1; omega) (by omega) (by show hearL c.who ((l.drop k).drop (n1 - (frm + k)).toNat) q1 t1 d1 n1 = _; rw [hjn]; exact hh)
open Go.RowKit
theorem row_ext {a b : Row} (h1 : a.id = b.id) (h2 : a.depth = b.depth) (h3 : a.text.toList = b.text.toList) : a = b := by
 obtain ⟨i1, d1, t1⟩ := a
 obtain ⟨i2, d2, t2⟩ := b
 simp only at h1 h2 h3
 have h8 := toList_inj h3
 subst h1 h2 h8; rfl
theorem neq_row (a b : Row) (W : World) : (binOp .neq 47 (.agg #[.int .i64 a.id, .int .i64 a.depth, .string a.text]) (.agg #[.int .i64 b.id, .int .i64 b.depth, .string b.text])).run Tryd.prog W = .ok (.bool (!decide (a = b))) W := by
 have u1 := Tryd.underlying47
 by_cases h : a = b
 ·subst h
  go_simp
 ·rw [decide_eq_false h]
  go_simp
  by_cases e1 : a.id = b.id
  ·by_cases e2 : a.depth = b.depth
   ·have e7 : ¬ a.text.toList = b.text.toList := fun e7 => h (row_ext e1 e2 e7)
    simp [e1, e2, e7]
   ·simp [e1, e2]
  ·simp [e1]
set_option maxRecDepth 100000 in
set_option maxHeartbeats 1000000 in
theorem lpRows_c (A : Option Addr) (c : Nat) (a : List Row) (A' : Option Addr) (c' : Nat) (b : List Row) (w : World) (hr : Rd w A c a) (hr' : Rd w A' c' b) :
  Calls Tryd.prog 14 #[.slice A a.length c, .slice A' b.length c'] w fun e w' => e = .returned (.bool (decide (a = b))) ∧ ∃ n, w' = w.drewN n := by
 have hm : a.length ≤ maxLen := Nat.le_trans hr.1 hr.2.1
 unfold maxLen at hm
 have HR := Lib.hid hr; have HR' := Lib.hid hr'
 clear hr hr'
 by_cases hl : a.length = b.length
 ·have hl' : ((a.length : Int) != b.length) = false := by simp [hl]
  have HL := Lib.hid hl
  have hml : b.length ≤ 9223372036854775807 := by omega
  clear hl
  go_enter Tryd.func14, Tryd.ntmps14
  go_wp2_with fail
  go_loopg [5] a.length (fun gk i wr => ∃ (k n : Nat), wr = w.drewN n ∧ k ≤ a.length ∧ Hid (gk = a.length - k) ∧ i = .int .i64 k ∧ Hid (∀ j (h : j < a.length) (h' : j < b.length), j < k → a[j] = b[j]))
  case atStart => exact ⟨0, 0, rfl, Nat.zero_le _, rfl, rfl, fun j _ _ h => by omega⟩
  case round =>
   obtain ⟨k, n, rfl, hk, HK, rfl, HA⟩ := hrel
   by_cases hlt : k < a.length
   ·have hltb : k < b.length := by have := HL.out; omega
    obtain ⟨b1, o1, rfl, -, c0, c1, c2⟩ := row_at HR.out k hlt
    obtain ⟨b2, o2, rfl, -, d0, d1, d2⟩ := row_at HR'.out k hltb
    have hlt' : (k : Int) < a.length := by omega
    have hltb' : (k : Int) < b.length := by omega
    have hq := neq_row a[k] b[k]
    by_cases he : a[k] = b[k]
    ·rw [decide_eq_true he] at hq
     have HN : Hid (∀ j (h : j < a.length) (h' : j < b.length), j < k + 1 → a[j] = b[j]) := fun j h h' hj => by
      by_cases e : j = k
      ·subst e; exact he
      ·exact HA.out j h h' (by omega)
     clear he
     go_wp2_with fail
     go_quiet (fail)
     go_wp2_with fail
     go_roundg (a.length - (k + 1))
     case measure => have := HK.out; omega
     case rel => exact ⟨k + 1, _, rfl, by omega, rfl, by go_num, HN.out⟩
    ·rw [decide_eq_false he] at hq
     have HX : Hid (decide (a = b) = false) := by show _ = _; rw [decide_eq_false]; intro e; subst e; exact he rfl
     clear he
     go_wp2_with fail
     go_quiet (fail)
     go_wp2_with fail
     go_ret
     exact ⟨by rw [HX.out]; rfl, _, by rw [World.drewN_drewN]⟩
   ·have HX : Hid (decide (a = b) = true) := by
     show _ = _
     rw [decide_eq_true]
     exact List.ext_getElem HL.out (fun j h h' => HA.out j h h' (by omega))
    go_wp2_with fail
    go_ret
    exact ⟨by rw [HX.out]; rfl, _, rfl⟩
 ·have hl' : ((a.length : Int) != b.length) = true := by simp; omega
  have HX : Hid (decide (a = b) = false) := by show _ = _; rw [decide_eq_false]; intro e; exact hl (by rw [e])
  clear hl
  go_enter Tryd.func14, Tryd.ntmps14
  go_wp2_with fail
  go_ret
  exact ⟨by rw [HX.out]; rfl, 0, rfl⟩
set_option maxRecDepth 100000 in
set_option maxHeartbeats 1000000 in
theorem lpLog_c (A : Option Addr) (c : Nat) (a : List Entry) (A' : Option Addr) (c' : Nat) (b : List Entry) (w : World) (hr : Rd w A c a) (hr' : Rd w A' c' b) :
  Calls Tryd.prog 30 #[.slice A a.length c, .slice A' b.length c'] w fun e w' => e = .returned (.bool (decide (a = b))) ∧ ∃ n, w' = w.drewN n := by
 have hm : a.length ≤ maxLen := Nat.le_trans hr.1 hr.2.1
 unfold maxLen at hm
 have HR := Lib.hid hr; have HR' := Lib.hid hr'
 clear hr hr'
 by_cases hl : a.length = b.length
 ·have hl' : ((a.length : Int) != b.length) = false := by simp [hl]
  have HL := Lib.hid hl
  have hml : b.length ≤ 9223372036854775807 := by omega
  clear hl
  go_enter Tryd.func30, Tryd.ntmps30
  go_wp2_with fail
  go_loopg [5] a.length (fun gk i wr => ∃ (k n : Nat), wr = w.drewN n ∧ k ≤ a.length ∧ Hid (gk = a.length - k) ∧ i = .int .i64 k ∧ Hid (∀ j (h : j < a.length) (h' : j < b.length), j < k → a[j] = b[j]))
  case atStart => exact ⟨0, 0, rfl, Nat.zero_le _, rfl, rfl, fun j _ _ h => by omega⟩
  case round =>
   obtain ⟨k, n, rfl, hk, HK, rfl, HA⟩ := hrel
   by_cases hlt : k < a.length
   ·have hltb : k < b.length := by have := HL.out; omega
    obtain ⟨b1, o1, rfl, -, c0, c1, c2, c3, c4, c5, c6⟩ := ent_at HR.out k hlt
    obtain ⟨b2, o2, rfl, -, d0, d1, d2, d3, d4, d5, d6⟩ := ent_at HR'.out k hltb
    have hlt' : (k : Int) < a.length := by omega
    have hltb' : (k : Int) < b.length := by omega
    have hq := neq_ent a[k] b[k]
    by_cases he : a[k] = b[k]
    ·rw [decide_eq_true he] at hq
     have HN : Hid (∀ j (h : j < a.length) (h' : j < b.length), j < k + 1 → a[j] = b[j]) := fun j h h' hj => by
      by_cases e : j = k
      ·subst e; exact he
      ·exact HA.out j h h' (by omega)
     clear he
     go_wp2_with fail
     go_quiet (fail)
     go_wp2_with fail
     go_roundg (a.length - (k + 1))
     case measure => have := HK.out; omega
     case rel => exact ⟨k + 1, _, rfl, by omega, rfl, by go_num, HN.out⟩
    ·rw [decide_eq_false he] at hq
     have HX : Hid (decide (a = b) = false) := by show _ = _; rw [decide_eq_false]; intro e; subst e; exact he rfl
     clear he
     go_wp2_with fail
     go_quiet (fail)
     go_wp2_with fail
     go_ret
     exact ⟨by rw [HX.out]; rfl, _, by rw [World.drewN_drewN]⟩
   ·have HX : Hid (decide (a = b) = true) := by
     show _ = _
     rw [decide_eq_true]
     exact List.ext_getElem HL.out (fun j h h' => HA.out j h h' (by omega))
    go_wp2_with fail
    go_ret
    exact ⟨by rw [HX.out]; rfl, _, rfl⟩
 ·have hl' : ((a.length : Int) != b.length) = true := by simp; omega
  have HX : Hid (decide (a = b) = false) := by show _ = _; rw [decide_eq_false]; intro e; exact hl (by rw [e])
  clear hl
  go_enter Tryd.func30, Tryd.ntmps30
  go_wp2_with fail
  go_ret
  exact ⟨by rw [HX.out]; rfl, 0, rfl⟩
open Go.RowKit
def clientEq (c d : Client) : Bool := decide (c.who = d.who) && (decide (c.seen = d.seen) && (decide (c.base = d.base) && (decide (c.wait = d.wait) && (decide (c.done = d.done) && decide (c.made = d.made)))))
theorem clientEq_refl (c : Client) : clientEq c c = true := by simp [clientEq]
theorem clientEq_iff (c d : Client) : clientEq c d = true ↔ c = d := by
 obtain ⟨a1, a2, a3, a4, a5, a6⟩ := c
 obtain ⟨b1, b2, b3, b4, b5, b6⟩ := d
 simp [clientEq]
set_option maxRecDepth 100000 in
set_option maxHeartbeats 4000000 in
theorem lpClient_c (c d : Client) (v v' : Value) (w : World) (h : CV w c v) (h' : CV w d v') :
  Calls Tryd.prog 20 #[v, v'] w fun e w' => e = .returned (.bool (clientEq c d)) ∧ Ext w w' := by
 obtain ⟨A1, n1, A2, n2, rfl, h1, h2⟩ := h
 obtain ⟨B1, m1, B2, m2, rfl, g1, g2⟩ := h'
 have hX := two_new w (oC c A1 n1 A2 n2) (oC d B1 m1 B2 m2)
 have hE0 : Ext w ((w.alloc (oC c A1 n1 A2 n2)).alloc (oC d B1 m1 B2 m2)) := ((Below.refl _ w).alloc (Nat.le_refl _) _).alloc (by rw [alloc_sz]; omega) _
 have HRW := Lib.hid (fun W => lpRows_c A1 n1 c.base B1 m1 d.base W)
 have HLW := Lib.hid (fun W => lpLog_c A2 n2 c.wait B2 m2 d.wait W)
 have HE0 := Lib.hid hE0; have HX := Lib.hid hX
 have H1 := Lib.hid h1; have H2 := Lib.hid h2; have G1 := Lib.hid g1; have G2 := Lib.hid g2
 have HK : Hid (clientEq c d = (decide (c.who = d.who) && (decide (c.seen = d.seen) && (decide (c.base = d.base) && (decide (c.wait = d.wait) && (decide (c.done = d.done) && decide (c.made = d.made))))))) := rfl
 clear hX hE0 h1 h2 g1 g2
 by_cases k0 : c.who = d.who
 rotate_left
 ·rw [decide_eq_false k0] at HK
  have kb0 : (c.who == d.who) = false := by simp [k0]
  have HK : Hid (clientEq c d = false) := by show _ = _; rw [HK.out]; simp
  clear k0
  go_enter Tryd.func20, Tryd.ntmps20
  go_wp2_with fail
  go_ret
  exact ⟨by rw [HK.out]; rfl, HE0.out⟩
 rw [decide_eq_true k0] at HK
 have kb0 : (c.who == d.who) = true := by simp [k0]
 clear k0
 by_cases k1 : c.seen = d.seen
 rotate_left
 ·rw [decide_eq_false k1] at HK
  have kb1 : (c.seen == d.seen) = false := by simp [k1]
  have HK : Hid (clientEq c d = false) := by show _ = _; rw [HK.out]; simp
  clear k1
  go_enter Tryd.func20, Tryd.ntmps20
  go_wp2_with fail
  go_ret
  exact ⟨by rw [HK.out]; rfl, HE0.out⟩
 rw [decide_eq_true k1] at HK
 have kb1 : (c.seen == d.seen) = true := by simp [k1]
 clear k1
 by_cases k2 : c.base = d.base
 rotate_left
 ·rw [decide_eq_false k2] at HK
  simp only [decide_eq_false k2] at HRW
  have HK : Hid (clientEq c d = false) := by show _ = _; rw [HK.out]; simp
  clear k2
  go_enter Tryd.func20, Tryd.ntmps20
  go_wp2_with fail
  refine (HRW.out _ (H1.out.ext HE0.out) (G1.out.ext HE0.out)).mono ?_; rintro e w1 ⟨rfl, q1, hw1⟩
  have hE1 : Ext w w1 := by rw [hw1]; exact Ext.drewN HE0.out _
  have hc1 := six_cells (W := w1) (by rw [hw1]; exact HX.out.1)
  have hd1 := six_cells (W := w1) (by rw [hw1]; exact HX.out.2)
  obtain ⟨c0, c1, c2, c3, c4, c5, cf⟩ := hc1
  obtain ⟨d0, d1, d2, d3, d4, d5, df⟩ := hd1
  have HE1 := Lib.hid hE1; have HX1 := Lib.hid (show w1.heap[w.heap.size]? = some (.cells (cC c A1 n1 A2 n2) 30 (0, 0)) ∧ w1.heap[w.heap.size + 1]? = some (.cells (cC d B1 m1 B2 m2) 30 (0, 0)) by rw [hw1]; exact HX.out)
  clear hw1 hE1
  go_wp2_with fail
  go_ret
  exact ⟨by rw [HK.out]; rfl, HE1.out⟩
 rw [decide_eq_true k2] at HK
 simp only [decide_eq_true k2] at HRW
 clear k2
 by_cases k3 : c.wait = d.wait
 rotate_left
 ·rw [decide_eq_false k3] at HK
  simp only [decide_eq_false k3] at HLW
  have HK : Hid (clientEq c d = false) := by show _ = _; rw [HK.out]; simp
  clear k3
  go_enter Tryd.func20, Tryd.ntmps20
  go_wp2_with fail
  refine (HRW.out _ (H1.out.ext HE0.out) (G1.out.ext HE0.out)).mono ?_; rintro e w1 ⟨rfl, q1, hw1⟩
  have hE1 : Ext w w1 := by rw [hw1]; exact Ext.drewN HE0.out _
  have hc1 := six_cells (W := w1) (by rw [hw1]; exact HX.out.1)
  have hd1 := six_cells (W := w1) (by rw [hw1]; exact HX.out.2)
  obtain ⟨c0, c1, c2, c3, c4, c5, cf⟩ := hc1
  obtain ⟨d0, d1, d2, d3, d4, d5, df⟩ := hd1
  have HE1 := Lib.hid hE1; have HX1 := Lib.hid (show w1.heap[w.heap.size]? = some (.cells (cC c A1 n1 A2 n2) 30 (0, 0)) ∧ w1.heap[w.heap.size + 1]? = some (.cells (cC d B1 m1 B2 m2) 30 (0, 0)) by rw [hw1]; exact HX.out)
  clear hw1 hE1
  go_wp2_with fail
  refine (HLW.out _ (H2.out.ext HE1.out) (G2.out.ext HE1.out)).mono ?_; rintro e w2 ⟨rfl, q2, hw2⟩
  have hE2 : Ext w w2 := by rw [hw2]; exact Ext.drewN HE1.out _
  have hc2 := six_cells (W := w2) (by rw [hw2]; exact HX1.out.1)
  have hd2 := six_cells (W := w2) (by rw [hw2]; exact HX1.out.2)
  clear c0 c1 c2 c3 c4 c5 cf d0 d1 d2 d3 d4 d5 df
  obtain ⟨c0, c1, c2, c3, c4, c5, cf⟩ := hc2
  obtain ⟨d0, d1, d2, d3, d4, d5, df⟩ := hd2
  have HE2 := Lib.hid hE2
  clear hw2 hE2
  go_wp2_with fail
  go_ret
  exact ⟨by rw [HK.out]; rfl, HE2.out⟩
 rw [decide_eq_true k3] at HK
 simp only [decide_eq_true k3] at HLW
 clear k3
 by_cases k4 : c.done = d.done
 rotate_left
 ·rw [decide_eq_false k4] at HK
  have kb4 : (c.done == d.done) = false := by simp [k4]
  have HK : Hid (clientEq c d = false) := by show _ = _; rw [HK.out]; simp
  clear k4
  go_enter Tryd.func20, Tryd.ntmps20
  go_wp2_with fail
  refine (HRW.out _ (H1.out.ext HE0.out) (G1.out.ext HE0.out)).mono ?_; rintro e w1 ⟨rfl, q1, hw1⟩
  have hE1 : Ext w w1 := by rw [hw1]; exact Ext.drewN HE0.out _
  have hc1 := six_cells (W := w1) (by rw [hw1]; exact HX.out.1)
  have hd1 := six_cells (W := w1) (by rw [hw1]; exact HX.out.2)
  obtain ⟨c0, c1, c2, c3, c4, c5, cf⟩ := hc1
  obtain ⟨d0, d1, d2, d3, d4, d5, df⟩ := hd1
  have HE1 := Lib.hid hE1; have HX1 := Lib.hid (show w1.heap[w.heap.size]? = some (.cells (cC c A1 n1 A2 n2) 30 (0, 0)) ∧ w1.heap[w.heap.size + 1]? = some (.cells (cC d B1 m1 B2 m2) 30 (0, 0)) by rw [hw1]; exact HX.out)
  clear hw1 hE1
  go_wp2_with fail
  refine (HLW.out _ (H2.out.ext HE1.out) (G2.out.ext HE1.out)).mono ?_; rintro e w2 ⟨rfl, q2, hw2⟩
  have hE2 : Ext w w2 := by rw [hw2]; exact Ext.drewN HE1.out _
  have hc2 := six_cells (W := w2) (by rw [hw2]; exact HX1.out.1)
  have hd2 := six_cells (W := w2) (by rw [hw2]; exact HX1.out.2)
  clear c0 c1 c2 c3 c4 c5 cf d0 d1 d2 d3 d4 d5 df
  obtain ⟨c0, c1, c2, c3, c4, c5, cf⟩ := hc2
  obtain ⟨d0, d1, d2, d3, d4, d5, df⟩ := hd2
  have HE2 := Lib.hid hE2
  clear hw2 hE2
  go_wp2_with fail
  go_ret
  exact ⟨by rw [HK.out]; rfl, HE2.out⟩
 rw [decide_eq_true k4] at HK
 have kb4 : (c.done == d.done) = true := by simp [k4]
 clear k4
 by_cases k5 : c.made = d.made
 rotate_left
 ·rw [decide_eq_false k5] at HK
  have kb5 : (c.made == d.made) = false := by simp [k5]
  have HK : Hid (clientEq c d = false) := by show _ = _; rw [HK.out]; simp
  clear k5
  go_enter Tryd.func20, Tryd.ntmps20
  go_wp2_with fail
  refine (HRW.out _ (H1.out.ext HE0.out) (G1.out.ext HE0.out)).mono ?_; rintro e w1 ⟨rfl, q1, hw1⟩
  have hE1 : Ext w w1 := by rw [hw1]; exact Ext.drewN HE0.out _
  have hc1 := six_cells (W := w1) (by rw [hw1]; exact HX.out.1)
  have hd1 := six_cells (W := w1) (by rw [hw1]; exact HX.out.2)
  obtain ⟨c0, c1, c2, c3, c4, c5, cf⟩ := hc1
  obtain ⟨d0, d1, d2, d3, d4, d5, df⟩ := hd1
  have HE1 := Lib.hid hE1; have HX1 := Lib.hid (show w1.heap[w.heap.size]? = some (.cells (cC c A1 n1 A2 n2) 30 (0, 0)) ∧ w1.heap[w.heap.size + 1]? = some (.cells (cC d B1 m1 B2 m2) 30 (0, 0)) by rw [hw1]; exact HX.out)
  clear hw1 hE1
  go_wp2_with fail
  refine (HLW.out _ (H2.out.ext HE1.out) (G2.out.ext HE1.out)).mono ?_; rintro e w2 ⟨rfl, q2, hw2⟩
  have hE2 : Ext w w2 := by rw [hw2]; exact Ext.drewN HE1.out _
  have hc2 := six_cells (W := w2) (by rw [hw2]; exact HX1.out.1)
  have hd2 := six_cells (W := w2) (by rw [hw2]; exact HX1.out.2)
  clear c0 c1 c2 c3 c4 c5 cf d0 d1 d2 d3 d4 d5 df
  obtain ⟨c0, c1, c2, c3, c4, c5, cf⟩ := hc2
  obtain ⟨d0, d1, d2, d3, d4, d5, df⟩ := hd2
  have HE2 := Lib.hid hE2
  clear hw2 hE2
  go_wp2_with fail
  go_ret
  exact ⟨by rw [HK.out]; rfl, HE2.out⟩
 rw [decide_eq_true k5] at HK
 have kb5 : (c.made == d.made) = true := by simp [k5]
 clear k5
 have HK : Hid (clientEq c d = true) := by show _ = _; rw [HK.out]; rfl
 go_enter Tryd.func20, Tryd.ntmps20
 go_wp2_with fail
 refine (HRW.out _ (H1.out.ext HE0.out) (G1.out.ext HE0.out)).mono ?_; rintro e w1 ⟨rfl, q1, hw1⟩
 have hE1 : Ext w w1 := by rw [hw1]; exact Ext.drewN HE0.out _
 have hc1 := six_cells (W := w1) (by rw [hw1]; exact HX.out.1)
 have hd1 := six_cells (W := w1) (by rw [hw1]; exact HX.out.2)
 obtain ⟨c0, c1, c2, c3, c4, c5, cf⟩ := hc1
 obtain ⟨d0, d1, d2, d3, d4, d5, df⟩ := hd1
 have HE1 := Lib.hid hE1; have HX1 := Lib.hid (show w1.heap[w.heap.size]? = some (.cells (cC c A1 n1 A2 n2) 30 (0, 0)) ∧ w1.heap[w.heap.size + 1]? = some (.cells (cC d B1 m1 B2 m2) 30 (0, 0)) by rw [hw1]; exact HX.out)
 clear hw1 hE1
 go_wp2_with fail
 refine (HLW.out _ (H2.out.ext HE1.out) (G2.out.ext HE1.out)).mono ?_; rintro e w2 ⟨rfl, q2, hw2⟩
 have hE2 : Ext w w2 := by rw [hw2]; exact Ext.drewN HE1.out _
 have hc2 := six_cells (W := w2) (by rw [hw2]; exact HX1.out.1)
 have hd2 := six_cells (W := w2) (by rw [hw2]; exact HX1.out.2)
 clear c0 c1 c2 c3 c4 c5 cf d0 d1 d2 d3 d4 d5 df
 obtain ⟨c0, c1, c2, c3, c4, c5, cf⟩ := hc2
 obtain ⟨d0, d1, d2, d3, d4, d5, df⟩ := hd2
 have HE2 := Lib.hid hE2
 clear hw2 hE2
 go_wp2_with fail
 go_ret
 exact ⟨by rw [HK.out]; rfl, HE2.out⟩
open Go.RowKit Go.Lib
def BoxOf (w0 : World) (x : Client) (cb : Nat) (wx : World) : Prop := ∃ A1 n1 A2 n2, CV wx x (.agg #[.int .i64 x.who, .int .i64 x.seen, .slice A1 x.base.length n1, .slice A2 x.wait.length n2, .int .i64 x.done, .int .i64 x.made]) ∧ wx.heap[cb]? = some (.cells #[.int .i64 x.who, .int .i64 x.seen, .slice A1 x.base.length n1, .slice A2 x.wait.length n2, .int .i64 x.done, .int .i64 x.made] 30 (0, 0)) ∧ Ext w0 wx
theorem clientEq_self (c : Client) : clientEq c c = true := by unfold clientEq; simp
set_option maxRecDepth 100000 in
set_option maxHeartbeats 2000000 in
theorem hearTwice_walk (A : Option Addr) (n : Nat) (bs : List UInt8) (w : World) (ht : Tab w) (hr : Rd w A n bs) (hA : ∀ b off, A = some ⟨b, off, none⟩ → b < w.heap.size) :
  Calls Tryd.prog 10 #[.slice A bs.length n] w fun e w' => e = .returned (.bool true) ∧ Ext w w' := by
 have hm : bs.length ≤ maxLen := Nat.le_trans hr.1 hr.2.1
 unfold maxLen at hm
 have htp_0 := ht.pos
 have HT_0 := Lib.hid ht
 have HDR := Lib.hid (drawHear_d A n bs w hr hA)
 clear hr hA ht
 go_enter Tryd.func10, Tryd.ntmps10
 by_cases hlong : (1048576 : Int) < bs.length
 ·go_wp2_with fail
  go_ret
  exact ⟨rfl, Below.refl _ _⟩
 go_wp2_with fail
 refine HDR.out.mono ?_
 rintro e w1 ⟨c, v, frm, l, L, ln, rfl, ⟨A1, n1, A2, n2, rfl, h1, h2⟩, hcw, hrl, hop, hll, hf0, hf1, hb1⟩
 have hs_1 := hb1.size
 have HCW := Lib.hid hcw; have HOP := Lib.hid hop
 obtain ⟨x, ok, hxo⟩ : ∃ x ok, clientHear c frm l = (x, ok) := ⟨_, _, rfl⟩
 have HXO := Lib.hid hxo
 have hE2 : Ext w1 (w1.alloc (oC c A1 n1 A2 n2)) := (Below.refl _ _).alloc (Nat.le_refl _) _
 have HE_2 := Lib.hid (hb1.trans (hE2.mono hs_1)); have hs_2 := HE_2.out.size
 have HT_2 := Lib.hid (HT_0.out.below HE_2.out htp_0); have htp_2 := HT_2.out.pos
 have HVC_2 : Hid (CV (w1.alloc (oC c A1 n1 A2 n2)) c (.agg (cC c A1 n1 A2 n2))) := ⟨A1, n1, A2, n2, rfl, h1.ext hE2, h2.ext hE2⟩
 have HRL_2 := Lib.hid (hrl.ext hE2)
 have HBC_2 := Lib.hid (World.alloc_heap_new w1 (oC c A1 n1 A2 n2))
 have hz_2 := alloc_sz w1 (oC c A1 n1 A2 n2)
 clear hE2 h1 h2 hcw hrl hop hxo HDR hb1 HT_0
 go_wp2_with fail
 generalize (w1.alloc (oC c A1 n1 A2 n2)) = w2 at *
 have hS := clientHear_s c _ frm L ln l w2 HVC_2.out HRL_2.out HCW.out HOP.out (by omega)
 rw [HXO.out] at hS
 refine hS.mono ?_
 clear hS
 rintro e w3 ⟨v3, rfl, co3, hb3⟩
 have HE_3 := Lib.hid (HE_2.out.trans ((hb3).mono HE_2.out.size)); have hs_3 := HE_3.out.size
 have HT_3 := Lib.hid (HT_2.out.below hb3 htp_2); have htp_3 := HT_3.out.pos
 have HVC_3 := Lib.hid (HVC_2.out.ext hb3)
 have HRL_3 := Lib.hid (HRL_2.out.ext hb3)
 have HBC_3 := Lib.hid (((hb3).block _ (blk_lt HBC_2.out)).trans HBC_2.out)
 clear HE_2 HT_2 HVC_2 HRL_2 HBC_2
 obtain ⟨B1, m1, B2, m2, rfl, g1, g2⟩ := co3.cv
 have hE4 : Ext w3 (w3.alloc (oC x B1 m1 B2 m2)) := (Below.refl _ _).alloc (Nat.le_refl _) _
 have HWW_4 : Hid (CV (w3.alloc (oC x B1 m1 B2 m2)) x (.agg (cC x B1 m1 B2 m2))) := ⟨B1, m1, B2, m2, rfl, g1.ext hE4, g2.ext hE4⟩
 have HBW_4 := Lib.hid (World.alloc_heap_new w3 (oC x B1 m1 B2 m2))
 have hz_4 := alloc_sz w3 (oC x B1 m1 B2 m2)
 have HE_4 := Lib.hid (HE_3.out.trans ((hE4).mono HE_3.out.size)); have hs_4 := HE_4.out.size
 have HT_4 := Lib.hid (HT_3.out.below hE4 htp_3); have htp_4 := HT_4.out.pos
 have HVC_4 := Lib.hid (HVC_3.out.ext hE4)
 have HRL_4 := Lib.hid (HRL_3.out.ext hE4)
 have HBC_4 := Lib.hid (((hE4).block _ (blk_lt HBC_3.out)).trans HBC_3.out)
 clear HE_3 HT_3 HVC_3 HRL_3 HBC_3
 clear hE4 g1 g2
 obtain ⟨c00, c01, c02, c03, c04, c05, c0f⟩ := six_cells HBC_4.out
 go_wp2_with fail
 generalize (w3.alloc (oC x B1 m1 B2 m2)) = w4 at *
 clear hb3 co3
 clear c00 c01 c02 c03 c04 c05 c0f
 have hS := clientHear_c c _ frm L ln l w4 HT_4.out HVC_4.out HRL_4.out
 rw [HXO.out] at hS
 refine hS.mono ?_
 clear hS
 rintro e w5 ⟨v5, rfl, co5, hb5⟩
 have HE_5 := Lib.hid (HE_4.out.trans ((hb5).mono HE_4.out.size)); have hs_5 := HE_5.out.size
 have HT_5 := Lib.hid (HT_4.out.below hb5 htp_4); have htp_5 := HT_5.out.pos
 have HVC_5 := Lib.hid (HVC_4.out.ext hb5)
 have HRL_5 := Lib.hid (HRL_4.out.ext hb5)
 have HBC_5 := Lib.hid (((hb5).block _ (blk_lt HBC_4.out)).trans HBC_4.out)
 have HWW_5 := Lib.hid (HWW_4.out.ext hb5)
 have HBW_5 := Lib.hid (((hb5).block _ (blk_lt HBW_4.out)).trans HBW_4.out)
 clear HE_4 HT_4 HVC_4 HRL_4 HBC_4 HWW_4 HBW_4
 obtain ⟨D1, k1, D2, k2, rfl, g1, g2⟩ := co5.cv
 have hE6 : Ext w5 (w5.alloc (oC x D1 k1 D2 k2)) := (Below.refl _ _).alloc (Nat.le_refl _) _
 have HWX_6 : Hid (CV (w5.alloc (oC x D1 k1 D2 k2)) x (.agg (cC x D1 k1 D2 k2))) := ⟨D1, k1, D2, k2, rfl, g1.ext hE6, g2.ext hE6⟩
 have HBX_6 := Lib.hid (World.alloc_heap_new w5 (oC x D1 k1 D2 k2))
 have hz_6 := alloc_sz w5 (oC x D1 k1 D2 k2)
 have HE_6 := Lib.hid (HE_5.out.trans ((hE6).mono HE_5.out.size)); have hs_6 := HE_6.out.size
 have HT_6 := Lib.hid (HT_5.out.below hE6 htp_5); have htp_6 := HT_6.out.pos
 have HVC_6 := Lib.hid (HVC_5.out.ext hE6)
 have HRL_6 := Lib.hid (HRL_5.out.ext hE6)
 have HBC_6 := Lib.hid (((hE6).block _ (blk_lt HBC_5.out)).trans HBC_5.out)
 have HWW_6 := Lib.hid (HWW_5.out.ext hE6)
 have HBW_6 := Lib.hid (((hE6).block _ (blk_lt HBW_5.out)).trans HBW_5.out)
 clear HE_5 HT_5 HVC_5 HRL_5 HBC_5 HWW_5 HBW_5
 clear hE6 g1 g2
 clear hb5 co5
 obtain ⟨c00, c01, c02, c03, c04, c05, c0f⟩ := six_cells HBC_6.out
 obtain ⟨c10, c11, c12, c13, c14, c15, c1f⟩ := six_cells HBW_6.out
 obtain ⟨c20, c21, c22, c23, c24, c25, c2f⟩ := six_cells HBX_6.out
 cases ok with
 |false =>
  go_wp2_with fail
  generalize (w5.alloc (oC x D1 k1 D2 k2)) = w6 at *
  clear c00 c01 c02 c03 c04 c05 c0f c10 c11 c12 c13 c14 c15 c1f c20 c21 c22 c23 c24 c25 c2f
  have hS := lpClient_c x x _ _ w6 HWX_6.out HWW_6.out
  rw [clientEq_self] at hS
  refine hS.mono ?_
  clear hS
  rintro e w7 ⟨rfl, hb7⟩
  have HE_7 := Lib.hid (HE_6.out.trans ((hb7).mono HE_6.out.size)); have hs_7 := HE_7.out.size
  have HT_7 := Lib.hid (HT_6.out.below hb7 htp_6); have htp_7 := HT_7.out.pos
  have HVC_7 := Lib.hid (HVC_6.out.ext hb7)
  have HRL_7 := Lib.hid (HRL_6.out.ext hb7)
  have HBC_7 := Lib.hid (((hb7).block _ (blk_lt HBC_6.out)).trans HBC_6.out)
  have HWW_7 := Lib.hid (HWW_6.out.ext hb7)
  have HBW_7 := Lib.hid (((hb7).block _ (blk_lt HBW_6.out)).trans HBW_6.out)
  have HWX_7 := Lib.hid (HWX_6.out.ext hb7)
  have HBX_7 := Lib.hid (((hb7).block _ (blk_lt HBX_6.out)).trans HBX_6.out)
  clear HE_6 HT_6 HVC_6 HRL_6 HBC_6 HWW_6 HBW_6 HWX_6 HBX_6
  clear hb7
  obtain ⟨c00, c01, c02, c03, c04, c05, c0f⟩ := six_cells HBC_7.out
  obtain ⟨c10, c11, c12, c13, c14, c15, c1f⟩ := six_cells HBW_7.out
  obtain ⟨c20, c21, c22, c23, c24, c25, c2f⟩ := six_cells HBX_7.out
  go_wp2_with fail
  clear c00 c01 c02 c03 c04 c05 c0f c10 c11 c12 c13 c14 c15 c1f c20 c21 c22 c23 c24 c25 c2f
  have hS := lpClient_c x x _ _ w7 HWX_7.out HWW_7.out
  rw [clientEq_self] at hS
  refine hS.mono ?_
  clear hS
  rintro e w8 ⟨rfl, hb8⟩
  have HE_8 := Lib.hid (HE_7.out.trans ((hb8).mono HE_7.out.size)); have hs_8 := HE_8.out.size
  have HT_8 := Lib.hid (HT_7.out.below hb8 htp_7); have htp_8 := HT_8.out.pos
  have HVC_8 := Lib.hid (HVC_7.out.ext hb8)
  have HRL_8 := Lib.hid (HRL_7.out.ext hb8)
  have HBC_8 := Lib.hid (((hb8).block _ (blk_lt HBC_7.out)).trans HBC_7.out)
  have HWW_8 := Lib.hid (HWW_7.out.ext hb8)
  have HBW_8 := Lib.hid (((hb8).block _ (blk_lt HBW_7.out)).trans HBW_7.out)
  have HWX_8 := Lib.hid (HWX_7.out.ext hb8)
  have HBX_8 := Lib.hid (((hb8).block _ (blk_lt HBX_7.out)).trans HBX_7.out)
  clear HE_7 HT_7 HVC_7 HRL_7 HBC_7 HWW_7 HBW_7 HWX_7 HBX_7
  clear hb8
  go_wp2_with fail
  go_ret
  exact ⟨rfl, HE_8.out⟩
 |true =>
  have htw := hear_twice (c := c) (frm := frm) (l := l) (by rw [HXO.out])
  rw [HXO.out] at htw
  dsimp only at htw
  have HTW := Lib.hid htw
  clear htw
  go_wp2_with fail
  generalize (w5.alloc (oC x D1 k1 D2 k2)) = w6 at *
  clear c00 c01 c02 c03 c04 c05 c0f c10 c11 c12 c13 c14 c15 c1f c20 c21 c22 c23 c24 c25 c2f
  have hS := lpClient_c x x _ _ w6 HWX_6.out HWW_6.out
  rw [clientEq_self] at hS
  refine hS.mono ?_
  clear hS
  rintro e w7 ⟨rfl, hb7⟩
  have HE_7 := Lib.hid (HE_6.out.trans ((hb7).mono HE_6.out.size)); have hs_7 := HE_7.out.size
  have HT_7 := Lib.hid (HT_6.out.below hb7 htp_6); have htp_7 := HT_7.out.pos
  have HVC_7 := Lib.hid (HVC_6.out.ext hb7)
  have HRL_7 := Lib.hid (HRL_6.out.ext hb7)
  have HBC_7 := Lib.hid (((hb7).block _ (blk_lt HBC_6.out)).trans HBC_6.out)
  have HWW_7 := Lib.hid (HWW_6.out.ext hb7)
  have HBW_7 := Lib.hid (((hb7).block _ (blk_lt HBW_6.out)).trans HBW_6.out)
  have HWX_7 := Lib.hid (HWX_6.out.ext hb7)
  have HBX_7 := Lib.hid (((hb7).block _ (blk_lt HBX_6.out)).trans HBX_6.out)
  clear HE_6 HT_6 HVC_6 HRL_6 HBC_6 HWW_6 HBW_6 HWX_6 HBX_6
  clear hb7
  obtain ⟨c00, c01, c02, c03, c04, c05, c0f⟩ := six_cells HBC_7.out
  obtain ⟨c10, c11, c12, c13, c14, c15, c1f⟩ := six_cells HBW_7.out
  obtain ⟨c20, c21, c22, c23, c24, c25, c2f⟩ := six_cells HBX_7.out
  go_wp2_with fail
  have hS := clientHear_c x _ frm L ln l w7 HT_7.out HWX_7.out HRL_7.out
  rw [HTW.out] at hS
  refine hS.mono ?_
  clear hS
  rintro e w8 ⟨v8, rfl, co8, hb8⟩
  clear c00 c01 c02 c03 c04 c05 c0f c10 c11 c12 c13 c14 c15 c1f c20 c21 c22 c23 c24 c25 c2f
  have HE_8 := Lib.hid (HE_7.out.trans ((hb8).mono HE_7.out.size)); have hs_8 := HE_8.out.size
  have HT_8 := Lib.hid (HT_7.out.below hb8 htp_7); have htp_8 := HT_8.out.pos
  have HVC_8 := Lib.hid (HVC_7.out.ext hb8)
  have HRL_8 := Lib.hid (HRL_7.out.ext hb8)
  have HBC_8 := Lib.hid (((hb8).block _ (blk_lt HBC_7.out)).trans HBC_7.out)
  have HWW_8 := Lib.hid (HWW_7.out.ext hb8)
  have HBW_8 := Lib.hid (((hb8).block _ (blk_lt HBW_7.out)).trans HBW_7.out)
  have HWX_8 := Lib.hid (HWX_7.out.ext hb8)
  have HBX_8 := Lib.hid (((hb8).block _ (blk_lt HBX_7.out)).trans HBX_7.out)
  clear HE_7 HT_7 HVC_7 HRL_7 HBC_7 HWW_7 HBW_7 HWX_7 HBX_7
  obtain ⟨E1, j1, E2, j2, rfl, g1, g2⟩ := co8.cv
  have hE9 : Ext w8 (w8.alloc (oC x E1 j1 E2 j2)) := (Below.refl _ _).alloc (Nat.le_refl _) _
  have HWY_9 : Hid (CV (w8.alloc (oC x E1 j1 E2 j2)) x (.agg (cC x E1 j1 E2 j2))) := ⟨E1, j1, E2, j2, rfl, g1.ext hE9, g2.ext hE9⟩
  have HBY_9 := Lib.hid (World.alloc_heap_new w8 (oC x E1 j1 E2 j2))
  have hz_9 := alloc_sz w8 (oC x E1 j1 E2 j2)
  have HE_9 := Lib.hid (HE_8.out.trans ((hE9).mono HE_8.out.size)); have hs_9 := HE_9.out.size
  have HT_9 := Lib.hid (HT_8.out.below hE9 htp_8); have htp_9 := HT_9.out.pos
  have HVC_9 := Lib.hid (HVC_8.out.ext hE9)
  have HRL_9 := Lib.hid (HRL_8.out.ext hE9)
  have HBC_9 := Lib.hid (((hE9).block _ (blk_lt HBC_8.out)).trans HBC_8.out)
  have HWW_9 := Lib.hid (HWW_8.out.ext hE9)
  have HBW_9 := Lib.hid (((hE9).block _ (blk_lt HBW_8.out)).trans HBW_8.out)
  have HWX_9 := Lib.hid (HWX_8.out.ext hE9)
  have HBX_9 := Lib.hid (((hE9).block _ (blk_lt HBX_8.out)).trans HBX_8.out)
  clear HE_8 HT_8 HVC_8 HRL_8 HBC_8 HWW_8 HBW_8 HWX_8 HBX_8
  clear hE9 g1 g2
  clear hb8 co8
  obtain ⟨c00, c01, c02, c03, c04, c05, c0f⟩ := six_cells HBX_9.out
  obtain ⟨c10, c11, c12, c13, c14, c15, c1f⟩ := six_cells HBY_9.out
  go_wp2_with fail
  generalize (w8.alloc (oC x E1 j1 E2 j2)) = w9 at *
  have hS := lpClient_c x x _ _ w9 HWY_9.out HWX_9.out
  rw [clientEq_self] at hS
  refine hS.mono ?_
  clear hS
  rintro e w10 ⟨rfl, hb10⟩
  have HE_10 := Lib.hid (HE_9.out.trans ((hb10).mono HE_9.out.size)); have hs_10 := HE_10.out.size
  have HT_10 := Lib.hid (HT_9.out.below hb10 htp_9); have htp_10 := HT_10.out.pos
  have HVC_10 := Lib.hid (HVC_9.out.ext hb10)
  have HRL_10 := Lib.hid (HRL_9.out.ext hb10)
  have HBC_10 := Lib.hid (((hb10).block _ (blk_lt HBC_9.out)).trans HBC_9.out)
  have HWW_10 := Lib.hid (HWW_9.out.ext hb10)
  have HBW_10 := Lib.hid (((hb10).block _ (blk_lt HBW_9.out)).trans HBW_9.out)
  have HWX_10 := Lib.hid (HWX_9.out.ext hb10)
  have HBX_10 := Lib.hid (((hb10).block _ (blk_lt HBX_9.out)).trans HBX_9.out)
  have HWY_10 := Lib.hid (HWY_9.out.ext hb10)
  have HBY_10 := Lib.hid (((hb10).block _ (blk_lt HBY_9.out)).trans HBY_9.out)
  clear HE_9 HT_9 HVC_9 HRL_9 HBC_9 HWW_9 HBW_9 HWX_9 HBX_9 HWY_9 HBY_9
  clear hb10
  go_wp2_with fail
  go_ret
  exact ⟨rfl, HE_10.out⟩
end Go.Proofs.YtjhbbgeebobcpaaDoor
