/- The exact laws' helpers: sizes and comparisons. The exact laws' helpers: comparisons. -/
import Derived.Test.YtikcnbkoeglecaaDoorRD
import Derived.Deep.RegionHeld3
import Derived.Test.YtikcnbkoeglecaaDoorRA
namespace Go.Proofs.YtikcnbkoeglecaaDoor
open Go.RowKit
set_option linter.unusedVariables false

/-- What a size leaves. -/
def SzP (left : Int) (w : World) (x : Ending) (w' : World) : Prop := ∃ v : Int, x = .returned (.int .i64 v) ∧ -1 ≤ v ∧ v ≤ left ∧ Ext w w'

set_option maxHeartbeats 400000 in
theorem szRow_c (r : Row) (left : Int) (w : World) (h0 : 0 ≤ left) (h1 : left ≤ 2000000) (hs : r.text.size ≤ maxLen) :
    Calls Tryd.prog 78 #[.agg #[.int .i64 r.id, .int .i64 r.depth, .string r.text], .int .i64 left] w (SzP left w) := by
  unfold maxLen at hs
  have HE : Hid (Ext w (w.alloc (.cells #[.int .i64 r.id, .int .i64 r.depth, .string r.text] 112))) := (Below.refl _ w).alloc (Nat.le_refl _) _
  have hw : IntKind.i64.wrap (left - (r.text.size : Int)) = left - (r.text.size : Int) := by rw [IntKind.wrap_i64]; omega
  go_enter Tryd.func78, Tryd.ntmps78
  by_cases hn : left - (r.text.size : Int) < 0
  · go_wp2_with fail
    go_ret
    exact ⟨-1, rfl, by omega, by omega, HE.out⟩
  · go_wp2_with fail
    go_ret
    exact ⟨_, rfl, by omega, by omega, HE.out⟩

set_option maxHeartbeats 400000 in
theorem szOp_c (r : Op) (left : Int) (w : World) (h0 : 0 ≤ left) (h1 : left ≤ 2000000) (hs : r.text.size ≤ maxLen) :
    Calls Tryd.prog 81 #[.agg #[.int .i64 r.kind, .int .i64 r.id, .int .i64 r.up, .int .i64 r.pos, .string r.text], .int .i64 left] w (SzP left w) := by
  unfold maxLen at hs
  have HE : Hid (Ext w (w.alloc (.cells #[.int .i64 r.kind, .int .i64 r.id, .int .i64 r.up, .int .i64 r.pos, .string r.text] 84))) := (Below.refl _ w).alloc (Nat.le_refl _) _
  have hw : IntKind.i64.wrap (left - (r.text.size : Int)) = left - (r.text.size : Int) := by rw [IntKind.wrap_i64]; omega
  go_enter Tryd.func81, Tryd.ntmps81
  by_cases hn : left - (r.text.size : Int) < 0
  · go_wp2_with fail
    go_ret
    exact ⟨-1, rfl, by omega, by omega, HE.out⟩
  · go_wp2_with fail
    go_ret
    exact ⟨_, rfl, by omega, by omega, HE.out⟩

set_option maxHeartbeats 400000 in
theorem szEntry_c (e : Entry) (left : Int) (w : World) (h0 : 0 ≤ left) (h1 : left ≤ 2000000) (hs : e.op.text.size ≤ maxLen) :
    Calls Tryd.prog 56 #[.agg #[.int .i64 e.who, .int .i64 e.seq, .int .i64 e.op.kind, .int .i64 e.op.id, .int .i64 e.op.up, .int .i64 e.op.pos, .string e.op.text], .int .i64 left] w (SzP left w) := by
  have HE : Hid (Ext w (w.alloc (.cells #[.int .i64 e.who, .int .i64 e.seq, .int .i64 e.op.kind, .int .i64 e.op.id, .int .i64 e.op.up, .int .i64 e.op.pos, .string e.op.text] 86))) := (Below.refl _ w).alloc (Nat.le_refl _) _
  have HO := Lib.hid (szOp_c e.op left (w.alloc (.cells #[.int .i64 e.who, .int .i64 e.seq, .int .i64 e.op.kind, .int .i64 e.op.id, .int .i64 e.op.up, .int .i64 e.op.pos, .string e.op.text] 86)) h0 h1 hs)
  go_enter Tryd.func56, Tryd.ntmps56
  go_wp2_with fail
  refine HO.out.mono ?_
  rintro x w1 ⟨v, rfl, hv0, hv1, hb1⟩
  have HB := Lib.hid (HE.out.trans (hb1.mono HE.out.size))
  clear hb1 HO
  by_cases hn : v < 0
  · go_wp2_with fail
    go_ret
    exact ⟨-1, rfl, by omega, by omega, HB.out⟩
  · go_wp2_with fail
    go_ret
    exact ⟨v, rfl, by omega, by omega, HB.out⟩

set_option maxRecDepth 100000 in
set_option maxHeartbeats 1000000 in
theorem szRowS_c (A : Option Addr) (c : Nat) (l : List Row) (left : Int) (w : World) (hr : Rd w A c l) (h0 : 0 ≤ left) (h1 : left ≤ 2000000) :
    Calls Tryd.prog 49 #[.slice A l.length c, .int .i64 left] w fun x w' => ∃ v : Int, x = .returned (.int .i64 v) ∧ -1 ≤ v ∧ v ≤ left ∧ (0 ≤ v → (l.length : Int) ≤ left) ∧ Ext w w' := by
  have hm : l.length ≤ maxLen := Nat.le_trans hr.1 hr.2.1
  unfold maxLen at hm
  have HR := Lib.hid hr
  clear hr
  have hw : IntKind.i64.wrap (left - (l.length : Int)) = left - (l.length : Int) := by rw [IntKind.wrap_i64]; omega
  go_enter Tryd.func49, Tryd.ntmps49
  by_cases hn : left - (l.length : Int) < 0
  · go_wp2_with fail
    go_ret
    exact ⟨-1, rfl, by omega, by omega, by omega, Below.refl _ _⟩
  have hll : (l.length : Int) ≤ left := by omega
  go_wp2_with fail
  clear hw
  go_loopg [1, 5] l.length (fun gk a i wr => ∃ (k : Nat) (y : Int), k ≤ l.length ∧ Hid (gk = l.length - k) ∧ a = .int .i64 y ∧ 0 ≤ y ∧ y ≤ left ∧ i = .int .i64 k ∧ Hid (Ext w wr))
  case atStart => exact ⟨0, left - l.length, Nat.zero_le _, rfl, rfl, by omega, by omega, rfl, Below.refl _ _⟩
  case round =>
    obtain ⟨k, y, hk, HK, rfl, hy0, hy1, rfl, HB⟩ := hrel
    by_cases hlt : k < l.length
    · obtain ⟨b, off, rfl, hbl, c0, c1, c2⟩ := row_at (HR.out.ext HB.out) k hlt
      have HC := Lib.hid (szRow_c l[k] y wr hy0 (by omega) (HR.out.okAt k hlt))
      have hlt' : (k : Int) < l.length := by omega
      go_wp2_with fail
      refine HC.out.mono ?_
      rintro x w1 ⟨v, rfl, hv0, hv1, hb1⟩
      have HB1 := Lib.hid (HB.out.trans (hb1.mono HB.out.size))
      clear hb1 HC c0 c1 c2
      by_cases hv : v < 0
      · go_wp2_with fail
        go_ret
        exact ⟨-1, rfl, by omega, by omega, by omega, HB1.out⟩
      · go_wp2_with fail
        go_roundg (l.length - (k + 1))
        case measure => have := HK.out; omega
        case rel => exact ⟨k + 1, v, by omega, rfl, rfl, by omega, by omega, by go_num, HB1.out⟩
    · go_wp2_with fail
      go_ret
      exact ⟨y, rfl, by omega, by omega, fun _ => hll, HB.out⟩

set_option maxRecDepth 100000 in
set_option maxHeartbeats 1000000 in
theorem szEntryS_c (A : Option Addr) (c : Nat) (l : List Entry) (left : Int) (w : World) (hr : Rd w A c l) (h0 : 0 ≤ left) (h1 : left ≤ 2000000) :
    Calls Tryd.prog 24 #[.slice A l.length c, .int .i64 left] w fun x w' => ∃ v : Int, x = .returned (.int .i64 v) ∧ -1 ≤ v ∧ v ≤ left ∧ (0 ≤ v → (l.length : Int) ≤ left) ∧ Ext w w' := by
  have hm : l.length ≤ maxLen := Nat.le_trans hr.1 hr.2.1
  unfold maxLen at hm
  have HR := Lib.hid hr
  clear hr
  have hw : IntKind.i64.wrap (left - (l.length : Int)) = left - (l.length : Int) := by rw [IntKind.wrap_i64]; omega
  go_enter Tryd.func24, Tryd.ntmps24
  by_cases hn : left - (l.length : Int) < 0
  · go_wp2_with fail
    go_ret
    exact ⟨-1, rfl, by omega, by omega, by omega, Below.refl _ _⟩
  have hll : (l.length : Int) ≤ left := by omega
  go_wp2_with fail
  clear hw
  go_loopg [1, 5] l.length (fun gk a i wr => ∃ (k : Nat) (y : Int), k ≤ l.length ∧ Hid (gk = l.length - k) ∧ a = .int .i64 y ∧ 0 ≤ y ∧ y ≤ left ∧ i = .int .i64 k ∧ Hid (Ext w wr))
  case atStart => exact ⟨0, left - l.length, Nat.zero_le _, rfl, rfl, by omega, by omega, rfl, Below.refl _ _⟩
  case round =>
    obtain ⟨k, y, hk, HK, rfl, hy0, hy1, rfl, HB⟩ := hrel
    by_cases hlt : k < l.length
    · obtain ⟨b, off, rfl, hbl, c0, c1, c2, c3, c4, c5, c6⟩ := ent_at (HR.out.ext HB.out) k hlt
      have HC := Lib.hid (szEntry_c l[k] y wr hy0 (by omega) (HR.out.okAt k hlt))
      have hlt' : (k : Int) < l.length := by omega
      go_wp2_with fail
      refine HC.out.mono ?_
      rintro x w1 ⟨v, rfl, hv0, hv1, hb1⟩
      have HB1 := Lib.hid (HB.out.trans (hb1.mono HB.out.size))
      clear hb1 HC c0 c1 c2 c3 c4 c5 c6
      by_cases hv : v < 0
      · go_wp2_with fail
        go_ret
        exact ⟨-1, rfl, by omega, by omega, by omega, HB1.out⟩
      · go_wp2_with fail
        go_roundg (l.length - (k + 1))
        case measure => have := HK.out; omega
        case rel => exact ⟨k + 1, v, by omega, rfl, rfl, by omega, by omega, by go_num, HB1.out⟩
    · go_wp2_with fail
      go_ret
      exact ⟨y, rfl, by omega, by omega, fun _ => hll, HB.out⟩

set_option maxRecDepth 100000 in
theorem szClient_c (c : Client) (v : Value) (left : Int) (w : World) (h : CV w c v) (h0 : 0 ≤ left) (h1 : left ≤ 2000000) :
    Calls Tryd.prog 15 #[v, .int .i64 left] w fun x w' => ∃ v : Int, x = .returned (.int .i64 v) ∧ -1 ≤ v ∧ v ≤ left ∧ (0 ≤ v → (c.base.length : Int) ≤ left ∧ (c.wait.length : Int) ≤ left) ∧ Ext w w' := by
  obtain ⟨A1, n1, A2, n2, rfl, hr1, hr2⟩ := h
  have HE : Hid (Ext w (w.alloc (.cells #[.int .i64 c.who, .int .i64 c.seen, .slice A1 c.base.length n1, .slice A2 c.wait.length n2, .int .i64 c.done, .int .i64 c.made] 40))) := (Below.refl _ w).alloc (Nat.le_refl _) _
  have HX := Lib.hid (World.alloc_heap_new w (.cells #[.int .i64 c.who, .int .i64 c.seen, .slice A1 c.base.length n1, .slice A2 c.wait.length n2, .int .i64 c.done, .int .i64 c.made] 40))
  have HC := Lib.hid (szRowS_c A1 n1 c.base left (w.alloc (.cells #[.int .i64 c.who, .int .i64 c.seen, .slice A1 c.base.length n1, .slice A2 c.wait.length n2, .int .i64 c.done, .int .i64 c.made] 40)) (hr1.ext HE.out) h0 h1)
  have H2 := Lib.hid hr2
  clear hr1 hr2
  go_enter Tryd.func15, Tryd.ntmps15
  go_wp2_with fail
  refine HC.out.mono ?_
  rintro x w1 ⟨y, rfl, hy0, hy1, hy2, hb1⟩
  have HB := Lib.hid (HE.out.trans (hb1.mono HE.out.size))
  have hx := (hb1.block w.heap.size (by rw [alloc_sz]; omega)).trans HX.out
  obtain ⟨d0, d1, d2, d3, d4, d5, df⟩ := six_cells hx
  clear hb1 HC hx
  by_cases hn : y < 0
  · go_wp2_with fail
    go_ret
    exact ⟨-1, rfl, by omega, by omega, by omega, HB.out⟩
  have HC := Lib.hid (szEntryS_c A2 n2 c.wait y w1 (H2.out.ext HB.out) (by omega) (by omega))
  go_wp2_with fail
  refine HC.out.mono ?_
  rintro x w2 ⟨z, rfl, hz0, hz1, hz2, hb2⟩
  have HB2 := Lib.hid (HB.out.trans (hb2.mono HB.out.size))
  clear hb2 HC
  by_cases hm : z < 0
  · go_wp2_with fail
    go_ret
    exact ⟨-1, rfl, by omega, by omega, by omega, HB2.out⟩
  · go_wp2_with fail
    go_ret
    exact ⟨z, rfl, by omega, by omega, fun _ => ⟨hy2 (by omega), by have := hz2 (by omega); omega⟩, HB2.out⟩
end Go.Proofs.YtikcnbkoeglecaaDoor
namespace Go.Proofs.YtikcnbkoeglecaaDoor
open Go.RowKit
set_option linter.unusedVariables false

theorem op_ext {a b : Op} (h1 : a.kind = b.kind) (h2 : a.id = b.id) (h3 : a.up = b.up) (h4 : a.pos = b.pos) (h5 : a.text.toList = b.text.toList) : a = b := by
  have h := row_ext (a := ⟨0, 0, a.text⟩) (b := ⟨0, 0, b.text⟩) rfl rfl h5
  have h6 : a.text = b.text := congrArg Row.text h
  cases a; cases b; simp_all

set_option maxHeartbeats 1000000 in
theorem eqRow_c (a b : Row) (w : World) :
    Calls Tryd.prog 54 #[.agg #[.int .i64 a.id, .int .i64 a.depth, .string a.text], .agg #[.int .i64 b.id, .int .i64 b.depth, .string b.text]] w fun x w' => x = .returned (.bool (decide (a = b))) ∧ Ext w w' := by
  have HE : Hid (Ext w ((w.alloc (.cells #[.int .i64 a.id, .int .i64 a.depth, .string a.text] 61)).alloc (.cells #[.int .i64 b.id, .int .i64 b.depth, .string b.text] 61))) := ((Below.refl _ w).alloc (Nat.le_refl _) _).alloc (by simp) _
  have hX := two_new w (.cells #[.int .i64 a.id, .int .i64 a.depth, .string a.text] 61) (.cells #[.int .i64 b.id, .int .i64 b.depth, .string b.text] 61)
  go_enter Tryd.func54, Tryd.ntmps54
  by_cases e0 : a.id = b.id
  rotate_left
  · have hn : Hid (decide (a = b) = false) := by show _ = _; rw [decide_eq_false]; intro h; exact e0 (by rw [h])
    have e' : (a.id != b.id) = true := by simp [e0]
    go_wp2_with fail
    go_ret
    exact ⟨by rw [hn.out]; rfl, HE.out⟩
  have E0 := Lib.hid e0
  have g0 : (a.id != b.id) = false := by simp [e0]
  clear e0
  by_cases e1 : a.depth = b.depth
  rotate_left
  · have hn : Hid (decide (a = b) = false) := by show _ = _; rw [decide_eq_false]; intro h; exact e1 (by rw [h])
    have e' : (a.depth != b.depth) = true := by simp [e1]
    go_wp2_with fail
    go_ret
    exact ⟨by rw [hn.out]; rfl, HE.out⟩
  have E1 := Lib.hid e1
  have g1 : (a.depth != b.depth) = false := by simp [e1]
  clear e1
  by_cases ht : a.text.toList = b.text.toList
  · have hy : Hid (decide (a = b) = true) := by show _ = _; rw [decide_eq_true]; exact row_ext E0.out E1.out ht
    have ht' : (a.text.toList == b.text.toList) = true := by simp [ht]
    clear ht
    go_wp2_with fail
    go_ret
    exact ⟨by rw [hy.out]; rfl, HE.out⟩
  · have hn : Hid (decide (a = b) = false) := by show _ = _; rw [decide_eq_false]; intro h; exact ht (by rw [h])
    have ht' : (a.text.toList == b.text.toList) = false := by simp [ht]
    clear ht
    go_wp2_with fail
    go_ret
    exact ⟨by rw [hn.out]; rfl, HE.out⟩

set_option maxHeartbeats 1000000 in
theorem eqOp_c (a b : Op) (w : World) :
    Calls Tryd.prog 83 #[.agg #[.int .i64 a.kind, .int .i64 a.id, .int .i64 a.up, .int .i64 a.pos, .string a.text], .agg #[.int .i64 b.kind, .int .i64 b.id, .int .i64 b.up, .int .i64 b.pos, .string b.text]] w fun x w' => x = .returned (.bool (decide (a = b))) ∧ Ext w w' := by
  have HE : Hid (Ext w ((w.alloc (.cells #[.int .i64 a.kind, .int .i64 a.id, .int .i64 a.up, .int .i64 a.pos, .string a.text] 56)).alloc (.cells #[.int .i64 b.kind, .int .i64 b.id, .int .i64 b.up, .int .i64 b.pos, .string b.text] 56))) := ((Below.refl _ w).alloc (Nat.le_refl _) _).alloc (by simp) _
  have hX := two_new w (.cells #[.int .i64 a.kind, .int .i64 a.id, .int .i64 a.up, .int .i64 a.pos, .string a.text] 56) (.cells #[.int .i64 b.kind, .int .i64 b.id, .int .i64 b.up, .int .i64 b.pos, .string b.text] 56)
  go_enter Tryd.func83, Tryd.ntmps83
  by_cases e0 : a.kind = b.kind
  rotate_left
  · have hn : Hid (decide (a = b) = false) := by show _ = _; rw [decide_eq_false]; intro h; exact e0 (by rw [h])
    have e' : (a.kind != b.kind) = true := by simp [e0]
    go_wp2_with fail
    go_ret
    exact ⟨by rw [hn.out]; rfl, HE.out⟩
  have E0 := Lib.hid e0
  have g0 : (a.kind != b.kind) = false := by simp [e0]
  clear e0
  by_cases e1 : a.id = b.id
  rotate_left
  · have hn : Hid (decide (a = b) = false) := by show _ = _; rw [decide_eq_false]; intro h; exact e1 (by rw [h])
    have e' : (a.id != b.id) = true := by simp [e1]
    go_wp2_with fail
    go_ret
    exact ⟨by rw [hn.out]; rfl, HE.out⟩
  have E1 := Lib.hid e1
  have g1 : (a.id != b.id) = false := by simp [e1]
  clear e1
  by_cases e2 : a.up = b.up
  rotate_left
  · have hn : Hid (decide (a = b) = false) := by show _ = _; rw [decide_eq_false]; intro h; exact e2 (by rw [h])
    have e' : (a.up != b.up) = true := by simp [e2]
    go_wp2_with fail
    go_ret
    exact ⟨by rw [hn.out]; rfl, HE.out⟩
  have E2 := Lib.hid e2
  have g2 : (a.up != b.up) = false := by simp [e2]
  clear e2
  by_cases e3 : a.pos = b.pos
  rotate_left
  · have hn : Hid (decide (a = b) = false) := by show _ = _; rw [decide_eq_false]; intro h; exact e3 (by rw [h])
    have e' : (a.pos != b.pos) = true := by simp [e3]
    go_wp2_with fail
    go_ret
    exact ⟨by rw [hn.out]; rfl, HE.out⟩
  have E3 := Lib.hid e3
  have g3 : (a.pos != b.pos) = false := by simp [e3]
  clear e3
  by_cases ht : a.text.toList = b.text.toList
  · have hy : Hid (decide (a = b) = true) := by show _ = _; rw [decide_eq_true]; exact op_ext E0.out E1.out E2.out E3.out ht
    have ht' : (a.text.toList == b.text.toList) = true := by simp [ht]
    clear ht
    go_wp2_with fail
    go_ret
    exact ⟨by rw [hy.out]; rfl, HE.out⟩
  · have hn : Hid (decide (a = b) = false) := by show _ = _; rw [decide_eq_false]; intro h; exact ht (by rw [h])
    have ht' : (a.text.toList == b.text.toList) = false := by simp [ht]
    clear ht
    go_wp2_with fail
    go_ret
    exact ⟨by rw [hn.out]; rfl, HE.out⟩

set_option maxHeartbeats 1000000 in
theorem eqEntry_c (a b : Entry) (w : World) :
    Calls Tryd.prog 61 #[.agg #[.int .i64 a.who, .int .i64 a.seq, .int .i64 a.op.kind, .int .i64 a.op.id, .int .i64 a.op.up, .int .i64 a.op.pos, .string a.op.text], .agg #[.int .i64 b.who, .int .i64 b.seq, .int .i64 b.op.kind, .int .i64 b.op.id, .int .i64 b.op.up, .int .i64 b.op.pos, .string b.op.text]] w fun x w' => x = .returned (.bool (decide (a = b))) ∧ Ext w w' := by
  have HE : Hid (Ext w ((w.alloc (.cells #[.int .i64 a.who, .int .i64 a.seq, .int .i64 a.op.kind, .int .i64 a.op.id, .int .i64 a.op.up, .int .i64 a.op.pos, .string a.op.text] 58)).alloc (.cells #[.int .i64 b.who, .int .i64 b.seq, .int .i64 b.op.kind, .int .i64 b.op.id, .int .i64 b.op.up, .int .i64 b.op.pos, .string b.op.text] 58))) := ((Below.refl _ w).alloc (Nat.le_refl _) _).alloc (by simp) _
  have HO := Lib.hid (eqOp_c a.op b.op ((w.alloc (.cells #[.int .i64 a.who, .int .i64 a.seq, .int .i64 a.op.kind, .int .i64 a.op.id, .int .i64 a.op.up, .int .i64 a.op.pos, .string a.op.text] 58)).alloc (.cells #[.int .i64 b.who, .int .i64 b.seq, .int .i64 b.op.kind, .int .i64 b.op.id, .int .i64 b.op.up, .int .i64 b.op.pos, .string b.op.text] 58)))
  go_enter Tryd.func61, Tryd.ntmps61
  by_cases e0 : a.who = b.who
  rotate_left
  · have hn : Hid (decide (a = b) = false) := by show _ = _; rw [decide_eq_false]; intro h; exact e0 (by rw [h])
    have e' : (a.who != b.who) = true := by simp [e0]
    go_wp2_with fail
    go_ret
    exact ⟨by rw [hn.out]; rfl, HE.out⟩
  have E0 := Lib.hid e0
  have g0 : (a.who != b.who) = false := by simp [e0]
  clear e0
  by_cases e1 : a.seq = b.seq
  rotate_left
  · have hn : Hid (decide (a = b) = false) := by show _ = _; rw [decide_eq_false]; intro h; exact e1 (by rw [h])
    have e' : (a.seq != b.seq) = true := by simp [e1]
    go_wp2_with fail
    go_ret
    exact ⟨by rw [hn.out]; rfl, HE.out⟩
  have E1 := Lib.hid e1
  have g1 : (a.seq != b.seq) = false := by simp [e1]
  clear e1
  have HD : Hid (decide (a = b) = decide (a.op = b.op)) := by
    show _ = _
    rw [decide_eq_decide]
    constructor
    · intro h; rw [h]
    · intro h; have h0 := E0.out; have h1 := E1.out; cases a; cases b; simp_all
  go_wp2_with fail
  refine HO.out.mono ?_
  rintro x w1 ⟨rfl, hb1⟩
  have HB := Lib.hid (HE.out.trans (hb1.mono HE.out.size))
  clear hb1 HO
  cases ho : decide (a.op = b.op)
  · rw [ho] at HD
    go_wp2_with fail
    go_ret
    exact ⟨by rw [HD.out]; rfl, HB.out⟩
  · rw [ho] at HD
    go_wp2_with fail
    go_ret
    exact ⟨by rw [HD.out]; rfl, HB.out⟩

set_option maxRecDepth 100000 in
set_option maxHeartbeats 4000000 in
theorem eqRowS_c (A : Option Addr) (c : Nat) (l : List Row) (B : Option Addr) (d : Nat) (m : List Row) (w : World) (hr : Rd w A c l) (hr2 : Rd w B d m) :
    Calls Tryd.prog 19 #[.slice A l.length c, .slice B m.length d] w fun x w' => x = .returned (.bool (decide (l = m))) ∧ Ext w w' := by
  have hm : l.length ≤ maxLen := Nat.le_trans hr.1 hr.2.1
  have hm2 : m.length ≤ maxLen := Nat.le_trans hr2.1 hr2.2.1
  unfold maxLen at hm hm2
  have HR := Lib.hid hr; have HR2 := Lib.hid hr2
  clear hr hr2
  go_enter Tryd.func19, Tryd.ntmps19
  by_cases hl : l.length = m.length
  rotate_left
  · have hn : Hid (decide (l = m) = false) := by show _ = _; rw [decide_eq_false]; intro h; exact hl (by rw [h])
    have hl' : ((l.length : Int) != m.length) = true := by simp; omega
    go_wp2_with fail
    go_ret
    exact ⟨by rw [hn.out]; rfl, Below.refl _ _⟩
  have HL := Lib.hid hl
  have hl' : ((l.length : Int) != m.length) = false := by simp; omega
  clear hl
  go_wp2_with fail
  clear hl'
  go_loopg [5] l.length (fun gk i wr => ∃ k : Nat, k ≤ l.length ∧ Hid (gk = l.length - k) ∧ i = .int .i64 k ∧ Hid (l.take k = m.take k) ∧ Hid (Ext w wr))
  case atStart => exact ⟨0, Nat.zero_le _, rfl, rfl, rfl, Below.refl _ _⟩
  case round =>
    obtain ⟨k, hk, HK, rfl, HQ, HB⟩ := hrel
    by_cases hlt : k < l.length
    · have hlt2 : k < m.length := by have := HL.out; omega
      obtain ⟨b, off, rfl, hbl, c0, c1, c2⟩ := row_at (HR.out.ext HB.out) k hlt
      obtain ⟨b2, off2, rfl, hbl2, d0, d1, d2⟩ := row_at (HR2.out.ext HB.out) k hlt2
      have HC := Lib.hid (eqRow_c l[k] m[k] wr.drew)
      have hli : (k : Int) < l.length := by omega
      have hli2 : (k : Int) < m.length := by omega
      have hT1 := List.take_succ_eq_append_getElem hlt
      have hT2 := List.take_succ_eq_append_getElem hlt2
      have HT1 := Lib.hid hT1; have HT2 := Lib.hid hT2
      clear hT1 hT2
      go_wp2_with fail
      have E0 : wr.drew.cell? ⟨b, off + k * 3, none⟩ = some (.int .i64 l[k].id) ∧ wr.drew.cell? ⟨b, off + k * 3 + 1, none⟩ = some (.int .i64 l[k].depth) ∧ wr.drew.cell? ⟨b, off + k * 3 + 2, none⟩ = some (.string l[k].text) ∧ wr.drew.cell? ⟨b2, off2 + k * 3, none⟩ = some (.int .i64 m[k].id) ∧ wr.drew.cell? ⟨b2, off2 + k * 3 + 1, none⟩ = some (.int .i64 m[k].depth) ∧ wr.drew.cell? ⟨b2, off2 + k * 3 + 2, none⟩ = some (.string m[k].text) := ⟨c0, c1, c2, d0, d1, d2⟩
      cases he : decide (l[k] = m[k])
      all_goals
        rw [he] at HC
        go_region_held3 (fun w' => w'.cell? ⟨b, off + k * 3, none⟩ = some (.int .i64 l[k].id) ∧ w'.cell? ⟨b, off + k * 3 + 1, none⟩ = some (.int .i64 l[k].depth) ∧ w'.cell? ⟨b, off + k * 3 + 2, none⟩ = some (.string l[k].text) ∧ w'.cell? ⟨b2, off2 + k * 3, none⟩ = some (.int .i64 m[k].id) ∧ w'.cell? ⟨b2, off2 + k * 3 + 1, none⟩ = some (.int .i64 m[k].depth) ∧ w'.cell? ⟨b2, off2 + k * 3 + 2, none⟩ = some (.string m[k].text))
          (first | exact E1 | exact E0 | go_keep)
          (first
            | (go_at_call 54; refine HC.out.mono ?_; rintro e w1 ⟨rfl, hb1⟩; obtain ⟨hc1, hf1⟩ := bcell hb1
               have E1 : w1.cell? ⟨b, off + k * 3, none⟩ = some (.int .i64 l[k].id) ∧ w1.cell? ⟨b, off + k * 3 + 1, none⟩ = some (.int .i64 l[k].depth) ∧ w1.cell? ⟨b, off + k * 3 + 2, none⟩ = some (.string l[k].text) ∧ w1.cell? ⟨b2, off2 + k * 3, none⟩ = some (.int .i64 m[k].id) ∧ w1.cell? ⟨b2, off2 + k * 3 + 1, none⟩ = some (.int .i64 m[k].depth) ∧ w1.cell? ⟨b2, off2 + k * 3 + 2, none⟩ = some (.string m[k].text) := ⟨(hc1 _ _ hbl).trans c0, (hc1 _ _ hbl).trans c1, (hc1 _ _ hbl).trans c2, (hc1 _ _ hbl2).trans d0, (hc1 _ _ hbl2).trans d1, (hc1 _ _ hbl2).trans d2⟩
               have HB1 := Lib.hid hb1; clear hc1 hf1 hb1))
      · have hn : Hid (decide (l = m) = false) := by show _ = _; rw [decide_eq_false]; intro h; exact of_decide_eq_false he (by simp only [h])
        clear he
        go_wp2_with fail
        go_ret
        exact ⟨by rw [hn.out]; rfl, HB.out.trans ((Ext.drewN (Below.refl _ _) 1).trans (HB1.out.mono HB.out.size))⟩
      · have HE := Lib.hid (of_decide_eq_true he)
        clear he
        go_wp2_with fail
        go_roundg (l.length - (k + 1))
        case measure => have := HK.out; omega
        case rel =>
          refine ⟨k + 1, by omega, rfl, by go_num, ?_, HB.out.trans ((Ext.drewN (Below.refl _ _) 1).trans (HB1.out.mono HB.out.size))⟩
          show _ = _
          rw [HT1.out, HT2.out, HQ.out, HE.out]
    · have hy : Hid (decide (l = m) = true) := by
        show _ = _
        rw [decide_eq_true]
        have h := HQ.out
        have hl := HL.out
        rwa [List.take_of_length_le (by omega), List.take_of_length_le (by omega)] at h
      go_wp2_with fail
      go_ret
      exact ⟨by rw [hy.out]; rfl, HB.out⟩

set_option maxRecDepth 100000 in
set_option maxHeartbeats 4000000 in
theorem eqEntryS_c (A : Option Addr) (c : Nat) (l : List Entry) (B : Option Addr) (d : Nat) (m : List Entry) (w : World) (hr : Rd w A c l) (hr2 : Rd w B d m) :
    Calls Tryd.prog 27 #[.slice A l.length c, .slice B m.length d] w fun x w' => x = .returned (.bool (decide (l = m))) ∧ Ext w w' := by
  have hm : l.length ≤ maxLen := Nat.le_trans hr.1 hr.2.1
  have hm2 : m.length ≤ maxLen := Nat.le_trans hr2.1 hr2.2.1
  unfold maxLen at hm hm2
  have HR := Lib.hid hr; have HR2 := Lib.hid hr2
  clear hr hr2
  go_enter Tryd.func27, Tryd.ntmps27
  by_cases hl : l.length = m.length
  rotate_left
  · have hn : Hid (decide (l = m) = false) := by show _ = _; rw [decide_eq_false]; intro h; exact hl (by rw [h])
    have hl' : ((l.length : Int) != m.length) = true := by simp; omega
    go_wp2_with fail
    go_ret
    exact ⟨by rw [hn.out]; rfl, Below.refl _ _⟩
  have HL := Lib.hid hl
  have hl' : ((l.length : Int) != m.length) = false := by simp; omega
  clear hl
  go_wp2_with fail
  clear hl'
  go_loopg [5] l.length (fun gk i wr => ∃ k : Nat, k ≤ l.length ∧ Hid (gk = l.length - k) ∧ i = .int .i64 k ∧ Hid (l.take k = m.take k) ∧ Hid (Ext w wr))
  case atStart => exact ⟨0, Nat.zero_le _, rfl, rfl, rfl, Below.refl _ _⟩
  case round =>
    obtain ⟨k, hk, HK, rfl, HQ, HB⟩ := hrel
    by_cases hlt : k < l.length
    · have hlt2 : k < m.length := by have := HL.out; omega
      obtain ⟨b, off, rfl, hbl, c0, c1, c2, c3, c4, c5, c6⟩ := ent_at (HR.out.ext HB.out) k hlt
      obtain ⟨b2, off2, rfl, hbl2, d0, d1, d2, d3, d4, d5, d6⟩ := ent_at (HR2.out.ext HB.out) k hlt2
      have HC := Lib.hid (eqEntry_c l[k] m[k] wr.drew)
      have hli : (k : Int) < l.length := by omega
      have hli2 : (k : Int) < m.length := by omega
      have hT1 := List.take_succ_eq_append_getElem hlt
      have hT2 := List.take_succ_eq_append_getElem hlt2
      have HT1 := Lib.hid hT1; have HT2 := Lib.hid hT2
      clear hT1 hT2
      go_wp2_with fail
      have E0 : wr.drew.cell? ⟨b, off + k * 7, none⟩ = some (.int .i64 l[k].who) ∧ wr.drew.cell? ⟨b, off + k * 7 + 1, none⟩ = some (.int .i64 l[k].seq) ∧ wr.drew.cell? ⟨b, off + k * 7 + 2, none⟩ = some (.int .i64 l[k].op.kind) ∧ wr.drew.cell? ⟨b, off + k * 7 + 3, none⟩ = some (.int .i64 l[k].op.id) ∧ wr.drew.cell? ⟨b, off + k * 7 + 4, none⟩ = some (.int .i64 l[k].op.up) ∧ wr.drew.cell? ⟨b, off + k * 7 + 5, none⟩ = some (.int .i64 l[k].op.pos) ∧ wr.drew.cell? ⟨b, off + k * 7 + 6, none⟩ = some (.string l[k].op.text) ∧ wr.drew.cell? ⟨b2, off2 + k * 7, none⟩ = some (.int .i64 m[k].who) ∧ wr.drew.cell? ⟨b2, off2 + k * 7 + 1, none⟩ = some (.int .i64 m[k].seq) ∧ wr.drew.cell? ⟨b2, off2 + k * 7 + 2, none⟩ = some (.int .i64 m[k].op.kind) ∧ wr.drew.cell? ⟨b2, off2 + k * 7 + 3, none⟩ = some (.int .i64 m[k].op.id) ∧ wr.drew.cell? ⟨b2, off2 + k * 7 + 4, none⟩ = some (.int .i64 m[k].op.up) ∧ wr.drew.cell? ⟨b2, off2 + k * 7 + 5, none⟩ = some (.int .i64 m[k].op.pos) ∧ wr.drew.cell? ⟨b2, off2 + k * 7 + 6, none⟩ = some (.string m[k].op.text) := ⟨c0, c1, c2, c3, c4, c5, c6, d0, d1, d2, d3, d4, d5, d6⟩
      cases he : decide (l[k] = m[k])
      all_goals
        rw [he] at HC
        go_region_held3 (fun w' => w'.cell? ⟨b, off + k * 7, none⟩ = some (.int .i64 l[k].who) ∧ w'.cell? ⟨b, off + k * 7 + 1, none⟩ = some (.int .i64 l[k].seq) ∧ w'.cell? ⟨b, off + k * 7 + 2, none⟩ = some (.int .i64 l[k].op.kind) ∧ w'.cell? ⟨b, off + k * 7 + 3, none⟩ = some (.int .i64 l[k].op.id) ∧ w'.cell? ⟨b, off + k * 7 + 4, none⟩ = some (.int .i64 l[k].op.up) ∧ w'.cell? ⟨b, off + k * 7 + 5, none⟩ = some (.int .i64 l[k].op.pos) ∧ w'.cell? ⟨b, off + k * 7 + 6, none⟩ = some (.string l[k].op.text) ∧ w'.cell? ⟨b2, off2 + k * 7, none⟩ = some (.int .i64 m[k].who) ∧ w'.cell? ⟨b2, off2 + k * 7 + 1, none⟩ = some (.int .i64 m[k].seq) ∧ w'.cell? ⟨b2, off2 + k * 7 + 2, none⟩ = some (.int .i64 m[k].op.kind) ∧ w'.cell? ⟨b2, off2 + k * 7 + 3, none⟩ = some (.int .i64 m[k].op.id) ∧ w'.cell? ⟨b2, off2 + k * 7 + 4, none⟩ = some (.int .i64 m[k].op.up) ∧ w'.cell? ⟨b2, off2 + k * 7 + 5, none⟩ = some (.int .i64 m[k].op.pos) ∧ w'.cell? ⟨b2, off2 + k * 7 + 6, none⟩ = some (.string m[k].op.text))
          (first | exact E1 | exact E0 | go_keep)
          (first
            | (go_at_call 61; refine HC.out.mono ?_; rintro e w1 ⟨rfl, hb1⟩; obtain ⟨hc1, hf1⟩ := bcell hb1
               have E1 : w1.cell? ⟨b, off + k * 7, none⟩ = some (.int .i64 l[k].who) ∧ w1.cell? ⟨b, off + k * 7 + 1, none⟩ = some (.int .i64 l[k].seq) ∧ w1.cell? ⟨b, off + k * 7 + 2, none⟩ = some (.int .i64 l[k].op.kind) ∧ w1.cell? ⟨b, off + k * 7 + 3, none⟩ = some (.int .i64 l[k].op.id) ∧ w1.cell? ⟨b, off + k * 7 + 4, none⟩ = some (.int .i64 l[k].op.up) ∧ w1.cell? ⟨b, off + k * 7 + 5, none⟩ = some (.int .i64 l[k].op.pos) ∧ w1.cell? ⟨b, off + k * 7 + 6, none⟩ = some (.string l[k].op.text) ∧ w1.cell? ⟨b2, off2 + k * 7, none⟩ = some (.int .i64 m[k].who) ∧ w1.cell? ⟨b2, off2 + k * 7 + 1, none⟩ = some (.int .i64 m[k].seq) ∧ w1.cell? ⟨b2, off2 + k * 7 + 2, none⟩ = some (.int .i64 m[k].op.kind) ∧ w1.cell? ⟨b2, off2 + k * 7 + 3, none⟩ = some (.int .i64 m[k].op.id) ∧ w1.cell? ⟨b2, off2 + k * 7 + 4, none⟩ = some (.int .i64 m[k].op.up) ∧ w1.cell? ⟨b2, off2 + k * 7 + 5, none⟩ = some (.int .i64 m[k].op.pos) ∧ w1.cell? ⟨b2, off2 + k * 7 + 6, none⟩ = some (.string m[k].op.text) := ⟨(hc1 _ _ hbl).trans c0, (hc1 _ _ hbl).trans c1, (hc1 _ _ hbl).trans c2, (hc1 _ _ hbl).trans c3, (hc1 _ _ hbl).trans c4, (hc1 _ _ hbl).trans c5, (hc1 _ _ hbl).trans c6, (hc1 _ _ hbl2).trans d0, (hc1 _ _ hbl2).trans d1, (hc1 _ _ hbl2).trans d2, (hc1 _ _ hbl2).trans d3, (hc1 _ _ hbl2).trans d4, (hc1 _ _ hbl2).trans d5, (hc1 _ _ hbl2).trans d6⟩
               have HB1 := Lib.hid hb1; clear hc1 hf1 hb1))
      · have hn : Hid (decide (l = m) = false) := by show _ = _; rw [decide_eq_false]; intro h; exact of_decide_eq_false he (by simp only [h])
        clear he
        go_wp2_with fail
        go_ret
        exact ⟨by rw [hn.out]; rfl, HB.out.trans ((Ext.drewN (Below.refl _ _) 1).trans (HB1.out.mono HB.out.size))⟩
      · have HE := Lib.hid (of_decide_eq_true he)
        clear he
        go_wp2_with fail
        go_roundg (l.length - (k + 1))
        case measure => have := HK.out; omega
        case rel =>
          refine ⟨k + 1, by omega, rfl, by go_num, ?_, HB.out.trans ((Ext.drewN (Below.refl _ _) 1).trans (HB1.out.mono HB.out.size))⟩
          show _ = _
          rw [HT1.out, HT2.out, HQ.out, HE.out]
    · have hy : Hid (decide (l = m) = true) := by
        show _ = _
        rw [decide_eq_true]
        have h := HQ.out
        have hl := HL.out
        rwa [List.take_of_length_le (by omega), List.take_of_length_le (by omega)] at h
      go_wp2_with fail
      go_ret
      exact ⟨by rw [hy.out]; rfl, HB.out⟩
end Go.Proofs.YtikcnbkoeglecaaDoor
