/- The plain model: rows, changes, entries as Lean data, and what the program's functions answer, as plain Lean functions. No program, no memory. Walks of the program's smallest functions: numbers and texts of rows. Walks: texts, rows, changes, entries: what is valid. Walks: what a change is; whether a change, an entry is valid. -/
import Derived.RowKit
import Derived.Test.YtjhbbgeebobcpaaDoorProg
import Derived.WalkKit
import Derived.KernelRfl
import Derived.Lib.Hide
import Derived.Deep.QuietTactic
import Derived.BigQuiet
namespace Go.Proofs.YtjhbbgeebobcpaaDoor
set_option linter.unusedVariables false

structure Row where
  id : Int
  depth : Int
  text : ByteArray
  deriving DecidableEq

structure Op where
  kind : Int
  id : Int
  up : Int
  pos : Int
  text : ByteArray
  deriving DecidableEq

structure Entry where
  who : Int
  seq : Int
  op : Op
  deriving DecidableEq

instance : Inhabited Row := ⟨⟨0, 0, ⟨#[]⟩⟩⟩
instance : Inhabited Op := ⟨⟨0, 0, 0, 0, ⟨#[]⟩⟩⟩
instance : Inhabited Entry := ⟨⟨0, 0, default⟩⟩

def isRoot (id : Int) : Bool := decide (1 ≤ id ∧ id ≤ 3)
def isMade (id : Int) : Bool := decide (11 ≤ id ∧ id ≤ 16 ∨ 21 ≤ id ∧ id ≤ 26 ∨ 31 ≤ id ∧ id ≤ 36)
def whoOf (id : Int) : Int := if isMade id then id / 10 else 0
def isWho (a : Int) : Bool := decide (1 ≤ a ∧ a ≤ 3)
def rowMade (who n : Int) : Int := if 1 ≤ who ∧ who ≤ 3 ∧ 1 ≤ n ∧ n ≤ 6 then 10 * who + n else 0
def letter (c : UInt8) : Bool := decide (97 ≤ c.toNat ∧ c.toNat ≤ 100)
def textOk (s : ByteArray) : Bool := decide (s.size ≤ 4) && s.data.toList.all letter
def rowOk (r : Row) : Bool := if isRoot r.id then decide (r.depth = 0) && decide (r.text = ⟨#[]⟩) else isMade r.id && decide (1 ≤ r.depth ∧ r.depth ≤ 18) && textOk r.text

theorem isRoot_iff (id : Int) : isRoot id = true ↔ 1 ≤ id ∧ id ≤ 3 := by simp [isRoot]
theorem isMade_iff (id : Int) : isMade id = true ↔ 11 ≤ id ∧ id ≤ 16 ∨ 21 ≤ id ∧ id ≤ 26 ∨ 31 ≤ id ∧ id ≤ 36 := by simp [isMade]
theorem not_both (id : Int) (h : isRoot id = true) : isMade id = false := by
  rw [isRoot_iff] at h; simp [isMade]; omega
theorem made_not_root (id : Int) (h : isMade id = true) : isRoot id = false := by
  rw [isMade_iff] at h; simp [isRoot]; omega

/-- who owns a row number, plus 1. -/
def ownerOf (id : Int) : Int := if isRoot id then 1 else if isMade id then id / 10 + 1 else 0

def placeOk (up pos : Int) : Bool := (isMade up || isRoot up) && (decide (pos = 0) || isMade pos)
def opOk (o : Op) : Bool :=
  isMade o.id &&
    if o.kind = 1 then placeOk o.up o.pos && textOk o.text
    else if o.kind = 2 then decide (o.up = 0) && decide (o.pos = 0) && textOk o.text
    else if o.kind = 3 then placeOk o.up o.pos && decide (o.text = ⟨#[]⟩)
    else false
def entryOk (e : Entry) : Bool := isWho e.who && decide (1 ≤ e.seq ∧ e.seq ≤ 40) && opOk e.op && (decide (e.op.kind ≠ 1) || decide (whoOf e.op.id = e.who))

/-! ### outlines -/
def treeOkF (seen : List Int) (roots depth : Int) : List Row → Bool
  | [] => decide (roots = 3)
  | r :: rest => rowOk r && !(seen.contains r.id) && decide (r.depth ≤ depth + 1) &&
      (if isRoot r.id then decide (r.id = roots + 1) && treeOkF (r.id :: seen) (roots + 1) r.depth rest else treeOkF (r.id :: seen) roots r.depth rest)
def treeOk (t : List Row) : Bool := treeOkF [] 0 (-1) t
def treeNew : List Row := [⟨1, 0, ⟨#[]⟩⟩, ⟨2, 0, ⟨#[]⟩⟩, ⟨3, 0, ⟨#[]⟩⟩]

/-! ### the log -/
def cntW (l : List Entry) (who : Int) : Nat := l.countP (fun e => e.who == who)
def goodAt (l : List Entry) (i : Nat) : Bool := match l[i]? with
  | some e => entryOk e && decide (e.seq = cntW (l.take i) e.who + 1)
  | none => true
def logOk (l : List Entry) : Bool := decide (l.length ≤ 40) && (List.range l.length).all (goodAt l)
theorem cntW_le (l : List Entry) (who : Int) : cntW l who ≤ l.length := List.countP_le_length
theorem cntW_snoc (l : List Entry) (e : Entry) (who : Int) : cntW (l ++ [e]) who = cntW l who + if e.who = who then 1 else 0 := by
  simp [cntW, List.countP_append, List.countP_cons]
theorem cntW_take (l : List Entry) (k : Nat) (hk : k < l.length) (who : Int) : cntW (l.take (k + 1)) who = cntW (l.take k) who + if l[k].who = who then 1 else 0 := by
  rw [List.take_succ_eq_append_getElem hk, cntW_snoc]
theorem goodAt_lt (l : List Entry) (k : Nat) (hk : k < l.length) : goodAt l k = (entryOk l[k] && decide (l[k].seq = cntW (l.take k) l[k].who + 1)) := by
  simp [goodAt, List.getElem?_eq_getElem hk]
theorem logOk_false (l : List Entry) (k : Nat) (hk : k < l.length) (h : goodAt l k = false) : logOk l = false := by
  have : (List.range l.length).all (goodAt l) = false := by
    rw [List.all_eq_false]; exact ⟨k, List.mem_range.2 hk, by simp [h]⟩
  simp [logOk, this]
theorem logOk_true (l : List Entry) (h0 : l.length ≤ 40) (h : ∀ k, k < l.length → goodAt l k = true) : logOk l = true := by
  simp [logOk, h0]; exact h
theorem logOk_iff (l : List Entry) : logOk l = true ↔ l.length ≤ 40 ∧ ∀ k, k < l.length → goodAt l k = true := by simp [logOk]
end Go.Proofs.YtjhbbgeebobcpaaDoor
namespace Go.Proofs.YtjhbbgeebobcpaaDoor
open Go.RowKit

/-- The table of owners lies in block 0. -/
def Tab (w : World) : Prop := ∀ id : Int, 0 ≤ id → id < 37 → w.cell? ⟨0, id.toNat, none⟩ = some (.int .i64 (ownerOf id))

theorem whoOk_c (a : Int) (w : World) :
    Calls Tryd.prog 44 #[.int .i64 a] w fun e w' => e = .returned (.bool (isWho a)) ∧ w' = w := by
  by_cases h1 : 1 ≤ a <;> by_cases h2 : a ≤ 3
  all_goals
    go_enter Tryd.func44, Tryd.ntmps44
    go_wp2
    go_ret
    exact ⟨by simp [isWho, h1, h2], rfl⟩

theorem rowWho_c (id : Int) (w : World) (ht : Tab w) :
    Calls Tryd.prog 67 #[.int .i64 id] w fun e w' => e = .returned (.tuple #[.int .i64 (whoOf id), .bool (isRoot id || isMade id)]) ∧ w' = w := by
  by_cases h0 : 0 ≤ id
  · by_cases h1 : id < 37
    · have hc := ht id h0 h1
      clear ht
      cases hr : isRoot id
      · cases hm : isMade id
        · have h2 : ownerOf id = 0 := by simp [ownerOf, hr, hm]
          have hw : whoOf id = 0 := by simp [whoOf, hm]
          rw [h2] at hc
          rw [hw]
          clear h2 hw
          go_enter Tryd.func67, Tryd.ntmps67
          go_wp2
          go_ret2
          exact ⟨rfl, rfl⟩
        · have h2 : ownerOf id = id / 10 + 1 := by simp [ownerOf, hr, hm]
          have hw : whoOf id = id / 10 := by simp [whoOf, hm]
          rw [h2] at hc
          rw [hw]
          have h3 : ((id / 10 + 1 : Int) == 0) = false := beq_eq_false_iff_ne.2 (by omega)
          have h4 : wrap64 (id / 10 + 1 - 1) = id / 10 := by unfold wrap64; omega
          clear h2 hw
          go_enter Tryd.func67, Tryd.ntmps67
          go_wp2
          go_ret2
          exact ⟨by simp, rfl⟩
      · have hm := not_both id hr
        have h2 : ownerOf id = 1 := by simp [ownerOf, hr]
        have hw : whoOf id = 0 := by simp [whoOf, hm]
        rw [h2] at hc
        rw [hw]
        clear h2 hw
        go_enter Tryd.func67, Tryd.ntmps67
        go_wp2
        go_ret2
        exact ⟨by simp, rfl⟩
    · have hm : isMade id = false := by simp [isMade]; omega
      have hr : isRoot id = false := by simp [isRoot]; omega
      have hw : whoOf id = 0 := by simp [whoOf, hm]
      rw [hw, hm, hr]
      clear hw ht
      go_enter Tryd.func67, Tryd.ntmps67
      go_wp2
      go_ret2
      exact ⟨rfl, rfl⟩
  · have hm : isMade id = false := by simp [isMade]; omega
    have hr : isRoot id = false := by simp [isRoot]; omega
    have hw : whoOf id = 0 := by simp [whoOf, hm]
    rw [hw, hm, hr]
    clear hw ht
    go_enter Tryd.func67, Tryd.ntmps67
    go_wp2
    go_ret2
    exact ⟨rfl, rfl⟩

theorem isRoot_c (id : Int) (w : World) (ht : Tab w) :
    Calls Tryd.prog 61 #[.int .i64 id] w fun e w' => e = .returned (.bool (isRoot id)) ∧ w' = w := by
  have hc := rowWho_c id w ht
  clear ht
  cases hr : isRoot id
  · cases hm : isMade id
    · rw [hr, hm] at hc
      have HC := Lib.hid hc; clear hc
      go_enter Tryd.func61, Tryd.ntmps61
      go_wp2_with (go_at_call 67; refine HC.out.mono ?_; rintro e w' ⟨rfl, rfl⟩)
      go_ret
      exact ⟨rfl, rfl⟩
    · rw [hr, hm] at hc
      have hw : (whoOf id == 0) = false := by rw [isMade_iff] at hm; simp [whoOf, isMade]; omega
      have HC := Lib.hid hc; clear hc
      go_enter Tryd.func61, Tryd.ntmps61
      go_wp2_with (go_at_call 67; refine HC.out.mono ?_; rintro e w' ⟨rfl, rfl⟩)
      go_ret
      exact ⟨rfl, rfl⟩
  · have hm := not_both id hr
    have hw : whoOf id = 0 := by simp [whoOf, hm]
    rw [hr, hm, hw] at hc
    clear hw
    have HC := Lib.hid hc; clear hc
    go_enter Tryd.func61, Tryd.ntmps61
    go_wp2_with (go_at_call 67; refine HC.out.mono ?_; rintro e w' ⟨rfl, rfl⟩)
    go_ret
    exact ⟨rfl, rfl⟩

theorem isMade_c (id : Int) (w : World) (ht : Tab w) :
    Calls Tryd.prog 79 #[.int .i64 id] w fun e w' => e = .returned (.bool (isMade id)) ∧ w' = w := by
  have hc := rowWho_c id w ht
  clear ht
  cases hm : isMade id
  · have hw : whoOf id = 0 := by simp [whoOf, hm]
    rw [hm, hw] at hc
    clear hw
    cases hr : isRoot id
    all_goals
      rw [hr] at hc
      have HC := Lib.hid hc; clear hc
      go_enter Tryd.func79, Tryd.ntmps79
      go_wp2_with (go_at_call 67; refine HC.out.mono ?_; rintro e w' ⟨rfl, rfl⟩)
      go_ret
      exact ⟨rfl, rfl⟩
  · have hr := made_not_root id hm
    rw [hr, hm] at hc
    have hw : (whoOf id != 0) = true := by rw [isMade_iff] at hm; simp [whoOf, isMade]; omega
    have HC := Lib.hid hc; clear hc
    go_enter Tryd.func79, Tryd.ntmps79
    go_wp2_with (go_at_call 67; refine HC.out.mono ?_; rintro e w' ⟨rfl, rfl⟩)
    go_ret
    exact ⟨rfl, rfl⟩
end Go.Proofs.YtjhbbgeebobcpaaDoor
namespace Go.Proofs.YtjhbbgeebobcpaaDoor
open Go.RowKit

/-- What lay there lies there still; new blocks may have come. -/
abbrev Ext (w w' : World) : Prop := Below w.heap.size w w'
theorem bcell {B : Nat} {W w1 : World} (hb : Below B W w1) : (∀ b o, b < B → w1.cell? ⟨b, o, none⟩ = W.cell? ⟨b, o, none⟩) ∧ (∀ b o, b < B → w1.frozen? ⟨b, o, none⟩ = W.frozen? ⟨b, o, none⟩) :=
  ⟨fun b o h => hb.cell (p := ⟨b, o, none⟩) h, fun b o h => hb.frozen (p := ⟨b, o, none⟩) h⟩
theorem Tab.below {B : Nat} {w w' : World} (h : Tab w) (hb : Below B w w') (hB : 0 < B) : Tab w' := fun id h0 h1 => (hb.cell (p := ⟨0, id.toNat, none⟩) hB).trans (h id h0 h1)
theorem Tab.pos {w : World} (h : Tab w) : 0 < w.heap.size := World.block_lt_of_cell? w ⟨0, 0, none⟩ (h 0 (by omega) (by omega))

theorem take_all (s : ByteArray) (k : Nat) (h : k < s.size) : ((s.data.toList.take (k + 1)).all letter) = ((s.data.toList.take k).all letter && letter s[k]) := by
  rw [List.take_succ_eq_append_getElem (by simpa using h), List.all_append]; simp; rfl

theorem all_bad (l : List UInt8) (k : Nat) (h : k < l.length) (hb : letter l[k] = false) : l.all letter = false := by
  rw [List.all_eq_false]; exact ⟨l[k], List.getElem_mem h, by simp [hb]⟩

set_option maxHeartbeats 400000 in
theorem textOk_c (s : ByteArray) (w : World) (hs : s.size ≤ maxLen) :
    Calls Tryd.prog 81 #[.string s] w fun e w' => e = .returned (.bool (textOk s)) ∧ w' = w := by
  unfold maxLen at hs
  by_cases h4 : s.size ≤ 4
  · go_enter Tryd.func81, Tryd.ntmps81
    go_wp2
    go_loop [3] (fun i => ∃ k : Nat, k ≤ s.size ∧ i = .int .i64 k ∧ (s.data.toList.take k).all letter = true) (fun i => s.size - (intOf i).toNat)
    case atStart => exact ⟨0, Nat.zero_le _, rfl, by simp⟩
    case round =>
      obtain ⟨k, hk, rfl, ha⟩ := hrel
      have HA := Lib.hid ha; clear ha
      by_cases hlt : k < s.size
      · have HT := Lib.hid (take_all s k hlt)
        cases hl : letter s[k]
        · have HB := Lib.hid (all_bad s.data.toList k (by simpa using hlt) hl)
          have hl' : ¬ (97 ≤ s[k].toNat ∧ s[k].toNat ≤ 100) := by simpa [letter] using hl
          clear hl
          by_cases h1 : (s[k].toNat : Int) < 97
          · go_wp2
            go_ret
            exact ⟨by rw [textOk, HB.out, Bool.and_false]; rfl, rfl⟩
          · have h2 : (100 : Int) < (s[k].toNat : Int) := by omega
            go_wp2
            go_ret
            exact ⟨by rw [textOk, HB.out, Bool.and_false]; rfl, rfl⟩
        · have HL := Lib.hid hl
          have hl' : (97 ≤ s[k].toNat ∧ s[k].toNat ≤ 100) := by simpa [letter] using hl
          clear hl
          have h1 : ¬ (s[k].toNat : Int) < 97 := by omega
          have h2 : ¬ (100 : Int) < (s[k].toNat : Int) := by omega
          go_wp2
          go_round
          case rel => exact ⟨k + 1, by omega, by go_num, by rw [HT.out, HA.out, HL.out]; rfl⟩
          case measure => simp [intOf]; omega
      · go_wp2
        go_ret
        exact ⟨by rw [textOk, decide_eq_true h4, Bool.true_and, ← HA.out, List.take_of_length_le (by simp; omega)]; rfl, rfl⟩
  · go_enter Tryd.func81, Tryd.ntmps81
    go_wp2
    go_ret
    exact ⟨by simp [textOk, h4], rfl⟩

def Row.val (r : Row) : Value := .agg #[.int .i64 r.id, .int .i64 r.depth, .string r.text]
def Op.val (o : Op) : Value := .agg #[.int .i64 o.kind, .int .i64 o.id, .int .i64 o.up, .int .i64 o.pos, .string o.text]
def Entry.val (e : Entry) : Value := .agg #[.int .i64 e.who, .int .i64 e.seq, .int .i64 e.op.kind, .int .i64 e.op.id, .int .i64 e.op.up, .int .i64 e.op.pos, .string e.op.text]

theorem bytes_empty (s : ByteArray) : decide (s = ⟨#[]⟩) = s.toList.isEmpty := by
  exact decide_eq_emptyBytes s

theorem rowOk_c (a b : Int) (s : ByteArray) (w : World) (ht : Tab w) (hs : s.size ≤ maxLen) :
    Calls Tryd.prog 60 #[.agg #[.int .i64 a, .int .i64 b, .string s]] w fun e w' => e = .returned (.bool (rowOk ⟨a, b, s⟩)) ∧ Ext w w' := by
  have hi := isRoot_c a (w.alloc (.cells #[.int .i64 a, .int .i64 b, .string s] 47)) (ht.below ((Below.refl _ _).alloc (Nat.le_refl _) _) ht.pos)
  have hm := isMade_c a (w.alloc (.cells #[.int .i64 a, .int .i64 b, .string s] 47)) (ht.below ((Below.refl _ _).alloc (Nat.le_refl _) _) ht.pos)
  have hx := textOk_c s (w.alloc (.cells #[.int .i64 a, .int .i64 b, .string s] 47)) hs
  cases hr : isRoot a
  · rw [hr] at hi
    cases hmm : isMade a
    · rw [hmm] at hm
      have HI := Lib.hid hi; have HM := Lib.hid hm; have HX := Lib.hid hx; clear hi hm hx ht
      go_enter Tryd.func60, Tryd.ntmps60
      go_wp2_with (first | (go_at_call 61; refine HI.out.mono ?_; rintro e w' ⟨rfl, rfl⟩) | (go_at_call 79; refine HM.out.mono ?_; rintro e w' ⟨rfl, rfl⟩) | (go_at_call 81; refine HX.out.mono ?_; rintro e w' ⟨rfl, rfl⟩))
      go_ret
      exact ⟨by simp [rowOk, hr, hmm], (Below.refl _ _).alloc (Nat.le_refl _) _⟩
    · rw [hmm] at hm
      have HI := Lib.hid hi; have HM := Lib.hid hm; have HX := Lib.hid hx; clear hi hm hx ht
      by_cases h1 : 1 ≤ b ∧ b ≤ 18
      · obtain ⟨h1, h2⟩ := h1
        go_enter Tryd.func60, Tryd.ntmps60
        go_wp2_with (first | (go_at_call 61; refine HI.out.mono ?_; rintro e w' ⟨rfl, rfl⟩) | (go_at_call 79; refine HM.out.mono ?_; rintro e w' ⟨rfl, rfl⟩) | (go_at_call 81; refine HX.out.mono ?_; rintro e w' ⟨rfl, rfl⟩))
        go_ret
        exact ⟨by simp [rowOk, hr, hmm, h1, h2], (Below.refl _ _).alloc (Nat.le_refl _) _⟩
      · go_enter Tryd.func60, Tryd.ntmps60
        go_wp2_with (first | (go_at_call 61; refine HI.out.mono ?_; rintro e w' ⟨rfl, rfl⟩) | (go_at_call 79; refine HM.out.mono ?_; rintro e w' ⟨rfl, rfl⟩))
        all_goals go_ret
        all_goals exact ⟨by simp [rowOk, hr, hmm]; omega, (Below.refl _ _).alloc (Nat.le_refl _) _⟩
  · rw [hr] at hi
    have hmm := not_both a hr
    have HX := Lib.hid hx; clear hx hm
    cases hb : (b == 0)
    · have hb' : b ≠ 0 := beq_eq_false_iff_ne.1 hb
      have HI := Lib.hid hi; clear hi
      go_enter Tryd.func60, Tryd.ntmps60
      go_wp2_with (go_at_call 61; refine HI.out.mono ?_; rintro e w' ⟨rfl, rfl⟩)
      go_ret
      exact ⟨by simp [rowOk, hr, hb'], (Below.refl _ _).alloc (Nat.le_refl _) _⟩
    · have hb' : b = 0 := beq_iff_eq.1 hb
      have HI := Lib.hid hi; have HB := Lib.hid hb'; clear hi hb'
      go_enter Tryd.func60, Tryd.ntmps60
      go_wp2_with (go_at_call 61; refine HI.out.mono ?_; rintro e w' ⟨rfl, rfl⟩)
      go_ret
      exact ⟨by simp [rowOk, hr, HB.out, bytes_empty], (Below.refl _ _).alloc (Nat.le_refl _) _⟩

theorem placeOk_c (a b : Int) (w : World) (ht : Tab w) :
    Calls Tryd.prog 80 #[.int .i64 a, .int .i64 b] w fun e w' => e = .returned (.bool (placeOk a b)) ∧ w' = w := by
  have h1 := isMade_c a w ht
  have h2 := isRoot_c a w ht
  have h3 := isMade_c b w ht
  clear ht
  cases ha : isMade a <;> cases hr : isRoot a <;> cases hb : (b == 0) <;> cases hm : isMade b
  all_goals
    rw [ha] at h1; rw [hr] at h2; rw [hm] at h3
    have hq : decide (b = 0) = (b == 0) := by rw [Bool.eq_iff_iff]; simp
    have HP := Lib.hid (show placeOk a b = ((isMade a || isRoot a) && ((b == 0) || isMade b)) by rw [placeOk, hq])
    have H1 := Lib.hid h1; have H2 := Lib.hid h2; have H3 := Lib.hid h3; have HA := Lib.hid ha; have HR := Lib.hid hr; have HM := Lib.hid hm; have HB := Lib.hid hb
    clear h1 h2 h3 ha hr hm hq
    go_enter Tryd.func80, Tryd.ntmps80
    go_wp2_with (first | (go_at_call 61; refine H2.out.mono ?_; rintro e w' ⟨rfl, rfl⟩) | (go_at_call 79; first | (with_reducible refine H1.out.mono ?_; rintro e w' ⟨rfl, rfl⟩) | (with_reducible refine H3.out.mono ?_; rintro e w' ⟨rfl, rfl⟩)))
    go_ret
    exact ⟨by rw [HP.out, HA.out, HR.out, HM.out, HB.out]; rfl, rfl⟩

/-- A change as the program's own kinds hold it. -/
def Op.chg (o : Op) : Value :=
  if isMade o.id then
    if o.kind = 1 then .iface 109 (.agg #[.int .i64 o.id, .int .i64 o.up, .int .i64 o.pos, .string o.text])
    else if o.kind = 2 then .iface 113 (.agg #[.int .i64 o.id, .string o.text])
    else if o.kind = 3 then .iface 115 (.agg #[.int .i64 o.id, .int .i64 o.up, .int .i64 o.pos])
    else .nilIface
  else .nilIface
end Go.Proofs.YtjhbbgeebobcpaaDoor
namespace Go.Proofs.YtjhbbgeebobcpaaDoor
open Go.RowKit

theorem Tab.drewN {w : World} (h : Tab w) (n : Nat) : Tab (w.drewN n) := fun id h0 h1 => h id h0 h1
theorem Tab.alloc {w : World} (h : Tab w) (o : Obj) : Tab (w.alloc o) := h.below ((Below.refl _ _).alloc (Nat.le_refl _) _) h.pos
theorem Ext.drewN {B : Nat} {w w' : World} (h : Below B w w') (n : Nat) : Below B w (w'.drewN n) := ⟨h.os, h.tape, h.output, h.size, h.block⟩
theorem Ext.drew {B : Nat} {w w' : World} (h : Below B w w') : Below B w w'.drew := ⟨h.os, h.tape, h.output, h.size, h.block⟩

theorem changeOf_make (o : Op) (w : World) (ht : Tab w) (hs : o.text.size ≤ maxLen) (hm : isMade o.id = true) (hk : o.kind = 1) :
    Calls Tryd.prog 56 #[o.val] w fun e w' => e = .returned (.tuple #[o.chg, .bool (opOk o)]) ∧ Ext w w' := by
  obtain ⟨k, a, up, pos, s⟩ := o
  subst hk
  have hc : Op.chg ⟨1, a, up, pos, s⟩ = .iface 109 (.agg #[.int .i64 a, .int .i64 up, .int .i64 pos, .string s]) := by simp [Op.chg, hm]
  have hv : opOk ⟨1, a, up, pos, s⟩ = (placeOk up pos && textOk s) := by simp [opOk, hm]
  rw [hc, hv]
  clear hc hv
  simp only [Op.val]
  have HT := Lib.hid ((ht.alloc (.cells #[.int .i64 1, .int .i64 a, .int .i64 up, .int .i64 pos, .string s] 42)))
  have hM := isMade_c a (w.alloc (.cells #[.int .i64 1, .int .i64 a, .int .i64 up, .int .i64 pos, .string s] 42)) HT.out
  rw [show isMade a = true from hm] at hM
  have HM := Lib.hid hM; have HS := Lib.hid hs
  clear ht hM hs hm
  cases hp : placeOk up pos
  all_goals
    have hP : ∀ n, Calls Tryd.prog 80 #[.int .i64 up, .int .i64 pos] ((w.alloc (.cells #[.int .i64 1, .int .i64 a, .int .i64 up, .int .i64 pos, .string s] 42)).drewN n) _ := fun n => placeOk_c up pos _ (HT.out.drewN n)
    rw [hp] at hP
    have HP := Lib.hid hP; clear hP hp
    go_enter Tryd.func56, Tryd.ntmps56
    go_wp2_with (go_at_call 79; refine HM.out.mono ?_; rintro e w' ⟨rfl, rfl⟩)
    go_quiet (first | (go_at_call 80; exact Calls.quiet_of_same (HP.out _)) | (go_at_call 81; exact Calls.quiet_of_same (textOk_c _ _ HS.out)))
    go_wp2
    go_ret2
    exact ⟨by simp, Ext.drewN ((Below.refl _ _).alloc (Nat.le_refl _) _) _⟩

theorem changeOf_text (o : Op) (w : World) (ht : Tab w) (hs : o.text.size ≤ maxLen) (hm : isMade o.id = true) (hk : o.kind = 2) :
    Calls Tryd.prog 56 #[o.val] w fun e w' => e = .returned (.tuple #[o.chg, .bool (opOk o)]) ∧ Ext w w' := by
  obtain ⟨k, a, up, pos, s⟩ := o
  subst hk
  have hc : Op.chg ⟨2, a, up, pos, s⟩ = .iface 113 (.agg #[.int .i64 a, .string s]) := by simp [Op.chg, hm]
  have hv : opOk ⟨2, a, up, pos, s⟩ = ((up == 0) && (pos == 0) && textOk s) := by simp [opOk, hm]; rw [Bool.eq_iff_iff]; simp
  rw [hc, hv]
  clear hc hv
  simp only [Op.val]
  have HT := Lib.hid ((ht.alloc (.cells #[.int .i64 2, .int .i64 a, .int .i64 up, .int .i64 pos, .string s] 42)))
  have hM := isMade_c a (w.alloc (.cells #[.int .i64 2, .int .i64 a, .int .i64 up, .int .i64 pos, .string s] 42)) HT.out
  rw [show isMade a = true from hm] at hM
  have HM := Lib.hid hM; have HS := Lib.hid hs
  clear ht hM hs hm
  cases h1 : (up == 0) <;> cases h2 : (pos == 0)
  all_goals
    go_enter Tryd.func56, Tryd.ntmps56
    go_wp2_with (go_at_call 79; refine HM.out.mono ?_; rintro e w' ⟨rfl, rfl⟩)
    go_quiet ((go_at_call 81; exact Calls.quiet_of_same (textOk_c _ _ HS.out)))
    go_wp2
    go_ret2
    exact ⟨by simp, Ext.drewN ((Below.refl _ _).alloc (Nat.le_refl _) _) _⟩

theorem changeOf_move (o : Op) (w : World) (ht : Tab w) (hs : o.text.size ≤ maxLen) (hm : isMade o.id = true) (hk : o.kind = 3) :
    Calls Tryd.prog 56 #[o.val] w fun e w' => e = .returned (.tuple #[o.chg, .bool (opOk o)]) ∧ Ext w w' := by
  obtain ⟨k, a, up, pos, s⟩ := o
  subst hk
  have hc : Op.chg ⟨3, a, up, pos, s⟩ = .iface 115 (.agg #[.int .i64 a, .int .i64 up, .int .i64 pos]) := by simp [Op.chg, hm]
  have hv : opOk ⟨3, a, up, pos, s⟩ = (placeOk up pos && s.toList.isEmpty) := by simp [opOk, hm, bytes_empty]
  rw [hc, hv]
  clear hc hv
  simp only [Op.val]
  have HT := Lib.hid ((ht.alloc (.cells #[.int .i64 3, .int .i64 a, .int .i64 up, .int .i64 pos, .string s] 42)))
  have hM := isMade_c a (w.alloc (.cells #[.int .i64 3, .int .i64 a, .int .i64 up, .int .i64 pos, .string s] 42)) HT.out
  rw [show isMade a = true from hm] at hM
  have HM := Lib.hid hM
  clear ht hM hs hm
  cases hp : placeOk up pos
  all_goals
    have hP : ∀ n, Calls Tryd.prog 80 #[.int .i64 up, .int .i64 pos] ((w.alloc (.cells #[.int .i64 3, .int .i64 a, .int .i64 up, .int .i64 pos, .string s] 42)).drewN n) _ := fun n => placeOk_c up pos _ (HT.out.drewN n)
    rw [hp] at hP
    have HP := Lib.hid hP; clear hP hp
    go_enter Tryd.func56, Tryd.ntmps56
    go_wp2_with (go_at_call 79; refine HM.out.mono ?_; rintro e w' ⟨rfl, rfl⟩)
    go_quiet ((go_at_call 80; exact Calls.quiet_of_same (HP.out _)))
    go_wp2
    go_ret2
    exact ⟨by simp, Ext.drewN ((Below.refl _ _).alloc (Nat.le_refl _) _) _⟩

theorem changeOf_none (o : Op) (w : World) (ht : Tab w) (hb : isMade o.id = false ∨ o.kind ≠ 1 ∧ o.kind ≠ 2 ∧ o.kind ≠ 3) :
    Calls Tryd.prog 56 #[o.val] w fun e w' => e = .returned (.tuple #[o.chg, .bool (opOk o)]) ∧ Ext w w' := by
  obtain ⟨k, a, up, pos, s⟩ := o
  simp only at hb
  have hc : Op.chg ⟨k, a, up, pos, s⟩ = .nilIface := by
    rcases hb with h | ⟨h1, h2, h3⟩
    · simp [Op.chg, h]
    · simp [Op.chg, h1, h2, h3]
  have hv : opOk ⟨k, a, up, pos, s⟩ = false := by
    rcases hb with h | ⟨h1, h2, h3⟩
    · simp [opOk, h]
    · simp [opOk, h1, h2, h3]
  rw [hc, hv]
  clear hc hv
  simp only [Op.val]
  have HT := Lib.hid ((ht.alloc (.cells #[.int .i64 k, .int .i64 a, .int .i64 up, .int .i64 pos, .string s] 42)))
  have hM := isMade_c a (w.alloc (.cells #[.int .i64 k, .int .i64 a, .int .i64 up, .int .i64 pos, .string s] 42)) HT.out
  cases hm : isMade a
  · rw [hm] at hM
    have HM := Lib.hid hM
    clear ht hM hm hb
    go_enter Tryd.func56, Tryd.ntmps56
    go_wp2_with (go_at_call 79; refine HM.out.mono ?_; rintro e w' ⟨rfl, rfl⟩)
    go_ret2
    exact ⟨rfl, (Below.refl _ _).alloc (Nat.le_refl _) _⟩
  · have h123 : k ≠ 1 ∧ k ≠ 2 ∧ k ≠ 3 := by
      rcases hb with h | h
      · rw [hm] at h; cases h
      · exact h
    obtain ⟨h1, h2, h3⟩ := h123
    have b1 : (k == 1) = false := beq_eq_false_iff_ne.2 h1
    have b2 : (k == 2) = false := beq_eq_false_iff_ne.2 h2
    have b3 : (k == 3) = false := beq_eq_false_iff_ne.2 h3
    rw [hm] at hM
    have HM := Lib.hid hM
    clear ht hM hm hb h1 h2 h3
    go_enter Tryd.func56, Tryd.ntmps56
    go_wp2_with (go_at_call 79; refine HM.out.mono ?_; rintro e w' ⟨rfl, rfl⟩)
    go_ret2
    exact ⟨rfl, (Below.refl _ _).alloc (Nat.le_refl _) _⟩

theorem changeOf_c (o : Op) (w : World) (ht : Tab w) (hs : o.text.size ≤ maxLen) :
    Calls Tryd.prog 56 #[o.val] w fun e w' => e = .returned (.tuple #[o.chg, .bool (opOk o)]) ∧ Ext w w' := by
  by_cases hb : isMade o.id = false ∨ o.kind ≠ 1 ∧ o.kind ≠ 2 ∧ o.kind ≠ 3
  · exact changeOf_none o w ht hb
  · have hm : isMade o.id = true := by
      cases h : isMade o.id
      · exact absurd (.inl h) hb
      · rfl
    by_cases h1 : o.kind = 1
    · exact changeOf_make o w ht hs hm h1
    · by_cases h2 : o.kind = 2
      · exact changeOf_text o w ht hs hm h2
      · by_cases h3 : o.kind = 3
        · exact changeOf_move o w ht hs hm h3
        · exact absurd (.inr ⟨h1, h2, h3⟩) hb

theorem opOk_c (o : Op) (w : World) (ht : Tab w) (hs : o.text.size ≤ maxLen) :
    Calls Tryd.prog 66 #[o.val] w fun e w' => e = .returned (.bool (opOk o)) ∧ Ext w w' := by
  have hC := changeOf_c o (w.alloc (.cells #[.int .i64 o.kind, .int .i64 o.id, .int .i64 o.up, .int .i64 o.pos, .string o.text] 42)) (ht.alloc _) hs
  have HC := Lib.hid hC
  clear hC ht hs
  simp only [Op.val] at HC ⊢
  go_enter Tryd.func66, Tryd.ntmps66
  go_wp2_with (go_at_call 56; refine HC.out.mono ?_; rintro e w' ⟨rfl, hb⟩)
  go_ret
  exact ⟨rfl, ((Below.refl _ _).alloc (Nat.le_refl _) _).trans (hb.mono (by simp))⟩

set_option maxHeartbeats 1000000 in
theorem entryOk_c (e : Entry) (w : World) (ht : Tab w) (hs : e.op.text.size ≤ maxLen) :
    Calls Tryd.prog 32 #[e.val] w fun x w' => x = .returned (.bool (entryOk e)) ∧ Ext w w' := by
  obtain ⟨who, seq, k, a, up, pos, s⟩ := e
  simp only [Entry.val]
  have ht1 := ht.alloc (.cells #[.int .i64 who, .int .i64 seq, .int .i64 k, .int .i64 a, .int .i64 up, .int .i64 pos, .string s] 44)
  have hW := whoOk_c who (w.alloc (.cells #[.int .i64 who, .int .i64 seq, .int .i64 k, .int .i64 a, .int .i64 up, .int .i64 pos, .string s] 44))
  have hO := opOk_c ⟨k, a, up, pos, s⟩ (w.alloc (.cells #[.int .i64 who, .int .i64 seq, .int .i64 k, .int .i64 a, .int .i64 up, .int .i64 pos, .string s] 44)) ht1 hs
  simp only [Op.val] at hO
  cases hw : isWho who
  · rw [hw] at hW
    have HW := Lib.hid hW; clear hW hO ht ht1 hs
    go_enter Tryd.func32, Tryd.ntmps32
    go_wp2_with (go_at_call 44; refine HW.out.mono ?_; rintro e w' ⟨rfl, rfl⟩)
    go_ret
    exact ⟨by simp [entryOk, hw], (Below.refl _ _).alloc (Nat.le_refl _) _⟩
  · rw [hw] at hW
    have HW := Lib.hid hW
    by_cases hq : 1 ≤ seq ∧ seq ≤ 40
    · obtain ⟨hq1, hq2⟩ := hq
      cases ho : opOk ⟨k, a, up, pos, s⟩
      · rw [ho] at hO
        have HO := Lib.hid hO; clear hW hO ht ht1 hs
        go_enter Tryd.func32, Tryd.ntmps32
        go_wp2_with (first | (go_at_call 44; refine HW.out.mono ?_; rintro e w' ⟨rfl, rfl⟩) | (go_at_call 66; refine HO.out.mono ?_; rintro e w' ⟨rfl, hb⟩))
        go_ret
        exact ⟨by simp [entryOk, ho], ((Below.refl _ _).alloc (Nat.le_refl _) _).trans (hb.mono (by simp))⟩
      · rw [ho] at hO
        have HO := Lib.hid hO
        have HT := Lib.hid ht1
        have hv : entryOk ⟨who, seq, k, a, up, pos, s⟩ = ((k != 1) || (whoOf a == who)) := by
          simp [entryOk, ho, hw, hq1, hq2]; rw [Bool.eq_iff_iff]; simp
        rw [hv]
        clear hW hO ht ht1 hs hv
        cases hk : (k != 1)
        all_goals
          go_enter Tryd.func32, Tryd.ntmps32
          go_wp2_with (first | (go_at_call 44; refine HW.out.mono ?_; rintro e w' ⟨rfl, rfl⟩) | (go_at_call 66; refine HO.out.mono ?_; rintro e w' ⟨rfl, hb⟩; obtain ⟨hc1, hf1⟩ := bcell hb) | (go_at_call 67; refine (rowWho_c a _ (HT.out.below hb (by simp))).mono ?_; rintro e w' ⟨rfl, rfl⟩))
          go_ret
          exact ⟨by simp, ((Below.refl _ _).alloc (Nat.le_refl _) _).trans (hb.mono (by simp))⟩
    · clear hW hO ht ht1 hs
      by_cases hq1 : 1 ≤ seq
      · have hq2 : 40 < seq := by omega
        go_enter Tryd.func32, Tryd.ntmps32
        go_wp2_with (first | (go_at_call 44; refine HW.out.mono ?_; rintro e w' ⟨rfl, rfl⟩))
        go_ret
        exact ⟨by simp [entryOk]; omega, (Below.refl _ _).alloc (Nat.le_refl _) _⟩
      · have hq2 : seq < 1 := by omega
        go_enter Tryd.func32, Tryd.ntmps32
        go_wp2_with (first | (go_at_call 44; refine HW.out.mono ?_; rintro e w' ⟨rfl, rfl⟩))
        go_ret
        exact ⟨by simp [entryOk]; omega, (Below.refl _ _).alloc (Nat.le_refl _) _⟩
end Go.Proofs.YtjhbbgeebobcpaaDoor
