/- Plain laws: what hearing makes of a client. Plain laws: hearing in parts, and twice. The walk of laws.FnHearShow, over what is drawn. THE ROW AND THE CARD OF laws.FnHearShow. -/
import Derived.Test.YtjhbbgeebobcpaaDoorRQ
import Derived.Test.YtjhbbgeebobcpaaDoorQW
namespace Go.Proofs.YtjhbbgeebobcpaaDoor
open Go.RowKit
set_option linter.unusedVariables false

/-- How many of the entries are somebody's own. -/
def ownN (who : Int) (l : List Entry) : Nat := l.countP (fun e => decide (e.who = who))
theorem ownN_cons (who : Int) (e : Entry) (l : List Entry) : ownN who (e :: l) = ownN who l + if e.who = who then 1 else 0 := by
  unfold ownN; rw [List.countP_cons]; simp
theorem hearL_some (who : Int) : ∀ (l q : List Entry) (t : List Row) (d n : Int) (q' : List Entry) (t' : List Row) (d' n' : Int), hearL who l q t d n = some (q', t', d', n') →
    q' = q.drop (ownN who l) ∧ ownN who l ≤ q.length ∧ t' = runOps t l ∧ d' = d + ownN who l ∧ n' = n + l.length := by
  intro l
  induction l with
  | nil =>
    intro q t d n q' t' d' n' h
    simp only [hearL, Option.some.injEq, Prod.mk.injEq] at h
    obtain ⟨rfl, rfl, rfl, rfl⟩ := h
    exact ⟨by simp [ownN], by simp [ownN], rfl, by simp [ownN], by simp⟩
  | cons e l ih =>
    intro q t d n q' t' d' n' h
    rw [ownN_cons]
    unfold hearL at h
    by_cases hw : e.who = who
    · rw [if_pos hw] at h ⊢
      cases q with
      | nil => simp at h
      | cons e0 q0 =>
        simp only at h
        split at h
        · obtain ⟨a1, a2, a3, a4, a5⟩ := ih _ _ _ _ _ _ _ _ h
          refine ⟨by rw [a1]; rfl, by simp only [List.length_cons]; omega, by rw [a3]; rfl, by rw [a4]; omega, by rw [a5]; simp only [List.length_cons]; omega⟩
        · cases h
    · rw [if_neg hw] at h ⊢
      obtain ⟨a1, a2, a3, a4, a5⟩ := ih _ _ _ _ _ _ _ _ h
      exact ⟨a1, a2, by rw [a3]; rfl, a4, by rw [a5]; simp only [List.length_cons]; omega⟩
theorem hearL_cons (who : Int) (e : Entry) (l q : List Entry) (t : List Row) (d n : Int) : hearL who (e :: l) q t d n = if e.who = who then (match q with | e0 :: q' => if e0 = e then hearL who l q' (opDo t e.op) (d + 1) (n + 1) else none | [] => none) else hearL who l q (opDo t e.op) d (n + 1) := by
  cases q <;> rfl
theorem hearL_append (who : Int) : ∀ (l m q : List Entry) (t : List Row) (d n : Int), hearL who (l ++ m) q t d n = (hearL who l q t d n).bind fun p => hearL who m p.1 p.2.1 p.2.2.1 p.2.2.2 := by
  intro l
  induction l with
  | nil => intro m q t d n; rfl
  | cons e l ih =>
    intro m q t d n
    rw [List.cons_append, hearL_cons, hearL_cons]
    by_cases hw : e.who = who
    · rw [if_pos hw, if_pos hw]
      cases q with
      | nil => rfl
      | cons e0 q0 =>
        simp only
        by_cases he : e0 = e
        · rw [if_pos he, if_pos he]; exact ih _ _ _ _ _
        · rw [if_neg he, if_neg he]; rfl
    · rw [if_neg hw, if_neg hw]; exact ih _ _ _ _ _
theorem hearL_own (who : Int) : ∀ (l : List Entry) (t : List Row) (d n : Int), (∀ e ∈ l, e.who = who) → hearL who l l t d n = some ([], runOps t l, d + l.length, n + l.length) := by
  intro l
  induction l with
  | nil => intro t d n _; simp [hearL, runOps]
  | cons e l ih =>
    intro t d n h
    unfold hearL
    rw [if_pos (h e List.mem_cons_self)]
    simp only [if_true]
    rw [ih _ _ _ (fun x hx => h x (List.mem_cons_of_mem _ hx))]
    simp only [Option.some.injEq, Prod.mk.injEq, List.length_cons, true_and]
    refine ⟨rfl, by omega, by omega⟩
theorem waitOk_who {c : Client} (h : waitOk c = true) : ∀ e ∈ c.wait, entryOk e = true ∧ e.who = c.who := fun e he => by
  obtain ⟨k, hk, rfl⟩ := List.getElem_of_mem he
  have h1 := waitOk_at h k hk
  unfold waitAt at h1
  simp only [Bool.and_eq_true, decide_eq_true_eq] at h1
  exact ⟨h1.1.1.1, h1.1.1.2⟩
/-- Told of its own alone. -/
theorem hear_own {c : Client} (h : clientOk c = true) (hl : c.seen + c.wait.length ≤ 40) : clientHear c c.seen c.wait = (⟨c.who, c.seen + c.wait.length, runOps c.base c.wait, [], c.done + c.wait.length, c.made⟩, true) := by
  obtain ⟨hw9, hs0, hs40, htr, hd0, hd1, hwl, hm0, hm1, hwt⟩ := clientOk_parts h
  rw [clientHear_S c c.seen c.wait h hs0 hs40 (fun e he => (waitOk_who hwt e he).1)]
  unfold hearS
  rw [if_neg (by omega), show (c.seen - c.seen).toNat = 0 by omega, List.drop_zero, hearL_own c.who c.wait c.base c.done c.seen (fun e he => (waitOk_who hwt e he).2)]
theorem clientHear_true {c : Client} {frm : Int} {l : List Entry} (h : (clientHear c frm l).2 = true) : clientOk c = true ∧ 0 ≤ frm ∧ frm ≤ 40 ∧ (∀ e ∈ l, entryOk e = true) ∧ frm ≤ c.seen ∧ frm + l.length ≤ 40 ∧
    ∃ q t d n, hearL c.who (l.drop (c.seen - frm).toNat) c.wait c.base c.done c.seen = some (q, t, d, n) ∧ clientHear c frm l = (⟨c.who, n, t, q, d, c.made⟩, true) := by
  by_cases hb : clientOk c = false ∨ frm < 0 ∨ 40 < frm
  · unfold clientHear at h; rw [if_pos hb] at h; cases h
  have hok : clientOk c = true := by
    cases h9 : clientOk c
    · exact absurd (.inl h9) hb
    · rfl
  have h0 : ¬ frm < 0 := fun e => hb (.inr (.inl e))
  have h1 : ¬ 40 < frm := fun e => hb (.inr (.inr e))
  cases hall : l.all entryOk
  · unfold clientHear at h; rw [if_neg hb, if_pos hall] at h; cases h
  have hall' : ∀ x ∈ l, entryOk x = true := List.all_eq_true.1 hall
  have hS := clientHear_S c frm l hok (by omega) (by omega) hall'
  rw [hS] at h ⊢
  refine ⟨hok, by omega, by omega, hall', ?_⟩
  unfold hearS at h ⊢
  by_cases hf : c.seen < frm ∨ 40 - frm < l.length
  · rw [if_pos hf] at h; cases h
  rw [if_neg hf] at h ⊢
  refine ⟨by omega, by omega, ?_⟩
  cases hh : hearL c.who (l.drop (c.seen - frm).toNat) c.wait c.base c.done c.seen with
  | none => rw [hh] at h; cases h
  | some p =>
    obtain ⟨q, t, d, n⟩ := p
    exact ⟨q, t, d, n, rfl, rfl⟩
end Go.Proofs.YtjhbbgeebobcpaaDoor
namespace Go.Proofs.YtjhbbgeebobcpaaDoor
open Go.RowKit
set_option linter.unusedVariables false

theorem clientHear_of {c : Client} {frm : Int} {l q : List Entry} {t : List Row} {d n : Int} (hok : clientOk c = true) (h0 : 0 ≤ frm) (h1 : frm ≤ 40) (hall : ∀ e ∈ l, entryOk e = true) (hf : frm ≤ c.seen) (hl : frm + l.length ≤ 40) (hh : hearL c.who (l.drop (c.seen - frm).toNat) c.wait c.base c.done c.seen = some (q, t, d, n)) :
    clientHear c frm l = (⟨c.who, n, t, q, d, c.made⟩, true) := by
  rw [clientHear_S c frm l hok h0 h1 hall]
  unfold hearS
  rw [if_neg (by omega), hh]
/-- What has been heard: its parts. -/
theorem hear_parts {c : Client} {frm : Int} {l : List Entry} (h : (clientHear c frm l).2 = true) :
    (clientHear c frm l).1 = ⟨c.who, max c.seen (frm + l.length), runOps c.base (l.drop (c.seen - frm).toNat), c.wait.drop (ownN c.who (l.drop (c.seen - frm).toNat)), c.done + ownN c.who (l.drop (c.seen - frm).toNat), c.made⟩ ∧ ownN c.who (l.drop (c.seen - frm).toNat) ≤ c.wait.length ∧ clientOk (clientHear c frm l).1 = true := by
  obtain ⟨hok, h0, h1, hall, hf, hl, q, t, d, n, hh, he⟩ := clientHear_true h
  obtain ⟨a1, a2, a3, a4, a5⟩ := hearL_some _ _ _ _ _ _ _ _ _ _ hh
  have hk : clientOk (clientHear c frm l).1 = true := by rw [clientHear_S c frm l hok h0 h1 hall]; exact hearS_ok hok h0 hall
  refine ⟨?_, a2, hk⟩
  rw [he, a1, a3, a4, a5, List.length_drop]
  simp only [Client.mk.injEq, true_and, and_true]
  omega
/-- What is in is not in twice. -/
theorem hear_twice {c : Client} {frm : Int} {l : List Entry} (h : (clientHear c frm l).2 = true) : clientHear (clientHear c frm l).1 frm l = ((clientHear c frm l).1, true) := by
  obtain ⟨hp, -, hk⟩ := hear_parts h
  obtain ⟨hok, h0, h1, hall, hf, hl, _⟩ := clientHear_true h
  generalize hx : (clientHear c frm l).1 = x at hp hk
  have hs : x.seen = max c.seen (frm + l.length) := by rw [hp]
  have hd : l.drop (x.seen - frm).toNat = [] := List.drop_of_length_le (by omega)
  rw [clientHear_of (q := x.wait) (t := x.base) (d := x.done) (n := x.seen) hk h0 h1 hall (by omega) hl (by rw [hd]; rfl)]
/-- In parts it is as at once. -/
theorem hear_cut {c : Client} {frm : Int} {l : List Entry} (h : (clientHear c frm l).2 = true) (k : Nat) (hkl : k ≤ l.length) :
    (clientHear c frm (l.take k)).2 = true ∧ clientHear (clientHear c frm (l.take k)).1 (frm + k) (l.drop k) = clientHear c frm l := by
  obtain ⟨hok, h0, h1, hall, hf, hl, q, t, d, n, hh, he⟩ := clientHear_true h
  have hlk : (l.take k).length = k := by rw [List.length_take]; omega
  have hld : (l.drop k).length = l.length - k := List.length_drop
  have hs40 := (clientOk_parts hok).2.2.1
  have hall1 : ∀ e ∈ l.take k, entryOk e = true := fun e he => hall e (List.mem_of_mem_take he)
  have hall2 : ∀ e ∈ l.drop k, entryOk e = true := fun e he => hall e (List.mem_of_mem_drop he)
  obtain ⟨j, hj⟩ : ∃ j : Nat, j = (c.seen - frm).toNat := ⟨_, rfl⟩
  rw [← hj] at hh
  have hsplit : l.drop j = (l.take k).drop j ++ (l.drop k).drop (j - k) := by
    have h9 := List.drop_append (l₁ := l.take k) (l₂ := l.drop k) (i := j)
    rw [List.take_append_drop, hlk] at h9
    exact h9
  rw [hsplit, hearL_append] at hh
  cases h1' : hearL c.who ((l.take k).drop j) c.wait c.base c.done c.seen with
  | none => rw [h1'] at hh; cases hh
  | some p =>
    obtain ⟨q1, t1, d1, n1⟩ := p
    rw [h1'] at hh
    simp only [Option.bind_some] at hh
    have e1 := clientHear_of (frm := frm) (l := l.take k) (q := q1) (t := t1) (d := d1) (n := n1) hok h0 h1 hall1 hf (by omega) (by rw [← hj]; exact h1')
    have hk1 : clientOk (clientHear c frm (l.take k)).1 = true := by rw [clientHear_S c frm (l.take k) hok h0 h1 hall1]; exact hearS_ok hok h0 hall1
    rw [e1] at hk1 ⊢
    refine ⟨rfl, ?_⟩
    have hn1 : n1 = c.seen + ((l.take k).drop j).length := (hearL_some _ _ _ _ _ _ _ _ _ _ h1').2.2.2.2
    rw [List.length_drop, hlk] at hn1
    rw [he]
    have hjn : (n1 - (frm + k)).toNat = j - k := by omega
    exact clientHear_of (c := ⟨c.who, n1, t1, q1, d1, c.made⟩) hk1 (by omega) (by omega) hall2 (by show frm + k ≤ n1; omega) (by omega) (by show hearL c.who ((l.drop k).drop (n1 - (frm + k)).toNat) q1 t1 d1 n1 = _; rw [hjn]; exact hh)
end Go.Proofs.YtjhbbgeebobcpaaDoor
namespace Go.Proofs.YtjhbbgeebobcpaaDoor
open Go.RowKit
set_option linter.unusedVariables false

set_option maxRecDepth 100000 in
set_option maxHeartbeats 4000000 in
theorem hearShow_walk (hD : DrawsShow) (A : Option Addr) (n : Nat) (bs : List UInt8) (w : World) (ht : Tab w) (hr : Rd w A n bs) (hA : ∀ b off, A = some ⟨b, off, none⟩ → b < w.heap.size) :
    Calls Tryd.prog 6 #[.slice A bs.length n] w fun e w' => e = .returned (.bool true) ∧ Ext w w' := by
  have hm : bs.length ≤ maxLen := Nat.le_trans hr.1 hr.2.1
  unfold maxLen at hm
  have hpos := ht.pos
  have HT := Lib.hid ht
  have HDR := Lib.hid (hD A n bs w hr hA)
  clear hD hr hA ht
  go_enter Tryd.func6, Tryd.ntmps6
  by_cases hlong : (1048576 : Int) < bs.length
  · go_wp2_with fail
    go_ret
    exact ⟨rfl, Below.refl _ _⟩
  go_wp2_with fail
  refine HDR.out.mono ?_
  rintro e w1 ⟨c, v, rfl, hcv, hcw, hb1⟩
  have hs1 := hb1.size
  have HC := Lib.hid hcw
  obtain ⟨A1, n1, A2, n2, rfl, h1, h2⟩ := hcv
  have hE2 : Ext w1 (w1.alloc (.cells #[.int .i64 c.who, .int .i64 c.seen, .slice A1 c.base.length n1, .slice A2 c.wait.length n2, .int .i64 c.done, .int .i64 c.made] 30)) := (Below.refl _ w1).alloc (Nat.le_refl _) _
  have HX2 := Lib.hid (World.alloc_heap_new w1 (.cells #[.int .i64 c.who, .int .i64 c.seen, .slice A1 c.base.length n1, .slice A2 c.wait.length n2, .int .i64 c.done, .int .i64 c.made] 30))
  have hsz2 := alloc_sz w1 (.cells #[.int .i64 c.who, .int .i64 c.seen, .slice A1 c.base.length n1, .slice A2 c.wait.length n2, .int .i64 c.done, .int .i64 c.made] 30)
  have HR1 := Lib.hid (h1.ext hE2); have HR2 := Lib.hid (h2.ext hE2)
  have HE2 := Lib.hid (hb1.trans (hE2.mono hs1))
  clear HDR hcw h1 h2 hE2 hb1
  go_wp2_with fail
  generalize (w1.alloc (.cells #[.int .i64 c.who, .int .i64 c.seen, .slice A1 c.base.length n1, .slice A2 c.wait.length n2, .int .i64 c.done, .int .i64 c.made] 30)) = W at *
  have HV : Hid (CV W c (.agg #[.int .i64 c.who, .int .i64 c.seen, .slice A1 c.base.length n1, .slice A2 c.wait.length n2, .int .i64 c.done, .int .i64 c.made])) := ⟨A1, n1, A2, n2, rfl, HR1.out, HR2.out⟩
  refine (clientShow_c c _ W (HT.out.below HE2.out hpos) HV.out).mono ?_
  rintro e w3 ⟨v3, rfl, ho3, hb3⟩
  obtain ⟨G, gn, rfl, hr3⟩ := ho3.rd
  have HE3 := Lib.hid hb3; have HG3 := Lib.hid hr3; have hs3 := hb3.size
  clear ho3 hr3 hb3
  obtain ⟨c0, c1, c2, c3, c4, c5, cf⟩ := six_cells ((HE3.out.block w1.heap.size (blk_lt HX2.out)).trans HX2.out)
  go_wp2_with fail
  refine (clientShow_s c _ w3 (HV.out.ext HE3.out) HC.out).mono ?_
  rintro e w4 ⟨v4, rfl, ho4, hb4⟩
  rw [← showL_showS] at ho4
  obtain ⟨S, sn, rfl, hr4⟩ := ho4.rd
  have HE4 := Lib.hid (HE3.out.trans (hb4.mono HE3.out.size)); have hs4 := hb4.size
  have hLP := lpRows_c G gn (showL c) S sn (showL c) w4 (HG3.out.ext hb4) hr4
  rw [show decide (showL c = showL c) = true by simp] at hLP
  have HLP := Lib.hid hLP; have HG4 := Lib.hid (HG3.out.ext hb4)
  clear ho4 hr4 hb4 hLP c0 c1 c2 c3 c4 c5 cf
  go_wp2_with fail
  refine HLP.out.mono ?_
  rintro e w5 ⟨rfl, m5, hw5⟩
  have hb5 : Ext w4 w5 := by rw [hw5]; exact Ext.drewN (Below.refl _ _) _
  have HE5 := Lib.hid (HE4.out.trans (hb5.mono HE4.out.size)); have HG5 := Lib.hid (HG4.out.ext hb5); have hs5 := hb5.size
  clear hb5 hw5 HLP
  obtain ⟨c0, c1, c2, c3, c4, c5, cf⟩ := six_cells ((HE5.out.block w1.heap.size (blk_lt HX2.out)).trans HX2.out)
  go_wp2_with fail
  refine (clientOk_s c _ w5 (HV.out.ext HE5.out) HC.out).mono ?_
  rintro e w6 ⟨rfl, hb6⟩
  have HE6 := Lib.hid (HE5.out.trans (hb6.mono HE5.out.size)); have HG6 := Lib.hid (HG5.out.ext hb6); have hs6 := hb6.size
  clear hb6 c0 c1 c2 c3 c4 c5 cf
  obtain ⟨c0, c1, c2, c3, c4, c5, cf⟩ := six_cells ((HE6.out.block w1.heap.size (blk_lt HX2.out)).trans HX2.out)
  cases hok : clientOk c
  · clear hok
    go_wp2_with fail
    refine (clientShow_s c _ w6 (HV.out.ext HE6.out) HC.out).mono ?_
    rintro e w7 ⟨v7, rfl, ho7, hb7⟩
    rw [← showL_showS] at ho7
    obtain ⟨S2, sn2, rfl, hr7⟩ := ho7.rd
    have HE7 := Lib.hid (HE6.out.trans (hb7.mono HE6.out.size))
    have hLP := lpRows_c G gn (showL c) S2 sn2 (showL c) w7 (HG6.out.ext hb7) hr7
    rw [show decide (showL c = showL c) = true by simp] at hLP
    have HLP := Lib.hid hLP
    clear ho7 hr7 hb7 hLP c0 c1 c2 c3 c4 c5 cf
    go_wp2_with fail
    refine HLP.out.mono ?_
    rintro e w8 ⟨rfl, m8, hw8⟩
    have HE8 : Hid (Ext w w8) := by
      show Ext w w8
      rw [hw8]
      exact Ext.drewN (HE2.out.trans (HE7.out.mono (by omega))) _
    clear hw8
    go_wp2_with fail
    go_ret
    exact ⟨rfl, HE8.out⟩
  by_cases hsum : (40 : Int) < c.seen + c.wait.length
  · have hwl := (clientOk_parts hok).2.2.2.2.2.2.1
    have hd0 := (clientOk_parts hok).2.2.2.2.1
    have hs9 := (clientOk_parts hok).2.1
    have hs8 := (clientOk_parts hok).2.2.1
    clear hok
    go_wp2_with fail
    refine (clientShow_s c _ w6 (HV.out.ext HE6.out) HC.out).mono ?_
    rintro e w7 ⟨v7, rfl, ho7, hb7⟩
    rw [← showL_showS] at ho7
    obtain ⟨S2, sn2, rfl, hr7⟩ := ho7.rd
    have HE7 := Lib.hid (HE6.out.trans (hb7.mono HE6.out.size))
    have hLP := lpRows_c G gn (showL c) S2 sn2 (showL c) w7 (HG6.out.ext hb7) hr7
    rw [show decide (showL c = showL c) = true by simp] at hLP
    have HLP := Lib.hid hLP
    clear ho7 hr7 hb7 hLP c0 c1 c2 c3 c4 c5 cf
    go_wp2_with fail
    refine HLP.out.mono ?_
    rintro e w8 ⟨rfl, m8, hw8⟩
    have HE8 : Hid (Ext w w8) := by
      show Ext w w8
      rw [hw8]
      exact Ext.drewN (HE2.out.trans (HE7.out.mono (by omega))) _
    clear hw8
    go_wp2_with fail
    go_ret
    exact ⟨rfl, HE8.out⟩
  obtain ⟨hw9, hs0, hs40, htr, hd0, hd1, hwl, hm0, hm1, hwt⟩ := clientOk_parts hok
  have hown := hear_own hok (by omega)
  have hxok : clientOk (clientHear c c.seen c.wait).1 = true := by
    rw [clientHear_S c c.seen c.wait hok hs0 hs40 (fun e he => (waitOk_who hwt e he).1)]
    exact hearS_ok hok hs0 (fun e he => (waitOk_who hwt e he).1)
  rw [hown] at hxok
  simp only at hxok
  obtain ⟨p1, p2, p3, p4, p5⟩ := showL_ok hok
  rw [← p1] at hown hxok
  obtain ⟨x, hx⟩ : ∃ x : Client, x = ⟨c.who, c.seen + c.wait.length, showL c, [], c.done + c.wait.length, c.made⟩ := ⟨_, rfl⟩
  rw [← hx] at hown hxok
  have hxs : showL x = showL c := by
    rw [(showL_ok hxok).1, hx]; rfl
  have hxb : x.base = showL c := by rw [hx]
  have hxw : x.wait = [] := by rw [hx]
  have HOWN := Lib.hid hown; have HXS := Lib.hid hxs; have HXB := Lib.hid hxb; have HXW := Lib.hid hxw
  clear hok hown hxok p1 p2 p3 p4 p5 hx hxs hxb hxw hw9 htr hm0 hm1 hwt
  go_wp2_with fail
  have hH := clientHear_c c _ c.seen A2 n2 c.wait w6 (HT.out.below (HE2.out.trans (HE6.out.mono (by omega))) hpos) (HV.out.ext HE6.out) (HR2.out.ext HE6.out)
  rw [HOWN.out] at hH
  refine hH.mono ?_
  clear hH
  rintro e w7 ⟨v7, rfl, co7, hb7⟩
  simp only at co7
  have HE7 := Lib.hid (HE6.out.trans (hb7.mono HE6.out.size)); have HG7 := Lib.hid (HG6.out.ext hb7); have hs7 := hb7.size
  obtain ⟨X1, x1, X2, x2, rfl, q1, q2⟩ := co7.cv
  have hE8 : Ext w7 (w7.alloc (.cells #[.int .i64 x.who, .int .i64 x.seen, .slice X1 x.base.length x1, .slice X2 x.wait.length x2, .int .i64 x.done, .int .i64 x.made] 30)) := (Below.refl _ w7).alloc (Nat.le_refl _) _
  have HX8 := Lib.hid (World.alloc_heap_new w7 (.cells #[.int .i64 x.who, .int .i64 x.seen, .slice X1 x.base.length x1, .slice X2 x.wait.length x2, .int .i64 x.done, .int .i64 x.made] 30))
  have HE8 := Lib.hid (HE7.out.trans (hE8.mono HE7.out.size)); have HG8 := Lib.hid (HG7.out.ext hE8)
  have HQ1 := Lib.hid (q1.ext hE8); have HQ2 := Lib.hid (q2.ext hE8)
  have hsz8 := alloc_sz w7 (.cells #[.int .i64 x.who, .int .i64 x.seen, .slice X1 x.base.length x1, .slice X2 x.wait.length x2, .int .i64 x.done, .int .i64 x.made] 30)
  clear co7 q1 q2 hE8 hb7 c0 c1 c2 c3 c4 c5 cf
  go_wp2_with fail
  generalize (w7.alloc (.cells #[.int .i64 x.who, .int .i64 x.seen, .slice X1 x.base.length x1, .slice X2 x.wait.length x2, .int .i64 x.done, .int .i64 x.made] 30)) = w8 at *
  have HVX : Hid (CV w8 x (.agg #[.int .i64 x.who, .int .i64 x.seen, .slice X1 x.base.length x1, .slice X2 x.wait.length x2, .int .i64 x.done, .int .i64 x.made])) := ⟨X1, x1, X2, x2, rfl, HQ1.out, HQ2.out⟩
  refine (clientShow_c x _ w8 (HT.out.below (HE2.out.trans (HE8.out.mono (by omega))) hpos) HVX.out).mono ?_
  rintro e w9 ⟨v9, rfl, ho9, hb9⟩
  rw [HXS.out] at ho9
  obtain ⟨K, kn, rfl, hr9⟩ := ho9.rd
  have HE9 := Lib.hid (HE8.out.trans (hb9.mono HE8.out.size)); have HG9 := Lib.hid (HG8.out.ext hb9); have hs9 := hb9.size
  have HX9 := Lib.hid ((hb9.block w7.heap.size (by omega)).trans HX8.out)
  have HQ9 := Lib.hid (HQ1.out.ext hb9)
  have hLP := lpRows_c K kn (showL c) G gn (showL c) w9 hr9 HG9.out
  rw [show decide (showL c = showL c) = true by simp] at hLP
  have HLP := Lib.hid hLP
  clear hLP ho9 hr9 hb9
  go_wp2_with fail
  refine HLP.out.mono ?_
  rintro e w10 ⟨rfl, m10, hw10⟩
  have hb10 : Ext w9 w10 := by rw [hw10]; exact Ext.drewN (Below.refl _ _) _
  have HE10 := Lib.hid (HE9.out.trans (hb10.mono HE9.out.size)); have hs10 := hb10.size
  obtain ⟨c0, c1, c2, c3, c4, c5, cf⟩ := six_cells ((hb10.block w7.heap.size (by omega)).trans HX9.out)
  have hq10 := HQ9.out.ext hb10
  rw [HXB.out] at hq10
  have hLP := lpRows_c X1 x1 (showL c) G gn (showL c) w10 hq10 (HG9.out.ext hb10)
  rw [show decide (showL c = showL c) = true by simp] at hLP
  have HLP := Lib.hid hLP
  rw [HXB.out] at c2
  rw [HXW.out] at c3
  simp only [List.length_nil] at c3
  clear hLP hq10 hb10 hw10
  go_wp2_with fail
  refine HLP.out.mono ?_
  rintro e w11 ⟨rfl, m11, hw11⟩
  have HE11 : Hid (Ext w w11) := by
    show Ext w w11
    rw [hw11]
    exact Ext.drewN (HE2.out.trans (HE10.out.mono (by omega))) _
  clear hw11
  go_wp2_with fail
  go_ret
  exact ⟨rfl, HE11.out⟩
end Go.Proofs.YtjhbbgeebobcpaaDoor
namespace Go.Proofs.YtjhbbgeebobcpaaDoor.fnHearShow
open Go.RowKit Go.ChangeShapes Go.WideShapes Go.ChangeAt
set_option linter.unusedVariables false

set_option maxRecDepth 100000 in
/-- What the walk gives, for every argument and every world that holds the table. -/
theorem contract (H : Type) (enc : TypeId × Value → H) (W : World) (base : Nat) (args : Array Value) (ds gs : List (DataW H)) (before : List MemPlace)
    (hval : ∀ (j : Nat) t v, Tryd.f6.params[j]? = some t → args[j]? = some v → Value.okWide Tryd.prog W .any base t v)
    (hW : DataW.Whole enc Tryd.prog Tryd.f6.params.toList Rows.fnHearShowSpec.vars false W args.toList ds gs before) (hL : laidMetH Tryd.prog Rows.fnHearShowRow.laid W) :
    Calls Tryd.prog 6 args W fun e W' => ∃ v, e = .returned v ∧ Rows.fnHearShowSpec.post enc Tryd.prog Tryd.f6 false true false false W args v W' := by
  have hW' := hW
  obtain ⟨p, q, hA0, hV, rfl, hfz, hnd⟩ := hW
  have hA : DataW.TrodAll enc Tryd.prog W 0 (fun _ => true) true Tryd.f6.params.toList args.toList ds p := hA0
  rw [Tryd.params6] at hA hval
  obtain ⟨v0, vs0, d0, ds0, p0, q0, hargs, rfl, rfl, h0, r0⟩ := trodAll_cons hA
  obtain ⟨rfl, rfl, rfl⟩ := trodAll_nil r0
  obtain rfl : args = #[v0] := by cases args; simp_all
  obtain ⟨g, tg, csg, fg, dg, pg, rfl, _⟩ := trodVars_one hV
  have lt0 : ∀ x ∈ p0, x.block < W.heap.size := by obtain ⟨m, hm⟩ := h0; exact DataW.trod_lt m _ _ _ hm
  obtain ⟨A0, c0, bs0, rfl, hr0, ha0⟩ := arg_bytes (hval 0 22 v0 rfl rfl) h0
  clear hA0
  refine (hearShow_walk drawsShow A0 c0 bs0 W (tab_of hL) hr0 ha0).mono fun e W' ⟨he, bel⟩ => ?_
  subst he
  exact ⟨_, rfl, _, _, _, [], _, _, hW', trodAll_mk1 (shut_bool Tryd.underlying4 _),
    (trodAll_cons_mk (Below.trod laidOut (by kernel_rfl) (of_decide_eq_true (by kernel_rfl)) h0 bel lt0) trodAll_mk0),
    Below.trodVars laidOut bel (by kernel_rfl) hV, bel.frame _, fun h => by cases h⟩

/-- A world for the witness: the settled one, the table holding what its initialiser lays. -/
noncomputable def laidWorld (os : Os) : World :=
  { World.holding Tryd.prog os ⟨#[], #[], []⟩ with heap := (World.holding Tryd.prog os ⟨#[], #[], []⟩).heap.modify 0 fun
      | .cells _ t frozen => .cells (owners.map (Value.int .i64)).toArray t frozen
      | o => o }
theorem laid_met (os : Os) : laidMet Tryd.prog Rows.fnHearShowRow.laid ((laidWorld os).forCall (fun _ _ => 0) ⟨#[], #[.slice none 0 0], []⟩).memory :=
  laidMet_of_run' 8 (by kernel_rfl) (by kernel_rfl)
theorem reads (os : Os) {H : Type} (enc : TypeId × Value → H) : ∃ gs places, DataW.whole enc Tryd.prog ((laidWorld os).forCall (fun _ _ => 0) ⟨#[], #[.slice none 0 0], []⟩).memory Tryd.f6.params.toList Rows.fnHearShowSpec.vars false #[Value.slice none 0 0].toList 8 = some ([.nil], gs, places) :=
  ⟨[Rows.laid_loop_example_plashet_impl_rowOwners], MemPlace.row ⟨0, 0, none⟩ 37, by kernel_rfl⟩

set_option maxRecDepth 100000 in
/-- The row's step. -/
theorem lifted (os : Os) (started : os.Started) (H : Type) (enc : TypeId × Value → H) (F : Stop.Interp) :
    ReturnsInHanded {} Tryd.checked os 6 .any ((OpenSpec.ofChange Rows.fnHearShowSpec).preRow enc Tryd.prog Tryd.f6 Rows.fnHearShowRow.domain false Rows.fnHearShowRow.laid) (((OpenSpec.ofChange Rows.fnHearShowSpec).at F).post enc Tryd.prog Tryd.f6 false true false false) := by
  obtain ⟨gs, places, hx⟩ := reads os enc
  refine returnsInHanded_of_row (C := Tryd.checked) (s := OpenSpec.ofChange Rows.fnHearShowSpec) own started (by kernel_rfl) Tryd.func6
    (witness_row_at (enc := enc) (C := Tryd.checked) false (laidWorld os) #[.slice none 0 0] rfl (by kernel_rfl) (by kernel_rfl) (by kernel_rfl)
      (OpenSpec.preRow_of_cond 8 hx (by kernel_rfl) (fun k hk => by cases hk) (by kernel_rfl) (laid_met os))) ?_
  intro W base args ds gs before hval hW _ _ _ hL _ _
  exact contract H enc W base args ds gs before hval hW hL

theorem said : Rows.FnHearShowSaid :=
  OpenClaim.holds_of_cond 6 Tryd.f6 rfl rfl rfl rfl rfl rfl rfl ⟨rfl, rfl, rfl, rfl, rfl⟩ rfl rfl rfl rfl rfl (by kernel_rfl) Tryd.func6 (by kernel_rfl)
    (of_decide_eq_true (by kernel_rfl)) (by unfold Func.isWrapper; first | (rw [if_pos (by decide +kernel)]; kernel_rfl) | (rw [if_neg (by decide +kernel)]; exact ⟨rfl, rfl⟩))
    (fun os started H enc _ F => by rw [OpenClaim.pre_eq_preRow]; exact lifted os started H enc F)

/-- No parameter wants a stand-in; the program's own looks are on, and none of them bears. -/
theorem plain (f : FuncId) (fn : Func) (hf : Tryd.pinned.checked.prog.funcNamed "loop.example/plashet/laws.FnHearShow" = some f) (hfn : Tryd.pinned.checked.prog.funcs[f]? = some fn) :
    true = Tryd.pinned.checked.prog.looks [] ∧ ∀ (j : Nat) t, fn.params[j]? = some t → Tryd.pinned.checked.prog.wantsStandIn t = false := by
  obtain rfl : f = 6 := Option.some.inj ((show Tryd.prog.funcNamed "loop.example/plashet/laws.FnHearShow" = some 6 by kernel_rfl).symm.trans hf) |>.symm
  obtain rfl : fn = Tryd.f6 := (Option.some.inj (Tryd.func6.symm.trans hfn)).symm
  refine ⟨by kernel_rfl, fun j t ht => ?_⟩
  rw [Tryd.params6] at ht
  obtain rfl : t = 22 := by simpa using Array.mem_of_getElem? ht
  exact (show Tryd.prog.wantsStandIn 22 = false by kernel_rfl)

/-- The card. -/
theorem card : Rows.FnHearShowCardSaid :=
  Claim7.holds_tied_plain_at .later [] _ _ _ _ said (fun _ h => by cases h) (by kernel_rfl) (fun _ h => by cases h) fnHearShow_row_tie rfl ⟨rfl, rfl⟩ (by kernel_rfl) rfl plain (by kernel_rfl)
end Go.Proofs.YtjhbbgeebobcpaaDoor.fnHearShow
