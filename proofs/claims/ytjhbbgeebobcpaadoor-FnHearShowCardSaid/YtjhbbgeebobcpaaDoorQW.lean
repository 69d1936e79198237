/- Walks of the reference: a client is ok; what it shows. Walk of the reference: ClientHear. Worlds: the plain laws that keep clients and letters ok. -/
import Derived.Test.YtjhbbgeebobcpaaDoorQN
import Derived.Test.YtjhbbgeebobcpaaDoorQV
import Derived.Test.YtjhbbgeebobcpaaDoorQS
import Derived.Test.YtjhbbgeebobcpaaDoorQU
namespace Go.Proofs.YtjhbbgeebobcpaaDoor
open Go.RowKit
set_option linter.unusedVariables false

/-- A client's numbers are such as a machine has. -/
def CW (c : Client) : Prop := (i64 c.who ∧ i64 c.seen ∧ i64 c.done ∧ i64 c.made) ∧ (∀ r ∈ c.base, i64 r.id) ∧ (∀ e ∈ c.wait, OpW e.op) ∧ c.wait.length ≤ 2000000

set_option maxRecDepth 100000 in
set_option maxHeartbeats 4000000 in
theorem clientOk_s (c : Client) (v : Value) (w : World) (h : CV w c v) (hc : CW c) :
    Calls Tryd.prog 24 #[v] w fun r w' => r = .returned (.bool (clientOk c)) ∧ Ext w w' := by
  obtain ⟨A1, n1, A2, n2, rfl, h1, h2⟩ := h
  obtain ⟨-, hci, hcw, hlw⟩ := hc
  have H1 := Lib.hid h1; have H2 := Lib.hid h2; have HOW := Lib.hid hcw
  have hsz := alloc_sz w (.cells #[.int .i64 c.who, .int .i64 c.seen, .slice A1 c.base.length n1, .slice A2 c.wait.length n2, .int .i64 c.done, .int .i64 c.made] 30)
  have HB0 : Hid (Ext w (w.alloc (.cells #[.int .i64 c.who, .int .i64 c.seen, .slice A1 c.base.length n1, .slice A2 c.wait.length n2, .int .i64 c.done, .int .i64 c.made] 30))) := (Below.refl _ w).alloc (Nat.le_refl _) _
  have HX0 := Lib.hid (World.alloc_heap_new w (.cells #[.int .i64 c.who, .int .i64 c.seen, .slice A1 c.base.length n1, .slice A2 c.wait.length n2, .int .i64 c.done, .int .i64 c.made] 30))
  have HW := Lib.hid (in_c c.who 1 3 (w.alloc (.cells #[.int .i64 c.who, .int .i64 c.seen, .slice A1 c.base.length n1, .slice A2 c.wait.length n2, .int .i64 c.done, .int .i64 c.made] 30)))
  have HS := Lib.hid (in_c c.seen 0 40 (w.alloc (.cells #[.int .i64 c.who, .int .i64 c.seen, .slice A1 c.base.length n1, .slice A2 c.wait.length n2, .int .i64 c.done, .int .i64 c.made] 30)))
  have HTr := Lib.hid (treeOk_s A1 n1 c.base (w.alloc (.cells #[.int .i64 c.who, .int .i64 c.seen, .slice A1 c.base.length n1, .slice A2 c.wait.length n2, .int .i64 c.done, .int .i64 c.made] 30)) (H1.out.alloc _) hci)
  have HNO : Hid (∀ W : World, Ext (w.alloc (.cells #[.int .i64 c.who, .int .i64 c.seen, .slice A1 c.base.length n1, .slice A2 c.wait.length n2, .int .i64 c.done, .int .i64 c.made] 30)) W → Ext w W) := fun W hW => HB0.out.trans (hW.mono (by rw [alloc_sz]; omega))
  clear h1 h2 hcw hci
  go_enter Tryd.func24, Tryd.ntmps24
  go_wp2_with fail
  refine HW.out.mono ?_
  rintro e w1 ⟨rfl, rfl⟩
  clear HW
  cases hw : inR c.who 1 3
  · have HR : Hid (clientOk c = false) := by show _ = _; unfold clientOk; rw [isWho_in, hw]; rfl
    clear hw
    go_wp2_with fail
    go_ret
    exact ⟨by rw [HR.out]; rfl, HB0.out⟩
  have HWho : Hid (isWho c.who = true) := hw
  clear hw
  go_wp2_with fail
  refine HS.out.mono ?_
  rintro e w1 ⟨rfl, rfl⟩
  clear HS
  cases hs : inR c.seen 0 40
  · have HR : Hid (clientOk c = false) := by show _ = _; unfold clientOk; rw [show decide (0 ≤ c.seen ∧ c.seen ≤ 40) = inR c.seen 0 40 from rfl, hs]; simp
    clear hs
    go_wp2_with fail
    go_ret
    exact ⟨by rw [HR.out]; rfl, HB0.out⟩
  have hsn := of_decide_eq_true (show decide (0 ≤ c.seen ∧ c.seen ≤ 40) = true from hs)
  obtain ⟨hs0, hs1⟩ := hsn
  clear hs
  go_wp2_with fail
  refine HTr.out.mono ?_
  rintro e w1 ⟨rfl, hb1⟩
  have hx := (hb1.block w.heap.size (by rw [alloc_sz]; omega)).trans HX0.out
  obtain ⟨d0, d1, d2, d3, d4, d5, df⟩ := six_cells hx
  have HB1 := Lib.hid hb1; have HX := Lib.hid hx
  clear hb1 hx HTr
  cases htr : treeOk c.base
  · have HR : Hid (clientOk c = false) := by show _ = _; unfold clientOk; rw [htr]; simp
    clear htr
    go_wp2_with fail
    go_ret
    exact ⟨by rw [HR.out]; rfl, HNO.out _ HB1.out⟩
  have HTree := Lib.hid htr
  clear htr
  have HDN := Lib.hid (in_c c.done 0 c.seen w1)
  go_wp2_with fail
  refine HDN.out.mono ?_
  rintro e w1' ⟨rfl, hw1'⟩
  rw [hw1']; clear hw1' HDN
  cases hdn : inR c.done 0 c.seen
  · have HR : Hid (clientOk c = false) := by show _ = _; unfold clientOk; rw [show decide (0 ≤ c.done ∧ c.done ≤ c.seen) = inR c.done 0 c.seen from rfl, hdn]; simp
    clear hdn
    go_wp2_with fail
    go_ret
    exact ⟨by rw [HR.out]; rfl, HNO.out _ HB1.out⟩
  have hdnn := of_decide_eq_true (show decide (0 ≤ c.done ∧ c.done ≤ c.seen) = true from hdn)
  obtain ⟨hd0, hd1⟩ := hdnn
  clear hdn
  have hww : IntKind.i64.wrap (c.done + (c.wait.length : Int)) = c.done + (c.wait.length : Int) := by rw [IntKind.wrap_i64]; omega
  by_cases hl : (40 : Int) < c.done + c.wait.length
  · have HR : Hid (clientOk c = false) := by show _ = _; unfold clientOk; rw [decide_eq_false (show ¬ ((c.wait.length : Int) ≤ 40 - c.done) by omega)]; simp
    go_wp2_with fail
    go_ret
    exact ⟨by rw [HR.out]; rfl, HNO.out _ HB1.out⟩
  have HMD := Lib.hid (in_c c.made 0 6 w1)
  go_wp2_with fail
  refine HMD.out.mono ?_
  rintro e w1' ⟨rfl, hw1'⟩
  rw [hw1']; clear hw1' HMD
  cases hmd : inR c.made 0 6
  · have HR : Hid (clientOk c = false) := by show _ = _; unfold clientOk; rw [show decide (0 ≤ c.made ∧ c.made ≤ 6) = inR c.made 0 6 from rfl, hmd]; simp
    clear hmd
    go_wp2_with fail
    go_ret
    exact ⟨by rw [HR.out]; rfl, HNO.out _ HB1.out⟩
  have hmdd := of_decide_eq_true (show decide (0 ≤ c.made ∧ c.made ≤ 6) = true from hmd)
  obtain ⟨hm0, hm1⟩ := hmdd
  clear hmd
  have hres : clientOk c = waitOk c := by
    unfold clientOk
    rw [HWho.out, HTree.out, decide_eq_true (show 0 ≤ c.seen ∧ c.seen ≤ 40 by omega), decide_eq_true (show 0 ≤ c.done ∧ c.done ≤ c.seen by omega), decide_eq_true (show (c.wait.length : Int) ≤ 40 - c.done by omega), decide_eq_true (show 0 ≤ c.made ∧ c.made ≤ 6 by omega)]
    simp
  have HRES := Lib.hid hres
  have hwho : 1 ≤ c.who ∧ c.who ≤ 3 := by have := HWho.out; simpa [isWho] using this
  obtain ⟨hw1, hw3⟩ := hwho
  clear hres hww
  go_wp2_with fail
  go_loopg [3] c.wait.length (fun gk i wr => ∃ k : Nat, k ≤ c.wait.length ∧ Hid (gk = c.wait.length - k) ∧ i = .int .i64 k ∧ Hid (∀ j (hj : j < c.wait.length), j < k → waitAt c j c.wait[j] = true) ∧ Hid (Ext (w.alloc (.cells #[.int .i64 c.who, .int .i64 c.seen, .slice A1 c.base.length n1, .slice A2 c.wait.length n2, .int .i64 c.done, .int .i64 c.made] 30)) wr))
  case atStart => exact ⟨0, Nat.zero_le _, rfl, rfl, fun j _ h => by omega, HB1.out⟩
  case round =>
    obtain ⟨k, hk, HK, rfl, HG, HW⟩ := hrel
    clear d0 d1 d2 d3 d4 d5 df
    have hEx := HNO.out _ HW.out
    have hxr := (HW.out.block w.heap.size (by rw [alloc_sz]; omega)).trans HX0.out
    obtain ⟨d0, d1, d2, d3, d4, d5, df⟩ := six_cells hxr
    by_cases hlt : k < c.wait.length
    · obtain ⟨b, off, rfl, hbl, e0, e1, e2, e3, e4, e5, e6⟩ := ent_at (H2.out.ext hEx) k hlt
      have hx := (HW.out.block w.heap.size (by rw [alloc_sz]; omega)).trans (World.alloc_heap_new w _)
      have hws := HW.out.size
      rw [alloc_sz] at hws
      have hbx := World.alloc_heap_new wr (.cells #[.int .i64 c.wait[k].who, .int .i64 c.wait[k].seq, .int .i64 c.wait[k].op.kind, .int .i64 c.wait[k].op.id, .int .i64 c.wait[k].op.up, .int .i64 c.wait[k].op.pos, .string c.wait[k].op.text] 44)
      have hC := Lib.hid (entryOk_s c.wait[k] (wr.alloc (.cells #[.int .i64 c.wait[k].who, .int .i64 c.wait[k].seq, .int .i64 c.wait[k].op.kind, .int .i64 c.wait[k].op.id, .int .i64 c.wait[k].op.up, .int .i64 c.wait[k].op.pos, .string c.wait[k].op.text] 44)) (H2.out.okAt k hlt) (HOW.out _ (List.getElem_mem hlt)))
      have HEx := Lib.hid hEx
      clear hEx
      simp only [Entry.val] at hC
      go_wp2_with fail
      refine hC.out.mono ?_
      rintro e w2 ⟨rfl, hb2⟩
      have hy := (hb2.block w.heap.size (by rw [alloc_sz]; omega)).trans ((Below.heap_alloc wr _ w.heap.size (by omega)).trans hx)
      clear d0 d1 d2 d3 d4 d5 df
      obtain ⟨d0, d1, d2, d3, d4, d5, df⟩ := six_cells hy
      have hz := (hb2.block wr.heap.size (by rw [alloc_sz]; omega)).trans hbx
      obtain ⟨g0, g1, g2, g3, g4, g5, g6, gf⟩ := seven_cells hz
      have hW2 : Ext (w.alloc (.cells #[.int .i64 c.who, .int .i64 c.seen, .slice A1 c.base.length n1, .slice (some ⟨b, off, none⟩) c.wait.length n2, .int .i64 c.done, .int .i64 c.made] 30)) w2 := HW.out.trans (((Below.refl _ wr).alloc HW.out.size _).trans (hb2.mono (Nat.le_trans HW.out.size (Nat.le_trans (Nat.le_succ _) (Nat.le_of_eq (alloc_sz _ _).symm)))))
      have HW2 := Lib.hid hW2
      clear hx hbx hb2 hy hz hC hW2
      have hbad : waitAt c k c.wait[k] = false → Hid (waitOk c = false) := fun h => waitOk_false c k hlt h
      cases hok : entryOk c.wait[k]
      · have HR := hbad (by unfold waitAt; rw [hok]; rfl)
        clear hok hbad
        go_wp2_with fail
        go_ret
        exact ⟨by rw [HRES.out, HR.out]; rfl, HNO.out _ HW2.out⟩
      have HOK := Lib.hid hok
      clear hok
      by_cases hwho : c.wait[k].who = c.who
      · have hwho' : (c.wait[k].who != c.who) = false := by simp [hwho]
        by_cases hseq : c.wait[k].seq = c.done + k + 1
        · have hseq' : (c.wait[k].seq != c.done + (k : Int) + 1) = false := by simp [hseq]
          by_cases hkd : c.wait[k].op.kind = 1
          · have hkd' : (c.wait[k].op.kind == 1) = true := by simp [hkd]
            by_cases hid : 10 * c.who + c.made < c.wait[k].op.id
            · have HR := hbad (by unfold waitAt; simp [hkd, hid])
              clear hbad hwho hseq hkd
              go_wp2_with fail
              go_ret
              exact ⟨by rw [HRES.out, HR.out]; rfl, HNO.out _ HW2.out⟩
            · have HGood : Hid (waitAt c k c.wait[k] = true) := by show _ = _; unfold waitAt; rw [HOK.out]; simp [hwho, hseq]; omega
              clear hbad hwho hseq hkd
              go_wp2_with fail
              go_roundg (c.wait.length - (k + 1))
              case measure => have := HK.out; omega
              case rel =>
                refine ⟨k + 1, by omega, rfl, by go_num, fun j hj hjk => ?_, HW2.out⟩
                by_cases e : j = k
                · subst e; exact HGood.out
                · exact HG.out j hj (by omega)
          · have hkd' : (c.wait[k].op.kind == 1) = false := by simp [hkd]
            have HGood : Hid (waitAt c k c.wait[k] = true) := by show _ = _; unfold waitAt; rw [HOK.out]; simp [hwho, hseq, hkd]
            clear hbad hwho hseq hkd
            go_wp2_with fail
            go_roundg (c.wait.length - (k + 1))
            case measure => have := HK.out; omega
            case rel =>
              refine ⟨k + 1, by omega, rfl, by go_num, fun j hj hjk => ?_, HW2.out⟩
              by_cases e : j = k
              · subst e; exact HGood.out
              · exact HG.out j hj (by omega)
        · have hseq' : (c.wait[k].seq != c.done + (k : Int) + 1) = true := by simp [hseq]
          have HR := hbad (by unfold waitAt; simp [hseq])
          clear hbad hwho hseq
          go_wp2_with fail
          go_ret
          exact ⟨by rw [HRES.out, HR.out]; rfl, HNO.out _ HW2.out⟩
      · have hwho' : (c.wait[k].who != c.who) = true := by simp [hwho]
        have HR := hbad (by unfold waitAt; simp [hwho])
        clear hbad hwho
        go_wp2_with fail
        go_ret
        exact ⟨by rw [HRES.out, HR.out]; rfl, HNO.out _ HW2.out⟩
    · have hkl : k = c.wait.length := by omega
      go_wp2_with fail
      go_ret
      exact ⟨by rw [HRES.out, waitOk_true c (fun j hj => HG.out j hj (by omega))]; rfl, hEx⟩

/-- What a client shows, by the reference. -/
def showS (c : Client) : List Row := if clientOk c then treeFrom c.base c.wait else []
theorem waitOk_ent {c : Client} (h : waitOk c = true) : ∀ e ∈ c.wait, opOk e.op = true := fun e he => by
  obtain ⟨k, hk, rfl⟩ := List.getElem_of_mem he
  have := waitOk_at h k hk
  unfold waitAt at this
  simp only [Bool.and_eq_true] at this
  have := this.1.1.1
  unfold entryOk at this
  simp only [Bool.and_eq_true] at this
  exact this.1.2

set_option maxRecDepth 100000 in
set_option maxHeartbeats 1000000 in
theorem clientShow_s (c : Client) (v : Value) (w : World) (h : CV w c v) (hc : CW c) :
    Calls Tryd.prog 23 #[v] w fun r w' => ∃ v', r = .returned v' ∧ Own 47 w' w.heap.size v' (showS c) ∧ Ext w w' := by
  have HCV := Lib.hid h; have HC := Lib.hid hc
  obtain ⟨A1, n1, A2, n2, rfl, h1, h2⟩ := h
  have H1 := Lib.hid h1; have H2 := Lib.hid h2
  have hE0 : Ext w (w.alloc (.cells #[.int .i64 c.who, .int .i64 c.seen, .slice A1 c.base.length n1, .slice A2 c.wait.length n2, .int .i64 c.done, .int .i64 c.made] 30)) := (Below.refl _ w).alloc (Nat.le_refl _) _
  have hbox := World.alloc_heap_new w (.cells #[.int .i64 c.who, .int .i64 c.seen, .slice A1 c.base.length n1, .slice A2 c.wait.length n2, .int .i64 c.done, .int .i64 c.made] 30)
  have HC := Lib.hid (clientOk_s c _ (w.alloc (.cells #[.int .i64 c.who, .int .i64 c.seen, .slice A1 c.base.length n1, .slice A2 c.wait.length n2, .int .i64 c.done, .int .i64 c.made] 30)) (HCV.out.ext hE0) hc)
  have HE0 := Lib.hid hE0; have HBX := Lib.hid hbox
  have hsz := alloc_sz w (.cells #[.int .i64 c.who, .int .i64 c.seen, .slice A1 c.base.length n1, .slice A2 c.wait.length n2, .int .i64 c.done, .int .i64 c.made] 30)
  have HSZ := Lib.hid hsz
  clear h1 h2 hc hE0 hbox hsz
  go_enter Tryd.func23, Tryd.ntmps23
  go_wp2_with fail
  refine HC.out.mono ?_
  rintro e w1 ⟨rfl, hb1⟩
  have hx1 := (hb1.block w.heap.size (by rw [HSZ.out]; omega)).trans HBX.out
  have hE1 := HE0.out.trans (hb1.mono HE0.out.size)
  have HX1 := Lib.hid hx1; have HE1 := Lib.hid hE1
  obtain ⟨c0, c1, c2, c3, c4, c5, cf⟩ := six_cells hx1
  clear hb1 hx1 hE1 HC
  cases hok : clientOk c
  · have HR : Hid (showS c = []) := by show _ = _; unfold showS; rw [hok]; rfl
    clear hok
    go_wp2_with fail
    go_ret
    exact ⟨_, rfl, by rw [HR.out]; exact own_made _ _ HE1.out.size, (HE1.out.alloc HE1.out.size _)⟩
  · obtain ⟨hw9, hs0, hs40, htr, hd0, hd1, hwl, hm0, hm1, hwt⟩ := clientOk_parts hok
    have HR : Hid (showS c = treeFrom c.base c.wait) := by show _ = _; unfold showS; rw [hok]; rfl
    have HTS := Lib.hid (tree_s A1 n1 c.base A2 n2 c.wait w1 (H1.out.ext HE1.out) (H2.out.ext HE1.out) htr (waitOk_ent hwt))
    clear hw9 hs0 hs40 htr hd0 hd1 hwl hm0 hm1 hwt hok
    go_wp2_with fail
    refine HTS.out.mono ?_
    rintro e w2 ⟨v2, rfl, hown2, hb2⟩
    have HO2 := Lib.hid hown2; have HB2 := Lib.hid hb2
    clear hown2 hb2 HTS
    go_wp2_with fail
    go_ret
    exact ⟨_, rfl, by rw [HR.out]; exact HO2.out.lower HE1.out.size, HE1.out.trans (HB2.out.mono HE1.out.size)⟩
end Go.Proofs.YtjhbbgeebobcpaaDoor
namespace Go.Proofs.YtjhbbgeebobcpaaDoor
open Go.RowKit Go.Lib
set_option linter.unusedVariables false

theorem hearL_ok (who : Int) : ∀ (l : List Entry) (q : List Entry) (t : List Row) (d n : Int) (q' : List Entry) (t' : List Row) (d' n' : Int), hearL who l q t d n = some (q', t', d', n') → treeOk t = true → (∀ e ∈ l, opOk e.op = true) → treeOk t' = true ∧ q'.length ≤ q.length := by
  intro l
  induction l with
  | nil =>
    intro q t d n q' t' d' n' h ht _
    simp only [hearL, Option.some.injEq, Prod.mk.injEq] at h
    obtain ⟨rfl, rfl, _, _⟩ := h
    exact ⟨ht, Nat.le_refl _⟩
  | cons e l ih =>
    intro q t d n q' t' d' n' h ht hl
    have ho := hl e List.mem_cons_self
    have htn : treeOk (opDo t e.op) = true := by
      have hod : opDo t e.op = doL t e.op := by unfold opDo; rw [ht, ho]; rfl
      rw [hod]; exact treeOk_do t _ ht ho
    have hl' : ∀ x ∈ l, opOk x.op = true := fun x hx => hl x (List.mem_cons_of_mem _ hx)
    unfold hearL at h
    split at h
    · cases q with
      | nil => simp at h
      | cons e0 q0 =>
        simp only at h
        split at h
        · obtain ⟨h1, h2⟩ := ih _ _ _ _ _ _ _ _ h htn hl'
          exact ⟨h1, by simp only [List.length_cons]; omega⟩
        · cases h
    · exact ih _ _ _ _ _ _ _ _ h htn hl'
theorem hearS_len (c : Client) (frm : Int) (l : List Entry) (hok : clientOk c = true) (hall : ∀ x ∈ l, entryOk x = true) : (hearS c frm l).1.base.length ≤ 1000 ∧ (hearS c frm l).1.wait.length ≤ 40 := by
  obtain ⟨hw9, hs0, hs40, htr, hd0, hd1, hwl, hm0, hm1, hwt⟩ := clientOk_parts hok
  have h0 : c.base.length ≤ 1000 ∧ c.wait.length ≤ 40 := ⟨treeOk_len htr, by omega⟩
  unfold hearS
  split
  · exact h0
  · cases hh : hearL c.who (l.drop (c.seen - frm).toNat) c.wait c.base c.done c.seen with
    | none => exact h0
    | some p =>
      obtain ⟨q, t, d, n⟩ := p
      obtain ⟨h1, h2⟩ := hearL_ok _ _ _ _ _ _ _ _ _ _ hh htr (fun e he => entryOk_op (hall e (List.mem_of_mem_drop he)))
      exact ⟨treeOk_len h1, by show q.length ≤ 40; omega⟩
theorem clientHear_S (c : Client) (frm : Int) (l : List Entry) (hok : clientOk c = true) (h0 : 0 ≤ frm) (h1 : frm ≤ 40) (hall : ∀ x ∈ l, entryOk x = true) : clientHear c frm l = hearS c frm l := by
  have : l.all entryOk = true := List.all_eq_true.2 hall
  unfold clientHear hearS
  rw [if_neg (by rw [hok]; simp; omega), if_neg (by rw [this]; simp)]
  have hd : l.drop (min (c.seen - frm) l.length).toNat = l.drop (c.seen - frm).toNat := by
    by_cases h : (c.seen - frm) ≤ l.length
    · rw [Int.min_eq_left h]
    · rw [Int.min_eq_right (by omega), List.drop_of_length_le (by omega), List.drop_of_length_le (by omega)]
  rw [hd]
  rfl

set_option maxRecDepth 100000 in
set_option maxHeartbeats 4000000 in
theorem clientHear_s (c : Client) (v : Value) (frm : Int) (A : Option Addr) (cap : Nat) (l : List Entry) (w : World) (h : CV w c v) (hr : Rd w A cap l) (hc : CW c) (hl : ∀ e ∈ l, OpW e.op) (hll : l.length ≤ 2000000) :
    Calls Tryd.prog 29 #[v, .int .i64 frm, .slice A l.length cap] w fun r w' => ∃ v', r = .returned (.tuple #[v', .bool (clientHear c frm l).2]) ∧ CO w' w.heap.size (clientHear c frm l).1 v' ∧ Ext w w' := by
  obtain ⟨A1, n1, A2, n2, rfl, h1, h2⟩ := h
  have hX := two_new w (.cells #[.int .i64 c.who, .int .i64 c.seen, .slice A1 c.base.length n1, .slice A2 c.wait.length n2, .int .i64 c.done, .int .i64 c.made] 30) (.cells #[.int .i64 0, .int .i64 0, .slice none 0 0, .slice none 0 0, .int .i64 0, .int .i64 0] 30)
  have hE0 : Ext w ((w.alloc (.cells #[.int .i64 c.who, .int .i64 c.seen, .slice A1 c.base.length n1, .slice A2 c.wait.length n2, .int .i64 c.done, .int .i64 c.made] 30)).alloc (.cells #[.int .i64 0, .int .i64 0, .slice none 0 0, .slice none 0 0, .int .i64 0, .int .i64 0] 30)) := ((Below.refl _ w).alloc (Nat.le_refl _) _).alloc (by rw [alloc_sz]; omega) _
  have hz0 : ((w.alloc (.cells #[.int .i64 c.who, .int .i64 c.seen, .slice A1 c.base.length n1, .slice A2 c.wait.length n2, .int .i64 c.done, .int .i64 c.made] 30)).alloc (.cells #[.int .i64 0, .int .i64 0, .slice none 0 0, .slice none 0 0, .int .i64 0, .int .i64 0] 30)).heap.size = w.heap.size + 2 := by rw [alloc_sz, alloc_sz]
  have hcv : CV ((w.alloc (.cells #[.int .i64 c.who, .int .i64 c.seen, .slice A1 c.base.length n1, .slice A2 c.wait.length n2, .int .i64 c.done, .int .i64 c.made] 30)).alloc (.cells #[.int .i64 0, .int .i64 0, .slice none 0 0, .slice none 0 0, .int .i64 0, .int .i64 0] 30)) c (.agg #[.int .i64 c.who, .int .i64 c.seen, .slice A1 c.base.length n1, .slice A2 c.wait.length n2, .int .i64 c.done, .int .i64 c.made]) := ⟨A1, n1, A2, n2, rfl, h1.ext hE0, h2.ext hE0⟩
  have HOKC := Lib.hid (clientOk_s c (.agg #[.int .i64 c.who, .int .i64 c.seen, .slice A1 c.base.length n1, .slice A2 c.wait.length n2, .int .i64 c.done, .int .i64 c.made]) ((w.alloc (.cells #[.int .i64 c.who, .int .i64 c.seen, .slice A1 c.base.length n1, .slice A2 c.wait.length n2, .int .i64 c.done, .int .i64 c.made] 30)).alloc (.cells #[.int .i64 0, .int .i64 0, .slice none 0 0, .slice none 0 0, .int .i64 0, .int .i64 0] 30)) hcv hc)
  have HR := Lib.hid hr; have HL := Lib.hid hl; have HCV := Lib.hid hcv; have HE0 := Lib.hid hE0; have HX1 := Lib.hid hX.1; have HX2 := Lib.hid hX.2
  clear h1 h2 hr hl hc hcv hE0 hX
  go_enter Tryd.func29, Tryd.ntmps29
  go_wp2_with fail
  generalize ((w.alloc (.cells #[.int .i64 c.who, .int .i64 c.seen, .slice A1 c.base.length n1, .slice A2 c.wait.length n2, .int .i64 c.done, .int .i64 c.made] 30)).alloc (.cells #[.int .i64 0, .int .i64 0, .slice none 0 0, .slice none 0 0, .int .i64 0, .int .i64 0] 30)) = W2 at *
  have hnb : ∀ W : World, Ext W2 W → (put6 W (w.heap.size + 1) (.int .i64 0) (.int .i64 0) (.slice none 0 0) (.slice none 0 0) (.int .i64 0) (.int .i64 0)).heap[w.heap.size + 1]? = some (.cells #[.int .i64 0, .int .i64 0, .slice none 0 0, .slice none 0 0, .int .i64 0, .int .i64 0] 30 (0, 0)) ∧ Ext w (put6 W (w.heap.size + 1) (.int .i64 0) (.int .i64 0) (.slice none 0 0) (.slice none 0 0) (.int .i64 0) (.int .i64 0)) := fun W hW =>
    ⟨put6_at _ _ _ _ _ _ ((hW.block _ (by omega)).trans HX2.out), put6_below _ _ _ _ _ _ (HE0.out.trans (hW.mono (by omega))) (Nat.le_succ _)⟩
  have HNB := Lib.hid hnb
  clear hnb
  refine HOKC.out.mono ?_
  rintro e w1 ⟨rfl, hb1⟩
  have HB1 := Lib.hid hb1
  obtain ⟨c0, c1, c2, c3, c4, c5, cf⟩ := six_cells ((hb1.block w.heap.size (by omega)).trans HX1.out)
  obtain ⟨d0, d1, d2, d3, d4, d5, df⟩ := six_cells ((hb1.block (w.heap.size + 1) (by omega)).trans HX2.out)
  clear hb1 HOKC
  cases hok : clientOk c
  · have HRES : Hid (clientHear c frm l = (noClient, false)) := by show _ = _; unfold clientHear; rw [if_pos (.inl hok)]
    clear hok
    go_wp2_with fail
    obtain ⟨hz, hE⟩ := HNB.out w1 HB1.out
    obtain ⟨k0, k1, k2, k3, k4, k5, kf⟩ := six_cells hz
    refine bodyPost_ret (v := .tuple #[.agg #[.int .i64 0, .int .i64 0, .slice none 0 0, .slice none 0 0, .int .i64 0, .int .i64 0], .bool false]) ?_ rfl ?_
    · simp [results, Tryd.f29, go_sem, k0, k1, k2, k3, k4, k5]
    · exact ⟨_, by rw [HRES.out], by rw [HRES.out]; exact CO.no _ _, hE⟩
  have HOK := Lib.hid hok
  clear hok
  go_wp2_with fail
  refine (in_c frm 0 40 w1).mono ?_
  rintro e w1' ⟨rfl, hw1'⟩
  rw [hw1']; clear hw1'
  cases hin : inR frm 0 40
  · have HRES : Hid (clientHear c frm l = (noClient, false)) := by
      have hn := of_decide_eq_false (show decide (0 ≤ frm ∧ frm ≤ 40) = false from hin)
      show _ = _; unfold clientHear; rw [if_pos (.inr (by omega))]
    clear hin
    go_wp2_with fail
    obtain ⟨hz, hE⟩ := HNB.out w1 HB1.out
    obtain ⟨k0, k1, k2, k3, k4, k5, kf⟩ := six_cells hz
    refine bodyPost_ret (v := .tuple #[.agg #[.int .i64 0, .int .i64 0, .slice none 0 0, .slice none 0 0, .int .i64 0, .int .i64 0], .bool false]) ?_ rfl ?_
    · simp [results, Tryd.f29, go_sem, k0, k1, k2, k3, k4, k5]
    · exact ⟨_, by rw [HRES.out], by rw [HRES.out]; exact CO.no _ _, hE⟩
  have hfr := of_decide_eq_true (show decide (0 ≤ frm ∧ frm ≤ 40) = true from hin)
  obtain ⟨hf0, hf1⟩ := hfr
  clear hin
  go_wp2_with fail
  clear c0 c1 c2 c3 c4 c5 cf d0 d1 d2 d3 d4 d5 df
  go_loopg [8] l.length (fun gk i wr => ∃ k : Nat, k ≤ l.length ∧ Hid (gk = l.length - k) ∧ i = .int .i64 k ∧ Hid (∀ j (hj : j < l.length), j < k → entryOk l[j] = true) ∧ Hid (Ext W2 wr))
  case atStart => exact ⟨0, Nat.zero_le _, rfl, rfl, fun j _ h => by omega, HB1.out⟩
  case round =>
    obtain ⟨k, hk, HK, rfl, HG, HW⟩ := hrel
    have hEr := HE0.out.trans (HW.out.mono (by omega))
    have HER := Lib.hid hEr
    have hx1 := (HW.out.block w.heap.size (by omega)).trans HX1.out
    have hx2 := (HW.out.block (w.heap.size + 1) (by omega)).trans HX2.out
    have hlt1 := blk_lt hx1; have hlt2 := blk_lt hx2
    have HXR1 := Lib.hid hx1; have HXR2 := Lib.hid hx2
    clear hEr hx1 hx2
    by_cases hlt : k < l.length
    · obtain ⟨b, off, rfl, hbl, e0, e1, e2, e3, e4, e5, e6⟩ := ent_at (HR.out.ext HER.out) k hlt
      have hC := entryOk_s l[k] wr (HR.out.okAt k hlt) (HL.out _ (List.getElem_mem hlt))
      have HC := Lib.hid hC
      have hli : (k : Int) < l.length := by omega
      clear hC
      go_wp2_with fail
      refine HC.out.mono ?_
      rintro e w4 ⟨rfl, hb4⟩
      have hW4 := HW.out.trans (hb4.mono HW.out.size)
      obtain ⟨d0, d1, d2, d3, d4, d5, df⟩ := six_cells ((hW4.block (w.heap.size + 1) (by omega)).trans HX2.out)
      have HW4 := Lib.hid hW4
      clear hb4 hW4 HC e0 e1 e2 e3 e4 e5 e6
      cases hent : entryOk l[k]
      · have HRES : Hid (clientHear c frm l = (noClient, false)) := by
          have hal : l.all entryOk = false := by
            rw [List.all_eq_false]
            exact ⟨l[k], List.getElem_mem hlt, by rw [hent]; simp⟩
          show _ = _; unfold clientHear; rw [if_neg (by rw [HOK.out]; simp; omega), if_pos hal]
        clear hent
        go_wp2_with fail
        obtain ⟨hz, hE⟩ := HNB.out w4 HW4.out
        obtain ⟨k0, k1, k2, k3, k4, k5, kf⟩ := six_cells hz
        refine bodyPost_ret (v := .tuple #[.agg #[.int .i64 0, .int .i64 0, .slice none 0 0, .slice none 0 0, .int .i64 0, .int .i64 0], .bool false]) ?_ rfl ?_
        · simp [results, Tryd.f29, go_sem, k0, k1, k2, k3, k4, k5]
        · exact ⟨_, by rw [HRES.out], by rw [HRES.out]; exact CO.no _ _, hE⟩
      · have HENT := Lib.hid hent
        clear hent
        go_wp2_with fail
        go_roundg (l.length - (k + 1))
        case measure => have := HK.out; omega
        case rel =>
          refine ⟨k + 1, by omega, rfl, by go_num, Lib.hid (fun j hj hjk => ?_), HW4.out⟩
          rcases Nat.lt_or_eq_of_le (Nat.le_of_lt_succ hjk) with h | h
          · exact HG.out j hj h
          · subst h; exact HENT.out
    · have hkl : k = l.length := by omega
      have hall : ∀ x ∈ l, entryOk x = true := fun x hx => by
        obtain ⟨j, hj, rfl⟩ := List.getElem_of_mem hx
        exact HG.out j hj (by omega)
      have hres := clientHear_S c frm l HOK.out hf0 hf1 hall
      have hlen := hearS_len c frm l HOK.out hall
      have HALL := Lib.hid hall
      obtain ⟨hw9, hs0, hs40, htr, hd0, hd1, hwl, hm0, hm1, hwt⟩ := clientOk_parts HOK.out
      have htl := treeOk_len htr
      obtain ⟨c', bo, hcb⟩ : ∃ c' bo, hearS c frm l = (c', bo) := ⟨_, _, rfl⟩
      rw [hcb] at hres hlen
      simp only at hlen
      obtain ⟨hlen1, hlen2⟩ := hlen
      have HRES := Lib.hid hres; have HCB := Lib.hid hcb
      have HCP := Lib.hid (copy_s c (.agg #[.int .i64 c.who, .int .i64 c.seen, .slice A1 c.base.length n1, .slice A2 c.wait.length n2, .int .i64 c.done, .int .i64 c.made]) wr (HCV.out.ext HW.out) (by omega) (by omega))
      obtain ⟨c0, c1, c2, c3, c4, c5, cf⟩ := six_cells HXR1.out
      clear hall hres hcb hw9 htr hm0 hm1 hwt HK HG
      have hli : ¬ ((k : Int) < l.length) := by omega
      go_wp2_with fail
      refine HCP.out.mono ?_
      rintro e w3 ⟨v3, rfl, co3, hb3⟩
      have hs3 := hb3.size
      have HE3 := Lib.hid (HER.out.trans (hb3.mono HER.out.size))
      have hH := hear_s c v3 frm A cap l w3 co3.ct (HR.out.ext HE3.out) HOK.out hf0 hf1 HALL.out hll
      rw [HCB.out] at hH
      have HH := Lib.hid hH
      have HB3 := Lib.hid hb3
      clear co3 hb3 hH HCP c0 c1 c2 c3 c4 c5 cf
      go_wp2_with fail
      refine HH.out.mono ?_
      rintro e w4 ⟨v4, rfl, ⟨B1, m1, B2, m2, rfl, r1, r2⟩, hb4⟩
      have hs4 := hb4.size
      have HE4 := Lib.hid (HE3.out.trans (hb4.mono HE3.out.size))
      have hE5 : Ext w4 (w4.alloc (.cells #[.int .i64 c'.who, .int .i64 c'.seen, .slice B1 c'.base.length m1, .slice B2 c'.wait.length m2, .int .i64 c'.done, .int .i64 c'.made] 30)) := (Below.refl _ w4).alloc (Nat.le_refl _) _
      have hsz5 := alloc_sz w4 (.cells #[.int .i64 c'.who, .int .i64 c'.seen, .slice B1 c'.base.length m1, .slice B2 c'.wait.length m2, .int .i64 c'.done, .int .i64 c'.made] 30)
      have HCP := Lib.hid (copy_s c' (.agg #[.int .i64 c'.who, .int .i64 c'.seen, .slice B1 c'.base.length m1, .slice B2 c'.wait.length m2, .int .i64 c'.done, .int .i64 c'.made]) _ ⟨B1, m1, B2, m2, rfl, r1.1.ext hE5, r2.1.ext hE5⟩ (by omega) (by omega))
      have hx4 := (hb4.block (w.heap.size + 1) (by omega)).trans ((HB3.out.block (w.heap.size + 1) (by omega)).trans HXR2.out)
      have hx5 := (hE5.block (w.heap.size + 1) (by omega)).trans hx4
      have hE6 := HE4.out.trans (hE5.mono (by omega))
      have HX5 := Lib.hid hx5; have HE6 := Lib.hid hE6
      clear r1 r2 hb4 hE5 hx4 hx5 hE6 HH
      go_wp2_with fail
      refine HCP.out.mono ?_
      rintro e w7 ⟨v7, rfl, ⟨C1, j1, C2, j2, rfl, o1, o2⟩, hb7⟩
      have hx7 := (hb7.block (w.heap.size + 1) (by omega)).trans HX5.out
      have hlt7 := blk_lt hx7
      have hE7 := HE6.out.trans (hb7.mono (by omega))
      obtain ⟨d0, d1, d2, d3, d4, d5, df⟩ := six_cells hx7
      have hz := put6_at (.int .i64 c'.who) (.int .i64 c'.seen) (.slice C1 c'.base.length j1) (.slice C2 c'.wait.length j2) (.int .i64 c'.done) (.int .i64 c'.made) hx7
      have hE := put6_below (.int .i64 c'.who) (.int .i64 c'.seen) (.slice C1 c'.base.length j1) (.slice C2 c'.wait.length j2) (.int .i64 c'.done) (.int .i64 c'.made) hE7 (Nat.le_succ w.heap.size)
      have hco : CO (put6 w7 (w.heap.size + 1) (.int .i64 c'.who) (.int .i64 c'.seen) (.slice C1 c'.base.length j1) (.slice C2 c'.wait.length j2) (.int .i64 c'.done) (.int .i64 c'.made)) w.heap.size c' (.agg #[.int .i64 c'.who, .int .i64 c'.seen, .slice C1 c'.base.length j1, .slice C2 c'.wait.length j2, .int .i64 c'.done, .int .i64 c'.made]) :=
        CO.lower ⟨_, _, _, _, rfl, o1.of_blocks (fun k hk _ => put6_far _ _ _ _ _ _ (by omega)), o2.of_blocks (fun k hk _ => put6_far _ _ _ _ _ _ (by omega))⟩ (by omega)
      have HZ := Lib.hid hz; have HE := Lib.hid hE; have HCO := Lib.hid hco
      clear o1 o2 hb7 hx7 hE7 hz hE hco HCP
      go_wp2_with fail
      obtain ⟨k0, k1, k2, k3, k4, k5, kf⟩ := six_cells HZ.out
      refine bodyPost_ret (v := .tuple #[.agg #[.int .i64 c'.who, .int .i64 c'.seen, .slice C1 c'.base.length j1, .slice C2 c'.wait.length j2, .int .i64 c'.done, .int .i64 c'.made], .bool bo]) ?_ rfl ?_
      · simp [results, Tryd.f29, go_sem, k0, k1, k2, k3, k4, k5]
      · exact ⟨_, by rw [HRES.out], by rw [HRES.out]; exact HCO.out, HE.out⟩
end Go.Proofs.YtjhbbgeebobcpaaDoor
namespace Go.Proofs.YtjhbbgeebobcpaaDoor
open Go.RowKit Go.Lib
set_option linter.unusedVariables false

theorem clientOk_of {c : Client} (h1 : isWho c.who = true) (h2 : 0 ≤ c.seen) (h3 : c.seen ≤ 40) (h4 : treeOk c.base = true) (h5 : 0 ≤ c.done) (h6 : c.done ≤ c.seen) (h7 : (c.wait.length : Int) ≤ 40 - c.done) (h8 : 0 ≤ c.made) (h9 : c.made ≤ 6) (h10 : waitOk c = true) : clientOk c = true := by
  simp only [clientOk, Bool.and_eq_true, decide_eq_true_eq]
  exact ⟨⟨⟨⟨⟨⟨h1, h2, h3⟩, h4⟩, h5, h6⟩, h7⟩, h8, h9⟩, h10⟩

/-- What somebody does, by the reference. -/
def newEnt (c : Client) (o : Op) : Entry := ⟨c.who, c.done + c.wait.length + 1, o⟩
def doS (c : Client) (o : Op) : Client × Bool :=
  if entryOk (newEnt c o) = true ∧ (o.kind = 1 → o.id = rowMade c.who (c.made + 1)) then
    (⟨c.who, c.seen, c.base, c.wait ++ [newEnt c o], c.done, if o.kind = 1 then c.made + 1 else c.made⟩, true)
  else (c, false)
theorem entryOk_parts {e : Entry} (h : entryOk e = true) : isWho e.who = true ∧ 1 ≤ e.seq ∧ e.seq ≤ 40 ∧ opOk e.op = true := by
  unfold entryOk at h
  simp only [Bool.and_eq_true, decide_eq_true_eq] at h
  exact ⟨h.1.1.1, h.1.1.2.1, h.1.1.2.2, h.1.2⟩
theorem opOk_made {o : Op} (h : opOk o = true) : isMade o.id = true := by
  unfold opOk at h
  rw [Bool.and_eq_true] at h
  exact h.1
theorem rowMade_le {who n : Int} (h : isMade (rowMade who n) = true) : 1 ≤ n ∧ n ≤ 6 ∧ rowMade who n = 10 * who + n := by
  unfold rowMade at h ⊢
  split
  · rename_i h1; exact ⟨h1.2.2.1, h1.2.2.2, rfl⟩
  · rename_i h1; rw [if_neg h1] at h; simp [isMade] at h
theorem doS_ok {c : Client} {o : Op} (h : clientOk c = true) : clientOk (doS c o).1 = true := by
  unfold doS
  split
  rotate_left
  · exact h
  rename_i hc
  obtain ⟨he, hm⟩ := hc
  obtain ⟨hw9, hs0, hs40, htr, hd0, hd1, hwl, hm0, hm1, hwt⟩ := clientOk_parts h
  obtain ⟨e1, e2, e3, e4⟩ := entryOk_parts he
  have hseq : (newEnt c o).seq = c.done + c.wait.length + 1 := rfl
  have hop : (newEnt c o).op = o := rfl
  rw [hop] at e4
  have hmk : o.kind = 1 → c.made + 1 ≤ 6 ∧ o.id = 10 * c.who + (c.made + 1) := fun hk => by
    have h1 := hm hk
    have h2 := opOk_made e4
    rw [h1] at h2
    obtain ⟨-, h3, h4⟩ := rowMade_le h2
    exact ⟨h3, by rw [h1, h4]⟩
  refine clientOk_of hw9 hs0 hs40 htr hd0 hd1 ?_ ?_ ?_ ?_
  · show (((c.wait ++ [newEnt c o]).length : Nat) : Int) ≤ 40 - c.done
    rw [List.length_append, List.length_singleton]; omega
  · show 0 ≤ (if o.kind = 1 then c.made + 1 else c.made)
    split <;> omega
  · show (if o.kind = 1 then c.made + 1 else c.made) ≤ 6
    split
    · rename_i hk; exact (hmk hk).1
    · exact hm1
  · refine waitOk_true _ fun k hk => ?_
    have hk' : k < (c.wait ++ [newEnt c o]).length := hk
    show waitAt _ k (c.wait ++ [newEnt c o])[k] = true
    rw [List.length_append, List.length_singleton] at hk'
    by_cases hlt : k < c.wait.length
    · rw [List.getElem_append_left hlt]
      have h1 := waitOk_at hwt k hlt
      unfold waitAt at h1 ⊢
      simp only [Bool.and_eq_true, Bool.not_eq_true', Bool.and_eq_false_iff, decide_eq_true_eq, decide_eq_false_iff_not] at h1 ⊢
      obtain ⟨⟨⟨a1, a2⟩, a3⟩, a4⟩ := h1
      refine ⟨⟨⟨a1, a2⟩, a3⟩, ?_⟩
      rcases a4 with a4 | a4
      · exact .inl a4
      · refine .inr ?_
        split <;> omega
    · have hkl : k = c.wait.length := by omega
      subst hkl
      rw [List.getElem_append_right (Nat.le_refl _)]
      simp only [Nat.sub_self, List.getElem_cons_zero]
      unfold waitAt
      simp only [Bool.and_eq_true, Bool.not_eq_true', Bool.and_eq_false_iff, decide_eq_true_eq, decide_eq_false_iff_not]
      refine ⟨⟨⟨he, rfl⟩, hseq⟩, ?_⟩
      rw [hop]
      by_cases hk : o.kind = 1
      · refine .inr ?_
        rw [if_pos hk]
        have := (hmk hk).2
        omega
      · exact .inl hk

theorem hearL_inv (who made : Int) : ∀ (l : List Entry) (q : List Entry) (t : List Row) (d n : Int) (q' : List Entry) (t' : List Row) (d' n' : Int), hearL who l q t d n = some (q', t', d', n') → treeOk t = true → (∀ e ∈ l, entryOk e = true) → 0 ≤ d → d ≤ n →
    (∀ k (hk : k < q.length), waitAt ⟨who, 0, [], [], d, made⟩ k q[k] = true) →
    treeOk t' = true ∧ 0 ≤ d' ∧ d' ≤ n' ∧ n' = n + l.length ∧ (q'.length : Int) + d' = q.length + d ∧ ∀ k (hk : k < q'.length), waitAt ⟨who, 0, [], [], d', made⟩ k q'[k] = true := by
  intro l
  induction l with
  | nil =>
    intro q t d n q' t' d' n' h ht _ hd hn hw
    simp only [hearL, Option.some.injEq, Prod.mk.injEq] at h
    obtain ⟨rfl, rfl, rfl, rfl⟩ := h
    exact ⟨ht, hd, hn, by simp, rfl, hw⟩
  | cons e l ih =>
    intro q t d n q' t' d' n' h ht hl hd hn hw
    have ho := entryOk_op (hl e List.mem_cons_self)
    have htn : treeOk (opDo t e.op) = true := by
      have hod : opDo t e.op = doL t e.op := by unfold opDo; rw [ht, ho]; rfl
      rw [hod]; exact treeOk_do t _ ht ho
    have hl' : ∀ x ∈ l, entryOk x = true := fun x hx => hl x (List.mem_cons_of_mem _ hx)
    unfold hearL at h
    split at h
    · cases q with
      | nil => simp at h
      | cons e0 q0 =>
        simp only at h
        split at h
        · have hw' : ∀ k (hk : k < q0.length), waitAt ⟨who, 0, [], [], d + 1, made⟩ k q0[k] = true := fun k hk => by
            have h1 := hw (k + 1) (by simp only [List.length_cons]; omega)
            rw [List.getElem_cons_succ] at h1
            unfold waitAt at h1 ⊢
            simp only [Bool.and_eq_true, decide_eq_true_eq] at h1 ⊢
            obtain ⟨⟨⟨a1, a2⟩, a3⟩, a4⟩ := h1
            refine ⟨⟨⟨a1, a2⟩, by omega⟩, a4⟩
          obtain ⟨b1, b2, b3, b4, b5, b6⟩ := ih _ _ _ _ _ _ _ _ h htn hl' (by omega) (by omega) hw'
          refine ⟨b1, b2, b3, ?_, ?_, b6⟩
          · rw [b4]; simp only [List.length_cons]; omega
          · simp only [List.length_cons]; omega
        · cases h
    · obtain ⟨b1, b2, b3, b4, b5, b6⟩ := ih _ _ _ _ _ _ _ _ h htn hl' hd (by omega) hw
      refine ⟨b1, b2, b3, ?_, b5, b6⟩
      rw [b4]; simp only [List.length_cons]; omega
theorem hearS_ok {c : Client} {frm : Int} {l : List Entry} (h : clientOk c = true) (h0 : 0 ≤ frm) (hall : ∀ e ∈ l, entryOk e = true) : clientOk (hearS c frm l).1 = true := by
  obtain ⟨hw9, hs0, hs40, htr, hd0, hd1, hwl, hm0, hm1, hwt⟩ := clientOk_parts h
  unfold hearS
  split
  · exact h
  · rename_i hf
    cases hh : hearL c.who (l.drop (c.seen - frm).toNat) c.wait c.base c.done c.seen with
    | none => exact h
    | some p =>
      obtain ⟨q, t, d, n⟩ := p
      obtain ⟨b1, b2, b3, b4, b5, b6⟩ := hearL_inv c.who c.made _ _ _ _ _ _ _ _ _ hh htr (fun e he => hall e (List.mem_of_mem_drop he)) hd0 hd1 (fun k hk => waitOk_at hwt k hk)
      rw [List.length_drop] at b4
      refine clientOk_of hw9 (by show 0 ≤ n; omega) (by show n ≤ 40; omega) b1 b2 b3 (by show (q.length : Int) ≤ 40 - d; omega) hm0 hm1 (waitOk_true _ fun k hk => b6 k hk)
end Go.Proofs.YtjhbbgeebobcpaaDoor
