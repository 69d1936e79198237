/- Walks of the reference: a client is ok; what it shows. -/
import Derived.Test.YtikcnbkoeglecaaDoorQJ
import Derived.Test.YtikcnbkoeglecaaDoorRB
import Derived.Test.YtikcnbkoeglecaaDoorQP
import Derived.Test.YtikcnbkoeglecaaDoorQI
namespace Go.Proofs.YtikcnbkoeglecaaDoor
open Go.RowKit
set_option linter.unusedVariables false

/-- A client's numbers are such as a machine has. -/
def CW (c : Client) : Prop := (i64 c.who ∧ i64 c.seen ∧ i64 c.done ∧ i64 c.made) ∧ (∀ r ∈ c.base, i64 r.id) ∧ (∀ e ∈ c.wait, OpW e.op) ∧ c.wait.length ≤ 2000000

set_option maxRecDepth 100000 in
set_option maxHeartbeats 4000000 in
theorem clientOk_s (c : Client) (v : Value) (w : World) (h : CV w c v) (hc : CW c) :
    Calls Tryd.prog 50 #[v] w fun r w' => r = .returned (.bool (clientOk c)) ∧ Ext w w' := by
  obtain ⟨A1, n1, A2, n2, rfl, h1, h2⟩ := h
  obtain ⟨-, hci, hcw, hlw⟩ := hc
  have H1 := Lib.hid h1; have H2 := Lib.hid h2; have HOW := Lib.hid hcw
  have hsz := alloc_sz w (.cells #[.int .i64 c.who, .int .i64 c.seen, .slice A1 c.base.length n1, .slice A2 c.wait.length n2, .int .i64 c.done, .int .i64 c.made] 30)
  have HB0 : Hid (Ext w (w.alloc (.cells #[.int .i64 c.who, .int .i64 c.seen, .slice A1 c.base.length n1, .slice A2 c.wait.length n2, .int .i64 c.done, .int .i64 c.made] 30))) := (Below.refl _ w).alloc (Nat.le_refl _) _
  have HX0 := Lib.hid (World.alloc_heap_new w (.cells #[.int .i64 c.who, .int .i64 c.seen, .slice A1 c.base.length n1, .slice A2 c.wait.length n2, .int .i64 c.done, .int .i64 c.made] 30))
  have HW := Lib.hid (in_c c.who 1 3 (w.alloc (.cells #[.int .i64 c.who, .int .i64 c.seen, .slice A1 c.base.length n1, .slice A2 c.wait.length n2, .int .i64 c.done, .int .i64 c.made] 30)))
  have HS := Lib.hid (in_c c.seen 0 40 (w.alloc (.cells #[.int .i64 c.who, .int .i64 c.seen, .slice A1 c.base.length n1, .slice A2 c.wait.length n2, .int .i64 c.done, .int .i64 c.made] 30)))
  have HTr := Lib.hid (treeOk_s A1 n1 c.base (w.alloc (.cells #[.int .i64 c.who, .int .i64 c.seen, .slice A1 c.base.length n1, .slice A2 c.wait.length n2, .int .i64 c.done, .int .i64 c.made] 30)) (H1.out.alloc _) hci)
  have HNO : Hid (∀ W : World, Ext (w.alloc (.cells #[.int .i64 c.who, .int .i64 c.seen, .slice A1 c.base.length n1, .slice A2 c.wait.length n2, .int .i64 c.done, .int .i64 c.made] 30)) W → Ext w W) := fun W hW => HB0.out.trans (hW.mono (by rw [alloc_sz]; omega))
  clear h1 h2 hcw hci
  go_enter Tryd.func50, Tryd.ntmps50
  go_wp2_with fail
  refine HW.out.mono ?_
  rintro e w1 ⟨rfl, rfl⟩
  clear HW
  cases hw : inR c.who 1 3
  · have HR : Hid (clientOk c = false) := by show _ = _; unfold clientOk; rw [isWho_in, hw]; rfl
    clear hw
    go_wp2_with fail
    go_ret
    exact ⟨by rw [HR.out]; rfl, HB0.out⟩
  have HWho : Hid (isWho c.who = true) := hw
  clear hw
  go_wp2_with fail
  refine HS.out.mono ?_
  rintro e w1 ⟨rfl, rfl⟩
  clear HS
  cases hs : inR c.seen 0 40
  · have HR : Hid (clientOk c = false) := by show _ = _; unfold clientOk; rw [show decide (0 ≤ c.seen ∧ c.seen ≤ 40) = inR c.seen 0 40 from rfl, hs]; simp
    clear hs
    go_wp2_with fail
    go_ret
    exact ⟨by rw [HR.out]; rfl, HB0.out⟩
  have hsn := of_decide_eq_true (show decide (0 ≤ c.seen ∧ c.seen ≤ 40) = true from hs)
  obtain ⟨hs0, hs1⟩ := hsn
  clear hs
  go_wp2_with fail
  refine HTr.out.mono ?_
  rintro e w1 ⟨rfl, hb1⟩
  have hx := (hb1.block w.heap.size (by rw [alloc_sz]; omega)).trans HX0.out
  obtain ⟨d0, d1, d2, d3, d4, d5, df⟩ := six_cells hx
  have HB1 := Lib.hid hb1; have HX := Lib.hid hx
  clear hb1 hx HTr
  cases htr : treeOk c.base
  · have HR : Hid (clientOk c = false) := by show _ = _; unfold clientOk; rw [htr]; simp
    clear htr
    go_wp2_with fail
    go_ret
    exact ⟨by rw [HR.out]; rfl, HNO.out _ HB1.out⟩
  have HTree := Lib.hid htr
  clear htr
  have HDN := Lib.hid (in_c c.done 0 c.seen w1)
  go_wp2_with fail
  refine HDN.out.mono ?_
  rintro e w1' ⟨rfl, hw1'⟩
  rw [hw1']; clear hw1' HDN
  cases hdn : inR c.done 0 c.seen
  · have HR : Hid (clientOk c = false) := by show _ = _; unfold clientOk; rw [show decide (0 ≤ c.done ∧ c.done ≤ c.seen) = inR c.done 0 c.seen from rfl, hdn]; simp
    clear hdn
    go_wp2_with fail
    go_ret
    exact ⟨by rw [HR.out]; rfl, HNO.out _ HB1.out⟩
  have hdnn := of_decide_eq_true (show decide (0 ≤ c.done ∧ c.done ≤ c.seen) = true from hdn)
  obtain ⟨hd0, hd1⟩ := hdnn
  clear hdn
  have hww : IntKind.i64.wrap (c.done + (c.wait.length : Int)) = c.done + (c.wait.length : Int) := by rw [IntKind.wrap_i64]; omega
  by_cases hl : (40 : Int) < c.done + c.wait.length
  · have HR : Hid (clientOk c = false) := by show _ = _; unfold clientOk; rw [decide_eq_false (show ¬ ((c.wait.length : Int) ≤ 40 - c.done) by omega)]; simp
    go_wp2_with fail
    go_ret
    exact ⟨by rw [HR.out]; rfl, HNO.out _ HB1.out⟩
  have HMD := Lib.hid (in_c c.made 0 6 w1)
  go_wp2_with fail
  refine HMD.out.mono ?_
  rintro e w1' ⟨rfl, hw1'⟩
  rw [hw1']; clear hw1' HMD
  cases hmd : inR c.made 0 6
  · have HR : Hid (clientOk c = false) := by show _ = _; unfold clientOk; rw [show decide (0 ≤ c.made ∧ c.made ≤ 6) = inR c.made 0 6 from rfl, hmd]; simp
    clear hmd
    go_wp2_with fail
    go_ret
    exact ⟨by rw [HR.out]; rfl, HNO.out _ HB1.out⟩
  have hmdd := of_decide_eq_true (show decide (0 ≤ c.made ∧ c.made ≤ 6) = true from hmd)
  obtain ⟨hm0, hm1⟩ := hmdd
  clear hmd
  have hres : clientOk c = waitOk c := by
    unfold clientOk
    rw [HWho.out, HTree.out, decide_eq_true (show 0 ≤ c.seen ∧ c.seen ≤ 40 by omega), decide_eq_true (show 0 ≤ c.done ∧ c.done ≤ c.seen by omega), decide_eq_true (show (c.wait.length : Int) ≤ 40 - c.done by omega), decide_eq_true (show 0 ≤ c.made ∧ c.made ≤ 6 by omega)]
    simp
  have HRES := Lib.hid hres
  have hwho : 1 ≤ c.who ∧ c.who ≤ 3 := by have := HWho.out; simpa [isWho] using this
  obtain ⟨hw1, hw3⟩ := hwho
  clear hres hww
  go_wp2_with fail
  go_loopg [3] c.wait.length (fun gk i wr => ∃ k : Nat, k ≤ c.wait.length ∧ Hid (gk = c.wait.length - k) ∧ i = .int .i64 k ∧ Hid (∀ j (hj : j < c.wait.length), j < k → waitAt c j c.wait[j] = true) ∧ Hid (Ext (w.alloc (.cells #[.int .i64 c.who, .int .i64 c.seen, .slice A1 c.base.length n1, .slice A2 c.wait.length n2, .int .i64 c.done, .int .i64 c.made] 30)) wr))
  case atStart => exact ⟨0, Nat.zero_le _, rfl, rfl, fun j _ h => by omega, HB1.out⟩
  case round =>
    obtain ⟨k, hk, HK, rfl, HG, HW⟩ := hrel
    clear d0 d1 d2 d3 d4 d5 df
    have hEx := HNO.out _ HW.out
    have hxr := (HW.out.block w.heap.size (by rw [alloc_sz]; omega)).trans HX0.out
    obtain ⟨d0, d1, d2, d3, d4, d5, df⟩ := six_cells hxr
    by_cases hlt : k < c.wait.length
    · obtain ⟨b, off, rfl, hbl, e0, e1, e2, e3, e4, e5, e6⟩ := ent_at (H2.out.ext hEx) k hlt
      have hx := (HW.out.block w.heap.size (by rw [alloc_sz]; omega)).trans (World.alloc_heap_new w _)
      have hws := HW.out.size
      rw [alloc_sz] at hws
      have hbx := World.alloc_heap_new wr (.cells #[.int .i64 c.wait[k].who, .int .i64 c.wait[k].seq, .int .i64 c.wait[k].op.kind, .int .i64 c.wait[k].op.id, .int .i64 c.wait[k].op.up, .int .i64 c.wait[k].op.pos, .string c.wait[k].op.text] 58)
      have hC := Lib.hid (entryOk_s c.wait[k] (wr.alloc (.cells #[.int .i64 c.wait[k].who, .int .i64 c.wait[k].seq, .int .i64 c.wait[k].op.kind, .int .i64 c.wait[k].op.id, .int .i64 c.wait[k].op.up, .int .i64 c.wait[k].op.pos, .string c.wait[k].op.text] 58)) (H2.out.okAt k hlt) (HOW.out _ (List.getElem_mem hlt)))
      have HEx := Lib.hid hEx
      clear hEx
      simp only [Entry.val] at hC
      go_wp2_with fail
      refine hC.out.mono ?_
      rintro e w2 ⟨rfl, hb2⟩
      have hy := (hb2.block w.heap.size (by rw [alloc_sz]; omega)).trans ((Below.heap_alloc wr _ w.heap.size (by omega)).trans hx)
      clear d0 d1 d2 d3 d4 d5 df
      obtain ⟨d0, d1, d2, d3, d4, d5, df⟩ := six_cells hy
      have hz := (hb2.block wr.heap.size (by rw [alloc_sz]; omega)).trans hbx
      obtain ⟨g0, g1, g2, g3, g4, g5, g6, gf⟩ := seven_cells hz
      have hW2 : Ext (w.alloc (.cells #[.int .i64 c.who, .int .i64 c.seen, .slice A1 c.base.length n1, .slice (some ⟨b, off, none⟩) c.wait.length n2, .int .i64 c.done, .int .i64 c.made] 30)) w2 := HW.out.trans (((Below.refl _ wr).alloc HW.out.size _).trans (hb2.mono (Nat.le_trans HW.out.size (Nat.le_trans (Nat.le_succ _) (Nat.le_of_eq (alloc_sz _ _).symm)))))
      have HW2 := Lib.hid hW2
      clear hx hbx hb2 hy hz hC hW2
      have hbad : waitAt c k c.wait[k] = false → Hid (waitOk c = false) := fun h => waitOk_false c k hlt h
      cases hok : entryOk c.wait[k]
      · have HR := hbad (by unfold waitAt; rw [hok]; rfl)
        clear hok hbad
        go_wp2_with fail
        go_ret
        exact ⟨by rw [HRES.out, HR.out]; rfl, HNO.out _ HW2.out⟩
      have HOK := Lib.hid hok
      clear hok
      by_cases hwho : c.wait[k].who = c.who
      · have hwho' : (c.wait[k].who != c.who) = false := by simp [hwho]
        by_cases hseq : c.wait[k].seq = c.done + k + 1
        · have hseq' : (c.wait[k].seq != c.done + (k : Int) + 1) = false := by simp [hseq]
          by_cases hkd : c.wait[k].op.kind = 1
          · have hkd' : (c.wait[k].op.kind == 1) = true := by simp [hkd]
            by_cases hid : 10 * c.who + c.made < c.wait[k].op.id
            · have HR := hbad (by unfold waitAt; simp [hkd, hid])
              clear hbad hwho hseq hkd
              go_wp2_with fail
              go_ret
              exact ⟨by rw [HRES.out, HR.out]; rfl, HNO.out _ HW2.out⟩
            · have HGood : Hid (waitAt c k c.wait[k] = true) := by show _ = _; unfold waitAt; rw [HOK.out]; simp [hwho, hseq]; omega
              clear hbad hwho hseq hkd
              go_wp2_with fail
              go_roundg (c.wait.length - (k + 1))
              case measure => have := HK.out; omega
              case rel =>
                refine ⟨k + 1, by omega, rfl, by go_num, fun j hj hjk => ?_, HW2.out⟩
                by_cases e : j = k
                · subst e; exact HGood.out
                · exact HG.out j hj (by omega)
          · have hkd' : (c.wait[k].op.kind == 1) = false := by simp [hkd]
            have HGood : Hid (waitAt c k c.wait[k] = true) := by show _ = _; unfold waitAt; rw [HOK.out]; simp [hwho, hseq, hkd]
            clear hbad hwho hseq hkd
            go_wp2_with fail
            go_roundg (c.wait.length - (k + 1))
            case measure => have := HK.out; omega
            case rel =>
              refine ⟨k + 1, by omega, rfl, by go_num, fun j hj hjk => ?_, HW2.out⟩
              by_cases e : j = k
              · subst e; exact HGood.out
              · exact HG.out j hj (by omega)
        · have hseq' : (c.wait[k].seq != c.done + (k : Int) + 1) = true := by simp [hseq]
          have HR := hbad (by unfold waitAt; simp [hseq])
          clear hbad hwho hseq
          go_wp2_with fail
          go_ret
          exact ⟨by rw [HRES.out, HR.out]; rfl, HNO.out _ HW2.out⟩
      · have hwho' : (c.wait[k].who != c.who) = true := by simp [hwho]
        have HR := hbad (by unfold waitAt; simp [hwho])
        clear hbad hwho
        go_wp2_with fail
        go_ret
        exact ⟨by rw [HRES.out, HR.out]; rfl, HNO.out _ HW2.out⟩
    · have hkl : k = c.wait.length := by omega
      go_wp2_with fail
      go_ret
      exact ⟨by rw [HRES.out, waitOk_true c (fun j hj => HG.out j hj (by omega))]; rfl, hEx⟩

/-- What a client shows, by the reference. -/
def showS (c : Client) : List Row := if clientOk c then treeFrom c.base c.wait else []
theorem waitOk_ent {c : Client} (h : waitOk c = true) : ∀ e ∈ c.wait, opOk e.op = true := fun e he => by
  obtain ⟨k, hk, rfl⟩ := List.getElem_of_mem he
  have := waitOk_at h k hk
  unfold waitAt at this
  simp only [Bool.and_eq_true] at this
  have := this.1.1.1
  unfold entryOk at this
  simp only [Bool.and_eq_true] at this
  exact this.1.2

set_option maxRecDepth 100000 in
set_option maxHeartbeats 1000000 in
theorem clientShow_s (c : Client) (v : Value) (w : World) (h : CV w c v) (hc : CW c) :
    Calls Tryd.prog 16 #[v] w fun r w' => ∃ v', r = .returned v' ∧ Own 61 w' w.heap.size v' (showS c) ∧ Ext w w' := by
  have HCV := Lib.hid h; have HC := Lib.hid hc
  obtain ⟨A1, n1, A2, n2, rfl, h1, h2⟩ := h
  have H1 := Lib.hid h1; have H2 := Lib.hid h2
  have hE0 : Ext w (w.alloc (.cells #[.int .i64 c.who, .int .i64 c.seen, .slice A1 c.base.length n1, .slice A2 c.wait.length n2, .int .i64 c.done, .int .i64 c.made] 30)) := (Below.refl _ w).alloc (Nat.le_refl _) _
  have hbox := World.alloc_heap_new w (.cells #[.int .i64 c.who, .int .i64 c.seen, .slice A1 c.base.length n1, .slice A2 c.wait.length n2, .int .i64 c.done, .int .i64 c.made] 30)
  have HC := Lib.hid (clientOk_s c _ (w.alloc (.cells #[.int .i64 c.who, .int .i64 c.seen, .slice A1 c.base.length n1, .slice A2 c.wait.length n2, .int .i64 c.done, .int .i64 c.made] 30)) (HCV.out.ext hE0) hc)
  have HE0 := Lib.hid hE0; have HBX := Lib.hid hbox
  have hsz := alloc_sz w (.cells #[.int .i64 c.who, .int .i64 c.seen, .slice A1 c.base.length n1, .slice A2 c.wait.length n2, .int .i64 c.done, .int .i64 c.made] 30)
  have HSZ := Lib.hid hsz
  clear h1 h2 hc hE0 hbox hsz
  go_enter Tryd.func16, Tryd.ntmps16
  go_wp2_with fail
  refine HC.out.mono ?_
  rintro e w1 ⟨rfl, hb1⟩
  have hx1 := (hb1.block w.heap.size (by rw [HSZ.out]; omega)).trans HBX.out
  have hE1 := HE0.out.trans (hb1.mono HE0.out.size)
  have HX1 := Lib.hid hx1; have HE1 := Lib.hid hE1
  obtain ⟨c0, c1, c2, c3, c4, c5, cf⟩ := six_cells hx1
  clear hb1 hx1 hE1 HC
  cases hok : clientOk c
  · have HR : Hid (showS c = []) := by show _ = _; unfold showS; rw [hok]; rfl
    clear hok
    go_wp2_with fail
    go_ret
    exact ⟨_, rfl, by rw [HR.out]; exact own_made _ _ HE1.out.size, (HE1.out.alloc HE1.out.size _)⟩
  · obtain ⟨hw9, hs0, hs40, htr, hd0, hd1, hwl, hm0, hm1, hwt⟩ := clientOk_parts hok
    have HR : Hid (showS c = treeFrom c.base c.wait) := by show _ = _; unfold showS; rw [hok]; rfl
    have HTS := Lib.hid (tree_s A1 n1 c.base A2 n2 c.wait w1 (H1.out.ext HE1.out) (H2.out.ext HE1.out) htr (waitOk_ent hwt))
    clear hw9 hs0 hs40 htr hd0 hd1 hwl hm0 hm1 hwt hok
    go_wp2_with fail
    refine HTS.out.mono ?_
    rintro e w2 ⟨v2, rfl, hown2, hb2⟩
    have HO2 := Lib.hid hown2; have HB2 := Lib.hid hb2
    clear hown2 hb2 HTS
    go_wp2_with fail
    go_ret
    exact ⟨_, rfl, by rw [HR.out]; exact HO2.out.lower HE1.out.size, HE1.out.trans (HB2.out.mono HE1.out.size)⟩
end Go.Proofs.YtikcnbkoeglecaaDoor
