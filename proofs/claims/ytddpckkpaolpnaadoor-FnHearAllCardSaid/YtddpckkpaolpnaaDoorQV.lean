/- Who hears all from the beginning on has what all made: plain, and the law's walk. What a row gives: a slice of bytes as an argument; the table of the rows' owners. -/
import Derived.Test.YtddpckkpaolpnaaDoorQT
import Derived.Test.YtddpckkpaolpnaaDoorQU
import Derived.Test.YtddpckkpaolpnaaDoorQK
import Derived.Test.YtddpckkpaolpnaaDoorQQ
import Derived.Test.YtddpckkpaolpnaaDoorCards
import Derived.Test.YtddpckkpaolpnaaDoorTie
import Derived.WalkKit
import Derived.ProofKit
import Derived.OpenShut
import Derived.OpenVars
import Derived.ChangeVars
import Derived.ChangeSlices
import Derived.ChangeOld
import Derived.Below
import Derived.Carry
import Derived.Deep.DeepHandedRow
import Derived.Lib.LaidTab
namespace Go.Proofs.YtddpckkpaolpnaaDoor
open Go.RowKit
set_option linter.unusedVariables false

theorem hearL_skip (who : Int) : ∀ (l : List Entry) (q : List Entry) (t : List Row) (d n : Int), (∀ e ∈ l, e.who ≠ who) → hearL who l q t d n = some (q, l.foldl (fun t e => opDo t e.op) t, d, n + l.length) := by
  intro l
  induction l with
  | nil => intro q t d n _; simp [hearL]
  | cons e l ih =>
    intro q t d n h
    have he := h e List.mem_cons_self
    simp only [hearL, if_neg he, List.foldl_cons, List.length_cons]
    rw [ih _ _ _ _ (fun e' h' => h e' (List.mem_cons_of_mem _ h'))]
    congr 4
    push_cast; omega
theorem hearL_none (who : Int) : ∀ (l : List Entry) (t : List Row) (d n : Int), (∃ e ∈ l, e.who = who) → hearL who l [] t d n = none := by
  intro l
  induction l with
  | nil => intro t d n h; obtain ⟨e, he, _⟩ := h; cases he
  | cons e l ih =>
    intro t d n h
    by_cases he : e.who = who
    · simp [hearL, he]
    · simp only [hearL, if_neg he]
      refine ih _ _ _ ?_
      obtain ⟨e', he', hw⟩ := h
      rcases List.mem_cons.1 he' with rfl | h2
      · exact absurd hw he
      · exact ⟨e', h2, hw⟩
theorem cntW_pos (l : List Entry) (who : Int) : 0 < cntW l who ↔ ∃ e ∈ l, e.who = who := by
  unfold cntW; rw [List.countP_pos_iff]; simp
def freshC (who : Int) : Client := ⟨who, 0, treeNew, [], 0, 0⟩
theorem hear_all {l : List Entry} (hl : logOk l = true) {who : Int} (hw : isWho who = true) :
    clientHear (freshC who) 0 l = if 0 < cntW l who then (freshC who, false) else (⟨who, l.length, logTree l, [], 0, 0⟩, true) := by
  have h40 := ((logOk_iff l).1 hl).1
  have hent := logOk_ent hl
  have hok : clientOk (freshC who) = true := by
    have h0 : treeOk treeNew = true := treeOk_new
    simp [clientOk, freshC, hw, h0, waitOk]
  have hall : l.all entryOk = true := List.all_eq_true.2 hent
  unfold clientHear
  rw [if_neg (by rw [hok]; simp), if_neg (by rw [hall]; simp), if_neg (by simp only [freshC]; omega)]
  have hd : l.drop (min ((freshC who).seen - 0) (l.length : Int)).toNat = l := by
    have : (min ((freshC who).seen - 0) (l.length : Int)).toNat = 0 := by simp only [freshC]; omega
    rw [this]; rfl
  rw [hd]
  by_cases hc : 0 < cntW l who
  · rw [if_pos hc]
    have := hearL_none who l treeNew 0 0 ((cntW_pos l who).1 hc)
    simp only [freshC] at this ⊢
    rw [this]
  · rw [if_neg hc]
    have hno : ∀ e ∈ l, e.who ≠ who := fun e he hew => hc ((cntW_pos l who).2 ⟨e, he, hew⟩)
    have := hearL_skip who l [] treeNew 0 0 hno
    have ht : logTree l = l.foldl (fun t e => opDo t e.op) treeNew := by unfold logTree; rw [hl]; rfl
    simp only [freshC] at this ⊢
    rw [this, ht]
    simp

set_option maxRecDepth 100000 in
set_option maxHeartbeats 4000000 in
theorem hearAll_walk (A1 : Option Addr) (n1 : Nat) (code : List UInt8) (A2 : Option Addr) (n2 : Nat) (more : List UInt8) (w : World) (ht : Tab w) (h1 : Rd w A1 n1 code) (h2 : Rd w A2 n2 more) (hA : ∀ b off, A1 = some ⟨b, off, none⟩ → b < w.heap.size) :
    Calls Tryd.prog 3 #[.slice A1 code.length n1, .slice A2 more.length n2] w fun e w' => e = .returned (.bool true) ∧ Ext w w' := by
  have hm2 : more.length ≤ maxLen := Nat.le_trans h2.1 h2.2.1
  unfold maxLen at hm2
  have hm1 : code.length ≤ maxLen := Nat.le_trans h1.1 h1.2.1
  unfold maxLen at hm1
  have HD := Lib.hid (drawLogTree_d A1 n1 code w h1 hA)
  have HT := Lib.hid ht
  clear h1 h2 hA ht
  by_cases hc1 : 1048576 < code.length
  · have hc1' : (1048576 : Int) < code.length := by omega
    go_enter Tryd.func3, Tryd.ntmps3
    go_wp2_with fail
    go_ret
    exact ⟨rfl, Below.refl _ _⟩
  have hc1' : ¬ (1048576 : Int) < code.length := by omega
  by_cases hc2 : 1048576 < more.length
  · have hc2' : (1048576 : Int) < more.length := by omega
    go_enter Tryd.func3, Tryd.ntmps3
    go_wp2_with fail
    go_ret
    exact ⟨rfl, Below.refl _ _⟩
  have hc2' : ¬ (1048576 : Int) < more.length := by omega
  go_enter Tryd.func3, Tryd.ntmps3
  go_wp2_with fail
  refine HD.out.mono ?_
  rintro e w1 ⟨l, v1, rfl, hown1, hll, hew, hb1⟩
  obtain ⟨Al, cl, rfl, hrl⟩ := hown1.rd
  have HRL := Lib.hid hrl; have HB1 := Lib.hid hb1; have HEW := Lib.hid hew
  have HT1 := Lib.hid (HT.out.below hb1 HT.out.pos)
  clear hown1 hrl hb1 hew HD
  go_wp2_with fail
  refine (logTree_c Al cl l w1 HT1.out HRL.out).mono ?_
  rintro e w2 ⟨v2, rfl, hown2, hb2⟩
  generalize hLT : logTree l = lt at *
  have HLT := Lib.hid hLT
  obtain ⟨At, ct, rfl, hrt⟩ := hown2.rd
  have HRT := Lib.hid hrt; have HB2 := Lib.hid (HB1.out.trans (hb2.mono HB1.out.size)); have HRL2 := Lib.hid (HRL.out.ext hb2); have HT2 := Lib.hid (HT1.out.below hb2 HT1.out.pos)
  clear hown2 hrt hb2 hLT
  go_wp2_with fail
  have hs3 := logTree_s Al cl l w2 HRL2.out HEW.out
  rw [HLT.out] at hs3
  refine hs3.mono ?_
  rintro e w3 ⟨v3, rfl, hown3, hb3⟩
  obtain ⟨As, cs, rfl, hrs⟩ := hown3.rd
  have HB3 := Lib.hid (HB2.out.trans (hb3.mono HB2.out.size)); have HRL3 := Lib.hid (HRL2.out.ext hb3); have HT3 := Lib.hid (HT2.out.below hb3 HT2.out.pos); have HRT3 := Lib.hid (HRT.out.ext hb3); have HRS3 := Lib.hid hrs
  clear hown3 hrs hb3 hs3
  go_wp2_with fail
  have hq := lpRows_c At ct lt As cs lt w3 HRT3.out HRS3.out
  rw [decide_eq_true rfl] at hq
  refine hq.mono ?_
  rintro e w4 ⟨rfl, n4, hw4⟩
  have hE4 : Ext w w4 := by rw [hw4]; exact Ext.drewN HB3.out _
  have hRL4 : Rd w4 Al cl l := by rw [hw4]; exact HRL3.out
  have hRT4 : Rd w4 At ct lt := by rw [hw4]; exact HRT3.out
  have HE4 := Lib.hid hE4; have HRL4 := Lib.hid hRL4; have HRT4 := Lib.hid hRT4; have HT4 := Lib.hid (HT.out.below hE4 HT.out.pos)
  clear hq hw4 hE4 hRL4 hRT4
  go_wp2_with fail
  refine (logOk_s Al cl l w4 HRL4.out HEW.out).mono ?_
  rintro e w5 ⟨rfl, hb5⟩
  have HB5 := Lib.hid (HE4.out.trans (hb5.mono HE4.out.size)); have HRL5 := Lib.hid (HRL4.out.ext hb5); have HT5 := Lib.hid (HT4.out.below hb5 HT4.out.pos); have HRT5 := Lib.hid (HRT4.out.ext hb5)
  clear hb5
  cases hok : logOk l
  · clear hok
    go_wp2_with fail
    have hs6 := logTree_s Al cl l w5 HRL5.out HEW.out
    rw [HLT.out] at hs6
    refine hs6.mono ?_
    rintro e w6 ⟨v6, rfl, hown6, hb6⟩
    obtain ⟨As6, cs6, rfl, hrs6⟩ := hown6.rd
    have HB6 := Lib.hid (HB5.out.trans (hb6.mono HB5.out.size)); have HRT6 := Lib.hid (HRT5.out.ext hb6); have HRS6 := Lib.hid hrs6
    clear hown6 hrs6 hb6 hs6
    go_wp2_with fail
    have hq := lpRows_c At ct lt As6 cs6 lt w6 HRT6.out HRS6.out
    rw [decide_eq_true rfl] at hq
    refine hq.mono ?_
    rintro e w7 ⟨rfl, n7, hw7⟩
    rw [hw7]
    clear hq hw7
    go_wp2_with fail
    go_ret
    exact ⟨rfl, Ext.drewN HB6.out _⟩
  · have HOK := Lib.hid hok
    have hwho : 1 ≤ 1 + (more.length : Int) % 3 ∧ 1 + (more.length : Int) % 3 ≤ 3 := by omega
    have hisw : isWho (1 + (more.length : Int) % 3) = true := by simp only [isWho, decide_eq_true_eq]; omega
    have HISW := Lib.hid hisw
    have hm3 : 0 ≤ (more.length : Int) % 3 := by omega
    have hm3' : (more.length : Int) % 3 ≤ 2 := by omega
    clear hok hisw hwho
    go_wp2_with fail
    generalize 1 + (more.length : Int) % 3 = who at *
    have hwb : 1 ≤ who ∧ who ≤ 3 := by have := HISW.out; simpa [isWho] using this
    refine (clientNew_c who w5 HISW.out).mono ?_
    rintro e w6 ⟨v6, rfl, hco6, hb6⟩
    have hcv6 := hco6.cv
    obtain ⟨C1, k1, C2, k2, rfl, hr61, hr62⟩ := hcv6
    have HB6 := Lib.hid (HB5.out.trans (hb6.mono HB5.out.size)); have HRL6 := Lib.hid (HRL5.out.ext hb6); have HT6 := Lib.hid (HT5.out.below hb6 HT5.out.pos); have HRT6 := Lib.hid (HRT5.out.ext hb6)
    have hcv6 : CV w6 (freshC who) (.agg #[.int .i64 who, .int .i64 0, .slice C1 treeNew.length k1, .slice C2 0 k2, .int .i64 0, .int .i64 0]) := ⟨C1, k1, C2, k2, rfl, hr61, hr62⟩
    have HCV6 := Lib.hid hcv6
    obtain ⟨hw0, hw1⟩ := hwb
    clear hco6 hb6 hr61 hr62 hcv6 hm3 hm3'
    simp only [List.length_nil]
    generalize hTN : treeNew.length = tn at HCV6 ⊢
    go_wp2_with fail
    have hea : Ext w6 (w6.alloc (.cells #[.int .i64 who, .int .i64 0, .slice C1 tn k1, .slice C2 0 k2, .int .i64 0, .int .i64 0] 30)) := (Below.refl _ _).alloc (Nat.le_refl _) _
    have hbox := World.alloc_heap_new w6 (.cells #[.int .i64 who, .int .i64 0, .slice C1 tn k1, .slice C2 0 k2, .int .i64 0, .int .i64 0] 30)
    have hH := clientHear_c (freshC who) _ 0 Al cl l _ (HT6.out.alloc (.cells #[.int .i64 who, .int .i64 0, .slice C1 tn k1, .slice C2 0 k2, .int .i64 0, .int .i64 0] 30)) (HCV6.out.ext hea) (HRL6.out.ext hea)
    rw [hear_all HOK.out HISW.out] at hH
    have hls : logSeq l who = cntW l who := by unfold logSeq; rw [HOK.out]; rfl
    have HLS := Lib.hid hls
    clear hls
    by_cases hcnt : 0 < cntW l who
    · rw [if_pos hcnt] at hH
      have HCN := Lib.hid hcnt
      have hcnt' : (0 : Int) < (cntW l who : Int) := by omega
      refine hH.mono ?_
      rintro e w7 ⟨v7, rfl, hco7, hb7⟩
      obtain ⟨X1, j1, X2, j2, rfl, hx1, hx2⟩ := hco7.cv
      have hcv7 : CV w7 (freshC who) (.agg #[.int .i64 who, .int .i64 0, .slice X1 treeNew.length j1, .slice X2 0 j2, .int .i64 0, .int .i64 0]) := ⟨X1, j1, X2, j2, rfl, hx1, hx2⟩
      rw [hTN] at hcv7
      have hE7 : Ext w6 w7 := hea.trans (hb7.mono hea.size)
      have hbox7 := (hb7.block w6.heap.size (by rw [alloc_sz]; omega)).trans hbox
      have HCV7 := Lib.hid hcv7; have HE7 := Lib.hid hE7; have HBX7 := Lib.hid hbox7
      clear hco7 hx1 hx2 hcv7 hE7 hbox7 hH hb7 hcnt hea hbox
      simp only [freshC, List.length_nil, hTN]
      go_wp2_with fail
      have hea8 : Ext w7 (w7.alloc (.cells #[.int .i64 who, .int .i64 0, .slice X1 tn j1, .slice X2 0 j2, .int .i64 0, .int .i64 0] 30)) := (Below.refl _ _).alloc (Nat.le_refl _) _
      have hbox8 := World.alloc_heap_new w7 (.cells #[.int .i64 who, .int .i64 0, .slice X1 tn j1, .slice X2 0 j2, .int .i64 0, .int .i64 0] 30)
      have hT8 := HT6.out.below (HE7.out.trans (hea8.mono HE7.out.size)) HT6.out.pos
      have hLS := logSeq_c Al cl l who _ hT8 ((HRL6.out.ext HE7.out).ext hea8) (WalkArith.wf_i64 (by omega))
      rw [HLS.out] at hLS
      have hbx67 : (w7.alloc (.cells #[.int .i64 who, .int .i64 0, .slice X1 tn j1, .slice X2 0 j2, .int .i64 0, .int .i64 0] 30)).heap[w6.heap.size]? = some (.cells #[.int .i64 who, .int .i64 0, .slice C1 tn k1, .slice C2 0 k2, .int .i64 0, .int .i64 0] 30 (0, 0)) := (hea8.block _ (blk_lt HBX7.out)).trans HBX7.out
      refine hLS.mono ?_
      rintro e w9 ⟨rfl, hb9⟩
      have hE9 : Ext w w9 := (HB6.out.trans (HE7.out.mono HB6.out.size)).trans ((hea8.trans (hb9.mono hea8.size)).mono (Nat.le_trans HB6.out.size HE7.out.size))
      have hx9 := (hb9.block w7.heap.size (by rw [alloc_sz]; omega)).trans hbox8
      have hc9 := (hb9.block w6.heap.size (blk_lt hbx67)).trans hbx67
      obtain ⟨d0, d1, d2, d3, d4, d5, df⟩ := six_cells hx9
      obtain ⟨c0, c1, c2, c3, c4, c5, cf⟩ := six_cells hc9
      have HE9 := Lib.hid hE9
      have HCX9 := Lib.hid ((HCV7.out.ext hea8).ext hb9); have HCC9 := Lib.hid (((HCV6.out.ext HE7.out).ext hea8).ext hb9)
      clear hE9 hx9 hc9 hbox8 hT8 hLS hbx67 hb9 hea8
      go_wp2_with fail
      refine (lpClient_c (freshC who) (freshC who) _ _ w9 HCX9.out HCC9.out).mono ?_
      rintro e w10 ⟨rfl, hb10⟩
      rw [clientEq_refl]
      go_wp2_with fail
      go_ret
      exact ⟨rfl, HE9.out.trans (hb10.mono HE9.out.size)⟩
    · rw [if_neg hcnt] at hH
      have hcnt' : ¬ (0 : Int) < (cntW l who : Int) := by omega
      rw [HLT.out] at hH
      refine hH.mono ?_
      rintro e w7 ⟨v7, rfl, hco7, hb7⟩
      obtain ⟨X1, j1, X2, j2, rfl, hx1, hx2⟩ := hco7.cv
      have hE7 : Ext w6 w7 := hea.trans (hb7.mono hea.size)
      have hbox7 := (hb7.block w6.heap.size (by rw [alloc_sz]; omega)).trans hbox
      have HX1 := Lib.hid hx1; have HE7 := Lib.hid hE7; have HBX7 := Lib.hid hbox7
      clear hco7 hx1 hx2 hE7 hbox7 hH hb7 hcnt hea hbox
      simp only [List.length_nil]
      go_wp2_with fail
      have hea8 : Ext w7 (w7.alloc (.cells #[.int .i64 who, .int .i64 l.length, .slice X1 lt.length j1, .slice X2 0 j2, .int .i64 0, .int .i64 0] 30)) := (Below.refl _ _).alloc (Nat.le_refl _) _
      have hbox8 := World.alloc_heap_new w7 (.cells #[.int .i64 who, .int .i64 l.length, .slice X1 lt.length j1, .slice X2 0 j2, .int .i64 0, .int .i64 0] 30)
      have hT8 := HT6.out.below (HE7.out.trans (hea8.mono HE7.out.size)) HT6.out.pos
      have hLS := logSeq_c Al cl l who _ hT8 ((HRL6.out.ext HE7.out).ext hea8) (WalkArith.wf_i64 (by omega))
      rw [HLS.out] at hLS
      have hbx67 : (w7.alloc (.cells #[.int .i64 who, .int .i64 l.length, .slice X1 lt.length j1, .slice X2 0 j2, .int .i64 0, .int .i64 0] 30)).heap[w6.heap.size]? = some (.cells #[.int .i64 who, .int .i64 0, .slice C1 tn k1, .slice C2 0 k2, .int .i64 0, .int .i64 0] 30 (0, 0)) := (hea8.block _ (blk_lt HBX7.out)).trans HBX7.out
      refine hLS.mono ?_
      rintro e w9 ⟨rfl, hb9⟩
      have hE9 : Ext w w9 := (HB6.out.trans (HE7.out.mono HB6.out.size)).trans ((hea8.trans (hb9.mono hea8.size)).mono (Nat.le_trans HB6.out.size HE7.out.size))
      have hx9 := (hb9.block w7.heap.size (by rw [alloc_sz]; omega)).trans hbox8
      have hc9 := (hb9.block w6.heap.size (blk_lt hbx67)).trans hbx67
      obtain ⟨d0, d1, d2, d3, d4, d5, df⟩ := six_cells hx9
      obtain ⟨c0, c1, c2, c3, c4, c5, cf⟩ := six_cells hc9
      have HE9 := Lib.hid hE9
      have HRX9 := Lib.hid (((show Rd w7 X1 j1 lt from HX1.out).ext hea8).ext hb9); have HRT9 := Lib.hid (((HRT6.out.ext HE7.out).ext hea8).ext hb9)
      clear hE9 hx9 hc9 hbox8 hT8 hLS hbx67 hb9 hea8
      go_wp2_with fail
      have hq := lpRows_c X1 j1 lt At ct lt w9 HRX9.out HRT9.out
      rw [decide_eq_true rfl] at hq
      refine hq.mono ?_
      rintro e w10 ⟨rfl, n10, hw10⟩
      rw [hw10]
      clear hq hw10
      go_wp2_with fail
      go_ret
      exact ⟨by simp, Ext.drewN HE9.out _⟩
end Go.Proofs.YtddpckkpaolpnaaDoor
namespace Go.Proofs.YtddpckkpaolpnaaDoor
open Go.RowKit Go.ChangeShapes Go.WideShapes Go.ChangeAt
set_option linter.unusedVariables false

theorem laidOut : laidOutB Tryd.prog = true := by kernel_rfl
theorem own : ownKnob Tryd.prog.godebug = none := by kernel_rfl
theorem gTab : Tryd.prog.globalNamed "loop.example/plashet/impl.rowOwners" = some 0 := by kernel_rfl
theorem gTabType : (Tryd.prog.globals[0]?).map (·.type) = some 118 := by kernel_rfl
theorem cellsTab : Tryd.prog.cellsOf 118 = 37 := by kernel_rfl
theorem cellsInt : Tryd.prog.cellsOf 3 = 1 := by kernel_rfl

/-- The owners, as the row lists them. -/
def owners : List Int := [0, 1, 1, 1, 0, 0, 0, 0, 0, 0, 0, 2, 2, 2, 2, 2, 2, 0, 0, 0, 0, 3, 3, 3, 3, 3, 3, 0, 0, 0, 0, 4, 4, 4, 4, 4, 4]
theorem owners_at (n : Nat) (h : n < 37) : owners.getD n 0 = ownerOf n := by
  have h0 : ∀ n : Fin 37, owners.getD n 0 = ownerOf (n : Nat) := by decide
  exact h0 ⟨n, h⟩
theorem tab_of {W : World} (h : laidMetH Tryd.prog [("loop.example/plashet/impl.rowOwners", Rows.laid_loop_example_plashet_impl_rowOwners)] W) : Tab W := by
  have ht : Lib.TabIs Tryd.prog W "loop.example/plashet/impl.rowOwners" .i64 owners := Lib.tabIs_of_head (rest := []) gTab gTabType Tryd.underlying118 Tryd.underlying3 cellsInt cellsTab h
  intro id h0 h1
  have hn : id.toNat < 37 := by omega
  rw [ht.cell gTab id.toNat (by simpa [owners] using hn), owners_at _ hn, show ((id.toNat : Nat) : Int) = id by omega]

set_option maxRecDepth 100000 in
/-- A slice that came in: where it lies. -/
theorem arg_slice {W : World} {base : Nat} {t e : TypeId} {v : Value} (ht : Tryd.prog.underlying t = some (.slice e)) (h : Value.okWide Tryd.prog W .any base t v) :
    ∃ A len cap, v = .slice A len cap ∧ ∀ a, A = some a → a.spot = none ∧ a.block < W.heap.size := by
  obtain ⟨A, len, cap, rfl⟩ := okWide_slice ht h
  refine ⟨A, len, cap, rfl, ?_⟩
  rintro a rfl
  simp only [Value.okWide, ht, Cell.okWide, Cell.ok, World.has] at h
  obtain ⟨_, _, _, hs, row, cells, hsh, _⟩ := h
  refine ⟨hs, ?_⟩
  unfold World.shape? at hsh
  cases hb : W.heap[a.block]? with
  | none => rw [hb] at hsh; cases hsh
  | some o => exact (Array.getElem?_eq_some_iff.1 hb).1

set_option maxRecDepth 100000 in
/-- A slice of bytes that came in, read. -/
theorem arg_bytes {H : Type} {enc : TypeId × Value → H} {W : World} {base : Nat} {v : Value} {d : DataW H} {p : List MemPlace}
    (h : Value.okWide Tryd.prog W .any base 22 v) (hr : DataW.Trod enc Tryd.prog W 0 (fun _ => true) true 22 v d p) :
    ∃ (A : Option Addr) (cap : Nat) (bs : List UInt8), v = .slice A bs.length cap ∧ Rd W A cap bs ∧ ∀ b off, A = some ⟨b, off, none⟩ → b < W.heap.size := by
  obtain ⟨A, len, cap, rfl, hA⟩ := arg_slice Tryd.underlying22 h
  obtain ⟨fuel, hf⟩ := hr
  rcases open_ints Tryd.underlying22 Tryd.underlying5 (by kernel_rfl) hf with ⟨hcs, _⟩ | ⟨x, l, c, zs, hcs, _, hl, hm, hz, _, hcell, hwz⟩
  · simp [Value.cells] at hcs
    obtain ⟨rfl, rfl, rfl⟩ := hcs
    exact ⟨none, 0, [], rfl, ⟨by simp, by simp, fun h => absurd h (by simp), by simp⟩, by simp⟩
  · simp [Value.cells] at hcs
    obtain ⟨rfl, rfl, rfl⟩ := hcs
    obtain ⟨b, off, spot⟩ := x
    obtain ⟨hs, hb⟩ := hA _ rfl
    simp only at hs hb hz
    subst hs
    have hlen : ((zs.take len).map fun z => UInt8.ofNat z.toNat).length = len := by simp at hz; simp; omega
    refine ⟨some ⟨b, off, none⟩, cap, (zs.take len).map fun z => UInt8.ofNat z.toNat, by rw [hlen], ⟨by rw [hlen]; exact hl, hm, fun _ => ⟨b, off, rfl, ?_⟩, fun _ _ => trivial⟩, ?_⟩
    · intro j v hv
      have hfl : flat ((zs.take len).map fun z => UInt8.ofNat z.toNat) = (zs.take len).map fun z => Value.int .u8 ((UInt8.ofNat z.toNat).toNat : Int) := by
        unfold flat; rw [List.flatMap_map]
        show (zs.take len).flatMap (fun a => [Value.int .u8 ((UInt8.ofNat a.toNat).toNat : Int)]) = _
        induction zs.take len with
        | nil => rfl
        | cons a r ih => rw [List.flatMap_cons, ih]; rfl
      rw [hfl, List.getElem?_map, Option.map_eq_some_iff] at hv
      obtain ⟨z, hz1, rfl⟩ := hv
      have hj : j < zs.length ∧ j < len := by
        have := (List.getElem?_eq_some_iff.1 hz1).1
        simp at this
        omega
      rw [List.getElem?_take, if_pos hj.2] at hz1
      have hzj : zs.getD j 0 = z := by simp [List.getD, hz1]
      have hw := hwz z (List.mem_of_getElem? hz1)
      have := hcell j hj.1
      rw [hzj] at this
      have hadd : (⟨b, off, none⟩ : Addr).add j = ⟨b, off + j, none⟩ := by unfold Addr.add; split <;> simp_all
      rw [hadd] at this
      have hz2 : ((UInt8.ofNat z.toNat).toNat : Int) = z := by
        have h1 := of_decide_eq_true (show decide ((0 : Int) ≤ z) = true by simp [Lit.wf, IntKind.min, IntKind.signed] at hw; simpa using hw.1)
        have h2 := of_decide_eq_true (show decide (z ≤ (255 : Int)) = true by simp [Lit.wf, IntKind.max, IntKind.signed, IntKind.bits] at hw; simpa using hw.2)
        have h3 : (UInt8.ofNat z.toNat).toNat = z.toNat % 256 := by simp [UInt8.toNat_ofNat']
        rw [h3]
        omega
      rw [hz2]; exact this
    · rintro b' off' e; simp at e; omega
end Go.Proofs.YtddpckkpaolpnaaDoor
