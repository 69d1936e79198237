/- The walk of laws.FnExactClientHear: true, whatever the client and the entries. -/
import Derived.Test.YtikcnbkoeglecaaDoorSB
import Derived.Test.YtikcnbkoeglecaaDoorRE
namespace Go.Proofs.YtikcnbkoeglecaaDoor
open Go.RowKit
set_option linter.unusedVariables false

set_option maxRecDepth 100000 in
set_option maxHeartbeats 8000000 in
theorem exactHear_walk (c : Client) (v : Value) (frm : Int) (A : Option Addr) (cap : Nat) (l : List Entry) (w : World) (ht : Tab w) (h : CV w c v) (hr : Rd w A cap l) (hi : ((i64 c.who ∧ i64 c.seen ∧ i64 c.done ∧ i64 c.made) ∧ (∀ r ∈ c.base, i64 r.id) ∧ (∀ e ∈ c.wait, OpW e.op)) ∧ ∀ e ∈ l, OpW e.op) :
    Calls Tryd.prog 5 #[v, .int .i64 frm, .slice A l.length cap] w fun x w' => x = .returned (.bool true) ∧ Ext w w' := by
  obtain ⟨hcw, hce⟩ := hi
  have HT0 := Lib.hid ht; have HV0 := Lib.hid h; have HI := Lib.hid hcw; have HIE := Lib.hid hce
  have hpos := ht.pos
  obtain ⟨A1, a1, A2, a2, rfl, h1, h2⟩ := h
  have hE0 : Ext w (w.alloc (.cells #[.int .i64 c.who, .int .i64 c.seen, .slice A1 c.base.length a1, .slice A2 c.wait.length a2, .int .i64 c.done, .int .i64 c.made] 40)) := (Below.refl _ w).alloc (Nat.le_refl _) _
  have HX0 := Lib.hid (World.alloc_heap_new w (.cells #[.int .i64 c.who, .int .i64 c.seen, .slice A1 c.base.length a1, .slice A2 c.wait.length a2, .int .i64 c.done, .int .i64 c.made] 40))
  have hsz0 := alloc_sz w (.cells #[.int .i64 c.who, .int .i64 c.seen, .slice A1 c.base.length a1, .slice A2 c.wait.length a2, .int .i64 c.done, .int .i64 c.made] 40)
  have HV := Lib.hid (HV0.out.ext hE0); have HR := Lib.hid (hr.ext hE0)
  have HTB := Lib.hid (HT0.out.alloc (.cells #[.int .i64 c.who, .int .i64 c.seen, .slice A1 c.base.length a1, .slice A2 c.wait.length a2, .int .i64 c.done, .int .i64 c.made] 40))
  have HE0 := Lib.hid hE0
  clear h1 h2 ht hcw hce hE0 hr
  go_enter Tryd.func5, Tryd.ntmps5
  go_wp2_with fail
  generalize (w.alloc (.cells #[.int .i64 c.who, .int .i64 c.seen, .slice A1 c.base.length a1, .slice A2 c.wait.length a2, .int .i64 c.done, .int .i64 c.made] 40)) = W at *
  refine (szClient_c c _ 1048576 W HV.out (by omega) (by omega)).mono ?_
  rintro e w1 ⟨s, rfl, s1, s2, s3, hb1⟩
  have HE1 := Lib.hid hb1; have hs1 := hb1.size
  clear hb1
  by_cases hs : s < 0
  · clear s3
    go_wp2_with fail
    go_ret
    exact ⟨rfl, HE0.out.trans (HE1.out.mono (by omega))⟩
  obtain ⟨hlb, hlw⟩ := s3 (by omega)
  have hlb' : c.base.length ≤ 1048576 := by omega
  have hlw' : c.wait.length ≤ 1048576 := by omega
  have HC : Hid (CW c) := ⟨HI.out.1, HI.out.2.1, HI.out.2.2, by omega⟩
  clear hlb hlw
  have HSZ := Lib.hid (szEntryS_c A cap l s w1 (HR.out.ext HE1.out) (by omega) (by omega))
  go_wp2_with fail
  refine HSZ.out.mono ?_
  rintro e wa ⟨s', rfl, s1', s2', s3', hba⟩
  have HEa := Lib.hid (HE1.out.trans (hba.mono HE1.out.size)); have hsa := hba.size
  clear hba HSZ
  by_cases hs' : s' < 0
  · clear s3'
    go_wp2_with fail
    go_ret
    exact ⟨rfl, HE0.out.trans (HEa.out.mono (by omega))⟩
  have hll := s3' (by omega)
  have hll' : l.length ≤ 1048576 := by omega
  clear hll s3' s1 s2 s1' s2'
  obtain ⟨c0, c1, c2, c3, c4, c5, cf⟩ := six_cells ((HEa.out.block w.heap.size (blk_lt HX0.out)).trans HX0.out)
  go_wp2_with fail
  refine (toClient_c c _ wa (HV.out.ext HEa.out) (by omega) (by omega)).mono ?_
  rintro e w2 ⟨v2, rfl, co2, hb2⟩
  have hs2 := hb2.size; have HE2 := Lib.hid (HEa.out.trans (hb2.mono HEa.out.size)); have HC2 := Lib.hid co2.cv
  clear c0 c1 c2 c3 c4 c5 cf co2 hb2
  go_wp2_with fail
  refine (toEntryS_c A cap l w2 (HR.out.ext HE2.out) (by omega)).mono ?_
  rintro e w3 ⟨v3, rfl, ho3, hb3⟩
  obtain ⟨E3, f3, rfl, hr3⟩ := ho3.rd
  have hs3 := hb3.size; have HE3 := Lib.hid (HE2.out.trans (hb3.mono HE2.out.size)); have HC3 := Lib.hid (HC2.out.ext hb3); have HR3 := Lib.hid hr3
  clear ho3 hr3 hb3 HC2
  go_wp2_with fail
  refine (clientHear_s c v2 frm E3 f3 l w3 HC3.out HR3.out HC.out HIE.out (by omega)).mono ?_
  have hlen := clientHear_len c frm l
  obtain ⟨e, bo, heb⟩ : ∃ e bo, clientHear c frm l = (e, bo) := ⟨_, _, rfl⟩
  rw [heb] at hlen ⊢
  simp only at hlen ⊢
  obtain ⟨hlen1, hlen2⟩ := hlen
  have HEB := Lib.hid heb
  clear heb HC3 HR3
  rintro r w4 ⟨v4, rfl, co4, hb4⟩
  have hs4 := hb4.size; have HE4 := Lib.hid (HE3.out.trans (hb4.mono HE3.out.size)); have HCO4 := Lib.hid co4
  obtain ⟨P1, p1, P2, p2, rfl, o1, o2⟩ := co4
  clear o1 o2 hb4
  have hE5 : Ext w4 (w4.alloc (.cells #[.int .i64 e.who, .int .i64 e.seen, .slice P1 e.base.length p1, .slice P2 e.wait.length p2, .int .i64 e.done, .int .i64 e.made] 30)) := (Below.refl _ w4).alloc (Nat.le_refl _) _
  have HX5 := Lib.hid (World.alloc_heap_new w4 (.cells #[.int .i64 e.who, .int .i64 e.seen, .slice P1 e.base.length p1, .slice P2 e.wait.length p2, .int .i64 e.done, .int .i64 e.made] 30)); have hsz5 := alloc_sz w4 (.cells #[.int .i64 e.who, .int .i64 e.seen, .slice P1 e.base.length p1, .slice P2 e.wait.length p2, .int .i64 e.done, .int .i64 e.made] 30)
  have HE5 := Lib.hid (HE4.out.trans (hE5.mono HE4.out.size)); have HCP5 := Lib.hid (HCO4.out.below hE5)
  obtain ⟨c0, c1, c2, c3, c4, c5, cf⟩ := six_cells ((HE4.out.block w.heap.size (blk_lt HX0.out)).trans HX0.out)
  obtain ⟨d0, d1, d2, d3, d4, d5, df⟩ := six_cells ((HE5.out.block w.heap.size (blk_lt HX0.out)).trans HX0.out)
  clear hE5
  go_wp2_with fail
  generalize (w4.alloc (.cells #[.int .i64 e.who, .int .i64 e.seen, .slice P1 e.base.length p1, .slice P2 e.wait.length p2, .int .i64 e.done, .int .i64 e.made] 30)) = w5 at *
  clear c0 c1 c2 c3 c4 c5 cf d0 d1 d2 d3 d4 d5 df
  refine (toClient_c c _ w5 (HV.out.ext HE5.out) (by omega) (by omega)).mono ?_
  rintro r w6 ⟨v6, rfl, co6, hb6⟩
  have hs6 := hb6.size; have HE6 := Lib.hid (HE5.out.trans (hb6.mono HE5.out.size)); have HE56 := Lib.hid hb6; have HCO6 := Lib.hid co6
  obtain ⟨B1, b1, B2, b2, rfl, o1, o2⟩ := co6
  clear o1 o2 hb6
  have hE7 : Ext w6 (w6.alloc (.cells #[.int .i64 c.who, .int .i64 c.seen, .slice B1 c.base.length b1, .slice B2 c.wait.length b2, .int .i64 c.done, .int .i64 c.made] 30)) := (Below.refl _ w6).alloc (Nat.le_refl _) _
  have HX7 := Lib.hid (World.alloc_heap_new w6 (.cells #[.int .i64 c.who, .int .i64 c.seen, .slice B1 c.base.length b1, .slice B2 c.wait.length b2, .int .i64 c.done, .int .i64 c.made] 30)); have hsz7 := alloc_sz w6 (.cells #[.int .i64 c.who, .int .i64 c.seen, .slice B1 c.base.length b1, .slice B2 c.wait.length b2, .int .i64 c.done, .int .i64 c.made] 30)
  have HE7 := Lib.hid (HE6.out.trans (hE7.mono HE6.out.size)); have HE57 := Lib.hid (HE56.out.trans (hE7.mono HE56.out.size)); have HE67 := Lib.hid hE7
  clear hE7
  go_wp2_with fail
  generalize (w6.alloc (.cells #[.int .i64 c.who, .int .i64 c.seen, .slice B1 c.base.length b1, .slice B2 c.wait.length b2, .int .i64 c.done, .int .i64 c.made] 30)) = w7 at *
  refine (toEntryS_c A cap l w7 (HR.out.ext HE7.out) (by omega)).mono ?_
  rintro r w8 ⟨v8, rfl, ho8, hb8⟩
  obtain ⟨E8, f8, rfl, hr8⟩ := ho8.rd
  have hs8 := hb8.size; have HE8 := Lib.hid (HE7.out.trans (hb8.mono HE7.out.size)); have HE58 := Lib.hid (HE57.out.trans (hb8.mono HE57.out.size)); have HE68 := Lib.hid (HE67.out.trans (hb8.mono HE67.out.size)); have HE78 := Lib.hid hb8; have HO8 := Lib.hid ho8; have HR8 := Lib.hid hr8
  clear ho8 hr8 hb8
  obtain ⟨x0, x1, x2, x3, x4, x5, xf⟩ := six_cells ((HE78.out.block w6.heap.size (blk_lt HX7.out)).trans HX7.out)
  go_wp2_with fail
  have hH := clientHear_c c _ frm E8 f8 l w8 (HTB.out.below HE8.out (by omega)) (HCO6.out.cv.ext HE68.out) HR8.out
  rw [HEB.out] at hH
  refine hH.mono ?_
  clear hH
  rintro r w9 ⟨v9, rfl, co9, hb9⟩
  have hs9 := hb9.size; have HE9 := Lib.hid (HE8.out.trans (hb9.mono HE8.out.size)); have HE59 := Lib.hid (HE58.out.trans (hb9.mono HE58.out.size)); have HE69 := Lib.hid (HE68.out.trans (hb9.mono HE68.out.size)); have HE79 := Lib.hid (HE78.out.trans (hb9.mono HE78.out.size)); have HE89 := Lib.hid hb9; have HCO9 := Lib.hid co9
  simp only at HCO9
  obtain ⟨G1, g1, G2, g2, rfl, o1, o2⟩ := co9
  clear o1 o2 hb9
  have hEa : Ext w9 (w9.alloc (.cells #[.int .i64 e.who, .int .i64 e.seen, .slice G1 e.base.length g1, .slice G2 e.wait.length g2, .int .i64 e.done, .int .i64 e.made] 30)) := (Below.refl _ w9).alloc (Nat.le_refl _) _
  have HXA := Lib.hid (World.alloc_heap_new w9 (.cells #[.int .i64 e.who, .int .i64 e.seen, .slice G1 e.base.length g1, .slice G2 e.wait.length g2, .int .i64 e.done, .int .i64 e.made] 30)); have hszA := alloc_sz w9 (.cells #[.int .i64 e.who, .int .i64 e.seen, .slice G1 e.base.length g1, .slice G2 e.wait.length g2, .int .i64 e.done, .int .i64 e.made] 30)
  have HEA := Lib.hid (HE9.out.trans (hEa.mono HE9.out.size)); have HE5A := Lib.hid (HE59.out.trans (hEa.mono HE59.out.size)); have HE6A := Lib.hid (HE69.out.trans (hEa.mono HE69.out.size)); have HE7A := Lib.hid (HE79.out.trans (hEa.mono HE79.out.size)); have HE8A := Lib.hid (HE89.out.trans (hEa.mono HE89.out.size)); have HE9A := Lib.hid hEa
  clear hEa
  clear x0 x1 x2 x3 x4 x5 xf
  obtain ⟨x0, x1, x2, x3, x4, x5, xf⟩ := six_cells ((HE5A.out.block w4.heap.size (blk_lt HX5.out)).trans HX5.out)
  go_wp2_with fail
  generalize (w9.alloc (.cells #[.int .i64 e.who, .int .i64 e.seen, .slice G1 e.base.length g1, .slice G2 e.wait.length g2, .int .i64 e.done, .int .i64 e.made] 30)) = wA at *
  have HEWA := Lib.hid HEA.out; have HEAA : Hid (Ext wA wA) := Below.refl _ _
  have hEQ := eqClient_c e e (.agg #[.int .i64 e.who, .int .i64 e.seen, .slice G1 e.base.length g1, .slice G2 e.wait.length g2, .int .i64 e.done, .int .i64 e.made]) (.agg #[.int .i64 e.who, .int .i64 e.seen, .slice P1 e.base.length p1, .slice P2 e.wait.length p2, .int .i64 e.done, .int .i64 e.made]) wA (HCO9.out.cv.ext HE9A.out) (HCP5.out.cv.ext HE5A.out)
  rw [show decide (e = e) = true by simp] at hEQ
  have HEQ := Lib.hid hEQ
  clear hEQ
  refine HEQ.out.mono ?_
  rintro r wB ⟨rfl, hbB⟩
  clear x0 x1 x2 x3 x4 x5 xf
  have hsB := hbB.size
  have HEWB := Lib.hid (HEWA.out.trans (hbB.mono HEWA.out.size))
  have HE5B := Lib.hid (HE5A.out.trans (hbB.mono HE5A.out.size))
  have HE6B := Lib.hid (HE6A.out.trans (hbB.mono HE6A.out.size))
  have HE7B := Lib.hid (HE7A.out.trans (hbB.mono HE7A.out.size))
  have HE8B := Lib.hid (HE8A.out.trans (hbB.mono HE8A.out.size))
  have HE9B := Lib.hid (HE9A.out.trans (hbB.mono HE9A.out.size))
  have HEAB := Lib.hid (HEAA.out.trans (hbB.mono HEAA.out.size))
  have hxa := (HEWB.out.block w.heap.size (blk_lt HX0.out)).trans HX0.out
  have hxb := (HE7B.out.block w6.heap.size (blk_lt HX7.out)).trans HX7.out
  have HLA := Lib.hid (blk_lt hxa); have HLB := Lib.hid (blk_lt hxb)
  have HC1 := Lib.hid (toClient_c c _ wB.drew ((HV.out.ext HEWB.out).ext (Ext.drew (Below.refl _ _))) (by omega) (by omega))
  have HB0 := Lib.hid (HCO6.out.cv.ext HE6B.out)
  obtain ⟨c0, c1, c2, c3, c4, c5, cf⟩ := six_cells (hxa)
  obtain ⟨d0, d1, d2, d3, d4, d5, df⟩ := six_cells (hxb)
  clear hbB hxa hxb HEQ
  go_wp2_with fail
  have E0 : wB.drew.cell? ⟨w.heap.size, 0, none⟩ = some (.int .i64 c.who) ∧ wB.drew.cell? ⟨w.heap.size, 1, none⟩ = some (.int .i64 c.seen) ∧ wB.drew.cell? ⟨w.heap.size, 2, none⟩ = some (.slice A1 c.base.length a1) ∧ wB.drew.cell? ⟨w.heap.size, 3, none⟩ = some (.slice A2 c.wait.length a2) ∧ wB.drew.cell? ⟨w.heap.size, 4, none⟩ = some (.int .i64 c.done) ∧ wB.drew.cell? ⟨w.heap.size, 5, none⟩ = some (.int .i64 c.made) ∧ wB.drew.cell? ⟨w6.heap.size, 0, none⟩ = some (.int .i64 c.who) ∧ wB.drew.cell? ⟨w6.heap.size, 1, none⟩ = some (.int .i64 c.seen) ∧ wB.drew.cell? ⟨w6.heap.size, 2, none⟩ = some (.slice B1 c.base.length b1) ∧ wB.drew.cell? ⟨w6.heap.size, 3, none⟩ = some (.slice B2 c.wait.length b2) ∧ wB.drew.cell? ⟨w6.heap.size, 4, none⟩ = some (.int .i64 c.done) ∧ wB.drew.cell? ⟨w6.heap.size, 5, none⟩ = some (.int .i64 c.made) := ⟨c0, c1, c2, c3, c4, c5, d0, d1, d2, d3, d4, d5⟩
  clear c0 c1 c2 c3 c4 c5 cf d0 d1 d2 d3 d4 d5 df
  go_region_held3 (fun w' => w'.cell? ⟨w.heap.size, 0, none⟩ = some (.int .i64 c.who) ∧ w'.cell? ⟨w.heap.size, 1, none⟩ = some (.int .i64 c.seen) ∧ w'.cell? ⟨w.heap.size, 2, none⟩ = some (.slice A1 c.base.length a1) ∧ w'.cell? ⟨w.heap.size, 3, none⟩ = some (.slice A2 c.wait.length a2) ∧ w'.cell? ⟨w.heap.size, 4, none⟩ = some (.int .i64 c.done) ∧ w'.cell? ⟨w.heap.size, 5, none⟩ = some (.int .i64 c.made) ∧ w'.cell? ⟨w6.heap.size, 0, none⟩ = some (.int .i64 c.who) ∧ w'.cell? ⟨w6.heap.size, 1, none⟩ = some (.int .i64 c.seen) ∧ w'.cell? ⟨w6.heap.size, 2, none⟩ = some (.slice B1 c.base.length b1) ∧ w'.cell? ⟨w6.heap.size, 3, none⟩ = some (.slice B2 c.wait.length b2) ∧ w'.cell? ⟨w6.heap.size, 4, none⟩ = some (.int .i64 c.done) ∧ w'.cell? ⟨w6.heap.size, 5, none⟩ = some (.int .i64 c.made))
    (first | exact E2 | exact E1 | exact E0 | go_keep)
    (first
      | (go_at_call 17; refine HC1.out.mono ?_; rintro r wC ⟨vC, rfl, coC, hbC⟩; obtain ⟨hcC, hfC⟩ := bcell hbC
         have E1 : wC.cell? ⟨w.heap.size, 0, none⟩ = some (.int .i64 c.who) ∧ wC.cell? ⟨w.heap.size, 1, none⟩ = some (.int .i64 c.seen) ∧ wC.cell? ⟨w.heap.size, 2, none⟩ = some (.slice A1 c.base.length a1) ∧ wC.cell? ⟨w.heap.size, 3, none⟩ = some (.slice A2 c.wait.length a2) ∧ wC.cell? ⟨w.heap.size, 4, none⟩ = some (.int .i64 c.done) ∧ wC.cell? ⟨w.heap.size, 5, none⟩ = some (.int .i64 c.made) ∧ wC.cell? ⟨w6.heap.size, 0, none⟩ = some (.int .i64 c.who) ∧ wC.cell? ⟨w6.heap.size, 1, none⟩ = some (.int .i64 c.seen) ∧ wC.cell? ⟨w6.heap.size, 2, none⟩ = some (.slice B1 c.base.length b1) ∧ wC.cell? ⟨w6.heap.size, 3, none⟩ = some (.slice B2 c.wait.length b2) ∧ wC.cell? ⟨w6.heap.size, 4, none⟩ = some (.int .i64 c.done) ∧ wC.cell? ⟨w6.heap.size, 5, none⟩ = some (.int .i64 c.made) := ⟨(hcC _ _ HLA.out).trans E0.1, (hcC _ _ HLA.out).trans E0.2.1, (hcC _ _ HLA.out).trans E0.2.2.1, (hcC _ _ HLA.out).trans E0.2.2.2.1, (hcC _ _ HLA.out).trans E0.2.2.2.2.1, (hcC _ _ HLA.out).trans E0.2.2.2.2.2.1, (hcC _ _ HLB.out).trans E0.2.2.2.2.2.2.1, (hcC _ _ HLB.out).trans E0.2.2.2.2.2.2.2.1, (hcC _ _ HLB.out).trans E0.2.2.2.2.2.2.2.2.1, (hcC _ _ HLB.out).trans E0.2.2.2.2.2.2.2.2.2.1, (hcC _ _ HLB.out).trans E0.2.2.2.2.2.2.2.2.2.2.1, (hcC _ _ HLB.out).trans E0.2.2.2.2.2.2.2.2.2.2.2⟩
         have HBC := Lib.hid hbC; have HLC := Lib.hid hbC.size; have HCOC := Lib.hid coC; clear hcC hfC hbC coC)
      | (go_at_call 20; refine (eqClient_c c c _ _ wC ((HB0.out.ext (Ext.drew (Below.refl _ _))).ext HBC.out) HCOC.out.cv).mono ?_; rintro r wD ⟨rfl, hbD⟩; obtain ⟨hcD, hfD⟩ := bcell hbD
         have E2 : wD.cell? ⟨w.heap.size, 0, none⟩ = some (.int .i64 c.who) ∧ wD.cell? ⟨w.heap.size, 1, none⟩ = some (.int .i64 c.seen) ∧ wD.cell? ⟨w.heap.size, 2, none⟩ = some (.slice A1 c.base.length a1) ∧ wD.cell? ⟨w.heap.size, 3, none⟩ = some (.slice A2 c.wait.length a2) ∧ wD.cell? ⟨w.heap.size, 4, none⟩ = some (.int .i64 c.done) ∧ wD.cell? ⟨w.heap.size, 5, none⟩ = some (.int .i64 c.made) ∧ wD.cell? ⟨w6.heap.size, 0, none⟩ = some (.int .i64 c.who) ∧ wD.cell? ⟨w6.heap.size, 1, none⟩ = some (.int .i64 c.seen) ∧ wD.cell? ⟨w6.heap.size, 2, none⟩ = some (.slice B1 c.base.length b1) ∧ wD.cell? ⟨w6.heap.size, 3, none⟩ = some (.slice B2 c.wait.length b2) ∧ wD.cell? ⟨w6.heap.size, 4, none⟩ = some (.int .i64 c.done) ∧ wD.cell? ⟨w6.heap.size, 5, none⟩ = some (.int .i64 c.made) := ⟨(hcD _ _ (Nat.lt_of_lt_of_le HLA.out HLC.out)).trans E1.1, (hcD _ _ (Nat.lt_of_lt_of_le HLA.out HLC.out)).trans E1.2.1, (hcD _ _ (Nat.lt_of_lt_of_le HLA.out HLC.out)).trans E1.2.2.1, (hcD _ _ (Nat.lt_of_lt_of_le HLA.out HLC.out)).trans E1.2.2.2.1, (hcD _ _ (Nat.lt_of_lt_of_le HLA.out HLC.out)).trans E1.2.2.2.2.1, (hcD _ _ (Nat.lt_of_lt_of_le HLA.out HLC.out)).trans E1.2.2.2.2.2.1, (hcD _ _ (Nat.lt_of_lt_of_le HLB.out HLC.out)).trans E1.2.2.2.2.2.2.1, (hcD _ _ (Nat.lt_of_lt_of_le HLB.out HLC.out)).trans E1.2.2.2.2.2.2.2.1, (hcD _ _ (Nat.lt_of_lt_of_le HLB.out HLC.out)).trans E1.2.2.2.2.2.2.2.2.1, (hcD _ _ (Nat.lt_of_lt_of_le HLB.out HLC.out)).trans E1.2.2.2.2.2.2.2.2.2.1, (hcD _ _ (Nat.lt_of_lt_of_le HLB.out HLC.out)).trans E1.2.2.2.2.2.2.2.2.2.2.1, (hcD _ _ (Nat.lt_of_lt_of_le HLB.out HLC.out)).trans E1.2.2.2.2.2.2.2.2.2.2.2⟩
         have HBD := Lib.hid hbD; clear hcD hfD hbD))
  have hEBD : Ext wB wD := (((Below.refl _ wB).drew).trans HBC.out).trans (HBD.out.mono HLC.out)
  have hsD := hEBD.size
  have HEWD := Lib.hid (HEWB.out.trans (hEBD.mono HEWB.out.size))
  have HE5D := Lib.hid (HE5B.out.trans (hEBD.mono HE5B.out.size))
  have HE6D := Lib.hid (HE6B.out.trans (hEBD.mono HE6B.out.size))
  have HE7D := Lib.hid (HE7B.out.trans (hEBD.mono HE7B.out.size))
  have HE8D := Lib.hid (HE8B.out.trans (hEBD.mono HE8B.out.size))
  have HE9D := Lib.hid (HE9B.out.trans (hEBD.mono HE9B.out.size))
  have HEAD := Lib.hid (HEAB.out.trans (hEBD.mono HEAB.out.size))
  clear E0 E1 hEBD HBC HBD HLC HLA HLB HCOC HC1 HB0
  obtain ⟨c0, c1, c2, c3, c4, c5, d0, d1, d2, d3, d4, d5⟩ := E2
  go_wp2_with fail
  refine (toEntryS_c A cap l wD (HR.out.ext HEWD.out) (by omega)).mono ?_
  rintro r wE ⟨vE, rfl, hoE, hbE⟩
  obtain ⟨E9, f9, rfl, hrE⟩ := hoE.rd
  have hsE := hbE.size
  have HEWE := Lib.hid (HEWD.out.trans (hbE.mono HEWD.out.size))
  have HE5E := Lib.hid (HE5D.out.trans (hbE.mono HE5D.out.size))
  have HE6E := Lib.hid (HE6D.out.trans (hbE.mono HE6D.out.size))
  have HE7E := Lib.hid (HE7D.out.trans (hbE.mono HE7D.out.size))
  have HE8E := Lib.hid (HE8D.out.trans (hbE.mono HE8D.out.size))
  have HE9E := Lib.hid (HE9D.out.trans (hbE.mono HE9D.out.size))
  have HEAE := Lib.hid (HEAD.out.trans (hbE.mono HEAD.out.size))
  have hEQ := eqEntryS_c E8 f8 l E9 f9 l wE (HR8.out.ext HE8E.out) hrE
  rw [show decide (l = l) = true by simp] at hEQ
  have HEQ := Lib.hid hEQ
  clear hEQ hoE hrE hbE c0 c1 c2 c3 c4 c5 d0 d1 d2 d3 d4 d5
  go_wp2_with fail
  refine HEQ.out.mono ?_
  rintro r wF ⟨rfl, hbF⟩
  have hsF := hbF.size
  have HEWF := Lib.hid (HEWE.out.trans (hbF.mono HEWE.out.size))
  have HE5F := Lib.hid (HE5E.out.trans (hbF.mono HE5E.out.size))
  have HE6F := Lib.hid (HE6E.out.trans (hbF.mono HE6E.out.size))
  have HE7F := Lib.hid (HE7E.out.trans (hbF.mono HE7E.out.size))
  have HE8F := Lib.hid (HE8E.out.trans (hbF.mono HE8E.out.size))
  have HE9F := Lib.hid (HE9E.out.trans (hbF.mono HE9E.out.size))
  have HEAF := Lib.hid (HEAE.out.trans (hbF.mono HEAE.out.size))
  have HMK := Lib.hid (markClient_c c _ w5.heap.size 1 w6 wF HCO6.out (HCO6.out.below HE6F.out) HE6F.out.size (by omega) (by omega))
  clear hbF HEQ
  obtain ⟨c0, c1, c2, c3, c4, c5, cf⟩ := six_cells ((HE7F.out.block w6.heap.size (blk_lt HX7.out)).trans HX7.out)
  go_wp2_with fail
  refine HMK.out.mono ?_
  rintro r wG ⟨rfl, coG, houtG⟩
  have HSP := Lib.hid HO8.out.blk
  have HOG := Lib.hid ((HO8.out.below HE8F.out).out houtG (fun k hk => .inr (by have := (HSP.out k hk).1; omega)))
  have HOUT1 := Lib.hid houtG
  have hsG := houtG.size
  have HME := Lib.hid (markEntryS_c _ l w7.heap.size (1 + 3 * c.base.length + 7 * c.wait.length) wG HOG.out (by omega) (by omega))
  clear coG houtG HMK c0 c1 c2 c3 c4 c5 cf
  go_wp2_with fail
  refine HME.out.mono ?_
  rintro r wH ⟨rfl, hoH, hgH⟩
  have hout2 : Out w5.heap.size w8.heap.size wF wH := (Out.widen HOUT1.out (Nat.le_refl _) (by omega)).trans (Out.grown hgH (fun k hk => by have := HSP.out k hk; omega))
  have hsH := hout2.size
  have HEWH := Lib.hid (hout2.below HEWF.out (by omega) (by omega))
  have HCP := Lib.hid (CO.out HCO4.out (HCP5.out.below HE5F.out) hout2 (.inl (by omega)))
  have HCG := Lib.hid (CO.out HCO9.out (HCO9.out.below HE9F.out) hout2 (.inr (Nat.le_refl _)))
  have hbp := (HE5F.out.block w4.heap.size (blk_lt HX5.out)).trans HX5.out
  have hbg := (HEAF.out.block w9.heap.size (blk_lt HXA.out)).trans HXA.out
  have HXP := Lib.hid ((hout2.block w4.heap.size (blk_lt hbp) (.inl (by omega))).trans hbp)
  have HXG := Lib.hid ((hout2.block w9.heap.size (blk_lt hbg) (.inr (by omega))).trans hbg)
  have hEQ := eqClient_c e e (.agg #[.int .i64 e.who, .int .i64 e.seen, .slice G1 e.base.length g1, .slice G2 e.wait.length g2, .int .i64 e.done, .int .i64 e.made]) (.agg #[.int .i64 e.who, .int .i64 e.seen, .slice P1 e.base.length p1, .slice P2 e.wait.length p2, .int .i64 e.done, .int .i64 e.made]) wH HCG.out.cv HCP.out.cv
  rw [show decide (e = e) = true by simp] at hEQ
  have HEQ := Lib.hid hEQ
  have hk0 : ¬ (((1 + 3 * c.base.length + 7 * c.wait.length + 7 * l.length : Nat) : Int) < 0) := by omega
  clear hEQ hbp hbg hoH hgH hout2 HME
  obtain ⟨c0, c1, c2, c3, c4, c5, cf⟩ := six_cells (HXP.out)
  obtain ⟨d0, d1, d2, d3, d4, d5, df⟩ := six_cells (HXG.out)
  go_wp2_with fail
  refine HEQ.out.mono ?_
  rintro r wI ⟨rfl, hbI⟩
  have hsI := hbI.size
  have HEWI := Lib.hid (HEWH.out.trans (hbI.mono HEWH.out.size))
  have HCPI := Lib.hid (HCP.out.below hbI); have HCGI := Lib.hid (HCG.out.below hbI)
  have HXPI := Lib.hid ((hbI.block _ (blk_lt HXP.out)).trans HXP.out); have HXGI := Lib.hid ((hbI.block _ (blk_lt HXG.out)).trans HXG.out)
  have HMK := Lib.hid (markClient_c e _ w8.heap.size 1 w9 wI HCO9.out HCGI.out (by omega) (by omega) (by omega))
  clear c0 c1 c2 c3 c4 c5 cf d0 d1 d2 d3 d4 d5 df hbI HEQ hk0
  obtain ⟨c0, c1, c2, c3, c4, c5, cf⟩ := six_cells (HXGI.out)
  go_wp2_with fail
  refine HMK.out.mono ?_
  rintro r wJ ⟨rfl, coJ, houtJ⟩
  have hsJ := houtJ.size
  have HEWJ := Lib.hid (houtJ.below HEWI.out (by omega) (by omega))
  have HCPJ := Lib.hid (CO.out HCO4.out HCPI.out houtJ (.inl (by omega)))
  have HXPJ := Lib.hid ((houtJ.block _ (blk_lt HXPI.out) (.inl (by omega))).trans HXPI.out)
  have HXGJ := Lib.hid ((houtJ.block _ (blk_lt HXGI.out) (.inr (Nat.le_refl _))).trans HXGI.out)
  have HCGJ := Lib.hid coJ
  have HHD := Lib.hid (heldClient_c e _ 1 wJ coJ.cv (by omega) (by omega))
  clear c0 c1 c2 c3 c4 c5 cf coJ houtJ HMK
  obtain ⟨c0, c1, c2, c3, c4, c5, cf⟩ := six_cells (HXGJ.out)
  go_wp2_with fail
  refine HHD.out.mono ?_
  rintro r wK ⟨rfl, hbK⟩
  have hsK := hbK.size
  have HEWK := Lib.hid (HEWJ.out.trans (hbK.mono HEWJ.out.size))
  have HCPK := Lib.hid (HCPJ.out.below hbK); have HCGK := Lib.hid (HCGJ.out.below hbK)
  have HXPK := Lib.hid ((hbK.block _ (blk_lt HXPJ.out)).trans HXPJ.out); have HXGK := Lib.hid ((hbK.block _ (blk_lt HXGJ.out)).trans HXGJ.out)
  have hq0 : ¬ (((1 + 3 * e.base.length + 7 * e.wait.length : Nat) : Int) < 0) := by omega
  clear c0 c1 c2 c3 c4 c5 cf hbK HHD
  obtain ⟨c0, c1, c2, c3, c4, c5, cf⟩ := six_cells ((HEWK.out.block w.heap.size (blk_lt HX0.out)).trans HX0.out)
  go_wp2_with fail
  refine (toClient_c c _ wK (HV.out.ext HEWK.out) (by omega) (by omega)).mono ?_
  rintro r wL ⟨vL, rfl, coL, hbL⟩
  have hsL := hbL.size
  have HEWL := Lib.hid (HEWK.out.trans (hbL.mono HEWK.out.size))
  have HCPL := Lib.hid (HCPK.out.below hbL); have HCGL := Lib.hid (HCGK.out.below hbL)
  have HXPL := Lib.hid ((hbL.block _ (blk_lt HXPK.out)).trans HXPK.out); have HXGL := Lib.hid ((hbL.block _ (blk_lt HXGK.out)).trans HXGK.out)
  have HCL := Lib.hid coL.cv
  clear c0 c1 c2 c3 c4 c5 cf coL hbL
  go_wp2_with fail
  refine (toEntryS_c A cap l wL (HR.out.ext HEWL.out) (by omega)).mono ?_
  rintro r wM ⟨vM, rfl, hoM, hbM⟩
  obtain ⟨EM, fM, rfl, hrM⟩ := hoM.rd
  have hsM := hbM.size
  have HEWM := Lib.hid (HEWL.out.trans (hbM.mono HEWL.out.size))
  have HCPM := Lib.hid (HCPL.out.below hbM); have HCGM := Lib.hid (HCGL.out.below hbM)
  have HXPM := Lib.hid ((hbM.block _ (blk_lt HXPL.out)).trans HXPL.out); have HXGM := Lib.hid ((hbM.block _ (blk_lt HXGL.out)).trans HXGL.out)
  have HCM := Lib.hid (HCL.out.ext hbM); have HRM := Lib.hid hrM
  clear hoM hrM hbM
  go_wp2_with fail
  have hH := clientHear_c c vL frm EM fM l wM (HTB.out.below HEWM.out (by omega)) HCM.out HRM.out
  rw [HEB.out] at hH
  refine hH.mono ?_
  clear hH
  rintro r wN ⟨vN, rfl, coN, hbN⟩
  simp only at coN
  have HCON := Lib.hid coN
  obtain ⟨K1, k1, K2, k2, rfl, o1, o2⟩ := coN
  have hsN := hbN.size
  have HEWN := Lib.hid (HEWM.out.trans (hbN.mono HEWM.out.size))
  have HCPN := Lib.hid (HCPM.out.below hbN); have HCGN := Lib.hid (HCGM.out.below hbN)
  have HXPN := Lib.hid ((hbN.block _ (blk_lt HXPM.out)).trans HXPM.out); have HXGN := Lib.hid ((hbN.block _ (blk_lt HXGM.out)).trans HXGM.out)
  have hEO : Ext wN (wN.alloc (.cells #[.int .i64 e.who, .int .i64 e.seen, .slice K1 e.base.length k1, .slice K2 e.wait.length k2, .int .i64 e.done, .int .i64 e.made] 30)) := (Below.refl _ wN).alloc (Nat.le_refl _) _
  have HXO := Lib.hid (World.alloc_heap_new wN (.cells #[.int .i64 e.who, .int .i64 e.seen, .slice K1 e.base.length k1, .slice K2 e.wait.length k2, .int .i64 e.done, .int .i64 e.made] 30))
  have hsO := hEO.size
  have HEWO := Lib.hid (HEWN.out.trans (hEO.mono HEWN.out.size))
  have HCPO := Lib.hid (HCPN.out.below hEO); have HCGO := Lib.hid (HCGN.out.below hEO)
  have HXPO := Lib.hid ((hEO.block _ (blk_lt HXPN.out)).trans HXPN.out); have HXGO := Lib.hid ((hEO.block _ (blk_lt HXGN.out)).trans HXGN.out)
  have HCKO := Lib.hid (HCON.out.below hEO)
  clear o1 o2 hbN hEO
  obtain ⟨d0, d1, d2, d3, d4, d5, df⟩ := six_cells (HXPO.out)
  go_wp2_with fail
  generalize (wN.alloc (.cells #[.int .i64 e.who, .int .i64 e.seen, .slice K1 e.base.length k1, .slice K2 e.wait.length k2, .int .i64 e.done, .int .i64 e.made] 30)) = wO at *
  have hEQ := eqClient_c e e (.agg #[.int .i64 e.who, .int .i64 e.seen, .slice K1 e.base.length k1, .slice K2 e.wait.length k2, .int .i64 e.done, .int .i64 e.made]) (.agg #[.int .i64 e.who, .int .i64 e.seen, .slice P1 e.base.length p1, .slice P2 e.wait.length p2, .int .i64 e.done, .int .i64 e.made]) wO HCKO.out.cv HCPO.out.cv
  rw [show decide (e = e) = true by simp] at hEQ
  refine hEQ.mono ?_
  clear hEQ
  rintro r wQ ⟨rfl, hbQ⟩
  have hsQ := hbQ.size
  have HEWQ := Lib.hid (HEWO.out.trans (hbQ.mono HEWO.out.size))
  have HCPQ := Lib.hid (HCPO.out.below hbQ); have HCGQ := Lib.hid (HCGO.out.below hbQ)
  have HXPQ := Lib.hid ((hbQ.block _ (blk_lt HXPO.out)).trans HXPO.out); have HXGQ := Lib.hid ((hbQ.block _ (blk_lt HXGO.out)).trans HXGO.out)
  have HHD := Lib.hid (heldClient_c e _ 1 wQ HCGQ.out.cv (by omega) (by omega))
  clear d0 d1 d2 d3 d4 d5 df hbQ
  obtain ⟨c0, c1, c2, c3, c4, c5, cf⟩ := six_cells (HXGQ.out)
  go_wp2_with fail
  refine HHD.out.mono ?_
  rintro r wR ⟨rfl, hbR⟩
  have HEWR := Lib.hid (HEWQ.out.trans (hbR.mono HEWQ.out.size))
  clear hbR HHD
  go_wp2_with fail
  go_ret
  exact ⟨rfl, HE0.out.trans (HEWR.out.mono (by omega))⟩
end Go.Proofs.YtikcnbkoeglecaaDoor
