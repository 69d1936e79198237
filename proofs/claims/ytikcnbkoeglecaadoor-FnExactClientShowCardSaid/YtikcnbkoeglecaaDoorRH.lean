/- The walk of laws.FnExactClientShow: true, whatever the client. -/
import Derived.Test.YtikcnbkoeglecaaDoorRG
import Derived.Test.YtikcnbkoeglecaaDoorRE
import Derived.Test.YtikcnbkoeglecaaDoorRF
namespace Go.Proofs.YtikcnbkoeglecaaDoor
open Go.RowKit
set_option linter.unusedVariables false

theorem Own.rd' {α : Type} [Flat α] {e : TypeId} {w : World} {base n c : Nat} {A : Option Addr} {l : List α} (h : Own e w base (.slice A n c) l) : Rd w A c l ∧ n = l.length := by
  obtain ⟨A', c', e, hr⟩ := h.rd
  simp only [Value.slice.injEq] at e
  obtain ⟨rfl, rfl, rfl⟩ := e
  exact ⟨hr, rfl⟩

set_option maxRecDepth 100000 in
set_option maxHeartbeats 8000000 in
theorem exactShow_walk (c : Client) (v : Value) (w : World) (ht : Tab w) (h : CV w c v) (hi : (i64 c.who ∧ i64 c.seen ∧ i64 c.done ∧ i64 c.made) ∧ (∀ r ∈ c.base, i64 r.id) ∧ (∀ e ∈ c.wait, OpW e.op)) :
    Calls Tryd.prog 4 #[v] w fun x w' => x = .returned (.bool true) ∧ Ext w w' := by
  have HT0 := Lib.hid ht; have HV0 := Lib.hid h; have HI := Lib.hid hi
  have hpos := ht.pos
  obtain ⟨A1, n1, A2, n2, rfl, h1, h2⟩ := h
  have hE0 : Ext w (w.alloc (.cells #[.int .i64 c.who, .int .i64 c.seen, .slice A1 c.base.length n1, .slice A2 c.wait.length n2, .int .i64 c.done, .int .i64 c.made] 40)) := (Below.refl _ w).alloc (Nat.le_refl _) _
  have HX0 := Lib.hid (World.alloc_heap_new w (.cells #[.int .i64 c.who, .int .i64 c.seen, .slice A1 c.base.length n1, .slice A2 c.wait.length n2, .int .i64 c.done, .int .i64 c.made] 40))
  have hsz0 := alloc_sz w (.cells #[.int .i64 c.who, .int .i64 c.seen, .slice A1 c.base.length n1, .slice A2 c.wait.length n2, .int .i64 c.done, .int .i64 c.made] 40)
  have HV := Lib.hid (HV0.out.ext hE0)
  have HTB := Lib.hid (HT0.out.alloc (.cells #[.int .i64 c.who, .int .i64 c.seen, .slice A1 c.base.length n1, .slice A2 c.wait.length n2, .int .i64 c.done, .int .i64 c.made] 40))
  have HE0 := Lib.hid hE0
  clear h1 h2 ht hi hE0
  go_enter Tryd.func4, Tryd.ntmps4
  go_wp2_with fail
  generalize (w.alloc (.cells #[.int .i64 c.who, .int .i64 c.seen, .slice A1 c.base.length n1, .slice A2 c.wait.length n2, .int .i64 c.done, .int .i64 c.made] 40)) = W at *
  refine (szClient_c c _ 1048576 W HV.out (by omega) (by omega)).mono ?_
  rintro e w1 ⟨s, rfl, s1, s2, s3, hb1⟩
  have HE1 := Lib.hid hb1
  have hs1 := hb1.size
  clear hb1
  by_cases hs : s < 0
  · clear s3
    go_wp2_with fail
    go_ret
    exact ⟨rfl, HE0.out.trans (HE1.out.mono (by omega))⟩
  obtain ⟨hlb, hlw⟩ := s3 (by omega)
  have hlb' : c.base.length ≤ 1048576 := by omega
  have hlw' : c.wait.length ≤ 1048576 := by omega
  have HC : Hid (CW c) := ⟨HI.out.1, HI.out.2.1, HI.out.2.2, by omega⟩
  clear hlb hlw s1 s2
  obtain ⟨c0, c1, c2, c3, c4, c5, cf⟩ := six_cells ((HE1.out.block w.heap.size (blk_lt HX0.out)).trans HX0.out)
  go_wp2_with fail
  -- spec.ClientShow(toClient(aC))
  refine (toClient_c c _ w1 (HV.out.ext HE1.out) (by omega) (by omega)).mono ?_
  rintro e w2 ⟨v2, rfl, co2, hb2⟩
  have hs2 := hb2.size
  have HE2 := Lib.hid (HE1.out.trans (hb2.mono HE1.out.size))
  have HC2 := Lib.hid co2.cv
  clear c0 c1 c2 c3 c4 c5 cf co2 hb2
  obtain ⟨c0, c1, c2, c3, c4, c5, cf⟩ := six_cells ((HE2.out.block w.heap.size (blk_lt HX0.out)).trans HX0.out)
  go_wp2_with fail
  refine (clientShow_s c _ w2 HC2.out HC.out).mono ?_
  rintro e w3 ⟨v3, rfl, ho3, hb3⟩
  have hs3 := hb3.size
  have HE3 := Lib.hid (HE2.out.trans (hb3.mono HE2.out.size))
  have HO3 := Lib.hid ho3
  clear c0 c1 c2 c3 c4 c5 cf ho3 hb3 HC2
  obtain ⟨c0, c1, c2, c3, c4, c5, cf⟩ := six_cells ((HE3.out.block w.heap.size (blk_lt HX0.out)).trans HX0.out)
  go_wp2_with fail
  -- x0
  refine (toClient_c c _ w3 (HV.out.ext HE3.out) (by omega) (by omega)).mono ?_
  rintro e w4 ⟨v4, rfl, co4, hb4⟩
  have hs4 := hb4.size
  have HE4 := Lib.hid (HE3.out.trans (hb4.mono HE3.out.size))
  have HCO4 := Lib.hid co4
  have HO34 := Lib.hid (HO3.out.below hb4)
  obtain ⟨B1, m1, B2, m2, rfl, o1, o2⟩ := co4
  clear c0 c1 c2 c3 c4 c5 cf o1 o2 hb4
  obtain ⟨c0, c1, c2, c3, c4, c5, cf⟩ := six_cells ((HE4.out.block w.heap.size (blk_lt HX0.out)).trans HX0.out)
  have hE5 : Ext w4 (w4.alloc (.cells #[.int .i64 c.who, .int .i64 c.seen, .slice B1 c.base.length m1, .slice B2 c.wait.length m2, .int .i64 c.done, .int .i64 c.made] 30)) := (Below.refl _ w4).alloc (Nat.le_refl _) _
  have HX5 := Lib.hid (World.alloc_heap_new w4 (.cells #[.int .i64 c.who, .int .i64 c.seen, .slice B1 c.base.length m1, .slice B2 c.wait.length m2, .int .i64 c.done, .int .i64 c.made] 30))
  have hsz5 := alloc_sz w4 (.cells #[.int .i64 c.who, .int .i64 c.seen, .slice B1 c.base.length m1, .slice B2 c.wait.length m2, .int .i64 c.done, .int .i64 c.made] 30)
  have HE5 := Lib.hid (HE4.out.trans (hE5.mono HE4.out.size))
  have HE45 := Lib.hid hE5
  clear hE5
  go_wp2_with fail
  generalize (w4.alloc (.cells #[.int .i64 c.who, .int .i64 c.seen, .slice B1 c.base.length m1, .slice B2 c.wait.length m2, .int .i64 c.done, .int .i64 c.made] 30)) = w5 at *
  clear c0 c1 c2 c3 c4 c5 cf
  -- impl.ClientShow(x0)
  refine (clientShow_c c _ w5 (HTB.out.below HE5.out (by omega)) (HCO4.out.cv.ext HE45.out)).mono ?_
  rintro e w6 ⟨v6, rfl, ho6, hb6⟩
  rw [showL_S] at ho6
  have hlen := showL_len c
  rw [showL_S] at hlen
  obtain ⟨L, hL⟩ : ∃ L, showS c = L := ⟨_, rfl⟩
  have ho34 := HO34.out
  have ho3 := HO3.out
  rw [hL] at ho6 hlen ho34 ho3
  clear HO34 HO3
  have HO34 := Lib.hid ho34; have HO3 := Lib.hid ho3; have HLL := Lib.hid hL
  clear ho34 ho3 hL
  have hs6 := hb6.size
  have HE6 := Lib.hid (HE5.out.trans (hb6.mono HE5.out.size))
  have HE46 := Lib.hid (HE45.out.trans (hb6.mono HE45.out.size))
  have ho36 := (HO34.out.below HE45.out).below hb6
  obtain ⟨G, gn, rfl, hr6⟩ := ho6.rd
  obtain ⟨S, sn, rfl, hr3⟩ := ho36.rd
  have hEQ := eqRowS_c G gn L S sn L w6 hr6 hr3
  rw [show decide (L = L) = true by simp] at hEQ
  have HEQ := Lib.hid hEQ
  have HO6 := Lib.hid ho6; have HO36 := Lib.hid ho36
  have HX6 := Lib.hid ((hb6.block w4.heap.size (by omega)).trans HX5.out)
  clear ho6 ho36 hEQ hr6 hr3 hb6
  go_wp2_with fail
  refine HEQ.out.mono ?_
  rintro e w7 ⟨rfl, hb7⟩
  have hs7 := hb7.size
  have HE7 := Lib.hid (HE6.out.trans (hb7.mono HE6.out.size))
  have HE47 := Lib.hid (HE46.out.trans (hb7.mono HE46.out.size))
  have HE67 := Lib.hid hb7
  have hxa := (HE7.out.block w.heap.size (blk_lt HX0.out)).trans HX0.out
  have hxb := (hb7.block w4.heap.size (by omega)).trans HX6.out
  have HLA := Lib.hid (blk_lt hxa); have HLB := Lib.hid (blk_lt hxb)
  have HC1 := Lib.hid (toClient_c c _ w7.drew ((HV.out.ext HE7.out).ext (Ext.drew (Below.refl _ _))) (by omega) (by omega))
  have HB0 := Lib.hid (HCO4.out.cv.ext HE47.out)
  obtain ⟨c0, c1, c2, c3, c4, c5, cf⟩ := six_cells hxa
  obtain ⟨d0, d1, d2, d3, d4, d5, df⟩ := six_cells hxb
  clear hb7 hxa hxb HEQ
  go_wp2_with fail
  have E0 : w7.drew.cell? ⟨w.heap.size, 0, none⟩ = some (.int .i64 c.who) ∧ w7.drew.cell? ⟨w.heap.size, 1, none⟩ = some (.int .i64 c.seen) ∧ w7.drew.cell? ⟨w.heap.size, 2, none⟩ = some (.slice A1 c.base.length n1) ∧ w7.drew.cell? ⟨w.heap.size, 3, none⟩ = some (.slice A2 c.wait.length n2) ∧ w7.drew.cell? ⟨w.heap.size, 4, none⟩ = some (.int .i64 c.done) ∧ w7.drew.cell? ⟨w.heap.size, 5, none⟩ = some (.int .i64 c.made) ∧ w7.drew.cell? ⟨w4.heap.size, 0, none⟩ = some (.int .i64 c.who) ∧ w7.drew.cell? ⟨w4.heap.size, 1, none⟩ = some (.int .i64 c.seen) ∧ w7.drew.cell? ⟨w4.heap.size, 2, none⟩ = some (.slice B1 c.base.length m1) ∧ w7.drew.cell? ⟨w4.heap.size, 3, none⟩ = some (.slice B2 c.wait.length m2) ∧ w7.drew.cell? ⟨w4.heap.size, 4, none⟩ = some (.int .i64 c.done) ∧ w7.drew.cell? ⟨w4.heap.size, 5, none⟩ = some (.int .i64 c.made) := ⟨c0, c1, c2, c3, c4, c5, d0, d1, d2, d3, d4, d5⟩
  clear c0 c1 c2 c3 c4 c5 cf d0 d1 d2 d3 d4 d5 df
  go_region_held3 (fun w' => w'.cell? ⟨w.heap.size, 0, none⟩ = some (.int .i64 c.who) ∧ w'.cell? ⟨w.heap.size, 1, none⟩ = some (.int .i64 c.seen) ∧ w'.cell? ⟨w.heap.size, 2, none⟩ = some (.slice A1 c.base.length n1) ∧ w'.cell? ⟨w.heap.size, 3, none⟩ = some (.slice A2 c.wait.length n2) ∧ w'.cell? ⟨w.heap.size, 4, none⟩ = some (.int .i64 c.done) ∧ w'.cell? ⟨w.heap.size, 5, none⟩ = some (.int .i64 c.made) ∧ w'.cell? ⟨w4.heap.size, 0, none⟩ = some (.int .i64 c.who) ∧ w'.cell? ⟨w4.heap.size, 1, none⟩ = some (.int .i64 c.seen) ∧ w'.cell? ⟨w4.heap.size, 2, none⟩ = some (.slice B1 c.base.length m1) ∧ w'.cell? ⟨w4.heap.size, 3, none⟩ = some (.slice B2 c.wait.length m2) ∧ w'.cell? ⟨w4.heap.size, 4, none⟩ = some (.int .i64 c.done) ∧ w'.cell? ⟨w4.heap.size, 5, none⟩ = some (.int .i64 c.made))
    (first | exact E2 | exact E1 | exact E0 | go_keep)
    (first
      | (go_at_call 17; refine HC1.out.mono ?_; rintro e w8 ⟨v8, rfl, co8, hb8⟩; obtain ⟨hc8, hf8⟩ := bcell hb8
         have E1 : w8.cell? ⟨w.heap.size, 0, none⟩ = some (.int .i64 c.who) ∧ w8.cell? ⟨w.heap.size, 1, none⟩ = some (.int .i64 c.seen) ∧ w8.cell? ⟨w.heap.size, 2, none⟩ = some (.slice A1 c.base.length n1) ∧ w8.cell? ⟨w.heap.size, 3, none⟩ = some (.slice A2 c.wait.length n2) ∧ w8.cell? ⟨w.heap.size, 4, none⟩ = some (.int .i64 c.done) ∧ w8.cell? ⟨w.heap.size, 5, none⟩ = some (.int .i64 c.made) ∧ w8.cell? ⟨w4.heap.size, 0, none⟩ = some (.int .i64 c.who) ∧ w8.cell? ⟨w4.heap.size, 1, none⟩ = some (.int .i64 c.seen) ∧ w8.cell? ⟨w4.heap.size, 2, none⟩ = some (.slice B1 c.base.length m1) ∧ w8.cell? ⟨w4.heap.size, 3, none⟩ = some (.slice B2 c.wait.length m2) ∧ w8.cell? ⟨w4.heap.size, 4, none⟩ = some (.int .i64 c.done) ∧ w8.cell? ⟨w4.heap.size, 5, none⟩ = some (.int .i64 c.made) := ⟨(hc8 _ _ HLA.out).trans E0.1, (hc8 _ _ HLA.out).trans E0.2.1, (hc8 _ _ HLA.out).trans E0.2.2.1, (hc8 _ _ HLA.out).trans E0.2.2.2.1, (hc8 _ _ HLA.out).trans E0.2.2.2.2.1, (hc8 _ _ HLA.out).trans E0.2.2.2.2.2.1, (hc8 _ _ HLB.out).trans E0.2.2.2.2.2.2.1, (hc8 _ _ HLB.out).trans E0.2.2.2.2.2.2.2.1, (hc8 _ _ HLB.out).trans E0.2.2.2.2.2.2.2.2.1, (hc8 _ _ HLB.out).trans E0.2.2.2.2.2.2.2.2.2.1, (hc8 _ _ HLB.out).trans E0.2.2.2.2.2.2.2.2.2.2.1, (hc8 _ _ HLB.out).trans E0.2.2.2.2.2.2.2.2.2.2.2⟩
         have HB8 := Lib.hid hb8; have HL8 := Lib.hid hb8.size; have HCO8 := Lib.hid co8; clear hc8 hf8 hb8 co8)
      | (go_at_call 20; refine (eqClient_c c c _ _ w8 ((HB0.out.ext (Ext.drew (Below.refl _ _))).ext HB8.out) HCO8.out.cv).mono ?_; rintro e w9 ⟨rfl, hb9⟩; obtain ⟨hc9, hf9⟩ := bcell hb9
         have E2 : w9.cell? ⟨w.heap.size, 0, none⟩ = some (.int .i64 c.who) ∧ w9.cell? ⟨w.heap.size, 1, none⟩ = some (.int .i64 c.seen) ∧ w9.cell? ⟨w.heap.size, 2, none⟩ = some (.slice A1 c.base.length n1) ∧ w9.cell? ⟨w.heap.size, 3, none⟩ = some (.slice A2 c.wait.length n2) ∧ w9.cell? ⟨w.heap.size, 4, none⟩ = some (.int .i64 c.done) ∧ w9.cell? ⟨w.heap.size, 5, none⟩ = some (.int .i64 c.made) ∧ w9.cell? ⟨w4.heap.size, 0, none⟩ = some (.int .i64 c.who) ∧ w9.cell? ⟨w4.heap.size, 1, none⟩ = some (.int .i64 c.seen) ∧ w9.cell? ⟨w4.heap.size, 2, none⟩ = some (.slice B1 c.base.length m1) ∧ w9.cell? ⟨w4.heap.size, 3, none⟩ = some (.slice B2 c.wait.length m2) ∧ w9.cell? ⟨w4.heap.size, 4, none⟩ = some (.int .i64 c.done) ∧ w9.cell? ⟨w4.heap.size, 5, none⟩ = some (.int .i64 c.made) := ⟨(hc9 _ _ (Nat.lt_of_lt_of_le HLA.out HL8.out)).trans E1.1, (hc9 _ _ (Nat.lt_of_lt_of_le HLA.out HL8.out)).trans E1.2.1, (hc9 _ _ (Nat.lt_of_lt_of_le HLA.out HL8.out)).trans E1.2.2.1, (hc9 _ _ (Nat.lt_of_lt_of_le HLA.out HL8.out)).trans E1.2.2.2.1, (hc9 _ _ (Nat.lt_of_lt_of_le HLA.out HL8.out)).trans E1.2.2.2.2.1, (hc9 _ _ (Nat.lt_of_lt_of_le HLA.out HL8.out)).trans E1.2.2.2.2.2.1, (hc9 _ _ (Nat.lt_of_lt_of_le HLB.out HL8.out)).trans E1.2.2.2.2.2.2.1, (hc9 _ _ (Nat.lt_of_lt_of_le HLB.out HL8.out)).trans E1.2.2.2.2.2.2.2.1, (hc9 _ _ (Nat.lt_of_lt_of_le HLB.out HL8.out)).trans E1.2.2.2.2.2.2.2.2.1, (hc9 _ _ (Nat.lt_of_lt_of_le HLB.out HL8.out)).trans E1.2.2.2.2.2.2.2.2.2.1, (hc9 _ _ (Nat.lt_of_lt_of_le HLB.out HL8.out)).trans E1.2.2.2.2.2.2.2.2.2.2.1, (hc9 _ _ (Nat.lt_of_lt_of_le HLB.out HL8.out)).trans E1.2.2.2.2.2.2.2.2.2.2.2⟩
         have HB9 := Lib.hid hb9; clear hc9 hf9 hb9))
  have hE79 : Ext w7 w9 := (((Below.refl _ w7).drew).trans HB8.out).trans (HB9.out.mono HL8.out)
  have hs9 := hE79.size
  have HE9 := Lib.hid (HE7.out.trans (hE79.mono HE7.out.size))
  have HE49 := Lib.hid (HE47.out.trans (hE79.mono HE47.out.size))
  have HE69 := Lib.hid (HE67.out.trans (hE79.mono HE67.out.size))
  have HMK := Lib.hid (markClient_c c _ w3.heap.size 1 w4 w9 HCO4.out HE49.out (by omega) (by omega))
  clear E0 E1 hE79 HB8 HB9 HL8 HLA HLB HCO8 HC1 HB0
  obtain ⟨c0, c1, c2, c3, c4, c5, d0, d1, d2, d3, d4, d5⟩ := E2
  go_wp2_with fail
  refine HMK.out.mono ?_
  rintro e w10 ⟨rfl, co10, hout⟩
  have hs10 := hout.size
  have HB6 := Lib.hid HO6.out.blk; have HB3 := Lib.hid HO3.out.blk
  have HO6b := Lib.hid ((HO6.out.below HE69.out).out hout (fun k hk => .inr (by have := (HB6.out k hk).1; omega)))
  have HO3b := Lib.hid ((HO36.out.below HE69.out).out hout (fun k hk => .inl (HB3.out k hk).2))
  have HE10 := Lib.hid (hout.below HE9.out (by omega) (by omega))
  have hEQ := eqRowS_c G gn L S sn L w10 HO6b.out.rd'.1 HO3b.out.rd'.1
  rw [show decide (L = L) = true by simp] at hEQ
  have HEQ := Lib.hid hEQ
  have hk0 : ¬ (((1 + 3 * c.base.length + 7 * c.wait.length : Nat) : Int) < 0) := by omega
  clear co10 hout c0 c1 c2 c3 c4 c5 d0 d1 d2 d3 d4 d5 hEQ HMK
  go_wp2_with fail
  refine HEQ.out.mono ?_
  rintro e w11 ⟨rfl, hb11⟩
  have hs11 := hb11.size
  have HE11 := Lib.hid (HE10.out.trans (hb11.mono HE10.out.size))
  have HO6c := Lib.hid (HO6b.out.below hb11); have HO3c := Lib.hid (HO3b.out.below hb11)
  have HMR := Lib.hid (markRowS_c _ L w5.heap.size 1 w11 HO6c.out (by omega) (by omega))
  clear HEQ hb11 hk0
  go_wp2_with fail
  refine HMR.out.mono ?_
  rintro e w12 ⟨rfl, ho12, hg12⟩
  have hs12 := hg12.size
  have HE12 := Lib.hid (ext_grown HE11.out hg12 (by omega) (fun k hk => by have := (HB6.out k hk).1; omega))
  have hne : (Value.slice S L.length sn).ownBlock = none ∨ (Value.slice S L.length sn).ownBlock ≠ (Value.slice G L.length gn).ownBlock := by
    cases hh : (Value.slice S L.length sn).ownBlock with
    | none => exact .inl rfl
    | some k =>
      refine .inr (fun e => ?_)
      have h1 := HB3.out k hh
      have h2 := HB6.out k e.symm
      omega
  have HO3d := Lib.hid (HO3c.out.grown hg12 hne)
  have HO12 := Lib.hid ho12
  have HHD := Lib.hid (heldRowS_c G gn L.length 1 w12 ho12.rd'.1 (by omega) (by omega))
  clear hne ho12 hg12 HMR
  go_wp2_with fail
  refine HHD.out.mono ?_
  rintro e w13 ⟨rfl, hb13⟩
  have hs13 := hb13.size
  have HE13 := Lib.hid (HE12.out.trans (hb13.mono HE12.out.size))
  have HO3e := Lib.hid (HO3d.out.below hb13); have HO13 := Lib.hid (HO12.out.below hb13)
  have hq0 : ¬ (((1 + 3 * L.length : Nat) : Int) < 0) := by omega
  obtain ⟨c0, c1, c2, c3, c4, c5, cf⟩ := six_cells ((HE13.out.block w.heap.size (blk_lt HX0.out)).trans HX0.out)
  clear hb13 HHD
  go_wp2_with fail
  refine (toClient_c c _ w13 (HV.out.ext HE13.out) (by omega) (by omega)).mono ?_
  rintro e w14 ⟨v14, rfl, co14, hb14⟩
  have hs14 := hb14.size
  have HE14 := Lib.hid (HE13.out.trans (hb14.mono HE13.out.size))
  have HO3f := Lib.hid (HO3e.out.below hb14); have HO14 := Lib.hid (HO13.out.below hb14)
  have HC14 := Lib.hid co14.cv
  clear c0 c1 c2 c3 c4 c5 cf co14 hb14
  go_wp2_with fail
  refine (clientShow_c c _ w14 (HTB.out.below HE14.out (by omega)) HC14.out).mono ?_
  rintro e w15 ⟨v15, rfl, ho15, hb15⟩
  rw [showL_S, HLL.out] at ho15
  have hs15 := hb15.size
  have HE15 := Lib.hid (HE14.out.trans (hb15.mono HE14.out.size))
  have HO3g := Lib.hid (HO3f.out.below hb15); have HO15 := Lib.hid (HO14.out.below hb15)
  obtain ⟨K, kn, rfl, hr15⟩ := ho15.rd
  have hEQ := eqRowS_c K kn L S sn L w15 hr15 HO3g.out.rd'.1
  rw [show decide (L = L) = true by simp] at hEQ
  have HEQ := Lib.hid hEQ
  clear hEQ hr15 ho15 hb15
  go_wp2_with fail
  refine HEQ.out.mono ?_
  rintro e w16 ⟨rfl, hb16⟩
  have hs16 := hb16.size
  have HE16 := Lib.hid (HE15.out.trans (hb16.mono HE15.out.size))
  have HHD := Lib.hid (heldRowS_c G gn L.length 1 w16 (HO15.out.below hb16).rd'.1 (by omega) (by omega))
  clear hb16 HEQ
  go_wp2_with fail
  refine HHD.out.mono ?_
  rintro e w17 ⟨rfl, hb17⟩
  have HE17 := Lib.hid (HE16.out.trans (hb17.mono HE16.out.size))
  clear hb17 HHD
  go_wp2_with fail
  go_ret
  exact ⟨rfl, HE0.out.trans (HE17.out.mono (by omega))⟩
end Go.Proofs.YtikcnbkoeglecaaDoor
