/- The walk of laws.FnHearCut, over what is drawn. .. THE ROW AND THE CARD OF laws.FnHearCut. -/
import Derived.Test.YtjhbbgeebobcpaaDoorZAN
namespace Go.Proofs.YtjhbbgeebobcpaaDoor
open Go.RowKit Go.Lib
set_option linter.unusedVariables false
set_option linter.unusedSimpArgs false
set_option maxRecDepth 100000 in
set_option maxHeartbeats 2000000 in
theorem hearCut_walk (A : Option Addr) (n : Nat) (bs : List UInt8) (A' : Option Addr) (n' : Nat) (ms : List UInt8) (w : World) (ht : Tab w) (hr : Rd w A n bs) (hr' : Rd w A' n' ms) (hA : ∀ b off, A = some ⟨b, off, none⟩ → b < w.heap.size) :
  Calls Tryd.prog 8 #[.slice A bs.length n, .slice A' ms.length n'] w fun e w' => e = .returned (.bool true) ∧ Ext w w' := by
 have hm : bs.length ≤ maxLen := Nat.le_trans hr.1 hr.2.1
 unfold maxLen at hm
 have hm' : ms.length ≤ maxLen := Nat.le_trans hr'.1 hr'.2.1
 unfold maxLen at hm'
 clear hr'
 have htp_0 := ht.pos
 have HT_0 := Lib.hid ht
 have HDR := Lib.hid (drawHear_d A n bs w hr hA)
 clear hr hA ht
 go_enter Tryd.func8, Tryd.ntmps8
 by_cases hlong : (1048576 : Int) < bs.length
 ·go_wp2_with fail
  go_ret
  exact ⟨rfl, Below.refl _ _⟩
 by_cases hlong2 : (1048576 : Int) < ms.length
 ·go_wp2_with fail
  go_ret
  exact ⟨rfl, Below.refl _ _⟩
 go_wp2_with fail
 refine HDR.out.mono ?_
 rintro e w1 ⟨c, v, frm, l, L, ln, rfl, ⟨A1, n1, A2, n2, rfl, h1, h2⟩, hcw, hrl, hop, hll, hf0, hf1, hb1⟩
 have hs_1 := hb1.size
 have HCW := Lib.hid hcw; have HOP := Lib.hid hop
 obtain ⟨x, ok, hxo⟩ : ∃ x ok, clientHear c frm l = (x, ok) := ⟨_, _, rfl⟩
 have HXO := Lib.hid hxo
 have hE2 : Ext w1 (w1.alloc (oC c A1 n1 A2 n2)) := (Below.refl _ _).alloc (Nat.le_refl _) _
 have HE_2 := Lib.hid (hb1.trans (hE2.mono hs_1)); have hs_2 := HE_2.out.size
 have HT_2 := Lib.hid (HT_0.out.below HE_2.out htp_0); have htp_2 := HT_2.out.pos
 have HVC_2 : Hid (CV (w1.alloc (oC c A1 n1 A2 n2)) c (.agg (cC c A1 n1 A2 n2))) := ⟨A1, n1, A2, n2, rfl, h1.ext hE2, h2.ext hE2⟩
 have HRL_2 := Lib.hid (hrl.ext hE2)
 have HBC_2 := Lib.hid (World.alloc_heap_new w1 (oC c A1 n1 A2 n2))
 have hz_2 := alloc_sz w1 (oC c A1 n1 A2 n2)
 clear hE2 h1 h2 hcw hrl hop hxo HDR hb1 HT_0
 go_wp2_with fail
 generalize (w1.alloc (oC c A1 n1 A2 n2)) = w2 at *
 have hS := clientHear_s c _ frm L ln l w2 HVC_2.out HRL_2.out HCW.out HOP.out (by omega)
 rw [HXO.out] at hS
 refine hS.mono ?_
 clear hS
 rintro e w3 ⟨v3, rfl, co3, hb3⟩
 have HE_3 := Lib.hid (HE_2.out.trans ((hb3).mono HE_2.out.size)); have hs_3 := HE_3.out.size
 have HT_3 := Lib.hid (HT_2.out.below hb3 htp_2); have htp_3 := HT_3.out.pos
 have HVC_3 := Lib.hid (HVC_2.out.ext hb3)
 have HRL_3 := Lib.hid (HRL_2.out.ext hb3)
 have HBC_3 := Lib.hid (((hb3).block _ (blk_lt HBC_2.out)).trans HBC_2.out)
 clear HE_2 HT_2 HVC_2 HRL_2 HBC_2
 obtain ⟨B1, m1, B2, m2, rfl, g1, g2⟩ := co3.cv
 have hE4 : Ext w3 (w3.alloc (oC x B1 m1 B2 m2)) := (Below.refl _ _).alloc (Nat.le_refl _) _
 have HWW_4 : Hid (CV (w3.alloc (oC x B1 m1 B2 m2)) x (.agg (cC x B1 m1 B2 m2))) := ⟨B1, m1, B2, m2, rfl, g1.ext hE4, g2.ext hE4⟩
 have HBW_4 := Lib.hid (World.alloc_heap_new w3 (oC x B1 m1 B2 m2))
 have hz_4 := alloc_sz w3 (oC x B1 m1 B2 m2)
 have HE_4 := Lib.hid (HE_3.out.trans ((hE4).mono HE_3.out.size)); have hs_4 := HE_4.out.size
 have HT_4 := Lib.hid (HT_3.out.below hE4 htp_3); have htp_4 := HT_4.out.pos
 have HVC_4 := Lib.hid (HVC_3.out.ext hE4)
 have HRL_4 := Lib.hid (HRL_3.out.ext hE4)
 have HBC_4 := Lib.hid (((hE4).block _ (blk_lt HBC_3.out)).trans HBC_3.out)
 clear HE_3 HT_3 HVC_3 HRL_3 HBC_3
 clear hE4 g1 g2
 obtain ⟨c00, c01, c02, c03, c04, c05, c0f⟩ := six_cells HBC_4.out
 go_wp2_with fail
 generalize (w3.alloc (oC x B1 m1 B2 m2)) = w4 at *
 clear hb3 co3
 clear c00 c01 c02 c03 c04 c05 c0f
 have hS := clientHear_c c _ frm L ln l w4 HT_4.out HVC_4.out HRL_4.out
 rw [HXO.out] at hS
 refine hS.mono ?_
 clear hS
 rintro e w5 ⟨v5, rfl, co5, hb5⟩
 have HE_5 := Lib.hid (HE_4.out.trans ((hb5).mono HE_4.out.size)); have hs_5 := HE_5.out.size
 have HT_5 := Lib.hid (HT_4.out.below hb5 htp_4); have htp_5 := HT_5.out.pos
 have HVC_5 := Lib.hid (HVC_4.out.ext hb5)
 have HRL_5 := Lib.hid (HRL_4.out.ext hb5)
 have HBC_5 := Lib.hid (((hb5).block _ (blk_lt HBC_4.out)).trans HBC_4.out)
 have HWW_5 := Lib.hid (HWW_4.out.ext hb5)
 have HBW_5 := Lib.hid (((hb5).block _ (blk_lt HBW_4.out)).trans HBW_4.out)
 clear HE_4 HT_4 HVC_4 HRL_4 HBC_4 HWW_4 HBW_4
 obtain ⟨D1, k1, D2, k2, rfl, g1, g2⟩ := co5.cv
 have hE6 : Ext w5 (w5.alloc (oC x D1 k1 D2 k2)) := (Below.refl _ _).alloc (Nat.le_refl _) _
 have HWX_6 : Hid (CV (w5.alloc (oC x D1 k1 D2 k2)) x (.agg (cC x D1 k1 D2 k2))) := ⟨D1, k1, D2, k2, rfl, g1.ext hE6, g2.ext hE6⟩
 have HBX_6 := Lib.hid (World.alloc_heap_new w5 (oC x D1 k1 D2 k2))
 have hz_6 := alloc_sz w5 (oC x D1 k1 D2 k2)
 have HE_6 := Lib.hid (HE_5.out.trans ((hE6).mono HE_5.out.size)); have hs_6 := HE_6.out.size
 have HT_6 := Lib.hid (HT_5.out.below hE6 htp_5); have htp_6 := HT_6.out.pos
 have HVC_6 := Lib.hid (HVC_5.out.ext hE6)
 have HRL_6 := Lib.hid (HRL_5.out.ext hE6)
 have HBC_6 := Lib.hid (((hE6).block _ (blk_lt HBC_5.out)).trans HBC_5.out)
 have HWW_6 := Lib.hid (HWW_5.out.ext hE6)
 have HBW_6 := Lib.hid (((hE6).block _ (blk_lt HBW_5.out)).trans HBW_5.out)
 clear HE_5 HT_5 HVC_5 HRL_5 HBC_5 HWW_5 HBW_5
 clear hE6 g1 g2
 clear hb5 co5
 obtain ⟨c00, c01, c02, c03, c04, c05, c0f⟩ := six_cells HBC_6.out
 obtain ⟨c10, c11, c12, c13, c14, c15, c1f⟩ := six_cells HBW_6.out
 obtain ⟨c20, c21, c22, c23, c24, c25, c2f⟩ := six_cells HBX_6.out
 cases ok with
 |false =>
  go_wp2_with fail
  generalize (w5.alloc (oC x D1 k1 D2 k2)) = w6 at *
  clear c00 c01 c02 c03 c04 c05 c0f c10 c11 c12 c13 c14 c15 c1f c20 c21 c22 c23 c24 c25 c2f
  have hS := lpClient_c x x _ _ w6 HWX_6.out HWW_6.out
  rw [clientEq_self] at hS
  refine hS.mono ?_
  clear hS
  rintro e w7 ⟨rfl, hb7⟩
  have HE_7 := Lib.hid (HE_6.out.trans ((hb7).mono HE_6.out.size)); have hs_7 := HE_7.out.size
  have HT_7 := Lib.hid (HT_6.out.below hb7 htp_6); have htp_7 := HT_7.out.pos
  have HVC_7 := Lib.hid (HVC_6.out.ext hb7)
  have HRL_7 := Lib.hid (HRL_6.out.ext hb7)
  have HBC_7 := Lib.hid (((hb7).block _ (blk_lt HBC_6.out)).trans HBC_6.out)
  have HWW_7 := Lib.hid (HWW_6.out.ext hb7)
  have HBW_7 := Lib.hid (((hb7).block _ (blk_lt HBW_6.out)).trans HBW_6.out)
  have HWX_7 := Lib.hid (HWX_6.out.ext hb7)
  have HBX_7 := Lib.hid (((hb7).block _ (blk_lt HBX_6.out)).trans HBX_6.out)
  clear HE_6 HT_6 HVC_6 HRL_6 HBC_6 HWW_6 HBW_6 HWX_6 HBX_6
  clear hb7
  obtain ⟨c00, c01, c02, c03, c04, c05, c0f⟩ := six_cells HBC_7.out
  obtain ⟨c10, c11, c12, c13, c14, c15, c1f⟩ := six_cells HBW_7.out
  obtain ⟨c20, c21, c22, c23, c24, c25, c2f⟩ := six_cells HBX_7.out
  go_wp2_with fail
  clear c00 c01 c02 c03 c04 c05 c0f c10 c11 c12 c13 c14 c15 c1f c20 c21 c22 c23 c24 c25 c2f
  have hS := lpClient_c x x _ _ w7 HWX_7.out HWW_7.out
  rw [clientEq_self] at hS
  refine hS.mono ?_
  clear hS
  rintro e w8 ⟨rfl, hb8⟩
  have HE_8 := Lib.hid (HE_7.out.trans ((hb8).mono HE_7.out.size)); have hs_8 := HE_8.out.size
  have HT_8 := Lib.hid (HT_7.out.below hb8 htp_7); have htp_8 := HT_8.out.pos
  have HVC_8 := Lib.hid (HVC_7.out.ext hb8)
  have HRL_8 := Lib.hid (HRL_7.out.ext hb8)
  have HBC_8 := Lib.hid (((hb8).block _ (blk_lt HBC_7.out)).trans HBC_7.out)
  have HWW_8 := Lib.hid (HWW_7.out.ext hb8)
  have HBW_8 := Lib.hid (((hb8).block _ (blk_lt HBW_7.out)).trans HBW_7.out)
  have HWX_8 := Lib.hid (HWX_7.out.ext hb8)
  have HBX_8 := Lib.hid (((hb8).block _ (blk_lt HBX_7.out)).trans HBX_7.out)
  clear HE_7 HT_7 HVC_7 HRL_7 HBC_7 HWW_7 HBW_7 HWX_7 HBX_7
  clear hb8
  go_wp2_with fail
  go_ret
  exact ⟨rfl, HE_8.out⟩
 |true =>
  obtain ⟨kk, hkk⟩ : ∃ kk, kk = ms.length % (l.length + 1) := ⟨_, rfl⟩
  have hkl : kk ≤ l.length := Nat.lt_succ_iff.1 (by rw [hkk]; exact Nat.mod_lt _ (Nat.succ_pos _))
  have hct := hear_cut (c := c) (frm := frm) (l := l) (by rw [HXO.out]) kk hkl
  rw [HXO.out] at hct
  obtain ⟨a, ha⟩ : ∃ a, clientHear c frm (l.take kk) = (a, true) := ⟨(clientHear c frm (l.take kk)).1, by rw [← hct.1]⟩
  have hb := hct.2
  rw [ha] at hb
  dsimp only at hb
  have HA := Lib.hid ha; have HB := Lib.hid hb; have HKK9 := Lib.hid hkk
  clear hct ha hb hkk
  go_wp2_with fail
  generalize (w5.alloc (oC x D1 k1 D2 k2)) = w6 at *
  clear c00 c01 c02 c03 c04 c05 c0f c10 c11 c12 c13 c14 c15 c1f c20 c21 c22 c23 c24 c25 c2f
  have hS := lpClient_c x x _ _ w6 HWX_6.out HWW_6.out
  rw [clientEq_self] at hS
  refine hS.mono ?_
  clear hS
  rintro e w7 ⟨rfl, hb7⟩
  have HE_7 := Lib.hid (HE_6.out.trans ((hb7).mono HE_6.out.size)); have hs_7 := HE_7.out.size
  have HT_7 := Lib.hid (HT_6.out.below hb7 htp_6); have htp_7 := HT_7.out.pos
  have HVC_7 := Lib.hid (HVC_6.out.ext hb7)
  have HRL_7 := Lib.hid (HRL_6.out.ext hb7)
  have HBC_7 := Lib.hid (((hb7).block _ (blk_lt HBC_6.out)).trans HBC_6.out)
  have HWW_7 := Lib.hid (HWW_6.out.ext hb7)
  have HBW_7 := Lib.hid (((hb7).block _ (blk_lt HBW_6.out)).trans HBW_6.out)
  have HWX_7 := Lib.hid (HWX_6.out.ext hb7)
  have HBX_7 := Lib.hid (((hb7).block _ (blk_lt HBX_6.out)).trans HBX_6.out)
  clear HE_6 HT_6 HVC_6 HRL_6 HBC_6 HWW_6 HBW_6 HWX_6 HBX_6
  clear hb7
  obtain ⟨c00, c01, c02, c03, c04, c05, c0f⟩ := six_cells HBC_7.out
  obtain ⟨c10, c11, c12, c13, c14, c15, c1f⟩ := six_cells HBW_7.out
  obtain ⟨c20, c21, c22, c23, c24, c25, c2f⟩ := six_cells HBX_7.out
  have hwl : IntKind.i64.wrap ((l.length : Int) + 1) = (l.length : Int) + 1 := by rw [IntKind.wrap_i64]; omega
  have hll0 : (0 : Int) < (l.length : Int) + 1 := by omega
  go_upto_region 9 with fail
  clear c00 c01 c02 c03 c04 c05 c0f c10 c11 c12 c13 c14 c15 c1f c20 c21 c22 c23 c24 c25 c2f
  have hmd : (ms.length : Int) % ((l.length : Int) + 1) = (kk : Int) := by rw [HKK9.out, Int.natCast_emod]; rfl
  rw [hmd]
  clear hmd hwl
  have hki : (kk : Int) ≤ l.length := by omega
  have hlk : (l.take kk).length = kk := by rw [List.length_take]; omega
  have hsl : ∀ W : World, (Instr.slice 23 (.slice L l.length ln) none (some (.int .i64 (kk : Int))) none).run Tryd.prog W = .ok (.slice (fromA L ln 0 7) kk ln) W := fun W => run_head el_ent L l.length ln kk (by have := HRL_7.out.1; omega) W
  have HLK := Lib.hid hlk
  clear hlk
  have hEd8 : Ext w7 w7.drew := (Below.refl _ _).drew
  obtain ⟨w8, hw8⟩ : ∃ W, W = w7.drew := ⟨_, rfl⟩
  rw [← hw8] at hEd8
  have HE_8 := Lib.hid (HE_7.out.trans ((hEd8).mono HE_7.out.size)); have hs_8 := HE_8.out.size
  have HT_8 := Lib.hid (HT_7.out.below hEd8 htp_7); have htp_8 := HT_8.out.pos
  have HVC_8 := Lib.hid (HVC_7.out.ext hEd8)
  have HRL_8 := Lib.hid (HRL_7.out.ext hEd8)
  have HBC_8 := Lib.hid (((hEd8).block _ (blk_lt HBC_7.out)).trans HBC_7.out)
  have HWW_8 := Lib.hid (HWW_7.out.ext hEd8)
  have HBW_8 := Lib.hid (((hEd8).block _ (blk_lt HBW_7.out)).trans HBW_7.out)
  have HWX_8 := Lib.hid (HWX_7.out.ext hEd8)
  have HBX_8 := Lib.hid (((hEd8).block _ (blk_lt HBX_7.out)).trans HBX_7.out)
  have HS : Hid (w8.cell? ⟨w1.heap.size, 0, none⟩ = some (.int .i64 c.who) ∧ w8.cell? ⟨w1.heap.size, 1, none⟩ = some (.int .i64 c.seen) ∧ w8.cell? ⟨w1.heap.size, 2, none⟩ = some (.slice A1 c.base.length n1) ∧ w8.cell? ⟨w1.heap.size, 3, none⟩ = some (.slice A2 c.wait.length n2) ∧ w8.cell? ⟨w1.heap.size, 4, none⟩ = some (.int .i64 c.done) ∧ w8.cell? ⟨w1.heap.size, 5, none⟩ = some (.int .i64 c.made)) := Lib.hid ⟨(six_cells HBC_8.out).1, (six_cells HBC_8.out).2.1, (six_cells HBC_8.out).2.2.1, (six_cells HBC_8.out).2.2.2.1, (six_cells HBC_8.out).2.2.2.2.1, (six_cells HBC_8.out).2.2.2.2.2.1⟩
  have hC8 := (by have h := clientHear_c c _ frm (fromA L ln 0 7) ln (l.take kk) w8 HT_8.out HVC_8.out (HRL_8.out.head kk); rw [HA.out, HLK.out] at h; exact h : Calls Tryd.prog 18 #[.agg (cC c A1 n1 A2 n2), .int .i64 frm, .slice (fromA L ln 0 7) kk ln] w8 fun r w' => ∃ v', r = .returned (.tuple #[v', .bool true]) ∧ CO w' w8.heap.size a v' ∧ Ext w8 w')
  have HC8 := Lib.hid hC8
  clear hC8
  go_cut [13, 14] (fun s t wx => ∃ cb : Nat, s = .pointer (some ⟨cb, 0, none⟩) ∧ t = .bool true ∧ BoxOf w7 a cb wx)
  case first =>
   refine wp_region_B (fun w' => w'.cell? ⟨w1.heap.size, 0, none⟩ = some (.int .i64 c.who) ∧ w'.cell? ⟨w1.heap.size, 1, none⟩ = some (.int .i64 c.seen) ∧ w'.cell? ⟨w1.heap.size, 2, none⟩ = some (.slice A1 c.base.length n1) ∧ w'.cell? ⟨w1.heap.size, 3, none⟩ = some (.slice A2 c.wait.length n2) ∧ w'.cell? ⟨w1.heap.size, 4, none⟩ = some (.int .i64 c.done) ∧ w'.cell? ⟨w1.heap.size, 5, none⟩ = some (.int .i64 c.made)) 10 (by kernel_rfl) ?_
   rw [← hw8]
   clear hw8
   refine WB.take (i := 0) (v := ?_) rfl (by kernel_rfl) (by kernel_rfl) (by kernel_rfl) (by kernel_rfl) (fun _ _ _ h => h) HS.out (Or.inl ⟨by rfl, ?_⟩) ?_
   rotate_left
   ·(rintro w ⟨s0, s1, s2, s3, s4, s5⟩; go_simp; try with_reducible rfl)
   try simp only [Act.put, List.setIfInBounds_toArray, List.set_cons_zero, List.set_cons_succ]
   refine WB.takeP (i := 1) (v := ?_) rfl (by kernel_rfl) (by kernel_rfl) (by kernel_rfl) (by kernel_rfl) (fun _ _ _ h => h) HS.out (Or.inl ⟨by rfl, ?_⟩) ?_
   rotate_left
   ·(rintro w -; go_simp; try with_reducible rfl)
   try simp only [Act.put, List.setIfInBounds_toArray, List.set_cons_zero, List.set_cons_succ]
   refine WB.takeP (i := 2) (v := ?_) rfl (by kernel_rfl) (by kernel_rfl) (by kernel_rfl) (by kernel_rfl) (fun _ _ _ h => h) HS.out (Or.inl ⟨by rfl, ?_⟩) ?_
   rotate_left
   ·(rintro w -; go_simp; try with_reducible rfl)
   try simp only [Act.put, List.setIfInBounds_toArray, List.set_cons_zero, List.set_cons_succ]
   refine WB.takeP (i := 3) (v := ?_) rfl (by kernel_rfl) (by kernel_rfl) (by kernel_rfl) (by kernel_rfl) (fun _ _ _ h => h) HS.out (Or.inl ⟨by rfl, ?_⟩) ?_
   rotate_left
   ·(rintro w -; go_simp; try with_reducible rfl)
   try simp only [Act.put, List.setIfInBounds_toArray, List.set_cons_zero, List.set_cons_succ]
   refine WB.takeP (i := 4) (v := ?_) rfl (by kernel_rfl) (by kernel_rfl) (by kernel_rfl) (by kernel_rfl) (fun _ _ _ h => h) HS.out (Or.inl ⟨by rfl, ?_⟩) ?_
   rotate_left
   ·(rintro w -; go_simp; try with_reducible rfl)
   try simp only [Act.put, List.setIfInBounds_toArray, List.set_cons_zero, List.set_cons_succ]
   refine WB.two (i := 5) (j := 9) (by kernel_rfl) rfl rfl (fun K hK => ?_) (fun K hK => ?_)
   ·have HKK := Lib.hid hK
    clear hK
    go_simp
    refine HC8.out.mono ?_
    rintro e wz ⟨vz, rfl, coz, hbz⟩
    obtain ⟨E1, j1, E2, j2, rfl, g1, g2⟩ := coz.cv
    have hEz : Ext w7 wz := hEd8.trans (hbz.mono hEd8.size)
    have hbx := (hbz.block _ (blk_lt HBC_8.out)).trans HBC_8.out
    have HSz : Hid (wz.cell? ⟨w1.heap.size, 0, none⟩ = some (.int .i64 c.who) ∧ wz.cell? ⟨w1.heap.size, 1, none⟩ = some (.int .i64 c.seen) ∧ wz.cell? ⟨w1.heap.size, 2, none⟩ = some (.slice A1 c.base.length n1) ∧ wz.cell? ⟨w1.heap.size, 3, none⟩ = some (.slice A2 c.wait.length n2) ∧ wz.cell? ⟨w1.heap.size, 4, none⟩ = some (.int .i64 c.done) ∧ wz.cell? ⟨w1.heap.size, 5, none⟩ = some (.int .i64 c.made)) := Lib.hid ⟨(six_cells hbx).1, (six_cells hbx).2.1, (six_cells hbx).2.2.1, (six_cells hbx).2.2.2.1, (six_cells hbx).2.2.2.2.1, (six_cells hbx).2.2.2.2.2.1⟩
    have hE9 : Ext wz (wz.alloc oC0) := (Below.refl _ _).alloc (Nat.le_refl _) _
    have HSy : Hid ((wz.alloc oC0).cell? ⟨w1.heap.size, 0, none⟩ = some (.int .i64 c.who) ∧ (wz.alloc oC0).cell? ⟨w1.heap.size, 1, none⟩ = some (.int .i64 c.seen) ∧ (wz.alloc oC0).cell? ⟨w1.heap.size, 2, none⟩ = some (.slice A1 c.base.length n1) ∧ (wz.alloc oC0).cell? ⟨w1.heap.size, 3, none⟩ = some (.slice A2 c.wait.length n2) ∧ (wz.alloc oC0).cell? ⟨w1.heap.size, 4, none⟩ = some (.int .i64 c.done) ∧ (wz.alloc oC0).cell? ⟨w1.heap.size, 5, none⟩ = some (.int .i64 c.made)) := Lib.hid ⟨(six_cells ((hE9.block _ (blk_lt hbx)).trans hbx)).1, (six_cells ((hE9.block _ (blk_lt hbx)).trans hbx)).2.1, (six_cells ((hE9.block _ (blk_lt hbx)).trans hbx)).2.2.1, (six_cells ((hE9.block _ (blk_lt hbx)).trans hbx)).2.2.2.1, (six_cells ((hE9.block _ (blk_lt hbx)).trans hbx)).2.2.2.2.1, (six_cells ((hE9.block _ (blk_lt hbx)).trans hbx)).2.2.2.2.2.1⟩
    have HCB := Lib.hid (World.alloc_heap_new wz oC0)
    have hE8 : Ext wz (wz.alloc (oC a E1 j1 E2 j2)) := (Below.refl _ _).alloc (Nat.le_refl _) _
    have HF : Hid (BoxOf w7 a wz.heap.size (wz.alloc (oC a E1 j1 E2 j2))) := ⟨E1, j1, E2, j2, ⟨E1, j1, E2, j2, rfl, g1.ext hE8, g2.ext hE8⟩, World.alloc_heap_new wz _, hEz.trans (hE8.mono hEz.size)⟩
    refine HKK.out _ _ ⟨fun _ => HSz.out, ?_⟩
    clear HKK K HS coz hbz g1 g2 hEz hbx hE9 hE8
    try simp only [Act.put, List.setIfInBounds_toArray, List.set_cons_zero, List.set_cons_succ]
    refine WB.takeP (i := 6) (v := ?_) rfl (by kernel_rfl) (by kernel_rfl) (by kernel_rfl) (by kernel_rfl) (fun _ _ _ h => h) HSz.out (Or.inl ⟨by rfl, ?_⟩) ?_
    rotate_left
    ·(rintro w -; go_simp; try with_reducible rfl)
    try simp only [Act.put, List.setIfInBounds_toArray, List.set_cons_zero, List.set_cons_succ]
    refine WB.takeP (i := 7) (v := ?_) rfl (by kernel_rfl) (by kernel_rfl) (by kernel_rfl) (by kernel_rfl) (fun _ _ _ h => h) HSz.out (Or.inl ⟨by rfl, ?_⟩) ?_
    rotate_left
    ·(rintro w -; go_simp; try with_reducible rfl)
    try simp only [Act.put, List.setIfInBounds_toArray, List.set_cons_zero, List.set_cons_succ]
    refine WB.takeP (i := 8) (v := ?_) rfl (by kernel_rfl) (by kernel_rfl) (by kernel_rfl) (by kernel_rfl) (fun _ _ _ h => h) HSz.out (Or.inl ⟨by rfl, ?_⟩) ?_
    rotate_left
    ·(rintro w -; go_simp; try with_reducible rfl)
    try simp only [Act.put, List.setIfInBounds_toArray, List.set_cons_zero, List.set_cons_succ]
    refine WB.one (i := 9) (by kernel_rfl) rfl (fun K hK => ?_)
    have HKK := Lib.hid hK
    clear hK
    go_simp
    refine HKK.out _ _ ⟨fun _ => HSy.out, ?_⟩
    clear HKK K HSz
    try simp only [Act.put, List.setIfInBounds_toArray, List.set_cons_zero, List.set_cons_succ]
    have z0 := (six_cells HCB.out).1
    have z1 := (six_cells HCB.out).2.1
    have z2 := (six_cells HCB.out).2.2.1
    have z3 := (six_cells HCB.out).2.2.2.1
    have z4 := (six_cells HCB.out).2.2.2.2.1
    have z5 := (six_cells HCB.out).2.2.2.2.2.1
    have zf := (six_cells HCB.out).2.2.2.2.2.2
    refine WB.one (i := 10) (by kernel_rfl) rfl (fun K hK => ?_)
    have HKK := Lib.hid hK
    clear hK
    go_simp
    refine HKK.out _ _ ⟨fun h => (no_late h (by kernel_rfl)).elim, ?_⟩
    clear HKK K z0 z1 z2 z3 z4 z5 zf
    try simp only [Act.put, List.setIfInBounds_toArray, List.set_cons_zero, List.set_cons_succ]
    refine WB.one (i := 11) (by kernel_rfl) rfl (fun K hK => ?_)
    have HKK := Lib.hid hK
    clear hK
    go_simp
    refine HKK.out _ _ ⟨fun h => (no_late h (by kernel_rfl)).elim, ?_⟩
    clear HKK K
    refine WB.done (by kernel_rfl) ?_
    go_wp2_with fail
    go_meet
    exact ⟨_, rfl, rfl, HF.out⟩
   ·have HKK := Lib.hid hK
    clear hK
    have hE4 : Ext w8 (w8.alloc oC0) := (Below.refl _ _).alloc (Nat.le_refl _) _
    have HCB4 := Lib.hid (World.alloc_heap_new w8 oC0)
    obtain ⟨wy, hwy⟩ : ∃ W, W = (w8.alloc oC0) := ⟨_, rfl⟩
    rw [← hwy] at hE4 HCB4
    have HE_y := Lib.hid (HE_8.out.trans ((hE4).mono HE_8.out.size)); have hs_y := HE_y.out.size
    have HT_y := Lib.hid (HT_8.out.below hE4 htp_8); have htp_y := HT_y.out.pos
    have HVC_y := Lib.hid (HVC_8.out.ext hE4)
    have HRL_y := Lib.hid (HRL_8.out.ext hE4)
    have HBC_y := Lib.hid (((hE4).block _ (blk_lt HBC_8.out)).trans HBC_8.out)
    have HWW_y := Lib.hid (HWW_8.out.ext hE4)
    have HBW_y := Lib.hid (((hE4).block _ (blk_lt HBW_8.out)).trans HBW_8.out)
    have HWX_y := Lib.hid (HWX_8.out.ext hE4)
    have HBX_y := Lib.hid (((hE4).block _ (blk_lt HBX_8.out)).trans HBX_8.out)
    have HSy : Hid (wy.cell? ⟨w1.heap.size, 0, none⟩ = some (.int .i64 c.who) ∧ wy.cell? ⟨w1.heap.size, 1, none⟩ = some (.int .i64 c.seen) ∧ wy.cell? ⟨w1.heap.size, 2, none⟩ = some (.slice A1 c.base.length n1) ∧ wy.cell? ⟨w1.heap.size, 3, none⟩ = some (.slice A2 c.wait.length n2) ∧ wy.cell? ⟨w1.heap.size, 4, none⟩ = some (.int .i64 c.done) ∧ wy.cell? ⟨w1.heap.size, 5, none⟩ = some (.int .i64 c.made)) := Lib.hid ⟨(six_cells HBC_y.out).1, (six_cells HBC_y.out).2.1, (six_cells HBC_y.out).2.2.1, (six_cells HBC_y.out).2.2.2.1, (six_cells HBC_y.out).2.2.2.2.1, (six_cells HBC_y.out).2.2.2.2.2.1⟩
    have hCy := (by have h := clientHear_c c _ frm (fromA L ln 0 7) ln (l.take kk) wy HT_y.out HVC_y.out (HRL_y.out.head kk); rw [HA.out, HLK.out] at h; exact h : Calls Tryd.prog 18 #[.agg (cC c A1 n1 A2 n2), .int .i64 frm, .slice (fromA L ln 0 7) kk ln] wy fun r w' => ∃ v', r = .returned (.tuple #[v', .bool true]) ∧ CO w' wy.heap.size a v' ∧ Ext wy w')
    have HCy := Lib.hid hCy
    clear hCy
    go_simp
    rw [← hwy]
    refine HKK.out _ _ ⟨fun _ => HSy.out, ?_⟩
    clear HKK K HS hwy
    try simp only [Act.put, List.setIfInBounds_toArray, List.set_cons_zero, List.set_cons_succ]
    refine WB.one (i := 5) (by kernel_rfl) rfl (fun K hK => ?_)
    have HKK := Lib.hid hK
    clear hK
    go_simp
    refine HCy.out.mono ?_
    rintro e wz ⟨vz, rfl, coz, hbz⟩
    obtain ⟨E1, j1, E2, j2, rfl, g1, g2⟩ := coz.ct
    have hEz : Ext w7 wz := (hEd8.trans (hE4.mono hEd8.size)).trans (hbz.mono (Nat.le_trans hEd8.size hE4.size))
    have hbx := (hbz.block _ (blk_lt HBC_y.out)).trans HBC_y.out
    have HSz : Hid (wz.cell? ⟨w1.heap.size, 0, none⟩ = some (.int .i64 c.who) ∧ wz.cell? ⟨w1.heap.size, 1, none⟩ = some (.int .i64 c.seen) ∧ wz.cell? ⟨w1.heap.size, 2, none⟩ = some (.slice A1 c.base.length n1) ∧ wz.cell? ⟨w1.heap.size, 3, none⟩ = some (.slice A2 c.wait.length n2) ∧ wz.cell? ⟨w1.heap.size, 4, none⟩ = some (.int .i64 c.done) ∧ wz.cell? ⟨w1.heap.size, 5, none⟩ = some (.int .i64 c.made)) := Lib.hid ⟨(six_cells hbx).1, (six_cells hbx).2.1, (six_cells hbx).2.2.1, (six_cells hbx).2.2.2.1, (six_cells hbx).2.2.2.2.1, (six_cells hbx).2.2.2.2.2.1⟩
    have hcb := (hbz.block _ (blk_lt HCB4.out)).trans HCB4.out
    have HCB := Lib.hid hcb
    have HF : Hid (BoxOf w7 a w8.heap.size (put6 wz w8.heap.size (.int .i64 a.who) (.int .i64 a.seen) (.slice E1 a.base.length j1) (.slice E2 a.wait.length j2) (.int .i64 a.done) (.int .i64 a.made))) := ⟨E1, j1, E2, j2, ⟨E1, j1, E2, j2, rfl, (g1.put6 hcb (by decide) _ _ _ _ _ _).1, (g2.put6 hcb (by decide) _ _ _ _ _ _).1⟩, put6_at _ _ _ _ _ _ hcb, put6_below _ _ _ _ _ _ hEz hEd8.size⟩
    refine HKK.out _ _ ⟨fun _ => HSz.out, ?_⟩
    clear HKK K HSy coz hbz g1 g2 hEz hbx hcb
    try simp only [Act.put, List.setIfInBounds_toArray, List.set_cons_zero, List.set_cons_succ]
    refine WB.takeP (i := 6) (v := ?_) rfl (by kernel_rfl) (by kernel_rfl) (by kernel_rfl) (by kernel_rfl) (fun _ _ _ h => h) HSz.out (Or.inl ⟨by rfl, ?_⟩) ?_
    rotate_left
    ·(rintro w -; go_simp; try with_reducible rfl)
    try simp only [Act.put, List.setIfInBounds_toArray, List.set_cons_zero, List.set_cons_succ]
    refine WB.takeP (i := 7) (v := ?_) rfl (by kernel_rfl) (by kernel_rfl) (by kernel_rfl) (by kernel_rfl) (fun _ _ _ h => h) HSz.out (Or.inl ⟨by rfl, ?_⟩) ?_
    rotate_left
    ·(rintro w -; go_simp; try with_reducible rfl)
    try simp only [Act.put, List.setIfInBounds_toArray, List.set_cons_zero, List.set_cons_succ]
    refine WB.takeP (i := 8) (v := ?_) rfl (by kernel_rfl) (by kernel_rfl) (by kernel_rfl) (by kernel_rfl) (fun _ _ _ h => h) HSz.out (Or.inl ⟨by rfl, ?_⟩) ?_
    rotate_left
    ·(rintro w -; go_simp; try with_reducible rfl)
    try simp only [Act.put, List.setIfInBounds_toArray, List.set_cons_zero, List.set_cons_succ]
    have z0 := (six_cells HCB.out).1
    have z1 := (six_cells HCB.out).2.1
    have z2 := (six_cells HCB.out).2.2.1
    have z3 := (six_cells HCB.out).2.2.2.1
    have z4 := (six_cells HCB.out).2.2.2.2.1
    have z5 := (six_cells HCB.out).2.2.2.2.2.1
    have zf := (six_cells HCB.out).2.2.2.2.2.2
    refine WB.one (i := 10) (by kernel_rfl) rfl (fun K hK => ?_)
    have HKK := Lib.hid hK
    clear hK
    go_simp
    refine HKK.out _ _ ⟨fun h => (no_late h (by kernel_rfl)).elim, ?_⟩
    clear HKK K z0 z1 z2 z3 z4 z5 zf
    try simp only [Act.put, List.setIfInBounds_toArray, List.set_cons_zero, List.set_cons_succ]
    refine WB.one (i := 11) (by kernel_rfl) rfl (fun K hK => ?_)
    have HKK := Lib.hid hK
    clear hK
    go_simp
    refine HKK.out _ _ ⟨fun h => (no_late h (by kernel_rfl)).elim, ?_⟩
    clear HKK K
    refine WB.done (by kernel_rfl) ?_
    go_wp2_with fail
    go_meet
    exact ⟨_, rfl, rfl, HF.out⟩
  case rest =>
   obtain ⟨cb, rfl, rfl, F1, f1, F2, f2, hcv8, hbx8, hbc8⟩ := hcut
   clear HS HC8 hEd8 hw8 HE_8 HT_8 HVC_8 HRL_8 HBC_8 HWW_8 HBW_8 HWX_8 HBX_8
   obtain ⟨wq, rfl⟩ : ∃ wq : World, wq = wc := ⟨_, rfl⟩
   have HE_q := Lib.hid (HE_7.out.trans ((hbc8).mono HE_7.out.size)); have hs_q := HE_q.out.size
   have HT_q := Lib.hid (HT_7.out.below hbc8 htp_7); have htp_q := HT_q.out.pos
   have HVC_q := Lib.hid (HVC_7.out.ext hbc8)
   have HRL_q := Lib.hid (HRL_7.out.ext hbc8)
   have HBC_q := Lib.hid (((hbc8).block _ (blk_lt HBC_7.out)).trans HBC_7.out)
   have HWW_q := Lib.hid (HWW_7.out.ext hbc8)
   have HBW_q := Lib.hid (((hbc8).block _ (blk_lt HBW_7.out)).trans HBW_7.out)
   have HWX_q := Lib.hid (HWX_7.out.ext hbc8)
   have HBX_q := Lib.hid (((hbc8).block _ (blk_lt HBX_7.out)).trans HBX_7.out)
   clear HE_7 HT_7 HVC_7 HRL_7 HBC_7 HWW_7 HBW_7 HWX_7 HBX_7
   have HVA_q := Lib.hid hcv8; have HBA_q := Lib.hid hbx8
   clear hcv8 hbx8 hbc8 hsl
   have hwfk : IntKind.i64.wrap (frm + (kk : Int)) = frm + (kk : Int) := by rw [IntKind.wrap_i64]; omega
   have hsl : ∀ W : World, (Instr.slice 23 (.slice L l.length ln) (some (.int .i64 (kk : Int))) none none).run Tryd.prog W = .ok (.slice (fromA L ln kk 7) (l.length - kk) (ln - kk)) W := fun W => run_cut el_ent L l.length ln kk hkl W
   have hld : (l.drop kk).length = l.length - kk := List.length_drop
   have HLD := Lib.hid hld
   clear hld
   obtain ⟨c00, c01, c02, c03, c04, c05, c0f⟩ := six_cells HBA_q.out
   go_upto_region 10 with fail
   clear c00 c01 c02 c03 c04 c05 c0f
   have hEd9 : Ext wq wq.drew := (Below.refl _ _).drew
   obtain ⟨w9, hw9⟩ : ∃ W, W = wq.drew := ⟨_, rfl⟩
   rw [← hw9] at hEd9
   have HE_9 := Lib.hid (HE_q.out.trans ((hEd9).mono HE_q.out.size)); have hs_9 := HE_9.out.size
   have HT_9 := Lib.hid (HT_q.out.below hEd9 htp_q); have htp_9 := HT_9.out.pos
   have HVC_9 := Lib.hid (HVC_q.out.ext hEd9)
   have HRL_9 := Lib.hid (HRL_q.out.ext hEd9)
   have HBC_9 := Lib.hid (((hEd9).block _ (blk_lt HBC_q.out)).trans HBC_q.out)
   have HWW_9 := Lib.hid (HWW_q.out.ext hEd9)
   have HBW_9 := Lib.hid (((hEd9).block _ (blk_lt HBW_q.out)).trans HBW_q.out)
   have HWX_9 := Lib.hid (HWX_q.out.ext hEd9)
   have HBX_9 := Lib.hid (((hEd9).block _ (blk_lt HBX_q.out)).trans HBX_q.out)
   have HVA_9 := Lib.hid (HVA_q.out.ext hEd9)
   have HBA_9 := Lib.hid (((hEd9).block _ (blk_lt HBA_q.out)).trans HBA_q.out)
   have HS : Hid (w9.cell? ⟨cb, 0, none⟩ = some (.int .i64 a.who) ∧ w9.cell? ⟨cb, 1, none⟩ = some (.int .i64 a.seen) ∧ w9.cell? ⟨cb, 2, none⟩ = some (.slice F1 a.base.length f1) ∧ w9.cell? ⟨cb, 3, none⟩ = some (.slice F2 a.wait.length f2) ∧ w9.cell? ⟨cb, 4, none⟩ = some (.int .i64 a.done) ∧ w9.cell? ⟨cb, 5, none⟩ = some (.int .i64 a.made)) := Lib.hid ⟨(six_cells HBA_9.out).1, (six_cells HBA_9.out).2.1, (six_cells HBA_9.out).2.2.1, (six_cells HBA_9.out).2.2.2.1, (six_cells HBA_9.out).2.2.2.2.1, (six_cells HBA_9.out).2.2.2.2.2.1⟩
   have hC9 := (by have h := clientHear_c a _ (frm + (kk : Int)) (fromA L ln kk 7) (ln - kk) (l.drop kk) w9 HT_9.out HVA_9.out (HRL_9.out.from_ kk hkl); rw [HB.out, HLD.out] at h; exact h : Calls Tryd.prog 18 #[.agg (cC a F1 f1 F2 f2), .int .i64 (frm + (kk : Int)), .slice (fromA L ln kk 7) (l.length - kk) (ln - kk)] w9 fun r w' => ∃ v', r = .returned (.tuple #[v', .bool true]) ∧ CO w' w9.heap.size x v' ∧ Ext w9 w')
   have HC9 := Lib.hid hC9
   clear hC9
   go_cut [15, 16] (fun s t wx => ∃ cb : Nat, s = .pointer (some ⟨cb, 0, none⟩) ∧ t = .bool true ∧ BoxOf wq x cb wx)
   case first =>
    refine wp_region_B (fun w' => w'.cell? ⟨cb, 0, none⟩ = some (.int .i64 a.who) ∧ w'.cell? ⟨cb, 1, none⟩ = some (.int .i64 a.seen) ∧ w'.cell? ⟨cb, 2, none⟩ = some (.slice F1 a.base.length f1) ∧ w'.cell? ⟨cb, 3, none⟩ = some (.slice F2 a.wait.length f2) ∧ w'.cell? ⟨cb, 4, none⟩ = some (.int .i64 a.done) ∧ w'.cell? ⟨cb, 5, none⟩ = some (.int .i64 a.made)) 12 (by kernel_rfl) ?_
    rw [← hw9]
    clear hw9
    refine WB.take (i := 0) (v := ?_) rfl (by kernel_rfl) (by kernel_rfl) (by kernel_rfl) (by kernel_rfl) (fun _ _ _ h => h) HS.out (Or.inl ⟨by rfl, ?_⟩) ?_
    rotate_left
    ·(rintro w ⟨s0, s1, s2, s3, s4, s5⟩; go_simp; try with_reducible rfl)
    try simp only [Act.put, List.setIfInBounds_toArray, List.set_cons_zero, List.set_cons_succ]
    refine WB.takeP (i := 1) (v := ?_) rfl (by kernel_rfl) (by kernel_rfl) (by kernel_rfl) (by kernel_rfl) (fun _ _ _ h => h) HS.out (Or.inl ⟨by rfl, ?_⟩) ?_
    rotate_left
    ·(rintro w -; go_simp; try with_reducible rfl)
    try simp only [Act.put, List.setIfInBounds_toArray, List.set_cons_zero, List.set_cons_succ]
    refine WB.takeP (i := 2) (v := ?_) rfl (by kernel_rfl) (by kernel_rfl) (by kernel_rfl) (by kernel_rfl) (fun _ _ _ h => h) HS.out (Or.inl ⟨by rfl, ?_⟩) ?_
    rotate_left
    ·(rintro w -; go_simp; try with_reducible rfl)
    try simp only [Act.put, List.setIfInBounds_toArray, List.set_cons_zero, List.set_cons_succ]
    refine WB.takeP (i := 3) (v := ?_) rfl (by kernel_rfl) (by kernel_rfl) (by kernel_rfl) (by kernel_rfl) (fun _ _ _ h => h) HS.out (Or.inl ⟨by rfl, ?_⟩) ?_
    rotate_left
    ·(rintro w -; go_simp; try with_reducible rfl)
    try simp only [Act.put, List.setIfInBounds_toArray, List.set_cons_zero, List.set_cons_succ]
    refine WB.takeP (i := 4) (v := ?_) rfl (by kernel_rfl) (by kernel_rfl) (by kernel_rfl) (by kernel_rfl) (fun _ _ _ h => h) HS.out (Or.inl ⟨by rfl, ?_⟩) ?_
    rotate_left
    ·(rintro w -; go_simp; try with_reducible rfl)
    try simp only [Act.put, List.setIfInBounds_toArray, List.set_cons_zero, List.set_cons_succ]
    refine WB.takeP (i := 5) (v := ?_) rfl (by kernel_rfl) (by kernel_rfl) (by kernel_rfl) (by kernel_rfl) (fun _ _ _ h => h) HS.out (Or.inl ⟨by rfl, ?_⟩) ?_
    rotate_left
    ·(rintro w -; go_simp; try with_reducible rfl)
    try simp only [Act.put, List.setIfInBounds_toArray, List.set_cons_zero, List.set_cons_succ]
    refine WB.takeP (i := 6) (v := ?_) rfl (by kernel_rfl) (by kernel_rfl) (by kernel_rfl) (by kernel_rfl) (fun _ _ _ h => h) HS.out (Or.inl ⟨by rfl, ?_⟩) ?_
    rotate_left
    ·(rintro w -; go_simp; try with_reducible rfl)
    try simp only [Act.put, List.setIfInBounds_toArray, List.set_cons_zero, List.set_cons_succ]
    refine WB.two (i := 7) (j := 11) (by kernel_rfl) rfl rfl (fun K hK => ?_) (fun K hK => ?_)
    ·have HKK := Lib.hid hK
     clear hK
     go_simp
     refine HC9.out.mono ?_
     rintro e wz ⟨vz, rfl, coz, hbz⟩
     obtain ⟨E1, j1, E2, j2, rfl, g1, g2⟩ := coz.cv
     have hEz : Ext wq wz := hEd9.trans (hbz.mono hEd9.size)
     have hbx := (hbz.block _ (blk_lt HBA_9.out)).trans HBA_9.out
     have HSz : Hid (wz.cell? ⟨cb, 0, none⟩ = some (.int .i64 a.who) ∧ wz.cell? ⟨cb, 1, none⟩ = some (.int .i64 a.seen) ∧ wz.cell? ⟨cb, 2, none⟩ = some (.slice F1 a.base.length f1) ∧ wz.cell? ⟨cb, 3, none⟩ = some (.slice F2 a.wait.length f2) ∧ wz.cell? ⟨cb, 4, none⟩ = some (.int .i64 a.done) ∧ wz.cell? ⟨cb, 5, none⟩ = some (.int .i64 a.made)) := Lib.hid ⟨(six_cells hbx).1, (six_cells hbx).2.1, (six_cells hbx).2.2.1, (six_cells hbx).2.2.2.1, (six_cells hbx).2.2.2.2.1, (six_cells hbx).2.2.2.2.2.1⟩
     have hE9 : Ext wz (wz.alloc oC0) := (Below.refl _ _).alloc (Nat.le_refl _) _
     have HSy : Hid ((wz.alloc oC0).cell? ⟨cb, 0, none⟩ = some (.int .i64 a.who) ∧ (wz.alloc oC0).cell? ⟨cb, 1, none⟩ = some (.int .i64 a.seen) ∧ (wz.alloc oC0).cell? ⟨cb, 2, none⟩ = some (.slice F1 a.base.length f1) ∧ (wz.alloc oC0).cell? ⟨cb, 3, none⟩ = some (.slice F2 a.wait.length f2) ∧ (wz.alloc oC0).cell? ⟨cb, 4, none⟩ = some (.int .i64 a.done) ∧ (wz.alloc oC0).cell? ⟨cb, 5, none⟩ = some (.int .i64 a.made)) := Lib.hid ⟨(six_cells ((hE9.block _ (blk_lt hbx)).trans hbx)).1, (six_cells ((hE9.block _ (blk_lt hbx)).trans hbx)).2.1, (six_cells ((hE9.block _ (blk_lt hbx)).trans hbx)).2.2.1, (six_cells ((hE9.block _ (blk_lt hbx)).trans hbx)).2.2.2.1, (six_cells ((hE9.block _ (blk_lt hbx)).trans hbx)).2.2.2.2.1, (six_cells ((hE9.block _ (blk_lt hbx)).trans hbx)).2.2.2.2.2.1⟩
     have HCB := Lib.hid (World.alloc_heap_new wz oC0)
     have hE8 : Ext wz (wz.alloc (oC x E1 j1 E2 j2)) := (Below.refl _ _).alloc (Nat.le_refl _) _
     have HF : Hid (BoxOf wq x wz.heap.size (wz.alloc (oC x E1 j1 E2 j2))) := ⟨E1, j1, E2, j2, ⟨E1, j1, E2, j2, rfl, g1.ext hE8, g2.ext hE8⟩, World.alloc_heap_new wz _, hEz.trans (hE8.mono hEz.size)⟩
     refine HKK.out _ _ ⟨fun _ => HSz.out, ?_⟩
     clear HKK K HS coz hbz g1 g2 hEz hbx hE9 hE8
     try simp only [Act.put, List.setIfInBounds_toArray, List.set_cons_zero, List.set_cons_succ]
     refine WB.takeP (i := 8) (v := ?_) rfl (by kernel_rfl) (by kernel_rfl) (by kernel_rfl) (by kernel_rfl) (fun _ _ _ h => h) HSz.out (Or.inl ⟨by rfl, ?_⟩) ?_
     rotate_left
     ·(rintro w -; go_simp; try with_reducible rfl)
     try simp only [Act.put, List.setIfInBounds_toArray, List.set_cons_zero, List.set_cons_succ]
     refine WB.takeP (i := 9) (v := ?_) rfl (by kernel_rfl) (by kernel_rfl) (by kernel_rfl) (by kernel_rfl) (fun _ _ _ h => h) HSz.out (Or.inl ⟨by rfl, ?_⟩) ?_
     rotate_left
     ·(rintro w -; go_simp; try with_reducible rfl)
     try simp only [Act.put, List.setIfInBounds_toArray, List.set_cons_zero, List.set_cons_succ]
     refine WB.takeP (i := 10) (v := ?_) rfl (by kernel_rfl) (by kernel_rfl) (by kernel_rfl) (by kernel_rfl) (fun _ _ _ h => h) HSz.out (Or.inl ⟨by rfl, ?_⟩) ?_
     rotate_left
     ·(rintro w -; go_simp; try with_reducible rfl)
     try simp only [Act.put, List.setIfInBounds_toArray, List.set_cons_zero, List.set_cons_succ]
     refine WB.one (i := 11) (by kernel_rfl) rfl (fun K hK => ?_)
     have HKK := Lib.hid hK
     clear hK
     go_simp
     refine HKK.out _ _ ⟨fun _ => HSy.out, ?_⟩
     clear HKK K HSz
     try simp only [Act.put, List.setIfInBounds_toArray, List.set_cons_zero, List.set_cons_succ]
     have z0 := (six_cells HCB.out).1
     have z1 := (six_cells HCB.out).2.1
     have z2 := (six_cells HCB.out).2.2.1
     have z3 := (six_cells HCB.out).2.2.2.1
     have z4 := (six_cells HCB.out).2.2.2.2.1
     have z5 := (six_cells HCB.out).2.2.2.2.2.1
     have zf := (six_cells HCB.out).2.2.2.2.2.2
     refine WB.one (i := 12) (by kernel_rfl) rfl (fun K hK => ?_)
     have HKK := Lib.hid hK
     clear hK
     go_simp
     refine HKK.out _ _ ⟨fun h => (no_late h (by kernel_rfl)).elim, ?_⟩
     clear HKK K z0 z1 z2 z3 z4 z5 zf
     try simp only [Act.put, List.setIfInBounds_toArray, List.set_cons_zero, List.set_cons_succ]
     refine WB.one (i := 13) (by kernel_rfl) rfl (fun K hK => ?_)
     have HKK := Lib.hid hK
     clear hK
     go_simp
     refine HKK.out _ _ ⟨fun h => (no_late h (by kernel_rfl)).elim, ?_⟩
     clear HKK K
     refine WB.done (by kernel_rfl) ?_
     go_wp2_with fail
     go_meet
     exact ⟨_, rfl, rfl, HF.out⟩
    ·have HKK := Lib.hid hK
     clear hK
     have hE4 : Ext w9 (w9.alloc oC0) := (Below.refl _ _).alloc (Nat.le_refl _) _
     have HCB4 := Lib.hid (World.alloc_heap_new w9 oC0)
     obtain ⟨wy, hwy⟩ : ∃ W, W = (w9.alloc oC0) := ⟨_, rfl⟩
     rw [← hwy] at hE4 HCB4
     have HE_y := Lib.hid (HE_9.out.trans ((hE4).mono HE_9.out.size)); have hs_y := HE_y.out.size
     have HT_y := Lib.hid (HT_9.out.below hE4 htp_9); have htp_y := HT_y.out.pos
     have HVC_y := Lib.hid (HVC_9.out.ext hE4)
     have HRL_y := Lib.hid (HRL_9.out.ext hE4)
     have HBC_y := Lib.hid (((hE4).block _ (blk_lt HBC_9.out)).trans HBC_9.out)
     have HWW_y := Lib.hid (HWW_9.out.ext hE4)
     have HBW_y := Lib.hid (((hE4).block _ (blk_lt HBW_9.out)).trans HBW_9.out)
     have HWX_y := Lib.hid (HWX_9.out.ext hE4)
     have HBX_y := Lib.hid (((hE4).block _ (blk_lt HBX_9.out)).trans HBX_9.out)
     have HVA_y := Lib.hid (HVA_9.out.ext hE4)
     have HBA_y := Lib.hid (((hE4).block _ (blk_lt HBA_9.out)).trans HBA_9.out)
     have HSy : Hid (wy.cell? ⟨cb, 0, none⟩ = some (.int .i64 a.who) ∧ wy.cell? ⟨cb, 1, none⟩ = some (.int .i64 a.seen) ∧ wy.cell? ⟨cb, 2, none⟩ = some (.slice F1 a.base.length f1) ∧ wy.cell? ⟨cb, 3, none⟩ = some (.slice F2 a.wait.length f2) ∧ wy.cell? ⟨cb, 4, none⟩ = some (.int .i64 a.done) ∧ wy.cell? ⟨cb, 5, none⟩ = some (.int .i64 a.made)) := Lib.hid ⟨(six_cells HBA_y.out).1, (six_cells HBA_y.out).2.1, (six_cells HBA_y.out).2.2.1, (six_cells HBA_y.out).2.2.2.1, (six_cells HBA_y.out).2.2.2.2.1, (six_cells HBA_y.out).2.2.2.2.2.1⟩
     have hCy := (by have h := clientHear_c a _ (frm + (kk : Int)) (fromA L ln kk 7) (ln - kk) (l.drop kk) wy HT_y.out HVA_y.out (HRL_y.out.from_ kk hkl); rw [HB.out, HLD.out] at h; exact h : Calls Tryd.prog 18 #[.agg (cC a F1 f1 F2 f2), .int .i64 (frm + (kk : Int)), .slice (fromA L ln kk 7) (l.length - kk) (ln - kk)] wy fun r w' => ∃ v', r = .returned (.tuple #[v', .bool true]) ∧ CO w' wy.heap.size x v' ∧ Ext wy w')
     have HCy := Lib.hid hCy
     clear hCy
     go_simp
     rw [← hwy]
     refine HKK.out _ _ ⟨fun _ => HSy.out, ?_⟩
     clear HKK K HS hwy
     try simp only [Act.put, List.setIfInBounds_toArray, List.set_cons_zero, List.set_cons_succ]
     refine WB.one (i := 7) (by kernel_rfl) rfl (fun K hK => ?_)
     have HKK := Lib.hid hK
     clear hK
     go_simp
     refine HCy.out.mono ?_
     rintro e wz ⟨vz, rfl, coz, hbz⟩
     obtain ⟨E1, j1, E2, j2, rfl, g1, g2⟩ := coz.ct
     have hEz : Ext wq wz := (hEd9.trans (hE4.mono hEd9.size)).trans (hbz.mono (Nat.le_trans hEd9.size hE4.size))
     have hbx := (hbz.block _ (blk_lt HBA_y.out)).trans HBA_y.out
     have HSz : Hid (wz.cell? ⟨cb, 0, none⟩ = some (.int .i64 a.who) ∧ wz.cell? ⟨cb, 1, none⟩ = some (.int .i64 a.seen) ∧ wz.cell? ⟨cb, 2, none⟩ = some (.slice F1 a.base.length f1) ∧ wz.cell? ⟨cb, 3, none⟩ = some (.slice F2 a.wait.length f2) ∧ wz.cell? ⟨cb, 4, none⟩ = some (.int .i64 a.done) ∧ wz.cell? ⟨cb, 5, none⟩ = some (.int .i64 a.made)) := Lib.hid ⟨(six_cells hbx).1, (six_cells hbx).2.1, (six_cells hbx).2.2.1, (six_cells hbx).2.2.2.1, (six_cells hbx).2.2.2.2.1, (six_cells hbx).2.2.2.2.2.1⟩
     have hcb := (hbz.block _ (blk_lt HCB4.out)).trans HCB4.out
     have HCB := Lib.hid hcb
     have HF : Hid (BoxOf wq x w9.heap.size (put6 wz w9.heap.size (.int .i64 x.who) (.int .i64 x.seen) (.slice E1 x.base.length j1) (.slice E2 x.wait.length j2) (.int .i64 x.done) (.int .i64 x.made))) := ⟨E1, j1, E2, j2, ⟨E1, j1, E2, j2, rfl, (g1.put6 hcb (by decide) _ _ _ _ _ _).1, (g2.put6 hcb (by decide) _ _ _ _ _ _).1⟩, put6_at _ _ _ _ _ _ hcb, put6_below _ _ _ _ _ _ hEz hEd9.size⟩
     refine HKK.out _ _ ⟨fun _ => HSz.out, ?_⟩
     clear HKK K HSy coz hbz g1 g2 hEz hbx hcb
     try simp only [Act.put, List.setIfInBounds_toArray, List.set_cons_zero, List.set_cons_succ]
     refine WB.takeP (i := 8) (v := ?_) rfl (by kernel_rfl) (by kernel_rfl) (by kernel_rfl) (by kernel_rfl) (fun _ _ _ h => h) HSz.out (Or.inl ⟨by rfl, ?_⟩) ?_
     rotate_left
     ·(rintro w -; go_simp; try with_reducible rfl)
     try simp only [Act.put, List.setIfInBounds_toArray, List.set_cons_zero, List.set_cons_succ]
     refine WB.takeP (i := 9) (v := ?_) rfl (by kernel_rfl) (by kernel_rfl) (by kernel_rfl) (by kernel_rfl) (fun _ _ _ h => h) HSz.out (Or.inl ⟨by rfl, ?_⟩) ?_
     rotate_left
     ·(rintro w -; go_simp; try with_reducible rfl)
     try simp only [Act.put, List.setIfInBounds_toArray, List.set_cons_zero, List.set_cons_succ]
     refine WB.takeP (i := 10) (v := ?_) rfl (by kernel_rfl) (by kernel_rfl) (by kernel_rfl) (by kernel_rfl) (fun _ _ _ h => h) HSz.out (Or.inl ⟨by rfl, ?_⟩) ?_
     rotate_left
     ·(rintro w -; go_simp; try with_reducible rfl)
     try simp only [Act.put, List.setIfInBounds_toArray, List.set_cons_zero, List.set_cons_succ]
     have z0 := (six_cells HCB.out).1
     have z1 := (six_cells HCB.out).2.1
     have z2 := (six_cells HCB.out).2.2.1
     have z3 := (six_cells HCB.out).2.2.2.1
     have z4 := (six_cells HCB.out).2.2.2.2.1
     have z5 := (six_cells HCB.out).2.2.2.2.2.1
     have zf := (six_cells HCB.out).2.2.2.2.2.2
     refine WB.one (i := 12) (by kernel_rfl) rfl (fun K hK => ?_)
     have HKK := Lib.hid hK
     clear hK
     go_simp
     refine HKK.out _ _ ⟨fun h => (no_late h (by kernel_rfl)).elim, ?_⟩
     clear HKK K z0 z1 z2 z3 z4 z5 zf
     try simp only [Act.put, List.setIfInBounds_toArray, List.set_cons_zero, List.set_cons_succ]
     refine WB.one (i := 13) (by kernel_rfl) rfl (fun K hK => ?_)
     have HKK := Lib.hid hK
     clear hK
     go_simp
     refine HKK.out _ _ ⟨fun h => (no_late h (by kernel_rfl)).elim, ?_⟩
     clear HKK K
     refine WB.done (by kernel_rfl) ?_
     go_wp2_with fail
     go_meet
     exact ⟨_, rfl, rfl, HF.out⟩
   case rest =>
    obtain ⟨cd, rfl, rfl, G1, g1, G2, g2, hcv9, hbx9, hbc9⟩ := hcut
    clear HS HC9 hEd9 hw9 HE_9 HT_9 HVC_9 HRL_9 HBC_9 HWW_9 HBW_9 HWX_9 HBX_9 HVA_9 HBA_9
    obtain ⟨wu, rfl⟩ : ∃ wu : World, wu = wc := ⟨_, rfl⟩
    have HE_u := Lib.hid (HE_q.out.trans ((hbc9).mono HE_q.out.size)); have hs_u := HE_u.out.size
    have HT_u := Lib.hid (HT_q.out.below hbc9 htp_q); have htp_u := HT_u.out.pos
    have HVC_u := Lib.hid (HVC_q.out.ext hbc9)
    have HRL_u := Lib.hid (HRL_q.out.ext hbc9)
    have HBC_u := Lib.hid (((hbc9).block _ (blk_lt HBC_q.out)).trans HBC_q.out)
    have HWW_u := Lib.hid (HWW_q.out.ext hbc9)
    have HBW_u := Lib.hid (((hbc9).block _ (blk_lt HBW_q.out)).trans HBW_q.out)
    have HWX_u := Lib.hid (HWX_q.out.ext hbc9)
    have HBX_u := Lib.hid (((hbc9).block _ (blk_lt HBX_q.out)).trans HBX_q.out)
    have HVA_u := Lib.hid (HVA_q.out.ext hbc9)
    have HBA_u := Lib.hid (((hbc9).block _ (blk_lt HBA_q.out)).trans HBA_q.out)
    clear HE_q HT_q HVC_q HRL_q HBC_q HWW_q HBW_q HWX_q HBX_q HVA_q HBA_q
    have HVB_u := Lib.hid hcv9; have HBB_u := Lib.hid hbx9
    clear hcv9 hbx9 hbc9 hsl
    obtain ⟨c00, c01, c02, c03, c04, c05, c0f⟩ := six_cells HBX_u.out
    obtain ⟨c10, c11, c12, c13, c14, c15, c1f⟩ := six_cells HBB_u.out
    go_wp2_with fail
    clear c00 c01 c02 c03 c04 c05 c0f c10 c11 c12 c13 c14 c15 c1f
    have hS := lpClient_c x x _ _ wu HVB_u.out HWX_u.out
    rw [clientEq_self] at hS
    refine hS.mono ?_
    clear hS
    rintro e wv ⟨rfl, hbv⟩
    have HE_v := Lib.hid (HE_u.out.trans ((hbv).mono HE_u.out.size)); have hs_v := HE_v.out.size
    have HT_v := Lib.hid (HT_u.out.below hbv htp_u); have htp_v := HT_v.out.pos
    have HVC_v := Lib.hid (HVC_u.out.ext hbv)
    have HRL_v := Lib.hid (HRL_u.out.ext hbv)
    have HBC_v := Lib.hid (((hbv).block _ (blk_lt HBC_u.out)).trans HBC_u.out)
    have HWW_v := Lib.hid (HWW_u.out.ext hbv)
    have HBW_v := Lib.hid (((hbv).block _ (blk_lt HBW_u.out)).trans HBW_u.out)
    have HWX_v := Lib.hid (HWX_u.out.ext hbv)
    have HBX_v := Lib.hid (((hbv).block _ (blk_lt HBX_u.out)).trans HBX_u.out)
    have HVA_v := Lib.hid (HVA_u.out.ext hbv)
    have HBA_v := Lib.hid (((hbv).block _ (blk_lt HBA_u.out)).trans HBA_u.out)
    have HVB_v := Lib.hid (HVB_u.out.ext hbv)
    have HBB_v := Lib.hid (((hbv).block _ (blk_lt HBB_u.out)).trans HBB_u.out)
    clear HE_u HT_u HVC_u HRL_u HBC_u HWW_u HBW_u HWX_u HBX_u HVA_u HBA_u HVB_u HBB_u
    clear hbv
    go_wp2_with fail
    go_ret
    exact ⟨rfl, HE_v.out⟩
end Go.Proofs.YtjhbbgeebobcpaaDoor
namespace Go.Proofs.YtjhbbgeebobcpaaDoor.fnHearCut
open Go.RowKit Go.ChangeShapes Go.WideShapes Go.ChangeAt
set_option maxRecDepth 100000 in
theorem contract (H : Type) (enc : TypeId × Value → H) (W : World) (base : Nat) (args : Array Value) (ds gs : List (DataW H)) (before : List MemPlace)
  (hval : ∀ (j : Nat) t v, Tryd.f8.params[j]? = some t → args[j]? = some v → Value.okWide Tryd.prog W .any base t v)
  (hW : DataW.Whole enc Tryd.prog Tryd.f8.params.toList Rows.fnHearCutSpec.vars false W args.toList ds gs before) (hL : laidMetH Tryd.prog Rows.fnHearCutRow.laid W) :
  Calls Tryd.prog 8 args W fun e W' => ∃ v, e = .returned v ∧ Rows.fnHearCutSpec.post enc Tryd.prog Tryd.f8 false true false false W args v W' := by
 have hW' := hW
 obtain ⟨p, q, hA0, hV, rfl, hfz, hnd⟩ := hW
 have hA : DataW.TrodAll enc Tryd.prog W 0 (fun _ => true) true Tryd.f8.params.toList args.toList ds p := hA0
 rw [Tryd.params8] at hA hval
 obtain ⟨v0, vs0, d0, ds0, p0, q0, hargs, rfl, rfl, h0, r0⟩ := trodAll_cons hA
 obtain ⟨v1, vs1, d1, ds1, p1, q1, rfl, rfl, rfl, h1, r1⟩ := trodAll_cons r0
 obtain ⟨rfl, rfl, rfl⟩ := trodAll_nil r1
 obtain rfl : args = #[v0, v1] := by cases args; simp_all
 obtain ⟨g, tg, csg, fg, dg, pg, rfl, _⟩ := trodVars_one hV
 have lt0 : ∀ x ∈ p0, x.block < W.heap.size := by obtain ⟨m, hm⟩ := h0; exact DataW.trod_lt m _ _ _ hm
 have lt1 : ∀ x ∈ p1, x.block < W.heap.size := by obtain ⟨m, hm⟩ := h1; exact DataW.trod_lt m _ _ _ hm
 obtain ⟨A0, c0, bs0, rfl, hr0, ha0⟩ := arg_bytes (hval 0 22 v0 rfl rfl) h0
 obtain ⟨A1, c1, bs1, rfl, hr1, ha1⟩ := arg_bytes (hval 1 22 v1 rfl rfl) h1
 clear hA0
 refine (hearCut_walk A0 c0 bs0 A1 c1 bs1 W (tab_of hL) hr0 hr1 ha0).mono fun e W' ⟨he, bel⟩ => ?_
 subst he
 exact ⟨_, rfl, _, _, _, [], _, _, hW', trodAll_mk1 (shut_bool Tryd.underlying4 _),
  (trodAll_cons_mk (Below.trod laidOut (by kernel_rfl) (of_decide_eq_true (by kernel_rfl)) h0 bel lt0) (trodAll_cons_mk (Below.trod laidOut (by kernel_rfl) (of_decide_eq_true (by kernel_rfl)) h1 bel lt1) trodAll_mk0)),
  Below.trodVars laidOut bel (by kernel_rfl) hV, bel.frame _, fun h => by cases h⟩
noncomputable def laidWorld (os : Os) : World :=
 { World.holding Tryd.prog os ⟨#[], #[], []⟩ with heap := (World.holding Tryd.prog os ⟨#[], #[], []⟩).heap.modify 0 fun
   |.cells _ t frozen => .cells (owners.map (Value.int .i64)).toArray t frozen
   |o => o }
theorem laid_met (os : Os) : laidMet Tryd.prog Rows.fnHearCutRow.laid ((laidWorld os).forCall (fun _ _ => 0) ⟨#[], #[.slice none 0 0, .slice none 0 0], []⟩).memory :=
 laidMet_of_run' 8 (by kernel_rfl) (by kernel_rfl)
theorem reads (os : Os) {H : Type} (enc : TypeId × Value → H) : ∃ gs places, DataW.whole enc Tryd.prog ((laidWorld os).forCall (fun _ _ => 0) ⟨#[], #[.slice none 0 0, .slice none 0 0], []⟩).memory Tryd.f8.params.toList Rows.fnHearCutSpec.vars false #[Value.slice none 0 0, Value.slice none 0 0].toList 8 = some ([.nil, .nil], gs, places) :=
 ⟨[Rows.laid_loop_example_plashet_impl_rowOwners], MemPlace.row ⟨0, 0, none⟩ 37, by kernel_rfl⟩
set_option maxRecDepth 100000 in
theorem lifted (os : Os) (started : os.Started) (H : Type) (enc : TypeId × Value → H) (F : Stop.Interp) :
  ReturnsInHanded {} Tryd.checked os 8 .any ((OpenSpec.ofChange Rows.fnHearCutSpec).preRow enc Tryd.prog Tryd.f8 Rows.fnHearCutRow.domain false Rows.fnHearCutRow.laid) (((OpenSpec.ofChange Rows.fnHearCutSpec).at F).post enc Tryd.prog Tryd.f8 false true false false) := by
 obtain ⟨gs, places, hx⟩ := reads os enc
 refine returnsInHanded_of_row (C := Tryd.checked) (s := OpenSpec.ofChange Rows.fnHearCutSpec) own started (by kernel_rfl) Tryd.func8
  (witness_row_at (enc := enc) (C := Tryd.checked) false (laidWorld os) #[.slice none 0 0, .slice none 0 0] rfl (by kernel_rfl) (by kernel_rfl) (by kernel_rfl)
   (OpenSpec.preRow_of_cond 8 hx (by kernel_rfl) (fun k hk => by cases hk) (by kernel_rfl) (laid_met os))) ?_
 intro W base args ds gs before hval hW _ _ _ hL _ _
 exact contract H enc W base args ds gs before hval hW hL
theorem said : Rows.FnHearCutSaid :=
 OpenClaim.holds_of_cond 8 Tryd.f8 rfl rfl rfl rfl rfl rfl rfl ⟨rfl, rfl, rfl, rfl, rfl⟩ rfl rfl rfl rfl rfl (by kernel_rfl) Tryd.func8 (by kernel_rfl)
  (of_decide_eq_true (by kernel_rfl)) (by unfold Func.isWrapper; first | (rw [if_pos (by decide +kernel)]; kernel_rfl) | (rw [if_neg (by decide +kernel)]; exact ⟨rfl, rfl⟩))
  (fun os started H enc _ F => by rw [OpenClaim.pre_eq_preRow]; exact lifted os started H enc F)
theorem plain (f : FuncId) (fn : Func) (hf : Tryd.pinned.checked.prog.funcNamed "loop.example/plashet/laws.FnHearCut" = some f) (hfn : Tryd.pinned.checked.prog.funcs[f]? = some fn) :
  true = Tryd.pinned.checked.prog.looks [] ∧ ∀ (j : Nat) t, fn.params[j]? = some t → Tryd.pinned.checked.prog.wantsStandIn t = false := by
 obtain rfl : f = 8 := Option.some.inj ((show Tryd.prog.funcNamed "loop.example/plashet/laws.FnHearCut" = some 8 by kernel_rfl).symm.trans hf) |>.symm
 obtain rfl : fn = Tryd.f8 := (Option.some.inj (Tryd.func8.symm.trans hfn)).symm
 refine ⟨by kernel_rfl, fun j t ht => ?_⟩
 rw [Tryd.params8] at ht
 obtain rfl : t = 22 := by simpa using Array.mem_of_getElem? ht
 exact (show Tryd.prog.wantsStandIn 22 = false by kernel_rfl)
theorem card : Rows.FnHearCutCardSaid :=
 Claim7.holds_tied_plain_at .later [] _ _ _ _ said (fun _ h => by cases h) (by kernel_rfl) (fun _ h => by cases h) fnHearCut_row_tie rfl ⟨rfl, rfl⟩ (by kernel_rfl) rfl plain (by kernel_rfl)
end Go.Proofs.YtjhbbgeebobcpaaDoor.fnHearCut
