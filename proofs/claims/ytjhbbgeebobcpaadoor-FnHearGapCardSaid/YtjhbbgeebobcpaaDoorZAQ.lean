/- The walk of laws.FnHearGap, over what is drawn. .. THE ROW AND THE CARD OF laws.FnHearGap. -/
import Derived.Test.YtjhbbgeebobcpaaDoorZAN
namespace Go.Proofs.YtjhbbgeebobcpaaDoor
open Go.RowKit Go.Lib
set_option linter.unusedVariables false
set_option linter.unusedSimpArgs false
theorem hear_none {c : Client} {frm : Int} {l : List Entry} (hok : clientOk c = true) (h : (clientHear c frm l).2 = false) : clientEq (clientHear c frm l).1 c = true ∨ (clientHear c frm l).1.base = [] := by
 unfold clientHear at h ⊢
 split at h
 ·rw [if_pos (by assumption)]; exact .inr rfl
 ·rw [if_neg (by assumption)]
  split at h
  ·rw [if_pos (by assumption)]; exact .inr rfl
  ·rw [if_neg (by assumption)]
   split at h
   ·rw [if_pos (by assumption)]; exact .inl (clientEq_self c)
   ·rw [if_neg (by assumption)]
    split at h
    ·exact .inl (clientEq_self c)
    ·cases h
theorem hear_gap {c : Client} {l : List Entry} (hok : clientOk c = true) (h : c.seen < 40) : ∃ y, clientHear c (c.seen + 1) l = (y, false) := by
 have h0 := (clientOk_parts hok).2.1
 unfold clientHear
 rw [if_neg (by rw [hok]; simp; omega)]
 split
 ·exact ⟨_, rfl⟩
 ·rw [if_pos (.inl (by omega))]; exact ⟨_, rfl⟩
set_option maxRecDepth 100000 in
set_option maxHeartbeats 2000000 in
theorem hearGap_walk (A : Option Addr) (n : Nat) (bs : List UInt8) (w : World) (ht : Tab w) (hr : Rd w A n bs) (hA : ∀ b off, A = some ⟨b, off, none⟩ → b < w.heap.size) :
  Calls Tryd.prog 9 #[.slice A bs.length n] w fun e w' => e = .returned (.bool true) ∧ Ext w w' := by
 have hm : bs.length ≤ maxLen := Nat.le_trans hr.1 hr.2.1
 unfold maxLen at hm
 have htp_0 := ht.pos
 have HT_0 := Lib.hid ht
 have HDR := Lib.hid (drawHear_d A n bs w hr hA)
 clear hr hA ht
 go_enter Tryd.func9, Tryd.ntmps9
 by_cases hlong : (1048576 : Int) < bs.length
 ·go_wp2_with fail
  go_ret
  exact ⟨rfl, Below.refl _ _⟩
 go_wp2_with fail
 refine HDR.out.mono ?_
 rintro e w1 ⟨c, v, frm, l, L, ln, rfl, ⟨A1, n1, A2, n2, rfl, h1, h2⟩, hcw, hrl, hop, hll, hf0, hf1, hb1⟩
 have hs_1 := hb1.size
 have HCW := Lib.hid hcw; have HOP := Lib.hid hop
 obtain ⟨x, ok, hxo⟩ : ∃ x ok, clientHear c frm l = (x, ok) := ⟨_, _, rfl⟩
 have HXO := Lib.hid hxo
 have hE2 : Ext w1 (w1.alloc (oC c A1 n1 A2 n2)) := (Below.refl _ _).alloc (Nat.le_refl _) _
 have HE_2 := Lib.hid (hb1.trans (hE2.mono hs_1)); have hs_2 := HE_2.out.size
 have HT_2 := Lib.hid (HT_0.out.below HE_2.out htp_0); have htp_2 := HT_2.out.pos
 have HVC_2 : Hid (CV (w1.alloc (oC c A1 n1 A2 n2)) c (.agg (cC c A1 n1 A2 n2))) := ⟨A1, n1, A2, n2, rfl, h1.ext hE2, h2.ext hE2⟩
 have HRL_2 := Lib.hid (hrl.ext hE2)
 have HBC_2 := Lib.hid (World.alloc_heap_new w1 (oC c A1 n1 A2 n2))
 have hz_2 := alloc_sz w1 (oC c A1 n1 A2 n2)
 clear hE2 h1 h2 hcw hrl hop hxo HDR hb1 HT_0
 go_wp2_with fail
 generalize (w1.alloc (oC c A1 n1 A2 n2)) = w2 at *
 have hS := clientHear_s c _ frm L ln l w2 HVC_2.out HRL_2.out HCW.out HOP.out (by omega)
 rw [HXO.out] at hS
 refine hS.mono ?_
 clear hS
 rintro e w3 ⟨v3, rfl, co3, hb3⟩
 have HE_3 := Lib.hid (HE_2.out.trans ((hb3).mono HE_2.out.size)); have hs_3 := HE_3.out.size
 have HT_3 := Lib.hid (HT_2.out.below hb3 htp_2); have htp_3 := HT_3.out.pos
 have HVC_3 := Lib.hid (HVC_2.out.ext hb3)
 have HRL_3 := Lib.hid (HRL_2.out.ext hb3)
 have HBC_3 := Lib.hid (((hb3).block _ (blk_lt HBC_2.out)).trans HBC_2.out)
 clear HE_2 HT_2 HVC_2 HRL_2 HBC_2
 obtain ⟨B1, m1, B2, m2, rfl, g1, g2⟩ := co3.cv
 have hE4 : Ext w3 (w3.alloc (oC x B1 m1 B2 m2)) := (Below.refl _ _).alloc (Nat.le_refl _) _
 have HWW_4 : Hid (CV (w3.alloc (oC x B1 m1 B2 m2)) x (.agg (cC x B1 m1 B2 m2))) := ⟨B1, m1, B2, m2, rfl, g1.ext hE4, g2.ext hE4⟩
 have HBW_4 := Lib.hid (World.alloc_heap_new w3 (oC x B1 m1 B2 m2))
 have hz_4 := alloc_sz w3 (oC x B1 m1 B2 m2)
 have HE_4 := Lib.hid (HE_3.out.trans ((hE4).mono HE_3.out.size)); have hs_4 := HE_4.out.size
 have HT_4 := Lib.hid (HT_3.out.below hE4 htp_3); have htp_4 := HT_4.out.pos
 have HVC_4 := Lib.hid (HVC_3.out.ext hE4)
 have HRL_4 := Lib.hid (HRL_3.out.ext hE4)
 have HBC_4 := Lib.hid (((hE4).block _ (blk_lt HBC_3.out)).trans HBC_3.out)
 clear HE_3 HT_3 HVC_3 HRL_3 HBC_3
 clear hE4 g1 g2
 obtain ⟨c00, c01, c02, c03, c04, c05, c0f⟩ := six_cells HBC_4.out
 go_wp2_with fail
 generalize (w3.alloc (oC x B1 m1 B2 m2)) = w4 at *
 clear hb3 co3
 clear c00 c01 c02 c03 c04 c05 c0f
 have hS := clientHear_c c _ frm L ln l w4 HT_4.out HVC_4.out HRL_4.out
 rw [HXO.out] at hS
 refine hS.mono ?_
 clear hS
 rintro e w5 ⟨v5, rfl, co5, hb5⟩
 have HE_5 := Lib.hid (HE_4.out.trans ((hb5).mono HE_4.out.size)); have hs_5 := HE_5.out.size
 have HT_5 := Lib.hid (HT_4.out.below hb5 htp_4); have htp_5 := HT_5.out.pos
 have HVC_5 := Lib.hid (HVC_4.out.ext hb5)
 have HRL_5 := Lib.hid (HRL_4.out.ext hb5)
 have HBC_5 := Lib.hid (((hb5).block _ (blk_lt HBC_4.out)).trans HBC_4.out)
 have HWW_5 := Lib.hid (HWW_4.out.ext hb5)
 have HBW_5 := Lib.hid (((hb5).block _ (blk_lt HBW_4.out)).trans HBW_4.out)
 clear HE_4 HT_4 HVC_4 HRL_4 HBC_4 HWW_4 HBW_4
 obtain ⟨D1, k1, D2, k2, rfl, g1, g2⟩ := co5.cv
 have hE6 : Ext w5 (w5.alloc (oC x D1 k1 D2 k2)) := (Below.refl _ _).alloc (Nat.le_refl _) _
 have HWX_6 : Hid (CV (w5.alloc (oC x D1 k1 D2 k2)) x (.agg (cC x D1 k1 D2 k2))) := ⟨D1, k1, D2, k2, rfl, g1.ext hE6, g2.ext hE6⟩
 have HBX_6 := Lib.hid (World.alloc_heap_new w5 (oC x D1 k1 D2 k2))
 have hz_6 := alloc_sz w5 (oC x D1 k1 D2 k2)
 have HE_6 := Lib.hid (HE_5.out.trans ((hE6).mono HE_5.out.size)); have hs_6 := HE_6.out.size
 have HT_6 := Lib.hid (HT_5.out.below hE6 htp_5); have htp_6 := HT_6.out.pos
 have HVC_6 := Lib.hid (HVC_5.out.ext hE6)
 have HRL_6 := Lib.hid (HRL_5.out.ext hE6)
 have HBC_6 := Lib.hid (((hE6).block _ (blk_lt HBC_5.out)).trans HBC_5.out)
 have HWW_6 := Lib.hid (HWW_5.out.ext hE6)
 have HBW_6 := Lib.hid (((hE6).block _ (blk_lt HBW_5.out)).trans HBW_5.out)
 clear HE_5 HT_5 HVC_5 HRL_5 HBC_5 HWW_5 HBW_5
 clear hE6 g1 g2
 clear hb5 co5
 obtain ⟨c00, c01, c02, c03, c04, c05, c0f⟩ := six_cells HBC_6.out
 obtain ⟨c10, c11, c12, c13, c14, c15, c1f⟩ := six_cells HBW_6.out
 obtain ⟨c20, c21, c22, c23, c24, c25, c2f⟩ := six_cells HBX_6.out
 go_wp2_with fail
 generalize (w5.alloc (oC x D1 k1 D2 k2)) = w6 at *
 clear c00 c01 c02 c03 c04 c05 c0f c10 c11 c12 c13 c14 c15 c1f c20 c21 c22 c23 c24 c25 c2f
 have hS := lpClient_c x x _ _ w6 HWX_6.out HWW_6.out
 rw [clientEq_self] at hS
 refine hS.mono ?_
 clear hS
 rintro e w7 ⟨rfl, hb7⟩
 have HE_7 := Lib.hid (HE_6.out.trans ((hb7).mono HE_6.out.size)); have hs_7 := HE_7.out.size
 have HT_7 := Lib.hid (HT_6.out.below hb7 htp_6); have htp_7 := HT_7.out.pos
 have HVC_7 := Lib.hid (HVC_6.out.ext hb7)
 have HRL_7 := Lib.hid (HRL_6.out.ext hb7)
 have HBC_7 := Lib.hid (((hb7).block _ (blk_lt HBC_6.out)).trans HBC_6.out)
 have HWW_7 := Lib.hid (HWW_6.out.ext hb7)
 have HBW_7 := Lib.hid (((hb7).block _ (blk_lt HBW_6.out)).trans HBW_6.out)
 have HWX_7 := Lib.hid (HWX_6.out.ext hb7)
 have HBX_7 := Lib.hid (((hb7).block _ (blk_lt HBX_6.out)).trans HBX_6.out)
 clear HE_6 HT_6 HVC_6 HRL_6 HBC_6 HWW_6 HBW_6 HWX_6 HBX_6
 clear hb7
 obtain ⟨c00, c01, c02, c03, c04, c05, c0f⟩ := six_cells HBC_7.out
 obtain ⟨c10, c11, c12, c13, c14, c15, c1f⟩ := six_cells HBW_7.out
 obtain ⟨c20, c21, c22, c23, c24, c25, c2f⟩ := six_cells HBX_7.out
 go_wp2_with fail
 clear c00 c01 c02 c03 c04 c05 c0f c10 c11 c12 c13 c14 c15 c1f c20 c21 c22 c23 c24 c25 c2f
 have hS := clientOk_s c _ w7 HVC_7.out HCW.out
 refine hS.mono ?_
 clear hS
 rintro e w8 ⟨rfl, hb8⟩
 have HE_8 := Lib.hid (HE_7.out.trans ((hb8).mono HE_7.out.size)); have hs_8 := HE_8.out.size
 have HT_8 := Lib.hid (HT_7.out.below hb8 htp_7); have htp_8 := HT_8.out.pos
 have HVC_8 := Lib.hid (HVC_7.out.ext hb8)
 have HRL_8 := Lib.hid (HRL_7.out.ext hb8)
 have HBC_8 := Lib.hid (((hb8).block _ (blk_lt HBC_7.out)).trans HBC_7.out)
 have HWW_8 := Lib.hid (HWW_7.out.ext hb8)
 have HBW_8 := Lib.hid (((hb8).block _ (blk_lt HBW_7.out)).trans HBW_7.out)
 have HWX_8 := Lib.hid (HWX_7.out.ext hb8)
 have HBX_8 := Lib.hid (((hb8).block _ (blk_lt HBX_7.out)).trans HBX_7.out)
 clear HE_7 HT_7 HVC_7 HRL_7 HBC_7 HWW_7 HBW_7 HWX_7 HBX_7
 clear hb8
 cases hok : clientOk c
 ·
  clear hok
  obtain ⟨c00, c01, c02, c03, c04, c05, c0f⟩ := six_cells HBC_8.out
  obtain ⟨c10, c11, c12, c13, c14, c15, c1f⟩ := six_cells HBW_8.out
  obtain ⟨c20, c21, c22, c23, c24, c25, c2f⟩ := six_cells HBX_8.out
  go_wp2_with fail
  clear c00 c01 c02 c03 c04 c05 c0f c10 c11 c12 c13 c14 c15 c1f c20 c21 c22 c23 c24 c25 c2f
  have hS := lpClient_c x x _ _ w8 HWX_8.out HWW_8.out
  rw [clientEq_self] at hS
  refine hS.mono ?_
  clear hS
  rintro e w9 ⟨rfl, hb9⟩
  have HE_9 := Lib.hid (HE_8.out.trans ((hb9).mono HE_8.out.size)); have hs_9 := HE_9.out.size
  have HT_9 := Lib.hid (HT_8.out.below hb9 htp_8); have htp_9 := HT_9.out.pos
  have HVC_9 := Lib.hid (HVC_8.out.ext hb9)
  have HRL_9 := Lib.hid (HRL_8.out.ext hb9)
  have HBC_9 := Lib.hid (((hb9).block _ (blk_lt HBC_8.out)).trans HBC_8.out)
  have HWW_9 := Lib.hid (HWW_8.out.ext hb9)
  have HBW_9 := Lib.hid (((hb9).block _ (blk_lt HBW_8.out)).trans HBW_8.out)
  have HWX_9 := Lib.hid (HWX_8.out.ext hb9)
  have HBX_9 := Lib.hid (((hb9).block _ (blk_lt HBX_8.out)).trans HBX_8.out)
  clear HE_8 HT_8 HVC_8 HRL_8 HBC_8 HWW_8 HBW_8 HWX_8 HBX_8
  clear hb9
  go_wp2_with fail
  go_ret
  exact ⟨rfl, HE_9.out⟩
 have hsn := (clientOk_parts hok).2.1
 by_cases h40 : (40 : Int) ≤ c.seen
 ·
  clear hok hsn
  obtain ⟨c00, c01, c02, c03, c04, c05, c0f⟩ := six_cells HBC_8.out
  obtain ⟨c10, c11, c12, c13, c14, c15, c1f⟩ := six_cells HBW_8.out
  obtain ⟨c20, c21, c22, c23, c24, c25, c2f⟩ := six_cells HBX_8.out
  go_wp2_with fail
  clear c00 c01 c02 c03 c04 c05 c0f c10 c11 c12 c13 c14 c15 c1f c20 c21 c22 c23 c24 c25 c2f
  have hS := lpClient_c x x _ _ w8 HWX_8.out HWW_8.out
  rw [clientEq_self] at hS
  refine hS.mono ?_
  clear hS
  rintro e w9 ⟨rfl, hb9⟩
  have HE_9 := Lib.hid (HE_8.out.trans ((hb9).mono HE_8.out.size)); have hs_9 := HE_9.out.size
  have HT_9 := Lib.hid (HT_8.out.below hb9 htp_8); have htp_9 := HT_9.out.pos
  have HVC_9 := Lib.hid (HVC_8.out.ext hb9)
  have HRL_9 := Lib.hid (HRL_8.out.ext hb9)
  have HBC_9 := Lib.hid (((hb9).block _ (blk_lt HBC_8.out)).trans HBC_8.out)
  have HWW_9 := Lib.hid (HWW_8.out.ext hb9)
  have HBW_9 := Lib.hid (((hb9).block _ (blk_lt HBW_8.out)).trans HBW_8.out)
  have HWX_9 := Lib.hid (HWX_8.out.ext hb9)
  have HBX_9 := Lib.hid (((hb9).block _ (blk_lt HBX_8.out)).trans HBX_8.out)
  clear HE_8 HT_8 HVC_8 HRL_8 HBC_8 HWW_8 HBW_8 HWX_8 HBX_8
  clear hb9
  go_wp2_with fail
  go_ret
  exact ⟨rfl, HE_9.out⟩
 obtain ⟨y, hy⟩ : ∃ y, clientHear c (c.seen + 1) l = (y, false) := hear_gap hok (by omega)
 have hyb := hear_none hok (frm := c.seen + 1) (l := l) (by rw [hy])
 rw [hy] at hyb
 dsimp only at hyb
 have hxb : ok = true ∨ clientEq x c = true ∨ x.base = [] := by
  cases hq : ok
  ·have h9 := hear_none hok (frm := frm) (l := l) (by rw [HXO.out]; exact hq)
   rw [HXO.out] at h9
   exact .inr h9
  ·exact .inl rfl
 have HY := Lib.hid hy; have HYB := Lib.hid hyb; have HXB := Lib.hid hxb
 have hsw : IntKind.i64.wrap (c.seen + 1) = c.seen + 1 := by rw [IntKind.wrap_i64]; omega
 clear hok hy hyb hxb
 obtain ⟨c00, c01, c02, c03, c04, c05, c0f⟩ := six_cells HBC_8.out
 obtain ⟨c10, c11, c12, c13, c14, c15, c1f⟩ := six_cells HBW_8.out
 obtain ⟨c20, c21, c22, c23, c24, c25, c2f⟩ := six_cells HBX_8.out
 go_wp2_with fail
 clear c00 c01 c02 c03 c04 c05 c0f c10 c11 c12 c13 c14 c15 c1f c20 c21 c22 c23 c24 c25 c2f
 have hS := clientHear_c c _ (c.seen + 1) L ln l w8 HT_8.out HVC_8.out HRL_8.out
 rw [HY.out] at hS
 refine hS.mono ?_
 clear hS
 rintro e w9 ⟨v9, rfl, co9, hb9⟩
 have HE_9 := Lib.hid (HE_8.out.trans ((hb9).mono HE_8.out.size)); have hs_9 := HE_9.out.size
 have HT_9 := Lib.hid (HT_8.out.below hb9 htp_8); have htp_9 := HT_9.out.pos
 have HVC_9 := Lib.hid (HVC_8.out.ext hb9)
 have HRL_9 := Lib.hid (HRL_8.out.ext hb9)
 have HBC_9 := Lib.hid (((hb9).block _ (blk_lt HBC_8.out)).trans HBC_8.out)
 have HWW_9 := Lib.hid (HWW_8.out.ext hb9)
 have HBW_9 := Lib.hid (((hb9).block _ (blk_lt HBW_8.out)).trans HBW_8.out)
 have HWX_9 := Lib.hid (HWX_8.out.ext hb9)
 have HBX_9 := Lib.hid (((hb9).block _ (blk_lt HBX_8.out)).trans HBX_8.out)
 clear HE_8 HT_8 HVC_8 HRL_8 HBC_8 HWW_8 HBW_8 HWX_8 HBX_8
 obtain ⟨F1, f1, F2, f2, rfl, g1, g2⟩ := co9.cv
 have hEq : Ext w9 (w9.alloc (oC y F1 f1 F2 f2)) := (Below.refl _ _).alloc (Nat.le_refl _) _
 have HVY_q : Hid (CV (w9.alloc (oC y F1 f1 F2 f2)) y (.agg (cC y F1 f1 F2 f2))) := ⟨F1, f1, F2, f2, rfl, g1.ext hEq, g2.ext hEq⟩
 have HBY_q := Lib.hid (World.alloc_heap_new w9 (oC y F1 f1 F2 f2))
 have hz_q := alloc_sz w9 (oC y F1 f1 F2 f2)
 have HE_q := Lib.hid (HE_9.out.trans ((hEq).mono HE_9.out.size)); have hs_q := HE_q.out.size
 have HT_q := Lib.hid (HT_9.out.below hEq htp_9); have htp_q := HT_q.out.pos
 have HVC_q := Lib.hid (HVC_9.out.ext hEq)
 have HRL_q := Lib.hid (HRL_9.out.ext hEq)
 have HBC_q := Lib.hid (((hEq).block _ (blk_lt HBC_9.out)).trans HBC_9.out)
 have HWW_q := Lib.hid (HWW_9.out.ext hEq)
 have HBW_q := Lib.hid (((hEq).block _ (blk_lt HBW_9.out)).trans HBW_9.out)
 have HWX_q := Lib.hid (HWX_9.out.ext hEq)
 have HBX_q := Lib.hid (((hEq).block _ (blk_lt HBX_9.out)).trans HBX_9.out)
 clear HE_9 HT_9 HVC_9 HRL_9 HBC_9 HWW_9 HBW_9 HWX_9 HBX_9
 clear hEq g1 g2
 clear hb9 co9 hsw h40
 have hll : l.length = 0 ∨ 0 < l.length := by omega
 rcases hll with hll | hll
 ·
  obtain ⟨c00, c01, c02, c03, c04, c05, c0f⟩ := six_cells HBX_q.out
  obtain ⟨c10, c11, c12, c13, c14, c15, c1f⟩ := six_cells HBY_q.out
  obtain ⟨c20, c21, c22, c23, c24, c25, c2f⟩ := six_cells HBC_q.out
  go_wp2_with fail
  generalize (w9.alloc (oC y F1 f1 F2 f2)) = wq at *
  clear c00 c01 c02 c03 c04 c05 c0f c10 c11 c12 c13 c14 c15 c1f c20 c21 c22 c23 c24 c25 c2f
  have hS := lpClient_c y c _ _ wq HVY_q.out HVC_q.out
  refine hS.mono ?_
  clear hS
  rintro e wr ⟨rfl, hbr⟩
  have HE_r := Lib.hid (HE_q.out.trans ((hbr).mono HE_q.out.size)); have hs_r := HE_r.out.size
  have HT_r := Lib.hid (HT_q.out.below hbr htp_q); have htp_r := HT_r.out.pos
  have HVC_r := Lib.hid (HVC_q.out.ext hbr)
  have HRL_r := Lib.hid (HRL_q.out.ext hbr)
  have HBC_r := Lib.hid (((hbr).block _ (blk_lt HBC_q.out)).trans HBC_q.out)
  have HWW_r := Lib.hid (HWW_q.out.ext hbr)
  have HBW_r := Lib.hid (((hbr).block _ (blk_lt HBW_q.out)).trans HBW_q.out)
  have HWX_r := Lib.hid (HWX_q.out.ext hbr)
  have HBX_r := Lib.hid (((hbr).block _ (blk_lt HBX_q.out)).trans HBX_q.out)
  have HVY_r := Lib.hid (HVY_q.out.ext hbr)
  have HBY_r := Lib.hid (((hbr).block _ (blk_lt HBY_q.out)).trans HBY_q.out)
  clear HE_q HT_q HVC_q HRL_q HBC_q HWW_q HBW_q HWX_q HBX_q HVY_q HBY_q
  clear hbr
  have hyq : clientEq y c = true ∨ (clientEq y c = false ∧ y.base.length = 0) := by
   have h := HYB.out
   cases hq : clientEq y c
   ·rw [hq] at h
    exact .inr ⟨rfl, by rw [h.resolve_left (by decide)]; rfl⟩
   ·exact .inl rfl
  have hoc : ok = true ∨ ok = false := by cases ok <;> simp
  rcases hyq with hyq | ⟨hyq, hyl⟩ <;> rcases hoc with rfl | rfl
  ·
   obtain ⟨c00, c01, c02, c03, c04, c05, c0f⟩ := six_cells HBX_r.out
   obtain ⟨c10, c11, c12, c13, c14, c15, c1f⟩ := six_cells HBY_r.out
   obtain ⟨c20, c21, c22, c23, c24, c25, c2f⟩ := six_cells HBC_r.out
   go_wp2_with fail
   go_ret
   exact ⟨rfl, HE_r.out⟩
  ·
   obtain ⟨c00, c01, c02, c03, c04, c05, c0f⟩ := six_cells HBX_r.out
   obtain ⟨c10, c11, c12, c13, c14, c15, c1f⟩ := six_cells HBY_r.out
   obtain ⟨c20, c21, c22, c23, c24, c25, c2f⟩ := six_cells HBC_r.out
   go_wp2_with fail
   clear c00 c01 c02 c03 c04 c05 c0f c10 c11 c12 c13 c14 c15 c1f c20 c21 c22 c23 c24 c25 c2f
   have hS := lpClient_c x c _ _ wr HWX_r.out HVC_r.out
   refine hS.mono ?_
   clear hS
   rintro e ws ⟨rfl, hbs⟩
   have HE_s := Lib.hid (HE_r.out.trans ((hbs).mono HE_r.out.size)); have hs_s := HE_s.out.size
   have HT_s := Lib.hid (HT_r.out.below hbs htp_r); have htp_s := HT_s.out.pos
   have HVC_s := Lib.hid (HVC_r.out.ext hbs)
   have HRL_s := Lib.hid (HRL_r.out.ext hbs)
   have HBC_s := Lib.hid (((hbs).block _ (blk_lt HBC_r.out)).trans HBC_r.out)
   have HWW_s := Lib.hid (HWW_r.out.ext hbs)
   have HBW_s := Lib.hid (((hbs).block _ (blk_lt HBW_r.out)).trans HBW_r.out)
   have HWX_s := Lib.hid (HWX_r.out.ext hbs)
   have HBX_s := Lib.hid (((hbs).block _ (blk_lt HBX_r.out)).trans HBX_r.out)
   have HVY_s := Lib.hid (HVY_r.out.ext hbs)
   have HBY_s := Lib.hid (((hbs).block _ (blk_lt HBY_r.out)).trans HBY_r.out)
   clear HE_r HT_r HVC_r HRL_r HBC_r HWW_r HBW_r HWX_r HBX_r HVY_r HBY_r
   clear hbs
   have hxq : clientEq x c = true ∨ (clientEq x c = false ∧ x.base.length = 0) := by
    have h := HXB.out.resolve_left (by decide)
    cases hq : clientEq x c
    ·rw [hq] at h
     exact .inr ⟨rfl, by rw [h.resolve_left (by decide)]; rfl⟩
    ·exact .inl rfl
   rcases hxq with hxq | ⟨hxq, hxl⟩
   ·
    obtain ⟨c00, c01, c02, c03, c04, c05, c0f⟩ := six_cells HBX_s.out
    obtain ⟨c10, c11, c12, c13, c14, c15, c1f⟩ := six_cells HBY_s.out
    obtain ⟨c20, c21, c22, c23, c24, c25, c2f⟩ := six_cells HBC_s.out
    go_wp2_with fail
    go_ret
    exact ⟨rfl, HE_s.out⟩
   ·
    obtain ⟨c00, c01, c02, c03, c04, c05, c0f⟩ := six_cells HBX_s.out
    obtain ⟨c10, c11, c12, c13, c14, c15, c1f⟩ := six_cells HBY_s.out
    obtain ⟨c20, c21, c22, c23, c24, c25, c2f⟩ := six_cells HBC_s.out
    go_wp2_with fail
    go_ret
    exact ⟨rfl, HE_s.out⟩
  ·
   obtain ⟨c00, c01, c02, c03, c04, c05, c0f⟩ := six_cells HBX_r.out
   obtain ⟨c10, c11, c12, c13, c14, c15, c1f⟩ := six_cells HBY_r.out
   obtain ⟨c20, c21, c22, c23, c24, c25, c2f⟩ := six_cells HBC_r.out
   go_wp2_with fail
   go_ret
   exact ⟨rfl, HE_r.out⟩
  ·
   obtain ⟨c00, c01, c02, c03, c04, c05, c0f⟩ := six_cells HBX_r.out
   obtain ⟨c10, c11, c12, c13, c14, c15, c1f⟩ := six_cells HBY_r.out
   obtain ⟨c20, c21, c22, c23, c24, c25, c2f⟩ := six_cells HBC_r.out
   go_wp2_with fail
   clear c00 c01 c02 c03 c04 c05 c0f c10 c11 c12 c13 c14 c15 c1f c20 c21 c22 c23 c24 c25 c2f
   have hS := lpClient_c x c _ _ wr HWX_r.out HVC_r.out
   refine hS.mono ?_
   clear hS
   rintro e ws ⟨rfl, hbs⟩
   have HE_s := Lib.hid (HE_r.out.trans ((hbs).mono HE_r.out.size)); have hs_s := HE_s.out.size
   have HT_s := Lib.hid (HT_r.out.below hbs htp_r); have htp_s := HT_s.out.pos
   have HVC_s := Lib.hid (HVC_r.out.ext hbs)
   have HRL_s := Lib.hid (HRL_r.out.ext hbs)
   have HBC_s := Lib.hid (((hbs).block _ (blk_lt HBC_r.out)).trans HBC_r.out)
   have HWW_s := Lib.hid (HWW_r.out.ext hbs)
   have HBW_s := Lib.hid (((hbs).block _ (blk_lt HBW_r.out)).trans HBW_r.out)
   have HWX_s := Lib.hid (HWX_r.out.ext hbs)
   have HBX_s := Lib.hid (((hbs).block _ (blk_lt HBX_r.out)).trans HBX_r.out)
   have HVY_s := Lib.hid (HVY_r.out.ext hbs)
   have HBY_s := Lib.hid (((hbs).block _ (blk_lt HBY_r.out)).trans HBY_r.out)
   clear HE_r HT_r HVC_r HRL_r HBC_r HWW_r HBW_r HWX_r HBX_r HVY_r HBY_r
   clear hbs
   have hxq : clientEq x c = true ∨ (clientEq x c = false ∧ x.base.length = 0) := by
    have h := HXB.out.resolve_left (by decide)
    cases hq : clientEq x c
    ·rw [hq] at h
     exact .inr ⟨rfl, by rw [h.resolve_left (by decide)]; rfl⟩
    ·exact .inl rfl
   rcases hxq with hxq | ⟨hxq, hxl⟩
   ·
    obtain ⟨c00, c01, c02, c03, c04, c05, c0f⟩ := six_cells HBX_s.out
    obtain ⟨c10, c11, c12, c13, c14, c15, c1f⟩ := six_cells HBY_s.out
    obtain ⟨c20, c21, c22, c23, c24, c25, c2f⟩ := six_cells HBC_s.out
    go_wp2_with fail
    go_ret
    exact ⟨rfl, HE_s.out⟩
   ·
    obtain ⟨c00, c01, c02, c03, c04, c05, c0f⟩ := six_cells HBX_s.out
    obtain ⟨c10, c11, c12, c13, c14, c15, c1f⟩ := six_cells HBY_s.out
    obtain ⟨c20, c21, c22, c23, c24, c25, c2f⟩ := six_cells HBC_s.out
    go_wp2_with fail
    go_ret
    exact ⟨rfl, HE_s.out⟩
 ·
  have hlz : (0 : Int) < (l.length : Int) := by omega
  obtain ⟨bL, oL, rfl, hbL, hcL⟩ := HRL_q.out.at_ 0 hll
  have hc0 := hcL 0 _ rfl; have hc1 := hcL 1 _ rfl; have hc2 := hcL 2 _ rfl; have hc3 := hcL 3 _ rfl; have hc4 := hcL 4 _ rfl; have hc5 := hcL 5 _ rfl; have hc6 := hcL 6 _ rfl
  simp only [Nat.zero_mul, Nat.zero_add, Nat.add_zero] at hc0 hc1 hc2 hc3 hc4 hc5 hc6
  clear hcL
  go_wp2_with fail
  generalize (w9.alloc (oC y F1 f1 F2 f2)) = wq at *
  clear hc0 hc1 hc2 hc3 hc4 hc5 hc6
  have hS := entryOk_c l[0] wq HT_q.out (HRL_q.out.okAt 0 hll)
  refine hS.mono ?_
  clear hS
  rintro e wp ⟨rfl, hbp⟩
  have HE_p := Lib.hid (HE_q.out.trans ((hbp).mono HE_q.out.size)); have hs_p := HE_p.out.size
  have HT_p := Lib.hid (HT_q.out.below hbp htp_q); have htp_p := HT_p.out.pos
  have HVC_p := Lib.hid (HVC_q.out.ext hbp)
  have HRL_p := Lib.hid (HRL_q.out.ext hbp)
  have HBC_p := Lib.hid (((hbp).block _ (blk_lt HBC_q.out)).trans HBC_q.out)
  have HWW_p := Lib.hid (HWW_q.out.ext hbp)
  have HBW_p := Lib.hid (((hbp).block _ (blk_lt HBW_q.out)).trans HBW_q.out)
  have HWX_p := Lib.hid (HWX_q.out.ext hbp)
  have HBX_p := Lib.hid (((hbp).block _ (blk_lt HBX_q.out)).trans HBX_q.out)
  have HVY_p := Lib.hid (HVY_q.out.ext hbp)
  have HBY_p := Lib.hid (((hbp).block _ (blk_lt HBY_q.out)).trans HBY_q.out)
  clear HE_q HT_q HVC_q HRL_q HBC_q HWW_q HBW_q HWX_q HBX_q HVY_q HBY_q
  clear hbp
  cases hq0 : entryOk l[0]
  ·
   go_wp2_with fail
   go_ret
   exact ⟨rfl, HE_p.out⟩
  ·
   obtain ⟨c00, c01, c02, c03, c04, c05, c0f⟩ := six_cells HBX_p.out
   obtain ⟨c10, c11, c12, c13, c14, c15, c1f⟩ := six_cells HBY_p.out
   obtain ⟨c20, c21, c22, c23, c24, c25, c2f⟩ := six_cells HBC_p.out
   go_wp2_with fail
   clear c00 c01 c02 c03 c04 c05 c0f c10 c11 c12 c13 c14 c15 c1f c20 c21 c22 c23 c24 c25 c2f
   have hS := lpClient_c y c _ _ wp HVY_p.out HVC_p.out
   refine hS.mono ?_
   clear hS
   rintro e wr ⟨rfl, hbr⟩
   have HE_r := Lib.hid (HE_p.out.trans ((hbr).mono HE_p.out.size)); have hs_r := HE_r.out.size
   have HT_r := Lib.hid (HT_p.out.below hbr htp_p); have htp_r := HT_r.out.pos
   have HVC_r := Lib.hid (HVC_p.out.ext hbr)
   have HRL_r := Lib.hid (HRL_p.out.ext hbr)
   have HBC_r := Lib.hid (((hbr).block _ (blk_lt HBC_p.out)).trans HBC_p.out)
   have HWW_r := Lib.hid (HWW_p.out.ext hbr)
   have HBW_r := Lib.hid (((hbr).block _ (blk_lt HBW_p.out)).trans HBW_p.out)
   have HWX_r := Lib.hid (HWX_p.out.ext hbr)
   have HBX_r := Lib.hid (((hbr).block _ (blk_lt HBX_p.out)).trans HBX_p.out)
   have HVY_r := Lib.hid (HVY_p.out.ext hbr)
   have HBY_r := Lib.hid (((hbr).block _ (blk_lt HBY_p.out)).trans HBY_p.out)
   clear HE_p HT_p HVC_p HRL_p HBC_p HWW_p HBW_p HWX_p HBX_p HVY_p HBY_p
   clear hbr
   have hyq : clientEq y c = true ∨ (clientEq y c = false ∧ y.base.length = 0) := by
    have h := HYB.out
    cases hq : clientEq y c
    ·rw [hq] at h
     exact .inr ⟨rfl, by rw [h.resolve_left (by decide)]; rfl⟩
    ·exact .inl rfl
   have hoc : ok = true ∨ ok = false := by cases ok <;> simp
   rcases hyq with hyq | ⟨hyq, hyl⟩ <;> rcases hoc with rfl | rfl
   ·
    obtain ⟨c00, c01, c02, c03, c04, c05, c0f⟩ := six_cells HBX_r.out
    obtain ⟨c10, c11, c12, c13, c14, c15, c1f⟩ := six_cells HBY_r.out
    obtain ⟨c20, c21, c22, c23, c24, c25, c2f⟩ := six_cells HBC_r.out
    go_wp2_with fail
    go_ret
    exact ⟨rfl, HE_r.out⟩
   ·
    obtain ⟨c00, c01, c02, c03, c04, c05, c0f⟩ := six_cells HBX_r.out
    obtain ⟨c10, c11, c12, c13, c14, c15, c1f⟩ := six_cells HBY_r.out
    obtain ⟨c20, c21, c22, c23, c24, c25, c2f⟩ := six_cells HBC_r.out
    go_wp2_with fail
    clear c00 c01 c02 c03 c04 c05 c0f c10 c11 c12 c13 c14 c15 c1f c20 c21 c22 c23 c24 c25 c2f
    have hS := lpClient_c x c _ _ wr HWX_r.out HVC_r.out
    refine hS.mono ?_
    clear hS
    rintro e ws ⟨rfl, hbs⟩
    have HE_s := Lib.hid (HE_r.out.trans ((hbs).mono HE_r.out.size)); have hs_s := HE_s.out.size
    have HT_s := Lib.hid (HT_r.out.below hbs htp_r); have htp_s := HT_s.out.pos
    have HVC_s := Lib.hid (HVC_r.out.ext hbs)
    have HRL_s := Lib.hid (HRL_r.out.ext hbs)
    have HBC_s := Lib.hid (((hbs).block _ (blk_lt HBC_r.out)).trans HBC_r.out)
    have HWW_s := Lib.hid (HWW_r.out.ext hbs)
    have HBW_s := Lib.hid (((hbs).block _ (blk_lt HBW_r.out)).trans HBW_r.out)
    have HWX_s := Lib.hid (HWX_r.out.ext hbs)
    have HBX_s := Lib.hid (((hbs).block _ (blk_lt HBX_r.out)).trans HBX_r.out)
    have HVY_s := Lib.hid (HVY_r.out.ext hbs)
    have HBY_s := Lib.hid (((hbs).block _ (blk_lt HBY_r.out)).trans HBY_r.out)
    clear HE_r HT_r HVC_r HRL_r HBC_r HWW_r HBW_r HWX_r HBX_r HVY_r HBY_r
    clear hbs
    have hxq : clientEq x c = true ∨ (clientEq x c = false ∧ x.base.length = 0) := by
     have h := HXB.out.resolve_left (by decide)
     cases hq : clientEq x c
     ·rw [hq] at h
      exact .inr ⟨rfl, by rw [h.resolve_left (by decide)]; rfl⟩
     ·exact .inl rfl
    rcases hxq with hxq | ⟨hxq, hxl⟩
    ·
     obtain ⟨c00, c01, c02, c03, c04, c05, c0f⟩ := six_cells HBX_s.out
     obtain ⟨c10, c11, c12, c13, c14, c15, c1f⟩ := six_cells HBY_s.out
     obtain ⟨c20, c21, c22, c23, c24, c25, c2f⟩ := six_cells HBC_s.out
     go_wp2_with fail
     go_ret
     exact ⟨rfl, HE_s.out⟩
    ·
     obtain ⟨c00, c01, c02, c03, c04, c05, c0f⟩ := six_cells HBX_s.out
     obtain ⟨c10, c11, c12, c13, c14, c15, c1f⟩ := six_cells HBY_s.out
     obtain ⟨c20, c21, c22, c23, c24, c25, c2f⟩ := six_cells HBC_s.out
     go_wp2_with fail
     go_ret
     exact ⟨rfl, HE_s.out⟩
   ·
    obtain ⟨c00, c01, c02, c03, c04, c05, c0f⟩ := six_cells HBX_r.out
    obtain ⟨c10, c11, c12, c13, c14, c15, c1f⟩ := six_cells HBY_r.out
    obtain ⟨c20, c21, c22, c23, c24, c25, c2f⟩ := six_cells HBC_r.out
    go_wp2_with fail
    go_ret
    exact ⟨rfl, HE_r.out⟩
   ·
    obtain ⟨c00, c01, c02, c03, c04, c05, c0f⟩ := six_cells HBX_r.out
    obtain ⟨c10, c11, c12, c13, c14, c15, c1f⟩ := six_cells HBY_r.out
    obtain ⟨c20, c21, c22, c23, c24, c25, c2f⟩ := six_cells HBC_r.out
    go_wp2_with fail
    clear c00 c01 c02 c03 c04 c05 c0f c10 c11 c12 c13 c14 c15 c1f c20 c21 c22 c23 c24 c25 c2f
    have hS := lpClient_c x c _ _ wr HWX_r.out HVC_r.out
    refine hS.mono ?_
    clear hS
    rintro e ws ⟨rfl, hbs⟩
    have HE_s := Lib.hid (HE_r.out.trans ((hbs).mono HE_r.out.size)); have hs_s := HE_s.out.size
    have HT_s := Lib.hid (HT_r.out.below hbs htp_r); have htp_s := HT_s.out.pos
    have HVC_s := Lib.hid (HVC_r.out.ext hbs)
    have HRL_s := Lib.hid (HRL_r.out.ext hbs)
    have HBC_s := Lib.hid (((hbs).block _ (blk_lt HBC_r.out)).trans HBC_r.out)
    have HWW_s := Lib.hid (HWW_r.out.ext hbs)
    have HBW_s := Lib.hid (((hbs).block _ (blk_lt HBW_r.out)).trans HBW_r.out)
    have HWX_s := Lib.hid (HWX_r.out.ext hbs)
    have HBX_s := Lib.hid (((hbs).block _ (blk_lt HBX_r.out)).trans HBX_r.out)
    have HVY_s := Lib.hid (HVY_r.out.ext hbs)
    have HBY_s := Lib.hid (((hbs).block _ (blk_lt HBY_r.out)).trans HBY_r.out)
    clear HE_r HT_r HVC_r HRL_r HBC_r HWW_r HBW_r HWX_r HBX_r HVY_r HBY_r
    clear hbs
    have hxq : clientEq x c = true ∨ (clientEq x c = false ∧ x.base.length = 0) := by
     have h := HXB.out.resolve_left (by decide)
     cases hq : clientEq x c
     ·rw [hq] at h
      exact .inr ⟨rfl, by rw [h.resolve_left (by decide)]; rfl⟩
     ·exact .inl rfl
    rcases hxq with hxq | ⟨hxq, hxl⟩
    ·
     obtain ⟨c00, c01, c02, c03, c04, c05, c0f⟩ := six_cells HBX_s.out
     obtain ⟨c10, c11, c12, c13, c14, c15, c1f⟩ := six_cells HBY_s.out
     obtain ⟨c20, c21, c22, c23, c24, c25, c2f⟩ := six_cells HBC_s.out
     go_wp2_with fail
     go_ret
     exact ⟨rfl, HE_s.out⟩
    ·
     obtain ⟨c00, c01, c02, c03, c04, c05, c0f⟩ := six_cells HBX_s.out
     obtain ⟨c10, c11, c12, c13, c14, c15, c1f⟩ := six_cells HBY_s.out
     obtain ⟨c20, c21, c22, c23, c24, c25, c2f⟩ := six_cells HBC_s.out
     go_wp2_with fail
     go_ret
     exact ⟨rfl, HE_s.out⟩
end Go.Proofs.YtjhbbgeebobcpaaDoor
namespace Go.Proofs.YtjhbbgeebobcpaaDoor.fnHearGap
open Go.RowKit Go.ChangeShapes Go.WideShapes Go.ChangeAt
set_option maxRecDepth 100000 in
theorem contract (H : Type) (enc : TypeId × Value → H) (W : World) (base : Nat) (args : Array Value) (ds gs : List (DataW H)) (before : List MemPlace)
  (hval : ∀ (j : Nat) t v, Tryd.f9.params[j]? = some t → args[j]? = some v → Value.okWide Tryd.prog W .any base t v)
  (hW : DataW.Whole enc Tryd.prog Tryd.f9.params.toList Rows.fnHearGapSpec.vars false W args.toList ds gs before) (hL : laidMetH Tryd.prog Rows.fnHearGapRow.laid W) :
  Calls Tryd.prog 9 args W fun e W' => ∃ v, e = .returned v ∧ Rows.fnHearGapSpec.post enc Tryd.prog Tryd.f9 false true false false W args v W' := by
 have hW' := hW
 obtain ⟨p, q, hA0, hV, rfl, hfz, hnd⟩ := hW
 have hA : DataW.TrodAll enc Tryd.prog W 0 (fun _ => true) true Tryd.f9.params.toList args.toList ds p := hA0
 rw [Tryd.params9] at hA hval
 obtain ⟨v0, vs0, d0, ds0, p0, q0, hargs, rfl, rfl, h0, r0⟩ := trodAll_cons hA
 obtain ⟨rfl, rfl, rfl⟩ := trodAll_nil r0
 obtain rfl : args = #[v0] := by cases args; simp_all
 obtain ⟨g, tg, csg, fg, dg, pg, rfl, _⟩ := trodVars_one hV
 have lt0 : ∀ x ∈ p0, x.block < W.heap.size := by obtain ⟨m, hm⟩ := h0; exact DataW.trod_lt m _ _ _ hm
 obtain ⟨A0, c0, bs0, rfl, hr0, ha0⟩ := arg_bytes (hval 0 22 v0 rfl rfl) h0
 clear hA0
 refine (hearGap_walk A0 c0 bs0 W (tab_of hL) hr0 ha0).mono fun e W' ⟨he, bel⟩ => ?_
 subst he
 exact ⟨_, rfl, _, _, _, [], _, _, hW', trodAll_mk1 (shut_bool Tryd.underlying4 _),
  (trodAll_cons_mk (Below.trod laidOut (by kernel_rfl) (of_decide_eq_true (by kernel_rfl)) h0 bel lt0) trodAll_mk0),
  Below.trodVars laidOut bel (by kernel_rfl) hV, bel.frame _, fun h => by cases h⟩
noncomputable def laidWorld (os : Os) : World :=
 { World.holding Tryd.prog os ⟨#[], #[], []⟩ with heap := (World.holding Tryd.prog os ⟨#[], #[], []⟩).heap.modify 0 fun
   |.cells _ t frozen => .cells (owners.map (Value.int .i64)).toArray t frozen
   |o => o }
theorem laid_met (os : Os) : laidMet Tryd.prog Rows.fnHearGapRow.laid ((laidWorld os).forCall (fun _ _ => 0) ⟨#[], #[.slice none 0 0], []⟩).memory :=
 laidMet_of_run' 8 (by kernel_rfl) (by kernel_rfl)
theorem reads (os : Os) {H : Type} (enc : TypeId × Value → H) : ∃ gs places, DataW.whole enc Tryd.prog ((laidWorld os).forCall (fun _ _ => 0) ⟨#[], #[.slice none 0 0], []⟩).memory Tryd.f9.params.toList Rows.fnHearGapSpec.vars false #[Value.slice none 0 0].toList 8 = some ([.nil], gs, places) :=
 ⟨[Rows.laid_loop_example_plashet_impl_rowOwners], MemPlace.row ⟨0, 0, none⟩ 37, by kernel_rfl⟩
set_option maxRecDepth 100000 in
theorem lifted (os : Os) (started : os.Started) (H : Type) (enc : TypeId × Value → H) (F : Stop.Interp) :
  ReturnsInHanded {} Tryd.checked os 9 .any ((OpenSpec.ofChange Rows.fnHearGapSpec).preRow enc Tryd.prog Tryd.f9 Rows.fnHearGapRow.domain false Rows.fnHearGapRow.laid) (((OpenSpec.ofChange Rows.fnHearGapSpec).at F).post enc Tryd.prog Tryd.f9 false true false false) := by
 obtain ⟨gs, places, hx⟩ := reads os enc
 refine returnsInHanded_of_row (C := Tryd.checked) (s := OpenSpec.ofChange Rows.fnHearGapSpec) own started (by kernel_rfl) Tryd.func9
  (witness_row_at (enc := enc) (C := Tryd.checked) false (laidWorld os) #[.slice none 0 0] rfl (by kernel_rfl) (by kernel_rfl) (by kernel_rfl)
   (OpenSpec.preRow_of_cond 8 hx (by kernel_rfl) (fun k hk => by cases hk) (by kernel_rfl) (laid_met os))) ?_
 intro W base args ds gs before hval hW _ _ _ hL _ _
 exact contract H enc W base args ds gs before hval hW hL
theorem said : Rows.FnHearGapSaid :=
 OpenClaim.holds_of_cond 9 Tryd.f9 rfl rfl rfl rfl rfl rfl rfl ⟨rfl, rfl, rfl, rfl, rfl⟩ rfl rfl rfl rfl rfl (by kernel_rfl) Tryd.func9 (by kernel_rfl)
  (of_decide_eq_true (by kernel_rfl)) (by unfold Func.isWrapper; first | (rw [if_pos (by decide +kernel)]; kernel_rfl) | (rw [if_neg (by decide +kernel)]; exact ⟨rfl, rfl⟩))
  (fun os started H enc _ F => by rw [OpenClaim.pre_eq_preRow]; exact lifted os started H enc F)
theorem plain (f : FuncId) (fn : Func) (hf : Tryd.pinned.checked.prog.funcNamed "loop.example/plashet/laws.FnHearGap" = some f) (hfn : Tryd.pinned.checked.prog.funcs[f]? = some fn) :
  true = Tryd.pinned.checked.prog.looks [] ∧ ∀ (j : Nat) t, fn.params[j]? = some t → Tryd.pinned.checked.prog.wantsStandIn t = false := by
 obtain rfl : f = 9 := Option.some.inj ((show Tryd.prog.funcNamed "loop.example/plashet/laws.FnHearGap" = some 9 by kernel_rfl).symm.trans hf) |>.symm
 obtain rfl : fn = Tryd.f9 := (Option.some.inj (Tryd.func9.symm.trans hfn)).symm
 refine ⟨by kernel_rfl, fun j t ht => ?_⟩
 rw [Tryd.params9] at ht
 obtain rfl : t = 22 := by simpa using Array.mem_of_getElem? ht
 exact (show Tryd.prog.wantsStandIn 22 = false by kernel_rfl)
theorem card : Rows.FnHearGapCardSaid :=
 Claim7.holds_tied_plain_at .later [] _ _ _ _ said (fun _ h => by cases h) (by kernel_rfl) (fun _ h => by cases h) fnHearGap_row_tie rfl ⟨rfl, rfl⟩ (by kernel_rfl) rfl plain (by kernel_rfl)
end Go.Proofs.YtjhbbgeebobcpaaDoor.fnHearGap
