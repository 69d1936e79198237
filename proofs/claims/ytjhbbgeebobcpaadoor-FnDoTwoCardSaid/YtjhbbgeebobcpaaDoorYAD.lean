/- The walk of laws.FnDoTwo, over what is drawn. -/
import Derived.Test.YtjhbbgeebobcpaaDoorYAA
import Derived.Test.YtjhbbgeebobcpaaDoorYAC
namespace Go.Proofs.YtjhbbgeebobcpaaDoor
open Go.RowKit Go.Lib
set_option linter.unusedVariables false
set_option linter.unusedSimpArgs false
def opP (kk : Nat) : Op := ⟨2, 11 + (kk : Int), 0, 0, ⟨#[97, 99]⟩⟩
theorem CV.cv {w : World} {c : Client} {v : Value} (h : CV w c v) : CV w c v := h
theorem opOk_P {kk : Nat} (h : kk < 3) : opOk (opP kk) = true := by
 match kk, h with
 |0, _ => decide
 |1, _ => decide
 |2, _ => decide
theorem do_yes {c x : Client} {o : Op} (h : clientDo c o = (x, true)) : clientOk c = true ∧ clientOk x = true ∧ x = ⟨c.who, c.seen, c.base, c.wait ++ [newEnt c o], c.done, if o.kind = 1 then c.made + 1 else c.made⟩ ∧ entryOk (newEnt c o) = true := by
 unfold clientDo at h
 cases hok : clientOk c
 ·rw [hok] at h; cases h
 rw [if_pos hok] at h
 have hx := doS_ok (o := o) hok
 rw [h] at hx
 unfold doS at h
 split at h
 ·next he => cases h; exact ⟨rfl, hx, rfl, he.1⟩
 ·cases h
theorem showL_do {c x : Client} {o : Op} (h : clientDo c o = (x, true)) : showL x = opDo (showL c) o := by
 obtain ⟨h1, h2, h3, -⟩ := do_yes h
 rw [(showL_ok h1).1, (showL_ok h2).1, h3]
 unfold runOps
 rw [List.foldl_append]
 rfl
theorem do_two {c x y : Client} {o : Op} {kk : Nat} {fine : Bool} (h : clientDo c o = (x, true)) (hk : kk < 3) (hy : clientDo x (opP kk) = (y, fine)) :
  0 ≤ c.done ∧ c.done + c.wait.length ≤ 40 ∧ 0 ≤ x.done ∧ x.wait.length ≤ 41 ∧ (fine = false → (40 : Int) < c.done + (c.wait.length : Int) + 2) ∧ (fine = true → showL y = opDo (opDo (showL c) o) (opP kk) ∧ y.wait = x.wait ++ [newEnt x (opP kk)]) := by
 obtain ⟨h1, h2, h3, h4⟩ := do_yes h
 obtain ⟨hw9, hs0, hs40, htr, hd0, hd1, hwl, hm0, hm1, hwt⟩ := clientOk_parts h1
 have hxp := clientOk_parts h2
 refine ⟨hd0, by omega, hxp.2.2.2.2.1, by have := hxp.2.2.2.2.2.2.1; have := hxp.2.2.2.2.1; omega, fun hf => ?_, fun hf => ?_⟩
 ·subst hf
  unfold clientDo at hy
  rw [if_pos h2] at hy
  unfold doS at hy
  split at hy
  ·cases hy
  ·next hn =>
   have hen : entryOk (newEnt x (opP kk)) = false := by
    cases he : entryOk (newEnt x (opP kk))
    ·rfl
    ·exact absurd ⟨he, fun h => by simp [opP] at h⟩ hn
   have hseq : ¬ (1 ≤ (newEnt x (opP kk)).seq ∧ (newEnt x (opP kk)).seq ≤ 40) := fun hq => by
    unfold entryOk at hen
    rw [show isWho (newEnt x (opP kk)).who = true from hxp.1, decide_eq_true hq, show opOk (newEnt x (opP kk)).op = true from opOk_P hk, show decide ((newEnt x (opP kk)).op.kind ≠ 1) = true from by simp [newEnt, opP]] at hen
    simp at hen
   have hx5 : x.done = c.done := by rw [h3]
   have hx6 : x.wait.length = c.wait.length + 1 := by rw [h3]; simp
   simp only [newEnt] at hseq
   rw [hx5, hx6] at hseq
   omega
 ·subst hf
  refine ⟨by rw [showL_do hy, showL_do h], ?_⟩
  rw [(do_yes hy).2.2.1]
set_option maxRecDepth 100000 in
set_option maxHeartbeats 6000000 in
theorem doTwo_walk (A : Option Addr) (n : Nat) (bs : List UInt8) (A' : Option Addr) (n' : Nat) (ms : List UInt8) (w : World) (ht : Tab w) (hr : Rd w A n bs) (hr' : Rd w A' n' ms) (hA : ∀ b off, A = some ⟨b, off, none⟩ → b < w.heap.size) :
  Calls Tryd.prog 11 #[.slice A bs.length n, .slice A' ms.length n'] w fun e w' => e = .returned (.bool true) ∧ Ext w w' := by
 have hm : bs.length ≤ maxLen := Nat.le_trans hr.1 hr.2.1
 unfold maxLen at hm
 have hm' : ms.length ≤ maxLen := Nat.le_trans hr'.1 hr'.2.1
 unfold maxLen at hm'
 clear hr'
 have htp_0 := ht.pos
 have HT_0 := Lib.hid ht
 have HDR := Lib.hid (drawDo_d A n bs w hr hA)
 clear hr hA ht
 go_enter Tryd.func11, Tryd.ntmps11
 by_cases hlong : (1048576 : Int) < bs.length
 ·go_wp2_with fail
  go_ret
  exact ⟨rfl, Below.refl _ _⟩
 by_cases hlong2 : (1048576 : Int) < ms.length
 ·go_wp2_with fail
  go_ret
  exact ⟨rfl, Below.refl _ _⟩
 go_wp2_with fail
 refine HDR.out.mono ?_
 rintro e w1 ⟨c, v, o, rfl, ⟨A1, n1, A2, n2, rfl, h1, h2⟩, hcw, how, hos, hb1⟩
 rw [show o.val = .agg (cO o) from rfl]
 have hs_1 := hb1.size
 have HCW := Lib.hid hcw; have HOP := Lib.hid (⟨how, hos⟩ : _ ∧ _)
 obtain ⟨x, ok, hxo⟩ : ∃ x ok, clientDo c o = (x, ok) := ⟨_, _, rfl⟩
 have HXO := Lib.hid hxo
 have hE2 : Ext w1 ((w1.alloc (oC c A1 n1 A2 n2)).alloc (oO o)) := ((Below.refl _ _).alloc (Nat.le_refl _) _).alloc (by rw [alloc_sz]; omega) _
 have HE_2 := Lib.hid (hb1.trans (hE2.mono hs_1)); have hs_2 := HE_2.out.size
 have HT_2 := Lib.hid (HT_0.out.below HE_2.out htp_0); have htp_2 := HT_2.out.pos
 have HVC_2 : Hid (CV ((w1.alloc (oC c A1 n1 A2 n2)).alloc (oO o)) c (.agg (cC c A1 n1 A2 n2))) := ⟨A1, n1, A2, n2, rfl, h1.ext hE2, h2.ext hE2⟩
 have h2n := two_new w1 (oC c A1 n1 A2 n2) (oO o)
 have HBC_2 := Lib.hid h2n.1; have HBO_2 := Lib.hid h2n.2
 have hz_2 : ((w1.alloc (oC c A1 n1 A2 n2)).alloc (oO o)).heap.size = w1.heap.size + 1 + 1 := by rw [alloc_sz, alloc_sz]
 clear hE2 h1 h2 h2n hcw how hos hxo HDR hb1 HT_0
 go_wp2_with fail
 generalize ((w1.alloc (oC c A1 n1 A2 n2)).alloc (oO o)) = w2 at *
 have hS := clientDo_s c _ o w2 HVC_2.out HCW.out HOP.out.1 HOP.out.2
 rw [HXO.out] at hS
 refine hS.mono ?_
 clear hS
 rintro e w3 ⟨v3, rfl, co3, hb3⟩
 have HE_3 := Lib.hid (HE_2.out.trans ((hb3).mono HE_2.out.size)); have hs_3 := HE_3.out.size
 have HT_3 := Lib.hid (HT_2.out.below hb3 htp_2); have htp_3 := HT_3.out.pos
 have HVC_3 := Lib.hid (HVC_2.out.ext hb3)
 have HBC_3 := Lib.hid (((hb3).block _ (blk_lt HBC_2.out)).trans HBC_2.out)
 have HBO_3 := Lib.hid (((hb3).block _ (blk_lt HBO_2.out)).trans HBO_2.out)
 clear HE_2 HT_2 HVC_2 HBC_2 HBO_2
 obtain ⟨B1, m1, B2, m2, rfl, g1, g2⟩ := co3.cv
 have hE4 : Ext w3 (w3.alloc (oC x B1 m1 B2 m2)) := (Below.refl _ _).alloc (Nat.le_refl _) _
 have HWW_4 : Hid (CV (w3.alloc (oC x B1 m1 B2 m2)) x (.agg (cC x B1 m1 B2 m2))) := ⟨B1, m1, B2, m2, rfl, g1.ext hE4, g2.ext hE4⟩
 have HBW_4 := Lib.hid (World.alloc_heap_new w3 (oC x B1 m1 B2 m2))
 have hz_4 := alloc_sz w3 (oC x B1 m1 B2 m2)
 have HE_4 := Lib.hid (HE_3.out.trans ((hE4).mono HE_3.out.size)); have hs_4 := HE_4.out.size
 have HT_4 := Lib.hid (HT_3.out.below hE4 htp_3); have htp_4 := HT_4.out.pos
 have HVC_4 := Lib.hid (HVC_3.out.ext hE4)
 have HBC_4 := Lib.hid (((hE4).block _ (blk_lt HBC_3.out)).trans HBC_3.out)
 have HBO_4 := Lib.hid (((hE4).block _ (blk_lt HBO_3.out)).trans HBO_3.out)
 clear HE_3 HT_3 HVC_3 HBC_3 HBO_3
 clear hE4 g1 g2
 obtain ⟨c00, c01, c02, c03, c04, c05, c0f⟩ := six_cells HBC_4.out
 obtain ⟨o0, o1, o2, o3, o4, of⟩ := five_cells HBO_4.out
 go_wp2_with fail
 generalize (w3.alloc (oC x B1 m1 B2 m2)) = w4 at *
 clear hb3 co3
 clear c00 c01 c02 c03 c04 c05 c0f
 clear o0 o1 o2 o3 o4 of
 have hS := clientDo_c c _ o w4 HT_4.out HVC_4.out HOP.out.2
 rw [HXO.out] at hS
 refine hS.mono ?_
 clear hS
 rintro e w5 ⟨v5, rfl, co5, hb5⟩
 have HE_5 := Lib.hid (HE_4.out.trans ((hb5).mono HE_4.out.size)); have hs_5 := HE_5.out.size
 have HT_5 := Lib.hid (HT_4.out.below hb5 htp_4); have htp_5 := HT_5.out.pos
 have HVC_5 := Lib.hid (HVC_4.out.ext hb5)
 have HBC_5 := Lib.hid (((hb5).block _ (blk_lt HBC_4.out)).trans HBC_4.out)
 have HBO_5 := Lib.hid (((hb5).block _ (blk_lt HBO_4.out)).trans HBO_4.out)
 have HWW_5 := Lib.hid (HWW_4.out.ext hb5)
 have HBW_5 := Lib.hid (((hb5).block _ (blk_lt HBW_4.out)).trans HBW_4.out)
 clear HE_4 HT_4 HVC_4 HBC_4 HBO_4 HWW_4 HBW_4
 obtain ⟨D1, k1, D2, k2, rfl, g1, g2⟩ := co5.cv
 have hE6 : Ext w5 (w5.alloc (oC x D1 k1 D2 k2)) := (Below.refl _ _).alloc (Nat.le_refl _) _
 have HWX_6 : Hid (CV (w5.alloc (oC x D1 k1 D2 k2)) x (.agg (cC x D1 k1 D2 k2))) := ⟨D1, k1, D2, k2, rfl, g1.ext hE6, g2.ext hE6⟩
 have HBX_6 := Lib.hid (World.alloc_heap_new w5 (oC x D1 k1 D2 k2))
 have hz_6 := alloc_sz w5 (oC x D1 k1 D2 k2)
 have HE_6 := Lib.hid (HE_5.out.trans ((hE6).mono HE_5.out.size)); have hs_6 := HE_6.out.size
 have HT_6 := Lib.hid (HT_5.out.below hE6 htp_5); have htp_6 := HT_6.out.pos
 have HVC_6 := Lib.hid (HVC_5.out.ext hE6)
 have HBC_6 := Lib.hid (((hE6).block _ (blk_lt HBC_5.out)).trans HBC_5.out)
 have HBO_6 := Lib.hid (((hE6).block _ (blk_lt HBO_5.out)).trans HBO_5.out)
 have HWW_6 := Lib.hid (HWW_5.out.ext hE6)
 have HBW_6 := Lib.hid (((hE6).block _ (blk_lt HBW_5.out)).trans HBW_5.out)
 clear HE_5 HT_5 HVC_5 HBC_5 HBO_5 HWW_5 HBW_5
 clear hE6 g1 g2
 clear hb5 co5
 obtain ⟨c00, c01, c02, c03, c04, c05, c0f⟩ := six_cells HBC_6.out
 obtain ⟨c10, c11, c12, c13, c14, c15, c1f⟩ := six_cells HBW_6.out
 obtain ⟨c20, c21, c22, c23, c24, c25, c2f⟩ := six_cells HBX_6.out
 obtain ⟨o0, o1, o2, o3, o4, of⟩ := five_cells HBO_6.out
 cases ok with
 |false =>
  go_wp2_with fail
  generalize (w5.alloc (oC x D1 k1 D2 k2)) = w6 at *
  clear c00 c01 c02 c03 c04 c05 c0f c10 c11 c12 c13 c14 c15 c1f c20 c21 c22 c23 c24 c25 c2f
  clear o0 o1 o2 o3 o4 of
  have hS := lpClient_c x x _ _ w6 HWX_6.out HWW_6.out
  rw [clientEq_self] at hS
  refine hS.mono ?_
  clear hS
  rintro e w7 ⟨rfl, hb7⟩
  have HE_7 := Lib.hid (HE_6.out.trans ((hb7).mono HE_6.out.size)); have hs_7 := HE_7.out.size
  have HT_7 := Lib.hid (HT_6.out.below hb7 htp_6); have htp_7 := HT_7.out.pos
  have HVC_7 := Lib.hid (HVC_6.out.ext hb7)
  have HBC_7 := Lib.hid (((hb7).block _ (blk_lt HBC_6.out)).trans HBC_6.out)
  have HBO_7 := Lib.hid (((hb7).block _ (blk_lt HBO_6.out)).trans HBO_6.out)
  have HWW_7 := Lib.hid (HWW_6.out.ext hb7)
  have HBW_7 := Lib.hid (((hb7).block _ (blk_lt HBW_6.out)).trans HBW_6.out)
  have HWX_7 := Lib.hid (HWX_6.out.ext hb7)
  have HBX_7 := Lib.hid (((hb7).block _ (blk_lt HBX_6.out)).trans HBX_6.out)
  clear HE_6 HT_6 HVC_6 HBC_6 HBO_6 HWW_6 HBW_6 HWX_6 HBX_6
  clear hb7
  obtain ⟨c00, c01, c02, c03, c04, c05, c0f⟩ := six_cells HBC_7.out
  obtain ⟨c10, c11, c12, c13, c14, c15, c1f⟩ := six_cells HBW_7.out
  obtain ⟨c20, c21, c22, c23, c24, c25, c2f⟩ := six_cells HBX_7.out
  go_wp2_with fail
  clear c00 c01 c02 c03 c04 c05 c0f c10 c11 c12 c13 c14 c15 c1f c20 c21 c22 c23 c24 c25 c2f
  have hS := lpClient_c x x _ _ w7 HWX_7.out HWW_7.out
  rw [clientEq_self] at hS
  refine hS.mono ?_
  clear hS
  rintro e w8 ⟨rfl, hb8⟩
  have HE_8 := Lib.hid (HE_7.out.trans ((hb8).mono HE_7.out.size)); have hs_8 := HE_8.out.size
  have HT_8 := Lib.hid (HT_7.out.below hb8 htp_7); have htp_8 := HT_8.out.pos
  have HVC_8 := Lib.hid (HVC_7.out.ext hb8)
  have HBC_8 := Lib.hid (((hb8).block _ (blk_lt HBC_7.out)).trans HBC_7.out)
  have HBO_8 := Lib.hid (((hb8).block _ (blk_lt HBO_7.out)).trans HBO_7.out)
  have HWW_8 := Lib.hid (HWW_7.out.ext hb8)
  have HBW_8 := Lib.hid (((hb8).block _ (blk_lt HBW_7.out)).trans HBW_7.out)
  have HWX_8 := Lib.hid (HWX_7.out.ext hb8)
  have HBX_8 := Lib.hid (((hb8).block _ (blk_lt HBX_7.out)).trans HBX_7.out)
  clear HE_7 HT_7 HVC_7 HBC_7 HBO_7 HWW_7 HBW_7 HWX_7 HBX_7
  clear hb8
  go_wp2_with fail
  go_ret
  exact ⟨rfl, HE_8.out⟩
 |true =>
  go_wp2_with fail
  generalize (w5.alloc (oC x D1 k1 D2 k2)) = w6 at *
  clear c00 c01 c02 c03 c04 c05 c0f c10 c11 c12 c13 c14 c15 c1f c20 c21 c22 c23 c24 c25 c2f
  clear o0 o1 o2 o3 o4 of
  have hS := lpClient_c x x _ _ w6 HWX_6.out HWW_6.out
  rw [clientEq_self] at hS
  refine hS.mono ?_
  clear hS
  rintro e w7 ⟨rfl, hb7⟩
  have HE_7 := Lib.hid (HE_6.out.trans ((hb7).mono HE_6.out.size)); have hs_7 := HE_7.out.size
  have HT_7 := Lib.hid (HT_6.out.below hb7 htp_6); have htp_7 := HT_7.out.pos
  have HVC_7 := Lib.hid (HVC_6.out.ext hb7)
  have HBC_7 := Lib.hid (((hb7).block _ (blk_lt HBC_6.out)).trans HBC_6.out)
  have HBO_7 := Lib.hid (((hb7).block _ (blk_lt HBO_6.out)).trans HBO_6.out)
  have HWW_7 := Lib.hid (HWW_6.out.ext hb7)
  have HBW_7 := Lib.hid (((hb7).block _ (blk_lt HBW_6.out)).trans HBW_6.out)
  have HWX_7 := Lib.hid (HWX_6.out.ext hb7)
  have HBX_7 := Lib.hid (((hb7).block _ (blk_lt HBX_6.out)).trans HBX_6.out)
  clear HE_6 HT_6 HVC_6 HBC_6 HBO_6 HWW_6 HBW_6 HWX_6 HBX_6
  clear hb7
  obtain ⟨c00, c01, c02, c03, c04, c05, c0f⟩ := six_cells HBC_7.out
  obtain ⟨c10, c11, c12, c13, c14, c15, c1f⟩ := six_cells HBW_7.out
  obtain ⟨c20, c21, c22, c23, c24, c25, c2f⟩ := six_cells HBX_7.out
  obtain ⟨kk, hkk⟩ : ∃ kk, kk = ms.length % 3 := ⟨_, rfl⟩
  have hk3 : kk < 3 := by rw [hkk]; exact Nat.mod_lt _ (by decide)
  have hmd : (ms.length : Int) % 3 = (kk : Int) := by rw [hkk, Int.natCast_emod]; rfl
  have hmt : (ms.length : Int).tmod 3 = (kk : Int) := by rw [Int.tmod_eq_emod_of_nonneg (by omega)]; exact hmd
  have hwp : IntKind.i64.wrap (11 + (kk : Int)) = 11 + (kk : Int) := by rw [IntKind.wrap_i64]; omega
  obtain ⟨y, fine, hyf⟩ : ∃ y fine, clientDo x (opP kk) = (y, fine) := ⟨_, _, rfl⟩
  obtain ⟨hd0, hd1, hx1, hx2, hd3, hd4⟩ := do_two HXO.out hk3 hyf
  have HYF := Lib.hid hyf; have HD3 := Lib.hid hd3; have HD4 := Lib.hid hd4
  clear hyf hd3 hd4 hkk
  have hE8 : Ext w7 (w7.alloc (.cells #[.int .i64 2, .int .i64 (11 + (kk : Int)), .int .i64 0, .int .i64 0, .string ⟨#[97, 99]⟩] 42)) := (Below.refl _ _).alloc (Nat.le_refl _) _
  have HBP_8 := Lib.hid (World.alloc_heap_new w7 (.cells #[.int .i64 2, .int .i64 (11 + (kk : Int)), .int .i64 0, .int .i64 0, .string ⟨#[97, 99]⟩] 42))
  have hz_8 := alloc_sz w7 (.cells #[.int .i64 2, .int .i64 (11 + (kk : Int)), .int .i64 0, .int .i64 0, .string ⟨#[97, 99]⟩] 42)
  have HE_8 := Lib.hid (HE_7.out.trans ((hE8).mono HE_7.out.size)); have hs_8 := HE_8.out.size
  have HT_8 := Lib.hid (HT_7.out.below hE8 htp_7); have htp_8 := HT_8.out.pos
  have HVC_8 := Lib.hid (HVC_7.out.ext hE8)
  have HBC_8 := Lib.hid (((hE8).block _ (blk_lt HBC_7.out)).trans HBC_7.out)
  have HBO_8 := Lib.hid (((hE8).block _ (blk_lt HBO_7.out)).trans HBO_7.out)
  have HWW_8 := Lib.hid (HWW_7.out.ext hE8)
  have HBW_8 := Lib.hid (((hE8).block _ (blk_lt HBW_7.out)).trans HBW_7.out)
  have HWX_8 := Lib.hid (HWX_7.out.ext hE8)
  have HBX_8 := Lib.hid (((hE8).block _ (blk_lt HBX_7.out)).trans HBX_7.out)
  clear HE_7 HT_7 HVC_7 HBC_7 HBO_7 HWW_7 HBW_7 HWX_7 HBX_7
  clear hE8
  clear c00 c01 c02 c03 c04 c05 c0f c10 c11 c12 c13 c14 c15 c1f c20 c21 c22 c23 c24 c25 c2f
  obtain ⟨c00, c01, c02, c03, c04, c05, c0f⟩ := six_cells HBX_8.out
  obtain ⟨p0, p1, p2, p3, p4, pf⟩ := five_cells HBP_8.out
  go_wp2_with fail
  generalize (w7.alloc (.cells #[.int .i64 2, .int .i64 (11 + (kk : Int)), .int .i64 0, .int .i64 0, .string ⟨#[97, 99]⟩] 42)) = w8 at *
  clear c00 c01 c02 c03 c04 c05 c0f
  clear p0 p1 p2 p3 p4 pf
  clear hmd hmt hwp
  have hS := clientDo_c x _ (opP kk) w8 HT_8.out HWX_8.out (by unfold maxLen; show (2 : Nat) ≤ _; decide)
  rw [HYF.out] at hS
  refine hS.mono ?_
  clear hS
  rintro e w9 ⟨v9, rfl, co9, hb9⟩
  have HE_9 := Lib.hid (HE_8.out.trans ((hb9).mono HE_8.out.size)); have hs_9 := HE_9.out.size
  have HT_9 := Lib.hid (HT_8.out.below hb9 htp_8); have htp_9 := HT_9.out.pos
  have HVC_9 := Lib.hid (HVC_8.out.ext hb9)
  have HBC_9 := Lib.hid (((hb9).block _ (blk_lt HBC_8.out)).trans HBC_8.out)
  have HBO_9 := Lib.hid (((hb9).block _ (blk_lt HBO_8.out)).trans HBO_8.out)
  have HWW_9 := Lib.hid (HWW_8.out.ext hb9)
  have HBW_9 := Lib.hid (((hb9).block _ (blk_lt HBW_8.out)).trans HBW_8.out)
  have HWX_9 := Lib.hid (HWX_8.out.ext hb9)
  have HBX_9 := Lib.hid (((hb9).block _ (blk_lt HBX_8.out)).trans HBX_8.out)
  have HBP_9 := Lib.hid (((hb9).block _ (blk_lt HBP_8.out)).trans HBP_8.out)
  clear HE_8 HT_8 HVC_8 HBC_8 HBO_8 HWW_8 HBW_8 HWX_8 HBX_8 HBP_8
  obtain ⟨E1, j1, E2, j2, rfl, g1, g2⟩ := co9.cv
  have hEq : Ext w9 (w9.alloc (oC y E1 j1 E2 j2)) := (Below.refl _ _).alloc (Nat.le_refl _) _
  have HWY_q : Hid (CV (w9.alloc (oC y E1 j1 E2 j2)) y (.agg (cC y E1 j1 E2 j2))) := ⟨E1, j1, E2, j2, rfl, g1.ext hEq, g2.ext hEq⟩
  have HBY_q := Lib.hid (World.alloc_heap_new w9 (oC y E1 j1 E2 j2))
  have hz_q := alloc_sz w9 (oC y E1 j1 E2 j2)
  have HE_q := Lib.hid (HE_9.out.trans ((hEq).mono HE_9.out.size)); have hs_q := HE_q.out.size
  have HT_q := Lib.hid (HT_9.out.below hEq htp_9); have htp_q := HT_q.out.pos
  have HVC_q := Lib.hid (HVC_9.out.ext hEq)
  have HBC_q := Lib.hid (((hEq).block _ (blk_lt HBC_9.out)).trans HBC_9.out)
  have HBO_q := Lib.hid (((hEq).block _ (blk_lt HBO_9.out)).trans HBO_9.out)
  have HWW_q := Lib.hid (HWW_9.out.ext hEq)
  have HBW_q := Lib.hid (((hEq).block _ (blk_lt HBW_9.out)).trans HBW_9.out)
  have HWX_q := Lib.hid (HWX_9.out.ext hEq)
  have HBX_q := Lib.hid (((hEq).block _ (blk_lt HBX_9.out)).trans HBX_9.out)
  have HBP_q := Lib.hid (((hEq).block _ (blk_lt HBP_9.out)).trans HBP_9.out)
  clear HE_9 HT_9 HVC_9 HBC_9 HBO_9 HWW_9 HBW_9 HWX_9 HBX_9 HBP_9
  clear hEq g1 g2
  clear hb9 co9
  cases fine with
  |false =>
   have hgt : (40 : Int) < c.done + (c.wait.length : Int) + 2 := HD3.out rfl
   have hw1 : IntKind.i64.wrap (c.done + (c.wait.length : Int)) = c.done + (c.wait.length : Int) := by rw [IntKind.wrap_i64]; omega
   have hw2 : IntKind.i64.wrap (c.done + (c.wait.length : Int) + 2) = c.done + (c.wait.length : Int) + 2 := by rw [IntKind.wrap_i64]; omega
   obtain ⟨c00, c01, c02, c03, c04, c05, c0f⟩ := six_cells HBC_q.out
   go_wp2_with fail
   go_ret
   exact ⟨rfl, HE_q.out⟩
  |true =>
   obtain ⟨hsh, hyw⟩ := HD4.out rfl
   have HSH := Lib.hid hsh
   have hyl : 0 < y.wait.length := by rw [hyw]; simp
   have hyop : (y.wait[y.wait.length - 1]'(by omega)).op = opP kk := by
    have h : ∀ (l : List Entry) (h : l.length - 1 < l.length) (a : List Entry) (e : Entry), l = a ++ [e] → l[l.length - 1] = e := by
     rintro l h a e rfl; simp
    rw [h _ _ _ _ hyw]; rfl
   obtain ⟨le, hle⟩ : ∃ e, e = y.wait[y.wait.length - 1]'(by omega) := ⟨_, rfl⟩
   obtain ⟨hrx1, hrx2⟩ : Rd (w9.alloc (oC y E1 j1 E2 j2)) E1 j1 y.base ∧ Rd (w9.alloc (oC y E1 j1 E2 j2)) E2 j2 y.wait := by
    obtain ⟨_, _, _, _, e9, g1, g2⟩ := HWY_q.out
    simp at e9
    obtain ⟨⟨rfl, rfl⟩, ⟨rfl, rfl⟩⟩ := e9
    exact ⟨g1, g2⟩
   have hyl9 : y.wait.length ≤ maxLen := Nat.le_trans hrx2.1 hrx2.2.1
   unfold maxLen at hyl9
   obtain ⟨eb, eo, rfl, hebl, e0, e1, e2, e3, e4, e5, e6⟩ := ent_at hrx2 (y.wait.length - 1) (by omega)
   rw [hyop] at e2 e3 e4 e5 e6
   have HEN : Hid ((w9.alloc (oC y E1 j1 (some ⟨eb, eo, none⟩) j2)).cell? ⟨eb, eo + (y.wait.length - 1) * 7 + 2, none⟩ = some (.int .i64 2) ∧ (w9.alloc (oC y E1 j1 (some ⟨eb, eo, none⟩) j2)).cell? ⟨eb, eo + (y.wait.length - 1) * 7 + 3, none⟩ = some (.int .i64 (11 + (kk : Int))) ∧ (w9.alloc (oC y E1 j1 (some ⟨eb, eo, none⟩) j2)).cell? ⟨eb, eo + (y.wait.length - 1) * 7 + 4, none⟩ = some (.int .i64 0) ∧ (w9.alloc (oC y E1 j1 (some ⟨eb, eo, none⟩) j2)).cell? ⟨eb, eo + (y.wait.length - 1) * 7 + 5, none⟩ = some (.int .i64 0) ∧ (w9.alloc (oC y E1 j1 (some ⟨eb, eo, none⟩) j2)).cell? ⟨eb, eo + (y.wait.length - 1) * 7 + 6, none⟩ = some (.string ⟨#[97, 99]⟩)) := ⟨e2, e3, e4, e5, e6⟩
   clear e0 e1 e2 e3 e4 e5 e6 hyop hle hyw hrx1 hrx2 hsh HD3 HD4
   go_upto_region 12 with fail
   generalize (w9.alloc (oC y E1 j1 (some ⟨eb, eo, none⟩) j2)) = wq at *
   clear hz_q
   refine wp_region_B (fun w' => w'.cell? ⟨w9.heap.size, 0, none⟩ = some (.int .i64 y.who) ∧ w'.cell? ⟨w9.heap.size, 1, none⟩ = some (.int .i64 y.seen) ∧ w'.cell? ⟨w9.heap.size, 2, none⟩ = some (.slice E1 y.base.length j1) ∧ w'.cell? ⟨w9.heap.size, 3, none⟩ = some (.slice (some ⟨eb, eo, none⟩) y.wait.length j2) ∧ w'.cell? ⟨w9.heap.size, 4, none⟩ = some (.int .i64 y.done) ∧ w'.cell? ⟨w9.heap.size, 5, none⟩ = some (.int .i64 y.made) ∧ w'.cell? ⟨w1.heap.size, 0, none⟩ = some (.int .i64 c.who) ∧ w'.cell? ⟨w1.heap.size, 1, none⟩ = some (.int .i64 c.seen) ∧ w'.cell? ⟨w1.heap.size, 2, none⟩ = some (.slice A1 c.base.length n1) ∧ w'.cell? ⟨w1.heap.size, 3, none⟩ = some (.slice A2 c.wait.length n2) ∧ w'.cell? ⟨w1.heap.size, 4, none⟩ = some (.int .i64 c.done) ∧ w'.cell? ⟨w1.heap.size, 5, none⟩ = some (.int .i64 c.made) ∧ w'.cell? ⟨w1.heap.size + 1, 0, none⟩ = some (.int .i64 o.kind) ∧ w'.cell? ⟨w1.heap.size + 1, 1, none⟩ = some (.int .i64 o.id) ∧ w'.cell? ⟨w1.heap.size + 1, 2, none⟩ = some (.int .i64 o.up) ∧ w'.cell? ⟨w1.heap.size + 1, 3, none⟩ = some (.int .i64 o.pos) ∧ w'.cell? ⟨w1.heap.size + 1, 4, none⟩ = some (.string o.text) ∧ w'.cell? ⟨w7.heap.size, 0, none⟩ = some (.int .i64 2) ∧ w'.cell? ⟨w7.heap.size, 1, none⟩ = some (.int .i64 (11 + (kk : Int))) ∧ w'.cell? ⟨w7.heap.size, 2, none⟩ = some (.int .i64 0) ∧ w'.cell? ⟨w7.heap.size, 3, none⟩ = some (.int .i64 0) ∧ w'.cell? ⟨w7.heap.size, 4, none⟩ = some (.string ⟨#[97, 99]⟩) ∧ w'.cell? ⟨eb, eo + (y.wait.length - 1) * 7 + 2, none⟩ = some (.int .i64 2) ∧ w'.cell? ⟨eb, eo + (y.wait.length - 1) * 7 + 3, none⟩ = some (.int .i64 (11 + (kk : Int))) ∧ w'.cell? ⟨eb, eo + (y.wait.length - 1) * 7 + 4, none⟩ = some (.int .i64 0) ∧ w'.cell? ⟨eb, eo + (y.wait.length - 1) * 7 + 5, none⟩ = some (.int .i64 0) ∧ w'.cell? ⟨eb, eo + (y.wait.length - 1) * 7 + 6, none⟩ = some (.string ⟨#[97, 99]⟩)) 22 (by kernel_rfl) ?_
   have hbd : Ext wq wq.drew := (Below.refl _ _).drew
   generalize wq.drew = wd at *
   have HE_d := Lib.hid (HE_q.out.trans ((hbd).mono HE_q.out.size)); have hs_d := HE_d.out.size
   have HT_d := Lib.hid (HT_q.out.below hbd htp_q); have htp_d := HT_d.out.pos
   have HVC_d := Lib.hid (HVC_q.out.ext hbd)
   have HBC_d := Lib.hid (((hbd).block _ (blk_lt HBC_q.out)).trans HBC_q.out)
   have HBO_d := Lib.hid (((hbd).block _ (blk_lt HBO_q.out)).trans HBO_q.out)
   have HWW_d := Lib.hid (HWW_q.out.ext hbd)
   have HBW_d := Lib.hid (((hbd).block _ (blk_lt HBW_q.out)).trans HBW_q.out)
   have HWX_d := Lib.hid (HWX_q.out.ext hbd)
   have HBX_d := Lib.hid (((hbd).block _ (blk_lt HBX_q.out)).trans HBX_q.out)
   have HBP_d := Lib.hid (((hbd).block _ (blk_lt HBP_q.out)).trans HBP_q.out)
   have HWY_d := Lib.hid (HWY_q.out.ext hbd)
   have HBY_d := Lib.hid (((hbd).block _ (blk_lt HBY_q.out)).trans HBY_q.out)
   clear HE_q HT_q HVC_q HBC_q HBO_q HWW_q HBW_q HWX_q HBX_q HBP_q HWY_q HBY_q
   have HEN_d : Hid (wd.cell? ⟨eb, eo + (y.wait.length - 1) * 7 + 2, none⟩ = some (.int .i64 2) ∧ wd.cell? ⟨eb, eo + (y.wait.length - 1) * 7 + 3, none⟩ = some (.int .i64 (11 + (kk : Int))) ∧ wd.cell? ⟨eb, eo + (y.wait.length - 1) * 7 + 4, none⟩ = some (.int .i64 0) ∧ wd.cell? ⟨eb, eo + (y.wait.length - 1) * 7 + 5, none⟩ = some (.int .i64 0) ∧ wd.cell? ⟨eb, eo + (y.wait.length - 1) * 7 + 6, none⟩ = some (.string ⟨#[97, 99]⟩)) := by
    obtain ⟨hq0, hq1, hq2, hq3, hq4⟩ := HEN.out
    obtain ⟨hc9, -⟩ := bcell hbd
    exact ⟨(hc9 _ _ hebl).trans hq0, (hc9 _ _ hebl).trans hq1, (hc9 _ _ hebl).trans hq2, (hc9 _ _ hebl).trans hq3, (hc9 _ _ hebl).trans hq4⟩
   have hebl9 : eb < wd.heap.size := Nat.lt_of_lt_of_le hebl hbd.size
   clear hebl HEN
   have hebl := hebl9
   have HEN := HEN_d
   clear HEN_d hebl9
   clear hbd
   have HS : Hid (wd.cell? ⟨w9.heap.size, 0, none⟩ = some (.int .i64 y.who) ∧ wd.cell? ⟨w9.heap.size, 1, none⟩ = some (.int .i64 y.seen) ∧ wd.cell? ⟨w9.heap.size, 2, none⟩ = some (.slice E1 y.base.length j1) ∧ wd.cell? ⟨w9.heap.size, 3, none⟩ = some (.slice (some ⟨eb, eo, none⟩) y.wait.length j2) ∧ wd.cell? ⟨w9.heap.size, 4, none⟩ = some (.int .i64 y.done) ∧ wd.cell? ⟨w9.heap.size, 5, none⟩ = some (.int .i64 y.made) ∧ wd.cell? ⟨w1.heap.size, 0, none⟩ = some (.int .i64 c.who) ∧ wd.cell? ⟨w1.heap.size, 1, none⟩ = some (.int .i64 c.seen) ∧ wd.cell? ⟨w1.heap.size, 2, none⟩ = some (.slice A1 c.base.length n1) ∧ wd.cell? ⟨w1.heap.size, 3, none⟩ = some (.slice A2 c.wait.length n2) ∧ wd.cell? ⟨w1.heap.size, 4, none⟩ = some (.int .i64 c.done) ∧ wd.cell? ⟨w1.heap.size, 5, none⟩ = some (.int .i64 c.made) ∧ wd.cell? ⟨w1.heap.size + 1, 0, none⟩ = some (.int .i64 o.kind) ∧ wd.cell? ⟨w1.heap.size + 1, 1, none⟩ = some (.int .i64 o.id) ∧ wd.cell? ⟨w1.heap.size + 1, 2, none⟩ = some (.int .i64 o.up) ∧ wd.cell? ⟨w1.heap.size + 1, 3, none⟩ = some (.int .i64 o.pos) ∧ wd.cell? ⟨w1.heap.size + 1, 4, none⟩ = some (.string o.text) ∧ wd.cell? ⟨w7.heap.size, 0, none⟩ = some (.int .i64 2) ∧ wd.cell? ⟨w7.heap.size, 1, none⟩ = some (.int .i64 (11 + (kk : Int))) ∧ wd.cell? ⟨w7.heap.size, 2, none⟩ = some (.int .i64 0) ∧ wd.cell? ⟨w7.heap.size, 3, none⟩ = some (.int .i64 0) ∧ wd.cell? ⟨w7.heap.size, 4, none⟩ = some (.string ⟨#[97, 99]⟩) ∧ wd.cell? ⟨eb, eo + (y.wait.length - 1) * 7 + 2, none⟩ = some (.int .i64 2) ∧ wd.cell? ⟨eb, eo + (y.wait.length - 1) * 7 + 3, none⟩ = some (.int .i64 (11 + (kk : Int))) ∧ wd.cell? ⟨eb, eo + (y.wait.length - 1) * 7 + 4, none⟩ = some (.int .i64 0) ∧ wd.cell? ⟨eb, eo + (y.wait.length - 1) * 7 + 5, none⟩ = some (.int .i64 0) ∧ wd.cell? ⟨eb, eo + (y.wait.length - 1) * 7 + 6, none⟩ = some (.string ⟨#[97, 99]⟩)) := Lib.hid ⟨(six_cells HBY_d.out).1, (six_cells HBY_d.out).2.1, (six_cells HBY_d.out).2.2.1, (six_cells HBY_d.out).2.2.2.1, (six_cells HBY_d.out).2.2.2.2.1, (six_cells HBY_d.out).2.2.2.2.2.1, (six_cells HBC_d.out).1, (six_cells HBC_d.out).2.1, (six_cells HBC_d.out).2.2.1, (six_cells HBC_d.out).2.2.2.1, (six_cells HBC_d.out).2.2.2.2.1, (six_cells HBC_d.out).2.2.2.2.2.1, (five_cells HBO_d.out).1, (five_cells HBO_d.out).2.1, (five_cells HBO_d.out).2.2.1, (five_cells HBO_d.out).2.2.2.1, (five_cells HBO_d.out).2.2.2.2.1, (five_cells HBP_d.out).1, (five_cells HBP_d.out).2.1, (five_cells HBP_d.out).2.2.1, (five_cells HBP_d.out).2.2.2.1, (five_cells HBP_d.out).2.2.2.2.1, HEN.out.1, HEN.out.2.1, HEN.out.2.2.1, HEN.out.2.2.2.1, HEN.out.2.2.2.2⟩
   refine WB.takeD (i := 0) (d := some 81) (v := ?_) rfl (by kernel_rfl) (by kernel_rfl) (by kernel_rfl) (by kernel_rfl) (by kernel_rfl) (fun _ _ _ h => h) HS.out (Or.inl ⟨by rfl, ?_⟩) ?_
   rotate_left
   ·(rintro w ⟨s0, s1, s2, s3, s4, s5, s6, s7, s8, s9, s10, s11, s12, s13, s14, s15, s16, s17, s18, s19, s20, s21, s22, s23, s24, s25, s26⟩; go_simp; try with_reducible rfl)
   try simp only [Act.put, List.setIfInBounds_toArray, List.set_cons_zero, List.set_cons_succ]
   refine WB.takeD (i := 2) (d := some 83) (v := ?_) rfl (by kernel_rfl) (by kernel_rfl) (by kernel_rfl) (by kernel_rfl) (by kernel_rfl) (fun _ _ _ h => h) HS.out (Or.inl ⟨by rfl, ?_⟩) ?_
   rotate_left
   ·(rintro w ⟨s0, s1, s2, s3, s4, s5, s6, s7, s8, s9, s10, s11, s12, s13, s14, s15, s16, s17, s18, s19, s20, s21, s22, s23, s24, s25, s26⟩; go_simp; try with_reducible rfl)
   try simp only [Act.put, List.setIfInBounds_toArray, List.set_cons_zero, List.set_cons_succ]
   refine WB.takeD (i := 4) (d := some 85) (v := ?_) rfl (by kernel_rfl) (by kernel_rfl) (by kernel_rfl) (by kernel_rfl) (by kernel_rfl) (fun _ _ _ h => h) HS.out (Or.inl ⟨by rfl, ?_⟩) ?_
   rotate_left
   ·(rintro w ⟨s0, s1, s2, s3, s4, s5, s6, s7, s8, s9, s10, s11, s12, s13, s14, s15, s16, s17, s18, s19, s20, s21, s22, s23, s24, s25, s26⟩; go_simp; try with_reducible rfl)
   try simp only [Act.put, List.setIfInBounds_toArray, List.set_cons_zero, List.set_cons_succ]
   refine WB.takeD (i := 6) (d := some 87) (v := ?_) rfl (by kernel_rfl) (by kernel_rfl) (by kernel_rfl) (by kernel_rfl) (by kernel_rfl) (fun _ _ _ h => h) HS.out (Or.inl ⟨by rfl, ?_⟩) ?_
   rotate_left
   ·(rintro w ⟨s0, s1, s2, s3, s4, s5, s6, s7, s8, s9, s10, s11, s12, s13, s14, s15, s16, s17, s18, s19, s20, s21, s22, s23, s24, s25, s26⟩; go_simp; try with_reducible rfl)
   try simp only [Act.put, List.setIfInBounds_toArray, List.set_cons_zero, List.set_cons_succ]
   have HC := Lib.hid (clientShow_c y _ wd HT_d.out HWY_d.out)
   refine WB.one (i := 1) (by kernel_rfl) rfl (fun K hK => ?_)
   have HKK := Lib.hid hK
   clear hK
   go_simp
   refine HC.out.mono ?_
   rintro e wf ⟨v8, rfl, ho8, hbf⟩
   obtain ⟨Y1, yn1, rfl, hr8⟩ := ho8.rd
   have HR1_f := Lib.hid hr8
   clear hr8 ho8
   have HE_f := Lib.hid (HE_d.out.trans ((hbf).mono HE_d.out.size)); have hs_f := HE_f.out.size
   have HT_f := Lib.hid (HT_d.out.below hbf htp_d); have htp_f := HT_f.out.pos
   have HVC_f := Lib.hid (HVC_d.out.ext hbf)
   have HBC_f := Lib.hid (((hbf).block _ (blk_lt HBC_d.out)).trans HBC_d.out)
   have HBO_f := Lib.hid (((hbf).block _ (blk_lt HBO_d.out)).trans HBO_d.out)
   have HWW_f := Lib.hid (HWW_d.out.ext hbf)
   have HBW_f := Lib.hid (((hbf).block _ (blk_lt HBW_d.out)).trans HBW_d.out)
   have HWX_f := Lib.hid (HWX_d.out.ext hbf)
   have HBX_f := Lib.hid (((hbf).block _ (blk_lt HBX_d.out)).trans HBX_d.out)
   have HBP_f := Lib.hid (((hbf).block _ (blk_lt HBP_d.out)).trans HBP_d.out)
   have HWY_f := Lib.hid (HWY_d.out.ext hbf)
   have HBY_f := Lib.hid (((hbf).block _ (blk_lt HBY_d.out)).trans HBY_d.out)
   clear HE_d HT_d HVC_d HBC_d HBO_d HWW_d HBW_d HWX_d HBX_d HBP_d HWY_d HBY_d
   have HEN_f : Hid (wf.cell? ⟨eb, eo + (y.wait.length - 1) * 7 + 2, none⟩ = some (.int .i64 2) ∧ wf.cell? ⟨eb, eo + (y.wait.length - 1) * 7 + 3, none⟩ = some (.int .i64 (11 + (kk : Int))) ∧ wf.cell? ⟨eb, eo + (y.wait.length - 1) * 7 + 4, none⟩ = some (.int .i64 0) ∧ wf.cell? ⟨eb, eo + (y.wait.length - 1) * 7 + 5, none⟩ = some (.int .i64 0) ∧ wf.cell? ⟨eb, eo + (y.wait.length - 1) * 7 + 6, none⟩ = some (.string ⟨#[97, 99]⟩)) := by
    obtain ⟨hq0, hq1, hq2, hq3, hq4⟩ := HEN.out
    obtain ⟨hc9, -⟩ := bcell hbf
    exact ⟨(hc9 _ _ hebl).trans hq0, (hc9 _ _ hebl).trans hq1, (hc9 _ _ hebl).trans hq2, (hc9 _ _ hebl).trans hq3, (hc9 _ _ hebl).trans hq4⟩
   have hebl9 : eb < wf.heap.size := Nat.lt_of_lt_of_le hebl hbf.size
   clear hebl HEN
   have hebl := hebl9
   have HEN := HEN_f
   clear HEN_f hebl9
   clear hbf HS HC
   have HSf : Hid (wf.cell? ⟨w9.heap.size, 0, none⟩ = some (.int .i64 y.who) ∧ wf.cell? ⟨w9.heap.size, 1, none⟩ = some (.int .i64 y.seen) ∧ wf.cell? ⟨w9.heap.size, 2, none⟩ = some (.slice E1 y.base.length j1) ∧ wf.cell? ⟨w9.heap.size, 3, none⟩ = some (.slice (some ⟨eb, eo, none⟩) y.wait.length j2) ∧ wf.cell? ⟨w9.heap.size, 4, none⟩ = some (.int .i64 y.done) ∧ wf.cell? ⟨w9.heap.size, 5, none⟩ = some (.int .i64 y.made) ∧ wf.cell? ⟨w1.heap.size, 0, none⟩ = some (.int .i64 c.who) ∧ wf.cell? ⟨w1.heap.size, 1, none⟩ = some (.int .i64 c.seen) ∧ wf.cell? ⟨w1.heap.size, 2, none⟩ = some (.slice A1 c.base.length n1) ∧ wf.cell? ⟨w1.heap.size, 3, none⟩ = some (.slice A2 c.wait.length n2) ∧ wf.cell? ⟨w1.heap.size, 4, none⟩ = some (.int .i64 c.done) ∧ wf.cell? ⟨w1.heap.size, 5, none⟩ = some (.int .i64 c.made) ∧ wf.cell? ⟨w1.heap.size + 1, 0, none⟩ = some (.int .i64 o.kind) ∧ wf.cell? ⟨w1.heap.size + 1, 1, none⟩ = some (.int .i64 o.id) ∧ wf.cell? ⟨w1.heap.size + 1, 2, none⟩ = some (.int .i64 o.up) ∧ wf.cell? ⟨w1.heap.size + 1, 3, none⟩ = some (.int .i64 o.pos) ∧ wf.cell? ⟨w1.heap.size + 1, 4, none⟩ = some (.string o.text) ∧ wf.cell? ⟨w7.heap.size, 0, none⟩ = some (.int .i64 2) ∧ wf.cell? ⟨w7.heap.size, 1, none⟩ = some (.int .i64 (11 + (kk : Int))) ∧ wf.cell? ⟨w7.heap.size, 2, none⟩ = some (.int .i64 0) ∧ wf.cell? ⟨w7.heap.size, 3, none⟩ = some (.int .i64 0) ∧ wf.cell? ⟨w7.heap.size, 4, none⟩ = some (.string ⟨#[97, 99]⟩) ∧ wf.cell? ⟨eb, eo + (y.wait.length - 1) * 7 + 2, none⟩ = some (.int .i64 2) ∧ wf.cell? ⟨eb, eo + (y.wait.length - 1) * 7 + 3, none⟩ = some (.int .i64 (11 + (kk : Int))) ∧ wf.cell? ⟨eb, eo + (y.wait.length - 1) * 7 + 4, none⟩ = some (.int .i64 0) ∧ wf.cell? ⟨eb, eo + (y.wait.length - 1) * 7 + 5, none⟩ = some (.int .i64 0) ∧ wf.cell? ⟨eb, eo + (y.wait.length - 1) * 7 + 6, none⟩ = some (.string ⟨#[97, 99]⟩)) := Lib.hid ⟨(six_cells HBY_f.out).1, (six_cells HBY_f.out).2.1, (six_cells HBY_f.out).2.2.1, (six_cells HBY_f.out).2.2.2.1, (six_cells HBY_f.out).2.2.2.2.1, (six_cells HBY_f.out).2.2.2.2.2.1, (six_cells HBC_f.out).1, (six_cells HBC_f.out).2.1, (six_cells HBC_f.out).2.2.1, (six_cells HBC_f.out).2.2.2.1, (six_cells HBC_f.out).2.2.2.2.1, (six_cells HBC_f.out).2.2.2.2.2.1, (five_cells HBO_f.out).1, (five_cells HBO_f.out).2.1, (five_cells HBO_f.out).2.2.1, (five_cells HBO_f.out).2.2.2.1, (five_cells HBO_f.out).2.2.2.2.1, (five_cells HBP_f.out).1, (five_cells HBP_f.out).2.1, (five_cells HBP_f.out).2.2.1, (five_cells HBP_f.out).2.2.2.1, (five_cells HBP_f.out).2.2.2.2.1, HEN.out.1, HEN.out.2.1, HEN.out.2.2.1, HEN.out.2.2.2.1, HEN.out.2.2.2.2⟩
   refine HKK.out _ _ ⟨fun _ => HSf.out, ?_⟩
   clear HKK K
   try simp only [Act.put, List.setIfInBounds_toArray, List.set_cons_zero, List.set_cons_succ]
   have HC := Lib.hid (clientShow_c c _ wf HT_f.out HVC_f.out)
   refine WB.one (i := 3) (by kernel_rfl) rfl (fun K hK => ?_)
   have HKK := Lib.hid hK
   clear hK
   go_simp
   refine HC.out.mono ?_
   rintro e wg ⟨v8, rfl, ho8, hbg⟩
   obtain ⟨Y2, yn2, rfl, hr8⟩ := ho8.rd
   have HR2_g := Lib.hid hr8
   clear hr8 ho8
   have HE_g := Lib.hid (HE_f.out.trans ((hbg).mono HE_f.out.size)); have hs_g := HE_g.out.size
   have HT_g := Lib.hid (HT_f.out.below hbg htp_f); have htp_g := HT_g.out.pos
   have HVC_g := Lib.hid (HVC_f.out.ext hbg)
   have HBC_g := Lib.hid (((hbg).block _ (blk_lt HBC_f.out)).trans HBC_f.out)
   have HBO_g := Lib.hid (((hbg).block _ (blk_lt HBO_f.out)).trans HBO_f.out)
   have HWW_g := Lib.hid (HWW_f.out.ext hbg)
   have HBW_g := Lib.hid (((hbg).block _ (blk_lt HBW_f.out)).trans HBW_f.out)
   have HWX_g := Lib.hid (HWX_f.out.ext hbg)
   have HBX_g := Lib.hid (((hbg).block _ (blk_lt HBX_f.out)).trans HBX_f.out)
   have HBP_g := Lib.hid (((hbg).block _ (blk_lt HBP_f.out)).trans HBP_f.out)
   have HWY_g := Lib.hid (HWY_f.out.ext hbg)
   have HBY_g := Lib.hid (((hbg).block _ (blk_lt HBY_f.out)).trans HBY_f.out)
   have HR1_g := Lib.hid (HR1_f.out.ext hbg)
   clear HE_f HT_f HVC_f HBC_f HBO_f HWW_f HBW_f HWX_f HBX_f HBP_f HWY_f HBY_f HR1_f
   have HEN_g : Hid (wg.cell? ⟨eb, eo + (y.wait.length - 1) * 7 + 2, none⟩ = some (.int .i64 2) ∧ wg.cell? ⟨eb, eo + (y.wait.length - 1) * 7 + 3, none⟩ = some (.int .i64 (11 + (kk : Int))) ∧ wg.cell? ⟨eb, eo + (y.wait.length - 1) * 7 + 4, none⟩ = some (.int .i64 0) ∧ wg.cell? ⟨eb, eo + (y.wait.length - 1) * 7 + 5, none⟩ = some (.int .i64 0) ∧ wg.cell? ⟨eb, eo + (y.wait.length - 1) * 7 + 6, none⟩ = some (.string ⟨#[97, 99]⟩)) := by
    obtain ⟨hq0, hq1, hq2, hq3, hq4⟩ := HEN.out
    obtain ⟨hc9, -⟩ := bcell hbg
    exact ⟨(hc9 _ _ hebl).trans hq0, (hc9 _ _ hebl).trans hq1, (hc9 _ _ hebl).trans hq2, (hc9 _ _ hebl).trans hq3, (hc9 _ _ hebl).trans hq4⟩
   have hebl9 : eb < wg.heap.size := Nat.lt_of_lt_of_le hebl hbg.size
   clear hebl HEN
   have hebl := hebl9
   have HEN := HEN_g
   clear HEN_g hebl9
   clear hbg HSf HC
   have HSg : Hid (wg.cell? ⟨w9.heap.size, 0, none⟩ = some (.int .i64 y.who) ∧ wg.cell? ⟨w9.heap.size, 1, none⟩ = some (.int .i64 y.seen) ∧ wg.cell? ⟨w9.heap.size, 2, none⟩ = some (.slice E1 y.base.length j1) ∧ wg.cell? ⟨w9.heap.size, 3, none⟩ = some (.slice (some ⟨eb, eo, none⟩) y.wait.length j2) ∧ wg.cell? ⟨w9.heap.size, 4, none⟩ = some (.int .i64 y.done) ∧ wg.cell? ⟨w9.heap.size, 5, none⟩ = some (.int .i64 y.made) ∧ wg.cell? ⟨w1.heap.size, 0, none⟩ = some (.int .i64 c.who) ∧ wg.cell? ⟨w1.heap.size, 1, none⟩ = some (.int .i64 c.seen) ∧ wg.cell? ⟨w1.heap.size, 2, none⟩ = some (.slice A1 c.base.length n1) ∧ wg.cell? ⟨w1.heap.size, 3, none⟩ = some (.slice A2 c.wait.length n2) ∧ wg.cell? ⟨w1.heap.size, 4, none⟩ = some (.int .i64 c.done) ∧ wg.cell? ⟨w1.heap.size, 5, none⟩ = some (.int .i64 c.made) ∧ wg.cell? ⟨w1.heap.size + 1, 0, none⟩ = some (.int .i64 o.kind) ∧ wg.cell? ⟨w1.heap.size + 1, 1, none⟩ = some (.int .i64 o.id) ∧ wg.cell? ⟨w1.heap.size + 1, 2, none⟩ = some (.int .i64 o.up) ∧ wg.cell? ⟨w1.heap.size + 1, 3, none⟩ = some (.int .i64 o.pos) ∧ wg.cell? ⟨w1.heap.size + 1, 4, none⟩ = some (.string o.text) ∧ wg.cell? ⟨w7.heap.size, 0, none⟩ = some (.int .i64 2) ∧ wg.cell? ⟨w7.heap.size, 1, none⟩ = some (.int .i64 (11 + (kk : Int))) ∧ wg.cell? ⟨w7.heap.size, 2, none⟩ = some (.int .i64 0) ∧ wg.cell? ⟨w7.heap.size, 3, none⟩ = some (.int .i64 0) ∧ wg.cell? ⟨w7.heap.size, 4, none⟩ = some (.string ⟨#[97, 99]⟩) ∧ wg.cell? ⟨eb, eo + (y.wait.length - 1) * 7 + 2, none⟩ = some (.int .i64 2) ∧ wg.cell? ⟨eb, eo + (y.wait.length - 1) * 7 + 3, none⟩ = some (.int .i64 (11 + (kk : Int))) ∧ wg.cell? ⟨eb, eo + (y.wait.length - 1) * 7 + 4, none⟩ = some (.int .i64 0) ∧ wg.cell? ⟨eb, eo + (y.wait.length - 1) * 7 + 5, none⟩ = some (.int .i64 0) ∧ wg.cell? ⟨eb, eo + (y.wait.length - 1) * 7 + 6, none⟩ = some (.string ⟨#[97, 99]⟩)) := Lib.hid ⟨(six_cells HBY_g.out).1, (six_cells HBY_g.out).2.1, (six_cells HBY_g.out).2.2.1, (six_cells HBY_g.out).2.2.2.1, (six_cells HBY_g.out).2.2.2.2.1, (six_cells HBY_g.out).2.2.2.2.2.1, (six_cells HBC_g.out).1, (six_cells HBC_g.out).2.1, (six_cells HBC_g.out).2.2.1, (six_cells HBC_g.out).2.2.2.1, (six_cells HBC_g.out).2.2.2.2.1, (six_cells HBC_g.out).2.2.2.2.2.1, (five_cells HBO_g.out).1, (five_cells HBO_g.out).2.1, (five_cells HBO_g.out).2.2.1, (five_cells HBO_g.out).2.2.2.1, (five_cells HBO_g.out).2.2.2.2.1, (five_cells HBP_g.out).1, (five_cells HBP_g.out).2.1, (five_cells HBP_g.out).2.2.1, (five_cells HBP_g.out).2.2.2.1, (five_cells HBP_g.out).2.2.2.2.1, HEN.out.1, HEN.out.2.1, HEN.out.2.2.1, HEN.out.2.2.2.1, HEN.out.2.2.2.2⟩
   refine HKK.out _ _ ⟨fun _ => HSg.out, ?_⟩
   clear HKK K
   try simp only [Act.put, List.setIfInBounds_toArray, List.set_cons_zero, List.set_cons_succ]
   have HC := Lib.hid (opDo_c Y2 yn2 (showL c) o wg HT_g.out HR2_g.out HOP.out.2)
   refine WB.one (i := 5) (by kernel_rfl) rfl (fun K hK => ?_)
   have HKK := Lib.hid hK
   clear hK
   go_simp
   refine HC.out.mono ?_
   rintro e wh ⟨v8, rfl, ho8, hbh⟩
   obtain ⟨Y3, yn3, rfl, hr8⟩ := ho8.rd
   have HR3_h := Lib.hid hr8
   clear hr8 ho8
   have HE_h := Lib.hid (HE_g.out.trans ((hbh).mono HE_g.out.size)); have hs_h := HE_h.out.size
   have HT_h := Lib.hid (HT_g.out.below hbh htp_g); have htp_h := HT_h.out.pos
   have HVC_h := Lib.hid (HVC_g.out.ext hbh)
   have HBC_h := Lib.hid (((hbh).block _ (blk_lt HBC_g.out)).trans HBC_g.out)
   have HBO_h := Lib.hid (((hbh).block _ (blk_lt HBO_g.out)).trans HBO_g.out)
   have HWW_h := Lib.hid (HWW_g.out.ext hbh)
   have HBW_h := Lib.hid (((hbh).block _ (blk_lt HBW_g.out)).trans HBW_g.out)
   have HWX_h := Lib.hid (HWX_g.out.ext hbh)
   have HBX_h := Lib.hid (((hbh).block _ (blk_lt HBX_g.out)).trans HBX_g.out)
   have HBP_h := Lib.hid (((hbh).block _ (blk_lt HBP_g.out)).trans HBP_g.out)
   have HWY_h := Lib.hid (HWY_g.out.ext hbh)
   have HBY_h := Lib.hid (((hbh).block _ (blk_lt HBY_g.out)).trans HBY_g.out)
   have HR1_h := Lib.hid (HR1_g.out.ext hbh)
   have HR2_h := Lib.hid (HR2_g.out.ext hbh)
   clear HE_g HT_g HVC_g HBC_g HBO_g HWW_g HBW_g HWX_g HBX_g HBP_g HWY_g HBY_g HR1_g HR2_g
   have HEN_h : Hid (wh.cell? ⟨eb, eo + (y.wait.length - 1) * 7 + 2, none⟩ = some (.int .i64 2) ∧ wh.cell? ⟨eb, eo + (y.wait.length - 1) * 7 + 3, none⟩ = some (.int .i64 (11 + (kk : Int))) ∧ wh.cell? ⟨eb, eo + (y.wait.length - 1) * 7 + 4, none⟩ = some (.int .i64 0) ∧ wh.cell? ⟨eb, eo + (y.wait.length - 1) * 7 + 5, none⟩ = some (.int .i64 0) ∧ wh.cell? ⟨eb, eo + (y.wait.length - 1) * 7 + 6, none⟩ = some (.string ⟨#[97, 99]⟩)) := by
    obtain ⟨hq0, hq1, hq2, hq3, hq4⟩ := HEN.out
    obtain ⟨hc9, -⟩ := bcell hbh
    exact ⟨(hc9 _ _ hebl).trans hq0, (hc9 _ _ hebl).trans hq1, (hc9 _ _ hebl).trans hq2, (hc9 _ _ hebl).trans hq3, (hc9 _ _ hebl).trans hq4⟩
   have hebl9 : eb < wh.heap.size := Nat.lt_of_lt_of_le hebl hbh.size
   clear hebl HEN
   have hebl := hebl9
   have HEN := HEN_h
   clear HEN_h hebl9
   clear hbh HSg HC
   have HSh : Hid (wh.cell? ⟨w9.heap.size, 0, none⟩ = some (.int .i64 y.who) ∧ wh.cell? ⟨w9.heap.size, 1, none⟩ = some (.int .i64 y.seen) ∧ wh.cell? ⟨w9.heap.size, 2, none⟩ = some (.slice E1 y.base.length j1) ∧ wh.cell? ⟨w9.heap.size, 3, none⟩ = some (.slice (some ⟨eb, eo, none⟩) y.wait.length j2) ∧ wh.cell? ⟨w9.heap.size, 4, none⟩ = some (.int .i64 y.done) ∧ wh.cell? ⟨w9.heap.size, 5, none⟩ = some (.int .i64 y.made) ∧ wh.cell? ⟨w1.heap.size, 0, none⟩ = some (.int .i64 c.who) ∧ wh.cell? ⟨w1.heap.size, 1, none⟩ = some (.int .i64 c.seen) ∧ wh.cell? ⟨w1.heap.size, 2, none⟩ = some (.slice A1 c.base.length n1) ∧ wh.cell? ⟨w1.heap.size, 3, none⟩ = some (.slice A2 c.wait.length n2) ∧ wh.cell? ⟨w1.heap.size, 4, none⟩ = some (.int .i64 c.done) ∧ wh.cell? ⟨w1.heap.size, 5, none⟩ = some (.int .i64 c.made) ∧ wh.cell? ⟨w1.heap.size + 1, 0, none⟩ = some (.int .i64 o.kind) ∧ wh.cell? ⟨w1.heap.size + 1, 1, none⟩ = some (.int .i64 o.id) ∧ wh.cell? ⟨w1.heap.size + 1, 2, none⟩ = some (.int .i64 o.up) ∧ wh.cell? ⟨w1.heap.size + 1, 3, none⟩ = some (.int .i64 o.pos) ∧ wh.cell? ⟨w1.heap.size + 1, 4, none⟩ = some (.string o.text) ∧ wh.cell? ⟨w7.heap.size, 0, none⟩ = some (.int .i64 2) ∧ wh.cell? ⟨w7.heap.size, 1, none⟩ = some (.int .i64 (11 + (kk : Int))) ∧ wh.cell? ⟨w7.heap.size, 2, none⟩ = some (.int .i64 0) ∧ wh.cell? ⟨w7.heap.size, 3, none⟩ = some (.int .i64 0) ∧ wh.cell? ⟨w7.heap.size, 4, none⟩ = some (.string ⟨#[97, 99]⟩) ∧ wh.cell? ⟨eb, eo + (y.wait.length - 1) * 7 + 2, none⟩ = some (.int .i64 2) ∧ wh.cell? ⟨eb, eo + (y.wait.length - 1) * 7 + 3, none⟩ = some (.int .i64 (11 + (kk : Int))) ∧ wh.cell? ⟨eb, eo + (y.wait.length - 1) * 7 + 4, none⟩ = some (.int .i64 0) ∧ wh.cell? ⟨eb, eo + (y.wait.length - 1) * 7 + 5, none⟩ = some (.int .i64 0) ∧ wh.cell? ⟨eb, eo + (y.wait.length - 1) * 7 + 6, none⟩ = some (.string ⟨#[97, 99]⟩)) := Lib.hid ⟨(six_cells HBY_h.out).1, (six_cells HBY_h.out).2.1, (six_cells HBY_h.out).2.2.1, (six_cells HBY_h.out).2.2.2.1, (six_cells HBY_h.out).2.2.2.2.1, (six_cells HBY_h.out).2.2.2.2.2.1, (six_cells HBC_h.out).1, (six_cells HBC_h.out).2.1, (six_cells HBC_h.out).2.2.1, (six_cells HBC_h.out).2.2.2.1, (six_cells HBC_h.out).2.2.2.2.1, (six_cells HBC_h.out).2.2.2.2.2.1, (five_cells HBO_h.out).1, (five_cells HBO_h.out).2.1, (five_cells HBO_h.out).2.2.1, (five_cells HBO_h.out).2.2.2.1, (five_cells HBO_h.out).2.2.2.2.1, (five_cells HBP_h.out).1, (five_cells HBP_h.out).2.1, (five_cells HBP_h.out).2.2.1, (five_cells HBP_h.out).2.2.2.1, (five_cells HBP_h.out).2.2.2.2.1, HEN.out.1, HEN.out.2.1, HEN.out.2.2.1, HEN.out.2.2.2.1, HEN.out.2.2.2.2⟩
   refine HKK.out _ _ ⟨fun _ => HSh.out, ?_⟩
   clear HKK K
   try simp only [Act.put, List.setIfInBounds_toArray, List.set_cons_zero, List.set_cons_succ]
   have HC := Lib.hid (opDo_c Y3 yn3 (opDo (showL c) o) (opP kk) wh HT_h.out HR3_h.out (by unfold maxLen; show (2 : Nat) ≤ _; decide))
   refine WB.one (i := 7) (by kernel_rfl) rfl (fun K hK => ?_)
   have HKK := Lib.hid hK
   clear hK
   go_simp
   refine HC.out.mono ?_
   rintro e wi ⟨v8, rfl, ho8, hbi⟩
   rw [← HSH.out] at ho8
   obtain ⟨Y4, yn4, rfl, hr8⟩ := ho8.rd
   have HR4_i := Lib.hid hr8
   clear hr8 ho8
   have HE_i := Lib.hid (HE_h.out.trans ((hbi).mono HE_h.out.size)); have hs_i := HE_i.out.size
   have HT_i := Lib.hid (HT_h.out.below hbi htp_h); have htp_i := HT_i.out.pos
   have HVC_i := Lib.hid (HVC_h.out.ext hbi)
   have HBC_i := Lib.hid (((hbi).block _ (blk_lt HBC_h.out)).trans HBC_h.out)
   have HBO_i := Lib.hid (((hbi).block _ (blk_lt HBO_h.out)).trans HBO_h.out)
   have HWW_i := Lib.hid (HWW_h.out.ext hbi)
   have HBW_i := Lib.hid (((hbi).block _ (blk_lt HBW_h.out)).trans HBW_h.out)
   have HWX_i := Lib.hid (HWX_h.out.ext hbi)
   have HBX_i := Lib.hid (((hbi).block _ (blk_lt HBX_h.out)).trans HBX_h.out)
   have HBP_i := Lib.hid (((hbi).block _ (blk_lt HBP_h.out)).trans HBP_h.out)
   have HWY_i := Lib.hid (HWY_h.out.ext hbi)
   have HBY_i := Lib.hid (((hbi).block _ (blk_lt HBY_h.out)).trans HBY_h.out)
   have HR1_i := Lib.hid (HR1_h.out.ext hbi)
   have HR2_i := Lib.hid (HR2_h.out.ext hbi)
   have HR3_i := Lib.hid (HR3_h.out.ext hbi)
   clear HE_h HT_h HVC_h HBC_h HBO_h HWW_h HBW_h HWX_h HBX_h HBP_h HWY_h HBY_h HR1_h HR2_h HR3_h
   have HEN_i : Hid (wi.cell? ⟨eb, eo + (y.wait.length - 1) * 7 + 2, none⟩ = some (.int .i64 2) ∧ wi.cell? ⟨eb, eo + (y.wait.length - 1) * 7 + 3, none⟩ = some (.int .i64 (11 + (kk : Int))) ∧ wi.cell? ⟨eb, eo + (y.wait.length - 1) * 7 + 4, none⟩ = some (.int .i64 0) ∧ wi.cell? ⟨eb, eo + (y.wait.length - 1) * 7 + 5, none⟩ = some (.int .i64 0) ∧ wi.cell? ⟨eb, eo + (y.wait.length - 1) * 7 + 6, none⟩ = some (.string ⟨#[97, 99]⟩)) := by
    obtain ⟨hq0, hq1, hq2, hq3, hq4⟩ := HEN.out
    obtain ⟨hc9, -⟩ := bcell hbi
    exact ⟨(hc9 _ _ hebl).trans hq0, (hc9 _ _ hebl).trans hq1, (hc9 _ _ hebl).trans hq2, (hc9 _ _ hebl).trans hq3, (hc9 _ _ hebl).trans hq4⟩
   have hebl9 : eb < wi.heap.size := Nat.lt_of_lt_of_le hebl hbi.size
   clear hebl HEN
   have hebl := hebl9
   have HEN := HEN_i
   clear HEN_i hebl9
   clear hbi HSh HC
   have HSi : Hid (wi.cell? ⟨w9.heap.size, 0, none⟩ = some (.int .i64 y.who) ∧ wi.cell? ⟨w9.heap.size, 1, none⟩ = some (.int .i64 y.seen) ∧ wi.cell? ⟨w9.heap.size, 2, none⟩ = some (.slice E1 y.base.length j1) ∧ wi.cell? ⟨w9.heap.size, 3, none⟩ = some (.slice (some ⟨eb, eo, none⟩) y.wait.length j2) ∧ wi.cell? ⟨w9.heap.size, 4, none⟩ = some (.int .i64 y.done) ∧ wi.cell? ⟨w9.heap.size, 5, none⟩ = some (.int .i64 y.made) ∧ wi.cell? ⟨w1.heap.size, 0, none⟩ = some (.int .i64 c.who) ∧ wi.cell? ⟨w1.heap.size, 1, none⟩ = some (.int .i64 c.seen) ∧ wi.cell? ⟨w1.heap.size, 2, none⟩ = some (.slice A1 c.base.length n1) ∧ wi.cell? ⟨w1.heap.size, 3, none⟩ = some (.slice A2 c.wait.length n2) ∧ wi.cell? ⟨w1.heap.size, 4, none⟩ = some (.int .i64 c.done) ∧ wi.cell? ⟨w1.heap.size, 5, none⟩ = some (.int .i64 c.made) ∧ wi.cell? ⟨w1.heap.size + 1, 0, none⟩ = some (.int .i64 o.kind) ∧ wi.cell? ⟨w1.heap.size + 1, 1, none⟩ = some (.int .i64 o.id) ∧ wi.cell? ⟨w1.heap.size + 1, 2, none⟩ = some (.int .i64 o.up) ∧ wi.cell? ⟨w1.heap.size + 1, 3, none⟩ = some (.int .i64 o.pos) ∧ wi.cell? ⟨w1.heap.size + 1, 4, none⟩ = some (.string o.text) ∧ wi.cell? ⟨w7.heap.size, 0, none⟩ = some (.int .i64 2) ∧ wi.cell? ⟨w7.heap.size, 1, none⟩ = some (.int .i64 (11 + (kk : Int))) ∧ wi.cell? ⟨w7.heap.size, 2, none⟩ = some (.int .i64 0) ∧ wi.cell? ⟨w7.heap.size, 3, none⟩ = some (.int .i64 0) ∧ wi.cell? ⟨w7.heap.size, 4, none⟩ = some (.string ⟨#[97, 99]⟩) ∧ wi.cell? ⟨eb, eo + (y.wait.length - 1) * 7 + 2, none⟩ = some (.int .i64 2) ∧ wi.cell? ⟨eb, eo + (y.wait.length - 1) * 7 + 3, none⟩ = some (.int .i64 (11 + (kk : Int))) ∧ wi.cell? ⟨eb, eo + (y.wait.length - 1) * 7 + 4, none⟩ = some (.int .i64 0) ∧ wi.cell? ⟨eb, eo + (y.wait.length - 1) * 7 + 5, none⟩ = some (.int .i64 0) ∧ wi.cell? ⟨eb, eo + (y.wait.length - 1) * 7 + 6, none⟩ = some (.string ⟨#[97, 99]⟩)) := Lib.hid ⟨(six_cells HBY_i.out).1, (six_cells HBY_i.out).2.1, (six_cells HBY_i.out).2.2.1, (six_cells HBY_i.out).2.2.2.1, (six_cells HBY_i.out).2.2.2.2.1, (six_cells HBY_i.out).2.2.2.2.2.1, (six_cells HBC_i.out).1, (six_cells HBC_i.out).2.1, (six_cells HBC_i.out).2.2.1, (six_cells HBC_i.out).2.2.2.1, (six_cells HBC_i.out).2.2.2.2.1, (six_cells HBC_i.out).2.2.2.2.2.1, (five_cells HBO_i.out).1, (five_cells HBO_i.out).2.1, (five_cells HBO_i.out).2.2.1, (five_cells HBO_i.out).2.2.2.1, (five_cells HBO_i.out).2.2.2.2.1, (five_cells HBP_i.out).1, (five_cells HBP_i.out).2.1, (five_cells HBP_i.out).2.2.1, (five_cells HBP_i.out).2.2.2.1, (five_cells HBP_i.out).2.2.2.2.1, HEN.out.1, HEN.out.2.1, HEN.out.2.2.1, HEN.out.2.2.2.1, HEN.out.2.2.2.2⟩
   refine HKK.out _ _ ⟨fun _ => HSi.out, ?_⟩
   clear HKK K
   try simp only [Act.put, List.setIfInBounds_toArray, List.set_cons_zero, List.set_cons_succ]
   have HC := Lib.hid (by have h := lpRows_c Y1 yn1 (showL y) Y4 yn4 (showL y) wi HR1_i.out HR4_i.out; rw [show decide (showL y = showL y) = true by simp] at h; exact h)
   refine WB.one (i := 8) (by kernel_rfl) rfl (fun K hK => ?_)
   have HKK := Lib.hid hK
   clear hK
   go_simp
   refine HC.out.mono ?_
   rintro e wj ⟨rfl, m9, hmj⟩
   have hbj : Ext wi wj := by rw [hmj]; exact Ext.drewN (Below.refl _ _) _
   clear hmj
   have HE_j := Lib.hid (HE_i.out.trans ((hbj).mono HE_i.out.size)); have hs_j := HE_j.out.size
   have HT_j := Lib.hid (HT_i.out.below hbj htp_i); have htp_j := HT_j.out.pos
   have HVC_j := Lib.hid (HVC_i.out.ext hbj)
   have HBC_j := Lib.hid (((hbj).block _ (blk_lt HBC_i.out)).trans HBC_i.out)
   have HBO_j := Lib.hid (((hbj).block _ (blk_lt HBO_i.out)).trans HBO_i.out)
   have HWW_j := Lib.hid (HWW_i.out.ext hbj)
   have HBW_j := Lib.hid (((hbj).block _ (blk_lt HBW_i.out)).trans HBW_i.out)
   have HWX_j := Lib.hid (HWX_i.out.ext hbj)
   have HBX_j := Lib.hid (((hbj).block _ (blk_lt HBX_i.out)).trans HBX_i.out)
   have HBP_j := Lib.hid (((hbj).block _ (blk_lt HBP_i.out)).trans HBP_i.out)
   have HWY_j := Lib.hid (HWY_i.out.ext hbj)
   have HBY_j := Lib.hid (((hbj).block _ (blk_lt HBY_i.out)).trans HBY_i.out)
   have HR1_j := Lib.hid (HR1_i.out.ext hbj)
   have HR2_j := Lib.hid (HR2_i.out.ext hbj)
   have HR3_j := Lib.hid (HR3_i.out.ext hbj)
   have HR4_j := Lib.hid (HR4_i.out.ext hbj)
   clear HE_i HT_i HVC_i HBC_i HBO_i HWW_i HBW_i HWX_i HBX_i HBP_i HWY_i HBY_i HR1_i HR2_i HR3_i HR4_i
   have HEN_j : Hid (wj.cell? ⟨eb, eo + (y.wait.length - 1) * 7 + 2, none⟩ = some (.int .i64 2) ∧ wj.cell? ⟨eb, eo + (y.wait.length - 1) * 7 + 3, none⟩ = some (.int .i64 (11 + (kk : Int))) ∧ wj.cell? ⟨eb, eo + (y.wait.length - 1) * 7 + 4, none⟩ = some (.int .i64 0) ∧ wj.cell? ⟨eb, eo + (y.wait.length - 1) * 7 + 5, none⟩ = some (.int .i64 0) ∧ wj.cell? ⟨eb, eo + (y.wait.length - 1) * 7 + 6, none⟩ = some (.string ⟨#[97, 99]⟩)) := by
    obtain ⟨hq0, hq1, hq2, hq3, hq4⟩ := HEN.out
    obtain ⟨hc9, -⟩ := bcell hbj
    exact ⟨(hc9 _ _ hebl).trans hq0, (hc9 _ _ hebl).trans hq1, (hc9 _ _ hebl).trans hq2, (hc9 _ _ hebl).trans hq3, (hc9 _ _ hebl).trans hq4⟩
   have hebl9 : eb < wj.heap.size := Nat.lt_of_lt_of_le hebl hbj.size
   clear hebl HEN
   have hebl := hebl9
   have HEN := HEN_j
   clear HEN_j hebl9
   clear hbj HSi HC
   have HSj : Hid (wj.cell? ⟨w9.heap.size, 0, none⟩ = some (.int .i64 y.who) ∧ wj.cell? ⟨w9.heap.size, 1, none⟩ = some (.int .i64 y.seen) ∧ wj.cell? ⟨w9.heap.size, 2, none⟩ = some (.slice E1 y.base.length j1) ∧ wj.cell? ⟨w9.heap.size, 3, none⟩ = some (.slice (some ⟨eb, eo, none⟩) y.wait.length j2) ∧ wj.cell? ⟨w9.heap.size, 4, none⟩ = some (.int .i64 y.done) ∧ wj.cell? ⟨w9.heap.size, 5, none⟩ = some (.int .i64 y.made) ∧ wj.cell? ⟨w1.heap.size, 0, none⟩ = some (.int .i64 c.who) ∧ wj.cell? ⟨w1.heap.size, 1, none⟩ = some (.int .i64 c.seen) ∧ wj.cell? ⟨w1.heap.size, 2, none⟩ = some (.slice A1 c.base.length n1) ∧ wj.cell? ⟨w1.heap.size, 3, none⟩ = some (.slice A2 c.wait.length n2) ∧ wj.cell? ⟨w1.heap.size, 4, none⟩ = some (.int .i64 c.done) ∧ wj.cell? ⟨w1.heap.size, 5, none⟩ = some (.int .i64 c.made) ∧ wj.cell? ⟨w1.heap.size + 1, 0, none⟩ = some (.int .i64 o.kind) ∧ wj.cell? ⟨w1.heap.size + 1, 1, none⟩ = some (.int .i64 o.id) ∧ wj.cell? ⟨w1.heap.size + 1, 2, none⟩ = some (.int .i64 o.up) ∧ wj.cell? ⟨w1.heap.size + 1, 3, none⟩ = some (.int .i64 o.pos) ∧ wj.cell? ⟨w1.heap.size + 1, 4, none⟩ = some (.string o.text) ∧ wj.cell? ⟨w7.heap.size, 0, none⟩ = some (.int .i64 2) ∧ wj.cell? ⟨w7.heap.size, 1, none⟩ = some (.int .i64 (11 + (kk : Int))) ∧ wj.cell? ⟨w7.heap.size, 2, none⟩ = some (.int .i64 0) ∧ wj.cell? ⟨w7.heap.size, 3, none⟩ = some (.int .i64 0) ∧ wj.cell? ⟨w7.heap.size, 4, none⟩ = some (.string ⟨#[97, 99]⟩) ∧ wj.cell? ⟨eb, eo + (y.wait.length - 1) * 7 + 2, none⟩ = some (.int .i64 2) ∧ wj.cell? ⟨eb, eo + (y.wait.length - 1) * 7 + 3, none⟩ = some (.int .i64 (11 + (kk : Int))) ∧ wj.cell? ⟨eb, eo + (y.wait.length - 1) * 7 + 4, none⟩ = some (.int .i64 0) ∧ wj.cell? ⟨eb, eo + (y.wait.length - 1) * 7 + 5, none⟩ = some (.int .i64 0) ∧ wj.cell? ⟨eb, eo + (y.wait.length - 1) * 7 + 6, none⟩ = some (.string ⟨#[97, 99]⟩)) := Lib.hid ⟨(six_cells HBY_j.out).1, (six_cells HBY_j.out).2.1, (six_cells HBY_j.out).2.2.1, (six_cells HBY_j.out).2.2.2.1, (six_cells HBY_j.out).2.2.2.2.1, (six_cells HBY_j.out).2.2.2.2.2.1, (six_cells HBC_j.out).1, (six_cells HBC_j.out).2.1, (six_cells HBC_j.out).2.2.1, (six_cells HBC_j.out).2.2.2.1, (six_cells HBC_j.out).2.2.2.2.1, (six_cells HBC_j.out).2.2.2.2.2.1, (five_cells HBO_j.out).1, (five_cells HBO_j.out).2.1, (five_cells HBO_j.out).2.2.1, (five_cells HBO_j.out).2.2.2.1, (five_cells HBO_j.out).2.2.2.2.1, (five_cells HBP_j.out).1, (five_cells HBP_j.out).2.1, (five_cells HBP_j.out).2.2.1, (five_cells HBP_j.out).2.2.2.1, (five_cells HBP_j.out).2.2.2.2.1, HEN.out.1, HEN.out.2.1, HEN.out.2.2.1, HEN.out.2.2.2.1, HEN.out.2.2.2.2⟩
   refine HKK.out _ _ ⟨fun _ => HSj.out, ?_⟩
   clear HKK K
   try simp only [Act.put, List.setIfInBounds_toArray, List.set_cons_zero, List.set_cons_succ]
   have hwl : IntKind.i64.wrap ((y.wait.length : Int) - 1) = (y.wait.length : Int) - 1 := by rw [IntKind.wrap_i64]; omega
   have hnl0 : (0 : Int) ≤ (y.wait.length : Int) - 1 := by omega
   have hnl2 : (1 : Int) ≤ (y.wait.length : Int) := by omega
   have hnl1 : (y.wait.length : Int) - 1 < (y.wait.length : Int) := by omega
   have htn : ((y.wait.length : Int) - 1).toNat = y.wait.length - 1 := by omega
   have hu2 := Tryd.underlying42
   refine WB.takePD (i := 9) (d := some 90) (v := ?_) rfl (by kernel_rfl) (by kernel_rfl) (by kernel_rfl) (by kernel_rfl) (by kernel_rfl) (fun _ _ _ h => h) HSj.out (Or.inl ⟨by rfl, ?_⟩) ?_
   rotate_left
   ·(rintro w -; go_simp; try with_reducible rfl)
   try simp only [Act.put, List.setIfInBounds_toArray, List.set_cons_zero, List.set_cons_succ]
   refine WB.takePD (i := 10) (d := some 91) (v := ?_) rfl (by kernel_rfl) (by kernel_rfl) (by kernel_rfl) (by kernel_rfl) (by kernel_rfl) (fun _ _ _ h => h) HSj.out (Or.inl ⟨by rfl, ?_⟩) ?_
   rotate_left
   ·(rintro w -; go_simp; try with_reducible rfl)
   try simp only [Act.put, List.setIfInBounds_toArray, List.set_cons_zero, List.set_cons_succ]
   refine WB.takeD (i := 11) (d := some 92) (v := ?_) rfl (by kernel_rfl) (by kernel_rfl) (by kernel_rfl) (by kernel_rfl) (by kernel_rfl) (fun _ _ _ h => h) HSj.out (Or.inl ⟨by rfl, ?_⟩) ?_
   rotate_left
   ·(rintro w ⟨s0, s1, s2, s3, s4, s5, s6, s7, s8, s9, s10, s11, s12, s13, s14, s15, s16, s17, s18, s19, s20, s21, s22, s23, s24, s25, s26⟩; go_simp; try with_reducible rfl)
   try simp only [Act.put, List.setIfInBounds_toArray, List.set_cons_zero, List.set_cons_succ]
   refine WB.takePD (i := 12) (d := some 93) (v := ?_) rfl (by kernel_rfl) (by kernel_rfl) (by kernel_rfl) (by kernel_rfl) (by kernel_rfl) (fun _ _ _ h => h) HSj.out (Or.inl ⟨by rfl, ?_⟩) ?_
   rotate_left
   ·(rintro w -; go_simp; try with_reducible rfl)
   try simp only [Act.put, List.setIfInBounds_toArray, List.set_cons_zero, List.set_cons_succ]
   refine WB.takeD (i := 13) (d := some 94) (v := ?_) rfl (by kernel_rfl) (by kernel_rfl) (by kernel_rfl) (by kernel_rfl) (by kernel_rfl) (fun _ _ _ h => h) HSj.out (Or.inl ⟨by rfl, ?_⟩) ?_
   rotate_left
   ·(rintro w ⟨s0, s1, s2, s3, s4, s5, s6, s7, s8, s9, s10, s11, s12, s13, s14, s15, s16, s17, s18, s19, s20, s21, s22, s23, s24, s25, s26⟩; go_simp; try with_reducible rfl)
   try simp only [Act.put, List.setIfInBounds_toArray, List.set_cons_zero, List.set_cons_succ]
   refine WB.takePD (i := 14) (d := some 95) (v := ?_) rfl (by kernel_rfl) (by kernel_rfl) (by kernel_rfl) (by kernel_rfl) (by kernel_rfl) (fun _ _ _ h => h) HSj.out (Or.inl ⟨by rfl, ?_⟩) ?_
   rotate_left
   ·(rintro w -; go_simp; try with_reducible rfl)
   try simp only [Act.put, List.setIfInBounds_toArray, List.set_cons_zero, List.set_cons_succ]
   refine WB.takePD (i := 15) (d := some 96) (v := ?_) rfl (by kernel_rfl) (by kernel_rfl) (by kernel_rfl) (by kernel_rfl) (by kernel_rfl) (fun _ _ _ h => h) HSj.out (Or.inl ⟨by rfl, ?_⟩) ?_
   rotate_left
   ·(rintro w -; go_simp; try with_reducible rfl)
   try simp only [Act.put, List.setIfInBounds_toArray, List.set_cons_zero, List.set_cons_succ]
   refine WB.takePD (i := 16) (d := some 97) (v := ?_) rfl (by kernel_rfl) (by kernel_rfl) (by kernel_rfl) (by kernel_rfl) (by kernel_rfl) (fun _ _ _ h => h) HSj.out (Or.inl ⟨by rfl, ?_⟩) ?_
   rotate_left
   ·(rintro w -; go_simp; try with_reducible rfl)
   try simp only [Act.put, List.setIfInBounds_toArray, List.set_cons_zero, List.set_cons_succ]
   refine WB.takePD (i := 17) (d := some 98) (v := ?_) rfl (by kernel_rfl) (by kernel_rfl) (by kernel_rfl) (by kernel_rfl) (by kernel_rfl) (fun _ _ _ h => h) HSj.out (Or.inl ⟨by rfl, ?_⟩) ?_
   rotate_left
   ·(rintro w -; go_simp; try with_reducible rfl)
   try simp only [Act.put, List.setIfInBounds_toArray, List.set_cons_zero, List.set_cons_succ]
   refine WB.takeD (i := 18) (d := some 99) (v := ?_) rfl (by kernel_rfl) (by kernel_rfl) (by kernel_rfl) (by kernel_rfl) (by kernel_rfl) (fun _ _ _ h => h) HSj.out (Or.inl ⟨by rfl, ?_⟩) ?_
   rotate_left
   ·(rintro w ⟨s0, s1, s2, s3, s4, s5, s6, s7, s8, s9, s10, s11, s12, s13, s14, s15, s16, s17, s18, s19, s20, s21, s22, s23, s24, s25, s26⟩; go_simp; try with_reducible rfl)
   try simp only [Act.put, List.setIfInBounds_toArray, List.set_cons_zero, List.set_cons_succ]
   refine WB.takeD (i := 19) (d := some 100) (v := ?_) rfl (by kernel_rfl) (by kernel_rfl) (by kernel_rfl) (by kernel_rfl) (by kernel_rfl) (fun _ _ _ h => h) HSj.out (Or.inl ⟨by rfl, ?_⟩) ?_
   rotate_left
   ·(rintro w ⟨s0, s1, s2, s3, s4, s5, s6, s7, s8, s9, s10, s11, s12, s13, s14, s15, s16, s17, s18, s19, s20, s21, s22, s23, s24, s25, s26⟩; go_simp; try with_reducible rfl)
   try simp only [Act.put, List.setIfInBounds_toArray, List.set_cons_zero, List.set_cons_succ]
   refine WB.takePD (i := 20) (d := some 101) (v := ?_) rfl (by kernel_rfl) (by kernel_rfl) (by kernel_rfl) (by kernel_rfl) (by kernel_rfl) (fun _ _ _ h => h) HSj.out (Or.inl ⟨by rfl, ?_⟩) ?_
   rotate_left
   ·(rintro w -; go_simp; try with_reducible rfl)
   try simp only [Act.put, List.setIfInBounds_toArray, List.set_cons_zero, List.set_cons_succ]
   refine WB.takePD (i := 21) (d := some 102) (v := ?_) rfl (by kernel_rfl) (by kernel_rfl) (by kernel_rfl) (by kernel_rfl) (by kernel_rfl) (fun _ _ _ h => h) HSj.out (Or.inl ⟨by rfl, ?_⟩) ?_
   rotate_left
   ·(rintro w -; go_simp; try with_reducible rfl)
   try simp only [Act.put, List.setIfInBounds_toArray, List.set_cons_zero, List.set_cons_succ]
   refine WB.one (i := 22) (by kernel_rfl) rfl (fun K hK => ?_)
   have HKK := Lib.hid hK
   clear hK
   go_simp
   refine HKK.out _ _ ⟨fun h => (no_late h (by kernel_rfl)).elim, ?_⟩
   clear HKK K
   try simp only [Act.put, List.setIfInBounds_toArray, List.set_cons_zero, List.set_cons_succ]
   refine WB.done (by kernel_rfl) ?_
   go_wp2_with fail
   go_ret
   exact ⟨rfl, HE_j.out⟩
end Go.Proofs.YtjhbbgeebobcpaaDoor
