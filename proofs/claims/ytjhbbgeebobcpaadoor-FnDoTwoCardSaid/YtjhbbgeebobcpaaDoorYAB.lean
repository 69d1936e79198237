/- Walk of spec.ClientDo. .. Plain laws: what hearing makes of a client. -/
import Derived.Test.YtjhbbgeebobcpaaDoorYAA
import Derived.Test.YtjhbbgeebobcpaaDoorZAQ
import Derived.Test.YtjhbbgeebobcpaaDoorZAL
import Derived.Test.YtjhbbgeebobcpaaDoorZAM
import Derived.Test.YtjhbbgeebobcpaaDoorZAR
import Derived.Test.YtjhbbgeebobcpaaDoorZAI
namespace Go.Proofs.YtjhbbgeebobcpaaDoor
open Go.RowKit Go.Lib
set_option linter.unusedVariables false
set_option linter.unusedSimpArgs false
set_option maxRecDepth 100000 in
set_option maxHeartbeats 4000000 in
theorem clientDo_s (c : Client) (v : Value) (o : Op) (w : World) (h : CV w c v) (hc : CW c) (ho : OpW o) (hs : o.text.size ≤ maxLen) :
  Calls Tryd.prog 34 #[v, .agg (cO o)] w fun r w' => ∃ v', r = .returned (.tuple #[v', .bool (clientDo c o).2]) ∧ CV w' (clientDo c o).1 v' ∧ Ext w w' := by
 obtain ⟨A1, n1, A2, n2, rfl, h1, h2⟩ := h
 have h3 := three_all w (oC c A1 n1 A2 n2) (oO o) oC0
 have hE3 : Ext w (((w.alloc (oC c A1 n1 A2 n2)).alloc (oO o)).alloc oC0) := ext3 _ _ _ _
 have HX1 := Lib.hid h3.1; have HX2 := Lib.hid h3.2.1; have HX3 := Lib.hid h3.2.2
 have hV3 : CV (((w.alloc (oC c A1 n1 A2 n2)).alloc (oO o)).alloc oC0) c (.agg (cC c A1 n1 A2 n2)) := ⟨A1, n1, A2, n2, rfl, h1.ext hE3, h2.ext hE3⟩
 have HV := Lib.hid hV3; have HE3 := Lib.hid hE3; have HOW := Lib.hid ho
 have HC := Lib.hid (clientOk_s c _ _ hV3 hc)
 clear h1 h2 h3 hE3 hV3 hc ho
 go_enter Tryd.func34, Tryd.ntmps34
 go_wp2_with fail
 generalize (((w.alloc (oC c A1 n1 A2 n2)).alloc (oO o)).alloc oC0) = W3 at *
 refine HC.out.mono ?_
 rintro e w4 ⟨rfl, hb4⟩
 clear HC
 have HX1_4 := Lib.hid ((hb4.block _ (blk_lt HX1.out)).trans HX1.out); have HX2_4 := Lib.hid ((hb4.block _ (blk_lt HX2.out)).trans HX2.out); have HX3_4 := Lib.hid ((hb4.block _ (blk_lt HX3.out)).trans HX3.out)
 have HV_4 := Lib.hid (HV.out.ext hb4); have HE_4 := Lib.hid (HE3.out.trans (hb4.mono HE3.out.size))
 clear HX1 HX2 HX3 HV HE3 hb4
 cases hok : clientOk c
 ·have HRes : Hid (clientDo c o = (noClient, false)) := by show _ = _; unfold clientDo; rw [hok]; rfl
  obtain ⟨d0, d1, d2, d3, d4, d5, df⟩ := six_cells HX3_4.out
  have hz := put6_at (.int .i64 0) (.int .i64 0) (.slice none 0 0) (.slice none 0 0) (.int .i64 0) (.int .i64 0) HX3_4.out
  have hE := put6_below (.int .i64 0) (.int .i64 0) (.slice none 0 0) (.slice none 0 0) (.int .i64 0) (.int .i64 0) HE_4.out (show w.heap.size ≤ w.heap.size + 1 + 1 from by omega)
  have HZ := Lib.hid hz; have HE := Lib.hid hE
  clear hz hE hok
  go_wp2_with fail
  obtain ⟨k0, k1, k2, k3, k4, k5, kf⟩ := six_cells HZ.out
  refine bodyPost_ret (v := .tuple #[.agg cC0, .bool false]) ?_ rfl ?_
  ·simp [results, Tryd.f34, go_sem, k0, k1, k2, k3, k4, k5]
  ·exact ⟨_, by rw [HRes.out], by rw [HRes.out]; exact CV.no _, HE.out⟩
 have HRes : Hid (clientDo c o = doS c o) := by show _ = _; unfold clientDo; rw [if_pos hok]
 have hbl := treeOk_len (clientOk_parts hok).2.2.2.1
 have hwl := (clientOk_parts hok).2.2.2.2.2.2.1
 have hd0 := (clientOk_parts hok).2.2.2.2.1
 have HOK := Lib.hid hok
 clear hok
 go_upto_region 3 with fail
 refine wp_region_B (fun w' => w'.cell? ⟨w.heap.size, 0, none⟩ = some (.int .i64 c.who) ∧ w'.cell? ⟨w.heap.size, 1, none⟩ = some (.int .i64 c.seen) ∧ w'.cell? ⟨w.heap.size, 2, none⟩ = some (.slice A1 c.base.length n1) ∧ w'.cell? ⟨w.heap.size, 3, none⟩ = some (.slice A2 c.wait.length n2) ∧ w'.cell? ⟨w.heap.size, 4, none⟩ = some (.int .i64 c.done) ∧ w'.cell? ⟨w.heap.size, 5, none⟩ = some (.int .i64 c.made) ∧ w'.cell? ⟨w.heap.size + 1, 0, none⟩ = some (.int .i64 o.kind) ∧ w'.cell? ⟨w.heap.size + 1, 1, none⟩ = some (.int .i64 o.id) ∧ w'.cell? ⟨w.heap.size + 1, 2, none⟩ = some (.int .i64 o.up) ∧ w'.cell? ⟨w.heap.size + 1, 3, none⟩ = some (.int .i64 o.pos) ∧ w'.cell? ⟨w.heap.size + 1, 4, none⟩ = some (.string o.text)) 6 (by kernel_rfl) ?_
 have hb5 : Ext w4 w4.drew := (Below.refl _ _).drew
 generalize w4.drew = w5 at *
 have HX1_5 := Lib.hid ((hb5.block _ (blk_lt HX1_4.out)).trans HX1_4.out); have HX2_5 := Lib.hid ((hb5.block _ (blk_lt HX2_4.out)).trans HX2_4.out); have HX3_5 := Lib.hid ((hb5.block _ (blk_lt HX3_4.out)).trans HX3_4.out)
 have HV_5 := Lib.hid (HV_4.out.ext hb5); have HE_5 := Lib.hid (HE_4.out.trans (hb5.mono HE_4.out.size))
 clear HX1_4 HX2_4 HX3_4 HV_4 HE_4
 clear hb5
 have HS : Hid (w5.cell? ⟨w.heap.size, 0, none⟩ = some (.int .i64 c.who) ∧ w5.cell? ⟨w.heap.size, 1, none⟩ = some (.int .i64 c.seen) ∧ w5.cell? ⟨w.heap.size, 2, none⟩ = some (.slice A1 c.base.length n1) ∧ w5.cell? ⟨w.heap.size, 3, none⟩ = some (.slice A2 c.wait.length n2) ∧ w5.cell? ⟨w.heap.size, 4, none⟩ = some (.int .i64 c.done) ∧ w5.cell? ⟨w.heap.size, 5, none⟩ = some (.int .i64 c.made) ∧ w5.cell? ⟨w.heap.size + 1, 0, none⟩ = some (.int .i64 o.kind) ∧ w5.cell? ⟨w.heap.size + 1, 1, none⟩ = some (.int .i64 o.id) ∧ w5.cell? ⟨w.heap.size + 1, 2, none⟩ = some (.int .i64 o.up) ∧ w5.cell? ⟨w.heap.size + 1, 3, none⟩ = some (.int .i64 o.pos) ∧ w5.cell? ⟨w.heap.size + 1, 4, none⟩ = some (.string o.text)) := Lib.hid ⟨(six_cells HX1_5.out).1, (six_cells HX1_5.out).2.1, (six_cells HX1_5.out).2.2.1, (six_cells HX1_5.out).2.2.2.1, (six_cells HX1_5.out).2.2.2.2.1, (six_cells HX1_5.out).2.2.2.2.2.1, (five_cells HX2_5.out).1, (five_cells HX2_5.out).2.1, (five_cells HX2_5.out).2.2.1, (five_cells HX2_5.out).2.2.2.1, (five_cells HX2_5.out).2.2.2.2.1⟩
 refine WB.take (i := 0) (v := ?_) rfl (by kernel_rfl) (by kernel_rfl) (by kernel_rfl) (by kernel_rfl) (fun _ _ _ h => h) HS.out (Or.inl ⟨by rfl, ?_⟩) ?_
 rotate_left
 ·(rintro w ⟨s0, s1, s2, s3, s4, s5, s6, s7, s8, s9, s10⟩; go_simp; try with_reducible rfl)
 try simp only [Act.put, List.setIfInBounds_toArray, List.set_cons_zero, List.set_cons_succ]
 refine WB.take (i := 2) (v := ?_) rfl (by kernel_rfl) (by kernel_rfl) (by kernel_rfl) (by kernel_rfl) (fun _ _ _ h => h) HS.out (Or.inl ⟨by rfl, ?_⟩) ?_
 rotate_left
 ·(rintro w ⟨s0, s1, s2, s3, s4, s5, s6, s7, s8, s9, s10⟩; go_simp; try with_reducible rfl)
 try simp only [Act.put, List.setIfInBounds_toArray, List.set_cons_zero, List.set_cons_succ]
 refine WB.one (i := 1) (by kernel_rfl) rfl (fun K hK => ?_)
 have HKK := Lib.hid hK
 clear hK
 go_simp
 refine (copy_s c _ w5 HV_5.out (by omega) (by omega)).mono ?_
 rintro e w6 ⟨v6, rfl, co6, hb6⟩
 have HX1_6 := Lib.hid ((hb6.block _ (blk_lt HX1_5.out)).trans HX1_5.out); have HX2_6 := Lib.hid ((hb6.block _ (blk_lt HX2_5.out)).trans HX2_5.out); have HX3_6 := Lib.hid ((hb6.block _ (blk_lt HX3_5.out)).trans HX3_5.out)
 have HV_6 := Lib.hid (HV_5.out.ext hb6); have HE_6 := Lib.hid (HE_5.out.trans (hb6.mono HE_5.out.size))
 clear HX1_5 HX2_5 HX3_5 HV_5 HE_5
 clear hb6
 have HS6 : Hid (w6.cell? ⟨w.heap.size, 0, none⟩ = some (.int .i64 c.who) ∧ w6.cell? ⟨w.heap.size, 1, none⟩ = some (.int .i64 c.seen) ∧ w6.cell? ⟨w.heap.size, 2, none⟩ = some (.slice A1 c.base.length n1) ∧ w6.cell? ⟨w.heap.size, 3, none⟩ = some (.slice A2 c.wait.length n2) ∧ w6.cell? ⟨w.heap.size, 4, none⟩ = some (.int .i64 c.done) ∧ w6.cell? ⟨w.heap.size, 5, none⟩ = some (.int .i64 c.made) ∧ w6.cell? ⟨w.heap.size + 1, 0, none⟩ = some (.int .i64 o.kind) ∧ w6.cell? ⟨w.heap.size + 1, 1, none⟩ = some (.int .i64 o.id) ∧ w6.cell? ⟨w.heap.size + 1, 2, none⟩ = some (.int .i64 o.up) ∧ w6.cell? ⟨w.heap.size + 1, 3, none⟩ = some (.int .i64 o.pos) ∧ w6.cell? ⟨w.heap.size + 1, 4, none⟩ = some (.string o.text)) := Lib.hid ⟨(six_cells HX1_6.out).1, (six_cells HX1_6.out).2.1, (six_cells HX1_6.out).2.2.1, (six_cells HX1_6.out).2.2.2.1, (six_cells HX1_6.out).2.2.2.2.1, (six_cells HX1_6.out).2.2.2.2.2.1, (five_cells HX2_6.out).1, (five_cells HX2_6.out).2.1, (five_cells HX2_6.out).2.2.1, (five_cells HX2_6.out).2.2.2.1, (five_cells HX2_6.out).2.2.2.2.1⟩
 have HCT := Lib.hid co6.ct
 refine HKK.out _ _ ⟨fun _ => HS6.out, ?_⟩
 clear HKK K HS co6
 try simp only [Act.put, List.setIfInBounds_toArray, List.set_cons_zero, List.set_cons_succ]
 refine WB.one (i := 3) (by kernel_rfl) rfl (fun K hK => ?_)
 have HKK := Lib.hid hK
 clear hK
 go_simp
 refine (do21_s c v6 o w6 HCT.out HOK.out HOW.out hs).mono ?_
 rintro e w7 ⟨v7, rfl, ct7, hb7⟩
 have HX1_7 := Lib.hid ((hb7.block _ (blk_lt HX1_6.out)).trans HX1_6.out); have HX2_7 := Lib.hid ((hb7.block _ (blk_lt HX2_6.out)).trans HX2_6.out); have HX3_7 := Lib.hid ((hb7.block _ (blk_lt HX3_6.out)).trans HX3_6.out)
 have HV_7 := Lib.hid (HV_6.out.ext hb7); have HE_7 := Lib.hid (HE_6.out.trans (hb7.mono HE_6.out.size))
 clear HX1_6 HX2_6 HX3_6 HV_6 HE_6
 clear hb7
 have HS7 : Hid (w7.cell? ⟨w.heap.size, 0, none⟩ = some (.int .i64 c.who) ∧ w7.cell? ⟨w.heap.size, 1, none⟩ = some (.int .i64 c.seen) ∧ w7.cell? ⟨w.heap.size, 2, none⟩ = some (.slice A1 c.base.length n1) ∧ w7.cell? ⟨w.heap.size, 3, none⟩ = some (.slice A2 c.wait.length n2) ∧ w7.cell? ⟨w.heap.size, 4, none⟩ = some (.int .i64 c.done) ∧ w7.cell? ⟨w.heap.size, 5, none⟩ = some (.int .i64 c.made) ∧ w7.cell? ⟨w.heap.size + 1, 0, none⟩ = some (.int .i64 o.kind) ∧ w7.cell? ⟨w.heap.size + 1, 1, none⟩ = some (.int .i64 o.id) ∧ w7.cell? ⟨w.heap.size + 1, 2, none⟩ = some (.int .i64 o.up) ∧ w7.cell? ⟨w.heap.size + 1, 3, none⟩ = some (.int .i64 o.pos) ∧ w7.cell? ⟨w.heap.size + 1, 4, none⟩ = some (.string o.text)) := Lib.hid ⟨(six_cells HX1_7.out).1, (six_cells HX1_7.out).2.1, (six_cells HX1_7.out).2.2.1, (six_cells HX1_7.out).2.2.2.1, (six_cells HX1_7.out).2.2.2.2.1, (six_cells HX1_7.out).2.2.2.2.2.1, (five_cells HX2_7.out).1, (five_cells HX2_7.out).2.1, (five_cells HX2_7.out).2.2.1, (five_cells HX2_7.out).2.2.2.1, (five_cells HX2_7.out).2.2.2.2.1⟩
 obtain ⟨E1, j1, E2, j2, rfl, g1, g2⟩ := ct7
 have hz := put6_at (.int .i64 (doS c o).1.who) (.int .i64 (doS c o).1.seen) (.slice E1 (doS c o).1.base.length j1) (.slice E2 (doS c o).1.wait.length j2) (.int .i64 (doS c o).1.done) (.int .i64 (doS c o).1.made) HX3_7.out
 have hE := put6_below (.int .i64 (doS c o).1.who) (.int .i64 (doS c o).1.seen) (.slice E1 (doS c o).1.base.length j1) (.slice E2 (doS c o).1.wait.length j2) (.int .i64 (doS c o).1.done) (.int .i64 (doS c o).1.made) HE_7.out (show w.heap.size ≤ w.heap.size + 1 + 1 from by omega)
 have hq1 := g1.put6 HX3_7.out (by decide) (.int .i64 (doS c o).1.who) (.int .i64 (doS c o).1.seen) (.slice E1 (doS c o).1.base.length j1) (.slice E2 (doS c o).1.wait.length j2) (.int .i64 (doS c o).1.done) (.int .i64 (doS c o).1.made)
 have hq2 := g2.put6 HX3_7.out (by decide) (.int .i64 (doS c o).1.who) (.int .i64 (doS c o).1.seen) (.slice E1 (doS c o).1.base.length j1) (.slice E2 (doS c o).1.wait.length j2) (.int .i64 (doS c o).1.done) (.int .i64 (doS c o).1.made)
 have HF := Lib.hid (⟨hz, hE, hq1, hq2⟩ : _ ∧ _ ∧ _ ∧ _)
 clear hz hE hq1 hq2 g1 g2
 refine HKK.out _ _ ⟨fun _ => HS7.out, ?_⟩
 clear HKK K HS6
 try simp only [Act.put, List.setIfInBounds_toArray, List.set_cons_zero, List.set_cons_succ]
 refine WB.takeP (i := 4) (v := ?_) rfl (by kernel_rfl) (by kernel_rfl) (by kernel_rfl) (by kernel_rfl) (fun _ _ _ h => h) HS7.out (Or.inl ⟨by rfl, ?_⟩) ?_
 rotate_left
 ·(rintro w -; go_simp; try with_reducible rfl)
 try simp only [Act.put, List.setIfInBounds_toArray, List.set_cons_zero, List.set_cons_succ]
 refine WB.takeP (i := 5) (v := ?_) rfl (by kernel_rfl) (by kernel_rfl) (by kernel_rfl) (by kernel_rfl) (fun _ _ _ h => h) HS7.out (Or.inl ⟨by rfl, ?_⟩) ?_
 rotate_left
 ·(rintro w -; go_simp; try with_reducible rfl)
 try simp only [Act.put, List.setIfInBounds_toArray, List.set_cons_zero, List.set_cons_succ]
 have z0 := (six_cells HX3_7.out).1
 have z1 := (six_cells HX3_7.out).2.1
 have z2 := (six_cells HX3_7.out).2.2.1
 have z3 := (six_cells HX3_7.out).2.2.2.1
 have z4 := (six_cells HX3_7.out).2.2.2.2.1
 have z5 := (six_cells HX3_7.out).2.2.2.2.2.1
 have zf := (six_cells HX3_7.out).2.2.2.2.2.2
 refine WB.one (i := 6) (by kernel_rfl) rfl (fun K hK => ?_)
 have HKK := Lib.hid hK
 clear hK
 go_simp
 refine HKK.out _ _ ⟨fun h => (no_late h (by kernel_rfl)).elim, ?_⟩
 clear HKK K z0 z1 z2 z3 z4 z5 zf
 try simp only [Act.put, List.setIfInBounds_toArray, List.set_cons_zero, List.set_cons_succ]
 refine WB.one (i := 7) (by kernel_rfl) rfl (fun K hK => ?_)
 have HKK := Lib.hid hK
 clear hK
 go_simp
 refine HKK.out _ _ ⟨fun h => (no_late h (by kernel_rfl)).elim, ?_⟩
 clear HKK K
 refine WB.done (by kernel_rfl) ?_
 go_wp2_with fail
 obtain ⟨hz, hE, hq1, hq2⟩ := HF.out
 obtain ⟨k0, k1, k2, k3, k4, k5, kf⟩ := six_cells hz
 refine bodyPost_ret (v := .tuple #[.agg #[.int .i64 (doS c o).1.who, .int .i64 (doS c o).1.seen, .slice E1 (doS c o).1.base.length j1, .slice E2 (doS c o).1.wait.length j2, .int .i64 (doS c o).1.done, .int .i64 (doS c o).1.made], .bool (doS c o).2]) ?_ rfl ?_
 ·simp [results, Tryd.f34, go_sem, k0, k1, k2, k3, k4, k5]
 ·exact ⟨_, by rw [HRes.out], by rw [HRes.out]; exact CT.cv ⟨E1, j1, E2, j2, rfl, hq1, hq2⟩, hE⟩
end Go.Proofs.YtjhbbgeebobcpaaDoor
namespace Go.Proofs.YtjhbbgeebobcpaaDoor
open Go.RowKit
set_option linter.unusedVariables false
namespace T
theorem put_perm (t : T) (nd : (ids t).Nodup) (id : Int) (tx : ByteArray) (s : T) (p : Int × Int) (hp : p.1 ∈ ids t) (hp2 : 0 < p.2 → p.2 ∈ ids t) : (ids (put t id tx s p)).Perm (id :: (ids s ++ ids t)) := by
 unfold put
 split
 ·rename_i h0; exact insN_perm p.2 id tx s t (hp2 h0) nd
 ·exact insF_perm p.1 id tx s t hp nd
theorem doT_ids (t : T) (h : Valid t) (o : Op) (ho : opOk o = true) : (∀ a ∈ ids t, a ∈ ids (doT t o)) ∧ (o.kind = 1 → o.id ∈ ids (doT t o)) := by
 obtain ⟨hm, hk, htx, hpos⟩ := opOk_kind ho
 have hr3 := h.root 3 rfl
 have hroot : isRoot o.id = false := made_not_root _ hm
 have hn := near_ok t h.2.2 hr3.1 o.id o.up o.pos
 unfold doT
 rcases hk with hk | hk | hk
 ·rw [if_neg (by omega), if_pos hk]
  split
  ·rename_i hi; exact ⟨fun a ha => ha, fun _ => hi⟩
  ·have hpm := put_perm t h.2.2 o.id o.text nil (near t o.id o.up o.pos) hn.1 (fun h0 => by
    obtain ⟨e, _, hu, _⟩ := hn.2 h0
    rw [e] at h0 ⊢
    exact up_mem t h.2.2 _ _ hu)
   exact ⟨fun a ha => hpm.mem_iff.2 (List.mem_cons_of_mem _ (List.mem_append_right _ ha)), fun _ => hpm.mem_iff.2 List.mem_cons_self⟩
 ·rw [if_pos hk, setT_ids]
  exact ⟨fun a ha => ha, fun h1 => by omega⟩
 ·rw [if_neg (by omega), if_neg (by omega), if_pos hk]
  refine ⟨?_, fun h1 => by omega⟩
  cases hg : get o.id t with
  |none => exact fun a ha => ha
  |some p =>
   obtain ⟨x, f⟩ := p
   simp only
   split
   ·exact fun a ha => ha
   ·rename_i hq
    obtain ⟨hndc, hsub, hback, hfwd⟩ := cut_facts t h.2.2 o.id x f hg
    have h3f : 3 ∉ ids f := by
     intro h3
     obtain ⟨q, hq, _⟩ := under_in t h.2.2 o.id x f hg 3 h3
     rw [hr3.2] at hq; cases hq
    have hpm := put_perm (cut o.id t) hndc o.id x f (near t o.id o.up o.pos) (by
     unfold near
     split
     ·rename_i hu
      exact hback o.up hu (fun e => hq (.inl e)) (fun e => hq (.inr e))
     ·exact hback 3 hr3.1 (fun e => by rw [← e] at hroot; cases hroot) h3f) (fun h0 => by
     obtain ⟨e, hne, hu, hup⟩ := hn.2 h0
     rw [e] at h0 ⊢
     rw [hup] at hu
     exact hback o.pos (up_mem t h.2.2 _ _ hu) hne (fun hf => hq ((under_step t h.2.2 o.id x f hg o.pos o.up hu).1 hf)))
    intro a ha
    rw [hpm.mem_iff, List.mem_cons, List.mem_append]
    by_cases e1 : a = o.id
    ·exact .inl e1
    ·by_cases e2 : a ∈ ids f
     ·exact .inr (.inl e2)
     ·exact .inr (.inr (hback a ha e1 e2))
end T
def idsL (t : List Row) : List Int := t.map (·.id)
theorem idsL_build {t : List Row} (ht : treeOk t = true) : idsL t = T.ids (T.build t) ∧ (idsL t).Nodup := by
 obtain ⟨hv, he⟩ := T.valid_build t ht
 have h1 : idsL t = T.ids (T.build t) := by
  have := T.rows_ids 0 (T.build t)
  rw [he] at this; exact this
 exact ⟨h1, by rw [h1]; exact hv.2.2⟩
theorem doL_ids {t : List Row} {o : Op} (ht : treeOk t = true) (ho : opOk o = true) : (∀ a ∈ idsL t, a ∈ idsL (doL t o)) ∧ (o.kind = 1 → o.id ∈ idsL (doL t o)) := by
 obtain ⟨h1, h2⟩ := T.doT_ids (T.build t) (T.valid_build t ht).1 o ho
 have h3 : idsL (doL t o) = T.ids (T.doT (T.build t) o) := by rw [doL_build t o ht ho]; exact T.rows_ids 0 _
 rw [(idsL_build ht).1, h3]
 exact ⟨h1, h2⟩
theorem runOps_ids (l : List Entry) : ∀ t : List Row, treeOk t = true → (∀ e ∈ l, opOk e.op = true) → treeOk (runOps t l) = true ∧ (∀ a ∈ idsL t, a ∈ idsL (runOps t l)) ∧ (∀ e ∈ l, e.op.kind = 1 → e.op.id ∈ idsL (runOps t l)) := by
 induction l with
 |nil => intro t ht _; exact ⟨ht, fun a ha => ha, by simp⟩
 |cons e l ih =>
  intro t ht hl
  have ho := hl e List.mem_cons_self
  have hod : opDo t e.op = doL t e.op := by unfold opDo; rw [ht, ho]; rfl
  have h1 := doL_ids ht ho
  rw [← hod] at h1
  have htn : treeOk (opDo t e.op) = true := by rw [hod]; exact treeOk_do t _ ht ho
  obtain ⟨a1, a2, a3⟩ := ih (opDo t e.op) htn (fun x hx => hl x (List.mem_cons_of_mem _ hx))
  refine ⟨a1, fun a ha => a2 a (h1.1 a ha), fun x hx hk => ?_⟩
  rcases List.mem_cons.1 hx with rfl | hx
  ·exact a2 _ (h1.2 hk)
  ·exact a3 x hx hk
theorem runOps_long {l : List Entry} {t : List Row} (ht : treeOk t = true) (hl : ∀ e ∈ l, opOk e.op = true) : t.length ≤ (runOps t l).length := by
 have h := runOps_ids l t ht hl
 have := T.nodup_le (idsL t) (idsL (runOps t l)) (idsL_build ht).2 h.2.1
 simpa [idsL] using this
end Go.Proofs.YtjhbbgeebobcpaaDoor
namespace Go.Proofs.YtjhbbgeebobcpaaDoor
open Go.RowKit
set_option linter.unusedVariables false
theorem showL_showS (c : Client) : showL c = showS c := by
 unfold showL showS
 split
 ·rename_i h
  exact treeFrom_op (clientOk_parts h).2.2.2.1 (waitOk_ent (clientOk_parts h).2.2.2.2.2.2.2.2.2)
 ·rfl
theorem showL_ok {c : Client} (h : clientOk c = true) : showL c = runOps c.base c.wait ∧ treeOk (showL c) = true ∧ (∀ a ∈ idsL c.base, a ∈ idsL (showL c)) ∧ (∀ e ∈ c.wait, e.op.kind = 1 → e.op.id ∈ idsL (showL c)) ∧ c.base.length ≤ (showL c).length := by
 have hp := clientOk_parts h
 have hw := waitOk_ent hp.2.2.2.2.2.2.2.2.2
 have h1 : showL c = runOps c.base c.wait := by unfold showL; rw [if_pos h]
 rw [h1]
 obtain ⟨a1, a2, a3⟩ := runOps_ids c.wait c.base hp.2.2.2.1 hw
 exact ⟨rfl, a1, a2, a3, runOps_long hp.2.2.2.1 hw⟩
theorem atI_in {t : List Row} {id : Int} (h : id ∈ idsL t) : 0 ≤ atI t id := by
 unfold atI
 cases hx : idx t id with
 |some k => show (0 : Int) ≤ (k : Int); omega
 |none => exact absurd h ((idx_none t id).1 hx)
set_option maxRecDepth 100000 in
set_option maxHeartbeats 1000000 in
theorem lpAt_c (A : Option Addr) (c : Nat) (t : List Row) (id : Int) (w : World) (hr : Rd w A c t) :
  Calls Tryd.prog 26 #[.slice A t.length c, .int .i64 id] w fun e w' => e = .returned (.int .i64 (atI t id)) ∧ w' = w := by
 have hm : t.length ≤ maxLen := Nat.le_trans hr.1 hr.2.1
 unfold maxLen at hm
 have HR := Lib.hid hr
 clear hr
 go_enter Tryd.func26, Tryd.ntmps26
 go_wp2_with fail
 go_loop [5] (fun i => ∃ k : Nat, k ≤ t.length ∧ i = .int .i64 k ∧ Hid (∀ j (hj : j < t.length), j < k → t[j].id ≠ id)) (fun i => t.length - (intOf i).toNat)
 case atStart => exact ⟨0, Nat.zero_le _, rfl, fun j _ h => by omega⟩
 case round =>
  obtain ⟨k, hk, rfl, HA⟩ := hrel
  by_cases hlt : k < t.length
  ·obtain ⟨b, off, rfl, hbl, c0, c1, c2⟩ := row_at HR.out k hlt
   by_cases he : t[k].id = id
   ·have he' : (t[k].id == id) = true := by simp [he]
    have HX : Hid (atI t id = k) := by show _ = _; unfold atI; rw [idx_first t id k hlt HA.out he]
    clear he c1 c2
    go_wp2_with fail
    go_ret
    exact ⟨by rw [HX.out]; rfl, rfl⟩
   ·have he' : (t[k].id == id) = false := by simp [he]
    have HN : Hid (∀ j (hj : j < t.length), j < k + 1 → t[j].id ≠ id) := fun j hj hjk => by
     by_cases e : j = k
     ·subst e; exact he
     ·exact HA.out j hj (by omega)
    clear he c1 c2
    go_wp2_with fail
    go_round
    case rel => exact ⟨k + 1, by omega, by go_num, HN⟩
    case measure => simp [intOf]; omega
  ·have HX : Hid (atI t id = -1) := by show _ = _; unfold atI; rw [idx_no t id (fun j hj => HA.out j hj (by omega))]
   go_wp2_with fail
   go_ret
   exact ⟨by rw [HX.out]; rfl, rfl⟩
end Go.Proofs.YtjhbbgeebobcpaaDoor
namespace Go.Proofs.YtjhbbgeebobcpaaDoor
open Go.RowKit
set_option linter.unusedVariables false
def ownN (who : Int) (l : List Entry) : Nat := l.countP (fun e => decide (e.who = who))
theorem ownN_cons (who : Int) (e : Entry) (l : List Entry) : ownN who (e :: l) = ownN who l + if e.who = who then 1 else 0 := by
 unfold ownN; rw [List.countP_cons]; simp
theorem hearL_some (who : Int) : ∀ (l q : List Entry) (t : List Row) (d n : Int) (q' : List Entry) (t' : List Row) (d' n' : Int), hearL who l q t d n = some (q', t', d', n') →
  q' = q.drop (ownN who l) ∧ ownN who l ≤ q.length ∧ t' = runOps t l ∧ d' = d + ownN who l ∧ n' = n + l.length := by
 intro l
 induction l with
 |nil =>
  intro q t d n q' t' d' n' h
  simp only [hearL, Option.some.injEq, Prod.mk.injEq] at h
  obtain ⟨rfl, rfl, rfl, rfl⟩ := h
  exact ⟨by simp [ownN], by simp [ownN], rfl, by simp [ownN], by simp⟩
 |cons e l ih =>
  intro q t d n q' t' d' n' h
  rw [ownN_cons]
  unfold hearL at h
  by_cases hw : e.who = who
  ·rw [if_pos hw] at h ⊢
   cases q with
   |nil => simp at h
   |cons e0 q0 =>
    simp only at h
    split at h
    ·obtain ⟨a1, a2, a3, a4, a5⟩ := ih _ _ _ _ _ _ _ _ h
     refine ⟨by rw [a1]; rfl, by simp only [List.length_cons]; omega, by rw [a3]; rfl, by rw [a4]; omega, by rw [a5]; simp only [List.length_cons]; omega⟩
    ·cases h
  ·rw [if_neg hw] at h ⊢
   obtain ⟨a1, a2, a3, a4, a5⟩ := ih _ _ _ _ _ _ _ _ h
   exact ⟨a1, a2, by rw [a3]; rfl, a4, by rw [a5]; simp only [List.length_cons]; omega⟩
theorem hearL_cons (who : Int) (e : Entry) (l q : List Entry) (t : List Row) (d n : Int) : hearL who (e :: l) q t d n = if e.who = who then (match q with | e0 :: q' => if e0 = e then hearL who l q' (opDo t e.op) (d + 1) (n + 1) else none | [] => none) else hearL who l q (opDo t e.op) d (n + 1) := by
 cases q <;> rfl
theorem hearL_append (who : Int) : ∀ (l m q : List Entry) (t : List Row) (d n : Int), hearL who (l ++ m) q t d n = (hearL who l q t d n).bind fun p => hearL who m p.1 p.2.1 p.2.2.1 p.2.2.2 := by
 intro l
 induction l with
 |nil => intro m q t d n; rfl
 |cons e l ih =>
  intro m q t d n
  rw [List.cons_append, hearL_cons, hearL_cons]
  by_cases hw : e.who = who
  ·rw [if_pos hw, if_pos hw]
   cases q with
   |nil => rfl
   |cons e0 q0 =>
    simp only
    by_cases he : e0 = e
    ·rw [if_pos he, if_pos he]; exact ih _ _ _ _ _
    ·rw [if_neg he, if_neg he]; rfl
  ·rw [if_neg hw, if_neg hw]; exact ih _ _ _ _ _
theorem hearL_own (who : Int) : ∀ (l : List Entry) (t : List Row) (d n : Int), (∀ e ∈ l, e.who = who) → hearL who l l t d n = some ([], runOps t l, d + l.length, n + l.length) := by
 intro l
 induction l with
 |nil => intro t d n _; simp [hearL, runOps]
 |cons e l ih =>
  intro t d n h
  unfold hearL
  rw [if_pos (h e List.mem_cons_self)]
  simp only [if_true]
  rw [ih _ _ _ (fun x hx => h x (List.mem_cons_of_mem _ hx))]
  simp only [Option.some.injEq, Prod.mk.injEq, List.length_cons, true_and]
  refine ⟨rfl, by omega, by omega⟩
theorem waitOk_who {c : Client} (h : waitOk c = true) : ∀ e ∈ c.wait, entryOk e = true ∧ e.who = c.who := fun e he => by
 obtain ⟨k, hk, rfl⟩ := List.getElem_of_mem he
 have h1 := waitOk_at h k hk
 unfold waitAt at h1
 simp only [Bool.and_eq_true, decide_eq_true_eq] at h1
 exact ⟨h1.1.1.1, h1.1.1.2⟩
theorem hear_own {c : Client} (h : clientOk c = true) (hl : c.seen + c.wait.length ≤ 40) : clientHear c c.seen c.wait = (⟨c.who, c.seen + c.wait.length, runOps c.base c.wait, [], c.done + c.wait.length, c.made⟩, true) := by
 obtain ⟨hw9, hs0, hs40, htr, hd0, hd1, hwl, hm0, hm1, hwt⟩ := clientOk_parts h
 rw [clientHear_S c c.seen c.wait h hs0 hs40 (fun e he => (waitOk_who hwt e he).1)]
 unfold hearS
 rw [if_neg (by omega), show (c.seen - c.seen).toNat = 0 by omega, List.drop_zero, hearL_own c.who c.wait c.base c.done c.seen (fun e he => (waitOk_who hwt e he).2)]
theorem clientHear_true {c : Client} {frm : Int} {l : List Entry} (h : (clientHear c frm l).2 = true) : clientOk c = true ∧ 0 ≤ frm ∧ frm ≤ 40 ∧ (∀ e ∈ l, entryOk e = true) ∧ frm ≤ c.seen ∧ frm + l.length ≤ 40 ∧
  ∃ q t d n, hearL c.who (l.drop (c.seen - frm).toNat) c.wait c.base c.done c.seen = some (q, t, d, n) ∧ clientHear c frm l = (⟨c.who, n, t, q, d, c.made⟩, true) := by
 by_cases hb : clientOk c = false ∨ frm < 0 ∨ 40 < frm
 ·unfold clientHear at h; rw [if_pos hb] at h; cases h
 have hok : clientOk c = true := by
  cases h9 : clientOk c
  ·exact absurd (.inl h9) hb
  ·rfl
 have h0 : ¬ frm < 0 := fun e => hb (.inr (.inl e))
 have h1 : ¬ 40 < frm := fun e => hb (.inr (.inr e))
 cases hall : l.all entryOk
 ·unfold clientHear at h; rw [if_neg hb, if_pos hall] at h; cases h
 have hall' : ∀ x ∈ l, entryOk x = true := List.all_eq_true.1 hall
 have hS := clientHear_S c frm l hok (by omega) (by omega) hall'
 rw [hS] at h ⊢
 refine ⟨hok, by omega, by omega, hall', ?_⟩
 unfold hearS at h ⊢
 by_cases hf : c.seen < frm ∨ 40 - frm < l.length
 ·rw [if_pos hf] at h; cases h
 rw [if_neg hf] at h ⊢
 refine ⟨by omega, by omega, ?_⟩
 cases hh : hearL c.who (l.drop (c.seen - frm).toNat) c.wait c.base c.done c.seen with
 |none => rw [hh] at h; cases h
 |some p =>
  obtain ⟨q, t, d, n⟩ := p
  exact ⟨q, t, d, n, rfl, rfl⟩
end Go.Proofs.YtjhbbgeebobcpaaDoor
