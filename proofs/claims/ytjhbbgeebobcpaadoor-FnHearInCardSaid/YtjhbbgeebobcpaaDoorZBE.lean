/- The walk of laws.FnHearIn, over what is drawn. .. What a row gives: a slice of bytes as an argument; the table of the rows' owners. -/
import Derived.Test.YtjhbbgeebobcpaaDoorZBD
import Derived.Test.YtjhbbgeebobcpaaDoorZAQ
import Derived.Test.YtjhbbgeebobcpaaDoorZAN
import Derived.Test.YtjhbbgeebobcpaaDoorCards
import Derived.Test.YtjhbbgeebobcpaaDoorTie
import Derived.WalkKit
import Derived.ProofKit
import Derived.OpenShut
import Derived.OpenVars
import Derived.ChangeVars
import Derived.ChangeSlices
import Derived.ChangeOld
import Derived.Below
import Derived.Carry
import Derived.Deep.DeepHandedRow
import Derived.Lib.LaidTab
namespace Go.Proofs.YtjhbbgeebobcpaaDoor
open Go.RowKit Go.Lib
set_option linter.unusedVariables false
set_option linter.unusedSimpArgs false
section
variable {P : Program} {ops : Array Oper} {Q : Exit → Act → World → Prop} {md : Region.Mode} {S : World → Prop} {n : Nat}
theorem WB.takeD {i : Nat} {d : Option Nat} {oi : Oper} {v : Value} {k : Nat} {l : Array Bool} {a : Act} {w : World} (hi : ops[i]? = some oi) (hd : oi.dst = d)
  (hs : Region.noSelect ops = true) (hf : Region.free md ops l i = true) (hr : (Region.ready md ops l).contains i = true) (hl : (waitB md ops n i && (n != i && !(l.getD n true))) = true)
  (hQ : ∀ c a w, Q (.panic c) (a.put oi.dst v) w → Q (.panic c) a w) (hS : S w) (hy : YieldsIf P ops S oi v a)
  (h : WB P md ops Q S n k (l.setIfInBounds i true) (a.put d v) w) : WB P md ops Q S n (k + 1) l a w := by
 subst hd; exact WB.take hi hs hf hr hl hQ hS hy h
theorem WB.takePD {i : Nat} {d : Option Nat} {oi : Oper} {v : Value} {k : Nat} {l : Array Bool} {a : Act} {w : World} (hi : ops[i]? = some oi) (hd : oi.dst = d)
  (hs : Region.noSelect ops = true) (hf : Region.free md ops l i = true) (hr : (Region.ready md ops l).contains i = true) (hl : (n != i) = true)
  (hQ : ∀ c a w, Q (.panic c) (a.put oi.dst v) w → Q (.panic c) a w) (hS : S w) (hy : YieldsIf P ops (fun _ => True) oi v a)
  (h : WB P md ops Q S n k (l.setIfInBounds i true) (a.put d v) w) : WB P md ops Q S n (k + 1) l a w := by
 subst hd; exact WB.takeP hi hs hf hr hl hQ hS hy h
end
theorem own_le (who : Int) (l : List Entry) : ownN who l ≤ l.length := List.countP_le_length
theorem in_step (who : Int) (base : List Row) (l : List Entry) (k0 k : Nat) (h : k0 ≤ k) (hl : k < l.length) :
  runOps base ((l.drop k0).take (k + 1 - k0)) = opDo (runOps base ((l.drop k0).take (k - k0))) l[k].op ∧ ownN who ((l.drop k0).take (k + 1 - k0)) = ownN who ((l.drop k0).take (k - k0)) + if l[k].who = who then 1 else 0 := by
 have h1 : k - k0 < (l.drop k0).length := by rw [List.length_drop]; omega
 have h2 : (l.drop k0)[k - k0] = l[k] := by rw [List.getElem_drop]; congr 1; omega
 have h3 : (l.drop k0).take (k + 1 - k0) = (l.drop k0).take (k - k0) ++ [l[k]] := by
  rw [show k + 1 - k0 = (k - k0) + 1 by omega, List.take_succ_eq_append_getElem h1, h2]
 rw [h3]
 refine ⟨?_, ?_⟩
 ·unfold runOps; rw [List.foldl_append]; rfl
 ·unfold ownN; rw [List.countP_append]; simp [List.countP_cons]
theorem hear_in {c : Client} {frm : Int} {l : List Entry} (h : (clientHear c frm l).2 = true) :
  let x := (clientHear c frm l).1; let m := l.drop (c.seen - frm).toNat
  (0 ≤ c.seen ∧ c.seen ≤ 40 ∧ 0 ≤ frm ∧ frm ≤ c.seen ∧ frm + l.length ≤ 40) ∧ max c.seen (frm + l.length) = x.seen ∧ runOps c.base m = x.base ∧ ownN c.who m ≤ c.wait.length ∧ c.wait.drop (ownN c.who m) = x.wait ∧ (c.done + ownN c.who m = x.done ∧ 0 ≤ c.done ∧ c.done ≤ 40) ∧ x.made = c.made ∧ clientOk x = true ∧ (c.wait.length ≤ 40) ∧ l.length ≤ 40 := by
 obtain ⟨hok, h0, h1, hall, hf, hl, q, t, d, n, hh, he⟩ := clientHear_true h
 have hS := clientHear_S c frm l hok h0 h1 hall
 have hx := hearS_ok hok h0 hall
 rw [← hS, he] at hx
 obtain ⟨hw9, hs0, hs40, htr, hd0, hd1, hwl, hm0, hm1, hwt⟩ := clientOk_parts hok
 obtain ⟨a1, a2, a3, a4, a5⟩ := hearL_some _ _ _ _ _ _ _ _ _ _ hh
 rw [he]
 dsimp only
 rw [List.length_drop] at a5
 refine ⟨⟨hs0, hs40, h0, hf, hl⟩, ?_, a3.symm, a2, a1.symm, ⟨a4.symm, hd0, by omega⟩, rfl, hx, by omega, by omega⟩
 rw [a5]; omega
set_option maxRecDepth 100000 in
set_option maxHeartbeats 4000000 in
theorem hearIn_walk (A : Option Addr) (n : Nat) (bs : List UInt8) (w : World) (ht : Tab w) (hr : Rd w A n bs) (hA : ∀ b off, A = some ⟨b, off, none⟩ → b < w.heap.size) :
  Calls Tryd.prog 7 #[.slice A bs.length n] w fun e w' => e = .returned (.bool true) ∧ Ext w w' := by
 have hm : bs.length ≤ maxLen := Nat.le_trans hr.1 hr.2.1
 unfold maxLen at hm
 have htp_0 := ht.pos
 have HT_0 := Lib.hid ht
 have HDR := Lib.hid (drawHear_d A n bs w hr hA)
 clear hr hA ht
 go_enter Tryd.func7, Tryd.ntmps7
 by_cases hlong : (1048576 : Int) < bs.length
 ·go_wp2_with fail
  go_ret
  exact ⟨rfl, Below.refl _ _⟩
 go_wp2_with fail
 refine HDR.out.mono ?_
 rintro e w1 ⟨c, v, frm, l, L, ln, rfl, ⟨A1, n1, A2, n2, rfl, h1, h2⟩, hcw, hrl, hop, hll, hf0, hf1, hb1⟩
 have hs_1 := hb1.size
 have HCW := Lib.hid hcw; have HOP := Lib.hid hop
 obtain ⟨x, ok, hxo⟩ : ∃ x ok, clientHear c frm l = (x, ok) := ⟨_, _, rfl⟩
 have HXO := Lib.hid hxo
 have hE2 : Ext w1 (w1.alloc (oC c A1 n1 A2 n2)) := (Below.refl _ _).alloc (Nat.le_refl _) _
 have HE_2 := Lib.hid (hb1.trans (hE2.mono hs_1)); have hs_2 := HE_2.out.size
 have HT_2 := Lib.hid (HT_0.out.below HE_2.out htp_0); have htp_2 := HT_2.out.pos
 have HVC_2 : Hid (CV (w1.alloc (oC c A1 n1 A2 n2)) c (.agg (cC c A1 n1 A2 n2))) := ⟨A1, n1, A2, n2, rfl, h1.ext hE2, h2.ext hE2⟩
 have HRL_2 := Lib.hid (hrl.ext hE2)
 have HBC_2 := Lib.hid (World.alloc_heap_new w1 (oC c A1 n1 A2 n2))
 have hz_2 := alloc_sz w1 (oC c A1 n1 A2 n2)
 clear hE2 h1 h2 hcw hrl hop hxo HDR hb1 HT_0
 go_wp2_with fail
 generalize (w1.alloc (oC c A1 n1 A2 n2)) = w2 at *
 have hS := clientHear_s c _ frm L ln l w2 HVC_2.out HRL_2.out HCW.out HOP.out (by omega)
 rw [HXO.out] at hS
 refine hS.mono ?_
 clear hS
 rintro e w3 ⟨v3, rfl, co3, hb3⟩
 have HE_3 := Lib.hid (HE_2.out.trans ((hb3).mono HE_2.out.size)); have hs_3 := HE_3.out.size
 have HT_3 := Lib.hid (HT_2.out.below hb3 htp_2); have htp_3 := HT_3.out.pos
 have HVC_3 := Lib.hid (HVC_2.out.ext hb3)
 have HRL_3 := Lib.hid (HRL_2.out.ext hb3)
 have HBC_3 := Lib.hid (((hb3).block _ (blk_lt HBC_2.out)).trans HBC_2.out)
 clear HE_2 HT_2 HVC_2 HRL_2 HBC_2
 obtain ⟨B1, m1, B2, m2, rfl, g1, g2⟩ := co3.cv
 have hE4 : Ext w3 (w3.alloc (oC x B1 m1 B2 m2)) := (Below.refl _ _).alloc (Nat.le_refl _) _
 have HWW_4 : Hid (CV (w3.alloc (oC x B1 m1 B2 m2)) x (.agg (cC x B1 m1 B2 m2))) := ⟨B1, m1, B2, m2, rfl, g1.ext hE4, g2.ext hE4⟩
 have HBW_4 := Lib.hid (World.alloc_heap_new w3 (oC x B1 m1 B2 m2))
 have hz_4 := alloc_sz w3 (oC x B1 m1 B2 m2)
 have HE_4 := Lib.hid (HE_3.out.trans ((hE4).mono HE_3.out.size)); have hs_4 := HE_4.out.size
 have HT_4 := Lib.hid (HT_3.out.below hE4 htp_3); have htp_4 := HT_4.out.pos
 have HVC_4 := Lib.hid (HVC_3.out.ext hE4)
 have HRL_4 := Lib.hid (HRL_3.out.ext hE4)
 have HBC_4 := Lib.hid (((hE4).block _ (blk_lt HBC_3.out)).trans HBC_3.out)
 clear HE_3 HT_3 HVC_3 HRL_3 HBC_3
 clear hE4 g1 g2
 obtain ⟨c00, c01, c02, c03, c04, c05, c0f⟩ := six_cells HBC_4.out
 go_wp2_with fail
 generalize (w3.alloc (oC x B1 m1 B2 m2)) = w4 at *
 clear hb3 co3
 clear c00 c01 c02 c03 c04 c05 c0f
 have hS := clientHear_c c _ frm L ln l w4 HT_4.out HVC_4.out HRL_4.out
 rw [HXO.out] at hS
 refine hS.mono ?_
 clear hS
 rintro e w5 ⟨v5, rfl, co5, hb5⟩
 have HE_5 := Lib.hid (HE_4.out.trans ((hb5).mono HE_4.out.size)); have hs_5 := HE_5.out.size
 have HT_5 := Lib.hid (HT_4.out.below hb5 htp_4); have htp_5 := HT_5.out.pos
 have HVC_5 := Lib.hid (HVC_4.out.ext hb5)
 have HRL_5 := Lib.hid (HRL_4.out.ext hb5)
 have HBC_5 := Lib.hid (((hb5).block _ (blk_lt HBC_4.out)).trans HBC_4.out)
 have HWW_5 := Lib.hid (HWW_4.out.ext hb5)
 have HBW_5 := Lib.hid (((hb5).block _ (blk_lt HBW_4.out)).trans HBW_4.out)
 clear HE_4 HT_4 HVC_4 HRL_4 HBC_4 HWW_4 HBW_4
 obtain ⟨D1, k1, D2, k2, rfl, g1, g2⟩ := co5.cv
 have hE6 : Ext w5 (w5.alloc (oC x D1 k1 D2 k2)) := (Below.refl _ _).alloc (Nat.le_refl _) _
 have HWX_6 : Hid (CV (w5.alloc (oC x D1 k1 D2 k2)) x (.agg (cC x D1 k1 D2 k2))) := ⟨D1, k1, D2, k2, rfl, g1.ext hE6, g2.ext hE6⟩
 have HBX_6 := Lib.hid (World.alloc_heap_new w5 (oC x D1 k1 D2 k2))
 have hz_6 := alloc_sz w5 (oC x D1 k1 D2 k2)
 have HE_6 := Lib.hid (HE_5.out.trans ((hE6).mono HE_5.out.size)); have hs_6 := HE_6.out.size
 have HT_6 := Lib.hid (HT_5.out.below hE6 htp_5); have htp_6 := HT_6.out.pos
 have HVC_6 := Lib.hid (HVC_5.out.ext hE6)
 have HRL_6 := Lib.hid (HRL_5.out.ext hE6)
 have HBC_6 := Lib.hid (((hE6).block _ (blk_lt HBC_5.out)).trans HBC_5.out)
 have HWW_6 := Lib.hid (HWW_5.out.ext hE6)
 have HBW_6 := Lib.hid (((hE6).block _ (blk_lt HBW_5.out)).trans HBW_5.out)
 clear HE_5 HT_5 HVC_5 HRL_5 HBC_5 HWW_5 HBW_5
 clear hE6 g1 g2
 clear hb5 co5
 obtain ⟨c00, c01, c02, c03, c04, c05, c0f⟩ := six_cells HBC_6.out
 obtain ⟨c10, c11, c12, c13, c14, c15, c1f⟩ := six_cells HBW_6.out
 obtain ⟨c20, c21, c22, c23, c24, c25, c2f⟩ := six_cells HBX_6.out
 cases ok with
 |false =>
  go_wp2_with fail
  generalize (w5.alloc (oC x D1 k1 D2 k2)) = w6 at *
  clear c00 c01 c02 c03 c04 c05 c0f c10 c11 c12 c13 c14 c15 c1f c20 c21 c22 c23 c24 c25 c2f
  have hS := lpClient_c x x _ _ w6 HWX_6.out HWW_6.out
  rw [clientEq_self] at hS
  refine hS.mono ?_
  clear hS
  rintro e w7 ⟨rfl, hb7⟩
  have HE_7 := Lib.hid (HE_6.out.trans ((hb7).mono HE_6.out.size)); have hs_7 := HE_7.out.size
  have HT_7 := Lib.hid (HT_6.out.below hb7 htp_6); have htp_7 := HT_7.out.pos
  have HVC_7 := Lib.hid (HVC_6.out.ext hb7)
  have HRL_7 := Lib.hid (HRL_6.out.ext hb7)
  have HBC_7 := Lib.hid (((hb7).block _ (blk_lt HBC_6.out)).trans HBC_6.out)
  have HWW_7 := Lib.hid (HWW_6.out.ext hb7)
  have HBW_7 := Lib.hid (((hb7).block _ (blk_lt HBW_6.out)).trans HBW_6.out)
  have HWX_7 := Lib.hid (HWX_6.out.ext hb7)
  have HBX_7 := Lib.hid (((hb7).block _ (blk_lt HBX_6.out)).trans HBX_6.out)
  clear HE_6 HT_6 HVC_6 HRL_6 HBC_6 HWW_6 HBW_6 HWX_6 HBX_6
  clear hb7
  obtain ⟨c00, c01, c02, c03, c04, c05, c0f⟩ := six_cells HBC_7.out
  obtain ⟨c10, c11, c12, c13, c14, c15, c1f⟩ := six_cells HBW_7.out
  obtain ⟨c20, c21, c22, c23, c24, c25, c2f⟩ := six_cells HBX_7.out
  go_wp2_with fail
  clear c00 c01 c02 c03 c04 c05 c0f c10 c11 c12 c13 c14 c15 c1f c20 c21 c22 c23 c24 c25 c2f
  have hS := lpClient_c x x _ _ w7 HWX_7.out HWW_7.out
  rw [clientEq_self] at hS
  refine hS.mono ?_
  clear hS
  rintro e w8 ⟨rfl, hb8⟩
  have HE_8 := Lib.hid (HE_7.out.trans ((hb8).mono HE_7.out.size)); have hs_8 := HE_8.out.size
  have HT_8 := Lib.hid (HT_7.out.below hb8 htp_7); have htp_8 := HT_8.out.pos
  have HVC_8 := Lib.hid (HVC_7.out.ext hb8)
  have HRL_8 := Lib.hid (HRL_7.out.ext hb8)
  have HBC_8 := Lib.hid (((hb8).block _ (blk_lt HBC_7.out)).trans HBC_7.out)
  have HWW_8 := Lib.hid (HWW_7.out.ext hb8)
  have HBW_8 := Lib.hid (((hb8).block _ (blk_lt HBW_7.out)).trans HBW_7.out)
  have HWX_8 := Lib.hid (HWX_7.out.ext hb8)
  have HBX_8 := Lib.hid (((hb8).block _ (blk_lt HBX_7.out)).trans HBX_7.out)
  clear HE_7 HT_7 HVC_7 HRL_7 HBC_7 HWW_7 HBW_7 HWX_7 HBX_7
  clear hb8
  go_wp2_with fail
  go_ret
  exact ⟨rfl, HE_8.out⟩
 |true =>
  obtain ⟨k0, hk0⟩ : ∃ k0, k0 = (c.seen - frm).toNat := ⟨_, rfl⟩
  have hin := hear_in (c := c) (frm := frm) (l := l) (by rw [HXO.out])
  rw [HXO.out, ← hk0] at hin
  dsimp only at hin
  obtain ⟨i0, i1, i2, i3, i4, i5, i6, i7, i8, i9⟩ := hin
  have I1 := Lib.hid i1; have I2 := Lib.hid i2; have I3 := Lib.hid i3; have I4 := Lib.hid i4; have I5 := Lib.hid i5; have I6 := Lib.hid i6; have I7 := Lib.hid i7; have I8 := Lib.hid i8; have HK0 := Lib.hid hk0; have I9 := Lib.hid i9; have I0 := Lib.hid i0
  clear i0 i1 i2 i3 i4 i5 i6 i7 i8 i9 hk0
  go_wp2_with fail
  generalize (w5.alloc (oC x D1 k1 D2 k2)) = w6 at *
  clear c00 c01 c02 c03 c04 c05 c0f c10 c11 c12 c13 c14 c15 c1f c20 c21 c22 c23 c24 c25 c2f
  have hS := lpClient_c x x _ _ w6 HWX_6.out HWW_6.out
  rw [clientEq_self] at hS
  refine hS.mono ?_
  clear hS
  rintro e w7 ⟨rfl, hb7⟩
  have HE_7 := Lib.hid (HE_6.out.trans ((hb7).mono HE_6.out.size)); have hs_7 := HE_7.out.size
  have HT_7 := Lib.hid (HT_6.out.below hb7 htp_6); have htp_7 := HT_7.out.pos
  have HVC_7 := Lib.hid (HVC_6.out.ext hb7)
  have HRL_7 := Lib.hid (HRL_6.out.ext hb7)
  have HBC_7 := Lib.hid (((hb7).block _ (blk_lt HBC_6.out)).trans HBC_6.out)
  have HWW_7 := Lib.hid (HWW_6.out.ext hb7)
  have HBW_7 := Lib.hid (((hb7).block _ (blk_lt HBW_6.out)).trans HBW_6.out)
  have HWX_7 := Lib.hid (HWX_6.out.ext hb7)
  have HBX_7 := Lib.hid (((hb7).block _ (blk_lt HBX_6.out)).trans HBX_6.out)
  clear HE_6 HT_6 HVC_6 HRL_6 HBC_6 HWW_6 HBW_6 HWX_6 HBX_6
  clear hb7
  obtain ⟨c00, c01, c02, c03, c04, c05, c0f⟩ := six_cells HBC_7.out
  obtain ⟨c10, c11, c12, c13, c14, c15, c1f⟩ := six_cells HBW_7.out
  obtain ⟨c20, c21, c22, c23, c24, c25, c2f⟩ := six_cells HBX_7.out
  have hws : IntKind.i64.wrap (c.seen - frm) = c.seen - frm := by have := I0.out; rw [IntKind.wrap_i64]; omega
  have hmx : max (c.seen - frm) 0 = (k0 : Int) := by have := HK0.out; have := I0.out; omega
  go_wp2_with fail
  clear c00 c01 c02 c03 c04 c05 c0f c10 c11 c12 c13 c14 c15 c1f c20 c21 c22 c23 c24 c25 c2f
  clear hws hmx
  go_loopg [10, 11, 12] (l.length - k0) (fun gk x o i wr => ∃ (k : Nat) (B : Option Addr) (bn : Nat), k0 ≤ k ∧ Hid (gk = l.length - k) ∧ i = .int .i64 k ∧ o = .int .i64 (ownN c.who ((l.drop k0).take (k - k0))) ∧ x = .slice B (runOps c.base ((l.drop k0).take (k - k0))).length bn ∧ Hid (Rd wr B bn (runOps c.base ((l.drop k0).take (k - k0)))) ∧ Hid (Ext w7 wr))
  case atStart => exact ⟨k0, A1, n1, Nat.le_refl _, rfl, rfl, by simp [ownN], by simp [runOps], by have h := HVC_7.out; obtain ⟨_, _, _, _, e9, g1, g2⟩ := h; simp at e9; obtain ⟨⟨rfl, rfl⟩, -, -⟩ := e9; show Rd _ _ _ _; simpa [runOps] using g1, Below.refl _ _⟩
  case round =>
   obtain ⟨k, B, bn, hk, HK, rfl, rfl, rfl, HB, HW⟩ := hrel
   obtain ⟨w9, rfl⟩ : ∃ w9 : World, w9 = wr := ⟨_, rfl⟩
   have HE_9 := Lib.hid (HE_7.out.trans ((HW.out).mono HE_7.out.size)); have hs_9 := HE_9.out.size
   have HT_9 := Lib.hid (HT_7.out.below HW.out htp_7); have htp_9 := HT_9.out.pos
   have HVC_9 := Lib.hid (HVC_7.out.ext HW.out)
   have HRL_9 := Lib.hid (HRL_7.out.ext HW.out)
   have HBC_9 := Lib.hid (((HW.out).block _ (blk_lt HBC_7.out)).trans HBC_7.out)
   have HWW_9 := Lib.hid (HWW_7.out.ext HW.out)
   have HBW_9 := Lib.hid (((HW.out).block _ (blk_lt HBW_7.out)).trans HBW_7.out)
   have HWX_9 := Lib.hid (HWX_7.out.ext HW.out)
   have HBX_9 := Lib.hid (((HW.out).block _ (blk_lt HBX_7.out)).trans HBX_7.out)
   clear HE_7 HT_7 HVC_7 HRL_7 HBC_7 HWW_7 HBW_7 HWX_7 HBX_7
   by_cases hlt : k < l.length
   ·
    obtain ⟨c00, c01, c02, c03, c04, c05, c0f⟩ := six_cells HBC_9.out
    obtain ⟨b, off, rfl, hbl2, e0, e1, e2, e3, e4, e5, e6⟩ := ent_at HRL_9.out k hlt
    have hst := in_step c.who c.base l k0 k hk hlt
    have HC9 := Lib.hid (opDo_c B bn (runOps c.base ((l.drop k0).take (k - k0))) l[k].op w9 HT_9.out HB.out (HRL_9.out.okAt k hlt))
    have hob : (ownN c.who ((l.drop k0).take (k - k0)) : Nat) ≤ 40 := by
     have := own_le c.who ((l.drop k0).take (k - k0)); have h2 : ((l.drop k0).take (k - k0)).length ≤ l.length := by rw [List.length_take, List.length_drop]; omega
     have := I9.out; omega
    have HN := Lib.hid hst
    have hli : (k : Int) < l.length := by omega
    have hkb : (k : Int) < 40 := by have := I9.out; omega
    clear hst
    generalize runOps c.base ((l.drop k0).take (k - k0)) = tk at *
    generalize ownN c.who ((l.drop k0).take (k - k0)) = ow at *
    go_wp2_with fail
    refine HC9.out.mono ?_
    rintro e wa ⟨v8, rfl, ho8, hba⟩
    have HO8 := Lib.hid ho8
    clear ho8 HC9
    clear c00 c01 c02 c03 c04 c05 c0f
    clear e0 e1 e2 e3 e4 e5 e6
    have HE_a := Lib.hid (HE_9.out.trans ((hba).mono HE_9.out.size)); have hs_a := HE_a.out.size
    have HT_a := Lib.hid (HT_9.out.below hba htp_9); have htp_a := HT_a.out.pos
    have HVC_a := Lib.hid (HVC_9.out.ext hba)
    have HRL_a := Lib.hid (HRL_9.out.ext hba)
    have HBC_a := Lib.hid (((hba).block _ (blk_lt HBC_9.out)).trans HBC_9.out)
    have HWW_a := Lib.hid (HWW_9.out.ext hba)
    have HBW_a := Lib.hid (((hba).block _ (blk_lt HBW_9.out)).trans HBW_9.out)
    have HWX_a := Lib.hid (HWX_9.out.ext hba)
    have HBX_a := Lib.hid (((hba).block _ (blk_lt HBX_9.out)).trans HBX_9.out)
    have HWa := Lib.hid (HW.out.trans (hba.mono HW.out.size))
    clear hba
    clear HE_9 HT_9 HVC_9 HRL_9 HBC_9 HWW_9 HBW_9 HWX_9 HBX_9
    obtain ⟨c00, c01, c02, c03, c04, c05, c0f⟩ := six_cells HBC_a.out
    obtain ⟨b', off', hbo, -, e0, -, -, -, -, -, -⟩ := ent_at HRL_a.out k hlt
    simp only [Option.some.injEq, Addr.mk.injEq, and_true] at hbo
    obtain ⟨rfl, rfl⟩ := hbo
    obtain ⟨B2, bn2, rfl, hr8⟩ := HO8.out.rd
    have HR8 := Lib.hid hr8
    clear hr8 HO8
    go_upto_region 14 with fail
    refine wp_region_B (fun w' => w'.cell? ⟨b, off + k * 7, none⟩ = some (.int .i64 l[k].who) ∧ w'.cell? ⟨w1.heap.size, 0, none⟩ = some (.int .i64 c.who)) 7 (by kernel_rfl) ?_
    have hbd : Ext wa wa.drew := (Below.refl _ _).drew
    have HS : Hid (wa.drew.cell? ⟨b, off + k * 7, none⟩ = some (.int .i64 l[k].who) ∧ wa.drew.cell? ⟨w1.heap.size, 0, none⟩ = some (.int .i64 c.who)) := Lib.hid ⟨e0, c00⟩
    generalize wa.drew = wd at *
    clear c00 c01 c02 c03 c04 c05 c0f
    clear e0
    refine WB.takeP (i := 0) (v := ?_) rfl (by kernel_rfl) (by kernel_rfl) (by kernel_rfl) (by kernel_rfl) (fun _ _ _ h => h) HS.out (Or.inl ⟨by rfl, ?_⟩) ?_
    rotate_left
    ·(rintro w -; go_simp; try with_reducible rfl)
    try simp only [Act.put, List.setIfInBounds_toArray, List.set_cons_zero, List.set_cons_succ]
    refine WB.takeP (i := 1) (v := ?_) rfl (by kernel_rfl) (by kernel_rfl) (by kernel_rfl) (by kernel_rfl) (fun _ _ _ h => h) HS.out (Or.inl ⟨by rfl, ?_⟩) ?_
    rotate_left
    ·(rintro w -; go_simp; try with_reducible rfl)
    try simp only [Act.put, List.setIfInBounds_toArray, List.set_cons_zero, List.set_cons_succ]
    refine WB.takeP (i := 2) (v := ?_) rfl (by kernel_rfl) (by kernel_rfl) (by kernel_rfl) (by kernel_rfl) (fun _ _ _ h => h) HS.out (Or.inl ⟨by rfl, ?_⟩) ?_
    rotate_left
    ·(rintro w -; go_simp; try with_reducible rfl)
    try simp only [Act.put, List.setIfInBounds_toArray, List.set_cons_zero, List.set_cons_succ]
    refine WB.takeP (i := 3) (v := ?_) rfl (by kernel_rfl) (by kernel_rfl) (by kernel_rfl) (by kernel_rfl) (fun _ _ _ h => h) HS.out (Or.inl ⟨by rfl, ?_⟩) ?_
    rotate_left
    ·(rintro w -; go_simp; try with_reducible rfl)
    try simp only [Act.put, List.setIfInBounds_toArray, List.set_cons_zero, List.set_cons_succ]
    refine WB.take (i := 4) (v := ?_) rfl (by kernel_rfl) (by kernel_rfl) (by kernel_rfl) (by kernel_rfl) (fun _ _ _ h => h) HS.out (Or.inl ⟨by rfl, ?_⟩) ?_
    rotate_left
    ·(rintro w ⟨s0, s1⟩; go_simp; try with_reducible rfl)
    try simp only [Act.put, List.setIfInBounds_toArray, List.set_cons_zero, List.set_cons_succ]
    refine WB.takeP (i := 5) (v := ?_) rfl (by kernel_rfl) (by kernel_rfl) (by kernel_rfl) (by kernel_rfl) (fun _ _ _ h => h) HS.out (Or.inl ⟨by rfl, ?_⟩) ?_
    rotate_left
    ·(rintro w -; go_simp; try with_reducible rfl)
    try simp only [Act.put, List.setIfInBounds_toArray, List.set_cons_zero, List.set_cons_succ]
    refine WB.take (i := 6) (v := ?_) rfl (by kernel_rfl) (by kernel_rfl) (by kernel_rfl) (by kernel_rfl) (fun _ _ _ h => h) HS.out (Or.inl ⟨by rfl, ?_⟩) ?_
    rotate_left
    ·(rintro w ⟨s0, s1⟩; go_simp; try with_reducible rfl)
    try simp only [Act.put, List.setIfInBounds_toArray, List.set_cons_zero, List.set_cons_succ]
    refine WB.one (i := 7) (by kernel_rfl) rfl (fun K hK => ?_)
    have HKK := Lib.hid hK
    clear hK
    go_simp
    refine HKK.out _ _ ⟨fun h => (no_late h (by kernel_rfl)).elim, ?_⟩
    clear HKK K HS
    try simp only [Act.put, List.setIfInBounds_toArray, List.set_cons_zero, List.set_cons_succ]
    refine WB.done (by kernel_rfl) ?_
    have HWd := Lib.hid (HWa.out.trans (hbd.mono HWa.out.size))
    have hbdx := Lib.hid hbd
    clear hbd
    clear HE_a HT_a HVC_a HRL_a HBC_a HWW_a HBW_a HWX_a HBX_a
    by_cases hwq : l[k].who = c.who
    ·
     have hn := HN.out
     rw [if_pos hwq] at hn
     have HN9 := Lib.hid hn
     clear hn HN
     have hwo : IntKind.i64.wrap ((ow : Int) + 1) = (ow : Int) + 1 := by rw [IntKind.wrap_i64]; omega
     have hwk : IntKind.i64.wrap ((k : Int) + 1) = (k : Int) + 1 := by rw [IntKind.wrap_i64]; omega
     go_wp2_with fail
     go_roundg (l.length - (k + 1))
     case measure => have := HK.out; omega
     case rel =>
      have hn := HN9.out
      refine ⟨k + 1, B2, bn2, by omega, rfl, by go_num, ?_, by rw [hn.1], by rw [hn.1]; exact HR8.out.ext hbdx.out, HWd.out⟩
      rw [hn.2]
      rfl
    ·
     have hn := HN.out
     rw [if_neg hwq] at hn
     have HN9 := Lib.hid hn
     clear hn HN
     have hwk : IntKind.i64.wrap ((k : Int) + 1) = (k : Int) + 1 := by rw [IntKind.wrap_i64]; omega
     go_wp2_with fail
     go_roundg (l.length - (k + 1))
     case measure => have := HK.out; omega
     case rel =>
      have hn := HN9.out
      refine ⟨k + 1, B2, bn2, by omega, rfl, by go_num, ?_, by rw [hn.1], by rw [hn.1]; exact HR8.out.ext hbdx.out, HWd.out⟩
      rw [hn.2]
      simp
   ·
    have htk : (l.drop k0).take (k - k0) = l.drop k0 := List.take_of_length_le (by rw [List.length_drop]; omega)
    rw [htk] at HB ⊢
    have hB := HB.out
    rw [I2.out] at hB
    have HBX9 := Lib.hid hB
    rw [I2.out]
    clear hB HB htk
    obtain ⟨i3, i4, i5, i7, i8⟩ : _ ∧ _ ∧ _ ∧ _ ∧ _ := ⟨I3.out, I4.out, I5.out, I7.out, I8.out⟩
    generalize ownN c.who (l.drop k0) = ow at *
    have hli : ¬ ((k : Int) < l.length) := by omega
    have hwf : IntKind.i64.wrap (frm + (l.length : Int)) = frm + (l.length : Int) := by have := I0.out; rw [IntKind.wrap_i64]; omega
    have hmx : max c.seen (frm + (l.length : Int)) = x.seen := I1.out
    have hxl : x.wait.length = c.wait.length - ow := by rw [← i4, List.length_drop]
    have hwo : IntKind.i64.wrap ((c.wait.length : Int) - (ow : Int)) = (x.wait.length : Int) := by rw [IntKind.wrap_i64]; omega
    have hwd : IntKind.i64.wrap (c.done + (ow : Int)) = x.done := by rw [IntKind.wrap_i64]; omega
    have hmd : c.made = x.made := I6.out.symm
    have hoi : (ow : Int) ≤ c.wait.length := by omega
    have hsl : ∀ W : World, (Instr.slice 23 (.slice A2 c.wait.length n2) (some (.int .i64 (ow : Int))) none none).run Tryd.prog W = .ok (.slice (fromA A2 n2 ow 7) x.wait.length (n2 - ow)) W := fun W => by rw [hxl]; exact run_cut el_ent A2 c.wait.length n2 ow i3 W
    have HI := Lib.hid i4
    clear i3 i5 i7 i8 hxl i4
    go_upto_region 16 with fail
    refine wp_region_B (fun w' => w'.cell? ⟨w5.heap.size, 0, none⟩ = some (.int .i64 x.who) ∧ w'.cell? ⟨w5.heap.size, 1, none⟩ = some (.int .i64 x.seen) ∧ w'.cell? ⟨w5.heap.size, 2, none⟩ = some (.slice D1 x.base.length k1) ∧ w'.cell? ⟨w5.heap.size, 3, none⟩ = some (.slice D2 x.wait.length k2) ∧ w'.cell? ⟨w5.heap.size, 4, none⟩ = some (.int .i64 x.done) ∧ w'.cell? ⟨w5.heap.size, 5, none⟩ = some (.int .i64 x.made) ∧ w'.cell? ⟨w1.heap.size, 0, none⟩ = some (.int .i64 c.who) ∧ w'.cell? ⟨w1.heap.size, 1, none⟩ = some (.int .i64 c.seen) ∧ w'.cell? ⟨w1.heap.size, 2, none⟩ = some (.slice A1 c.base.length n1) ∧ w'.cell? ⟨w1.heap.size, 3, none⟩ = some (.slice A2 c.wait.length n2) ∧ w'.cell? ⟨w1.heap.size, 4, none⟩ = some (.int .i64 c.done) ∧ w'.cell? ⟨w1.heap.size, 5, none⟩ = some (.int .i64 c.made)) 56 (by kernel_rfl) ?_
    have hbd : Ext w9 w9.drew := (Below.refl _ _).drew
    generalize w9.drew = wd at *
    have HBX9_9 := HBX9
    clear HBX9
    have HE_d := Lib.hid (HE_9.out.trans ((hbd).mono HE_9.out.size)); have hs_d := HE_d.out.size
    have HT_d := Lib.hid (HT_9.out.below hbd htp_9); have htp_d := HT_d.out.pos
    have HVC_d := Lib.hid (HVC_9.out.ext hbd)
    have HRL_d := Lib.hid (HRL_9.out.ext hbd)
    have HBC_d := Lib.hid (((hbd).block _ (blk_lt HBC_9.out)).trans HBC_9.out)
    have HWW_d := Lib.hid (HWW_9.out.ext hbd)
    have HBW_d := Lib.hid (((hbd).block _ (blk_lt HBW_9.out)).trans HBW_9.out)
    have HWX_d := Lib.hid (HWX_9.out.ext hbd)
    have HBX_d := Lib.hid (((hbd).block _ (blk_lt HBX_9.out)).trans HBX_9.out)
    have HBX9_d := Lib.hid (HBX9_9.out.ext hbd)
    clear HE_9 HT_9 HVC_9 HRL_9 HBC_9 HWW_9 HBW_9 HWX_9 HBX_9 HBX9_9
    clear hbd
    have HS : Hid (wd.cell? ⟨w5.heap.size, 0, none⟩ = some (.int .i64 x.who) ∧ wd.cell? ⟨w5.heap.size, 1, none⟩ = some (.int .i64 x.seen) ∧ wd.cell? ⟨w5.heap.size, 2, none⟩ = some (.slice D1 x.base.length k1) ∧ wd.cell? ⟨w5.heap.size, 3, none⟩ = some (.slice D2 x.wait.length k2) ∧ wd.cell? ⟨w5.heap.size, 4, none⟩ = some (.int .i64 x.done) ∧ wd.cell? ⟨w5.heap.size, 5, none⟩ = some (.int .i64 x.made) ∧ wd.cell? ⟨w1.heap.size, 0, none⟩ = some (.int .i64 c.who) ∧ wd.cell? ⟨w1.heap.size, 1, none⟩ = some (.int .i64 c.seen) ∧ wd.cell? ⟨w1.heap.size, 2, none⟩ = some (.slice A1 c.base.length n1) ∧ wd.cell? ⟨w1.heap.size, 3, none⟩ = some (.slice A2 c.wait.length n2) ∧ wd.cell? ⟨w1.heap.size, 4, none⟩ = some (.int .i64 c.done) ∧ wd.cell? ⟨w1.heap.size, 5, none⟩ = some (.int .i64 c.made)) := Lib.hid ⟨(six_cells HBX_d.out).1, (six_cells HBX_d.out).2.1, (six_cells HBX_d.out).2.2.1, (six_cells HBX_d.out).2.2.2.1, (six_cells HBX_d.out).2.2.2.2.1, (six_cells HBX_d.out).2.2.2.2.2.1, (six_cells HBC_d.out).1, (six_cells HBC_d.out).2.1, (six_cells HBC_d.out).2.2.1, (six_cells HBC_d.out).2.2.2.1, (six_cells HBC_d.out).2.2.2.2.1, (six_cells HBC_d.out).2.2.2.2.2.1⟩
    refine WB.takePD (i := 0) (d := some 87) (v := ?_) rfl (by kernel_rfl) (by kernel_rfl) (by kernel_rfl) (by kernel_rfl) (by kernel_rfl) (fun _ _ _ h => h) HS.out (Or.inl ⟨by rfl, ?_⟩) ?_
    rotate_left
    ·(rintro w -; go_simp; try with_reducible rfl)
    try simp only [Act.put, List.setIfInBounds_toArray, List.set_cons_zero, List.set_cons_succ]
    refine WB.takeD (i := 1) (d := some 88) (v := ?_) rfl (by kernel_rfl) (by kernel_rfl) (by kernel_rfl) (by kernel_rfl) (by kernel_rfl) (fun _ _ _ h => h) HS.out (Or.inl ⟨by rfl, ?_⟩) ?_
    rotate_left
    ·(rintro w ⟨s0, s1, s2, s3, s4, s5, s6, s7, s8, s9, s10, s11⟩; go_simp; try with_reducible rfl)
    try simp only [Act.put, List.setIfInBounds_toArray, List.set_cons_zero, List.set_cons_succ]
    refine WB.takePD (i := 2) (d := some 89) (v := ?_) rfl (by kernel_rfl) (by kernel_rfl) (by kernel_rfl) (by kernel_rfl) (by kernel_rfl) (fun _ _ _ h => h) HS.out (Or.inl ⟨by rfl, ?_⟩) ?_
    rotate_left
    ·(rintro w -; go_simp; try with_reducible rfl)
    try simp only [Act.put, List.setIfInBounds_toArray, List.set_cons_zero, List.set_cons_succ]
    refine WB.takeD (i := 3) (d := some 90) (v := ?_) rfl (by kernel_rfl) (by kernel_rfl) (by kernel_rfl) (by kernel_rfl) (by kernel_rfl) (fun _ _ _ h => h) HS.out (Or.inl ⟨by rfl, ?_⟩) ?_
    rotate_left
    ·(rintro w ⟨s0, s1, s2, s3, s4, s5, s6, s7, s8, s9, s10, s11⟩; go_simp; try with_reducible rfl)
    try simp only [Act.put, List.setIfInBounds_toArray, List.set_cons_zero, List.set_cons_succ]
    refine WB.takePD (i := 4) (d := some 91) (v := ?_) rfl (by kernel_rfl) (by kernel_rfl) (by kernel_rfl) (by kernel_rfl) (by kernel_rfl) (fun _ _ _ h => h) HS.out (Or.inl ⟨by rfl, ?_⟩) ?_
    rotate_left
    ·(rintro w -; go_simp; try with_reducible rfl)
    try simp only [Act.put, List.setIfInBounds_toArray, List.set_cons_zero, List.set_cons_succ]
    refine WB.takePD (i := 5) (d := some 92) (v := ?_) rfl (by kernel_rfl) (by kernel_rfl) (by kernel_rfl) (by kernel_rfl) (by kernel_rfl) (fun _ _ _ h => h) HS.out (Or.inl ⟨by rfl, ?_⟩) ?_
    rotate_left
    ·(rintro w -; go_simp; try with_reducible rfl)
    try simp only [Act.put, List.setIfInBounds_toArray, List.set_cons_zero, List.set_cons_succ]
    refine WB.takePD (i := 6) (d := some 93) (v := ?_) rfl (by kernel_rfl) (by kernel_rfl) (by kernel_rfl) (by kernel_rfl) (by kernel_rfl) (fun _ _ _ h => h) HS.out (Or.inl ⟨by rfl, ?_⟩) ?_
    rotate_left
    ·(rintro w -; go_simp; try with_reducible rfl)
    try simp only [Act.put, List.setIfInBounds_toArray, List.set_cons_zero, List.set_cons_succ]
    refine WB.takePD (i := 7) (d := some 94) (v := ?_) rfl (by kernel_rfl) (by kernel_rfl) (by kernel_rfl) (by kernel_rfl) (by kernel_rfl) (fun _ _ _ h => h) HS.out (Or.inl ⟨by rfl, ?_⟩) ?_
    rotate_left
    ·(rintro w -; go_simp; try with_reducible rfl)
    try simp only [Act.put, List.setIfInBounds_toArray, List.set_cons_zero, List.set_cons_succ]
    refine WB.takePD (i := 8) (d := some 95) (v := ?_) rfl (by kernel_rfl) (by kernel_rfl) (by kernel_rfl) (by kernel_rfl) (by kernel_rfl) (fun _ _ _ h => h) HS.out (Or.inl ⟨by rfl, ?_⟩) ?_
    rotate_left
    ·(rintro w -; go_simp; try with_reducible rfl)
    try simp only [Act.put, List.setIfInBounds_toArray, List.set_cons_zero, List.set_cons_succ]
    refine WB.takePD (i := 9) (d := some 96) (v := ?_) rfl (by kernel_rfl) (by kernel_rfl) (by kernel_rfl) (by kernel_rfl) (by kernel_rfl) (fun _ _ _ h => h) HS.out (Or.inl ⟨by rfl, ?_⟩) ?_
    rotate_left
    ·(rintro w -; go_simp; try with_reducible rfl)
    try simp only [Act.put, List.setIfInBounds_toArray, List.set_cons_zero, List.set_cons_succ]
    refine WB.takePD (i := 10) (d := some 97) (v := ?_) rfl (by kernel_rfl) (by kernel_rfl) (by kernel_rfl) (by kernel_rfl) (by kernel_rfl) (fun _ _ _ h => h) HS.out (Or.inl ⟨by rfl, ?_⟩) ?_
    rotate_left
    ·(rintro w -; go_simp; try with_reducible rfl)
    try simp only [Act.put, List.setIfInBounds_toArray, List.set_cons_zero, List.set_cons_succ]
    refine WB.takePD (i := 11) (d := some 98) (v := ?_) rfl (by kernel_rfl) (by kernel_rfl) (by kernel_rfl) (by kernel_rfl) (by kernel_rfl) (fun _ _ _ h => h) HS.out (Or.inl ⟨by rfl, ?_⟩) ?_
    rotate_left
    ·(rintro w -; go_simp; try with_reducible rfl)
    try simp only [Act.put, List.setIfInBounds_toArray, List.set_cons_zero, List.set_cons_succ]
    refine WB.takeD (i := 12) (d := some 99) (v := ?_) rfl (by kernel_rfl) (by kernel_rfl) (by kernel_rfl) (by kernel_rfl) (by kernel_rfl) (fun _ _ _ h => h) HS.out (Or.inl ⟨by rfl, ?_⟩) ?_
    rotate_left
    ·(rintro w ⟨s0, s1, s2, s3, s4, s5, s6, s7, s8, s9, s10, s11⟩; go_simp; try with_reducible rfl)
    try simp only [Act.put, List.setIfInBounds_toArray, List.set_cons_zero, List.set_cons_succ]
    refine WB.takePD (i := 13) (d := some 100) (v := ?_) rfl (by kernel_rfl) (by kernel_rfl) (by kernel_rfl) (by kernel_rfl) (by kernel_rfl) (fun _ _ _ h => h) HS.out (Or.inl ⟨by rfl, ?_⟩) ?_
    rotate_left
    ·(rintro w -; go_simp; try with_reducible rfl)
    try simp only [Act.put, List.setIfInBounds_toArray, List.set_cons_zero, List.set_cons_succ]
    obtain ⟨GX1, GX2⟩ : Hid (Rd wd D1 k1 x.base) ∧ Hid (Rd wd D2 k2 x.wait) := by
     obtain ⟨_, _, _, _, e9, g1, g2⟩ := HWX_d.out
     simp at e9
     obtain ⟨⟨rfl, rfl⟩, ⟨rfl, rfl⟩⟩ := e9
     exact ⟨g1, g2⟩
    have GC2 : Hid (Rd wd A2 n2 c.wait) := by
     obtain ⟨_, _, _, _, e9, g1, g2⟩ := HVC_d.out
     simp at e9
     obtain ⟨⟨rfl, rfl⟩, ⟨rfl, rfl⟩⟩ := e9
     exact g2
    have GL_d : Hid (Rd wd (fromA A2 n2 ow 7) (n2 - ow) x.wait) := by
     show Rd _ _ _ _
     rw [← HI.out]
     exact GC2.out.from_ ow (by omega)
    have GX2_d := GX2; have GX1_d := GX1
    clear GX1 GX2 GC2 HI
    have HC := Lib.hid (by have h := lpRows_c D1 k1 x.base B bn x.base wd GX1_d.out HBX9_d.out; rw [show decide (x.base = x.base) = true by simp] at h; exact h)
    refine WB.one (i := 14) (by kernel_rfl) rfl (fun K hK => ?_)
    have HKK := Lib.hid hK
    clear hK
    go_simp
    refine HC.out.mono ?_
    rintro e we ⟨rfl, m9, hme⟩
    have hbe : Ext wd we := by rw [hme]; exact Ext.drewN (Below.refl _ _) _
    clear hme
    have HE_e := Lib.hid (HE_d.out.trans ((hbe).mono HE_d.out.size)); have hs_e := HE_e.out.size
    have HT_e := Lib.hid (HT_d.out.below hbe htp_d); have htp_e := HT_e.out.pos
    have HVC_e := Lib.hid (HVC_d.out.ext hbe)
    have HRL_e := Lib.hid (HRL_d.out.ext hbe)
    have HBC_e := Lib.hid (((hbe).block _ (blk_lt HBC_d.out)).trans HBC_d.out)
    have HWW_e := Lib.hid (HWW_d.out.ext hbe)
    have HBW_e := Lib.hid (((hbe).block _ (blk_lt HBW_d.out)).trans HBW_d.out)
    have HWX_e := Lib.hid (HWX_d.out.ext hbe)
    have HBX_e := Lib.hid (((hbe).block _ (blk_lt HBX_d.out)).trans HBX_d.out)
    have HBX9_e := Lib.hid (HBX9_d.out.ext hbe)
    have GL_e := Lib.hid (GL_d.out.ext hbe)
    have GX2_e := Lib.hid (GX2_d.out.ext hbe)
    have GX1_e := Lib.hid (GX1_d.out.ext hbe)
    clear HE_d HT_d HVC_d HRL_d HBC_d HWW_d HBW_d HWX_d HBX_d HBX9_d GL_d GX2_d GX1_d
    clear hbe HS HC
    have HS2 : Hid (we.cell? ⟨w5.heap.size, 0, none⟩ = some (.int .i64 x.who) ∧ we.cell? ⟨w5.heap.size, 1, none⟩ = some (.int .i64 x.seen) ∧ we.cell? ⟨w5.heap.size, 2, none⟩ = some (.slice D1 x.base.length k1) ∧ we.cell? ⟨w5.heap.size, 3, none⟩ = some (.slice D2 x.wait.length k2) ∧ we.cell? ⟨w5.heap.size, 4, none⟩ = some (.int .i64 x.done) ∧ we.cell? ⟨w5.heap.size, 5, none⟩ = some (.int .i64 x.made) ∧ we.cell? ⟨w1.heap.size, 0, none⟩ = some (.int .i64 c.who) ∧ we.cell? ⟨w1.heap.size, 1, none⟩ = some (.int .i64 c.seen) ∧ we.cell? ⟨w1.heap.size, 2, none⟩ = some (.slice A1 c.base.length n1) ∧ we.cell? ⟨w1.heap.size, 3, none⟩ = some (.slice A2 c.wait.length n2) ∧ we.cell? ⟨w1.heap.size, 4, none⟩ = some (.int .i64 c.done) ∧ we.cell? ⟨w1.heap.size, 5, none⟩ = some (.int .i64 c.made)) := Lib.hid ⟨(six_cells HBX_e.out).1, (six_cells HBX_e.out).2.1, (six_cells HBX_e.out).2.2.1, (six_cells HBX_e.out).2.2.2.1, (six_cells HBX_e.out).2.2.2.2.1, (six_cells HBX_e.out).2.2.2.2.2.1, (six_cells HBC_e.out).1, (six_cells HBC_e.out).2.1, (six_cells HBC_e.out).2.2.1, (six_cells HBC_e.out).2.2.2.1, (six_cells HBC_e.out).2.2.2.2.1, (six_cells HBC_e.out).2.2.2.2.2.1⟩
    refine HKK.out _ _ ⟨fun _ => HS2.out, ?_⟩
    clear HKK K
    try simp only [Act.put, List.setIfInBounds_toArray, List.set_cons_zero, List.set_cons_succ]
    refine WB.takePD (i := 15) (d := some 102) (v := ?_) rfl (by kernel_rfl) (by kernel_rfl) (by kernel_rfl) (by kernel_rfl) (by kernel_rfl) (fun _ _ _ h => h) HS2.out (Or.inl ⟨by rfl, ?_⟩) ?_
    rotate_left
    ·(rintro w -; go_simp; try with_reducible rfl)
    try simp only [Act.put, List.setIfInBounds_toArray, List.set_cons_zero, List.set_cons_succ]
    refine WB.takePD (i := 16) (d := some 103) (v := ?_) rfl (by kernel_rfl) (by kernel_rfl) (by kernel_rfl) (by kernel_rfl) (by kernel_rfl) (fun _ _ _ h => h) HS2.out (Or.inl ⟨by rfl, ?_⟩) ?_
    rotate_left
    ·(rintro w -; go_simp; try with_reducible rfl)
    try simp only [Act.put, List.setIfInBounds_toArray, List.set_cons_zero, List.set_cons_succ]
    refine WB.takePD (i := 17) (d := some 104) (v := ?_) rfl (by kernel_rfl) (by kernel_rfl) (by kernel_rfl) (by kernel_rfl) (by kernel_rfl) (fun _ _ _ h => h) HS2.out (Or.inl ⟨by rfl, ?_⟩) ?_
    rotate_left
    ·(rintro w -; go_simp; try with_reducible rfl)
    try simp only [Act.put, List.setIfInBounds_toArray, List.set_cons_zero, List.set_cons_succ]
    refine WB.takeD (i := 18) (d := some 105) (v := ?_) rfl (by kernel_rfl) (by kernel_rfl) (by kernel_rfl) (by kernel_rfl) (by kernel_rfl) (fun _ _ _ h => h) HS2.out (Or.inl ⟨by rfl, ?_⟩) ?_
    rotate_left
    ·(rintro w ⟨s0, s1, s2, s3, s4, s5, s6, s7, s8, s9, s10, s11⟩; go_simp; try with_reducible rfl)
    try simp only [Act.put, List.setIfInBounds_toArray, List.set_cons_zero, List.set_cons_succ]
    refine WB.takePD (i := 19) (d := some 106) (v := ?_) rfl (by kernel_rfl) (by kernel_rfl) (by kernel_rfl) (by kernel_rfl) (by kernel_rfl) (fun _ _ _ h => h) HS2.out (Or.inl ⟨by rfl, ?_⟩) ?_
    rotate_left
    ·(rintro w -; go_simp; try with_reducible rfl)
    try simp only [Act.put, List.setIfInBounds_toArray, List.set_cons_zero, List.set_cons_succ]
    refine WB.takePD (i := 20) (d := some 107) (v := ?_) rfl (by kernel_rfl) (by kernel_rfl) (by kernel_rfl) (by kernel_rfl) (by kernel_rfl) (fun _ _ _ h => h) HS2.out (Or.inl ⟨by rfl, ?_⟩) ?_
    rotate_left
    ·(rintro w -; go_simp; try with_reducible rfl)
    try simp only [Act.put, List.setIfInBounds_toArray, List.set_cons_zero, List.set_cons_succ]
    refine WB.takeD (i := 21) (d := some 108) (v := ?_) rfl (by kernel_rfl) (by kernel_rfl) (by kernel_rfl) (by kernel_rfl) (by kernel_rfl) (fun _ _ _ h => h) HS2.out (Or.inl ⟨by rfl, ?_⟩) ?_
    rotate_left
    ·(rintro w ⟨s0, s1, s2, s3, s4, s5, s6, s7, s8, s9, s10, s11⟩; go_simp; try with_reducible rfl)
    try simp only [Act.put, List.setIfInBounds_toArray, List.set_cons_zero, List.set_cons_succ]
    refine WB.takePD (i := 22) (d := some 109) (v := ?_) rfl (by kernel_rfl) (by kernel_rfl) (by kernel_rfl) (by kernel_rfl) (by kernel_rfl) (fun _ _ _ h => h) HS2.out (Or.inl ⟨by rfl, ?_⟩) ?_
    rotate_left
    ·(rintro w -; go_simp; try with_reducible rfl)
    try simp only [Act.put, List.setIfInBounds_toArray, List.set_cons_zero, List.set_cons_succ]
    refine WB.takePD (i := 23) (d := some 110) (v := ?_) rfl (by kernel_rfl) (by kernel_rfl) (by kernel_rfl) (by kernel_rfl) (by kernel_rfl) (fun _ _ _ h => h) HS2.out (Or.inl ⟨by rfl, ?_⟩) ?_
    rotate_left
    ·(rintro w -; go_simp; try with_reducible rfl)
    try simp only [Act.put, List.setIfInBounds_toArray, List.set_cons_zero, List.set_cons_succ]
    refine WB.takePD (i := 24) (d := some 111) (v := ?_) rfl (by kernel_rfl) (by kernel_rfl) (by kernel_rfl) (by kernel_rfl) (by kernel_rfl) (fun _ _ _ h => h) HS2.out (Or.inl ⟨by rfl, ?_⟩) ?_
    rotate_left
    ·(rintro w -; go_simp; try with_reducible rfl)
    try simp only [Act.put, List.setIfInBounds_toArray, List.set_cons_zero, List.set_cons_succ]
    refine WB.takePD (i := 25) (d := some 112) (v := ?_) rfl (by kernel_rfl) (by kernel_rfl) (by kernel_rfl) (by kernel_rfl) (by kernel_rfl) (fun _ _ _ h => h) HS2.out (Or.inl ⟨by rfl, ?_⟩) ?_
    rotate_left
    ·(rintro w -; go_simp; try with_reducible rfl)
    try simp only [Act.put, List.setIfInBounds_toArray, List.set_cons_zero, List.set_cons_succ]
    refine WB.takePD (i := 26) (d := some 113) (v := ?_) rfl (by kernel_rfl) (by kernel_rfl) (by kernel_rfl) (by kernel_rfl) (by kernel_rfl) (fun _ _ _ h => h) HS2.out (Or.inl ⟨by rfl, ?_⟩) ?_
    rotate_left
    ·(rintro w -; go_simp; try with_reducible rfl)
    try simp only [Act.put, List.setIfInBounds_toArray, List.set_cons_zero, List.set_cons_succ]
    refine WB.takePD (i := 27) (d := some 114) (v := ?_) rfl (by kernel_rfl) (by kernel_rfl) (by kernel_rfl) (by kernel_rfl) (by kernel_rfl) (fun _ _ _ h => h) HS2.out (Or.inl ⟨by rfl, ?_⟩) ?_
    rotate_left
    ·(rintro w -; go_simp; try with_reducible rfl)
    try simp only [Act.put, List.setIfInBounds_toArray, List.set_cons_zero, List.set_cons_succ]
    refine WB.takePD (i := 28) (d := some 115) (v := ?_) rfl (by kernel_rfl) (by kernel_rfl) (by kernel_rfl) (by kernel_rfl) (by kernel_rfl) (fun _ _ _ h => h) HS2.out (Or.inl ⟨by rfl, ?_⟩) ?_
    rotate_left
    ·(rintro w -; go_simp; try with_reducible rfl)
    try simp only [Act.put, List.setIfInBounds_toArray, List.set_cons_zero, List.set_cons_succ]
    refine WB.takeD (i := 29) (d := some 116) (v := ?_) rfl (by kernel_rfl) (by kernel_rfl) (by kernel_rfl) (by kernel_rfl) (by kernel_rfl) (fun _ _ _ h => h) HS2.out (Or.inl ⟨by rfl, ?_⟩) ?_
    rotate_left
    ·(rintro w ⟨s0, s1, s2, s3, s4, s5, s6, s7, s8, s9, s10, s11⟩; go_simp; try with_reducible rfl)
    try simp only [Act.put, List.setIfInBounds_toArray, List.set_cons_zero, List.set_cons_succ]
    refine WB.takePD (i := 30) (d := some 117) (v := ?_) rfl (by kernel_rfl) (by kernel_rfl) (by kernel_rfl) (by kernel_rfl) (by kernel_rfl) (fun _ _ _ h => h) HS2.out (Or.inl ⟨by rfl, ?_⟩) ?_
    rotate_left
    ·(rintro w -; go_simp; try with_reducible rfl)
    try simp only [Act.put, List.setIfInBounds_toArray, List.set_cons_zero, List.set_cons_succ]
    refine WB.takeD (i := 31) (d := some 118) (v := ?_) rfl (by kernel_rfl) (by kernel_rfl) (by kernel_rfl) (by kernel_rfl) (by kernel_rfl) (fun _ _ _ h => h) HS2.out (Or.inl ⟨by rfl, ?_⟩) ?_
    rotate_left
    ·(rintro w ⟨s0, s1, s2, s3, s4, s5, s6, s7, s8, s9, s10, s11⟩; go_simp; try with_reducible rfl)
    try simp only [Act.put, List.setIfInBounds_toArray, List.set_cons_zero, List.set_cons_succ]
    refine WB.takePD (i := 32) (d := some 119) (v := ?_) rfl (by kernel_rfl) (by kernel_rfl) (by kernel_rfl) (by kernel_rfl) (by kernel_rfl) (fun _ _ _ h => h) HS2.out (Or.inl ⟨by rfl, ?_⟩) ?_
    rotate_left
    ·(rintro w -; go_simp; try with_reducible rfl)
    try simp only [Act.put, List.setIfInBounds_toArray, List.set_cons_zero, List.set_cons_succ]
    refine WB.takePD (i := 33) (d := some 120) (v := ?_) rfl (by kernel_rfl) (by kernel_rfl) (by kernel_rfl) (by kernel_rfl) (by kernel_rfl) (fun _ _ _ h => h) HS2.out (Or.inl ⟨by rfl, ?_⟩) ?_
    rotate_left
    ·(rintro w -; go_simp; try with_reducible rfl)
    try simp only [Act.put, List.setIfInBounds_toArray, List.set_cons_zero, List.set_cons_succ]
    have HC := Lib.hid (by have h := lpLog_c D2 k2 x.wait (fromA A2 n2 ow 7) (n2 - ow) x.wait we GX2_e.out GL_e.out; rw [show decide (x.wait = x.wait) = true by simp] at h; exact h)
    refine WB.one (i := 34) (by kernel_rfl) rfl (fun K hK => ?_)
    have HKK := Lib.hid hK
    clear hK
    go_simp
    refine HC.out.mono ?_
    rintro e wf ⟨rfl, m9, hmf⟩
    have hbf : Ext we wf := by rw [hmf]; exact Ext.drewN (Below.refl _ _) _
    clear hmf
    have HE_f := Lib.hid (HE_e.out.trans ((hbf).mono HE_e.out.size)); have hs_f := HE_f.out.size
    have HT_f := Lib.hid (HT_e.out.below hbf htp_e); have htp_f := HT_f.out.pos
    have HVC_f := Lib.hid (HVC_e.out.ext hbf)
    have HRL_f := Lib.hid (HRL_e.out.ext hbf)
    have HBC_f := Lib.hid (((hbf).block _ (blk_lt HBC_e.out)).trans HBC_e.out)
    have HWW_f := Lib.hid (HWW_e.out.ext hbf)
    have HBW_f := Lib.hid (((hbf).block _ (blk_lt HBW_e.out)).trans HBW_e.out)
    have HWX_f := Lib.hid (HWX_e.out.ext hbf)
    have HBX_f := Lib.hid (((hbf).block _ (blk_lt HBX_e.out)).trans HBX_e.out)
    have HBX9_f := Lib.hid (HBX9_e.out.ext hbf)
    have GL_f := Lib.hid (GL_e.out.ext hbf)
    have GX2_f := Lib.hid (GX2_e.out.ext hbf)
    have GX1_f := Lib.hid (GX1_e.out.ext hbf)
    clear HE_e HT_e HVC_e HRL_e HBC_e HWW_e HBW_e HWX_e HBX_e HBX9_e GL_e GX2_e GX1_e
    clear hbf HS2 HC
    have HS3 : Hid (wf.cell? ⟨w5.heap.size, 0, none⟩ = some (.int .i64 x.who) ∧ wf.cell? ⟨w5.heap.size, 1, none⟩ = some (.int .i64 x.seen) ∧ wf.cell? ⟨w5.heap.size, 2, none⟩ = some (.slice D1 x.base.length k1) ∧ wf.cell? ⟨w5.heap.size, 3, none⟩ = some (.slice D2 x.wait.length k2) ∧ wf.cell? ⟨w5.heap.size, 4, none⟩ = some (.int .i64 x.done) ∧ wf.cell? ⟨w5.heap.size, 5, none⟩ = some (.int .i64 x.made) ∧ wf.cell? ⟨w1.heap.size, 0, none⟩ = some (.int .i64 c.who) ∧ wf.cell? ⟨w1.heap.size, 1, none⟩ = some (.int .i64 c.seen) ∧ wf.cell? ⟨w1.heap.size, 2, none⟩ = some (.slice A1 c.base.length n1) ∧ wf.cell? ⟨w1.heap.size, 3, none⟩ = some (.slice A2 c.wait.length n2) ∧ wf.cell? ⟨w1.heap.size, 4, none⟩ = some (.int .i64 c.done) ∧ wf.cell? ⟨w1.heap.size, 5, none⟩ = some (.int .i64 c.made)) := Lib.hid ⟨(six_cells HBX_f.out).1, (six_cells HBX_f.out).2.1, (six_cells HBX_f.out).2.2.1, (six_cells HBX_f.out).2.2.2.1, (six_cells HBX_f.out).2.2.2.2.1, (six_cells HBX_f.out).2.2.2.2.2.1, (six_cells HBC_f.out).1, (six_cells HBC_f.out).2.1, (six_cells HBC_f.out).2.2.1, (six_cells HBC_f.out).2.2.2.1, (six_cells HBC_f.out).2.2.2.2.1, (six_cells HBC_f.out).2.2.2.2.2.1⟩
    refine HKK.out _ _ ⟨fun _ => HS3.out, ?_⟩
    clear HKK K
    try simp only [Act.put, List.setIfInBounds_toArray, List.set_cons_zero, List.set_cons_succ]
    refine WB.takePD (i := 35) (d := some 122) (v := ?_) rfl (by kernel_rfl) (by kernel_rfl) (by kernel_rfl) (by kernel_rfl) (by kernel_rfl) (fun _ _ _ h => h) HS3.out (Or.inl ⟨by rfl, ?_⟩) ?_
    rotate_left
    ·(rintro w -; go_simp; try with_reducible rfl)
    try simp only [Act.put, List.setIfInBounds_toArray, List.set_cons_zero, List.set_cons_succ]
    refine WB.takePD (i := 36) (d := some 123) (v := ?_) rfl (by kernel_rfl) (by kernel_rfl) (by kernel_rfl) (by kernel_rfl) (by kernel_rfl) (fun _ _ _ h => h) HS3.out (Or.inl ⟨by rfl, ?_⟩) ?_
    rotate_left
    ·(rintro w -; go_simp; try with_reducible rfl)
    try simp only [Act.put, List.setIfInBounds_toArray, List.set_cons_zero, List.set_cons_succ]
    refine WB.takePD (i := 37) (d := some 124) (v := ?_) rfl (by kernel_rfl) (by kernel_rfl) (by kernel_rfl) (by kernel_rfl) (by kernel_rfl) (fun _ _ _ h => h) HS3.out (Or.inl ⟨by rfl, ?_⟩) ?_
    rotate_left
    ·(rintro w -; go_simp; try with_reducible rfl)
    try simp only [Act.put, List.setIfInBounds_toArray, List.set_cons_zero, List.set_cons_succ]
    refine WB.takeD (i := 38) (d := some 125) (v := ?_) rfl (by kernel_rfl) (by kernel_rfl) (by kernel_rfl) (by kernel_rfl) (by kernel_rfl) (fun _ _ _ h => h) HS3.out (Or.inl ⟨by rfl, ?_⟩) ?_
    rotate_left
    ·(rintro w ⟨s0, s1, s2, s3, s4, s5, s6, s7, s8, s9, s10, s11⟩; go_simp; try with_reducible rfl)
    try simp only [Act.put, List.setIfInBounds_toArray, List.set_cons_zero, List.set_cons_succ]
    refine WB.takePD (i := 39) (d := some 126) (v := ?_) rfl (by kernel_rfl) (by kernel_rfl) (by kernel_rfl) (by kernel_rfl) (by kernel_rfl) (fun _ _ _ h => h) HS3.out (Or.inl ⟨by rfl, ?_⟩) ?_
    rotate_left
    ·(rintro w -; go_simp; try with_reducible rfl)
    try simp only [Act.put, List.setIfInBounds_toArray, List.set_cons_zero, List.set_cons_succ]
    refine WB.takeD (i := 40) (d := some 127) (v := ?_) rfl (by kernel_rfl) (by kernel_rfl) (by kernel_rfl) (by kernel_rfl) (by kernel_rfl) (fun _ _ _ h => h) HS3.out (Or.inl ⟨by rfl, ?_⟩) ?_
    rotate_left
    ·(rintro w ⟨s0, s1, s2, s3, s4, s5, s6, s7, s8, s9, s10, s11⟩; go_simp; try with_reducible rfl)
    try simp only [Act.put, List.setIfInBounds_toArray, List.set_cons_zero, List.set_cons_succ]
    refine WB.takePD (i := 41) (d := some 128) (v := ?_) rfl (by kernel_rfl) (by kernel_rfl) (by kernel_rfl) (by kernel_rfl) (by kernel_rfl) (fun _ _ _ h => h) HS3.out (Or.inl ⟨by rfl, ?_⟩) ?_
    rotate_left
    ·(rintro w -; go_simp; try with_reducible rfl)
    try simp only [Act.put, List.setIfInBounds_toArray, List.set_cons_zero, List.set_cons_succ]
    refine WB.takePD (i := 42) (d := some 129) (v := ?_) rfl (by kernel_rfl) (by kernel_rfl) (by kernel_rfl) (by kernel_rfl) (by kernel_rfl) (fun _ _ _ h => h) HS3.out (Or.inl ⟨by rfl, ?_⟩) ?_
    rotate_left
    ·(rintro w -; go_simp; try with_reducible rfl)
    try simp only [Act.put, List.setIfInBounds_toArray, List.set_cons_zero, List.set_cons_succ]
    refine WB.takePD (i := 43) (d := some 130) (v := ?_) rfl (by kernel_rfl) (by kernel_rfl) (by kernel_rfl) (by kernel_rfl) (by kernel_rfl) (fun _ _ _ h => h) HS3.out (Or.inl ⟨by rfl, ?_⟩) ?_
    rotate_left
    ·(rintro w -; go_simp; try with_reducible rfl)
    try simp only [Act.put, List.setIfInBounds_toArray, List.set_cons_zero, List.set_cons_succ]
    refine WB.takePD (i := 44) (d := some 131) (v := ?_) rfl (by kernel_rfl) (by kernel_rfl) (by kernel_rfl) (by kernel_rfl) (by kernel_rfl) (fun _ _ _ h => h) HS3.out (Or.inl ⟨by rfl, ?_⟩) ?_
    rotate_left
    ·(rintro w -; go_simp; try with_reducible rfl)
    try simp only [Act.put, List.setIfInBounds_toArray, List.set_cons_zero, List.set_cons_succ]
    refine WB.takePD (i := 45) (d := some 132) (v := ?_) rfl (by kernel_rfl) (by kernel_rfl) (by kernel_rfl) (by kernel_rfl) (by kernel_rfl) (fun _ _ _ h => h) HS3.out (Or.inl ⟨by rfl, ?_⟩) ?_
    rotate_left
    ·(rintro w -; go_simp; try with_reducible rfl)
    try simp only [Act.put, List.setIfInBounds_toArray, List.set_cons_zero, List.set_cons_succ]
    refine WB.takePD (i := 46) (d := some 133) (v := ?_) rfl (by kernel_rfl) (by kernel_rfl) (by kernel_rfl) (by kernel_rfl) (by kernel_rfl) (fun _ _ _ h => h) HS3.out (Or.inl ⟨by rfl, ?_⟩) ?_
    rotate_left
    ·(rintro w -; go_simp; try with_reducible rfl)
    try simp only [Act.put, List.setIfInBounds_toArray, List.set_cons_zero, List.set_cons_succ]
    refine WB.takeD (i := 47) (d := some 134) (v := ?_) rfl (by kernel_rfl) (by kernel_rfl) (by kernel_rfl) (by kernel_rfl) (by kernel_rfl) (fun _ _ _ h => h) HS3.out (Or.inl ⟨by rfl, ?_⟩) ?_
    rotate_left
    ·(rintro w ⟨s0, s1, s2, s3, s4, s5, s6, s7, s8, s9, s10, s11⟩; go_simp; try with_reducible rfl)
    try simp only [Act.put, List.setIfInBounds_toArray, List.set_cons_zero, List.set_cons_succ]
    refine WB.takePD (i := 48) (d := some 135) (v := ?_) rfl (by kernel_rfl) (by kernel_rfl) (by kernel_rfl) (by kernel_rfl) (by kernel_rfl) (fun _ _ _ h => h) HS3.out (Or.inl ⟨by rfl, ?_⟩) ?_
    rotate_left
    ·(rintro w -; go_simp; try with_reducible rfl)
    try simp only [Act.put, List.setIfInBounds_toArray, List.set_cons_zero, List.set_cons_succ]
    refine WB.takeD (i := 49) (d := some 136) (v := ?_) rfl (by kernel_rfl) (by kernel_rfl) (by kernel_rfl) (by kernel_rfl) (by kernel_rfl) (fun _ _ _ h => h) HS3.out (Or.inl ⟨by rfl, ?_⟩) ?_
    rotate_left
    ·(rintro w ⟨s0, s1, s2, s3, s4, s5, s6, s7, s8, s9, s10, s11⟩; go_simp; try with_reducible rfl)
    try simp only [Act.put, List.setIfInBounds_toArray, List.set_cons_zero, List.set_cons_succ]
    refine WB.takePD (i := 50) (d := some 137) (v := ?_) rfl (by kernel_rfl) (by kernel_rfl) (by kernel_rfl) (by kernel_rfl) (by kernel_rfl) (fun _ _ _ h => h) HS3.out (Or.inl ⟨by rfl, ?_⟩) ?_
    rotate_left
    ·(rintro w -; go_simp; try with_reducible rfl)
    try simp only [Act.put, List.setIfInBounds_toArray, List.set_cons_zero, List.set_cons_succ]
    refine WB.takePD (i := 51) (d := some 138) (v := ?_) rfl (by kernel_rfl) (by kernel_rfl) (by kernel_rfl) (by kernel_rfl) (by kernel_rfl) (fun _ _ _ h => h) HS3.out (Or.inl ⟨by rfl, ?_⟩) ?_
    rotate_left
    ·(rintro w -; go_simp; try with_reducible rfl)
    try simp only [Act.put, List.setIfInBounds_toArray, List.set_cons_zero, List.set_cons_succ]
    refine WB.takePD (i := 52) (d := some 139) (v := ?_) rfl (by kernel_rfl) (by kernel_rfl) (by kernel_rfl) (by kernel_rfl) (by kernel_rfl) (fun _ _ _ h => h) HS3.out (Or.inl ⟨by rfl, ?_⟩) ?_
    rotate_left
    ·(rintro w -; go_simp; try with_reducible rfl)
    try simp only [Act.put, List.setIfInBounds_toArray, List.set_cons_zero, List.set_cons_succ]
    refine WB.takeD (i := 53) (d := some 140) (v := ?_) rfl (by kernel_rfl) (by kernel_rfl) (by kernel_rfl) (by kernel_rfl) (by kernel_rfl) (fun _ _ _ h => h) HS3.out (Or.inl ⟨by rfl, ?_⟩) ?_
    rotate_left
    ·(rintro w ⟨s0, s1, s2, s3, s4, s5, s6, s7, s8, s9, s10, s11⟩; go_simp; try with_reducible rfl)
    try simp only [Act.put, List.setIfInBounds_toArray, List.set_cons_zero, List.set_cons_succ]
    have HC := Lib.hid (by have h := clientOk_c x _ wf HT_f.out HWX_f.out; rw [I7.out] at h; exact h)
    refine WB.one (i := 54) (by kernel_rfl) rfl (fun K hK => ?_)
    have HKK := Lib.hid hK
    clear hK
    go_simp
    refine HC.out.mono ?_
    rintro e wg ⟨rfl, hbg⟩
    have HE_g := Lib.hid (HE_f.out.trans ((hbg).mono HE_f.out.size)); have hs_g := HE_g.out.size
    have HT_g := Lib.hid (HT_f.out.below hbg htp_f); have htp_g := HT_g.out.pos
    have HVC_g := Lib.hid (HVC_f.out.ext hbg)
    have HRL_g := Lib.hid (HRL_f.out.ext hbg)
    have HBC_g := Lib.hid (((hbg).block _ (blk_lt HBC_f.out)).trans HBC_f.out)
    have HWW_g := Lib.hid (HWW_f.out.ext hbg)
    have HBW_g := Lib.hid (((hbg).block _ (blk_lt HBW_f.out)).trans HBW_f.out)
    have HWX_g := Lib.hid (HWX_f.out.ext hbg)
    have HBX_g := Lib.hid (((hbg).block _ (blk_lt HBX_f.out)).trans HBX_f.out)
    have HBX9_g := Lib.hid (HBX9_f.out.ext hbg)
    have GL_g := Lib.hid (GL_f.out.ext hbg)
    have GX2_g := Lib.hid (GX2_f.out.ext hbg)
    have GX1_g := Lib.hid (GX1_f.out.ext hbg)
    clear HE_f HT_f HVC_f HRL_f HBC_f HWW_f HBW_f HWX_f HBX_f HBX9_f GL_f GX2_f GX1_f
    clear hbg HS3 HC
    have HS4 : Hid (wg.cell? ⟨w5.heap.size, 0, none⟩ = some (.int .i64 x.who) ∧ wg.cell? ⟨w5.heap.size, 1, none⟩ = some (.int .i64 x.seen) ∧ wg.cell? ⟨w5.heap.size, 2, none⟩ = some (.slice D1 x.base.length k1) ∧ wg.cell? ⟨w5.heap.size, 3, none⟩ = some (.slice D2 x.wait.length k2) ∧ wg.cell? ⟨w5.heap.size, 4, none⟩ = some (.int .i64 x.done) ∧ wg.cell? ⟨w5.heap.size, 5, none⟩ = some (.int .i64 x.made) ∧ wg.cell? ⟨w1.heap.size, 0, none⟩ = some (.int .i64 c.who) ∧ wg.cell? ⟨w1.heap.size, 1, none⟩ = some (.int .i64 c.seen) ∧ wg.cell? ⟨w1.heap.size, 2, none⟩ = some (.slice A1 c.base.length n1) ∧ wg.cell? ⟨w1.heap.size, 3, none⟩ = some (.slice A2 c.wait.length n2) ∧ wg.cell? ⟨w1.heap.size, 4, none⟩ = some (.int .i64 c.done) ∧ wg.cell? ⟨w1.heap.size, 5, none⟩ = some (.int .i64 c.made)) := Lib.hid ⟨(six_cells HBX_g.out).1, (six_cells HBX_g.out).2.1, (six_cells HBX_g.out).2.2.1, (six_cells HBX_g.out).2.2.2.1, (six_cells HBX_g.out).2.2.2.2.1, (six_cells HBX_g.out).2.2.2.2.2.1, (six_cells HBC_g.out).1, (six_cells HBC_g.out).2.1, (six_cells HBC_g.out).2.2.1, (six_cells HBC_g.out).2.2.2.1, (six_cells HBC_g.out).2.2.2.2.1, (six_cells HBC_g.out).2.2.2.2.2.1⟩
    refine HKK.out _ _ ⟨fun _ => HS4.out, ?_⟩
    clear HKK K
    try simp only [Act.put, List.setIfInBounds_toArray, List.set_cons_zero, List.set_cons_succ]
    refine WB.takePD (i := 55) (d := some 142) (v := ?_) rfl (by kernel_rfl) (by kernel_rfl) (by kernel_rfl) (by kernel_rfl) (by kernel_rfl) (fun _ _ _ h => h) HS4.out (Or.inl ⟨by rfl, ?_⟩) ?_
    rotate_left
    ·(rintro w -; go_simp; try with_reducible rfl)
    try simp only [Act.put, List.setIfInBounds_toArray, List.set_cons_zero, List.set_cons_succ]
    refine WB.one (i := 56) (by kernel_rfl) rfl (fun K hK => ?_)
    have HKK := Lib.hid hK
    clear hK
    go_simp
    refine HKK.out _ _ ⟨fun h => (no_late h (by kernel_rfl)).elim, ?_⟩
    clear HKK K
    try simp only [Act.put, List.setIfInBounds_toArray, List.set_cons_zero, List.set_cons_succ]
    refine WB.done (by kernel_rfl) ?_
    go_wp2_with fail
    go_ret
    exact ⟨rfl, HE_g.out⟩
open Go.RowKit Go.ChangeShapes Go.WideShapes Go.ChangeAt
theorem laidOut : laidOutB Tryd.prog = true := by kernel_rfl
theorem own : ownKnob Tryd.prog.godebug = none := by kernel_rfl
theorem gTab : Tryd.prog.globalNamed "loop.example/plashet/impl.rowOwners" = some 0 := by kernel_rfl
theorem gTabType : (Tryd.prog.globals[0]?).map (·.type) = some 86 := by kernel_rfl
theorem cellsTab : Tryd.prog.cellsOf 86 = 37 := by kernel_rfl
theorem cellsInt : Tryd.prog.cellsOf 3 = 1 := by kernel_rfl
def owners : List Int := [0, 1, 1, 1, 0, 0, 0, 0, 0, 0, 0, 2, 2, 2, 2, 2, 2, 0, 0, 0, 0, 3, 3, 3, 3, 3, 3, 0, 0, 0, 0, 4, 4, 4, 4, 4, 4]
theorem owners_at (n : Nat) (h : n < 37) : owners.getD n 0 = ownerOf n := by
 have h0 : ∀ n : Fin 37, owners.getD n 0 = ownerOf (n : Nat) := by decide
 exact h0 ⟨n, h⟩
theorem tab_of {W : World} (h : laidMetH Tryd.prog [("loop.example/plashet/impl.rowOwners", Rows.laid_loop_example_plashet_impl_rowOwners)] W) : Tab W := by
 have ht : Lib.TabIs Tryd.prog W "loop.example/plashet/impl.rowOwners" .i64 owners := Lib.tabIs_of_head (rest := []) gTab gTabType Tryd.underlying86 Tryd.underlying3 cellsInt cellsTab h
 intro id h0 h1
 have hn : id.toNat < 37 := by omega
 rw [ht.cell gTab id.toNat (by simpa [owners] using hn), owners_at _ hn, show ((id.toNat : Nat) : Int) = id by omega]
set_option maxRecDepth 100000 in
theorem arg_slice {W : World} {base : Nat} {t e : TypeId} {v : Value} (ht : Tryd.prog.underlying t = some (.slice e)) (h : Value.okWide Tryd.prog W .any base t v) :
  ∃ A len cap, v = .slice A len cap ∧ ∀ a, A = some a → a.spot = none ∧ a.block < W.heap.size := by
 obtain ⟨A, len, cap, rfl⟩ := okWide_slice ht h
 refine ⟨A, len, cap, rfl, ?_⟩
 rintro a rfl
 simp only [Value.okWide, ht, Cell.okWide, Cell.ok, World.has] at h
 obtain ⟨_, _, _, hs, row, cells, hsh, _⟩ := h
 refine ⟨hs, ?_⟩
 unfold World.shape? at hsh
 cases hb : W.heap[a.block]? with
 |none => rw [hb] at hsh; cases hsh
 |some o => exact (Array.getElem?_eq_some_iff.1 hb).1
set_option maxRecDepth 100000 in
theorem arg_bytes {H : Type} {enc : TypeId × Value → H} {W : World} {base : Nat} {v : Value} {d : DataW H} {p : List MemPlace}
  (h : Value.okWide Tryd.prog W .any base 22 v) (hr : DataW.Trod enc Tryd.prog W 0 (fun _ => true) true 22 v d p) :
  ∃ (A : Option Addr) (cap : Nat) (bs : List UInt8), v = .slice A bs.length cap ∧ Rd W A cap bs ∧ ∀ b off, A = some ⟨b, off, none⟩ → b < W.heap.size := by
 obtain ⟨A, len, cap, rfl, hA⟩ := arg_slice Tryd.underlying22 h
 obtain ⟨fuel, hf⟩ := hr
 rcases open_ints Tryd.underlying22 Tryd.underlying5 (by kernel_rfl) hf with ⟨hcs, _⟩ | ⟨x, l, c, zs, hcs, _, hl, hm, hz, _, hcell, hwz⟩
 ·simp [Value.cells] at hcs
  obtain ⟨rfl, rfl, rfl⟩ := hcs
  exact ⟨none, 0, [], rfl, ⟨by simp, by simp, fun h => absurd h (by simp), by simp⟩, by simp⟩
 ·simp [Value.cells] at hcs
  obtain ⟨rfl, rfl, rfl⟩ := hcs
  obtain ⟨b, off, spot⟩ := x
  obtain ⟨hs, hb⟩ := hA _ rfl
  simp only at hs hb hz
  subst hs
  have hlen : ((zs.take len).map fun z => UInt8.ofNat z.toNat).length = len := by simp at hz; simp; omega
  refine ⟨some ⟨b, off, none⟩, cap, (zs.take len).map fun z => UInt8.ofNat z.toNat, by rw [hlen], ⟨by rw [hlen]; exact hl, hm, fun _ => ⟨b, off, rfl, ?_⟩, fun _ _ => trivial⟩, ?_⟩
  ·intro j v hv
   have hfl : flat ((zs.take len).map fun z => UInt8.ofNat z.toNat) = (zs.take len).map fun z => Value.int .u8 ((UInt8.ofNat z.toNat).toNat : Int) := by
    unfold flat; rw [List.flatMap_map]
    show (zs.take len).flatMap (fun a => [Value.int .u8 ((UInt8.ofNat a.toNat).toNat : Int)]) = _
    induction zs.take len with
    |nil => rfl
    |cons a r ih => rw [List.flatMap_cons, ih]; rfl
   rw [hfl, List.getElem?_map, Option.map_eq_some_iff] at hv
   obtain ⟨z, hz1, rfl⟩ := hv
   have hj : j < zs.length ∧ j < len := by
    have := (List.getElem?_eq_some_iff.1 hz1).1
    simp at this
    omega
   rw [List.getElem?_take, if_pos hj.2] at hz1
   have hzj : zs.getD j 0 = z := by simp [List.getD, hz1]
   have hw := hwz z (List.mem_of_getElem? hz1)
   have := hcell j hj.1
   rw [hzj] at this
   have hadd : (⟨b, off, none⟩ : Addr).add j = ⟨b, off + j, none⟩ := by unfold Addr.add; split <;> simp_all
   rw [hadd] at this
   have hz2 : ((UInt8.ofNat z.toNat).toNat : Int) = z := by
    have h1 := of_decide_eq_true (show decide ((0 : Int) ≤ z) = true by simp [Lit.wf, IntKind.min, IntKind.signed] at hw; simpa using hw.1)
    have h2 := of_decide_eq_true (show decide (z ≤ (255 : Int)) = true by simp [Lit.wf, IntKind.max, IntKind.signed, IntKind.bits] at hw; simpa using hw.2)
    have h3 : (UInt8.ofNat z.toNat).toNat = z.toNat % 256 := by simp [UInt8.toNat_ofNat']
    rw [h3]
    omega
   rw [hz2]; exact this
  ·rintro b' off' e; simp at e; omega
end Go.Proofs.YtjhbbgeebobcpaaDoor
