/- Walks of the reference: the server. .. Walks of the reference: a server is ok; its news. -/
import Derived.Test.YtjhbbgeebobcpaaDoorZAG
import Derived.Test.YtjhbbgeebobcpaaDoorZAE
import Derived.Test.YtjhbbgeebobcpaaDoorZAA
import Derived.Deep.QuietTactic
import Derived.BigQuiet
import Derived.Laws.Bits64
import Derived.Test.YtjhbbgeebobcpaaDoorZAF
import Derived.Deep.DeepCutAuto
import Derived.Deep.CutBlock
import Derived.Deep.RegionLaw
import Derived.BigRegion
namespace Go.Proofs.YtjhbbgeebobcpaaDoor
open Go.RowKit Go.Lib
set_option linter.unusedVariables false
theorem tri_cells {W : World} {b : Nat} {v0 v1 v2 : Value} {ty : TypeId} (h : W.heap[b]? = some (.cells #[v0, v1, v2] ty (0, 0))) :
  W.cell? ⟨b, 0, none⟩ = some v0 ∧ W.cell? ⟨b, 1, none⟩ = some v1 ∧ W.cell? ⟨b, 2, none⟩ = some v2 ∧ ∀ o, W.frozen? ⟨b, o, none⟩ = false := by
 refine ⟨by simp [World.cell?, h], by simp [World.cell?, h], by simp [World.cell?, h], fun o => by simp [World.frozen?, h]⟩
theorem tri_set {W : World} {b : Nat} {a0 a1 a2 v0 v1 v2 : Value} {ty : TypeId} (h : W.heap[b]? = some (.cells #[a0, a1, a2] ty (0, 0))) :
  (((W.setCell ⟨b, 0, none⟩ v0).setCell ⟨b, 1, none⟩ v1).setCell ⟨b, 2, none⟩ v2).heap[b]? = some (.cells #[v0, v1, v2] ty (0, 0)) := set_at (v := v2) (i := 2) (set_at (v := v1) (i := 1) (set_at (v := v0) (i := 0) h))
set_option maxRecDepth 100000 in
set_option maxHeartbeats 2000000 in
theorem scopy_s (L : Option Addr) (ln : Nat) (l : List Entry) (safe : Int) (up : Bool) (w : World) (hr : RdT 44 w L ln l) (hl : l.length ≤ 1000) :
  Calls Tryd.prog 116 #[.agg #[.slice L l.length ln, .int .i64 safe, .bool up]] w fun x w' => ∃ L' n', x = .returned (.agg #[.slice L' l.length n', .int .i64 safe, .bool up]) ∧ RdT 44 w' L' n' l ∧ Ext w w' := by
 have hr0 : Rd w L ln l := hr.1
 have hX := two_new w (.cells #[.slice L l.length ln, .int .i64 safe, .bool up] 89) (.cells #[.slice none 0 0, .int .i64 0, .bool false] 89)
 have hE0 : Ext w ((w.alloc (.cells #[.slice L l.length ln, .int .i64 safe, .bool up] 89)).alloc (.cells #[.slice none 0 0, .int .i64 0, .bool false] 89)) := ((Below.refl _ w).alloc (Nat.le_refl _) _).alloc (by rw [alloc_sz]; omega) _
 have hs0 : ((w.alloc (.cells #[.slice L l.length ln, .int .i64 safe, .bool up] 89)).alloc (.cells #[.slice none 0 0, .int .i64 0, .bool false] 89)).heap.size = w.heap.size + 2 := by rw [alloc_sz, alloc_sz]
 obtain ⟨v3, w3, hrun, hown3, hg3⟩ := app_at el_ent (own_made (e := 44) (α := Entry) ((w.alloc (.cells #[.slice L l.length ln, .int .i64 safe, .bool up] 89)).alloc (.cells #[.slice none 0 0, .int .i64 0, .bool false] 89)) (w.heap.size + 2) (by omega)) ((hr0.ext hE0).alloc (.cells #[] 44)) (by simp; omega) (by rw [alloc_sz]; omega)
 have hs3 := hg3.size
 rw [alloc_sz, hs0] at hs3
 have hE3 := ext_grown (hE0.alloc (by omega) (.cells #[] 44)) hg3 (by rw [alloc_sz]; omega) (fun k hk => by simp only [Value.ownBlock, Option.some.injEq] at hk; omega)
 have hx3 := (hg3.block w.heap.size (by rw [alloc_sz]; omega) (fun e => by simp only [Value.ownBlock, Option.some.injEq] at e; omega)).trans ((Below.heap_alloc _ (.cells #[] 44) w.heap.size (by omega)).trans hX.1)
 have hy3 := (hg3.block (w.heap.size + 1) (by rw [alloc_sz]; omega) (fun e => by simp only [Value.ownBlock, Option.some.injEq] at e; omega)).trans ((Below.heap_alloc _ (.cells #[] 44) (w.heap.size + 1) (by omega)).trans hX.2)
 rw [List.nil_append] at hown3
 obtain ⟨A3, n3, hv3, hr3⟩ := hown3.rd
 skip
 subst hv3
 have HO3 := Lib.hid hown3; have HE3 := Lib.hid hE3; have HX3 := Lib.hid hx3; have HY3 := Lib.hid hy3
 simp only [alloc_sz] at hrun
 obtain ⟨c0, c1, c2, cf⟩ := tri_cells hx3
 obtain ⟨d0, d1, d2, df⟩ := tri_cells hX.1
 have hlt1 : w.heap.size < w3.heap.size := by omega
 have hlt2 : w.heap.size + 1 < w3.heap.size := by omega
 obtain ⟨e0, e1, e2, ef⟩ := tri_cells hy3
 clear hX hE0 hs0 hr0 hown3 hr3 hg3 hE3 hx3 hy3
 go_enter Tryd.func116, Tryd.ntmps116
 go_wp2_with (at_builtin; refine wpList_append_run rfl _ _ _ rfl rfl rfl hrun ?_)
 have hz := tri_set (v0 := .slice A3 l.length n3) (v1 := .int .i64 safe) (v2 := .bool up) ((setx (o := 0) (v := .slice A3 l.length n3) (b := w.heap.size) (by omega)).trans HY3.out)
 obtain ⟨k0, k1, k2, kf⟩ := tri_cells hz
 refine bodyPost_ret (v := .agg #[.slice A3 l.length n3, .int .i64 safe, .bool up]) ?_ rfl ?_
 ·simp [results, Tryd.f116, go_sem, k0, k1, k2]
 ·refine ⟨A3, n3, rfl, ?_, ?_⟩
  ·exact (((HO3.out.rdT.set HX3.out (by decide) _ _).set ((setx (by omega)).trans HY3.out) (by decide) _ _).set (set_at ((setx (by omega)).trans HY3.out)) (by decide) _ _).set (set_at (set_at ((setx (by omega)).trans HY3.out))) (by decide) _ _
  ·exact (((HE3.out.setCell (Nat.le_refl _) _).setCell (Nat.le_succ _) _).setCell (Nat.le_succ _) _).setCell (Nat.le_succ _) _
set_option maxRecDepth 100000 in
set_option maxHeartbeats 2000000 in
theorem fall_s (L : Option Addr) (ln : Nat) (l : List Entry) (safe : Int) (up : Bool) (left : Int) (w : World) (hr : RdT 44 w L ln l) (hl : l.length ≤ 1000) (h0 : 0 ≤ safe) (h1 : safe ≤ 100) (h2 : 0 ≤ left) (h3 : left ≤ 100) :
  Calls Tryd.prog 114 #[.agg #[.slice L l.length ln, .int .i64 safe, .bool up], .int .i64 left] w fun x w' => ∃ L' n', x = .returned (.agg #[.slice L' (l.take (min (l.length : Int) (safe + left)).toNat).length n', .int .i64 safe, .bool up]) ∧ RdT 44 w' L' n' (l.take (min (l.length : Int) (safe + left)).toNat) ∧ Ext w w' := by
 have hr0 : Rd w L ln l := hr.1
 have hX := two_new w (.cells #[.slice L l.length ln, .int .i64 safe, .bool up] 89) (.cells #[.slice none 0 0, .int .i64 0, .bool false] 89)
 have hE0 : Ext w ((w.alloc (.cells #[.slice L l.length ln, .int .i64 safe, .bool up] 89)).alloc (.cells #[.slice none 0 0, .int .i64 0, .bool false] 89)) := ((Below.refl _ w).alloc (Nat.le_refl _) _).alloc (by rw [alloc_sz]; omega) _
 have hs0 : ((w.alloc (.cells #[.slice L l.length ln, .int .i64 safe, .bool up] 89)).alloc (.cells #[.slice none 0 0, .int .i64 0, .bool false] 89)).heap.size = w.heap.size + 2 := by rw [alloc_sz, alloc_sz]
 obtain ⟨k, hk⟩ : ∃ k : Nat, k = (min (l.length : Int) (safe + left)).toNat := ⟨_, rfl⟩
 have hmin : min (l.length : Int) (safe + left) = (k : Int) := by omega
 have hkl : k ≤ l.length := by omega
 have hsl := fun (W : World) => run_head el_ent L l.length ln k (by have := hr0.1; omega) W
 have hszr : Flat.sz Entry = 7 := rfl
 have hrh := (hr0.ext hE0).head k
 simp only [hszr] at hsl hrh
 generalize fromA L ln 0 7 = L7 at hsl hrh
 have hlk : (l.take k).length = k := by rw [List.length_take]; omega
 rw [← hk]
 obtain ⟨T, hT⟩ : ∃ T, T = l.take k := ⟨_, rfl⟩
 rw [← hT] at hrh hlk ⊢
 obtain ⟨v3, w3, hrun, hown3, hg3⟩ := app_at el_ent (own_made (e := 44) (α := Entry) ((w.alloc (.cells #[.slice L l.length ln, .int .i64 safe, .bool up] 89)).alloc (.cells #[.slice none 0 0, .int .i64 0, .bool false] 89)) (w.heap.size + 2) (by omega)) (hrh.alloc (.cells #[] 44)) (by simp; omega) (by rw [alloc_sz]; omega)
 rw [hlk] at hrun
 rw [hlk]
 clear hT hk
 have hs3 := hg3.size
 rw [alloc_sz, hs0] at hs3
 have hE3 := ext_grown (hE0.alloc (by omega) (.cells #[] 44)) hg3 (by rw [alloc_sz]; omega) (fun k hk => by simp only [Value.ownBlock, Option.some.injEq] at hk; omega)
 have hx3 := (hg3.block w.heap.size (by rw [alloc_sz]; omega) (fun e => by simp only [Value.ownBlock, Option.some.injEq] at e; omega)).trans ((Below.heap_alloc _ (.cells #[] 44) w.heap.size (by omega)).trans hX.1)
 have hy3 := (hg3.block (w.heap.size + 1) (by rw [alloc_sz]; omega) (fun e => by simp only [Value.ownBlock, Option.some.injEq] at e; omega)).trans ((Below.heap_alloc _ (.cells #[] 44) (w.heap.size + 1) (by omega)).trans hX.2)
 rw [List.nil_append] at hown3
 obtain ⟨A3, n3, hv3, hr3⟩ := hown3.rd
 rw [hlk] at hv3
 subst hv3
 have HO3 := Lib.hid hown3; have HE3 := Lib.hid hE3; have HX3 := Lib.hid hx3; have HY3 := Lib.hid hy3
 simp only [alloc_sz] at hrun
 obtain ⟨c0, c1, c2, cf⟩ := tri_cells hx3
 obtain ⟨d0, d1, d2, df⟩ := tri_cells hX.1
 have hlt1 : w.heap.size < w3.heap.size := by omega
 have hlt2 : w.heap.size + 1 < w3.heap.size := by omega
 obtain ⟨e0, e1, e2, ef⟩ := tri_cells hy3
 clear hX hE0 hs0 hr0 hown3 hr3 hg3 hE3 hx3 hy3
 go_enter Tryd.func114, Tryd.ntmps114
 go_wp2_with (at_builtin; refine wpList_append_run rfl _ _ _ rfl rfl rfl hrun ?_)
 have hz := tri_set (v0 := .slice A3 k n3) (v1 := .int .i64 safe) (v2 := .bool up) ((setx (o := 0) (v := .slice A3 k n3) (b := w.heap.size) (by omega)).trans HY3.out)
 obtain ⟨k0, k1, k2, kf⟩ := tri_cells hz
 refine bodyPost_ret (v := .agg #[.slice A3 k n3, .int .i64 safe, .bool up]) ?_ rfl ?_
 ·simp [results, Tryd.f114, go_sem, k0, k1, k2]
 ·refine ⟨A3, n3, rfl, ?_, ?_⟩
  ·exact (((HO3.out.rdT.set HX3.out (by decide) _ _).set ((setx (by omega)).trans HY3.out) (by decide) _ _).set (set_at ((setx (by omega)).trans HY3.out)) (by decide) _ _).set (set_at (set_at ((setx (by omega)).trans HY3.out))) (by decide) _ _
  ·exact (((HE3.out.setCell (Nat.le_refl _) _).setCell (Nat.le_succ _) _).setCell (Nat.le_succ _) _).setCell (Nat.le_succ _) _
open Go.RowKit Go.Lib
def srvS (l : List Entry) (up : Bool) (e : Entry) : List Entry × Bool := if up = true ∧ (addS l e).2 = 1 then ((addS l e).1, true) else (l, false)
theorem srvS_ok {l : List Entry} {up : Bool} {e : Entry} (hl : l.length ≤ 40) (hall : ∀ x ∈ l, entryOk x = true) (he : entryOk e = true) : (srvS l up e).1.length ≤ 40 ∧ l.length ≤ (srvS l up e).1.length ∧ ∀ x ∈ (srvS l up e).1, entryOk x = true := by
 unfold srvS
 split
 ·rename_i h
  unfold addS at h ⊢
  split
  ·exact ⟨hl, Nat.le_refl _, hall⟩
  ·split
   ·exact ⟨hl, Nat.le_refl _, hall⟩
   ·rename_i h1 h2
    refine ⟨?_, ?_, ?_⟩
    ·rw [List.length_append, List.length_singleton]; omega
    ·rw [List.length_append]; omega
    ·intro x hx
     rcases List.mem_append.1 hx with h3 | h3
     ·exact hall x h3
     ·rw [List.mem_singleton.1 h3]; exact he
 ·exact ⟨hl, Nat.le_refl _, hall⟩
set_option maxRecDepth 100000 in
set_option maxHeartbeats 4000000 in
theorem hear13_s (L : Option Addr) (ln : Nat) (l : List Entry) (safe : Int) (up : Bool) (e : Entry) (w : World) (hr : RdT 44 w L ln l) (he : e.op.text.size ≤ maxLen) (hl : l.length ≤ 1000) :
  Calls Tryd.prog 122 #[.agg #[.slice L l.length ln, .int .i64 safe, .bool up], .agg (cN e)] w fun x w' => ∃ L' n', x = .returned (.tuple #[.agg #[.slice L' (srvS l up e).1.length n', .int .i64 safe, .bool up], .bool (srvS l up e).2]) ∧ RdT 44 w' L' n' (srvS l up e).1 ∧ Ext w w' := by
 have h3 := three_all w (.cells #[.slice L l.length ln, .int .i64 safe, .bool up] 89) (oN e) (.cells #[.slice none 0 0, .int .i64 0, .bool false] 89)
 have hE3 : Ext w (((w.alloc (.cells #[.slice L l.length ln, .int .i64 safe, .bool up] 89)).alloc (oN e)).alloc (.cells #[.slice none 0 0, .int .i64 0, .bool false] 89)) := ext3 _ _ _ _
 have hz3 : (((w.alloc (.cells #[.slice L l.length ln, .int .i64 safe, .bool up] 89)).alloc (oN e)).alloc (.cells #[.slice none 0 0, .int .i64 0, .bool false] 89)).heap.size = w.heap.size + 3 := by simp only [alloc_sz]
 have HX1 := Lib.hid h3.1; have HX2 := Lib.hid h3.2.1; have HX3 := Lib.hid h3.2.2
 have HR := Lib.hid (hr.ext hE3); have HE3 := Lib.hid hE3
 have HAD := Lib.hid (add_s L ln l e (((w.alloc (.cells #[.slice L l.length ln, .int .i64 safe, .bool up] 89)).alloc (oN e)).alloc (.cells #[.slice none 0 0, .int .i64 0, .bool false] 89)) (hr.ext hE3) he hl)
 clear h3 hE3 hr
 go_enter Tryd.func122, Tryd.ntmps122
 go_wp2_with fail
 generalize (((w.alloc (.cells #[.slice L l.length ln, .int .i64 safe, .bool up] 89)).alloc (oN e)).alloc (.cells #[.slice none 0 0, .int .i64 0, .bool false] 89)) = W3 at *
 refine HAD.out.mono ?_
 rintro x w4 ⟨L', n', rfl, hq, hb4⟩
 have hx1 := (hb4.block w.heap.size (by omega)).trans HX1.out
 have hx3 := (hb4.block (w.heap.size + 1 + 1) (by omega)).trans HX3.out
 have hlt3 := blk_lt hx3
 obtain ⟨c0, c1, c2, cf⟩ := tri_cells hx1
 obtain ⟨d0, d1, d2, df⟩ := tri_cells hx3
 have HB4 := Lib.hid hb4; have HX1' := Lib.hid hx1; have HX3' := Lib.hid hx3; have HQ4 := Lib.hid hq
 have HE4 := Lib.hid (HE3.out.trans (hb4.mono HE3.out.size))
 clear hb4 hx1 hx3 hq HAD
 cases up
 ·have HRES : Hid (srvS l false e = (l, false)) := by show _ = _; unfold srvS; rw [if_neg (fun h => by cases h.1)]
  have hz := tri_set (v0 := .slice L l.length ln) (v1 := .int .i64 safe) (v2 := .bool false) (HX3'.out)
  have HZ := Lib.hid hz
  have HQ := Lib.hid ((((HR.out.ext HB4.out).set (HX3'.out) (by decide) 0 (.slice L l.length ln)).set (set_at (HX3'.out)) (by decide) 1 (.int .i64 safe)).set (set_at (set_at (HX3'.out))) (by decide) 2 (.bool false))
  have HE := Lib.hid ((((HE4.out).setCell (p := ⟨w.heap.size + 1 + 1, 0, none⟩) (show w.heap.size ≤ w.heap.size + 1 + 1 by omega) (.slice L l.length ln)).setCell (p := ⟨w.heap.size + 1 + 1, 1, none⟩) (show w.heap.size ≤ w.heap.size + 1 + 1 by omega) (.int .i64 safe)).setCell (p := ⟨w.heap.size + 1 + 1, 2, none⟩) (show w.heap.size ≤ w.heap.size + 1 + 1 by omega) (.bool false))
  clear hz
  go_wp2_with fail
  obtain ⟨k0, k1, k2, kf⟩ := tri_cells HZ.out
  refine bodyPost_ret (v := .tuple #[.agg #[.slice L l.length ln, .int .i64 safe, .bool false], .bool false]) ?_ rfl ?_
  ·simp [results, Tryd.f122, go_sem, k0, k1, k2]
  ·exact ⟨L, ln, by rw [HRES.out], by rw [HRES.out]; exact HQ.out, HE.out⟩
 ·by_cases hn : (addS l e).2 = 1
  ·have HRES : Hid (srvS l true e = ((addS l e).1, true)) := by show _ = _; unfold srvS; rw [if_pos ⟨rfl, hn⟩]
   have hn' : ((addS l e).2 != 1) = false := by simp [hn]
   clear hn
   have hx5 := (setx (w := w4) (o := 0) (v := .slice L' (addS l e).1.length n') (b := w.heap.size) (b' := w.heap.size + 1 + 1) (by omega)).trans HX3'.out
   have HX5 := Lib.hid hx5
   clear hx5
   have hz := tri_set (v0 := .slice L' (addS l e).1.length n') (v1 := .int .i64 safe) (v2 := .bool true) (HX5.out)
   have HZ := Lib.hid hz
   have HQ := Lib.hid ((((HQ4.out.set HX1'.out (by decide) 0 (.slice L' (addS l e).1.length n')).set (HX5.out) (by decide) 0 (.slice L' (addS l e).1.length n')).set (set_at (HX5.out)) (by decide) 1 (.int .i64 safe)).set (set_at (set_at (HX5.out))) (by decide) 2 (.bool true))
   have HE := Lib.hid ((((HE4.out.setCell (p := ⟨w.heap.size, 0, none⟩) (Nat.le_refl _) (.slice L' (addS l e).1.length n')).setCell (p := ⟨w.heap.size + 1 + 1, 0, none⟩) (show w.heap.size ≤ w.heap.size + 1 + 1 by omega) (.slice L' (addS l e).1.length n')).setCell (p := ⟨w.heap.size + 1 + 1, 1, none⟩) (show w.heap.size ≤ w.heap.size + 1 + 1 by omega) (.int .i64 safe)).setCell (p := ⟨w.heap.size + 1 + 1, 2, none⟩) (show w.heap.size ≤ w.heap.size + 1 + 1 by omega) (.bool true))
   clear hz
   go_wp2_with fail
   obtain ⟨k0, k1, k2, kf⟩ := tri_cells HZ.out
   refine bodyPost_ret (v := .tuple #[.agg #[.slice L' (addS l e).1.length n', .int .i64 safe, .bool true], .bool true]) ?_ rfl ?_
   ·simp [results, Tryd.f122, go_sem, k0, k1, k2]
   ·exact ⟨L', n', by rw [HRES.out], by rw [HRES.out]; exact HQ.out, HE.out⟩
  ·have HRES : Hid (srvS l true e = (l, false)) := by show _ = _; unfold srvS; rw [if_neg (fun h => hn h.2)]
   have hn' : ((addS l e).2 != 1) = true := by simp [hn]
   clear hn
   have hz := tri_set (v0 := .slice L l.length ln) (v1 := .int .i64 safe) (v2 := .bool true) (HX3'.out)
   have HZ := Lib.hid hz
   have HQ := Lib.hid ((((HR.out.ext HB4.out).set (HX3'.out) (by decide) 0 (.slice L l.length ln)).set (set_at (HX3'.out)) (by decide) 1 (.int .i64 safe)).set (set_at (set_at (HX3'.out))) (by decide) 2 (.bool true))
   have HE := Lib.hid ((((HE4.out).setCell (p := ⟨w.heap.size + 1 + 1, 0, none⟩) (show w.heap.size ≤ w.heap.size + 1 + 1 by omega) (.slice L l.length ln)).setCell (p := ⟨w.heap.size + 1 + 1, 1, none⟩) (show w.heap.size ≤ w.heap.size + 1 + 1 by omega) (.int .i64 safe)).setCell (p := ⟨w.heap.size + 1 + 1, 2, none⟩) (show w.heap.size ≤ w.heap.size + 1 + 1 by omega) (.bool true))
   clear hz
   go_wp2_with fail
   obtain ⟨k0, k1, k2, kf⟩ := tri_cells HZ.out
   refine bodyPost_ret (v := .tuple #[.agg #[.slice L l.length ln, .int .i64 safe, .bool true], .bool false]) ?_ rfl ?_
   ·simp [results, Tryd.f122, go_sem, k0, k1, k2]
   ·exact ⟨L, ln, by rw [HRES.out], by rw [HRES.out]; exact HQ.out, HE.out⟩
open Go.RowKit
instance : Flat UInt8 := ⟨fun x => [.int .u8 x.toNat], 1, fun _ => rfl, fun _ u hu => by simp at hu; subst hu; rfl, by omega, fun _ => True⟩
theorem byte_at {w : World} {A : Option Addr} {c : Nat} {l : List UInt8} (h : Rd w A c l) (k : Nat) (hk : k < l.length) :
  ∃ b off, A = some ⟨b, off, none⟩ ∧ b < w.heap.size ∧ w.cell? ⟨b, off + k, none⟩ = some (.int .u8 l[k].toNat) := by
 obtain ⟨b, off, rfl, hb, hc⟩ := h.at_ k hk
 have h0 := hc 0 _ rfl
 exact ⟨b, off, rfl, hb, by
  have e : off + (k * 1 + 0) = off + k := by omega
  rw [← e]; exact h0⟩
theorem str_at {w : World} {A : Option Addr} {c : Nat} {l : List ByteArray} (h : Rd w A c l) (k : Nat) (hk : k < l.length) :
  ∃ b off, A = some ⟨b, off, none⟩ ∧ b < w.heap.size ∧ w.cell? ⟨b, off + k, none⟩ = some (.string l[k]) := by
 obtain ⟨b, off, rfl, hb, hc⟩ := h.at_ k hk
 have h0 := hc 0 _ rfl
 exact ⟨b, off, rfl, hb, by
  have e : off + (k * 1 + 0) = off + k := by omega
  rw [← e]; exact h0⟩
def Rdr (w : World) (r p : Nat) : Prop :=
 ∃ (A : Option Addr) (c : Nat) (bs : List UInt8), w.heap[r]? = some (.cells #[.slice A bs.length c, .int .i64 p] 103 (0, 0)) ∧ Rd w A c bs ∧ bs.length ≤ 2000 ∧ ∀ b off, A = some ⟨b, off, none⟩ → b < r
theorem Rdr.lt {w : World} {r p : Nat} (h : Rdr w r p) : r < w.heap.size := by
 obtain ⟨A, c, bs, h1, _⟩ := h; exact blk_lt h1
theorem Rdr.ext {w w' : World} {r p : Nat} (h : Rdr w r p) (hb : Ext w w') : Rdr w' r p := by
 obtain ⟨A, c, bs, h1, h2, h3⟩ := h
 exact ⟨A, c, bs, (hb.block r (blk_lt h1)).trans h1, h2.ext hb, h3⟩
theorem two_cells {W : World} {b : Nat} {v0 v1 : Value} {ty : TypeId} (h : W.heap[b]? = some (.cells #[v0, v1] ty (0, 0))) :
  W.cell? ⟨b, 0, none⟩ = some v0 ∧ W.cell? ⟨b, 1, none⟩ = some v1 ∧ ∀ o, W.frozen? ⟨b, o, none⟩ = false := by
 refine ⟨by simp [World.cell?, h], by simp [World.cell?, h], fun o => by simp [World.frozen?, h]⟩
def PickP (r p : Nat) (n : Int) (w : World) (e : Ending) (w' : World) : Prop :=
 ∃ v : Int, e = .returned (.int .i64 v) ∧ 0 ≤ v ∧ (1 ≤ n → v < n) ∧ (n < 1 → v = 0) ∧ Rdr w' r (p + 1) ∧ w.grownBy w' (some r)
theorem xor_i64 (X : Nat) (hX : X < 4611686018427387904) : ∃ Y : Nat, bits .xor .i64 (X : Int) ((X : Int) / 64) = (Y : Int) ∧ Y < 4611686018427387904 := by
 have d : ((X : Int) / 64) = ((X / 64 : Nat) : Int) := by omega
 have hb : X / 64 < 4611686018427387904 := by omega
 have hx : X ^^^ (X / 64) < 2 ^ 62 := Nat.xor_lt_two_pow (by omega) (by omega)
 have h1 : (BitVec.ofInt 64 (X : Int)).toNat = X := by
  rw [BitVec.ofInt_natCast, BitVec.toNat_ofNat]; exact Nat.mod_eq_of_lt (by omega)
 have h2 : (BitVec.ofInt 64 ((X / 64 : Nat) : Int)).toNat = X / 64 := by
  rw [BitVec.ofInt_natCast, BitVec.toNat_ofNat]; exact Nat.mod_eq_of_lt (by omega)
 refine ⟨X ^^^ (X / 64), ?_, by omega⟩
 rw [d]
 show IntKind.i64.wrap ((BitVec.ofInt 64 (X : Int) ^^^ BitVec.ofInt 64 ((X / 64 : Nat) : Int)).toNat : Int) = _
 rw [BitVec.toNat_xor, h1, h2, IntKind.wrap_i64]
 omega
set_option maxRecDepth 100000 in
set_option maxHeartbeats 4000000 in
theorem pick_c (r p : Nat) (n : Int) (w : World) (h : Rdr w r p) (hp : p < 1000000000) (hn : i64 n) :
  Calls Tryd.prog 63 #[.pointer (some ⟨r, 0, none⟩), .int .i64 n] w (PickP r p n w) := by
 obtain ⟨A, c, bs, hbk, hrd, hl, hlow⟩ := h
 obtain ⟨hn0, hn1⟩ := hn
 obtain ⟨c0, c1, cf⟩ := two_cells hbk
 have hset : (w.setCell ⟨r, 1, none⟩ (.int .i64 ((p : Int) + 1))).heap[r]? = some (.cells #[.slice A bs.length c, .int .i64 ((p : Int) + 1)] 103 (0, 0)) := set_at hbk
 obtain ⟨d0, d1, df⟩ := two_cells hset
 have hg : w.grownBy (w.setCell ⟨r, 1, none⟩ (.int .i64 ((p : Int) + 1))) (some r) := gset_any w r 1 _
 have hrd2 : Rd (w.setCell ⟨r, 1, none⟩ (.int .i64 ((p : Int) + 1))) A c bs := hrd.grown hg (fun b off e h => by have := hlow b off e; injection h with h; omega)
 have hR2 : Rdr (w.setCell ⟨r, 1, none⟩ (.int .i64 ((p : Int) + 1))) r (p + 1) := ⟨A, c, bs, by rw [hset]; rfl, hrd2, hl, hlow⟩
 generalize hW : w.setCell ⟨r, 1, none⟩ (.int .i64 ((p : Int) + 1)) = W at hset d0 d1 df hg hrd2 hR2
 have HW := Lib.hid hW; have HG := Lib.hid hg; have HR2 := Lib.hid hR2; have HRD := Lib.hid hrd2
 have hne : r < w.heap.size := blk_lt hbk
 clear hset hg hrd2 hR2 hrd hW hbk
 have hp1 : (p : Int) + 1 ≤ 1000000000 := by omega
 by_cases h1 : n < 1
 ·have FIN : Hid (PickP r p n w (.returned (.int .i64 0)) W) := ⟨0, rfl, Int.le_refl _, fun h => by omega, fun _ => rfl, HR2.out, HG.out⟩
  go_enter Tryd.func63, Tryd.ntmps63
  go_wp2_with fail
  rw [HW.out]
  go_ret
  exact FIN.out
 have FIN : Hid (∀ v : Int, 0 ≤ v → v < n → PickP r p n w (.returned (.int .i64 v)) W) := fun v h0 h2 => ⟨v, rfl, h0, fun _ => h2, fun h => by omega, HR2.out, HG.out⟩
 have FIN0 : Hid (PickP r p n w (.returned (.int .i64 0)) W) := FIN.out 0 (Int.le_refl _) (by omega)
 by_cases hb0 : bs.length = 0
 ·have hb0' : ((bs.length : Int) == 0) = true := by simp [hb0]
  have HB := Lib.hid hb0
  clear hb0
  go_enter Tryd.func63, Tryd.ntmps63
  go_wp2_with fail
  rw [HW.out]
  go_ret
  exact FIN0.out
 have hb0' : ((bs.length : Int) == 0) = false := beq_eq_false_iff_ne.2 (by omega)
 by_cases hpl : p < bs.length
 ·obtain ⟨b, off, rfl, hbl, x0⟩ := byte_at HRD.out p hpl
  have hbr := hlow b off rfl
  have hub : (bs[p].toNat : Int) < 256 := by have := bs[p].toNat_lt; omega
  have y0 : w.cell? ⟨b, off + p, none⟩ = some (.int .u8 bs[p].toNat) := by
   have := (cell_blk (HG.out.block b (by omega) (fun e => Nat.ne_of_lt hbr (Option.some.inj e))) (off + p)).symm.trans x0
   exact this
  have hm0 : 0 ≤ (bs[p].toNat : Int) % n := Int.emod_nonneg _ (by omega)
  have hm1 : (bs[p].toNat : Int) % n < n := Int.emod_lt_of_pos _ (by omega)
  clear hlow x0
  go_enter Tryd.func63, Tryd.ntmps63
  go_wp2_with fail
  rw [HW.out]
  go_ret
  exact FIN.out _ hm0 hm1
 ·have hpos : 0 < bs.length := by omega
  have hi1 : p % bs.length < bs.length := Nat.mod_lt _ hpos
  have hi2 : (p * 7 + 3) % bs.length < bs.length := Nat.mod_lt _ hpos
  obtain ⟨b, off, rfl, hbl, x0⟩ := byte_at HRD.out _ hi1
  obtain ⟨b', off', e', hbl', x1⟩ := byte_at HRD.out _ hi2
  cases e'
  have hbr := hlow b off rfl
  clear hlow
  go_enter Tryd.func63, Tryd.ntmps63
  go_wp2_with fail
  rw [HW.out]
  generalize hb1 : bs[p % bs.length].toNat = B1 at x0
  generalize hb2 : bs[(p * 7 + 3) % bs.length].toNat = B2 at x1
  have hub1 : B1 < 256 := by rw [← hb1]; exact UInt8.toNat_lt _
  have hub2 : B2 < 256 := by rw [← hb2]; exact UInt8.toNat_lt _
  clear hb1 hb2
  generalize hl9 : bs.length = N at *
  have hdv : p / N ≤ p := Nat.div_le_self _ _
  have g1 : IntKind.i64.wrap (B1 : Int) = B1 := by rw [IntKind.wrap_i64]; omega
  have g2 : IntKind.i64.wrap (B2 : Int) = B2 := by rw [IntKind.wrap_i64]; omega
  have g3 : IntKind.i64.wrap ((B1 : Int) * 131) = (B1 : Int) * 131 := by rw [IntKind.wrap_i64]; omega
  have g4 : IntKind.i64.wrap ((B2 : Int) * 1117) = (B2 : Int) * 1117 := by rw [IntKind.wrap_i64]; omega
  have g5 : IntKind.i64.wrap ((B1 : Int) * 131 + (B2 : Int) * 1117) = (B1 : Int) * 131 + (B2 : Int) * 1117 := by rw [IntKind.wrap_i64]; omega
  have g6 : IntKind.i64.wrap ((p : Int) * 7) = (p : Int) * 7 := by rw [IntKind.wrap_i64]; omega
  have g7 : IntKind.i64.wrap ((p : Int) * 7 + 3) = (p : Int) * 7 + 3 := by rw [IntKind.wrap_i64]; omega
  have g8 : IntKind.i64.wrap ((p : Int) * 29) = (p : Int) * 29 := by rw [IntKind.wrap_i64]; omega
  have g9 : IntKind.i64.wrap ((B1 : Int) * 131 + (B2 : Int) * 1117 + (p : Int) * 29) = (B1 : Int) * 131 + (B2 : Int) * 1117 + (p : Int) * 29 := by rw [IntKind.wrap_i64]; omega
  have hN0 : (0 : Int) < N := by omega
  have t1 : (p : Int).tmod N = (p : Int) % N := Int.tmod_eq_emod_of_nonneg (by omega)
  have t2 : ((p : Int) * 7 + 3).tmod N = ((p : Int) * 7 + 3) % N := Int.tmod_eq_emod_of_nonneg (by omega)
  have m0 : 0 ≤ (p : Int) % N := Int.emod_nonneg _ (by omega)
  have m1 : (p : Int) % N < N := Int.emod_lt_of_pos _ hN0
  have m2 : ((p : Int) % N).toNat = p % N := by rw [show (p : Int) % N = ((p % N : Nat) : Int) from rfl]; rfl
  have m3 : 0 ≤ ((p : Int) * 7 + 3) % N := Int.emod_nonneg _ (by omega)
  have m4 : ((p : Int) * 7 + 3) % N < N := Int.emod_lt_of_pos _ hN0
  have m5 : (((p : Int) * 7 + 3) % N).toNat = (p * 7 + 3) % N := by rw [show ((p : Int) * 7 + 3) % N = (((p * 7 + 3) % N : Nat) : Int) from rfl]; rfl
  have t3 : (p : Int).tdiv N = ((p / N : Nat) : Int) := by rw [Int.tdiv_eq_ediv_of_nonneg (by omega)]; rfl
  generalize hD : p / N = D at t3 hdv
  have g10 : IntKind.i64.wrap ((D : Int) * 53) = (D : Int) * 53 := by rw [IntKind.wrap_i64]; omega
  have g11 : IntKind.i64.wrap ((B1 : Int) * 131 + (B2 : Int) * 1117 + (p : Int) * 29 + (D : Int) * 53) = (B1 : Int) * 131 + (B2 : Int) * 1117 + (p : Int) * 29 + (D : Int) * 53 := by rw [IntKind.wrap_i64]; omega
  clear hi1 hi2
  go_quiet (fail)
  have hXb : 0 ≤ (B1 : Int) * 131 + (B2 : Int) * 1117 + (p : Int) * 29 + (D : Int) * 53 ∧ (B1 : Int) * 131 + (B2 : Int) * 1117 + (p : Int) * 29 + (D : Int) * 53 < 1000000000000 := by omega
  generalize (B1 : Int) * 131 + (B2 : Int) * 1117 + (p : Int) * 29 + (D : Int) * 53 = XI at *
  obtain ⟨X, rfl⟩ : ∃ X : Nat, XI = X := ⟨XI.toNat, by omega⟩
  obtain ⟨hX0, hX1⟩ := hXb
  obtain ⟨Y, hY, hYb⟩ := xor_i64 X (by omega)
  have hy0 : 0 ≤ (Y : Int) % n := Int.emod_nonneg _ (by omega)
  have hy1 : (Y : Int) % n < n := Int.emod_lt_of_pos _ (by omega)
  have HF : Hid (PickP r p n w (.returned (.int .i64 ((Y : Int) % n))) (W.drewN nq)) := ⟨_, rfl, hy0, fun _ => hy1, fun h => by omega, HR2.out, ⟨HG.out.os, HG.out.tape, HG.out.output, HG.out.size, HG.out.block⟩⟩
  clear g1 g2 g3 g4 g5 g6 g7 g8 g9 g10 g11 t1 t2 t3 m0 m1 m2 m3 m4 m5 hy0 hy1
  go_wp2_with fail
  go_ret
  exact HF.out
theorem gtrans {w w1 w2 : World} {row : Option Nat} (h : w.grownBy w1 row) (k : w1.grownBy w2 row) : w.grownBy w2 row :=
 ⟨k.os.trans h.os, k.tape.trans h.tape, k.output.trans h.output, Nat.le_trans h.size k.size, fun i hi hne => (k.block i (Nat.lt_of_lt_of_le hi h.size) hne).trans (h.block i hi hne)⟩
theorem gext {w w' : World} {row : Option Nat} (h : Ext w w') : w.grownBy w' row := ⟨h.os, h.tape, h.output, h.size, fun i hi _ => h.block i hi⟩
def OfP (r p : Nat) (ss : List ByteArray) (w : World) (e : Ending) (w' : World) : Prop := ∃ s, s ∈ ss ∧ e = .returned (.string s) ∧ Rdr w' r (p + 1) ∧ w.grownBy w' (some r)
set_option maxRecDepth 100000 in
set_option maxHeartbeats 1000000 in
theorem of_c (r p : Nat) (A : Option Addr) (c : Nat) (ss : List ByteArray) (w : World) (h : Rdr w r p) (hp : p < 1000000000) (hr : Rd w A c ss) (h0 : 0 < ss.length) (hl : ss.length ≤ 1000) (hA : ∀ b off, A = some ⟨b, off, none⟩ → b ≠ r) :
  Calls Tryd.prog 108 #[.pointer (some ⟨r, 0, none⟩), .slice A ss.length c] w (OfP r p ss w) := by
 have HP := Lib.hid (pick_c r p ss.length w h hp ⟨by omega, by omega⟩)
 have HR := Lib.hid hr; have HA := Lib.hid hA
 clear hr hA h
 go_enter Tryd.func108, Tryd.ntmps108
 go_wp2_with fail
 refine HP.out.mono ?_
 rintro e w1 ⟨v, rfl, hv0, hv1, -, hr1, hg1⟩
 have hvl := hv1 (by omega)
 obtain ⟨k, rfl⟩ : ∃ k : Nat, v = k := ⟨v.toNat, by omega⟩
 have hk : k < ss.length := by omega
 have hR1 := HR.out.grown hg1 (fun b off e h => HA.out b off e (Option.some.inj h))
 obtain ⟨b, off, rfl, hbl, x0⟩ := str_at hR1 k hk
 have HF : Hid (OfP r p ss w (.returned (.string ss[k])) w1) := ⟨_, List.getElem_mem hk, rfl, hr1, hg1⟩
 clear hv1 hr1 hg1 hR1 HP
 go_wp2_with fail
 go_ret
 exact HF.out
open Go.RowKit
theorem rd_new {α : Type} [Flat α] (w : World) (l : List α) (cs : Array Value) (ty : TypeId) (h : cs.toList = flat l) (hl : l.length ≤ 1000) (hok : ∀ x ∈ l, Flat.okE x) : Rd (w.alloc (.cells cs ty)) (some ⟨w.heap.size, 0, none⟩) l.length l := by
 refine ⟨Nat.le_refl _, by unfold maxLen; omega, fun _ => ⟨w.heap.size, 0, rfl, fun j v hv => ?_⟩, hok⟩
 rw [← h, Array.getElem?_toList] at hv
 have h9 := World.alloc_heap_new w (.cells cs ty)
 unfold World.cell?
 simp only [h9, Nat.zero_add]
 exact hv
def letters : List ByteArray := [⟨#[97]⟩, ⟨#[98]⟩, ⟨#[99]⟩, ⟨#[100]⟩]
def spoilt : List ByteArray := [⟨#[101]⟩, ⟨#[32]⟩, ⟨#[97, 97, 97, 97]⟩, ⟨#[39]⟩]
theorem letters_ok : ∀ x ∈ letters, x.size = 1 := by intro x hx; simp only [letters, List.mem_cons, List.not_mem_nil, or_false] at hx; rcases hx with rfl | rfl | rfl | rfl <;> rfl
theorem spoilt_ok : ∀ x ∈ spoilt, x.size ≤ 4 := by intro x hx; simp only [spoilt, List.mem_cons, List.not_mem_nil, or_false] at hx; rcases hx with rfl | rfl | rfl | rfl <;> decide
theorem small_ok {l : List ByteArray} (h : ∀ x ∈ l, x.size ≤ 4) : ∀ x ∈ l, Flat.okE x := fun x hx => Nat.le_trans (h x hx) (by decide)
def IdP (r p : Nat) (w : World) (e : Ending) (w' : World) : Prop := ∃ v : Int, e = .returned (.int .i64 v) ∧ isMade v = true ∧ Rdr w' r (p + 2) ∧ w.grownBy w' (some r)
set_option maxRecDepth 100000 in
theorem id_d (r p : Nat) (w : World) (h : Rdr w r p) (hp : p < 999999000) :
  Calls Tryd.prog 88 #[.pointer (some ⟨r, 0, none⟩)] w (IdP r p w) := by
 have HP := Lib.hid (pick_c r p 3 w h (by omega) ⟨by omega, by omega⟩)
 clear h
 go_enter Tryd.func88, Tryd.ntmps88
 go_wp2_with fail
 refine HP.out.mono ?_
 rintro e w1 ⟨v, rfl, hv0, hv1, -, hr1, hg1⟩
 have hvl := hv1 (by omega)
 have HP2 := Lib.hid (pick_c r (p + 1) 4 w1 hr1 (by omega) ⟨by omega, by omega⟩)
 have HG1 := Lib.hid hg1
 clear hv1 hr1 hg1 HP
 go_wp2_with fail
 refine HP2.out.mono ?_
 rintro e w2 ⟨u, rfl, hu0, hu1, -, hr2, hg2⟩
 have hul := hu1 (by omega)
 have HF : Hid (IdP r p w (.returned (.int .i64 (10 * (1 + v) + 1 + u))) w2) := ⟨_, rfl, by rw [isMade_iff]; omega, hr2, gtrans HG1.out hg2⟩
 clear hu1 hr2 hg2 HP2
 go_wp2_with fail
 go_ret
 exact HF.out
def TextP (r p : Nat) (w : World) (e : Ending) (w' : World) : Prop := ∃ (s : ByteArray) (p' : Nat), e = .returned (.string s) ∧ s.size ≤ 7 ∧ p ≤ p' ∧ p' ≤ p + 6 ∧ Rdr w' r p' ∧ w.grownBy w' (some r)
set_option maxRecDepth 100000 in
set_option maxHeartbeats 1000000 in
theorem text_d (r p : Nat) (w : World) (h : Rdr w r p) (hp : p < 999999000) :
  Calls Tryd.prog 89 #[.pointer (some ⟨r, 0, none⟩)] w (TextP r p w) := by
 have HP := Lib.hid (pick_c r p 4 w h (by omega) ⟨by omega, by omega⟩)
 clear h
 go_enter Tryd.func89, Tryd.ntmps89
 go_wp2_with fail
 refine HP.out.mono ?_
 rintro e w1 ⟨v, rfl, hv0, hv1, -, hr1, hg1⟩
 have hvl := hv1 (by omega)
 obtain ⟨m0, rfl⟩ : ∃ k : Nat, v = k := ⟨v.toNat, by omega⟩
 have HR1 := Lib.hid hr1; have HG1 := Lib.hid hg1
 clear hv1 hr1 hg1 HP
 go_wp2_with fail
 go_loopg [3, 4] m0 (fun gk s n wr => ∃ (m q : Nat) (t : ByteArray), Hid (gk = m) ∧ n = .int .i64 m ∧ s = .string t ∧ m ≤ 3 ∧ t.size ≤ 3 - m ∧ p + 1 ≤ q ∧ q ≤ p + 4 - m ∧ Hid (Rdr wr r q) ∧ Hid (w.grownBy wr (some r)))
 case atStart => exact ⟨m0, p + 1, ⟨#[]⟩, rfl, rfl, rfl, by omega, by simp [ByteArray.size], by omega, by omega, HR1.out, HG1.out⟩
 case round =>
  obtain ⟨m, q, t, HK, rfl, rfl, hm, ht, hq0, hq1, HR, HG⟩ := hrel
  by_cases hm0 : 0 < m
  ·have hnew := rd_new (α := ByteArray) wr letters #[.string ⟨#[97]⟩, .string ⟨#[98]⟩, .string ⟨#[99]⟩, .string ⟨#[100]⟩] 9 rfl (by decide) (small_ok (fun x hx => by rw [letters_ok x hx]; omega))
   have hO := of_c r q (some ⟨wr.heap.size, 0, none⟩) 4 letters _ (HR.out.ext ((Below.refl _ _).alloc (Nat.le_refl _) _)) (by omega) hnew (by decide) (by decide) (fun b off e => by injection e with e; injection e with e; have := HR.out.lt; omega)
   have HO := Lib.hid hO
   clear hnew hO
   go_wp2_with fail
   refine HO.out.mono ?_
   rintro e w2 ⟨s, hs, rfl, hr2, hg2⟩
   have hs1 := letters_ok s hs
   have HR2 := Lib.hid hr2; have HG2 := Lib.hid (gtrans (HG.out) (gtrans (galloc (grown_refl wr (some r)) _) hg2))
   clear hr2 hg2 hs HO
   go_wp2_with fail
   go_roundg (m - 1)
   case measure => have := HK.out; omega
   case rel =>
    refine ⟨m - 1, q + 1, t ++ s, rfl, ?_, rfl, by omega, by rw [ByteArray.size_append]; omega, by omega, by omega, HR2.out, HG2.out⟩
    rw [show ((m : Int) - 1) = ((m - 1 : Nat) : Int) by omega]
  ·have HP3 := Lib.hid (pick_c r q 40 wr HR.out (by omega) ⟨by omega, by omega⟩)
   have hmz : ¬ (0 : Int) < m := by omega
   go_wp2_with fail
   refine HP3.out.mono ?_
   rintro e w3 ⟨v, rfl, hv0, hv1, -, hr3, hg3⟩
   have HG3 := Lib.hid (gtrans HG.out hg3)
   by_cases hv : v = 0
   ·have hv' : (v == 0) = true := by simp [hv]
    have hnew := rd_new (α := ByteArray) w3 spoilt #[.string ⟨#[101]⟩, .string ⟨#[32]⟩, .string ⟨#[97, 97, 97, 97]⟩, .string ⟨#[39]⟩] 9 rfl (by decide) (small_ok spoilt_ok)
    have HO := Lib.hid (of_c r (q + 1) (some ⟨w3.heap.size, 0, none⟩) 4 spoilt _ (hr3.ext ((Below.refl _ _).alloc (Nat.le_refl _) _)) (by omega) hnew (by decide) (by decide) (fun b off e => by injection e with e; injection e with e; have := hr3.lt; omega))
    clear hv hv1 hnew hr3 hg3
    go_wp2_with fail
    refine HO.out.mono ?_
    rintro e w4 ⟨s, hs, rfl, hr4, hg4⟩
    have hs1 := spoilt_ok s hs
    have HF : Hid (TextP r p w (.returned (.string (t ++ s))) w4) := ⟨_, q + 2, rfl, by rw [ByteArray.size_append]; omega, by omega, by omega, hr4, gtrans HG3.out (gtrans (galloc (grown_refl w3 (some r)) _) hg4)⟩
    clear hr4 hg4 hs HO
    go_wp2_with fail
    go_ret
    exact HF.out
   ·have hv' : (v == 0) = false := by simp [hv]
    have HF : Hid (TextP r p w (.returned (.string t)) w3) := ⟨_, q + 1, rfl, by omega, by omega, by omega, hr3, HG3.out⟩
    clear hv hv1 hr3 hg3
    go_wp2_with fail
    go_ret
    exact HF.out
open Go.RowKit
theorem rowOk_ids {r : Row} (h : rowOk r = true) : idOk r.id = true ∧ (1 ≤ r.depth → isMade r.id = true) := by
 unfold rowOk at h
 by_cases hr : isRoot r.id = true
 ·rw [if_pos hr, Bool.and_eq_true, decide_eq_true_eq] at h
  exact ⟨by simp [idOk, hr], fun h1 => by omega⟩
 ·rw [if_neg hr, Bool.and_eq_true, Bool.and_eq_true] at h
  exact ⟨by simp [idOk, h.1.1], fun _ => h.1.1⟩
theorem kids_made {t : List Row} (h : treeOk t = true) (id : Int) : ∀ a ∈ kidsOf t id, isMade a = true := by
 intro a ha
 unfold kidsOf at ha
 cases hx : idx t id with
 |none => rw [hx] at ha; cases ha
 |some k =>
  rw [hx] at ha
  simp only [List.mem_map, List.mem_filter, decide_eq_true_eq] at ha
  obtain ⟨r, ⟨hr, hd⟩, rfl⟩ := ha
  have hok := treeOk_rows_ok h
  unfold below at hr
  have hrt : r ∈ t := List.mem_of_mem_drop ((List.takeWhile_sublist _).subset hr)
  have hkl := idx_lt hx
  have h0 := (rowOk_id (hok _ (List.getElem_mem hkl))).2.2.1
  rw [depAt_lt t k hkl] at hd
  exact (rowOk_ids (hok r hrt)).2 (by omega)
def OpD (who made : Int) (o : Op) : Prop := opOk o = true ∧ o.text.size ≤ 4 ∧ (o.kind = 1 → o.id = 10 * who + made + 1 ∧ made < 6)
def OpP (r p : Nat) (who made : Int) (w : World) (e : Ending) (w' : World) : Prop := ∃ (o : Op) (p' : Nat), e = .returned o.val ∧ OpD who made o ∧ p ≤ p' ∧ p' ≤ p + 30 ∧ Rdr w' r p' ∧ w.grownBy w' (some r)
abbrev zeroOp : Obj := .cells #[.int .i64 0, .int .i64 0, .int .i64 0, .int .i64 0, .string ⟨#[]⟩] 42
def St (w0 : World) (r p K : Nat) (w : World) : Prop := ∃ q, p ≤ q ∧ q ≤ p + K ∧ Rdr w r q ∧ w0.grownBy w (some r) ∧ w.heap[w0.heap.size]? = some zeroOp
theorem St.step {w0 w w' : World} {r p K d q q' : Nat} (hr : r < w0.heap.size) (hq : p ≤ q ∧ q ≤ p + K) (hg0 : w0.grownBy w (some r)) (hz : w.heap[w0.heap.size]? = some zeroOp) (hR : Rdr w' r q') (hg : w.grownBy w' (some r)) (hq' : q ≤ q' ∧ q' ≤ q + d) : St w0 r p (K + d) w' :=
 ⟨q', by omega, by omega, hR, gtrans hg0 hg, (hg.block w0.heap.size (blk_lt hz) (fun e => by injection e with e; omega)).trans hz⟩
theorem gset_new {w0 w : World} {row : Option Nat} (h : w0.grownBy w row) {b : Nat} (hb : w0.heap.size ≤ b) (i : Nat) (v : Value) : w0.grownBy (w.setCell ⟨b, i, none⟩ v) row := by
 have hs : ∀ x : World, (x.setCell ⟨b, i, none⟩ v).os = x.os ∧ (x.setCell ⟨b, i, none⟩ v).tape = x.tape ∧ (x.setCell ⟨b, i, none⟩ v).output = x.output := fun x => by unfold World.setCell; split <;> exact ⟨rfl, rfl, rfl⟩
 exact ⟨(hs _).1.trans h.os, (hs _).2.1.trans h.tape, (hs _).2.2.trans h.output, Nat.le_trans h.size (Nat.le_of_eq (setsz _ _ _).symm), fun k hk hne => (setx (by omega)).trans (h.block k hk hne)⟩
theorem Rdr.other {w w' : World} {r p b : Nat} (h : Rdr w r p) (hg : w.grownBy w' (some b)) (hb : r < b) : Rdr w' r p := by
 obtain ⟨A, c, bs, h1, h2, h3, h4⟩ := h
 exact ⟨A, c, bs, (hg.block r (blk_lt h1) (fun e => by injection e with e; omega)).trans h1, h2.grown hg (fun b' off e h => by have := h4 b' off e; injection h with h; omega), h3, h4⟩
abbrev put5 (W : World) (b : Nat) (v0 v1 v2 v3 v4 : Value) : World :=
 ((((W.setCell ⟨b, 0, none⟩ v0).setCell ⟨b, 1, none⟩ v1).setCell ⟨b, 2, none⟩ v2).setCell ⟨b, 3, none⟩ v3).setCell ⟨b, 4, none⟩ v4
theorem put5_at {W : World} {b : Nat} {a0 a1 a2 a3 a4 : Value} {ty : TypeId} (v0 v1 v2 v3 v4 : Value) (h : W.heap[b]? = some (.cells #[a0, a1, a2, a3, a4] ty (0, 0))) : (put5 W b v0 v1 v2 v3 v4).heap[b]? = some (.cells #[v0, v1, v2, v3, v4] ty (0, 0)) :=
 set_at (set_at (set_at (set_at (set_at h))))
theorem St.fin {w0 w : World} {r p K : Nat} {who made : Int} (hr : r < w0.heap.size) (h : St w0 r p K w) (hK : K ≤ 30) (o : Op) (ho : OpD who made o) :
  OpP r p who made w0 (.returned o.val) (put5 w w0.heap.size (.int .i64 o.kind) (.int .i64 o.id) (.int .i64 o.up) (.int .i64 o.pos) (.string o.text)) ∧
  (put5 w w0.heap.size (.int .i64 o.kind) (.int .i64 o.id) (.int .i64 o.up) (.int .i64 o.pos) (.string o.text)).heap[w0.heap.size]? = some (.cells (cO o) 42 (0, 0)) := by
 obtain ⟨q, hq0, hq1, hR, hg, hz⟩ := h
 refine ⟨⟨o, q, rfl, ho, hq0, by omega, ?_, ?_⟩, put5_at _ _ _ _ _ hz⟩
 ·exact hR.other (gset (gset (gset (gset (gset_any _ _ _ _) _ _) _ _) _ _) _ _) hr
 ·exact gset_new (gset_new (gset_new (gset_new (gset_new hg (Nat.le_refl _) _ _) (Nat.le_refl _) _ _) (Nat.le_refl _) _ _) (Nat.le_refl _) _ _) (Nat.le_refl _) _ _
theorem textOk_a : textOk ⟨#[97]⟩ = true := by decide
theorem textOk_size {s : ByteArray} (h : textOk s = true) : s.size ≤ 4 := by
 unfold textOk at h; rw [Bool.and_eq_true, decide_eq_true_eq] at h; exact h.1
set_option maxRecDepth 100000 in
set_option maxHeartbeats 4000000 in
theorem op_d (r p : Nat) (A : Option Addr) (c : Nat) (t : List Row) (who made : Int) (w : World) (h : Rdr w r p) (hp : p < 999990000) (hr : Rd w A c t) (ht : treeOk t = true) (hA : ∀ b off, A = some ⟨b, off, none⟩ → b ≠ r) (hw : 1 ≤ who ∧ who ≤ 3) (hm : 0 ≤ made ∧ made ≤ 1000) :
  Calls Tryd.prog 69 #[.pointer (some ⟨r, 0, none⟩), .slice A t.length c, .int .i64 who, .int .i64 made] w (OpP r p who made w) := by
 have hl := treeOk_len ht
 have hrl := h.lt
 have ht0 : 0 < t.length := by
  cases t with
  |nil => cases ht
  |cons x t => simp
 obtain ⟨hw0, hw1⟩ := hw
 obtain ⟨hm0, hm1⟩ := hm
 have hok := treeOk_rows_ok ht
 have hea : Ext w (w.alloc zeroOp) := (Below.refl _ _).alloc (Nat.le_refl _) _
 have HT := Lib.hid ht; have HOK := Lib.hid hok; have HA := Lib.hid hA; have HR := Lib.hid hr
 have HP := Lib.hid (pick_c r p t.length (w.alloc zeroOp) (h.ext hea) (by omega) ⟨by omega, by omega⟩)
 have hz := World.alloc_heap_new w zeroOp
 have HZ := Lib.hid hz
 have HEA := Lib.hid hea
 clear h ht hok hA hr hea hz
 go_enter Tryd.func69, Tryd.ntmps69
 go_wp2_with fail
 refine HP.out.mono ?_
 rintro e w1 ⟨v, rfl, hv0, hv1, -, hr1, hg1⟩
 have hvl := hv1 (by omega)
 obtain ⟨k, rfl⟩ : ∃ k : Nat, v = k := ⟨v.toNat, by omega⟩
 have hk : k < t.length := by omega
 have hg01 := gtrans (gext (row := some r) HEA.out) hg1
 have hR1 := HR.out.grown hg01 (fun b off e h => HA.out b off e (Option.some.inj h))
 obtain ⟨b, off, rfl, hbl, x0, x1, x2⟩ := row_at hR1 k hk
 have hz1 := (hg1.block w.heap.size (by rw [alloc_sz]; omega) (fun e => by injection e with e; omega)).trans HZ.out
 have HP2 := Lib.hid (pick_c r (p + 1) t.length w1 hr1 (by omega) ⟨by omega, by omega⟩)
 have HG1 := Lib.hid hg01; have HR1 := Lib.hid hR1; have HZ1 := Lib.hid hz1
 have HID : Hid (idOk t[k].id = true) := (rowOk_ids (HOK.out _ (List.getElem_mem hk))).1
 clear hv1 hr1 hg1 hg01 hR1 hz1 HP x1 x2
 go_wp2_with fail
 refine HP2.out.mono ?_
 rintro e w2 ⟨v, rfl, hv0, hv1, -, hr2, hg2⟩
 have hvl := hv1 (by omega)
 obtain ⟨k2, rfl⟩ : ∃ k : Nat, v = k := ⟨v.toNat, by omega⟩
 have hk2 : k2 < t.length := by omega
 have hR2 := HR1.out.grown hg2 (fun b off e h => HA.out b off e (Option.some.inj h))
 obtain ⟨b', off', e', hbl', y0, y1, y2⟩ := row_at hR2 k2 hk2
 cases e'
 have hz2 := (hg2.block w.heap.size (blk_lt HZ1.out) (fun e => by injection e with e; omega)).trans HZ1.out
 have HG2 := Lib.hid (gtrans HG1.out hg2); have HR2 := Lib.hid hR2; have HZ2 := Lib.hid hz2; have HRR2 := Lib.hid hr2
 have HUP : Hid (idOk t[k2].id = true) := (rowOk_ids (HOK.out _ (List.getElem_mem hk2))).1
 have HKS := Lib.hid (kids_s _ _ t t[k2].id w2 hR2 hl HOK.out)
 have HKM := Lib.hid (kids_made HT.out t[k2].id)
 clear hv1 hr2 hg2 hR2 hz2 HP2 x0 y1 y2
 generalize t[k].id = id0 at HID ⊢
 generalize t[k2].id = up0 at HUP HKS HKM y0
 go_wp2_with fail
 refine HKS.out.mono ?_
 rintro e w3 ⟨v3, rfl, hown3, hb3⟩
 obtain ⟨Ak, ck, rfl, hrk⟩ := hown3.rd
 have hkb : ∀ b off, Ak = some ⟨b, off, none⟩ → b ≠ r := fun b off e => by
  have := hown3.blk b (by rw [e]; rfl)
  have := HRR2.out.lt; omega
 have hst3 : St w r p 2 w3 := ⟨p + 2, by omega, by omega, HRR2.out.ext hb3, gtrans HG2.out (gext hb3), (hb3.block _ (blk_lt HZ2.out)).trans HZ2.out⟩
 generalize kidsOf t up0 = ks at *
 have hkl : ks.length ≤ maxLen := Nat.le_trans hrk.1 hrk.2.1
 unfold maxLen at hkl
 have HKB := Lib.hid hkb; have HRK := Lib.hid hrk; have HST3 := Lib.hid hst3
 clear hown3 hb3 hrk hkb hst3 y0 HKS HG1 HR1 HZ1 HG2 HR2 HZ2 HRR2
 go_upto_region 5 with fail
 go_cut [40] (fun s wx => ∃ b : Bool, s = .bool b ∧ (b = true → 0 < ks.length) ∧ Hid (St w r p 3 wx) ∧ Hid (Rd wx Ak ck ks))
 case first =>
  by_cases hk0 : 0 < ks.length
  ·obtain ⟨q, hq0, hq1, hrq, hgq, hzq⟩ := HST3.out
   have HP3 := Lib.hid (pick_c r q 2 w3 hrq (by omega) ⟨by omega, by omega⟩)
   go_wp2_with fail
   refine HP3.out.mono ?_
   rintro e w4 ⟨v, rfl, hv0, hv1, -, hr4, hg4⟩
   have HS4 : Hid (St w r p 3 w4) := St.step (d := 1) hrl ⟨hq0, hq1⟩ hgq hzq hr4 hg4 ⟨by omega, by omega⟩
   have HRK4 := Lib.hid (HRK.out.grown hg4 (fun b off e h => HKB.out b off e (Option.some.inj h)))
   clear hv1 hr4 hg4 hrq hgq hzq HP3
   go_wp2_with fail
   go_meet
   exact ⟨_, rfl, fun _ => hk0, HS4.out, HRK4.out⟩
  ·have hk0' : ¬ (0 : Int) < ks.length := by omega
   go_wp2_with fail
   go_meet
   obtain ⟨q, hq0, hq1, hrq, hgq, hzq⟩ := HST3.out
   exact ⟨false, by simp, by simp, ⟨q, hq0, by omega, hrq, hgq, hzq⟩, HRK.out⟩
 case rest =>
  obtain ⟨b4, rfl, hb4, HST4, HRK4⟩ := hcut
  clear HST3 HRK
  go_upto_if 40 with fail
  go_cut [12] (fun s wx => ∃ a : Int, s = .int .i64 a ∧ Hid (a = 0 ∨ isMade a = true) ∧ Hid (St w r p 4 wx))
  case first =>
   cases b4 with
   |false =>
    go_wp2_with fail
    go_meet
    obtain ⟨q, hq0, hq1, hrq, hgq, hzq⟩ := HST4.out
    exact ⟨0, rfl, .inl rfl, ⟨q, hq0, by omega, hrq, hgq, hzq⟩⟩
   |true =>
    have hk0 := hb4 rfl
    obtain ⟨q, hq0, hq1, hrq, hgq, hzq⟩ := HST4.out
    have HP3 := Lib.hid (pick_c r q ks.length wc hrq (by omega) ⟨by omega, by omega⟩)
    clear hb4
    go_wp2_with fail
    refine HP3.out.mono ?_
    rintro e w5 ⟨v, rfl, hv0, hv1, -, hr5, hg5⟩
    have hvl := hv1 (by omega)
    obtain ⟨k5, rfl⟩ : ∃ k : Nat, v = k := ⟨v.toNat, by omega⟩
    have hk5 : k5 < ks.length := by omega
    have hR5 := HRK4.out.grown hg5 (fun b off e h => HKB.out b off e (Option.some.inj h))
    obtain ⟨b9, off9, rfl, hbl9, z0⟩ := int_at hR5 k5 hk5
    have HS5 : Hid (St w r p 4 w5) := St.step (d := 1) hrl ⟨hq0, hq1⟩ hgq hzq hr5 hg5 ⟨by omega, by omega⟩
    have HKM5 : Hid (isMade ks[k5] = true) := HKM.out _ (List.getElem_mem hk5)
    clear hv1 hr5 hg5 hrq hgq hzq HP3 hR5
    go_wp2_with fail
    go_meet
    exact ⟨_, rfl, .inr HKM5.out, HS5.out⟩
  case rest =>
   obtain ⟨at0, rfl, HAT, HST5⟩ := hcut
   clear HST4 HRK4 HKB HKM hb4
   obtain ⟨q, hq0, hq1, hrq, hgq, hzq⟩ := HST5.out
   have HTX := Lib.hid (text_d r q wc hrq (by omega))
   have HGQ := Lib.hid hgq; have HZQ := Lib.hid hzq
   clear hrq hgq hzq
   go_wp2_with fail
   refine HTX.out.mono ?_
   rintro e w6 ⟨s6, q6, rfl, hs6, hq60, hq61, hr6, hg6⟩
   have HS6 : Hid (St w r p 10 w6) := St.step (d := 6) hrl ⟨hq0, hq1⟩ HGQ.out HZQ.out hr6 hg6 ⟨by omega, by omega⟩
   have hts := text_s s6 w6 (Nat.le_trans hs6 (by decide))
   clear hr6 hg6 HTX HGQ HZQ HST5
   have HTS := Lib.hid hts
   clear hts
   go_wp2_with fail
   refine HTS.out.mono ?_; rintro e w7 ⟨rfl, hw7⟩
   rw [hw7]
   clear hw7 HTS
   go_upto_if 52 with fail
   go_cut [13] (fun s wx => ∃ tx : ByteArray, s = .string tx ∧ Hid (textOk tx = true) ∧ Hid (St w r p 10 wx))
   case first =>
    cases htx : textOk s6
    ·clear htx
     go_wp2_with fail
     go_meet
     exact ⟨_, rfl, textOk_a, HS6.out⟩
    ·have HX := Lib.hid htx
     clear htx
     go_wp2_with fail
     go_meet
     exact ⟨_, rfl, HX.out, HS6.out⟩
   case rest =>
    obtain ⟨tx, rfl, HTX, HST7⟩ := hcut
    clear HS6
    obtain ⟨q, hq0, hq1, hrq, hgq, hzq⟩ := HST7.out
    have HP7 := Lib.hid (pick_c r q 6 wc hrq (by omega) ⟨by omega, by omega⟩)
    have HGQ := Lib.hid hgq; have HZQ := Lib.hid hzq
    clear hrq hgq hzq
    go_wp2_with fail
    refine HP7.out.mono ?_
    rintro e w8 ⟨v, rfl, hv0, hv1, -, hr8, hg8⟩
    have HS8 : Hid (St w r p 11 w8) := St.step (d := 1) hrl ⟨hq0, hq1⟩ HGQ.out HZQ.out hr8 hg8 ⟨by omega, by omega⟩
    clear hv1 hr8 hg8 HP7 HGQ HZQ HST7
    go_upto_if 55 with fail
    go_cut [10] (fun s wx => ∃ u : Int, s = .int .i64 u ∧ Hid (idOk u = true) ∧ Hid (St w r p 13 wx))
    case first =>
     by_cases hv : v = 0
     ·have hv' : (v == 0) = true := by simp [hv]
      obtain ⟨q, hq0, hq1, hrq, hgq, hzq⟩ := HS8.out
      have HI := Lib.hid (id_d r q w8 hrq (by omega))
      have HGQ := Lib.hid hgq; have HZQ := Lib.hid hzq
      clear hv hrq hgq hzq
      go_wp2_with fail
      refine HI.out.mono ?_
      rintro e w9 ⟨u, rfl, hum, hr9, hg9⟩
      have HS9 : Hid (St w r p 13 w9) := St.step (d := 2) hrl ⟨hq0, hq1⟩ HGQ.out HZQ.out hr9 hg9 ⟨by omega, by omega⟩
      have HU : Hid (idOk u = true) := by show _ = _; simp [idOk, hum]
      clear hr9 hg9 hum
      go_wp2_with fail
      go_meet
      exact ⟨_, rfl, HU.out, HS9.out⟩
     ·have hv' : (v == 0) = false := by simp [hv]
      clear hv
      go_wp2_with fail
      go_meet
      obtain ⟨q, hq0, hq1, hrq, hgq, hzq⟩ := HS8.out
      exact ⟨_, rfl, HUP.out, ⟨q, hq0, by omega, hrq, hgq, hzq⟩⟩
    case rest =>
     obtain ⟨up1, rfl, HUP1, HST9⟩ := hcut
     clear HS8 HUP
     go_upto_region 12 with fail
     go_cut [69] (fun s wx => ∃ b : Bool, s = .bool b ∧ (b = true → made < 6) ∧ Hid (St w r p 14 wx))
     case first =>
      by_cases hm6 : made < 6
      ·obtain ⟨q, hq0, hq1, hrq, hgq, hzq⟩ := HST9.out
       have HP9 := Lib.hid (pick_c r q 3 wc hrq (by omega) ⟨by omega, by omega⟩)
       have HGQ := Lib.hid hgq; have HZQ := Lib.hid hzq
       have hidr : i64 id0 := by
        have := HID.out
        unfold idOk at this
        rw [Bool.or_eq_true, isRoot_iff, isMade_iff] at this
        unfold i64; omega
       have HMD := Lib.hid (fun W => made_s id0 W hidr)
       clear hrq hgq hzq hidr
       go_wp2_with fail
       refine HP9.out.mono ?_
       rintro e w10 ⟨v9, rfl, hv0', hv1', -, hr10, hg10⟩
       have HS10 : Hid (St w r p 14 w10) := St.step (d := 1) hrl ⟨hq0, hq1⟩ HGQ.out HZQ.out hr10 hg10 ⟨by omega, by omega⟩
       clear hv1' hr10 hg10
       by_cases hv : v9 = 0
       ·have hv' : (v9 == 0) = true := by simp [hv]
        clear hv
        go_wp2_with fail
        go_meet
        exact ⟨_, rfl, fun _ => hm6, HS10.out⟩
       ·have hv' : (v9 == 0) = false := by simp [hv]
        clear hv
        go_wp2_with fail
        refine (HMD.out _).mono ?_; rintro e w11 ⟨rfl, hw11⟩
        rw [hw11]
        clear hw11
        go_wp2_with fail
        go_meet
        exact ⟨_, rfl, fun _ => hm6, HS10.out⟩
      ·go_wp2_with fail
       go_meet
       obtain ⟨q, hq0, hq1, hrq, hgq, hzq⟩ := HST9.out
       exact ⟨false, by simp, by simp, ⟨q, hq0, by omega, hrq, hgq, hzq⟩⟩
     case rest =>
      obtain ⟨b9, rfl, hb9, HST10⟩ := hcut
      clear HST9
      cases b9 with
      |true =>
       have hm6 := hb9 rfl
       have HRM := Lib.hid (rowMade_s who (made + 1) wc ⟨by omega, by omega⟩ ⟨by omega, by omega⟩)
       have hrm : rowMade who (made + 1) = 10 * who + made + 1 := by unfold rowMade; rw [if_pos (by omega)]; omega
       have HRMV := Lib.hid hrm
       have HSF := HST10
       have HOD : Hid (OpD who made ⟨1, rowMade who (made + 1), up1, at0, tx⟩) := by
        refine ⟨?_, textOk_size HTX.out, fun _ => ⟨HRMV.out, hm6⟩⟩
        rw [opOk_1 rfl]
        simp only [Bool.and_eq_true, Bool.or_eq_true, decide_eq_true_eq]
        exact ⟨by rw [HRMV.out, isMade_iff]; omega, HTX.out, HUP1.out, HAT.out⟩
       have hzz := HST10.out
       obtain ⟨q, -, -, -, -, hzq⟩ := hzz
       obtain ⟨d0, d1, d2, d3, d4, df⟩ := five_cells hzq
       clear hb9 hrm hzq
       go_wp2_with fail
       refine HRM.out.mono ?_; rintro e w12 ⟨rfl, hw12⟩
       rw [hw12]
       clear hw12
       go_wp2_with fail
       obtain ⟨hfin, hbk⟩ := St.fin (who := who) (made := made) hrl HSF.out (by omega) ⟨1, rowMade who (made + 1), up1, at0, tx⟩ HOD.out
       obtain ⟨x0, x1, x2, x3, x4, xf⟩ := five_cells hbk
       refine bodyPost_ret (v := Op.val ⟨1, rowMade who (made + 1), up1, at0, tx⟩) ?_ rfl hfin
       simp [Op.val, results, Tryd.f69, go_sem, x0, x1, x2, x3, x4]
      |false =>
       have hidr : i64 id0 := by
        have := HID.out
        unfold idOk at this
        rw [Bool.or_eq_true, isRoot_iff, isMade_iff] at this
        unfold i64; omega
       have HMD := Lib.hid (made_s id0 wc hidr)
       clear hb9 hidr
       go_wp2_with fail
       refine HMD.out.mono ?_; rintro e w12 ⟨rfl, hw12⟩
       rw [hw12]
       clear hw12 HMD
       go_upto_if 80 with fail
       go_cut [9] (fun s wx => ∃ i : Int, s = .int .i64 i ∧ Hid (isMade i = true) ∧ Hid (St w r p 16 wx))
       case first =>
        cases hmd : isMade id0
        ·clear hmd
         obtain ⟨q, hq0, hq1, hrq, hgq, hzq⟩ := HST10.out
         have HI := Lib.hid (id_d r q wc hrq (by omega))
         have HGQ := Lib.hid hgq; have HZQ := Lib.hid hzq
         clear hrq hgq hzq
         go_wp2_with fail
         refine HI.out.mono ?_
         rintro e w13 ⟨u, rfl, hum, hr13, hg13⟩
         have HS13 : Hid (St w r p 16 w13) := St.step (d := 2) hrl ⟨hq0, hq1⟩ HGQ.out HZQ.out hr13 hg13 ⟨by omega, by omega⟩
         have HU := Lib.hid hum
         clear hr13 hg13 hum
         go_wp2_with fail
         go_meet
         exact ⟨_, rfl, HU.out, HS13.out⟩
        ·have HMD := Lib.hid hmd
         clear hmd
         go_wp2_with fail
         go_meet
         obtain ⟨q, hq0, hq1, hrq, hgq, hzq⟩ := HST10.out
         exact ⟨_, rfl, HMD.out, ⟨q, hq0, by omega, hrq, hgq, hzq⟩⟩
       case rest =>
        obtain ⟨id1, rfl, HID1, HST13⟩ := hcut
        clear HST10
        obtain ⟨q, hq0, hq1, hrq, hgq, hzq⟩ := HST13.out
        have HP13 := Lib.hid (pick_c r q 3 wc hrq (by omega) ⟨by omega, by omega⟩)
        have HGQ := Lib.hid hgq; have HZQ := Lib.hid hzq
        clear hrq hgq hzq
        go_wp2_with fail
        refine HP13.out.mono ?_
        rintro e w14 ⟨v, rfl, hv0, hv1, -, hr14, hg14⟩
        have HSF : Hid (St w r p 17 w14) := St.step (d := 1) hrl ⟨hq0, hq1⟩ HGQ.out HZQ.out hr14 hg14 ⟨by omega, by omega⟩
        clear hv1 hr14 hg14 HP13 HGQ HZQ HST13
        have hzz := HSF.out
        obtain ⟨q', -, -, -, -, hzq⟩ := hzz
        obtain ⟨d0, d1, d2, d3, d4, df⟩ := five_cells hzq
        clear hzq
        by_cases hv : v = 0
        ·have hv' : (v == 0) = true := by simp [hv]
         have HOD : Hid (OpD who made ⟨2, id1, 0, 0, tx⟩) := by
          refine ⟨?_, textOk_size HTX.out, fun h => by cases h⟩
          rw [opOk_2 rfl]
          simp only [Bool.and_eq_true, decide_eq_true_eq]
          exact ⟨HID1.out, HTX.out, trivial, trivial⟩
         clear hv
         go_wp2_with fail
         obtain ⟨hfin, hbk⟩ := St.fin (who := who) (made := made) hrl HSF.out (by omega) ⟨2, id1, 0, 0, tx⟩ HOD.out
         obtain ⟨x0, x1, x2, x3, x4, xf⟩ := five_cells hbk
         refine bodyPost_ret (v := Op.val ⟨2, id1, 0, 0, tx⟩) ?_ rfl hfin
         simp [Op.val, results, Tryd.f69, go_sem, x0, x1, x2, x3, x4]
        ·have hv' : (v == 0) = false := by simp [hv]
         have HOD : Hid (OpD who made ⟨3, id1, up1, at0, ⟨#[]⟩⟩) := by
          refine ⟨?_, by simp [ByteArray.size], fun h => by cases h⟩
          rw [opOk_3 rfl]
          simp only [Bool.and_eq_true, Bool.or_eq_true, decide_eq_true_eq]
          exact ⟨HID1.out, textOk_nil, ⟨HUP1.out, HAT.out⟩, trivial⟩
         clear hv
         go_wp2_with fail
         obtain ⟨hfin, hbk⟩ := St.fin (who := who) (made := made) hrl HSF.out (by omega) ⟨3, id1, up1, at0, ⟨#[]⟩⟩ HOD.out
         obtain ⟨x0, x1, x2, x3, x4, xf⟩ := five_cells hbk
         refine bodyPost_ret (v := Op.val ⟨3, id1, up1, at0, ⟨#[]⟩⟩) ?_ rfl hfin
         simp [Op.val, results, Tryd.f69, go_sem, x0, x1, x2, x3, x4]
open Go.RowKit
def Sm (o : Op) : Prop := (0 ≤ o.kind ∧ o.kind ≤ 50) ∧ (0 ≤ o.id ∧ o.id ≤ 50) ∧ (0 ≤ o.up ∧ o.up ≤ 50) ∧ (0 ≤ o.pos ∧ o.pos ≤ 50) ∧ o.text.size ≤ 7
abbrev opO (o : Op) : Obj := .cells #[.int .i64 o.kind, .int .i64 o.id, .int .i64 o.up, .int .i64 o.pos, .string o.text] 42
def OpXP (r p : Nat) (w : World) (e : Ending) (w' : World) : Prop := ∃ (o : Op) (p' : Nat), e = .returned o.val ∧ Sm o ∧ p ≤ p' ∧ p' ≤ p + 30 ∧ Rdr w' r p' ∧ w.grownBy w' (some r)
def Sx (w0 : World) (r p K bo : Nat) (w : World) : Prop := ∃ q, p ≤ q ∧ q ≤ p + K ∧ Rdr w r q ∧ w0.grownBy w (some r) ∧ w.heap[w0.heap.size]? = some zeroOp ∧ ∃ o, Sm o ∧ w.heap[bo]? = some (opO o)
theorem Sx.step {w0 w w' : World} {r p K bo d q q' : Nat} {o : Op} (hr : r < w0.heap.size) (hbo : w0.heap.size < bo) (hq : p ≤ q ∧ q ≤ p + K) (hg0 : w0.grownBy w (some r)) (hz : w.heap[w0.heap.size]? = some zeroOp) (ho : Sm o) (hb : w.heap[bo]? = some (opO o)) (hR : Rdr w' r q') (hg : w.grownBy w' (some r)) (hq' : q ≤ q' ∧ q' ≤ q + d) : Sx w0 r p (K + d) bo w' ∧ w'.heap[bo]? = some (opO o) := by
 have h1 := (hg.block w0.heap.size (blk_lt hz) (fun e => by injection e with e; omega)).trans hz
 have h2 := (hg.block bo (blk_lt hb) (fun e => by injection e with e; omega)).trans hb
 exact ⟨⟨q', by omega, by omega, hR, gtrans hg0 hg, h1, o, ho, h2⟩, h2⟩
theorem Sx.put {w0 w : World} {r p K bo : Nat} (hr : r < w0.heap.size) (hbo : w0.heap.size < bo) (h : Sx w0 r p K bo w) (o' : Op) (ho : Sm o') : Sx w0 r p K bo (put5 w bo (.int .i64 o'.kind) (.int .i64 o'.id) (.int .i64 o'.up) (.int .i64 o'.pos) (.string o'.text)) := by
 obtain ⟨q, hq0, hq1, hR, hg, hz, o, _, hb⟩ := h
 refine ⟨q, hq0, hq1, ?_, ?_, ?_, o', ho, put5_at _ _ _ _ _ hb⟩
 ·exact hR.other (gset (gset (gset (gset (gset_any _ _ _ _) _ _) _ _) _ _) _ _) (by omega)
 ·exact gset_new (gset_new (gset_new (gset_new (gset_new hg (by omega) _ _) (by omega) _ _) (by omega) _ _) (by omega) _ _) (by omega) _ _
 ·exact (setx (by omega)).trans ((setx (by omega)).trans ((setx (by omega)).trans ((setx (by omega)).trans ((setx (by omega)).trans hz))))
theorem Sx.one {w0 w : World} {r p K bo : Nat} (hr : r < w0.heap.size) (hbo : w0.heap.size < bo) (h : Sx w0 r p K bo w) (i : Nat) (x : Int) (hi : i ≤ 3) (hx : 0 ≤ x ∧ x ≤ 50) : Sx w0 r p K bo (w.setCell ⟨bo, i, none⟩ (.int .i64 x)) := by
 obtain ⟨q, hq0, hq1, hR, hg, hz, o, ho, hb⟩ := h
 obtain ⟨h1, h2, h3, h4, h5⟩ := ho
 have hset := set_at (v := .int .i64 x) (i := i) hb
 have hh : ∃ o, Sm o ∧ (w.setCell ⟨bo, i, none⟩ (.int .i64 x)).heap[bo]? = some (opO o) := by
  match i, hi with
  |0, _ => exact ⟨⟨x, o.id, o.up, o.pos, o.text⟩, ⟨hx, h2, h3, h4, h5⟩, hset⟩
  |1, _ => exact ⟨⟨o.kind, x, o.up, o.pos, o.text⟩, ⟨h1, hx, h3, h4, h5⟩, hset⟩
  |2, _ => exact ⟨⟨o.kind, o.id, x, o.pos, o.text⟩, ⟨h1, h2, hx, h4, h5⟩, hset⟩
  |3, _ => exact ⟨⟨o.kind, o.id, o.up, x, o.text⟩, ⟨h1, h2, h3, hx, h5⟩, hset⟩
 exact ⟨q, hq0, hq1, hR.other (gset_any _ _ _ _) (by omega), gset_new hg (by omega) _ _, (setx (by omega)).trans hz, hh⟩
theorem Sx.fin {w0 w : World} {r p K bo : Nat} (hr : r < w0.heap.size) (hbo : w0.heap.size < bo) (hR : ∃ q, p ≤ q ∧ q ≤ p + K ∧ Rdr w r q) (hg : w0.grownBy w (some r)) (hz : w.heap[w0.heap.size]? = some zeroOp) (hK : K ≤ 30) (o : Op) (ho : Sm o) :
  OpXP r p w0 (.returned o.val) (put5 w w0.heap.size (.int .i64 o.kind) (.int .i64 o.id) (.int .i64 o.up) (.int .i64 o.pos) (.string o.text)) ∧
  (put5 w w0.heap.size (.int .i64 o.kind) (.int .i64 o.id) (.int .i64 o.up) (.int .i64 o.pos) (.string o.text)).heap[w0.heap.size]? = some (.cells (cO o) 42 (0, 0)) := by
 obtain ⟨q, hq0, hq1, hR⟩ := hR
 refine ⟨⟨o, q, rfl, ho, hq0, by omega, ?_, ?_⟩, put5_at _ _ _ _ _ hz⟩
 ·exact hR.other (gset (gset (gset (gset (gset_any _ _ _ _) _ _) _ _) _ _) _ _) hr
 ·exact gset_new (gset_new (gset_new (gset_new (gset_new hg (Nat.le_refl _) _ _) (Nat.le_refl _) _ _) (Nat.le_refl _) _ _) (Nat.le_refl _) _ _) (Nat.le_refl _) _ _
set_option maxRecDepth 100000 in
set_option maxHeartbeats 4000000 in
theorem opx_d (r p : Nat) (w : World) (h : Rdr w r p) (hp : p < 999990000) :
  Calls Tryd.prog 68 #[.pointer (some ⟨r, 0, none⟩)] w (OpXP r p w) := by
 have hrl := h.lt
 have hea : Ext w (w.alloc zeroOp) := (Below.refl _ _).alloc (Nat.le_refl _) _
 have HI1 := Lib.hid (id_d r p (w.alloc zeroOp) (h.ext hea) (by omega))
 have HZ := Lib.hid (World.alloc_heap_new w zeroOp)
 have HEA := Lib.hid hea
 clear h hea
 go_enter Tryd.func68, Tryd.ntmps68
 go_wp2_with fail
 refine HI1.out.mono ?_
 rintro e w1 ⟨v1, rfl, hm1, hr1, hg1⟩
 have hb1 : 11 ≤ v1 ∧ v1 ≤ 36 := by rw [isMade_iff] at hm1; omega
 have HTX := Lib.hid (text_d r (p + 2) w1 hr1 (by omega))
 have HG1 := Lib.hid (gtrans (gext (row := some r) HEA.out) hg1)
 have HZ1 := Lib.hid ((hg1.block w.heap.size (by rw [alloc_sz]; omega) (fun e => by injection e with e; omega)).trans HZ.out)
 clear hm1 hr1 hg1 HI1
 go_wp2_with fail
 refine HTX.out.mono ?_
 rintro e w2 ⟨s2, q2, rfl, hs2, hq20, hq21, hr2, hg2⟩
 have HG2 := Lib.hid (gtrans HG1.out hg2)
 have HZ2 := Lib.hid ((hg2.block w.heap.size (blk_lt HZ1.out) (fun e => by injection e with e; omega)).trans HZ1.out)
 have hbo : w.heap.size < w2.heap.size := blk_lt HZ2.out
 have HR2 := Lib.hid hr2
 have hsx : Sx w r p 8 w2.heap.size (w2.alloc (opO ⟨2, v1, 0, 0, s2⟩)) := ⟨q2, by omega, by omega, hr2.ext ((Below.refl _ _).alloc (Nat.le_refl _) _), galloc HG2.out _, (Below.heap_alloc w2 _ _ (blk_lt HZ2.out)).trans HZ2.out, ⟨2, v1, 0, 0, s2⟩, ⟨by simp, by simp; omega, by simp, by simp, by simp; omega⟩, World.alloc_heap_new w2 _⟩
 have HSX := Lib.hid hsx
 clear hr2 hg2 HG1 HZ1 HTX hsx
 obtain ⟨bo, hbo2⟩ : ∃ bo, bo = w2.heap.size := ⟨_, rfl⟩
 rw [← hbo2] at HSX hbo
 have HBO := Lib.hid hbo2
 obtain ⟨q3, hq30, hq31, hR3, hgg3, hzz3, o3, hoo3, hbb3⟩ := HSX.out
 have HI3 := Lib.hid (id_d r q3 (w2.alloc (opO ⟨2, v1, 0, 0, s2⟩)) hR3 (by omega))
 clear hbo2 hR3 HG2 HZ2 HR2
 go_wp2_with fail
 rw [← HBO.out]
 refine HI3.out.mono ?_
 rintro e w3 ⟨v3, rfl, hm3, hr3, hg3⟩
 have hb3 : 11 ≤ v3 ∧ v3 ≤ 36 := by rw [isMade_iff] at hm3; omega
 have hs3 : Sx w r p 10 bo w3 := (Sx.step (d := 2) hrl hbo ⟨hq30, hq31⟩ hgg3 hzz3 hoo3 hbb3 hr3 hg3 ⟨by omega, by omega⟩).1
 obtain ⟨q3p, hp30, hp31, hp32, hp33, hp34, op3, hp35, hp36⟩ := hs3
 have hrd3 := rd_new (α := Int) w3 [1, 1, v3, 2, 3] #[.int .i64 1, .int .i64 1, .int .i64 v3, .int .i64 2, .int .i64 3] 3 rfl (by simp) (fun _ _ => trivial)
 have hal3 : Ext w3 (w3.alloc (.cells #[.int .i64 1, .int .i64 1, .int .i64 v3, .int .i64 2, .int .i64 3] 3)) := (Below.refl _ _).alloc (Nat.le_refl _) _
 have HPK3 := Lib.hid (pick_c r q3p 5 (w3.alloc (.cells #[.int .i64 1, .int .i64 1, .int .i64 v3, .int .i64 2, .int .i64 3] 3)) (hp32.ext hal3) (by omega) ⟨by omega, by omega⟩)
 have HRD3 := Lib.hid hrd3
 have hrlt3 := hp32.lt
 have HG3p := Lib.hid (gtrans hp33 (gext hal3)); have HZ3p := Lib.hid ((hal3.block _ (blk_lt hp34)).trans hp34); have HO3p := Lib.hid hp35; have HB3p := Lib.hid ((hal3.block _ (blk_lt hp36)).trans hp36)
 clear hm3 hr3 hg3 hgg3 hzz3 hoo3 hbb3 hp32 hp33 hp34 hp35 hp36 hrd3 hal3 HI3
 go_wp2_with fail
 refine HPK3.out.mono ?_
 rintro e w3b ⟨k3, rfl, hk30, hk31, -, hr3, hg3⟩
 have hkl3 := hk31 (by omega)
 obtain ⟨k3, rfl⟩ : ∃ k : Nat, k3 = k := ⟨k3.toNat, by omega⟩
 have hkk3 : k3 < ([1, 1, v3, 2, 3] : List Int).length := by simp; omega
 obtain ⟨bq3, oq3, eq3, -, x3⟩ := int_at (HRD3.out.grown hg3 (fun b off e h => by injection e with e; injection e with e; injection h with h; omega)) k3 hkk3
 cases eq3
 simp only [Nat.zero_add] at x3
 have hs3 : Sx w r p 11 bo w3b := (Sx.step (d := 1) hrl hbo ⟨hp30, hp31⟩ HG3p.out HZ3p.out HO3p.out HB3p.out hr3 hg3 ⟨by omega, by omega⟩).1
 have hv3 : 0 ≤ ([1, 1, v3, 2, 3] : List Int)[k3] ∧ ([1, 1, v3, 2, 3] : List Int)[k3] ≤ 50 := by
  have hmem := List.getElem_mem hkk3
  generalize ([1, 1, v3, 2, 3] : List Int)[k3] = y at hmem
  simp only [List.mem_cons, List.not_mem_nil, or_false] at hmem
  omega
 have HS3 := Lib.hid hs3
 clear hr3 hg3 hk31 HPK3 HRD3 HG3p HZ3p HO3p HB3p hs3
 generalize ([1, 1, v3, 2, 3] : List Int)[k3] = up0 at x3 hv3
 obtain ⟨q4, hq40, hq41, hR4, hgg4, hzz4, o4, hoo4, hbb4⟩ := HS3.out
 have HI4 := Lib.hid (id_d r q4 w3b hR4 (by omega))
 clear hR4 HS3
 go_wp2_with fail
 refine HI4.out.mono ?_
 rintro e w4 ⟨v4, rfl, hm4, hr4, hg4⟩
 have hb4 : 11 ≤ v4 ∧ v4 ≤ 36 := by rw [isMade_iff] at hm4; omega
 have hs4 : Sx w r p 13 bo w4 := (Sx.step (d := 2) hrl hbo ⟨hq40, hq41⟩ hgg4 hzz4 hoo4 hbb4 hr4 hg4 ⟨by omega, by omega⟩).1
 obtain ⟨q4p, hp40, hp41, hp42, hp43, hp44, op4, hp45, hp46⟩ := hs4
 have hrd4 := rd_new (α := Int) w4 [0, v4] #[.int .i64 0, .int .i64 v4] 3 rfl (by simp) (fun _ _ => trivial)
 have hal4 : Ext w4 (w4.alloc (.cells #[.int .i64 0, .int .i64 v4] 3)) := (Below.refl _ _).alloc (Nat.le_refl _) _
 have HPK4 := Lib.hid (pick_c r q4p 2 (w4.alloc (.cells #[.int .i64 0, .int .i64 v4] 3)) (hp42.ext hal4) (by omega) ⟨by omega, by omega⟩)
 have HRD4 := Lib.hid hrd4
 have hrlt4 := hp42.lt
 have HG4p := Lib.hid (gtrans hp43 (gext hal4)); have HZ4p := Lib.hid ((hal4.block _ (blk_lt hp44)).trans hp44); have HO4p := Lib.hid hp45; have HB4p := Lib.hid ((hal4.block _ (blk_lt hp46)).trans hp46)
 clear hm4 hr4 hg4 hgg4 hzz4 hoo4 hbb4 hp42 hp43 hp44 hp45 hp46 hrd4 hal4 HI4
 go_wp2_with fail
 refine HPK4.out.mono ?_
 rintro e w4b ⟨k4, rfl, hk40, hk41, -, hr4, hg4⟩
 have hkl4 := hk41 (by omega)
 obtain ⟨k4, rfl⟩ : ∃ k : Nat, k4 = k := ⟨k4.toNat, by omega⟩
 have hkk4 : k4 < ([0, v4] : List Int).length := by simp; omega
 obtain ⟨bq4, oq4, eq4, -, x4⟩ := int_at (HRD4.out.grown hg4 (fun b off e h => by injection e with e; injection e with e; injection h with h; omega)) k4 hkk4
 cases eq4
 simp only [Nat.zero_add] at x4
 have hs4 : Sx w r p 14 bo w4b := (Sx.step (d := 1) hrl hbo ⟨hp40, hp41⟩ HG4p.out HZ4p.out HO4p.out HB4p.out hr4 hg4 ⟨by omega, by omega⟩).1
 have hv4 : 0 ≤ ([0, v4] : List Int)[k4] ∧ ([0, v4] : List Int)[k4] ≤ 50 := by
  have hmem := List.getElem_mem hkk4
  generalize ([0, v4] : List Int)[k4] = y at hmem
  simp only [List.mem_cons, List.not_mem_nil, or_false] at hmem
  omega
 have HS4 := Lib.hid hs4
 clear hr4 hg4 hk41 HPK4 HRD4 HG4p HZ4p HO4p HB4p hs4
 generalize ([0, v4] : List Int)[k4] = at0 at x4 hv4
 obtain ⟨q5, hq50, hq51, hR5, hgg5, hzz5, o5, hoo5, hbb5⟩ := HS4.out
 have HP5 := Lib.hid (pick_c r q5 5 w4b hR5 (by omega) ⟨by omega, by omega⟩)
 clear hR5 HS4
 go_wp2_with fail
 refine HP5.out.mono ?_
 rintro e w5 ⟨v5, rfl, hv50, hv51, -, hr5, hg5⟩
 have hs5 := (Sx.step (d := 1) hrl hbo ⟨hq50, hq51⟩ hgg5 hzz5 hoo5 hbb5 hr5 hg5 ⟨by omega, by omega⟩).1
 have HS5 : Hid (Sx w r p 15 bo w5) := hs5
 have hv5l := hv51 (by omega)
 clear hv51 hr5 hg5 hgg5 hzz5 hoo5 hbb5 hs5 HP5
 go_upto_block 0 with fail
 go_cut [3] (fun s wx => s = .pointer (some ⟨bo, 0, none⟩) ∧ Hid (Sx w r p 15 bo wx))
 case first =>
  rcases (by omega : v5 = 0 ∨ v5 = 1 ∨ v5 = 2 ∨ v5 = 3 ∨ v5 = 4) with rfl | rfl | rfl | rfl | rfl
  ·obtain ⟨q, hq0, hq1, hR, hg, hz, o, ho, hb⟩ := HS5.out
   have HPUT : Hid (Sx w r p 15 bo (put5 w5 bo (.int .i64 1) (.int .i64 o.id) (.int .i64 up0) (.int .i64 at0) (.string o.text))) := Sx.put hrl hbo HS5.out ⟨1, o.id, up0, at0, o.text⟩ ⟨by simp, ho.2.1, hv3, hv4, ho.2.2.2.2⟩
   obtain ⟨d0, d1, d2, d3, d4, df⟩ := five_cells hb
   clear hR hg hz ho hb
   go_wp2_with fail
   go_meet
   exact ⟨rfl, HPUT.out⟩
  ·obtain ⟨q, hq0, hq1, hR, hg, hz, o, ho, hb⟩ := HS5.out
   have HPUT : Hid (Sx w r p 15 bo (put5 w5 bo (.int .i64 1) (.int .i64 o.id) (.int .i64 up0) (.int .i64 at0) (.string o.text))) := Sx.put hrl hbo HS5.out ⟨1, o.id, up0, at0, o.text⟩ ⟨by simp, ho.2.1, hv3, hv4, ho.2.2.2.2⟩
   obtain ⟨d0, d1, d2, d3, d4, df⟩ := five_cells hb
   clear hR hg hz ho hb
   go_wp2_with fail
   go_meet
   exact ⟨rfl, HPUT.out⟩
  ·obtain ⟨q, hq0, hq1, hR, hg, hz, o, ho, hb⟩ := HS5.out
   have HPUT : Hid (Sx w r p 15 bo (put5 w5 bo (.int .i64 3) (.int .i64 o.id) (.int .i64 up0) (.int .i64 at0) (.string ⟨#[]⟩))) := Sx.put hrl hbo HS5.out ⟨3, o.id, up0, at0, ⟨#[]⟩⟩ ⟨by simp, ho.2.1, hv3, hv4, by simp [ByteArray.size]⟩
   obtain ⟨d0, d1, d2, d3, d4, df⟩ := five_cells hb
   clear hR hg hz ho hb
   go_wp2_with fail
   go_meet
   exact ⟨rfl, HPUT.out⟩
  ·obtain ⟨q, hq0, hq1, hR, hg, hz, o, ho, hb⟩ := HS5.out
   have HPUT : Hid (Sx w r p 15 bo (put5 w5 bo (.int .i64 3) (.int .i64 o.id) (.int .i64 up0) (.int .i64 at0) (.string ⟨#[]⟩))) := Sx.put hrl hbo HS5.out ⟨3, o.id, up0, at0, ⟨#[]⟩⟩ ⟨by simp, ho.2.1, hv3, hv4, by simp [ByteArray.size]⟩
   obtain ⟨d0, d1, d2, d3, d4, df⟩ := five_cells hb
   clear hR hg hz ho hb
   go_wp2_with fail
   go_meet
   exact ⟨rfl, HPUT.out⟩
  ·go_wp2_with fail
   go_meet
   exact ⟨rfl, HS5.out⟩
 case rest =>
  obtain ⟨rfl, HSC⟩ := hcut
  obtain ⟨q6, hq60, hq61, hR6, hgg6, hzz6, o6, hoo6, hbb6⟩ := HSC.out
  have HP6 := Lib.hid (pick_c r q6 30 wc hR6 (by omega) ⟨by omega, by omega⟩)
  clear hR6 HS5
  go_wp2_with fail
  refine HP6.out.mono ?_
  rintro e w6 ⟨v6, rfl, hv60, hv61, -, hr6, hg6⟩
  have HS6 : Hid (Sx w r p 16 bo w6) := (Sx.step (d := 1) hrl hbo ⟨hq60, hq61⟩ hgg6 hzz6 hoo6 hbb6 hr6 hg6 ⟨by omega, by omega⟩).1
  clear hv61 hr6 hg6 hgg6 hzz6 hoo6 hbb6 HP6 HSC
  go_upto_block 1 with fail
  go_cut [3] (fun s wx => s = .pointer (some ⟨bo, 0, none⟩) ∧ Hid (Sx w r p 17 bo wx))
  case first =>
   rcases (by omega : v6 = 0 ∨ v6 = 1 ∨ v6 = 2 ∨ v6 = 3 ∨ 4 ≤ v6) with rfl | rfl | rfl | rfl | h4
   ·obtain ⟨q, hq0, hq1, hR, hg, hz, o, ho, hb⟩ := HS6.out
    have HPJ := Lib.hid (pick_c r q 5 w6 hR (by omega) ⟨by omega, by omega⟩)
    have HG := Lib.hid hg; have HZ := Lib.hid hz; have HO := Lib.hid ho; have HB := Lib.hid hb
    clear hR hg hz ho hb
    go_wp2_with fail
    refine HPJ.out.mono ?_
    rintro e w7 ⟨y, rfl, hy0, hy1, -, hr7, hg7⟩
    have hyl := hy1 (by omega)
    obtain ⟨hs7, hb7⟩ := Sx.step (d := 1) hrl hbo ⟨hq0, hq1⟩ HG.out HZ.out HO.out HB.out hr7 hg7 ⟨by omega, by omega⟩
    have HS7 : Hid (Sx w r p 17 bo (w7.setCell ⟨bo, 0, none⟩ (.int .i64 y))) := Sx.one hrl hbo hs7 0 y (by omega) ⟨by omega, by omega⟩
    obtain ⟨d0, d1, d2, d3, d4, df⟩ := five_cells hb7
    clear hy1 hr7 hg7 hs7 hb7
    go_wp2_with fail
    go_meet
    exact ⟨rfl, HS7.out⟩
   ·obtain ⟨q, hq0, hq1, hR, hg, hz, o, ho, hb⟩ := HS6.out
    have HPJ := Lib.hid (pick_c r q 50 w6 hR (by omega) ⟨by omega, by omega⟩)
    have HG := Lib.hid hg; have HZ := Lib.hid hz; have HO := Lib.hid ho; have HB := Lib.hid hb
    clear hR hg hz ho hb
    go_wp2_with fail
    refine HPJ.out.mono ?_
    rintro e w7 ⟨y, rfl, hy0, hy1, -, hr7, hg7⟩
    have hyl := hy1 (by omega)
    obtain ⟨hs7, hb7⟩ := Sx.step (d := 1) hrl hbo ⟨hq0, hq1⟩ HG.out HZ.out HO.out HB.out hr7 hg7 ⟨by omega, by omega⟩
    have HS7 : Hid (Sx w r p 17 bo (w7.setCell ⟨bo, 1, none⟩ (.int .i64 y))) := Sx.one hrl hbo hs7 1 y (by omega) ⟨by omega, by omega⟩
    obtain ⟨d0, d1, d2, d3, d4, df⟩ := five_cells hb7
    clear hy1 hr7 hg7 hs7 hb7
    go_wp2_with fail
    go_meet
    exact ⟨rfl, HS7.out⟩
   ·obtain ⟨q, hq0, hq1, hR, hg, hz, o, ho, hb⟩ := HS6.out
    have HPJ := Lib.hid (pick_c r q 50 w6 hR (by omega) ⟨by omega, by omega⟩)
    have HG := Lib.hid hg; have HZ := Lib.hid hz; have HO := Lib.hid ho; have HB := Lib.hid hb
    clear hR hg hz ho hb
    go_wp2_with fail
    refine HPJ.out.mono ?_
    rintro e w7 ⟨y, rfl, hy0, hy1, -, hr7, hg7⟩
    have hyl := hy1 (by omega)
    obtain ⟨hs7, hb7⟩ := Sx.step (d := 1) hrl hbo ⟨hq0, hq1⟩ HG.out HZ.out HO.out HB.out hr7 hg7 ⟨by omega, by omega⟩
    have HS7 : Hid (Sx w r p 17 bo (w7.setCell ⟨bo, 2, none⟩ (.int .i64 y))) := Sx.one hrl hbo hs7 2 y (by omega) ⟨by omega, by omega⟩
    obtain ⟨d0, d1, d2, d3, d4, df⟩ := five_cells hb7
    clear hy1 hr7 hg7 hs7 hb7
    go_wp2_with fail
    go_meet
    exact ⟨rfl, HS7.out⟩
   ·obtain ⟨q, hq0, hq1, hR, hg, hz, o, ho, hb⟩ := HS6.out
    have HPJ := Lib.hid (pick_c r q 50 w6 hR (by omega) ⟨by omega, by omega⟩)
    have HG := Lib.hid hg; have HZ := Lib.hid hz; have HO := Lib.hid ho; have HB := Lib.hid hb
    clear hR hg hz ho hb
    go_wp2_with fail
    refine HPJ.out.mono ?_
    rintro e w7 ⟨y, rfl, hy0, hy1, -, hr7, hg7⟩
    have hyl := hy1 (by omega)
    obtain ⟨hs7, hb7⟩ := Sx.step (d := 1) hrl hbo ⟨hq0, hq1⟩ HG.out HZ.out HO.out HB.out hr7 hg7 ⟨by omega, by omega⟩
    have HS7 : Hid (Sx w r p 17 bo (w7.setCell ⟨bo, 3, none⟩ (.int .i64 y))) := Sx.one hrl hbo hs7 3 y (by omega) ⟨by omega, by omega⟩
    obtain ⟨d0, d1, d2, d3, d4, df⟩ := five_cells hb7
    clear hy1 hr7 hg7 hs7 hb7
    go_wp2_with fail
    go_meet
    exact ⟨rfl, HS7.out⟩
   ·have n0 : (v6 == 0) = false := beq_eq_false_iff_ne.2 (by omega)
    have n1 : (v6 == 1) = false := beq_eq_false_iff_ne.2 (by omega)
    have n2 : (v6 == 2) = false := beq_eq_false_iff_ne.2 (by omega)
    have n3 : (v6 == 3) = false := beq_eq_false_iff_ne.2 (by omega)
    go_wp2_with fail
    go_meet
    obtain ⟨q, hq0, hq1, hrest⟩ := HS6.out
    exact ⟨rfl, ⟨q, hq0, by omega, hrest⟩⟩
  case rest =>
   obtain ⟨rfl, HSC⟩ := hcut
   obtain ⟨q, hq0, hq1, hR, hg, hz, o, ho, hb⟩ := HSC.out
   obtain ⟨hfin, hbk⟩ := Sx.fin hrl hbo ⟨q, hq0, hq1, hR⟩ hg hz (by omega) o ho
   have HF := Lib.hid hfin; have HBK := Lib.hid hbk
   obtain ⟨d0, d1, d2, d3, d4, df⟩ := five_cells hb
   obtain ⟨z0, z1, z2, z3, z4, zf⟩ := five_cells hz
   clear hR hg hz ho hb hfin hbk HS6 HSC
   go_wp2_with fail
   obtain ⟨x0, x1, x2, x3, x4, xf⟩ := five_cells HBK.out
   refine bodyPost_ret (v := Op.val o) ?_ rfl HF.out
   simp [Op.val, results, Tryd.f68, go_sem, x0, x1, x2, x3, x4]
open Go.RowKit
set_option maxRecDepth 100000 in
theorem open_d (A : Option Addr) (c : Nat) (bs : List UInt8) (w : World) (hr : Rd w A c bs) (hA : ∀ b off, A = some ⟨b, off, none⟩ → b < w.heap.size) :
  Calls Tryd.prog 37 #[.slice A bs.length c] w fun e w' => e = .returned (.pointer (some ⟨w.heap.size, 0, none⟩)) ∧ Rdr w' w.heap.size 0 ∧ Ext w w' := by
 have hm : bs.length ≤ maxLen := Nat.le_trans hr.1 hr.2.1
 unfold maxLen at hm
 have hcap := hr.1
 by_cases hl : 2000 < bs.length
 ·obtain ⟨b, off, rfl, -, -⟩ := byte_at hr 0 (by omega)
  have hl' : (2000 : Int) < bs.length := by omega
  have hlen : (bs.take 2000).length = 2000 := by rw [List.length_take]; omega
  have HF : Hid (Rdr (w.alloc (.cells #[.slice (some ⟨b, off, none⟩) 2000 c, .int .i64 0] 103)) w.heap.size 0 ∧ Ext w (w.alloc (.cells #[.slice (some ⟨b, off, none⟩) 2000 c, .int .i64 0] 103))) :=
   ⟨⟨some ⟨b, off, none⟩, c, bs.take 2000, by rw [World.alloc_heap_new, hlen]; rfl, (hr.alloc _).take 2000, by omega, hA⟩, (Below.refl _ _).alloc (Nat.le_refl _) _⟩
  clear hr hA hlen
  go_enter Tryd.func37, Tryd.ntmps37
  go_wp2_with fail
  go_ret
  exact ⟨rfl, HF.out⟩
 ·have hl' : ¬ (2000 : Int) < bs.length := by omega
  have HF : Hid (Rdr (w.alloc (.cells #[.slice A bs.length c, .int .i64 0] 103)) w.heap.size 0 ∧ Ext w (w.alloc (.cells #[.slice A bs.length c, .int .i64 0] 103))) :=
   ⟨⟨A, c, bs, by rw [World.alloc_heap_new]; rfl, hr.alloc _, by omega, hA⟩, (Below.refl _ _).alloc (Nat.le_refl _) _⟩
  clear hr hA
  go_enter Tryd.func37, Tryd.ntmps37
  go_wp2_with fail
  go_ret
  exact ⟨rfl, HF.out⟩
theorem own_new {α : Type} [Flat α] {e : TypeId} (w : World) (l : List α) (cs : Array Value) (base : Nat) (hb : base ≤ w.heap.size) (h : cs.toList = flat l) (hl : l.length ≤ 1000) (hok : ∀ x ∈ l, Flat.okE x) : Own e (w.alloc (.cells cs e)) base (.slice (some ⟨w.heap.size, 0, none⟩) l.length l.length) l :=
 ⟨by rw [← h]; exact World.ownsRow_lit w cs l.length hb (by unfold maxLen; omega) (by rw [← Array.length_toList, h, flat_length]), hok⟩
theorem Own.off {α : Type} [Flat α] {e : TypeId} {w : World} {base : Nat} {v : Value} {l : List α} (h : Own e w base v l) {r : Nat} (hr : r < base) : v.ownBlock = none ∨ v.ownBlock ≠ some r := by
 cases hv : v.ownBlock with
 |none => exact .inl rfl
 |some k => exact .inr fun e => by have := (h.blk k hv).1; injection e with e; omega
def LSt (w0 : World) (r gm m : Nat) (vo vt : Value) (l : List Entry) (tr : List Row) (ms : List Int) (q : Nat) (w : World) : Prop :=
 Rdr w r q ∧ w0.grownBy w (some r) ∧ Own 44 w w0.heap.size vo l ∧ Own 47 w w0.heap.size vt tr ∧ Own 3 w w0.heap.size (.slice (some ⟨gm, 0, none⟩) 3 3) ms ∧ treeOk tr = true ∧ ms.length = 3 ∧ (∀ x ∈ ms, 0 ≤ x ∧ x + m ≤ 13) ∧ (∀ e ∈ l, OpW e.op) ∧ l.length + m ≤ 13
theorem LSt.grown {w0 w w' : World} {r gm m q q' : Nat} {vo vt : Value} {l : List Entry} {tr : List Row} {ms : List Int} (hr : r < w0.heap.size) (h : LSt w0 r gm m vo vt l tr ms q w) (hg : w.grownBy w' (some r)) (hR : Rdr w' r q') : LSt w0 r gm m vo vt l tr ms q' w' := by
 obtain ⟨h1, h2, h3, h4, h5, h6⟩ := h
 exact ⟨hR, gtrans h2 hg, h3.grown hg (h3.off hr), h4.grown hg (h4.off hr), h5.grown hg (h5.off hr), h6⟩
theorem LSt.ext {w0 w w' : World} {r gm m q : Nat} {vo vt : Value} {l : List Entry} {tr : List Row} {ms : List Int} (h : LSt w0 r gm m vo vt l tr ms q w) (hb : Ext w w') : LSt w0 r gm m vo vt l tr ms q w' := by
 obtain ⟨h1, h2, h3, h4, h5, h6⟩ := h
 exact ⟨h1.ext hb, gtrans h2 (gext hb), h3.below hb, h4.below hb, h5.below hb, h6⟩
theorem own_ty {α : Type} [Flat α] {e : TypeId} {w : World} {base : Nat} {v : Value} {l : List α} (h : Own e w base v l) {b : Nat} (hb : v.ownBlock = some b) : ∃ cs, w.heap[b]? = some (.cells cs e (0, 0)) := by
 rcases h.1.2 with ⟨h9, _⟩ | ⟨g, cap, cur, h9, _, hh, _⟩
 ·rw [h9] at hb; simp [Value.ownBlock] at hb
 ·rw [h9] at hb
  simp only [Value.ownBlock, Option.some.injEq] at hb
  subst hb
  exact ⟨cur, hh⟩
theorem own_own {α β : Type} [Flat α] [Flat β] {e e' : TypeId} {w : World} {base base' : Nat} {v v' : Value} {l : List α} {l' : List β} (h : Own e w base v l) (h' : Own e' w base' v' l') (hne : e' ≠ e) : v.ownBlock = none ∨ v.ownBlock ≠ v'.ownBlock := by
 cases hv : v'.ownBlock with
 |none => cases hv2 : v.ownBlock with
  |none => exact .inl rfl
  |some k => exact .inr (by simp)
 |some b =>
  obtain ⟨cs, hcs⟩ := own_ty h' hv
  exact own_ne h hcs hne
theorem Rdr.row {w w' : World} {r p : Nat} (h : Rdr w r p) {row : Option Nat} (hg : w.grownBy w' row) (hb : ∀ b, row = some b → r < b) : Rdr w' r p := by
 obtain ⟨A, c, bs, h1, h2, h3, h4⟩ := h
 exact ⟨A, c, bs, (hg.block r (blk_lt h1) (fun e => by have := hb r e.symm; omega)).trans h1, h2.grown hg (fun b' off e h => by have := h4 b' off e; have := hb b' h.symm; omega), h3, h4⟩
theorem gmix {w0 w w' : World} {r : Nat} (h : w0.grownBy w (some r)) {row : Option Nat} (hg : w.grownBy w' row) (hb : ∀ b, row = some b → w0.heap.size ≤ b) : w0.grownBy w' (some r) :=
 ⟨hg.os.trans h.os, hg.tape.trans h.tape, hg.output.trans h.output, Nat.le_trans h.size hg.size, fun i hi hne => (hg.block i (Nat.lt_of_lt_of_le hi h.size) (fun e => by have := hb i e.symm; omega)).trans (h.block i hi hne)⟩
theorem LSt.app {w0 w w' : World} {r gm m q : Nat} {vo vt vo' : Value} {l l' : List Entry} {tr : List Row} {ms : List Int} (hr : r < w0.heap.size) (h : LSt w0 r gm m vo vt l tr ms q w) (hg : w.grownBy w' vo.ownBlock) (ho : Own 44 w' w0.heap.size vo' l') (hl : ∀ e ∈ l', OpW e.op) (hn : l'.length + m ≤ 13) : LSt w0 r gm m vo' vt l' tr ms q w' := by
 obtain ⟨h1, h2, h3, h4, h5, h6, h7, h8, h9, h10⟩ := h
 have hb : ∀ b, vo.ownBlock = some b → w0.heap.size ≤ b := fun b e => (h3.blk b e).1
 exact ⟨h1.row hg (fun b e => by have := hb b e; omega), gmix h2 hg hb, ho, h4.grown hg (own_own h4 h3 (by decide)), h5.grown hg (own_own h5 h3 (by decide)), h6, h7, h8, hl, hn⟩
theorem LSt.tree {w0 w : World} {r gm m q : Nat} {vo vt vt' : Value} {l : List Entry} {tr tr' : List Row} {ms : List Int} (h : LSt w0 r gm m vo vt l tr ms q w) (ho : Own 47 w w0.heap.size vt' tr') (ht : treeOk tr' = true) : LSt w0 r gm m vo vt' l tr' ms q w := by
 obtain ⟨h1, h2, h3, h4, h5, h6, h7⟩ := h
 exact ⟨h1, h2, h3, ho, h5, ht, h7⟩
theorem LSt.less {w0 w : World} {r gm m q : Nat} {vo vt : Value} {l : List Entry} {tr : List Row} {ms : List Int} (h : LSt w0 r gm m vo vt l tr ms q w) {m' : Nat} (hm : m' ≤ m) : LSt w0 r gm m' vo vt l tr ms q w := by
 obtain ⟨h1, h2, h3, h4, h5, h6, h7, h8, h9, h10⟩ := h
 exact ⟨h1, h2, h3, h4, h5, h6, h7, fun x hx => by have := h8 x hx; omega, h9, by omega⟩
theorem LSt.made {w0 w : World} {r gm m q : Nat} {vo vt : Value} {l : List Entry} {tr : List Row} {ms : List Int} (hr : r < w0.heap.size) (h : LSt w0 r gm (m + 1) vo vt l tr ms q w) (k : Nat) (hk : k < ms.length) : LSt w0 r gm m vo vt l tr (ms.set k (ms[k] + 1)) q (w.setCell ⟨gm, k, none⟩ (.int .i64 (ms[k] + 1))) := by
 obtain ⟨h1, h2, h3, h4, h5, h6, h7, h8, h9, h10⟩ := h
 have h5' : Own 3 w w0.heap.size (.slice (some ⟨gm, 0, none⟩) ms.length 3) ms := by rw [h7]; exact h5
 obtain ⟨hst, hg⟩ := h5'.store k hk (ms[k] + 1) trivial 0 (.int .i64 (ms[k] + 1)) (by decide) rfl
 have e1 : k * Flat.sz Int + 0 = k := Nat.mul_one k
 rw [e1] at hst hg
 rw [h7] at hst
 obtain ⟨cs, hcs⟩ := own_ty h5 (b := gm) rfl
 have hgm := (h5.blk gm rfl).1
 have hmem := h8 ms[k] (List.getElem_mem hk)
 refine ⟨h1.other hg (by omega), gset_new h2 hgm _ _, own_put h3 hcs (by decide) _ _, own_put h4 hcs (by decide) _ _, hst, h6, by rw [List.length_set]; exact h7, fun x hx => ?_, h9, by omega⟩
 rcases List.mem_or_eq_of_mem_set hx with hx | hx
 ·have := h8 x hx; omega
 ·subst hx; omega
def LogP (r p : Nat) (w : World) (e : Ending) (w' : World) : Prop := ∃ (l : List Entry) (v : Value) (p' : Nat), e = .returned v ∧ Own 44 w' w.heap.size v l ∧ l.length ≤ 14 ∧ (∀ e ∈ l, OpW e.op) ∧ p ≤ p' ∧ p' ≤ p + 1000 ∧ Rdr w' r p' ∧ w.grownBy w' (some r)
theorem OpD.w {who made : Int} {o : Op} (h : OpD who made o) : OpW o := by
 have h1 := h.1
 obtain ⟨hm, hk, -, hp⟩ := T.opOk_kind h1
 rw [isMade_iff] at hm
 have hup : o.kind ≠ 2 → idOk o.up = true := fun hk2 => by
  rcases hk with h | h | h
  ·rw [opOk_1 h] at h1; simp only [Bool.and_eq_true] at h1; exact h1.2.2.1
  ·exact absurd h hk2
  ·rw [opOk_3 h] at h1; simp only [Bool.and_eq_true] at h1; exact h1.2.2.1.1
 by_cases h2 : o.kind = 2
 ·rw [opOk_2 h2] at h1
  simp only [Bool.and_eq_true, decide_eq_true_eq] at h1
  unfold OpW i64; omega
 ·have hu := hup h2
  unfold idOk at hu
  rw [Bool.or_eq_true, isRoot_iff, isMade_iff] at hu
  have hp2 := hp h2
  rw [isMade_iff] at hp2
  unfold OpW i64; omega
theorem Sm.w {o : Op} (h : Sm o) : OpW o := by obtain ⟨h1, h2, h3, h4, h5⟩ := h; unfold OpW i64; omega
set_option maxRecDepth 100000 in
set_option maxHeartbeats 4000000 in
theorem log_d (r p : Nat) (w : World) (h : Rdr w r p) (hp : p < 999900000) :
  Calls Tryd.prog 36 #[.pointer (some ⟨r, 0, none⟩)] w (LogP r p w) := by
 have hrl := h.lt
 have hea : Ext w (w.alloc (.cells #[] 44)) := (Below.refl _ _).alloc (Nat.le_refl _) _
 have HN := Lib.hid (new_s (w.alloc (.cells #[] 44)))
 have HO0 : Hid (Own 44 (w.alloc (.cells #[] 44)) w.heap.size (.slice (some ⟨w.heap.size, 0, none⟩) 0 0) ([] : List Entry)) := own_made w w.heap.size (Nat.le_refl _)
 have HEA := Lib.hid hea; have HR := Lib.hid h
 clear h hea
 go_enter Tryd.func36, Tryd.ntmps36
 go_wp2_with fail
 refine HN.out.mono ?_
 rintro e w1 ⟨v1, rfl, hown1, hb1⟩
 have hE1 : Ext w w1 := HEA.out.trans (hb1.mono HEA.out.size)
 have hea2 : Ext w1 (w1.alloc (.cells #[.int .i64 0, .int .i64 0, .int .i64 0] 3)) := (Below.refl _ _).alloc (Nat.le_refl _) _
 have hL1 : LSt w r w1.heap.size 13 (.slice (some ⟨w.heap.size, 0, none⟩) 0 0) v1 [] treeNew [0, 0, 0] p (w1.alloc (.cells #[.int .i64 0, .int .i64 0, .int .i64 0] 3)) :=
  ⟨(HR.out.ext hE1).ext hea2, gext (hE1.trans (hea2.mono hE1.size)), (HO0.out.below hb1).below hea2, (hown1.lower HEA.out.size).below hea2, own_new (α := Int) w1 [0, 0, 0] _ w.heap.size hE1.size rfl (by simp) (fun _ _ => trivial), treeOk_new, rfl, by intro x hx; simp at hx; omega, by simp, by simp⟩
 have HP := Lib.hid (pick_c r p 14 _ hL1.1 (by omega) ⟨by omega, by omega⟩)
 have HL1 := Lib.hid hL1
 have hgm : w.heap.size ≤ w1.heap.size := hE1.size
 obtain ⟨gm, hgme⟩ : ∃ gm, gm = w1.heap.size := ⟨_, rfl⟩
 have HGM := Lib.hid hgme
 rw [← hgme] at hgm HL1
 clear hown1 hb1 hE1 hea2 hL1 HN HR HO0 HEA hgme
 go_wp2_with fail
 rw [← HGM.out]
 refine HP.out.mono ?_
 rintro e w2 ⟨v, rfl, hv0, hv1, -, hr2, hg2⟩
 have hvl := hv1 (by omega)
 obtain ⟨m0, rfl⟩ : ∃ k : Nat, v = k := ⟨v.toNat, by omega⟩
 have hL2 := HL1.out.grown hrl hg2 hr2
 have HL2 := Lib.hid hL2
 clear hv1 hr2 hg2 hL2 HL1 HP
 go_wp2_with fail
 go_loopg [3, 4, 6] m0 (fun gk vo vt n wr => ∃ (m q : Nat) (l : List Entry) (tr : List Row) (ms : List Int), Hid (gk = m) ∧ n = .int .i64 m ∧ m ≤ 13 ∧ p ≤ q ∧ q + m * 40 ≤ p + 600 ∧ Hid (LSt w r gm m vo vt l tr ms q wr))
 case atStart =>
  refine ⟨m0, p + 1, [], treeNew, [0, 0, 0], rfl, rfl, by omega, by omega, by omega, ?_⟩
  obtain ⟨h1, h2, h3, h4, h5, h6, h7, h8, h9, h10⟩ := HL2.out
  exact ⟨h1, h2, h3, h4, h5, h6, h7, by intro x hx; simp at hx; omega, h9, by simp; omega⟩
 case round =>
  obtain ⟨m, q, l, tr, ms, HK, rfl, hm, hq0, hq1, HL⟩ := hrel
  by_cases hm0 : 0 < m
  ·obtain ⟨m, rfl⟩ : ∃ k, m = k + 1 := ⟨m - 1, by omega⟩
   have hLo := HL.out
   obtain ⟨hR, hg, ho, ht, hms, htr, hml, hmb, hew, hll⟩ := hLo
   obtain ⟨Ao, co, rfl, hro⟩ := ho.rd
   obtain ⟨At, ct, rfl, hrt⟩ := ht.rd
   have HP3 := Lib.hid (pick_c r q 3 wr hR (by omega) ⟨by omega, by omega⟩)
   have hAt : ∀ b off, At = some ⟨b, off, none⟩ → b ≠ r := fun b off e => by
    have := (ht.blk b (by rw [e]; rfl)).1
    omega
   have HAT := Lib.hid hAt; have HTR := Lib.hid htr; have HMB := Lib.hid hmb; have HML := Lib.hid hml; have HLL := Lib.hid hll
   have hmz : (0 : Int) < ((m + 1 : Nat) : Int) := by omega
   clear hR hg ho ht hms htr hml hmb hew hll hro hrt hAt
   go_wp2_with fail
   refine HP3.out.mono ?_
   rintro e w3 ⟨v, rfl, hv0, hv1, -, hr3, hg3⟩
   have hvl := hv1 (by omega)
   obtain ⟨k, rfl⟩ : ∃ k : Nat, v = k := ⟨v.toNat, by omega⟩
   have hL3 := HL.out.grown hrl hg3 hr3
   have HL3 := Lib.hid hL3
   obtain ⟨hR3, hgg3, ho3, ht3, hms3, -⟩ := hL3
   have hk : k < ms.length := by rw [HML.out]; omega
   obtain ⟨A9, c9, e9, hrm⟩ := hms3.rd
   simp only [Value.slice.injEq] at e9
   obtain ⟨rfl, -, rfl⟩ := e9
   have hrm' : Rd w3 (some ⟨gm, 0, none⟩) 3 ms := hrm
   obtain ⟨b9, o9, e9, -, x0⟩ := int_at hrm' k hk
   cases e9
   simp only [Nat.zero_add] at x0
   obtain ⟨A8, c8, e8, hrt3⟩ := ht3.rd
   cases e8
   have hmk := HMB.out ms[k] (List.getElem_mem hk)
   obtain ⟨hmk0, hmk1⟩ := hmk
   have HOP := Lib.hid (op_d r (q + 1) At ct tr (1 + k) ms[k] w3 hR3 (by omega) hrt3 HTR.out HAT.out ⟨by omega, by omega⟩ ⟨hmk0, by omega⟩)
   clear hv1 hr3 hg3 hR3 hgg3 ho3 ht3 hms3 hrm hrm' hrt3 HP3 HL
   go_wp2_with fail
   refine HOP.out.mono ?_
   rintro e w4 ⟨o, q4, rfl, hod, hq40, hq41, hr4, hg4⟩
   have hval : o.val = .agg (cO o) := rfl
   rw [hval]
   clear hval
   have hL4 := (HL3.out.grown hrl hg4 hr4).ext ((Below.refl _ _).alloc (Nat.le_refl _) (opO o))
   have hbo4 := World.alloc_heap_new w4 (opO o)
   have hgmb : gm < w4.heap.size := by
    have := (HL3.out.grown hrl hg4 hr4).2.2.2.2.1.blk gm rfl
    exact this.2
   have HL4 := Lib.hid hL4; have HBO4 := Lib.hid hbo4; have HOD := Lib.hid hod
   obtain ⟨bo, hboe⟩ : ∃ bo, bo = w4.heap.size := ⟨_, rfl⟩
   rw [← hboe] at hgmb HBO4
   have HBE := Lib.hid hboe
   obtain ⟨d0, d1, d2, d3, d4, df⟩ := five_cells hbo4
   rw [← hboe] at d0 d1 d2 d3 d4 df
   clear hr4 hg4 hL4 hbo4 hod hboe HOP HL3
   go_upto_if 32 with fail
   rw [← HBE.out]
   go_cut [8] (fun s wx => ∃ ms' : List Int, s = .pointer (some ⟨bo, 0, none⟩) ∧ Hid (LSt w r gm m (.slice Ao l.length co) (.slice At tr.length ct) l tr ms' q4 wx ∧ wx.heap[bo]? = some (opO o)))
   case first =>
    by_cases hk1 : o.kind = 1
    ·have hk1' : (o.kind == 1) = true := by simp [hk1]
     have hmade := LSt.made hrl HL4.out k hk
     have hbo5 : ((w4.alloc (opO o)).setCell ⟨gm, k, none⟩ (.int .i64 (ms[k] + 1))).heap[bo]? = some (opO o) := (setx (by omega)).trans HBO4.out
     have HMD := Lib.hid hmade; have HBO5 := Lib.hid hbo5
     obtain ⟨cs, hcs⟩ := own_ty HL4.out.2.2.2.2.1 (b := gm) rfl
     have hfz : (w4.alloc (opO o)).frozen? ⟨gm, k, none⟩ = false := by simp [World.frozen?, hcs]
     have x1 : (w4.alloc (opO o)).cell? ⟨gm, k, none⟩ = some (.int .i64 ms[k]) := by
      obtain ⟨A9, c9, e9, hrm⟩ := HL4.out.2.2.2.2.1.rd
      simp only [Value.slice.injEq] at e9
      obtain ⟨rfl, -, rfl⟩ := e9
      obtain ⟨b9, o9, e9, -, x0⟩ := int_at hrm k hk
      cases e9
      simpa using x0
     clear hk1 hmade hbo5 hcs
     go_wp2_with fail
     go_meet
     exact ⟨_, rfl, HMD.out, HBO5.out⟩
    ·have hk1' : (o.kind == 1) = false := by simp [hk1]
     clear hk1
     go_wp2_with fail
     go_meet
     exact ⟨ms, rfl, HL4.out.less (Nat.le_succ _), HBO4.out⟩
   case rest =>
    obtain ⟨ms', rfl, HC⟩ := hcut
    have hCo := HC.out
    obtain ⟨hLc, hbc⟩ := hCo
    have hown := hLc.2.2.1
    obtain ⟨A7, c7, e7, hroc⟩ := hown.rd
    cases e7
    have HSQ := Lib.hid (seq_s Ao co l (1 + (k : Int)) wc.drew (hroc.drewN 1))
    have hcl := cntW_le l (1 + (k : Int))
    have hll := hLc.2.2.2.2.2.2.2.2.2
    have hqw : IntKind.i64.wrap ((cntW l (1 + (k : Int)) : Int) + 1) = (cntW l (1 + (k : Int)) : Int) + 1 := by rw [IntKind.wrap_i64]; omega
    have hsz := hLc.2.1.size
    have hoke : Flat.okE (⟨1 + (k : Int), (cntW l (1 + (k : Int)) : Int) + 1, o⟩ : Entry) := Nat.le_trans HOD.out.2.1 (by decide)
    obtain ⟨v6, w6, hrun, hown6, hg6⟩ : ∃ v' w', (Builtin.append_ #[23, 23] 23 #[.slice Ao l.length co, .slice (some ⟨wc.heap.size, 0, none⟩) 1 1]).run Tryd.prog (wc.alloc (.cells #[.int .i64 (1 + (k : Int)), .int .i64 ((cntW l (1 + (k : Int)) : Int) + 1), .int .i64 o.kind, .int .i64 o.id, .int .i64 o.up, .int .i64 o.pos, .string o.text] 44)).drew = .ok v' w' ∧
      Own 44 w' w.heap.size v' (l ++ [(⟨1 + (k : Int), (cntW l (1 + (k : Int)) : Int) + 1, o⟩ : Entry)]) ∧ (wc.drew.alloc (.cells #[.int .i64 (1 + (k : Int)), .int .i64 ((cntW l (1 + (k : Int)) : Int) + 1), .int .i64 o.kind, .int .i64 o.id, .int .i64 o.up, .int .i64 o.pos, .string o.text] 44)).grownBy w' (Value.slice Ao l.length co).ownBlock :=
     app_one (w := wc.drew) el_ent (hown.below (Ext.drewN (Below.refl _ _) 1)) ⟨1 + (k : Int), (cntW l (1 + (k : Int)) : Int) + 1, o⟩ hoke (by omega) hsz #[.int .i64 (1 + (k : Int)), .int .i64 ((cntW l (1 + (k : Int)) : Int) + 1), .int .i64 o.kind, .int .i64 o.id, .int .i64 o.up, .int .i64 o.pos, .string o.text] rfl
    have hea9 : Ext wc (wc.drew.alloc (.cells #[.int .i64 (1 + (k : Int)), .int .i64 ((cntW l (1 + (k : Int)) : Int) + 1), .int .i64 o.kind, .int .i64 o.id, .int .i64 o.up, .int .i64 o.pos, .string o.text] 44)) := (Ext.drewN (Below.refl wc.heap.size wc) 1).alloc (Nat.le_refl _) _
    have hL6 := LSt.app hrl (hLc.ext hea9) hg6 hown6 (by
     intro e he
     rcases List.mem_append.1 he with he | he
     ·exact hLc.2.2.2.2.2.2.2.2.1 e he
     ·rw [List.mem_singleton] at he; subst he; exact HOD.out.w) (m := m) (by rw [List.length_append, List.length_singleton]; have := HLL.out; omega)
    have hbo6 : w6.heap[bo]? = some (opO o) := (hg6.block bo (by rw [alloc_sz]; exact Nat.lt_succ_of_lt (blk_lt hbc)) (fun e => by
     rcases own_ne hown hbc (by decide) with h | h
     ·rw [h] at e; cases e
     ·exact h e.symm)).trans ((hea9.block bo (blk_lt hbc)).trans hbc)
    have HL6 := Lib.hid hL6; have HBO6 := Lib.hid hbo6
    have hrt6 := hL6.2.2.2.1
    obtain ⟨A7, c7, e7, hrt6⟩ := hrt6.rd
    cases e7
    have HDO := Lib.hid (do_s At ct tr o w6 hrt6 HTR.out HOD.out.1 (Nat.le_trans HOD.out.2.1 (by decide)))
    have hhid := hL6.2.1.size
    obtain ⟨d0, d1, d2, d3, d4, df⟩ := five_cells hbc
    clear hLc hbc hown hroc hg6 hown6 hL6 hbo6 hrt6 hea9 hoke HC HL4 HBO4
    go_wp2_with fail
    go_region_law (first | (refine step_append_run rfl _ _ _ rfl rfl rfl hrun ?_) | (go_simp; go_at_call 43; refine HSQ.out.mono ?_; rintro e w9 ⟨rfl, hw9⟩; rw [hw9]; clear hw9))
    all_goals
     clear d0 d1 d2 d3 d4 df
     obtain ⟨d0, d1, d2, d3, d4, df⟩ := five_cells HBO6.out
     go_wp2_with fail
     refine HDO.out.mono ?_
     rintro e w7 ⟨v7, rfl, hown7, hb7⟩
     have HL7 := Lib.hid ((HL6.out.ext hb7).tree (hown7.lower hhid) (treeOk_do tr o HTR.out HOD.out.1))
     clear hown7 hb7
     go_wp2_with fail
     go_roundg m
     case measure => have := HK.out; omega
     case rel => exact ⟨m, q4, _, _, ms', rfl, by first | rfl | (congr 1; omega), by omega, by omega, by omega, HL7.out⟩
  ·have hmz : ¬ (0 : Int) < (m : Int) := by omega
   have hLo := HL.out
   obtain ⟨hR, hg, ho, -, -, -, -, -, hew, hll⟩ := hLo
   obtain ⟨Ao, co, rfl, hro⟩ := ho.rd
   have HP3 := Lib.hid (pick_c r q 24 wr hR (by omega) ⟨by omega, by omega⟩)
   have HG := Lib.hid hg; have HO := Lib.hid ho; have HEW := Lib.hid hew
   clear hR hg ho hew hro HL
   go_wp2_with fail
   refine HP3.out.mono ?_
   rintro e w3 ⟨v, rfl, hv0, hv1, -, hr3, hg3⟩
   have hG3 := gtrans HG.out hg3
   have hO3 := HO.out.grown hg3 (HO.out.off hrl)
   have HG3 := Lib.hid hG3; have HO3 := Lib.hid hO3; have HR3 := Lib.hid hr3
   have hs3 := hG3.size
   clear hv1 hr3 hg3 hG3 hO3 HG HO HP3
   rcases (by omega : v = 0 ∨ v = 1 ∨ 2 ≤ v) with rfl | rfl | h2
   ·have HPA := Lib.hid (pick_c r (q + 1) 3 w3 HR3.out (by omega) ⟨by omega, by omega⟩)
    go_wp2_with fail
    refine HPA.out.mono ?_
    rintro e w4 ⟨a, rfl, ha0, ha1, -, hr4, hg4⟩
    have hal := ha1 (by omega)
    have HPB := Lib.hid (pick_c r (q + 2) 4 w4 hr4 (by omega) ⟨by omega, by omega⟩)
    have HG4 := Lib.hid (gtrans HG3.out hg4); have HO4 := Lib.hid (HO3.out.grown hg4 (HO3.out.off hrl))
    clear ha1 hr4 hg4 HPA HG3 HO3 HR3
    go_wp2_with fail
    refine HPB.out.mono ?_
    rintro e w5 ⟨b, rfl, hb0, hb1, -, hr5, hg5⟩
    have hbl := hb1 (by omega)
    have HPC := Lib.hid (opx_d r (q + 3) w5 hr5 (by omega))
    have HG5 := Lib.hid (gtrans HG4.out hg5); have HO5 := Lib.hid (HO4.out.grown hg5 (HO4.out.off hrl))
    clear hb1 hr5 hg5 HPB HG4 HO4
    go_wp2_with fail
    refine HPC.out.mono ?_
    rintro e w6 ⟨o, q6, rfl, hsm, hq60, hq61, hr6, hg6⟩
    have hval : o.val = .agg (cO o) := rfl
    rw [hval]
    have hG6 := gtrans HG5.out hg6
    have hO6 := HO5.out.grown hg6 (HO5.out.off hrl)
    obtain ⟨v7, w7, hrun, hown7, hg7⟩ := app_one el_ent hO6 ⟨1 + a, 1 + b, o⟩ (Nat.le_trans hsm.2.2.2.2 (by decide)) (by omega) hG6.size #[.int .i64 (1 + a), .int .i64 (1 + b), .int .i64 o.kind, .int .i64 o.id, .int .i64 o.up, .int .i64 o.pos, .string o.text] rfl
    have hea : Ext w6 (w6.alloc (.cells #[.int .i64 (1 + a), .int .i64 (1 + b), .int .i64 o.kind, .int .i64 o.id, .int .i64 o.up, .int .i64 o.pos, .string o.text] 44)) := (Below.refl _ _).alloc (Nat.le_refl _) _
    have hblk : ∀ b', (Value.slice Ao l.length co).ownBlock = some b' → w.heap.size ≤ b' := fun b' e => (hO6.blk b' e).1
    have HF : Hid (LogP r p w (.returned v7) w7) := ⟨_, v7, q6, rfl, hown7, by rw [List.length_append, List.length_singleton]; omega, (by
     intro e he
     rcases List.mem_append.1 he with he | he
     ·exact HEW.out e he
     ·rw [List.mem_singleton] at he; subst he; exact hsm.w), by omega, by omega, (hr6.ext hea).row hg7 (fun b' e => by have := hblk b' e; omega), gmix (gtrans hG6 (gext hea)) hg7 hblk⟩
    clear hval hG6 hO6 hown7 hg7 hea hblk hsm hr6 hg6 HPC HG5 HO5
    go_wp2_with (at_builtin; refine wpList_append_run rfl _ _ _ rfl rfl rfl hrun ?_)
    go_ret
    exact HF.out
   ·by_cases hl0 : 0 < l.length
    ·have HPA := Lib.hid (pick_c r (q + 1) l.length w3 HR3.out (by omega) ⟨by omega, by omega⟩)
     go_wp2_with fail
     refine HPA.out.mono ?_
     rintro e w4 ⟨a, rfl, ha0, ha1, -, hr4, hg4⟩
     have hal := ha1 (by omega)
     obtain ⟨j, rfl⟩ : ∃ k : Nat, a = k := ⟨a.toNat, by omega⟩
     have HPB := Lib.hid (pick_c r (q + 2) 4 w4 hr4 (by omega) ⟨by omega, by omega⟩)
     have HG4 := Lib.hid (gtrans HG3.out hg4); have HO4 := Lib.hid (HO3.out.grown hg4 (HO3.out.off hrl))
     clear ha1 hr4 hg4 HPA HG3 HO3 HR3
     go_wp2_with fail
     refine HPB.out.mono ?_
     rintro e w5 ⟨y, rfl, hy0, hy1, -, hr5, hg5⟩
     have hjl : j < l.length := by omega
     have hG5 := gtrans HG4.out hg5
     have hO5 := HO4.out.grown hg5 (HO4.out.off hrl)
     obtain ⟨g, cap, e9, hg0, hg1, hfz, hgc⟩ := hO5.some_ hl0
     simp only [Value.slice.injEq] at e9
     obtain ⟨rfl, -, rfl⟩ := e9
     obtain ⟨hst, hgs⟩ := hO5.store j hjl ⟨l[j].who, y, l[j].op⟩ (by exact hO5.2 l[j] (List.getElem_mem hjl)) 1 (.int .i64 y) (by decide) rfl
     have f3 := hfz (j * 7 + 1)
     obtain ⟨A9, c9, e9, r9⟩ := hO5.rd
     simp only [Value.slice.injEq] at e9
     obtain ⟨rfl, -, rfl⟩ := e9
     obtain ⟨bb, oo, ee, hbb, x0, x1, x2, x3, x4, x5, x6⟩ := ent_at r9 j hjl
     cases ee
     simp only [Nat.zero_add] at x0 x1
     have hgs' : w5.grownBy (w5.setCell ⟨g, j * 7 + 1, none⟩ (.int .i64 y)) (some g) := hgs
     have HF : Hid (LogP r p w (.returned (.slice (some ⟨g, 0, none⟩) l.length co)) (w5.setCell ⟨g, j * 7 + 1, none⟩ (.int .i64 y))) := ⟨_, _, q + 3, rfl, hst, by rw [List.length_set]; omega, (by
      intro e he
      rcases List.mem_or_eq_of_mem_set he with he | he
      ·exact HEW.out e he
      ·subst he; exact HEW.out l[j] (List.getElem_mem hjl)), by omega, by omega, hr5.row hgs' (fun b' e => by injection e with e; omega), gmix hG5 hgs' (fun b' e => by injection e with e; omega)⟩
     clear hG5 hO5 hst hgs hgs' hfz r9 x2 x3 x4 x5 x6 hr5 hg5 hy1 HPB HG4 HO4
     go_wp2_with fail
     go_ret
     exact HF.out
    ·have hl0' : ¬ (0 : Int) < l.length := by omega
     have HF : Hid (LogP r p w (.returned (.slice Ao l.length co)) w3) := ⟨l, _, q + 1, rfl, HO3.out, by omega, HEW.out, by omega, by omega, HR3.out, HG3.out⟩
     go_wp2_with fail
     go_ret
     exact HF.out
   ·have n0 : (v == 0) = false := beq_eq_false_iff_ne.2 (by omega)
    have n1 : (v == 1) = false := beq_eq_false_iff_ne.2 (by omega)
    have HF : Hid (LogP r p w (.returned (.slice Ao l.length co)) w3) := ⟨l, _, q + 1, rfl, HO3.out, by omega, HEW.out, by omega, by omega, HR3.out, HG3.out⟩
    go_wp2_with fail
    go_ret
    exact HF.out
def DLogP (w : World) (e : Ending) (w' : World) : Prop := ∃ (l : List Entry) (v : Value), e = .returned v ∧ Own 44 w' w.heap.size v l ∧ l.length ≤ 14 ∧ (∀ e ∈ l, OpW e.op) ∧ Ext w w'
set_option maxRecDepth 100000 in
theorem drawLogTree_d (A : Option Addr) (c : Nat) (bs : List UInt8) (w : World) (hr : Rd w A c bs) (hA : ∀ b off, A = some ⟨b, off, none⟩ → b < w.heap.size) :
  Calls Tryd.prog 12 #[.slice A bs.length c] w (DLogP w) := by
 have HO := Lib.hid (open_d A c bs w hr hA)
 clear hr hA
 go_enter Tryd.func12, Tryd.ntmps12
 go_wp2_with fail
 refine HO.out.mono ?_
 rintro e w1 ⟨rfl, hr1, hb1⟩
 have HL := Lib.hid (log_d w.heap.size 0 w1 hr1 (by omega))
 have HB1 := Lib.hid hb1
 clear hr1 hb1
 go_wp2_with fail
 refine HL.out.mono ?_
 rintro e w2 ⟨l, v, p', rfl, hown, hl, hw, -, -, -, hg⟩
 have HF : Hid (DLogP w (.returned v) w2) := ⟨l, v, rfl, hown.lower HB1.out.size, hl, hw, ext_grown HB1.out hg HB1.out.size (fun k e => by injection e with e; omega)⟩
 clear hown hw hg
 go_wp2_with fail
 go_ret
 exact HF.out
open Go.RowKit Go.Lib
theorem opOk_w {o : Op} (h1 : opOk o = true) : OpW o := by
 obtain ⟨hm, hk, -, hp⟩ := T.opOk_kind h1
 rw [isMade_iff] at hm
 have hup : o.kind ≠ 2 → idOk o.up = true := fun hk2 => by
  rcases hk with h | h | h
  ·rw [opOk_1 h] at h1; simp only [Bool.and_eq_true] at h1; exact h1.2.2.1
  ·exact absurd h hk2
  ·rw [opOk_3 h] at h1; simp only [Bool.and_eq_true] at h1; exact h1.2.2.1.1
 by_cases h2 : o.kind = 2
 ·rw [opOk_2 h2] at h1
  simp only [Bool.and_eq_true, decide_eq_true_eq] at h1
  unfold OpW i64; omega
 ·have hu := hup h2
  unfold idOk at hu
  rw [Bool.or_eq_true, isRoot_iff, isMade_iff] at hu
  have hp2 := hp h2
  rw [isMade_iff] at hp2
  unfold OpW i64; omega
set_option maxRecDepth 100000 in
set_option maxHeartbeats 2000000 in
theorem serverOk_s (L : Option Addr) (ln : Nat) (l : List Entry) (safe : Int) (up : Bool) (w : World) (hr : RdT 44 w L ln l) (hall : ∀ e ∈ l, entryOk e = true) :
  Calls Tryd.prog 121 #[.agg #[.slice L l.length ln, .int .i64 safe, .bool up]] w fun x w' => ∃ b : Bool, x = .returned (.bool b) ∧ Ext w w' := by
 have hE : Ext w (w.alloc (.cells #[.slice L l.length ln, .int .i64 safe, .bool up] 89)) := (Below.refl _ w).alloc (Nat.le_refl _) _
 have hX := World.alloc_heap_new w (.cells #[.slice L l.length ln, .int .i64 safe, .bool up] 89)
 have HL := Lib.hid (logOk_s L ln l _ (hr.ext hE).1 (fun e he => opOk_w (entryOk_op (hall e he))))
 have HE := Lib.hid hE; have HX := Lib.hid hX
 clear hr hall hE hX
 go_enter Tryd.func121, Tryd.ntmps121
 go_wp2_with fail
 generalize (w.alloc (.cells #[.slice L l.length ln, .int .i64 safe, .bool up] 89)) = W at *
 refine HL.out.mono ?_
 rintro x w1 ⟨rfl, hb1⟩
 have hx1 := (hb1.block w.heap.size (blk_lt HX.out)).trans HX.out
 obtain ⟨c0, c1, c2, cf⟩ := tri_cells hx1
 have HE1 := Lib.hid (HE.out.trans (hb1.mono HE.out.size))
 clear hb1 hx1 HL
 cases logOk l
 ·go_wp2_with fail
  go_ret
  exact ⟨false, rfl, HE1.out⟩
 ·go_wp2_with fail
  refine (in_c safe 0 l.length w1).mono ?_
  rintro x w2 ⟨rfl, hw2⟩
  rw [hw2]; clear hw2
  go_wp2_with fail
  go_ret
  exact ⟨_, rfl, HE1.out⟩
set_option maxRecDepth 100000 in
set_option maxHeartbeats 2000000 in
theorem news_s (L : Option Addr) (ln : Nat) (l : List Entry) (safe : Int) (up : Bool) (frm : Int) (w : World) (hr : RdT 44 w L ln l) (hall : ∀ e ∈ l, entryOk e = true) (hl : l.length ≤ 1000) (h0 : 0 ≤ safe) (h1 : safe ≤ l.length) :
  Calls Tryd.prog 119 #[.agg #[.slice L l.length ln, .int .i64 safe, .bool up], .int .i64 frm] w fun x w' => ∃ (N : Option Addr) (n' : Nat) (m : List Entry), x = .returned (.slice N m.length n') ∧ RdT 44 w' N n' m ∧ (∀ e ∈ m, e ∈ l) ∧ m.length ≤ l.length ∧ Ext w w' := by
 have hE : Ext w (w.alloc (.cells #[.slice L l.length ln, .int .i64 safe, .bool up] 89)) := (Below.refl _ w).alloc (Nat.le_refl _) _
 have hX := World.alloc_heap_new w (.cells #[.slice L l.length ln, .int .i64 safe, .bool up] 89)
 have HOK := Lib.hid (serverOk_s L ln l safe up (w.alloc (.cells #[.slice L l.length ln, .int .i64 safe, .bool up] 89)) (hr.ext hE) hall)
 have HE := Lib.hid hE; have HX := Lib.hid hX; have HR := Lib.hid (hr.ext hE)
 clear hr hall hE hX
 go_enter Tryd.func119, Tryd.ntmps119
 obtain ⟨d0, d1, d2, df⟩ := tri_cells HX.out
 go_wp2_with fail
 generalize (w.alloc (.cells #[.slice L l.length ln, .int .i64 safe, .bool up] 89)) = W at *
 refine HOK.out.mono ?_
 rintro x w1 ⟨b, rfl, hb1⟩
 have hx1 := (hb1.block w.heap.size (blk_lt HX.out)).trans HX.out
 clear d0 d1 d2 df
 obtain ⟨c0, c1, c2, cf⟩ := tri_cells hx1
 have HE1 := Lib.hid (HE.out.trans (hb1.mono HE.out.size)); have HR1 := Lib.hid (HR.out.ext hb1)
 have hno : ∃ (N : Option Addr) (n' : Nat) (m : List Entry), Ending.returned (Value.slice (some ⟨w1.heap.size, 0, none⟩) 0 0) = Ending.returned (.slice N m.length n') ∧ RdT 44 (w1.alloc (.cells #[] 44)) N n' m ∧ (∀ e ∈ m, e ∈ l) ∧ m.length ≤ l.length ∧ Ext w (w1.alloc (.cells #[] 44)) :=
  ⟨_, 0, [], rfl, (own_made (e := 44) (α := Entry) w1 w1.heap.size (Nat.le_refl _)).rdT, by simp, by simp, HE1.out.alloc HE1.out.size _⟩
 have HNO := Lib.hid hno
 have hlt := blk_lt hx1
 clear hb1 hx1 HOK hno
 cases b
 ·go_wp2_with fail
  go_ret
  exact HNO.out
 cases up
 ·go_wp2_with fail
  go_ret
  exact HNO.out
 go_wp2_with fail
 refine (in_c frm 0 safe w1).mono ?_
 rintro x w2 ⟨rfl, hw2⟩
 rw [hw2]; clear hw2
 cases hin : inR frm 0 safe
 ·clear hin
  go_wp2_with fail
  go_ret
  exact HNO.out
 have hfr := of_decide_eq_true (show decide (0 ≤ frm ∧ frm ≤ safe) = true from hin)
 obtain ⟨f, rfl⟩ : ∃ f : Nat, frm = (f : Int) := ⟨frm.toNat, by omega⟩
 obtain ⟨s, rfl⟩ : ∃ s : Nat, safe = (s : Int) := ⟨safe.toNat, by omega⟩
 clear hin
 have hcap := HR1.out.1.1
 have hsl := fun (W : World) => run_mid el_ent L l.length ln f s (by omega) (by omega) W
 have hrm := (HR1.out.1.alloc (.cells #[] 44)).mid f s (by omega)
 have hszr : Flat.sz Entry = 7 := rfl
 simp only [hszr] at hsl hrm
 generalize fromA L ln f 7 = L7 at hsl hrm
 have hlm : ((l.drop f).take (s - f)).length = s - f := by rw [List.length_take, List.length_drop]; omega
 obtain ⟨m, hm⟩ : ∃ m, m = (l.drop f).take (s - f) := ⟨_, rfl⟩
 rw [← hm] at hrm hlm
 obtain ⟨v3, w3, hrun, hown3, hg3⟩ := app_at el_ent (own_made (e := 44) (α := Entry) w1 w1.heap.size (Nat.le_refl _)) hrm (by rw [hlm]; simp; omega) (by rw [alloc_sz]; omega)
 have hB3 := (own_made (e := 44) (α := Entry) w1 w1.heap.size (Nat.le_refl _)).over (HE1.out.alloc HE1.out.size (.cells #[] 44)) hg3 HE1.out.size (by rw [alloc_sz]; have := HE1.out.size; omega)
 rw [List.nil_append] at hown3
 rw [hlm] at hrun
 have hin2 : ∀ e ∈ m, e ∈ l := fun e he => by rw [hm] at he; exact List.mem_of_mem_drop (List.mem_of_mem_take he)
 have hml : m.length ≤ l.length := by omega
 obtain ⟨N, n', rfl, -⟩ := hown3.rd
 have HO := Lib.hid hown3.rdT; have HB := Lib.hid hB3; have HI := Lib.hid hin2
 clear hm hown3 hg3 hB3 hrm hin2 HNO
 go_wp2_with (at_builtin; refine wpList_append_run rfl _ _ _ rfl rfl rfl hrun ?_)
 go_ret
 exact ⟨N, n', m, by rw [hlm]; rfl, HO.out, HI.out, hml, HB.out⟩
end Go.Proofs.YtjhbbgeebobcpaaDoor
