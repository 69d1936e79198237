/- Walks of the reference: how many entries of somebody there are; what a log is. Walks of the reference: the outline at the beginning, behind entries, of a log. -/
import Derived.Test.YtikcnbkoeglecaaDoorQL
import Derived.Deep.RegionHeld3
import Derived.Test.YtikcnbkoeglecaaDoorQO
namespace Go.Proofs.YtikcnbkoeglecaaDoor
open Go.RowKit
set_option linter.unusedVariables false

set_option maxRecDepth 100000 in
set_option maxHeartbeats 1000000 in
theorem seq_s (A : Option Addr) (c : Nat) (l : List Entry) (who : Int) (w : World) (hr : Rd w A c l) :
    Calls Tryd.prog 38 #[.slice A l.length c, .int .i64 who] w fun e w' => e = .returned (.int .i64 (cntW l who)) ∧ w' = w := by
  have hm : l.length ≤ maxLen := Nat.le_trans hr.1 hr.2.1
  unfold maxLen at hm
  have HR := Lib.hid hr
  clear hr
  go_enter Tryd.func38, Tryd.ntmps38
  go_wp2_with fail
  go_loop [5, 6] (fun n i => ∃ k : Nat, k ≤ l.length ∧ i = .int .i64 k ∧ n = .int .i64 (cntW (l.take k) who)) (fun _ i => l.length - (intOf i).toNat)
  case atStart => exact ⟨0, Nat.zero_le _, rfl, by simp [cntW]⟩
  case round =>
    obtain ⟨k, hk, rfl, rfl⟩ := hrel
    have hcl := cntW_le (l.take k) who
    rw [List.length_take] at hcl
    by_cases hlt : k < l.length
    · obtain ⟨b, off, rfl, hbl, c0, c1, c2, c3, c4, c5, c6⟩ := ent_at HR.out k hlt
      have HN := Lib.hid (cntW_take l k hlt who)
      by_cases he : l[k].who = who
      · have he' : (l[k].who == who) = true := by simp [he]
        have HN2 : Hid (cntW (l.take (k + 1)) who = cntW (l.take k) who + 1) := by show _ = _; rw [HN.out, if_pos he]
        clear he c1 c2 c3 c4 c5 c6
        go_wp2_with fail
        go_round
        case rel => exact ⟨k + 1, by omega, by go_num, by rw [HN2.out]; go_num⟩
        case measure => simp [intOf]; omega
      · have he' : (l[k].who == who) = false := by simp [he]
        have HN2 : Hid (cntW (l.take (k + 1)) who = cntW (l.take k) who) := by show _ = _; rw [HN.out, if_neg he]; rfl
        clear he c1 c2 c3 c4 c5 c6
        go_wp2_with fail
        go_round
        case rel => exact ⟨k + 1, by omega, by go_num, by rw [HN2.out]⟩
        case measure => simp [intOf]; omega
    · have hkl : k = l.length := by omega
      have HX : Hid (cntW (l.take k) who = cntW l who) := by show _ = _; rw [hkl, List.take_length]
      clear hkl
      go_wp2_with fail
      go_ret
      exact ⟨by rw [← HX.out]; rfl, rfl⟩

set_option maxRecDepth 100000 in
set_option maxHeartbeats 4000000 in
theorem logOk_s (A : Option Addr) (c : Nat) (l : List Entry) (w : World) (hr : Rd w A c l) (hW : ∀ e ∈ l, OpW e.op) :
    Calls Tryd.prog 10 #[.slice A l.length c] w fun x w' => x = .returned (.bool (logOk l)) ∧ Ext w w' := by
  have hm : l.length ≤ maxLen := Nat.le_trans hr.1 hr.2.1
  unfold maxLen at hm
  have hcap := hr.1
  have HR := Lib.hid hr; have HW := Lib.hid hW
  clear hr hW
  go_enter Tryd.func10, Tryd.ntmps10
  go_wp2_with fail
  go_loopg [3] l.length (fun gk i wr => ∃ k : Nat, k ≤ l.length ∧ Hid (gk = l.length - k) ∧ i = .int .i64 k ∧ Hid (∀ j, j < k → goodAt l j = true) ∧ Hid (Ext w wr))
  case atStart => exact ⟨0, Nat.zero_le _, rfl, rfl, fun _ h => by omega, Below.refl _ _⟩
  case round =>
    obtain ⟨k, hk, HK, rfl, HG, HB⟩ := hrel
    by_cases hlt : k < l.length
    · have hRr := HR.out.ext HB.out
      obtain ⟨b, off, rfl, hbl, c0, c1, c2, c3, c4, c5, c6⟩ := ent_at hRr k hlt
      have hE := entryOk_s l[k] wr.drew (HR.out.okAt k hlt) (HW.out _ (List.getElem_mem hlt))
      simp only [Entry.val] at hE
      have HG1 := Lib.hid (goodAt_lt l k hlt)
      have HRr := Lib.hid hRr
      have hkc : k ≤ c := by omega
      have hlt' : (k : Int) < l.length := by omega
      have hlk : (l.take k).length = k := by rw [List.length_take]; omega
      have hsq := fun (W : World) (h : Rd W (some ⟨b, off, none⟩) c l) => seq_s (some ⟨b, off, none⟩) c (l.take k) l[k].who W (h.take k)
      simp only [hlk] at hsq
      have HSQ := Lib.hid hsq
      have hcl := cntW_le (l.take k) l[k].who
      rw [hlk] at hcl
      have hq0 : IntKind.i64.wrap ((cntW (l.take k) l[k].who : Int) + 1) = (cntW (l.take k) l[k].who : Int) + 1 := by rw [IntKind.wrap_i64]; omega
      clear hRr hsq hlk
      cases hok : entryOk l[k]
      · rw [hok] at hE HG1
        have HE := Lib.hid hE
        clear hE hok
        go_wp2_with fail
        refine wp_region_any (by kernel_rfl) ?_
        change wpAny _ _ _ _ _ _ _ (World.drew _)
        refine wpAny_take (i := 0) (v := ?_) rfl (by kernel_rfl) (by kernel_rfl) (by kernel_rfl) (fun _ _ _ h => h) (Or.inl ⟨by rfl, ?_⟩) ?_
        rotate_left
        · (intro w; go_simp; try with_reducible rfl)
        refine wpAny_take (i := 1) (v := ?_) rfl (by kernel_rfl) (by kernel_rfl) (by kernel_rfl) (fun _ _ _ h => h) (Or.inl ⟨by rfl, ?_⟩) ?_
        rotate_left
        · (intro w; go_simp; try with_reducible rfl)
        refine wpAny_take (i := 2) (v := ?_) rfl (by kernel_rfl) (by kernel_rfl) (by kernel_rfl) (fun _ _ _ h => h) (Or.inl ⟨by rfl, ?_⟩) ?_
        rotate_left
        · (intro w; go_simp; try with_reducible rfl)
        refine wpAny_ready (rs := [3]) (by kernel_rfl) (by simp) ?_
        refine AllReady.cons rfl (fun K hK => ?_) AllReady.nil
        go_simp
        refine hK _ _ ?_; clear hK K
        refine wpAny_ready (rs := [4]) (by kernel_rfl) (by simp) ?_
        refine AllReady.cons rfl (fun K hK => ?_) AllReady.nil
        go_simp
        go_wp2_with (go_at_call 37; refine HE.out.mono ?_; rintro e w1 ⟨rfl, hb1⟩; obtain ⟨hc1, hf1⟩ := bcell hb1; have HB1 := Lib.hid hb1)
        refine wpAny_ready (rs := [5]) (by kernel_rfl) (by simp) ?_
        refine AllReady.cons rfl (fun K hK => ?_) AllReady.nil
        go_simp
        refine hK _ _ ?_; clear hK K
        refine wpAny_ready (rs := [6]) (by kernel_rfl) (by simp) ?_
        refine AllReady.cons rfl (fun K hK => ?_) AllReady.nil
        go_simp
        refine hK _ _ ?_; clear hK K
        refine any_skip 7 rfl (by kernel_rfl) (by kernel_rfl) (by kernel_rfl) (fun _ _ _ h => h) (by kernel_rfl) ?_
        refine any_skip 8 rfl (by kernel_rfl) (by kernel_rfl) (by kernel_rfl) (fun _ _ _ h => h) (by kernel_rfl) ?_
        refine any_skip 9 rfl (by kernel_rfl) (by kernel_rfl) (by kernel_rfl) (fun _ _ _ h => h) (by kernel_rfl) ?_
        refine any_skip 10 rfl (by kernel_rfl) (by kernel_rfl) (by kernel_rfl) (fun _ _ _ h => h) (by kernel_rfl) ?_
        refine any_skip 11 rfl (by kernel_rfl) (by kernel_rfl) (by kernel_rfl) (fun _ _ _ h => h) (by kernel_rfl) ?_
        refine any_skip 12 rfl (by kernel_rfl) (by kernel_rfl) (by kernel_rfl) (fun _ _ _ h => h) (by kernel_rfl) ?_
        refine any_skip 13 rfl (by kernel_rfl) (by kernel_rfl) (by kernel_rfl) (fun _ _ _ h => h) (by kernel_rfl) ?_
        refine any_skip 14 rfl (by kernel_rfl) (by kernel_rfl) (by kernel_rfl) (fun _ _ _ h => h) (by kernel_rfl) ?_
        refine any_skip 15 rfl (by kernel_rfl) (by kernel_rfl) (by kernel_rfl) (fun _ _ _ h => h) (by kernel_rfl) ?_
        refine any_skip 16 rfl (by kernel_rfl) (by kernel_rfl) (by kernel_rfl) (fun _ _ _ h => h) (by kernel_rfl) ?_
        refine any_skip 17 rfl (by kernel_rfl) (by kernel_rfl) (by kernel_rfl) (fun _ _ _ h => h) (by kernel_rfl) ?_
        refine any_skip 18 rfl (by kernel_rfl) (by kernel_rfl) (by kernel_rfl) (fun _ _ _ h => h) (by kernel_rfl) ?_
        refine any_skip 19 rfl (by kernel_rfl) (by kernel_rfl) (by kernel_rfl) (fun _ _ _ h => h) (by kernel_rfl) ?_
        refine any_skip 20 rfl (by kernel_rfl) (by kernel_rfl) (by kernel_rfl) (fun _ _ _ h => h) (by kernel_rfl) ?_
        refine any_skip 21 rfl (by kernel_rfl) (by kernel_rfl) (by kernel_rfl) (fun _ _ _ h => h) (by kernel_rfl) ?_
        refine any_skip 22 rfl (by kernel_rfl) (by kernel_rfl) (by kernel_rfl) (fun _ _ _ h => h) (by kernel_rfl) ?_
        refine wpAny_ready (rs := [23]) (by kernel_rfl) (by simp) ?_
        refine AllReady.cons rfl (fun K hK => ?_) AllReady.nil
        go_simp
        refine hK _ _ ?_; clear hK K
        refine wpAny_done (by kernel_rfl) ?_ _
        go_wp2_with fail
        go_ret
        exact ⟨by rw [logOk_false l k hlt HG1.out]; rfl, HB.out.trans ((Ext.drewN (Below.refl _ _) 1).trans (HB1.out.mono HB.out.size))⟩
      · rw [hok] at hE HG1
        have HE := Lib.hid hE
        clear hE hok
        have hq : (l[k].seq != (cntW (l.take k) l[k].who : Int) + 1) = true ∨ (l[k].seq != (cntW (l.take k) l[k].who : Int) + 1) = false := by cases (l[k].seq != (cntW (l.take k) l[k].who : Int) + 1) <;> simp
        go_wp2_with fail
        have E0 : wr.drew.cell? ⟨b, off + k * 7, none⟩ = some (.int .i64 l[k].who) ∧ wr.drew.cell? ⟨b, off + k * 7 + 1, none⟩ = some (.int .i64 l[k].seq) ∧ wr.drew.cell? ⟨b, off + k * 7 + 2, none⟩ = some (.int .i64 l[k].op.kind) ∧ wr.drew.cell? ⟨b, off + k * 7 + 3, none⟩ = some (.int .i64 l[k].op.id) ∧ wr.drew.cell? ⟨b, off + k * 7 + 4, none⟩ = some (.int .i64 l[k].op.up) ∧ wr.drew.cell? ⟨b, off + k * 7 + 5, none⟩ = some (.int .i64 l[k].op.pos) ∧ wr.drew.cell? ⟨b, off + k * 7 + 6, none⟩ = some (.string l[k].op.text) ∧ Hid (Rd wr.drew (some ⟨b, off, none⟩) c l) := ⟨c0, c1, c2, c3, c4, c5, c6, HRr.out⟩
        rcases hq with hq | hq
        all_goals
          go_region_held3 (fun w' => w'.cell? ⟨b, off + k * 7, none⟩ = some (.int .i64 l[k].who) ∧ w'.cell? ⟨b, off + k * 7 + 1, none⟩ = some (.int .i64 l[k].seq) ∧ w'.cell? ⟨b, off + k * 7 + 2, none⟩ = some (.int .i64 l[k].op.kind) ∧ w'.cell? ⟨b, off + k * 7 + 3, none⟩ = some (.int .i64 l[k].op.id) ∧ w'.cell? ⟨b, off + k * 7 + 4, none⟩ = some (.int .i64 l[k].op.up) ∧ w'.cell? ⟨b, off + k * 7 + 5, none⟩ = some (.int .i64 l[k].op.pos) ∧ w'.cell? ⟨b, off + k * 7 + 6, none⟩ = some (.string l[k].op.text) ∧ Hid (Rd w' (some ⟨b, off, none⟩) c l))
            (first | exact E1 | exact E0 | go_keep)
            (first
              | (go_at_call 37; refine HE.out.mono ?_; rintro e w1 ⟨rfl, hb1⟩; obtain ⟨hc1, hf1⟩ := bcell hb1
                 have E1 : w1.cell? ⟨b, off + k * 7, none⟩ = some (.int .i64 l[k].who) ∧ w1.cell? ⟨b, off + k * 7 + 1, none⟩ = some (.int .i64 l[k].seq) ∧ w1.cell? ⟨b, off + k * 7 + 2, none⟩ = some (.int .i64 l[k].op.kind) ∧ w1.cell? ⟨b, off + k * 7 + 3, none⟩ = some (.int .i64 l[k].op.id) ∧ w1.cell? ⟨b, off + k * 7 + 4, none⟩ = some (.int .i64 l[k].op.up) ∧ w1.cell? ⟨b, off + k * 7 + 5, none⟩ = some (.int .i64 l[k].op.pos) ∧ w1.cell? ⟨b, off + k * 7 + 6, none⟩ = some (.string l[k].op.text) ∧ Hid (Rd w1 (some ⟨b, off, none⟩) c l) :=
                   ⟨(hc1 _ _ hbl).trans c0, (hc1 _ _ hbl).trans c1, (hc1 _ _ hbl).trans c2, (hc1 _ _ hbl).trans c3, (hc1 _ _ hbl).trans c4, (hc1 _ _ hbl).trans c5, (hc1 _ _ hbl).trans c6, (HRr.out.drewN 1).ext hb1⟩
                 have HB1 := Lib.hid hb1; clear hc1 hf1 hb1)
              | (go_at_call 38; refine (HSQ.out _ E1.2.2.2.2.2.2.2.out).mono ?_; rintro e w2 ⟨rfl, hw2⟩; rw [hw2]; clear hw2))
        · have HQ := Lib.hid hq; clear hq
          have hg : goodAt l k = false := by
            have h9 := HQ.out
            rw [HG1.out]; simp at h9; simp [h9]
          have HX := Lib.hid (logOk_false l k hlt hg)
          clear hg
          go_wp2_with fail
          go_ret
          exact ⟨by rw [HX.out]; rfl, HB.out.trans ((Ext.drewN (Below.refl _ _) 1).trans (HB1.out.mono HB.out.size))⟩
        · have HQ := Lib.hid hq; clear hq
          have hg : goodAt l k = true := by
            have h9 := HQ.out
            rw [HG1.out]; simp at h9; simp [h9]
          have HX : Hid (goodAt l k = true) := hg
          clear hg
          go_wp2_with fail
          go_roundg (l.length - (k + 1))
          case measure => have := HK.out; omega
          case rel =>
            refine ⟨k + 1, by omega, rfl, by go_num, fun j hj => ?_, HB.out.trans ((Ext.drewN (Below.refl _ _) 1).trans (HB1.out.mono HB.out.size))⟩
            by_cases hjk : j = k
            · rw [hjk]; exact HX.out
            · exact HG.out j (by omega)
    · have hkl : k = l.length := by omega
      have HKL := Lib.hid hkl
      by_cases h40 : l.length ≤ 40
      · have HX : Hid (logOk l = true) := logOk_true l h40 (fun j hj => HG.out j (by omega))
        clear hkl
        go_wp2_with fail
        go_ret
        exact ⟨by rw [HX.out]; simp; omega, HB.out⟩
      · have HX : Hid (logOk l = false) := by show _ = _; unfold logOk; simp; omega
        clear hkl
        go_wp2_with fail
        go_ret
        exact ⟨by rw [HX.out]; simp; omega, HB.out⟩
end Go.Proofs.YtikcnbkoeglecaaDoor
namespace Go.Proofs.YtikcnbkoeglecaaDoor
open Go.RowKit
set_option linter.unusedVariables false

def treeFrom (t : List Row) (l : List Entry) : List Row := l.foldl (fun t e => doL t e.op) t
theorem treeFrom_take (t : List Row) (l : List Entry) (k : Nat) (hk : k < l.length) : treeFrom t (l.take (k + 1)) = doL (treeFrom t (l.take k)) l[k].op := by
  unfold treeFrom; rw [List.take_succ_eq_append_getElem hk, List.foldl_append]; rfl
theorem treeFrom_ok {l : List Entry} : ∀ {t : List Row}, treeOk t = true → (∀ e ∈ l, opOk e.op = true) → treeOk (treeFrom t l) = true := by
  induction l with
  | nil => intro t h _; exact h
  | cons e l ih =>
    intro t h hl
    exact ih (treeOk_do t e.op h (hl e List.mem_cons_self)) (fun e' he => hl e' (List.mem_cons_of_mem _ he))
theorem treeFrom_op {l : List Entry} : ∀ {t : List Row}, treeOk t = true → (∀ e ∈ l, opOk e.op = true) → l.foldl (fun t e => opDo t e.op) t = treeFrom t l := by
  induction l with
  | nil => intro t h _; rfl
  | cons e l ih =>
    intro t h hl
    have ho := hl e List.mem_cons_self
    have e1 : opDo t e.op = doL t e.op := by unfold opDo; rw [h, ho]; rfl
    show l.foldl _ (opDo t e.op) = l.foldl _ (doL t e.op)
    rw [e1]
    exact ih (treeOk_do t e.op h ho) (fun e' he => hl e' (List.mem_cons_of_mem _ he))
theorem treeOf_from {l : List Entry} (h : ∀ e ∈ l, opOk e.op = true) : treeOf l = treeFrom treeNew l := treeFrom_op treeOk_new h

set_option maxRecDepth 100000 in
theorem new_s (w : World) : Calls Tryd.prog 36 #[] w fun e w' => ∃ v, e = .returned v ∧ Own 61 w' w.heap.size v treeNew ∧ Ext w w' := by
  go_enter Tryd.func36, Tryd.ntmps36
  go_wp2
  go_ret
  refine ⟨_, rfl, ⟨⟨rfl, .inr ⟨w.heap.size, 3, _, rfl, Nat.le_refl _, World.alloc_heap_new w _, Nat.le_refl _, by decide, rfl, rfl⟩⟩, ?_⟩, (Below.refl _ w).alloc (Nat.le_refl _) _⟩
  intro r hr
  simp only [treeNew, List.mem_cons, List.not_mem_nil, or_false] at hr
  rcases hr with rfl | rfl | rfl <;> exact Nat.zero_le _

set_option maxRecDepth 100000 in
set_option maxHeartbeats 2000000 in
theorem tree_s (A : Option Addr) (c : Nat) (t : List Row) (A' : Option Addr) (c' : Nat) (l : List Entry) (w : World) (hr : Rd w A c t) (hr' : Rd w A' c' l) (ht : treeOk t = true) (ho : ∀ e ∈ l, opOk e.op = true) :
    Calls Tryd.prog 35 #[.slice A t.length c, .slice A' l.length c'] w fun e w' => ∃ v, e = .returned v ∧ Own 61 w' w.heap.size v (treeFrom t l) ∧ Ext w w' := by
  have hm : l.length ≤ maxLen := Nat.le_trans hr'.1 hr'.2.1
  unfold maxLen at hm
  have HR := Lib.hid hr; have HR' := Lib.hid hr'; have HT := Lib.hid ht; have HO := Lib.hid ho
  clear hr hr' ht ho
  go_enter Tryd.func35, Tryd.ntmps35
  go_wp2_with fail
  go_loopg [0, 5] l.length (fun gk v i wr => ∃ (k : Nat) (A2 : Option Addr) (c2 : Nat), k ≤ l.length ∧ Hid (gk = l.length - k) ∧ i = .int .i64 k ∧ v = .slice A2 (treeFrom t (l.take k)).length c2 ∧ Hid (Rd wr A2 c2 (treeFrom t (l.take k))) ∧ Hid (Ext w wr))
  case atStart => exact ⟨0, A, c, Nat.zero_le _, rfl, rfl, rfl, HR.out, Below.refl _ _⟩
  case round =>
    obtain ⟨k, A2, c2, hk, HK, rfl, rfl, HQ, HW⟩ := hrel
    have hok : treeOk (treeFrom t (l.take k)) = true := treeFrom_ok HT.out (fun e he => HO.out e (List.mem_of_mem_take he))
    have HOK := Lib.hid hok
    have HN := Lib.hid (fun hk => treeFrom_take t l k hk)
    have hlast : k = l.length → treeFrom t (l.take k) = treeFrom t l := fun e => by rw [e, List.take_length]
    have HL := Lib.hid hlast
    clear hok hlast
    generalize treeFrom t (l.take k) = tk at HQ HOK HN HL ⊢
    by_cases hlt : k < l.length
    · obtain ⟨b, off, rfl, hbl, c0, c1, c2', c3, c4, c5, c6⟩ := ent_at (HR'.out.ext HW.out) k hlt
      have hC := do_s A2 c2 tk l[k].op wr HQ.out HOK.out (HO.out _ (List.getElem_mem hlt)) (HR'.out.okAt k hlt)
      have HC := Lib.hid hC
      have HN2 := Lib.hid (HN.out hlt)
      clear hC c0 c1
      go_wp2_with fail
      refine HC.out.mono ?_; rintro e w3 ⟨v3, rfl, hown3, hb3⟩
      obtain ⟨A3, c3', rfl, hr3⟩ := hown3.rd
      have HR3 := Lib.hid hr3; have HB3 := Lib.hid (HW.out.trans (hb3.mono HW.out.size))
      clear hown3 hr3 hb3 HC
      go_wp2_with fail
      go_roundg (l.length - (k + 1))
      case measure => have := HK.out; omega
      case rel => exact ⟨k + 1, A3, c3', by omega, rfl, by go_num, by rw [HN2.out], by show Rd _ _ _ _; rw [HN2.out]; exact HR3.out, HB3.out⟩
    · have hkl : k = l.length := by omega
      have HE := Lib.hid (HL.out hkl)
      have hs := HW.out.size
      have hlt0 := treeOk_len HOK.out
      obtain ⟨v3, w3, hrun, hown3, hg3⟩ := app_at el_row (own_made (e := 61) (α := Row) wr w.heap.size hs) (HQ.out.alloc (.cells #[] 61)) (by simp; omega) (by rw [alloc_sz]; omega)
      have hB3 := (own_made (e := 61) (α := Row) wr w.heap.size hs).over (HW.out.alloc hs (.cells #[] 61)) hg3 (Nat.le_refl _) (by rw [alloc_sz]; omega)
      rw [List.nil_append] at hown3
      have HO3 := Lib.hid hown3; have HB3 := Lib.hid hB3
      clear hown3 hg3 hB3 hkl
      go_wp2_with (at_builtin; refine wpList_append_run rfl _ _ _ rfl rfl rfl hrun ?_)
      go_ret
      exact ⟨_, rfl, by rw [← HE.out]; exact HO3.out, HB3.out⟩

theorem logOk_ent {l : List Entry} (h : logOk l = true) : ∀ e ∈ l, entryOk e = true := fun e he => by
  obtain ⟨k, hk, rfl⟩ := List.getElem_of_mem he
  exact logOk_at h k hk
set_option maxRecDepth 100000 in
theorem logTree_s (A : Option Addr) (c : Nat) (l : List Entry) (w : World) (hr : Rd w A c l) (hW : ∀ e ∈ l, OpW e.op) :
    Calls Tryd.prog 9 #[.slice A l.length c] w fun e w' => ∃ v, e = .returned v ∧ Own 61 w' w.heap.size v (logTree l) ∧ Ext w w' := by
  have hL := logOk_s A c l w hr hW
  cases hok : logOk l
  · rw [hok] at hL
    have HL := Lib.hid hL
    have HX : Hid (logTree l = []) := by show _ = _; unfold logTree; rw [hok]; rfl
    clear hL hok hr hW
    go_enter Tryd.func9, Tryd.ntmps9
    go_wp2_with fail
    refine HL.out.mono ?_; rintro e w1 ⟨rfl, hb⟩
    have HB := Lib.hid hb
    clear hb
    go_wp2_with fail
    go_ret
    exact ⟨_, rfl, by rw [HX.out]; exact own_made w1 w.heap.size HB.out.size, HB.out.alloc HB.out.size _⟩
  · rw [hok] at hL
    have HL := Lib.hid hL
    have hop : ∀ e ∈ l, opOk e.op = true := fun e he => entryOk_op (logOk_ent hok e he)
    have HOP := Lib.hid hop
    have HX : Hid (logTree l = treeFrom treeNew l) := by show _ = _; unfold logTree; rw [hok]; exact treeOf_from hop
    have HR := Lib.hid hr
    clear hL hok hr hW hop
    go_enter Tryd.func9, Tryd.ntmps9
    go_wp2_with fail
    refine HL.out.mono ?_; rintro e w1 ⟨rfl, hb⟩
    have HB := Lib.hid hb
    clear hb
    go_wp2_with fail
    refine (new_s w1).mono ?_; rintro e w2 ⟨v2, rfl, hown2, hb2⟩
    obtain ⟨A2, c2, rfl, hr2⟩ := hown2.rd
    have HB2 := Lib.hid (HB.out.trans (hb2.mono HB.out.size))
    have HR2 := Lib.hid hr2
    clear hown2 hb2 hr2
    generalize hT : treeNew = T0 at HR2 HX ⊢
    have HT0 := Lib.hid hT
    clear hT
    go_wp2_with fail
    refine (tree_s A2 c2 T0 A c l w2 HR2.out (HR.out.ext HB2.out) (by rw [← HT0.out]; exact treeOk_new) HOP.out).mono ?_
    rintro e w3 ⟨v3, rfl, hown3, hb3⟩
    have HO3 := Lib.hid (hown3.lower HB2.out.size); have HB3 := Lib.hid (HB2.out.trans (hb3.mono HB2.out.size))
    clear hown3 hb3
    go_wp2_with fail
    go_ret
    exact ⟨_, rfl, by rw [HX.out]; exact HO3.out, HB3.out⟩
end Go.Proofs.YtikcnbkoeglecaaDoor
