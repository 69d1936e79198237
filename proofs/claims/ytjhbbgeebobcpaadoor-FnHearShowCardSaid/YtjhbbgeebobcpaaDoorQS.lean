/- Walks of the reference: how many entries of somebody there are; what a log is. Walks of the reference: the outline at the beginning, behind entries, of a log. What a client shows: the program's. Three blocks that are made one behind the other. -/
import Derived.Test.YtjhbbgeebobcpaaDoorQN
import Derived.Test.YtjhbbgeebobcpaaDoorQQ
import Derived.Deep.RegionHeld3
import Derived.Test.YtjhbbgeebobcpaaDoorQR
import Derived.Test.YtjhbbgeebobcpaaDoorQM
import Derived.Test.YtjhbbgeebobcpaaDoorQP
namespace Go.Proofs.YtjhbbgeebobcpaaDoor
open Go.RowKit
set_option linter.unusedVariables false

set_option maxRecDepth 100000 in
set_option maxHeartbeats 1000000 in
theorem seq_s (A : Option Addr) (c : Nat) (l : List Entry) (who : Int) (w : World) (hr : Rd w A c l) :
    Calls Tryd.prog 43 #[.slice A l.length c, .int .i64 who] w fun e w' => e = .returned (.int .i64 (cntW l who)) ∧ w' = w := by
  have hm : l.length ≤ maxLen := Nat.le_trans hr.1 hr.2.1
  unfold maxLen at hm
  have HR := Lib.hid hr
  clear hr
  go_enter Tryd.func43, Tryd.ntmps43
  go_wp2_with fail
  go_loop [5, 6] (fun n i => ∃ k : Nat, k ≤ l.length ∧ i = .int .i64 k ∧ n = .int .i64 (cntW (l.take k) who)) (fun _ i => l.length - (intOf i).toNat)
  case atStart => exact ⟨0, Nat.zero_le _, rfl, by simp [cntW]⟩
  case round =>
    obtain ⟨k, hk, rfl, rfl⟩ := hrel
    have hcl := cntW_le (l.take k) who
    rw [List.length_take] at hcl
    by_cases hlt : k < l.length
    · obtain ⟨b, off, rfl, hbl, c0, c1, c2, c3, c4, c5, c6⟩ := ent_at HR.out k hlt
      have HN := Lib.hid (cntW_take l k hlt who)
      by_cases he : l[k].who = who
      · have he' : (l[k].who == who) = true := by simp [he]
        have HN2 : Hid (cntW (l.take (k + 1)) who = cntW (l.take k) who + 1) := by show _ = _; rw [HN.out, if_pos he]
        clear he c1 c2 c3 c4 c5 c6
        go_wp2_with fail
        go_round
        case rel => exact ⟨k + 1, by omega, by go_num, by rw [HN2.out]; go_num⟩
        case measure => simp [intOf]; omega
      · have he' : (l[k].who == who) = false := by simp [he]
        have HN2 : Hid (cntW (l.take (k + 1)) who = cntW (l.take k) who) := by show _ = _; rw [HN.out, if_neg he]; rfl
        clear he c1 c2 c3 c4 c5 c6
        go_wp2_with fail
        go_round
        case rel => exact ⟨k + 1, by omega, by go_num, by rw [HN2.out]⟩
        case measure => simp [intOf]; omega
    · have hkl : k = l.length := by omega
      have HX : Hid (cntW (l.take k) who = cntW l who) := by show _ = _; rw [hkl, List.take_length]
      clear hkl
      go_wp2_with fail
      go_ret
      exact ⟨by rw [← HX.out]; rfl, rfl⟩

set_option maxRecDepth 100000 in
set_option maxHeartbeats 4000000 in
theorem logOk_s (A : Option Addr) (c : Nat) (l : List Entry) (w : World) (hr : Rd w A c l) (hW : ∀ e ∈ l, OpW e.op) :
    Calls Tryd.prog 16 #[.slice A l.length c] w fun x w' => x = .returned (.bool (logOk l)) ∧ Ext w w' := by
  have hm : l.length ≤ maxLen := Nat.le_trans hr.1 hr.2.1
  unfold maxLen at hm
  have hcap := hr.1
  have HR := Lib.hid hr; have HW := Lib.hid hW
  clear hr hW
  go_enter Tryd.func16, Tryd.ntmps16
  go_wp2_with fail
  go_loopg [3] l.length (fun gk i wr => ∃ k : Nat, k ≤ l.length ∧ Hid (gk = l.length - k) ∧ i = .int .i64 k ∧ Hid (∀ j, j < k → goodAt l j = true) ∧ Hid (Ext w wr))
  case atStart => exact ⟨0, Nat.zero_le _, rfl, rfl, fun _ h => by omega, Below.refl _ _⟩
  case round =>
    obtain ⟨k, hk, HK, rfl, HG, HB⟩ := hrel
    by_cases hlt : k < l.length
    · have hRr := HR.out.ext HB.out
      obtain ⟨b, off, rfl, hbl, c0, c1, c2, c3, c4, c5, c6⟩ := ent_at hRr k hlt
      have hE := entryOk_s l[k] wr.drew (HR.out.okAt k hlt) (HW.out _ (List.getElem_mem hlt))
      simp only [Entry.val] at hE
      have HG1 := Lib.hid (goodAt_lt l k hlt)
      have HRr := Lib.hid hRr
      have hkc : k ≤ c := by omega
      have hlt' : (k : Int) < l.length := by omega
      have hlk : (l.take k).length = k := by rw [List.length_take]; omega
      have hsq := fun (W : World) (h : Rd W (some ⟨b, off, none⟩) c l) => seq_s (some ⟨b, off, none⟩) c (l.take k) l[k].who W (h.take k)
      simp only [hlk] at hsq
      have HSQ := Lib.hid hsq
      have hcl := cntW_le (l.take k) l[k].who
      rw [hlk] at hcl
      have hq0 : IntKind.i64.wrap ((cntW (l.take k) l[k].who : Int) + 1) = (cntW (l.take k) l[k].who : Int) + 1 := by rw [IntKind.wrap_i64]; omega
      clear hRr hsq hlk
      cases hok : entryOk l[k]
      · rw [hok] at hE HG1
        have HE := Lib.hid hE
        clear hE hok
        go_wp2_with fail
        refine wp_region_any (by kernel_rfl) ?_
        change wpAny _ _ _ _ _ _ _ (World.drew _)
        refine wpAny_take (i := 0) (v := ?_) rfl (by kernel_rfl) (by kernel_rfl) (by kernel_rfl) (fun _ _ _ h => h) (Or.inl ⟨by rfl, ?_⟩) ?_
        rotate_left
        · (intro w; go_simp; try with_reducible rfl)
        refine wpAny_take (i := 1) (v := ?_) rfl (by kernel_rfl) (by kernel_rfl) (by kernel_rfl) (fun _ _ _ h => h) (Or.inl ⟨by rfl, ?_⟩) ?_
        rotate_left
        · (intro w; go_simp; try with_reducible rfl)
        refine wpAny_take (i := 2) (v := ?_) rfl (by kernel_rfl) (by kernel_rfl) (by kernel_rfl) (fun _ _ _ h => h) (Or.inl ⟨by rfl, ?_⟩) ?_
        rotate_left
        · (intro w; go_simp; try with_reducible rfl)
        refine wpAny_ready (rs := [3]) (by kernel_rfl) (by simp) ?_
        refine AllReady.cons rfl (fun K hK => ?_) AllReady.nil
        go_simp
        refine hK _ _ ?_; clear hK K
        refine wpAny_ready (rs := [4]) (by kernel_rfl) (by simp) ?_
        refine AllReady.cons rfl (fun K hK => ?_) AllReady.nil
        go_simp
        go_wp2_with (go_at_call 42; refine HE.out.mono ?_; rintro e w1 ⟨rfl, hb1⟩; obtain ⟨hc1, hf1⟩ := bcell hb1; have HB1 := Lib.hid hb1)
        refine wpAny_ready (rs := [5]) (by kernel_rfl) (by simp) ?_
        refine AllReady.cons rfl (fun K hK => ?_) AllReady.nil
        go_simp
        refine hK _ _ ?_; clear hK K
        refine wpAny_ready (rs := [6]) (by kernel_rfl) (by simp) ?_
        refine AllReady.cons rfl (fun K hK => ?_) AllReady.nil
        go_simp
        refine hK _ _ ?_; clear hK K
        refine any_skip 7 rfl (by kernel_rfl) (by kernel_rfl) (by kernel_rfl) (fun _ _ _ h => h) (by kernel_rfl) ?_
        refine any_skip 8 rfl (by kernel_rfl) (by kernel_rfl) (by kernel_rfl) (fun _ _ _ h => h) (by kernel_rfl) ?_
        refine any_skip 9 rfl (by kernel_rfl) (by kernel_rfl) (by kernel_rfl) (fun _ _ _ h => h) (by kernel_rfl) ?_
        refine any_skip 10 rfl (by kernel_rfl) (by kernel_rfl) (by kernel_rfl) (fun _ _ _ h => h) (by kernel_rfl) ?_
        refine any_skip 11 rfl (by kernel_rfl) (by kernel_rfl) (by kernel_rfl) (fun _ _ _ h => h) (by kernel_rfl) ?_
        refine any_skip 12 rfl (by kernel_rfl) (by kernel_rfl) (by kernel_rfl) (fun _ _ _ h => h) (by kernel_rfl) ?_
        refine any_skip 13 rfl (by kernel_rfl) (by kernel_rfl) (by kernel_rfl) (fun _ _ _ h => h) (by kernel_rfl) ?_
        refine any_skip 14 rfl (by kernel_rfl) (by kernel_rfl) (by kernel_rfl) (fun _ _ _ h => h) (by kernel_rfl) ?_
        refine any_skip 15 rfl (by kernel_rfl) (by kernel_rfl) (by kernel_rfl) (fun _ _ _ h => h) (by kernel_rfl) ?_
        refine any_skip 16 rfl (by kernel_rfl) (by kernel_rfl) (by kernel_rfl) (fun _ _ _ h => h) (by kernel_rfl) ?_
        refine any_skip 17 rfl (by kernel_rfl) (by kernel_rfl) (by kernel_rfl) (fun _ _ _ h => h) (by kernel_rfl) ?_
        refine any_skip 18 rfl (by kernel_rfl) (by kernel_rfl) (by kernel_rfl) (fun _ _ _ h => h) (by kernel_rfl) ?_
        refine any_skip 19 rfl (by kernel_rfl) (by kernel_rfl) (by kernel_rfl) (fun _ _ _ h => h) (by kernel_rfl) ?_
        refine any_skip 20 rfl (by kernel_rfl) (by kernel_rfl) (by kernel_rfl) (fun _ _ _ h => h) (by kernel_rfl) ?_
        refine any_skip 21 rfl (by kernel_rfl) (by kernel_rfl) (by kernel_rfl) (fun _ _ _ h => h) (by kernel_rfl) ?_
        refine any_skip 22 rfl (by kernel_rfl) (by kernel_rfl) (by kernel_rfl) (fun _ _ _ h => h) (by kernel_rfl) ?_
        refine wpAny_ready (rs := [23]) (by kernel_rfl) (by simp) ?_
        refine AllReady.cons rfl (fun K hK => ?_) AllReady.nil
        go_simp
        refine hK _ _ ?_; clear hK K
        refine wpAny_done (by kernel_rfl) ?_ _
        go_wp2_with fail
        go_ret
        exact ⟨by rw [logOk_false l k hlt HG1.out]; rfl, HB.out.trans ((Ext.drewN (Below.refl _ _) 1).trans (HB1.out.mono HB.out.size))⟩
      · rw [hok] at hE HG1
        have HE := Lib.hid hE
        clear hE hok
        have hq : (l[k].seq != (cntW (l.take k) l[k].who : Int) + 1) = true ∨ (l[k].seq != (cntW (l.take k) l[k].who : Int) + 1) = false := by cases (l[k].seq != (cntW (l.take k) l[k].who : Int) + 1) <;> simp
        go_wp2_with fail
        have E0 : wr.drew.cell? ⟨b, off + k * 7, none⟩ = some (.int .i64 l[k].who) ∧ wr.drew.cell? ⟨b, off + k * 7 + 1, none⟩ = some (.int .i64 l[k].seq) ∧ wr.drew.cell? ⟨b, off + k * 7 + 2, none⟩ = some (.int .i64 l[k].op.kind) ∧ wr.drew.cell? ⟨b, off + k * 7 + 3, none⟩ = some (.int .i64 l[k].op.id) ∧ wr.drew.cell? ⟨b, off + k * 7 + 4, none⟩ = some (.int .i64 l[k].op.up) ∧ wr.drew.cell? ⟨b, off + k * 7 + 5, none⟩ = some (.int .i64 l[k].op.pos) ∧ wr.drew.cell? ⟨b, off + k * 7 + 6, none⟩ = some (.string l[k].op.text) ∧ Hid (Rd wr.drew (some ⟨b, off, none⟩) c l) := ⟨c0, c1, c2, c3, c4, c5, c6, HRr.out⟩
        rcases hq with hq | hq
        all_goals
          go_region_held3 (fun w' => w'.cell? ⟨b, off + k * 7, none⟩ = some (.int .i64 l[k].who) ∧ w'.cell? ⟨b, off + k * 7 + 1, none⟩ = some (.int .i64 l[k].seq) ∧ w'.cell? ⟨b, off + k * 7 + 2, none⟩ = some (.int .i64 l[k].op.kind) ∧ w'.cell? ⟨b, off + k * 7 + 3, none⟩ = some (.int .i64 l[k].op.id) ∧ w'.cell? ⟨b, off + k * 7 + 4, none⟩ = some (.int .i64 l[k].op.up) ∧ w'.cell? ⟨b, off + k * 7 + 5, none⟩ = some (.int .i64 l[k].op.pos) ∧ w'.cell? ⟨b, off + k * 7 + 6, none⟩ = some (.string l[k].op.text) ∧ Hid (Rd w' (some ⟨b, off, none⟩) c l))
            (first | exact E1 | exact E0 | go_keep)
            (first
              | (go_at_call 42; refine HE.out.mono ?_; rintro e w1 ⟨rfl, hb1⟩; obtain ⟨hc1, hf1⟩ := bcell hb1
                 have E1 : w1.cell? ⟨b, off + k * 7, none⟩ = some (.int .i64 l[k].who) ∧ w1.cell? ⟨b, off + k * 7 + 1, none⟩ = some (.int .i64 l[k].seq) ∧ w1.cell? ⟨b, off + k * 7 + 2, none⟩ = some (.int .i64 l[k].op.kind) ∧ w1.cell? ⟨b, off + k * 7 + 3, none⟩ = some (.int .i64 l[k].op.id) ∧ w1.cell? ⟨b, off + k * 7 + 4, none⟩ = some (.int .i64 l[k].op.up) ∧ w1.cell? ⟨b, off + k * 7 + 5, none⟩ = some (.int .i64 l[k].op.pos) ∧ w1.cell? ⟨b, off + k * 7 + 6, none⟩ = some (.string l[k].op.text) ∧ Hid (Rd w1 (some ⟨b, off, none⟩) c l) :=
                   ⟨(hc1 _ _ hbl).trans c0, (hc1 _ _ hbl).trans c1, (hc1 _ _ hbl).trans c2, (hc1 _ _ hbl).trans c3, (hc1 _ _ hbl).trans c4, (hc1 _ _ hbl).trans c5, (hc1 _ _ hbl).trans c6, (HRr.out.drewN 1).ext hb1⟩
                 have HB1 := Lib.hid hb1; clear hc1 hf1 hb1)
              | (go_at_call 43; refine (HSQ.out _ E1.2.2.2.2.2.2.2.out).mono ?_; rintro e w2 ⟨rfl, hw2⟩; rw [hw2]; clear hw2))
        · have HQ := Lib.hid hq; clear hq
          have hg : goodAt l k = false := by
            have h9 := HQ.out
            rw [HG1.out]; simp at h9; simp [h9]
          have HX := Lib.hid (logOk_false l k hlt hg)
          clear hg
          go_wp2_with fail
          go_ret
          exact ⟨by rw [HX.out]; rfl, HB.out.trans ((Ext.drewN (Below.refl _ _) 1).trans (HB1.out.mono HB.out.size))⟩
        · have HQ := Lib.hid hq; clear hq
          have hg : goodAt l k = true := by
            have h9 := HQ.out
            rw [HG1.out]; simp at h9; simp [h9]
          have HX : Hid (goodAt l k = true) := hg
          clear hg
          go_wp2_with fail
          go_roundg (l.length - (k + 1))
          case measure => have := HK.out; omega
          case rel =>
            refine ⟨k + 1, by omega, rfl, by go_num, fun j hj => ?_, HB.out.trans ((Ext.drewN (Below.refl _ _) 1).trans (HB1.out.mono HB.out.size))⟩
            by_cases hjk : j = k
            · rw [hjk]; exact HX.out
            · exact HG.out j (by omega)
    · have hkl : k = l.length := by omega
      have HKL := Lib.hid hkl
      by_cases h40 : l.length ≤ 40
      · have HX : Hid (logOk l = true) := logOk_true l h40 (fun j hj => HG.out j (by omega))
        clear hkl
        go_wp2_with fail
        go_ret
        exact ⟨by rw [HX.out]; simp; omega, HB.out⟩
      · have HX : Hid (logOk l = false) := by show _ = _; unfold logOk; simp; omega
        clear hkl
        go_wp2_with fail
        go_ret
        exact ⟨by rw [HX.out]; simp; omega, HB.out⟩
end Go.Proofs.YtjhbbgeebobcpaaDoor
namespace Go.Proofs.YtjhbbgeebobcpaaDoor
open Go.RowKit
set_option linter.unusedVariables false

def treeFrom (t : List Row) (l : List Entry) : List Row := l.foldl (fun t e => doL t e.op) t
theorem treeFrom_take (t : List Row) (l : List Entry) (k : Nat) (hk : k < l.length) : treeFrom t (l.take (k + 1)) = doL (treeFrom t (l.take k)) l[k].op := by
  unfold treeFrom; rw [List.take_succ_eq_append_getElem hk, List.foldl_append]; rfl
theorem treeFrom_ok {l : List Entry} : ∀ {t : List Row}, treeOk t = true → (∀ e ∈ l, opOk e.op = true) → treeOk (treeFrom t l) = true := by
  induction l with
  | nil => intro t h _; exact h
  | cons e l ih =>
    intro t h hl
    exact ih (treeOk_do t e.op h (hl e List.mem_cons_self)) (fun e' he => hl e' (List.mem_cons_of_mem _ he))
theorem treeFrom_op {l : List Entry} : ∀ {t : List Row}, treeOk t = true → (∀ e ∈ l, opOk e.op = true) → l.foldl (fun t e => opDo t e.op) t = treeFrom t l := by
  induction l with
  | nil => intro t h _; rfl
  | cons e l ih =>
    intro t h hl
    have ho := hl e List.mem_cons_self
    have e1 : opDo t e.op = doL t e.op := by unfold opDo; rw [h, ho]; rfl
    show l.foldl _ (opDo t e.op) = l.foldl _ (doL t e.op)
    rw [e1]
    exact ih (treeOk_do t e.op h ho) (fun e' he => hl e' (List.mem_cons_of_mem _ he))
theorem treeOf_from {l : List Entry} (h : ∀ e ∈ l, opOk e.op = true) : treeOf l = treeFrom treeNew l := treeFrom_op treeOk_new h

set_option maxRecDepth 100000 in
theorem new_s (w : World) : Calls Tryd.prog 41 #[] w fun e w' => ∃ v, e = .returned v ∧ Own 47 w' w.heap.size v treeNew ∧ Ext w w' := by
  go_enter Tryd.func41, Tryd.ntmps41
  go_wp2
  go_ret
  refine ⟨_, rfl, ⟨⟨rfl, .inr ⟨w.heap.size, 3, _, rfl, Nat.le_refl _, World.alloc_heap_new w _, Nat.le_refl _, by decide, rfl, rfl⟩⟩, ?_⟩, (Below.refl _ w).alloc (Nat.le_refl _) _⟩
  intro r hr
  simp only [treeNew, List.mem_cons, List.not_mem_nil, or_false] at hr
  rcases hr with rfl | rfl | rfl <;> exact Nat.zero_le _

set_option maxRecDepth 100000 in
set_option maxHeartbeats 2000000 in
theorem tree_s (A : Option Addr) (c : Nat) (t : List Row) (A' : Option Addr) (c' : Nat) (l : List Entry) (w : World) (hr : Rd w A c t) (hr' : Rd w A' c' l) (ht : treeOk t = true) (ho : ∀ e ∈ l, opOk e.op = true) :
    Calls Tryd.prog 40 #[.slice A t.length c, .slice A' l.length c'] w fun e w' => ∃ v, e = .returned v ∧ Own 47 w' w.heap.size v (treeFrom t l) ∧ Ext w w' := by
  have hm : l.length ≤ maxLen := Nat.le_trans hr'.1 hr'.2.1
  unfold maxLen at hm
  have HR := Lib.hid hr; have HR' := Lib.hid hr'; have HT := Lib.hid ht; have HO := Lib.hid ho
  clear hr hr' ht ho
  go_enter Tryd.func40, Tryd.ntmps40
  go_wp2_with fail
  go_loopg [0, 5] l.length (fun gk v i wr => ∃ (k : Nat) (A2 : Option Addr) (c2 : Nat), k ≤ l.length ∧ Hid (gk = l.length - k) ∧ i = .int .i64 k ∧ v = .slice A2 (treeFrom t (l.take k)).length c2 ∧ Hid (Rd wr A2 c2 (treeFrom t (l.take k))) ∧ Hid (Ext w wr))
  case atStart => exact ⟨0, A, c, Nat.zero_le _, rfl, rfl, rfl, HR.out, Below.refl _ _⟩
  case round =>
    obtain ⟨k, A2, c2, hk, HK, rfl, rfl, HQ, HW⟩ := hrel
    have hok : treeOk (treeFrom t (l.take k)) = true := treeFrom_ok HT.out (fun e he => HO.out e (List.mem_of_mem_take he))
    have HOK := Lib.hid hok
    have HN := Lib.hid (fun hk => treeFrom_take t l k hk)
    have hlast : k = l.length → treeFrom t (l.take k) = treeFrom t l := fun e => by rw [e, List.take_length]
    have HL := Lib.hid hlast
    clear hok hlast
    generalize treeFrom t (l.take k) = tk at HQ HOK HN HL ⊢
    by_cases hlt : k < l.length
    · obtain ⟨b, off, rfl, hbl, c0, c1, c2', c3, c4, c5, c6⟩ := ent_at (HR'.out.ext HW.out) k hlt
      have hC := do_s A2 c2 tk l[k].op wr HQ.out HOK.out (HO.out _ (List.getElem_mem hlt)) (HR'.out.okAt k hlt)
      have HC := Lib.hid hC
      have HN2 := Lib.hid (HN.out hlt)
      clear hC c0 c1
      go_wp2_with fail
      refine HC.out.mono ?_; rintro e w3 ⟨v3, rfl, hown3, hb3⟩
      obtain ⟨A3, c3', rfl, hr3⟩ := hown3.rd
      have HR3 := Lib.hid hr3; have HB3 := Lib.hid (HW.out.trans (hb3.mono HW.out.size))
      clear hown3 hr3 hb3 HC
      go_wp2_with fail
      go_roundg (l.length - (k + 1))
      case measure => have := HK.out; omega
      case rel => exact ⟨k + 1, A3, c3', by omega, rfl, by go_num, by rw [HN2.out], by show Rd _ _ _ _; rw [HN2.out]; exact HR3.out, HB3.out⟩
    · have hkl : k = l.length := by omega
      have HE := Lib.hid (HL.out hkl)
      have hs := HW.out.size
      have hlt0 := treeOk_len HOK.out
      obtain ⟨v3, w3, hrun, hown3, hg3⟩ := app_at el_row (own_made (e := 47) (α := Row) wr w.heap.size hs) (HQ.out.alloc (.cells #[] 47)) (by simp; omega) (by rw [alloc_sz]; omega)
      have hB3 := (own_made (e := 47) (α := Row) wr w.heap.size hs).over (HW.out.alloc hs (.cells #[] 47)) hg3 (Nat.le_refl _) (by rw [alloc_sz]; omega)
      rw [List.nil_append] at hown3
      have HO3 := Lib.hid hown3; have HB3 := Lib.hid hB3
      clear hown3 hg3 hB3 hkl
      go_wp2_with (at_builtin; refine wpList_append_run rfl _ _ _ rfl rfl rfl hrun ?_)
      go_ret
      exact ⟨_, rfl, by rw [← HE.out]; exact HO3.out, HB3.out⟩

theorem logOk_ent {l : List Entry} (h : logOk l = true) : ∀ e ∈ l, entryOk e = true := fun e he => by
  obtain ⟨k, hk, rfl⟩ := List.getElem_of_mem he
  exact logOk_at h k hk
set_option maxRecDepth 100000 in
theorem logTree_s (A : Option Addr) (c : Nat) (l : List Entry) (w : World) (hr : Rd w A c l) (hW : ∀ e ∈ l, OpW e.op) :
    Calls Tryd.prog 15 #[.slice A l.length c] w fun e w' => ∃ v, e = .returned v ∧ Own 47 w' w.heap.size v (logTree l) ∧ Ext w w' := by
  have hL := logOk_s A c l w hr hW
  cases hok : logOk l
  · rw [hok] at hL
    have HL := Lib.hid hL
    have HX : Hid (logTree l = []) := by show _ = _; unfold logTree; rw [hok]; rfl
    clear hL hok hr hW
    go_enter Tryd.func15, Tryd.ntmps15
    go_wp2_with fail
    refine HL.out.mono ?_; rintro e w1 ⟨rfl, hb⟩
    have HB := Lib.hid hb
    clear hb
    go_wp2_with fail
    go_ret
    exact ⟨_, rfl, by rw [HX.out]; exact own_made w1 w.heap.size HB.out.size, HB.out.alloc HB.out.size _⟩
  · rw [hok] at hL
    have HL := Lib.hid hL
    have hop : ∀ e ∈ l, opOk e.op = true := fun e he => entryOk_op (logOk_ent hok e he)
    have HOP := Lib.hid hop
    have HX : Hid (logTree l = treeFrom treeNew l) := by show _ = _; unfold logTree; rw [hok]; exact treeOf_from hop
    have HR := Lib.hid hr
    clear hL hok hr hW hop
    go_enter Tryd.func15, Tryd.ntmps15
    go_wp2_with fail
    refine HL.out.mono ?_; rintro e w1 ⟨rfl, hb⟩
    have HB := Lib.hid hb
    clear hb
    go_wp2_with fail
    refine (new_s w1).mono ?_; rintro e w2 ⟨v2, rfl, hown2, hb2⟩
    obtain ⟨A2, c2, rfl, hr2⟩ := hown2.rd
    have HB2 := Lib.hid (HB.out.trans (hb2.mono HB.out.size))
    have HR2 := Lib.hid hr2
    clear hown2 hb2 hr2
    generalize hT : treeNew = T0 at HR2 HX ⊢
    have HT0 := Lib.hid hT
    clear hT
    go_wp2_with fail
    refine (tree_s A2 c2 T0 A c l w2 HR2.out (HR.out.ext HB2.out) (by rw [← HT0.out]; exact treeOk_new) HOP.out).mono ?_
    rintro e w3 ⟨v3, rfl, hown3, hb3⟩
    have HO3 := Lib.hid (hown3.lower HB2.out.size); have HB3 := Lib.hid (HB2.out.trans (hb3.mono HB2.out.size))
    clear hown3 hb3
    go_wp2_with fail
    go_ret
    exact ⟨_, rfl, by rw [HX.out]; exact HO3.out, HB3.out⟩
end Go.Proofs.YtjhbbgeebobcpaaDoor
namespace Go.Proofs.YtjhbbgeebobcpaaDoor
open Go.RowKit
set_option linter.unusedVariables false

def runOps (t : List Row) (l : List Entry) : List Row := l.foldl (fun t e => opDo t e.op) t
theorem runOps_take (t : List Row) (l : List Entry) (k : Nat) (hk : k < l.length) : runOps t (l.take (k + 1)) = opDo (runOps t (l.take k)) l[k].op := by
  unfold runOps; rw [List.take_succ_eq_append_getElem hk, List.foldl_append]; rfl
theorem gtrans0 {w w1 w2 : World} {row : Option Nat} (h : w.grownBy w1 row) (k : w1.grownBy w2 row) : w.grownBy w2 row :=
  ⟨k.os.trans h.os, k.tape.trans h.tape, k.output.trans h.output, Nat.le_trans h.size k.size, fun i hi hne => (k.block i (Nat.lt_of_lt_of_le hi h.size) hne).trans (h.block i hi hne)⟩
theorem gext0 {w w' : World} {row : Option Nat} (h : Ext w w') : w.grownBy w' row := ⟨h.os, h.tape, h.output, h.size, fun i hi _ => h.block i hi⟩
theorem tab_grown {w w' : World} {p : Nat} (h : Tab w) (hg : w.grownBy w' (some p)) (hp : 0 < p) : Tab w' :=
  h.below (B := 1) ⟨hg.os, hg.tape, hg.output, hg.size, fun k hk => hg.block k (by have := h.pos; omega) (fun e => by injection e; omega)⟩ (by omega)

set_option maxRecDepth 100000 in
set_option maxHeartbeats 2000000 in
theorem each_do (b h : Nat) (f : Nat → Value) (q : List Entry) (n0 p : Nat) (t0 : List Row) (w : World) (ht : Tab w) (hR : Ring w b h f q) (hc : Page w n0 p t0) (hn0 : n0 ≤ w.heap.size) (hbx : n0 ≤ p) (hbp : b ≠ p) (h0 : 0 < n0) :
    Calls Tryd.prog 53 #[.pointer (some ⟨b, 0, none⟩), .func (.func 48) #[.pointer (some ⟨p, 0, none⟩)] #[]] w fun r w' => r = .returned (.tuple #[]) ∧ Page w' n0 p (runOps t0 q) ∧ w.grownBy w' (some p) := by
  have c1 := hR.row.cell (i := 281) (by omega)
  rw [hR.cSz] at c1
  have hlt := hR.row.lt
  have hd := hR.hd
  have hl40 := hR.len
  have HR := Lib.hid hR; have HC := Lib.hid hc; have HT := Lib.hid ht
  clear hR hc ht
  go_enter Tryd.func53, Tryd.ntmps53
  go_wp2
  go_loopg [9] q.length (fun gk i wr => ∃ k : Nat, k ≤ q.length ∧ Hid (gk = q.length - k) ∧ i = .int .i64 k ∧ Hid (Page wr n0 p (runOps t0 (q.take k))) ∧ Hid (w.grownBy wr (some p)))
  case atStart => exact ⟨0, Nat.zero_le _, rfl, rfl, HC.out, grown_refl _ _⟩
  case round =>
    obtain ⟨k, hk, HK, rfl, HQ, HB⟩ := hrel
    by_cases hkl : k < q.length
    · have hring := HR.out.of_block (HB.out.block b hlt (by simpa using hbp))
      have c0 := hring.row.cell (i := 280) (by omega)
      rw [hring.cHd] at c0
      have hk40 : k < 40 := by omega
      have hwr : IntKind.i64.wrap ((h : Int) + (k : Int)) = (h : Int) + (k : Int) := by rw [IntKind.wrap_i64]; omega
      have hrem : Int.tmod ((h : Int) + (k : Int)) 40 = (((h + k) % 40 : Nat) : Int) := by rw [Int.tmod_eq_emod_of_nonneg (by omega)]; omega
      have e0 := hring.slot k hkl 0 _ rfl; have e1 := hring.slot k hkl 1 _ rfl; have e2 := hring.slot k hkl 2 _ rfl; have e3 := hring.slot k hkl 3 _ rfl; have e4 := hring.slot k hkl 4 _ rfl; have e5 := hring.slot k hkl 5 _ rfl; have e6 := hring.slot k hkl 6 _ rfl
      rw [Nat.add_zero] at e0
      have hm1 : (h + k) % 40 < 40 := Nat.mod_lt _ (by omega)
      generalize hm : (h + k) % 40 = m at *
      have hmm1 : (m : Int) < 40 := by omega
      have hmm0 : (0 : Int) ≤ (m : Int) := by omega
      have hsz := HB.out.size
      have hC := fun (W : World) (hw : W = wr.drew) => pageDo_c n0 p (runOps t0 (q.take k)) q[k] W (hw ▸ (tab_grown HT.out HB.out (by omega)).drewN 1) (hw ▸ (HQ.out.ext (Ext.drewN (Below.refl _ wr) 1))) (by rw [hw]; exact Nat.le_trans hn0 hsz) hbx (HR.out.ok _ (List.getElem_mem hkl))
      have HCC := Lib.hid hC
      clear hring hC hm1 hm
      go_wp2
      refine wp_region_any (by kernel_rfl) ?_
      change wpAny _ _ _ _ _ _ _ (World.drew _)
      refine wpAny_take (i := 0) (v := ?_) rfl (by kernel_rfl) (by kernel_rfl) (by kernel_rfl) (fun _ _ _ h => h) (Or.inl ⟨by rfl, ?_⟩) ?_
      rotate_left
      · (intro w; go_simp; try with_reducible rfl)
      refine wpAny_take (i := 1) (v := ?_) rfl (by kernel_rfl) (by kernel_rfl) (by kernel_rfl) (fun _ _ _ h => h) (Or.inl ⟨by rfl, ?_⟩) ?_
      rotate_left
      · (intro w; go_simp; try with_reducible rfl)
      refine wpAny_take (i := 2) (v := ?_) rfl (by kernel_rfl) (by kernel_rfl) (by kernel_rfl) (fun _ _ _ h => h) (Or.inl ⟨by rfl, ?_⟩) ?_
      rotate_left
      · (intro w; go_simp; try with_reducible rfl)
      refine wpAny_take (i := 3) (v := ?_) rfl (by kernel_rfl) (by kernel_rfl) (by kernel_rfl) (fun _ _ _ h => h) (Or.inl ⟨by rfl, ?_⟩) ?_
      rotate_left
      · (intro w; go_simp; try with_reducible rfl)
      refine wpAny_take (i := 4) (v := ?_) rfl (by kernel_rfl) (by kernel_rfl) (by kernel_rfl) (fun _ _ _ h => h) (Or.inl ⟨by rfl, ?_⟩) ?_
      rotate_left
      · (intro w; go_simp; try with_reducible rfl)
      refine wpAny_take (i := 6) (v := ?_) rfl (by kernel_rfl) (by kernel_rfl) (by kernel_rfl) (fun _ _ _ h => h) (Or.inl ⟨by rfl, ?_⟩) ?_
      rotate_left
      · (intro w; go_simp; try with_reducible rfl)
      refine wpAny_take (i := 9) (v := ?_) rfl (by kernel_rfl) (by kernel_rfl) (by kernel_rfl) (fun _ _ _ h => h) (Or.inl ⟨by rfl, ?_⟩) ?_
      rotate_left
      · (intro w; go_simp; try with_reducible rfl)
      refine wpAny_take (i := 10) (v := ?_) rfl (by kernel_rfl) (by kernel_rfl) (by kernel_rfl) (fun _ _ _ h => h) (Or.inl ⟨by rfl, ?_⟩) ?_
      rotate_left
      · (intro w; go_simp; try with_reducible rfl)
      refine wpAny_ready (rs := [5]) (by kernel_rfl) (by simp) ?_
      refine AllReady.cons rfl (fun K hK => ?_) AllReady.nil
      go_simp
      refine hK _ _ ?_; clear hK K
      refine wpAny_take (i := 7) (v := ?_) rfl (by kernel_rfl) (by kernel_rfl) (by kernel_rfl) (fun _ _ _ h => h) (Or.inl ⟨by rfl, ?_⟩) ?_
      rotate_left
      · (intro w; go_simp; try with_reducible rfl)
      refine wpAny_take (i := 8) (v := ?_) rfl (by kernel_rfl) (by kernel_rfl) (by kernel_rfl) (fun _ _ _ h => h) (Or.inl ⟨by rfl, ?_⟩) ?_
      rotate_left
      · (intro w; go_simp; try with_reducible rfl)
      refine wpAny_take (i := 11) (v := ?_) rfl (by kernel_rfl) (by kernel_rfl) (by kernel_rfl) (fun _ _ _ h => h) (Or.inl ⟨by rfl, ?_⟩) ?_
      rotate_left
      · (intro w; go_simp; try with_reducible rfl)
      refine wpAny_ready (rs := [12]) (by kernel_rfl) (by simp) ?_
      refine AllReady.cons rfl (fun K hK => ?_) AllReady.nil
      go_simp
      refine hK _ _ ?_; clear hK K
      refine wpAny_ready (rs := [13]) (by kernel_rfl) (by simp) ?_
      refine AllReady.cons rfl (fun K hK => ?_) AllReady.nil
      go_simp
      go_wp2_with (go_at_call 48; refine (HCC.out _ rfl).mono ?_; rintro r w2 ⟨rfl, hq2, hb2⟩; have HQ2 := Lib.hid hq2; have HB2 := Lib.hid hb2; clear hq2 hb2)
      refine wpAny_done (by kernel_rfl) ?_ _
      go_wp2
      go_roundg (q.length - (k + 1))
      case measure => have := HK.out; omega
      case rel =>
        refine ⟨k + 1, by omega, rfl, by go_num, ?_, ?_⟩
        · show Page _ _ _ _
          rw [runOps_take t0 q k hkl]; exact HQ2.out
        · exact gtrans0 HB.out (gtrans0 (gext0 (Ext.drewN (Below.refl _ wr) 1)) HB2.out)
    · have : k = q.length := by omega
      subst this
      rw [List.take_length] at HQ
      go_wp2
      go_end0
      exact ⟨rfl, HQ.out, HB.out⟩


/-- What a client shows. -/
def showL (c : Client) : List Row := if clientOk c then runOps c.base c.wait else []

set_option maxRecDepth 100000 in
set_option maxHeartbeats 1000000 in
theorem clientShow_c (c : Client) (v : Value) (w : World) (ht : Tab w) (h : CV w c v) :
    Calls Tryd.prog 22 #[v] w fun r w' => ∃ v', r = .returned v' ∧ Own 47 w' w.heap.size v' (showL c) ∧ Ext w w' := by
  have HCV := Lib.hid h; have HT := Lib.hid ht
  obtain ⟨A1, n1, A2, n2, rfl, h1, h2⟩ := h
  have H1 := Lib.hid h1; have H2 := Lib.hid h2
  have hE0 : Ext w (w.alloc (.cells #[.int .i64 c.who, .int .i64 c.seen, .slice A1 c.base.length n1, .slice A2 c.wait.length n2, .int .i64 c.done, .int .i64 c.made] 30)) := (Below.refl _ w).alloc (Nat.le_refl _) _
  have hbox := World.alloc_heap_new w (.cells #[.int .i64 c.who, .int .i64 c.seen, .slice A1 c.base.length n1, .slice A2 c.wait.length n2, .int .i64 c.done, .int .i64 c.made] 30)
  have HC := Lib.hid (clientOk_c c _ (w.alloc (.cells #[.int .i64 c.who, .int .i64 c.seen, .slice A1 c.base.length n1, .slice A2 c.wait.length n2, .int .i64 c.done, .int .i64 c.made] 30)) (HT.out.alloc _) (HCV.out.ext hE0))
  have HE0 := Lib.hid hE0; have HBX := Lib.hid hbox
  have hsz := alloc_sz w (.cells #[.int .i64 c.who, .int .i64 c.seen, .slice A1 c.base.length n1, .slice A2 c.wait.length n2, .int .i64 c.done, .int .i64 c.made] 30)
  have HSZ := Lib.hid hsz
  clear h1 h2 ht hE0 hbox hsz
  go_enter Tryd.func22, Tryd.ntmps22
  go_wp2_with fail
  refine HC.out.mono ?_
  rintro e w1 ⟨rfl, hb1⟩
  have hx1 := (hb1.block w.heap.size (by rw [HSZ.out]; omega)).trans HBX.out
  have hE1 := HE0.out.trans (hb1.mono HE0.out.size)
  have HX1 := Lib.hid hx1; have HE1 := Lib.hid hE1
  obtain ⟨c0, c1, c2, c3, c4, c5, cf⟩ := six_cells hx1
  clear hb1 hx1 hE1 HC
  cases hok : clientOk c
  · have HR : Hid (showL c = []) := by show _ = _; unfold showL; rw [hok]; rfl
    clear hok
    go_wp2_with fail
    go_ret
    exact ⟨_, rfl, by rw [HR.out]; exact Own.nil _ _ _, HE1.out⟩
  · obtain ⟨hw9, hs0, hs40, htr, hd0, hd1, hwl, hm0, hm1, hwt⟩ := clientOk_parts hok
    have hbl := treeOk_len htr
    have HR : Hid (showL c = runOps c.base c.wait) := by show _ = _; unfold showL; rw [hok]; rfl
    have HCL := Lib.hid (clone_row A1 n1 c.base w1 (H1.out.ext HE1.out) (by omega))
    have hw40 : c.wait.length ≤ 40 := by omega
    clear hw9 hs0 hs40 htr hd0 hd1 hwl hm0 hm1 hwt hok hbl
    go_wp2_with fail
    refine HCL.out.mono ?_
    rintro e w2 ⟨v2, rfl, hown2, hb2⟩
    obtain ⟨A3, n3, rfl, hr3⟩ := hown2.rd
    have hx2 := (hb2.block _ (blk_lt HX1.out)).trans HX1.out
    have hE2 := HE1.out.trans (hb2.mono HE1.out.size)
    have hEp : Ext w2 (w2.alloc (.cells #[.slice A3 c.base.length n3] 66)) := (Below.refl _ w2).alloc (Nat.le_refl _) _
    have hpage : Page (w2.alloc (.cells #[.slice A3 c.base.length n3] 66)) w.heap.size w2.heap.size c.base := ⟨_, World.alloc_heap_new w2 _, (hown2.below hEp).lower HE1.out.size⟩
    have hx3 := (hEp.block _ (blk_lt hx2)).trans hx2
    have hsp := alloc_sz w2 (.cells #[.slice A3 c.base.length n3] 66)
    have hgt := blk_lt hx2
    obtain ⟨d0, d1, d2, d3, d4, d5, df⟩ := six_cells hx3
    have HX3 := Lib.hid hx3; have HE3 := Lib.hid (hE2.trans (hEp.mono hE2.size)); have HPG := Lib.hid hpage; have HSP := Lib.hid hsp; have HGT := Lib.hid hgt
    have HE2 := Lib.hid hE2
    clear c0 c1 c2 c3 c4 c5 cf hown2 hr3 hb2 hx2 hE2 hEp hpage hx3 hsp hgt HCL
    go_wp2_with fail
    refine (ringOf_c A2 n2 c.wait _ (H2.out.ext HE3.out) hw40).mono ?_
    rintro e w4 ⟨rb, f4, rfl, hring, hrb, hb4⟩
    have HRG := Lib.hid hring; have HB4 := Lib.hid hb4; have HRB := Lib.hid hrb
    clear hring hb4 hrb d0 d1 d2 d3 d4 d5 df
    have hn := HE2.out.size
    have hE4 := HE3.out.trans (HB4.out.mono HE3.out.size)
    have hsp := HSP.out; have hrb := HRB.out
    have hD := each_do rb 0 f4 c.wait w.heap.size w2.heap.size c.base w4 (HT.out.below hE4 HT.out.pos) HRG.out (HPG.out.ext HB4.out) hE4.size hn (by omega) HT.out.pos
    have HD := Lib.hid hD; have HE4 := Lib.hid hE4
    clear hD hE4 hsp hrb
    go_wp2_with fail
    refine HD.out.mono ?_
    rintro e w5 ⟨rfl, ⟨v5, hbx5, hown5⟩, hg5⟩
    have q0 := hbx5.cell
    have HG5 := Lib.hid hg5; have HO5 := Lib.hid hown5
    clear HD hbx5 hown5 hg5 HPG HRG
    go_wp2_with fail
    go_ret
    refine ⟨_, rfl, by rw [HR.out]; exact HO5.out, ?_⟩
    exact ext_grown HE4.out HG5.out HE4.out.size (fun k hk => by injection hk with hk; subst hk; exact hn)
end Go.Proofs.YtjhbbgeebobcpaaDoor
namespace Go.Proofs.YtjhbbgeebobcpaaDoor
open Go.RowKit
set_option linter.unusedVariables false

theorem mid3_new (w : World) (x y z : Obj) : (((w.alloc x).alloc y).alloc z).heap[w.heap.size + 1]? = some y := by
  have h := (two_new w x y).2
  have hs := blk_lt h
  exact (Below.heap_alloc _ z _ hs).trans h
theorem cells3 {W : World} {b : Nat} {v0 v1 v2 : Value} {ty : TypeId} (h : W.heap[b]? = some (.cells #[v0, v1, v2] ty (0, 0))) :
    W.cell? ⟨b, 0, none⟩ = some v0 ∧ W.cell? ⟨b, 1, none⟩ = some v1 ∧ W.cell? ⟨b, 2, none⟩ = some v2 := by
  refine ⟨by simp [World.cell?, h], by simp [World.cell?, h], by simp [World.cell?, h]⟩
theorem ext3 (w : World) (x y z : Obj) : Ext w (((w.alloc x).alloc y).alloc z) := (((Below.refl _ w).alloc (Nat.le_refl _) x).alloc (by simp) y).alloc (by simp only [alloc_sz]; omega) z
theorem three_all (w : World) (x y z : Obj) : (((w.alloc x).alloc y).alloc z).heap[w.heap.size]? = some x ∧ (((w.alloc x).alloc y).alloc z).heap[w.heap.size + 1]? = some y ∧ (((w.alloc x).alloc y).alloc z).heap[w.heap.size + 2]? = some z := by
  have h := two_new w x y
  have hs : ((w.alloc x).alloc y).heap.size = w.heap.size + 2 := by simp only [alloc_sz]
  have hz : (((w.alloc x).alloc y).alloc z).heap[((w.alloc x).alloc y).heap.size]? = some z := (MapKept.heap_alloc _ z).1
  rw [hs] at hz
  exact ⟨(Below.heap_alloc _ z _ (by omega)).trans h.1, (Below.heap_alloc _ z _ (by omega)).trans h.2, hz⟩
end Go.Proofs.YtjhbbgeebobcpaaDoor
