/- The ring's entries, as a list. An outline that changes; a client in memory of its own; a client at the beginning. A client in memory of its own; a client at the beginning. -/
import Derived.Test.YtikcnbkoeglecaaDoorQH
import Derived.Deep.RegionHeld3
namespace Go.Proofs.YtikcnbkoeglecaaDoor
open Go.RowKit
set_option linter.unusedVariables false

theorem Ring.slot {w : World} {b h : Nat} {f : Nat → Value} {q : List Entry} (hR : Ring w b h f q) (i : Nat) (hi : i < q.length) (j : Nat) (v : Value) (hv : (entE q[i])[j]? = some v) : w.cell? ⟨b, (h + i) % 40 * 7 + j, none⟩ = some v := by
  have := hR.at_ i hi j v hv
  have hj := entE_lt hv
  unfold slotOf at this
  rw [hR.row.cell (by omega), this]
theorem Ring.kept {ts : List TypeId} {L : Nat → Prop} {w w' : World} {b h : Nat} {f : Nat → Value} {q : List Entry} (hR : Ring w b h f q) (k : Kept ts L w w') (ht : 110 ∉ ts) : Ring w' b h f q := by
  obtain ⟨cs, hcs⟩ := rowIs_blk hR.row
  exact hR.of_block ((k.cells _ _ _ _ hcs ht).trans hcs.symm)

set_option maxRecDepth 100000 in
set_option maxHeartbeats 2000000 in
theorem each_coll (b h : Nat) (f : Nat → Value) (q : List Entry) (n0 bx : Nat) (w : World) (hR : Ring w b h f q) (hc : Coll w n0 bx []) (hn0 : n0 ≤ w.heap.size) (hbx : n0 ≤ bx) :
    Calls Tryd.prog 53 #[.pointer (some ⟨b, 0, none⟩), .func (.func 77) #[] #[.pointer (some ⟨bx, 0, none⟩)]] w fun r w' => r = .returned (.tuple #[]) ∧ Coll w' n0 bx q ∧ Below n0 w w' := by
  have c1 := hR.row.cell (i := 281) (by omega)
  rw [hR.cSz] at c1
  have hlt := hR.row.lt
  have hd := hR.hd
  have hl40 := hR.len
  have HR := Lib.hid hR; have HC := Lib.hid hc
  clear hR hc
  go_enter Tryd.func53, Tryd.ntmps53
  go_wp2
  go_loopg [9] q.length (fun gk i wr => ∃ k : Nat, k ≤ q.length ∧ Hid (gk = q.length - k) ∧ i = .int .i64 k ∧ Hid (Coll wr n0 bx (q.take k)) ∧ Hid (Kept [23, 58] (fun _ => False) w wr) ∧ Hid (Below n0 w wr))
  case atStart => exact ⟨0, Nat.zero_le _, rfl, rfl, HC.out, Kept.refl _, Below.refl _ _⟩
  case round =>
    obtain ⟨k, hk, HK, rfl, HQ, HKe, HB⟩ := hrel
    by_cases hkl : k < q.length
    · have hring := HR.out.kept HKe.out (by decide)
      have c0 := hring.row.cell (i := 280) (by omega)
      rw [hring.cHd] at c0
      have hk40 : k < 40 := by omega
      have hwr : IntKind.i64.wrap ((h : Int) + (k : Int)) = (h : Int) + (k : Int) := by rw [IntKind.wrap_i64]; omega
      have hrem : Int.tmod ((h : Int) + (k : Int)) 40 = (((h + k) % 40 : Nat) : Int) := by rw [Int.tmod_eq_emod_of_nonneg (by omega)]; omega
      have e0 := hring.slot k hkl 0 _ rfl; have e1 := hring.slot k hkl 1 _ rfl; have e2 := hring.slot k hkl 2 _ rfl; have e3 := hring.slot k hkl 3 _ rfl; have e4 := hring.slot k hkl 4 _ rfl; have e5 := hring.slot k hkl 5 _ rfl; have e6 := hring.slot k hkl 6 _ rfl
      rw [Nat.add_zero] at e0
      have hm1 : (h + k) % 40 < 40 := Nat.mod_lt _ (by omega)
      generalize hm : (h + k) % 40 = m at *
      have hmm1 : (m : Int) < 40 := by omega
      have hmm0 : (0 : Int) ≤ (m : Int) := by omega
      have hsz := HB.out.size
      have hC := fun (W : World) (hw : W = wr.drew) => coll_c n0 bx (q.take k) q[k] W (hw ▸ (HQ.out.ext (Ext.drewN (Below.refl _ wr) 1))) (by rw [hw]; exact Nat.le_trans hn0 hsz) hbx (by rw [List.length_take]; omega) (HR.out.ok _ (List.getElem_mem hkl))
      have HCC := Lib.hid hC
      clear hring hC hm1 hm
      go_wp2
      refine wp_region_any (by kernel_rfl) ?_
      change wpAny _ _ _ _ _ _ _ (World.drew _)
      refine wpAny_take (i := 0) (v := ?_) rfl (by kernel_rfl) (by kernel_rfl) (by kernel_rfl) (fun _ _ _ h => h) (Or.inl ⟨by rfl, ?_⟩) ?_
      rotate_left
      · (intro w; go_simp; try with_reducible rfl)
      refine wpAny_take (i := 1) (v := ?_) rfl (by kernel_rfl) (by kernel_rfl) (by kernel_rfl) (fun _ _ _ h => h) (Or.inl ⟨by rfl, ?_⟩) ?_
      rotate_left
      · (intro w; go_simp; try with_reducible rfl)
      refine wpAny_take (i := 2) (v := ?_) rfl (by kernel_rfl) (by kernel_rfl) (by kernel_rfl) (fun _ _ _ h => h) (Or.inl ⟨by rfl, ?_⟩) ?_
      rotate_left
      · (intro w; go_simp; try with_reducible rfl)
      refine wpAny_take (i := 3) (v := ?_) rfl (by kernel_rfl) (by kernel_rfl) (by kernel_rfl) (fun _ _ _ h => h) (Or.inl ⟨by rfl, ?_⟩) ?_
      rotate_left
      · (intro w; go_simp; try with_reducible rfl)
      refine wpAny_take (i := 4) (v := ?_) rfl (by kernel_rfl) (by kernel_rfl) (by kernel_rfl) (fun _ _ _ h => h) (Or.inl ⟨by rfl, ?_⟩) ?_
      rotate_left
      · (intro w; go_simp; try with_reducible rfl)
      refine wpAny_take (i := 6) (v := ?_) rfl (by kernel_rfl) (by kernel_rfl) (by kernel_rfl) (fun _ _ _ h => h) (Or.inl ⟨by rfl, ?_⟩) ?_
      rotate_left
      · (intro w; go_simp; try with_reducible rfl)
      refine wpAny_take (i := 9) (v := ?_) rfl (by kernel_rfl) (by kernel_rfl) (by kernel_rfl) (fun _ _ _ h => h) (Or.inl ⟨by rfl, ?_⟩) ?_
      rotate_left
      · (intro w; go_simp; try with_reducible rfl)
      refine wpAny_take (i := 10) (v := ?_) rfl (by kernel_rfl) (by kernel_rfl) (by kernel_rfl) (fun _ _ _ h => h) (Or.inl ⟨by rfl, ?_⟩) ?_
      rotate_left
      · (intro w; go_simp; try with_reducible rfl)
      refine wpAny_ready (rs := [5]) (by kernel_rfl) (by simp) ?_
      refine AllReady.cons rfl (fun K hK => ?_) AllReady.nil
      go_simp
      refine hK _ _ ?_; clear hK K
      refine wpAny_take (i := 7) (v := ?_) rfl (by kernel_rfl) (by kernel_rfl) (by kernel_rfl) (fun _ _ _ h => h) (Or.inl ⟨by rfl, ?_⟩) ?_
      rotate_left
      · (intro w; go_simp; try with_reducible rfl)
      refine wpAny_take (i := 8) (v := ?_) rfl (by kernel_rfl) (by kernel_rfl) (by kernel_rfl) (fun _ _ _ h => h) (Or.inl ⟨by rfl, ?_⟩) ?_
      rotate_left
      · (intro w; go_simp; try with_reducible rfl)
      refine wpAny_take (i := 11) (v := ?_) rfl (by kernel_rfl) (by kernel_rfl) (by kernel_rfl) (fun _ _ _ h => h) (Or.inl ⟨by rfl, ?_⟩) ?_
      rotate_left
      · (intro w; go_simp; try with_reducible rfl)
      refine wpAny_ready (rs := [12]) (by kernel_rfl) (by simp) ?_
      refine AllReady.cons rfl (fun K hK => ?_) AllReady.nil
      go_simp
      refine hK _ _ ?_; clear hK K
      refine wpAny_ready (rs := [13]) (by kernel_rfl) (by simp) ?_
      refine AllReady.cons rfl (fun K hK => ?_) AllReady.nil
      go_simp
      go_wp2_with (go_at_call 77; refine (HCC.out _ rfl).mono ?_; rintro r w2 ⟨rfl, hq2, hk2, hb2⟩; have HQ2 := Lib.hid hq2; have HK2 := Lib.hid hk2; have HB2 := Lib.hid hb2; clear hq2 hk2 hb2)
      refine wpAny_done (by kernel_rfl) ?_ _
      go_wp2
      go_roundg (q.length - (k + 1))
      case measure => have := HK.out; omega
      case rel =>
        refine ⟨k + 1, by omega, rfl, by go_num, ?_, ?_, ?_⟩
        · show Coll _ _ _ _
          rw [List.take_succ_eq_append_getElem hkl]; exact HQ2.out
        · exact HKe.out.trans ((Kept.of_ext (Ext.drewN (Below.refl _ wr) 1)).trans HK2.out)
        · exact HB.out.trans ((Ext.drewN (Below.refl n0 wr) 1).trans HB2.out)
    · have : k = q.length := by omega
      subst this
      rw [List.take_length] at HQ
      go_wp2
      go_end0
      exact ⟨rfl, HQ.out, HB.out⟩

set_option maxRecDepth 100000 in
theorem entries_c (b h : Nat) (f : Nat → Value) (q : List Entry) (w : World) (hR : Ring w b h f q) :
    Calls Tryd.prog 46 #[.pointer (some ⟨b, 0, none⟩)] w fun r w' => ∃ v, r = .returned v ∧ Own 58 w' w.heap.size v q ∧ Ext w w' := by
  have c1 := hR.row.cell (i := 281) (by omega)
  rw [hR.cSz] at c1
  have hl40 := hR.len
  have hlt := hR.row.lt
  obtain ⟨i0, hi, hz0, hz1, hz2⟩ := ent_info
  have HR := Lib.hid hR
  clear hR
  go_enter Tryd.func46, Tryd.ntmps46
  go_wp2_with (first
    | (at_make; refine wpList_make_own _ rfl _ _ 23 rfl w.heap.size 58 i0 _ 7 und_ents hi hz0 hz1 .i64 .i64 _ q.length rfl rfl rfl (by rw [hz2]; omega) (by unfold maxLen; omega) (Nat.le_refl _) ?_; intro w0 hown0 hgrow0; have HO := Lib.hid hown0; have HG := Lib.hid hgrow0; clear hown0 hgrow0))
  have hsz0 := HG.out.size
  have hR2 : Ring (w0.alloc (.cells #[.slice (some ⟨w.heap.size, 0, none⟩) 0 q.length] 23)) b h f q := (HR.out.of_block (HG.out.block b hlt (by simp))).ext ((Below.refl _ _).alloc (Nat.le_refl _) _)
  have hE := Lib.hid (each_coll b h f q w.heap.size w0.heap.size _ hR2 ⟨_, World.alloc_heap_new w0 _, ⟨HO.out.alloc _, by simp⟩⟩ (by rw [alloc_sz]; omega) hsz0)
  clear hR2 hi hz0 hz1 hz2
  refine hE.out.mono ?_
  rintro r w3 ⟨rfl, hc3, hb3⟩
  obtain ⟨v, h1, h2⟩ := hc3
  have c3 := h1.cell
  have H := Lib.hid (And.intro h2 hb3)
  clear h1 h2 hb3 hE
  go_wp2
  go_ret
  refine ⟨v, rfl, H.out.1, ?_⟩
  exact (((Below.refl w.heap.size w).grown HG.out (Nat.le_refl _) (by simp)).alloc hsz0 _).trans H.out.2
end Go.Proofs.YtikcnbkoeglecaaDoor
namespace Go.Proofs.YtikcnbkoeglecaaDoor
open Go.RowKit
set_option linter.unusedVariables false

/-- Block p is an outline that changes. -/
def Page (w : World) (n0 p : Nat) (t : List Row) : Prop := ∃ v, Boxed w p 69 v ∧ Own 61 w n0 v t
theorem Page.ext {w w' : World} {n0 p : Nat} {t : List Row} (h : Page w n0 p t) (hb : Ext w w') : Page w' n0 p t := by
  obtain ⟨v, h1, h2⟩ := h
  exact ⟨v, (hb.block p h1.lt).trans h1, h2.below hb⟩

set_option maxRecDepth 100000 in
set_option maxHeartbeats 1000000 in
theorem pageDo_c (n0 p : Nat) (t : List Row) (e : Entry) (w : World) (ht : Tab w) (h : Page w n0 p t) (hn0 : n0 ≤ w.heap.size) (hp : n0 ≤ p) (he : e.op.text.size ≤ maxLen) :
    Calls Tryd.prog 45 #[.pointer (some ⟨p, 0, none⟩), e.val] w fun r w' => r = .returned (.tuple #[]) ∧ Page w' n0 p (opDo t e.op) ∧ w.grownBy w' (some p) := by
  obtain ⟨v, h1, h2⟩ := h
  obtain ⟨A, c, rfl, hrd⟩ := h2.rd
  have c0 := h1.cell
  have f0 := h1.frozen
  have hlt := h1.lt
  have hval : e.val = .agg #[.int .i64 e.who, .int .i64 e.seq, .int .i64 e.op.kind, .int .i64 e.op.id, .int .i64 e.op.up, .int .i64 e.op.pos, .string e.op.text] := rfl
  rw [hval]
  have hC := opDo_c A c t e.op ((w.alloc (.cells #[.int .i64 e.who, .int .i64 e.seq, .int .i64 e.op.kind, .int .i64 e.op.id, .int .i64 e.op.up, .int .i64 e.op.pos, .string e.op.text] 58)).drew) ((ht.alloc _).drewN 1) ((hrd.alloc _).drewN 1) he
  have HC := Lib.hid hC
  have H1 := Lib.hid h1
  have HP : Hid ((w.alloc (.cells #[.int .i64 e.who, .int .i64 e.seq, .int .i64 e.op.kind, .int .i64 e.op.id, .int .i64 e.op.up, .int .i64 e.op.pos, .string e.op.text] 58)).drew.heap[p]? = some (.cells #[.slice A t.length c] 69 (0, 0))) := (Below.heap_alloc w _ p hlt).trans h1
  have HS : Hid (w.heap.size ≤ (w.alloc (.cells #[.int .i64 e.who, .int .i64 e.seq, .int .i64 e.op.kind, .int .i64 e.op.id, .int .i64 e.op.up, .int .i64 e.op.pos, .string e.op.text] 58)).drew.heap.size) := Nat.le_trans (Nat.le_succ _) (Nat.le_of_eq (alloc_sz w _).symm)
  have FIN : Hid (∀ (w1 : World) (A2 : Option Addr) (cap2 : Nat), Own 61 w1 (w.alloc (.cells #[.int .i64 e.who, .int .i64 e.seq, .int .i64 e.op.kind, .int .i64 e.op.id, .int .i64 e.op.up, .int .i64 e.op.pos, .string e.op.text] 58)).drew.heap.size (.slice A2 (opDo t e.op).length cap2) (opDo t e.op) →
      Ext (w.alloc (.cells #[.int .i64 e.who, .int .i64 e.seq, .int .i64 e.op.kind, .int .i64 e.op.id, .int .i64 e.op.up, .int .i64 e.op.pos, .string e.op.text] 58)).drew w1 → w1.heap[p]? = some (.cells #[.slice A t.length c] 69 (0, 0)) →
      Page (w1.setCell ⟨p, 0, none⟩ (.slice A2 (opDo t e.op).length cap2)) n0 p (opDo t e.op) ∧ w.grownBy (w1.setCell ⟨p, 0, none⟩ (.slice A2 (opDo t e.op).length cap2)) (some p)) := by
    intro w1 A2 cap2 ho hb hp1
    have hbw : Ext w w1 := ((Below.refl _ w).alloc (Nat.le_refl _) _).trans ((Ext.drewN (Below.refl _ _) 1).trans (hb.mono HS.out))
    refine ⟨⟨_, one_set hp1, ?_⟩, gset ⟨hbw.os, hbw.tape, hbw.output, hbw.size, fun k hk _ => hbw.block k hk⟩ _ _⟩
    have hlow := ho.lower (Nat.le_trans hn0 HS.out)
    refine ⟨World.ownsRow.kept hlow.1 (grownBy_setCell' w1 p _) ?_, hlow.2⟩
    rcases hlow.1.2 with ⟨h9, _⟩ | ⟨g9, cap9, cur9, h9, _, h8, _⟩
    · rw [h9]; exact .inl rfl
    · rw [h9]
      refine .inr fun e9 => ?_
      simp only [Value.ownBlock, Option.some.injEq] at e9
      rw [e9, hp1] at h8
      injection h8 with h8; injection h8 with _ h8
      exact absurd h8 (by decide)
  clear h1 h2 hrd hC hval ht
  go_enter Tryd.func45, Tryd.ntmps45
  go_wp2
  refine wp_region_any (by kernel_rfl) ?_
  change wpAny _ _ _ _ _ _ _ (World.drew _)
  refine wpAny_take (i := 0) (v := ?_) rfl (by kernel_rfl) (by kernel_rfl) (by kernel_rfl) (fun _ _ _ h => h) (Or.inl ⟨by rfl, ?_⟩) ?_
  rotate_left
  · (intro w; go_simp; try with_reducible rfl)
  refine wpAny_take (i := 1) (v := ?_) rfl (by kernel_rfl) (by kernel_rfl) (by kernel_rfl) (fun _ _ _ h => h) (Or.inl ⟨by rfl, ?_⟩) ?_
  rotate_left
  · (intro w; go_simp; try with_reducible rfl)
  refine wpAny_take (i := 2) (v := ?_) rfl (by kernel_rfl) (by kernel_rfl) (by kernel_rfl) (fun _ _ _ h => h) (Or.inl ⟨by rfl, ?_⟩) ?_
  rotate_left
  · (intro w; go_simp; try with_reducible rfl)
  refine wpAny_take (i := 3) (v := ?_) rfl (by kernel_rfl) (by kernel_rfl) (by kernel_rfl) (fun _ _ _ h => h) (Or.inl ⟨by rfl, ?_⟩) ?_
  rotate_left
  · (intro w; go_simp; try with_reducible rfl)
  refine wpAny_take (i := 5) (v := ?_) rfl (by kernel_rfl) (by kernel_rfl) (by kernel_rfl) (fun _ _ _ h => h) (Or.inl ⟨by rfl, ?_⟩) ?_
  rotate_left
  · (intro w; go_simp; try with_reducible rfl)
  refine wpAny_ready (rs := [4, 6]) (by kernel_rfl) (by simp) ?_
  refine AllReady.cons rfl (fun K hK => ?_) ?_
  · go_simp
    refine hK _ _ ?_; clear hK K
    refine wpAny_ready (rs := [6]) (by kernel_rfl) (by simp) ?_
    refine AllReady.cons rfl (fun K hK => ?_) AllReady.nil
    go_simp
    refine hK _ _ ?_; clear hK K
    refine wpAny_ready (rs := [7]) (by kernel_rfl) (by simp) ?_
    refine AllReady.cons rfl (fun K hK => ?_) AllReady.nil
    go_simp
    go_wp2_with (go_at_call 34; refine HC.out.mono ?_; rintro r w1 ⟨v1, rfl, hown1, hb1⟩; obtain ⟨A2, cap2, rfl, -⟩ := hown1.rd; have hp1 := (hb1.block p (Nat.lt_of_lt_of_le hlt HS.out)).trans HP.out; obtain ⟨hcp, hfp⟩ := one_cell hp1; have HO := Lib.hid hown1; have HB := Lib.hid hb1; have HP1 := Lib.hid hp1; clear hown1 hb1 hp1)
    refine wpAny_take (i := 8) (v := ?_) rfl (by kernel_rfl) (by kernel_rfl) (by kernel_rfl) (fun _ _ _ h => h) (Or.inl ⟨by rfl, ?_⟩) ?_
    rotate_left
    · (intro w; go_simp; try with_reducible rfl)
    refine wpAny_take (i := 9) (v := ?_) rfl (by kernel_rfl) (by kernel_rfl) (by kernel_rfl) (fun _ _ _ h => h) (Or.inl ⟨by rfl, ?_⟩) ?_
    rotate_left
    · (intro w; go_simp; try with_reducible rfl)
    refine wpAny_ready (rs := [10]) (by kernel_rfl) (by simp) ?_
    refine AllReady.cons rfl (fun K hK => ?_) AllReady.nil
    go_simp
    refine hK _ _ ?_; clear hK K
    refine wpAny_done (by kernel_rfl) ?_ _
    go_wp2
    go_end0
    exact ⟨rfl, FIN.out _ _ _ HO.out HB.out HP1.out⟩
  refine AllReady.cons rfl (fun K hK => ?_) ?_
  · go_simp
    refine hK _ _ ?_; clear hK K
    refine wpAny_ready (rs := [4]) (by kernel_rfl) (by simp) ?_
    refine AllReady.cons rfl (fun K hK => ?_) AllReady.nil
    go_simp
    refine hK _ _ ?_; clear hK K
    refine wpAny_ready (rs := [7]) (by kernel_rfl) (by simp) ?_
    refine AllReady.cons rfl (fun K hK => ?_) AllReady.nil
    go_simp
    go_wp2_with (go_at_call 34; refine HC.out.mono ?_; rintro r w1 ⟨v1, rfl, hown1, hb1⟩; obtain ⟨A2, cap2, rfl, -⟩ := hown1.rd; have hp1 := (hb1.block p (Nat.lt_of_lt_of_le hlt HS.out)).trans HP.out; obtain ⟨hcp, hfp⟩ := one_cell hp1; have HO := Lib.hid hown1; have HB := Lib.hid hb1; have HP1 := Lib.hid hp1; clear hown1 hb1 hp1)
    refine wpAny_take (i := 8) (v := ?_) rfl (by kernel_rfl) (by kernel_rfl) (by kernel_rfl) (fun _ _ _ h => h) (Or.inl ⟨by rfl, ?_⟩) ?_
    rotate_left
    · (intro w; go_simp; try with_reducible rfl)
    refine wpAny_take (i := 9) (v := ?_) rfl (by kernel_rfl) (by kernel_rfl) (by kernel_rfl) (fun _ _ _ h => h) (Or.inl ⟨by rfl, ?_⟩) ?_
    rotate_left
    · (intro w; go_simp; try with_reducible rfl)
    refine wpAny_ready (rs := [10]) (by kernel_rfl) (by simp) ?_
    refine AllReady.cons rfl (fun K hK => ?_) AllReady.nil
    go_simp
    refine hK _ _ ?_; clear hK K
    refine wpAny_done (by kernel_rfl) ?_ _
    go_wp2
    go_end0
    exact ⟨rfl, FIN.out _ _ _ HO.out HB.out HP1.out⟩
  exact AllReady.nil
end Go.Proofs.YtikcnbkoeglecaaDoor
namespace Go.Proofs.YtikcnbkoeglecaaDoor
open Go.RowKit
set_option linter.unusedVariables false

structure Client where
  who : Int
  seen : Int
  base : List Row
  wait : List Entry
  done : Int
  made : Int
def noClient : Client := ⟨0, 0, [], [], 0, 0⟩
/-- A value that is a client. -/
def CV (w : World) (c : Client) (v : Value) : Prop :=
  ∃ A1 n1 A2 n2, v = .agg #[.int .i64 c.who, .int .i64 c.seen, .slice A1 c.base.length n1, .slice A2 c.wait.length n2, .int .i64 c.done, .int .i64 c.made] ∧ Rd w A1 n1 c.base ∧ Rd w A2 n2 c.wait
theorem CV.ext {w w' : World} {c : Client} {v : Value} (h : CV w c v) (hb : Ext w w') : CV w' c v := by
  obtain ⟨A1, n1, A2, n2, rfl, h1, h2⟩ := h
  exact ⟨A1, n1, A2, n2, rfl, h1.ext hb, h2.ext hb⟩

/-- A value that is a client, its slices of its own. -/
def CO (w : World) (base : Nat) (c : Client) (v : Value) : Prop :=
  ∃ A1 n1 A2 n2, v = .agg #[.int .i64 c.who, .int .i64 c.seen, .slice A1 c.base.length n1, .slice A2 c.wait.length n2, .int .i64 c.done, .int .i64 c.made] ∧ Own 61 w base (.slice A1 c.base.length n1) c.base ∧ Own 58 w base (.slice A2 c.wait.length n2) c.wait
theorem CO.cv {w : World} {base : Nat} {c : Client} {v : Value} (h : CO w base c v) : CV w c v := by
  obtain ⟨A1, n1, A2, n2, rfl, h1, h2⟩ := h
  obtain ⟨A3, n3, e3, r3⟩ := h1.rd
  obtain ⟨A4, n4, e4, r4⟩ := h2.rd
  cases e3; cases e4
  exact ⟨_, _, _, _, rfl, r3, r4⟩
theorem Own.of_blocks {α : Type} [Flat α] {e : TypeId} {w w' : World} {base : Nat} {v : Value} {l : List α} (h : Own e w base v l) (hb : ∀ k, base ≤ k → k < w.heap.size → w'.heap[k]? = w.heap[k]?) : Own e w' base v l := by
  refine ⟨⟨h.1.1, ?_⟩, h.2⟩
  rcases h.1.2 with h1 | ⟨g, cap, cur, h1, h2, h3, h4⟩
  · exact .inl h1
  · exact .inr ⟨g, cap, cur, h1, h2, (hb g h2 (blk_lt h3)).trans h3, h4⟩
theorem two_new (w : World) (x y : Obj) : ((w.alloc x).alloc y).heap[w.heap.size]? = some x ∧ ((w.alloc x).alloc y).heap[w.heap.size + 1]? = some y := by
  have := two_alloc w x y
  exact this.2
theorem six_cells {W : World} {b : Nat} {v0 v1 v2 v3 v4 v5 : Value} {ty : TypeId} (h : W.heap[b]? = some (.cells #[v0, v1, v2, v3, v4, v5] ty (0, 0))) :
    W.cell? ⟨b, 0, none⟩ = some v0 ∧ W.cell? ⟨b, 1, none⟩ = some v1 ∧ W.cell? ⟨b, 2, none⟩ = some v2 ∧ W.cell? ⟨b, 3, none⟩ = some v3 ∧ W.cell? ⟨b, 4, none⟩ = some v4 ∧ W.cell? ⟨b, 5, none⟩ = some v5 ∧ ∀ o, W.frozen? ⟨b, o, none⟩ = false := by
  refine ⟨by simp [World.cell?, h], by simp [World.cell?, h], by simp [World.cell?, h], by simp [World.cell?, h], by simp [World.cell?, h], by simp [World.cell?, h], fun o => by simp [World.frozen?, h]⟩
theorem set_at {W : World} {b i : Nat} {c : Array Value} {ty : TypeId} {m : Nat × Nat} {v : Value} (h : W.heap[b]? = some (.cells c ty m)) : (W.setCell ⟨b, i, none⟩ v).heap[b]? = some (.cells (c.setIfInBounds i v) ty m) := by
  unfold World.setCell
  simp only [Array.getElem?_modify, h]; rfl
set_option maxRecDepth 100000 in
theorem copyClient_c (c : Client) (v : Value) (w : World) (h : CV w c v) (hb : c.base.length ≤ 1000000) (hw : c.wait.length ≤ 1000000) :
    Calls Tryd.prog 42 #[v] w fun r w' => ∃ v', r = .returned v' ∧ CO w' w.heap.size c v' ∧ Ext w w' := by
  obtain ⟨A1, n1, A2, n2, rfl, h1, h2⟩ := h
  have H1 := Lib.hid h1; have H2 := Lib.hid h2
  clear h1 h2
  go_enter Tryd.func42, Tryd.ntmps42
  go_wp2_with fail
  have hX := two_new w (.cells #[.int .i64 c.who, .int .i64 c.seen, .slice A1 c.base.length n1, .slice A2 c.wait.length n2, .int .i64 c.done, .int .i64 c.made] 30) (.cells #[.int .i64 0, .int .i64 0, .slice none 0 0, .slice none 0 0, .int .i64 0, .int .i64 0] 30)
  refine (clone_row A1 n1 c.base _ ((H1.out.alloc _).alloc _) hb).mono ?_
  rintro e w1 ⟨v1, rfl, hown1, hb1⟩
  obtain ⟨A3, n3, rfl, hr3⟩ := hown1.rd
  have x1 := (hb1.block w.heap.size (by rw [alloc_sz, alloc_sz]; omega)).trans hX.1
  have x2 := (hb1.block (w.heap.size + 1) (by rw [alloc_sz, alloc_sz]; omega)).trans hX.2
  have hs1 := hb1.size
  rw [alloc_sz, alloc_sz] at hs1
  have hE1 : Ext w w1 := ((Below.refl _ w).alloc (Nat.le_refl _) _).trans ((((Below.refl _ _).alloc (Nat.le_refl _) _).mono (by rw [alloc_sz]; omega)).trans (hb1.mono (by rw [alloc_sz, alloc_sz]; omega)))
  have HE1 := Lib.hid hE1; have HO1 := Lib.hid hown1; have X1 := Lib.hid x1; have X2 := Lib.hid x2
  obtain ⟨c0, c1, c2, c3, c4, c5, cf⟩ := six_cells x1
  have hlt1 : w.heap.size < w1.heap.size := by omega
  have hlt2 : w.heap.size + 1 < w1.heap.size := by omega
  clear hown1 hr3 hb1 hE1 x1 x2 hX
  go_wp2_with fail
  have hE2 : Ext w (w1.setCell ⟨w.heap.size, 2, none⟩ (.slice A3 c.base.length n3)) := HE1.out.setCell (Nat.le_refl _) _
  have HE2 := Lib.hid hE2
  refine (clone_ent A2 n2 c.wait _ (H2.out.ext hE2) hw).mono ?_
  rintro e w3 ⟨v3, rfl, hown3, hb3⟩
  obtain ⟨A4, n4, rfl, hr4⟩ := hown3.rd
  have y1 := (hb3.block w.heap.size (by rw [setsz]; omega)).trans (set_at X1.out)
  have y2 := (hb3.block (w.heap.size + 1) (by rw [setsz]; omega)).trans ((setx (by omega)).trans X2.out)
  have hs3 := hb3.size
  rw [setsz] at hs3
  have HO3 := Lib.hid hown3; have HB3 := Lib.hid hb3
  have hlt3 : w.heap.size < w3.heap.size := by omega
  have hlt4 : w.heap.size + 1 < w3.heap.size := by omega
  clear c0 c1 c2 c3 c4 c5 cf
  obtain ⟨c0, c1, c2, c3, c4, c5, cf⟩ := six_cells (v0 := .int .i64 c.who) (v1 := .int .i64 c.seen) (v2 := .slice A3 c.base.length n3) (v3 := .slice A2 c.wait.length n2) (v4 := .int .i64 c.done) (v5 := .int .i64 c.made) y1
  obtain ⟨d0, d1, d2, d3, d4, d5, df⟩ := six_cells y2
  have Y1 := Lib.hid y1; have Y2 := Lib.hid y2
  clear hown3 hb3 hr4 hE2 y1 y2
  go_wp2_with fail
  have hz := set_at (v := .int .i64 c.made) (i := 5) (set_at (v := .int .i64 c.done) (i := 4) (set_at (v := .slice A4 c.wait.length n4) (i := 3) (set_at (v := .slice A3 c.base.length n3) (i := 2) (set_at (v := .int .i64 c.seen) (i := 1) (set_at (v := .int .i64 c.who) (i := 0) ((setx (o := 3) (v := .slice A4 c.wait.length n4) (b := w.heap.size) (by omega)).trans Y2.out))))))
  obtain ⟨k0, k1, k2, k3, k4, k5, kf⟩ := six_cells (v0 := .int .i64 c.who) (v1 := .int .i64 c.seen) (v2 := .slice A3 c.base.length n3) (v3 := .slice A4 c.wait.length n4) (v4 := .int .i64 c.done) (v5 := .int .i64 c.made) hz
  refine bodyPost_ret (v := .agg #[.int .i64 c.who, .int .i64 c.seen, .slice A3 c.base.length n3, .slice A4 c.wait.length n4, .int .i64 c.done, .int .i64 c.made]) ?_ rfl ?_
  · simp [results, Tryd.f42, go_sem, k0, k1, k2, k3, k4, k5]
  · have hfar : ∀ k, w.heap.size + 2 ≤ k → (((((((w3.setCell ⟨w.heap.size, 3, none⟩ (.slice A4 c.wait.length n4)).setCell ⟨w.heap.size + 1, 0, none⟩ (.int .i64 c.who)).setCell ⟨w.heap.size + 1, 1, none⟩ (.int .i64 c.seen)).setCell ⟨w.heap.size + 1, 2, none⟩ (.slice A3 c.base.length n3)).setCell ⟨w.heap.size + 1, 3, none⟩ (.slice A4 c.wait.length n4)).setCell ⟨w.heap.size + 1, 4, none⟩ (.int .i64 c.done)).setCell ⟨w.heap.size + 1, 5, none⟩ (.int .i64 c.made)).heap[k]? = w3.heap[k]? := fun k hk =>
      (setx (by omega)).trans ((setx (by omega)).trans ((setx (by omega)).trans ((setx (by omega)).trans ((setx (by omega)).trans ((setx (by omega)).trans (setx (by omega)))))))
    have r1 := (HO1.out.of_blocks (w' := _) (fun k hk hkl => (hfar k (by rw [alloc_sz, alloc_sz] at hk; omega)).trans ((HB3.out.block k (by rw [setsz]; exact hkl)).trans (setx (by rw [alloc_sz, alloc_sz] at hk; omega))))).lower (base' := w.heap.size) (by rw [alloc_sz, alloc_sz]; omega)
    have r2 := (HO3.out.of_blocks (w' := _) (fun k hk hkl => hfar k (by rw [setsz] at hk; omega))).lower (base' := w.heap.size) (by rw [setsz]; omega)
    refine ⟨_, rfl, ⟨_, _, _, _, rfl, r1, r2⟩, ?_⟩
    exact (((((((HE2.out.trans (HB3.out.mono (by rw [setsz]; omega))).setCell (Nat.le_refl _) _).setCell (Nat.le_succ _) _).setCell (Nat.le_succ _) _).setCell (Nat.le_succ _) _).setCell (Nat.le_succ _) _).setCell (Nat.le_succ _) _).setCell (Nat.le_succ _) _

set_option maxRecDepth 100000 in
theorem clientNew_c (who : Int) (w : World) (h : isWho who = true) :
    Calls Tryd.prog 11 #[.int .i64 who] w fun r w' => ∃ v, r = .returned (.tuple #[v, .bool true]) ∧ CO w' w.heap.size ⟨who, 0, treeNew, [], 0, 0⟩ v ∧ Ext w w' := by
  have hW := whoOk_c who
  rw [h] at hW
  have HW := Lib.hid hW
  clear hW h
  go_enter Tryd.func11, Tryd.ntmps11
  go_wp2_with fail
  refine (HW.out _).mono ?_
  rintro e w1 ⟨rfl, rfl⟩
  go_wp2_with fail
  refine (treeNew_c _).mono ?_
  rintro e w2 ⟨v2, rfl, hown, hb2⟩
  obtain ⟨A3, n3, rfl, hr3⟩ := hown.rd
  have hx := (hb2.block w.heap.size (by rw [alloc_sz]; omega)).trans (World.alloc_heap_new w _)
  obtain ⟨d0, d1, d2, d3, d4, d5, df⟩ := six_cells hx
  have HX := Lib.hid hx; have HO := Lib.hid hown; have HB := Lib.hid hb2
  clear hx hown hb2 hr3 HW
  go_wp2_with fail
  have hz := set_at (v := .int .i64 0) (i := 5) (set_at (v := .int .i64 0) (i := 4) (set_at (v := .slice none 0 0) (i := 3) (set_at (v := .slice A3 treeNew.length n3) (i := 2) (set_at (v := .int .i64 0) (i := 1) (set_at (v := .int .i64 who) (i := 0) HX.out)))))
  obtain ⟨k0, k1, k2, k3, k4, k5, kf⟩ := six_cells (v0 := .int .i64 who) (v1 := .int .i64 0) (v2 := .slice A3 treeNew.length n3) (v3 := .slice none 0 0) (v4 := .int .i64 0) (v5 := .int .i64 0) hz
  refine bodyPost_ret (v := .tuple #[.agg #[.int .i64 who, .int .i64 0, .slice A3 treeNew.length n3, .slice none 0 0, .int .i64 0, .int .i64 0], .bool true]) ?_ rfl ?_
  · simp [results, Tryd.f11, go_sem, k0, k1, k2, k3, k4, k5]
  · have r1 := (HO.out.of_blocks (w' := ((((((w2.setCell ⟨w.heap.size, 0, none⟩ (.int .i64 who)).setCell ⟨w.heap.size, 1, none⟩ (.int .i64 0)).setCell ⟨w.heap.size, 2, none⟩ (.slice A3 treeNew.length n3)).setCell ⟨w.heap.size, 3, none⟩ (.slice none 0 0)).setCell ⟨w.heap.size, 4, none⟩ (.int .i64 0)).setCell ⟨w.heap.size, 5, none⟩ (.int .i64 0))) (fun k hk hkl => by
      rw [alloc_sz] at hk
      exact (setx (by omega)).trans ((setx (by omega)).trans ((setx (by omega)).trans ((setx (by omega)).trans ((setx (by omega)).trans (setx (by omega)))))))).lower (base' := w.heap.size) (by rw [alloc_sz]; omega)
    refine ⟨_, rfl, ⟨_, _, none, 0, rfl, r1, Own.nil _ _ _⟩, ?_⟩
    exact ((((((((Below.refl w.heap.size w).alloc (Nat.le_refl _) _).trans (HB.out.mono (by rw [alloc_sz]; omega))).setCell (Nat.le_refl _) _).setCell (Nat.le_refl _) _).setCell (Nat.le_refl _) _).setCell (Nat.le_refl _) _).setCell (Nat.le_refl _) _).setCell (Nat.le_refl _) _
end Go.Proofs.YtikcnbkoeglecaaDoor
