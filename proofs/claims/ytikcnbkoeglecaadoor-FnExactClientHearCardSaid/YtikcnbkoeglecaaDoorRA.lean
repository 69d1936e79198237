/- Walks of the laws' comparisons: rows, entries, clients. What a client shows: the program's. Walks of the reference's rows and outlines: they are ok. -/
import Derived.Test.YtikcnbkoeglecaaDoorQL
import Derived.Test.YtikcnbkoeglecaaDoorQJ
import Derived.Test.YtikcnbkoeglecaaDoorQI
import Derived.BigQuiet
namespace Go.Proofs.YtikcnbkoeglecaaDoor
open Go.RowKit
set_option linter.unusedVariables false

theorem row_ext {a b : Row} (h1 : a.id = b.id) (h2 : a.depth = b.depth) (h3 : a.text.toList = b.text.toList) : a = b := by
  obtain ⟨i1, d1, t1⟩ := a
  obtain ⟨i2, d2, t2⟩ := b
  simp only at h1 h2 h3
  have h8 := toList_inj h3
  subst h1 h2 h8; rfl
theorem neq_row (a b : Row) (W : World) : (binOp .neq 61 (.agg #[.int .i64 a.id, .int .i64 a.depth, .string a.text]) (.agg #[.int .i64 b.id, .int .i64 b.depth, .string b.text])).run Tryd.prog W = .ok (.bool (!decide (a = b))) W := by
  have u1 := Tryd.underlying61
  by_cases h : a = b
  · subst h
    go_simp
  · rw [decide_eq_false h]
    go_simp
    by_cases e1 : a.id = b.id
    · by_cases e2 : a.depth = b.depth
      · have e7 : ¬ a.text.toList = b.text.toList := fun e7 => h (row_ext e1 e2 e7)
        simp [e1, e2, e7]
      · simp [e1, e2]
    · simp [e1]

set_option maxRecDepth 100000 in
set_option maxHeartbeats 1000000 in
theorem lpRows_c (A : Option Addr) (c : Nat) (a : List Row) (A' : Option Addr) (c' : Nat) (b : List Row) (w : World) (hr : Rd w A c a) (hr' : Rd w A' c' b) :
    Calls Tryd.prog 8 #[.slice A a.length c, .slice A' b.length c'] w fun e w' => e = .returned (.bool (decide (a = b))) ∧ ∃ n, w' = w.drewN n := by
  have hm : a.length ≤ maxLen := Nat.le_trans hr.1 hr.2.1
  unfold maxLen at hm
  have HR := Lib.hid hr; have HR' := Lib.hid hr'
  clear hr hr'
  by_cases hl : a.length = b.length
  · have hl' : ((a.length : Int) != b.length) = false := by simp [hl]
    have HL := Lib.hid hl
    have hml : b.length ≤ 9223372036854775807 := by omega
    clear hl
    go_enter Tryd.func8, Tryd.ntmps8
    go_wp2_with fail
    go_loopg [5] a.length (fun gk i wr => ∃ (k n : Nat), wr = w.drewN n ∧ k ≤ a.length ∧ Hid (gk = a.length - k) ∧ i = .int .i64 k ∧ Hid (∀ j (h : j < a.length) (h' : j < b.length), j < k → a[j] = b[j]))
    case atStart => exact ⟨0, 0, rfl, Nat.zero_le _, rfl, rfl, fun j _ _ h => by omega⟩
    case round =>
      obtain ⟨k, n, rfl, hk, HK, rfl, HA⟩ := hrel
      by_cases hlt : k < a.length
      · have hltb : k < b.length := by have := HL.out; omega
        obtain ⟨b1, o1, rfl, -, c0, c1, c2⟩ := row_at HR.out k hlt
        obtain ⟨b2, o2, rfl, -, d0, d1, d2⟩ := row_at HR'.out k hltb
        have hlt' : (k : Int) < a.length := by omega
        have hltb' : (k : Int) < b.length := by omega
        have hq := neq_row a[k] b[k]
        by_cases he : a[k] = b[k]
        · rw [decide_eq_true he] at hq
          have HN : Hid (∀ j (h : j < a.length) (h' : j < b.length), j < k + 1 → a[j] = b[j]) := fun j h h' hj => by
            by_cases e : j = k
            · subst e; exact he
            · exact HA.out j h h' (by omega)
          clear he
          go_wp2_with fail
          go_quiet (fail)
          go_wp2_with fail
          go_roundg (a.length - (k + 1))
          case measure => have := HK.out; omega
          case rel => exact ⟨k + 1, _, rfl, by omega, rfl, by go_num, HN.out⟩
        · rw [decide_eq_false he] at hq
          have HX : Hid (decide (a = b) = false) := by show _ = _; rw [decide_eq_false]; intro e; subst e; exact he rfl
          clear he
          go_wp2_with fail
          go_quiet (fail)
          go_wp2_with fail
          go_ret
          exact ⟨by rw [HX.out]; rfl, _, by rw [World.drewN_drewN]⟩
      · have HX : Hid (decide (a = b) = true) := by
          show _ = _
          rw [decide_eq_true]
          exact List.ext_getElem HL.out (fun j h h' => HA.out j h h' (by omega))
        go_wp2_with fail
        go_ret
        exact ⟨by rw [HX.out]; rfl, _, rfl⟩
  · have hl' : ((a.length : Int) != b.length) = true := by simp; omega
    have HX : Hid (decide (a = b) = false) := by show _ = _; rw [decide_eq_false]; intro e; exact hl (by rw [e])
    clear hl
    go_enter Tryd.func8, Tryd.ntmps8
    go_wp2_with fail
    go_ret
    exact ⟨by rw [HX.out]; rfl, 0, rfl⟩

set_option maxRecDepth 100000 in
set_option maxHeartbeats 1000000 in
theorem lpLog_c (A : Option Addr) (c : Nat) (a : List Entry) (A' : Option Addr) (c' : Nat) (b : List Entry) (w : World) (hr : Rd w A c a) (hr' : Rd w A' c' b) :
    Calls Tryd.prog 48 #[.slice A a.length c, .slice A' b.length c'] w fun e w' => e = .returned (.bool (decide (a = b))) ∧ ∃ n, w' = w.drewN n := by
  have hm : a.length ≤ maxLen := Nat.le_trans hr.1 hr.2.1
  unfold maxLen at hm
  have HR := Lib.hid hr; have HR' := Lib.hid hr'
  clear hr hr'
  by_cases hl : a.length = b.length
  · have hl' : ((a.length : Int) != b.length) = false := by simp [hl]
    have HL := Lib.hid hl
    have hml : b.length ≤ 9223372036854775807 := by omega
    clear hl
    go_enter Tryd.func48, Tryd.ntmps48
    go_wp2_with fail
    go_loopg [5] a.length (fun gk i wr => ∃ (k n : Nat), wr = w.drewN n ∧ k ≤ a.length ∧ Hid (gk = a.length - k) ∧ i = .int .i64 k ∧ Hid (∀ j (h : j < a.length) (h' : j < b.length), j < k → a[j] = b[j]))
    case atStart => exact ⟨0, 0, rfl, Nat.zero_le _, rfl, rfl, fun j _ _ h => by omega⟩
    case round =>
      obtain ⟨k, n, rfl, hk, HK, rfl, HA⟩ := hrel
      by_cases hlt : k < a.length
      · have hltb : k < b.length := by have := HL.out; omega
        obtain ⟨b1, o1, rfl, -, c0, c1, c2, c3, c4, c5, c6⟩ := ent_at HR.out k hlt
        obtain ⟨b2, o2, rfl, -, d0, d1, d2, d3, d4, d5, d6⟩ := ent_at HR'.out k hltb
        have hlt' : (k : Int) < a.length := by omega
        have hltb' : (k : Int) < b.length := by omega
        have hq := neq_ent a[k] b[k]
        by_cases he : a[k] = b[k]
        · rw [decide_eq_true he] at hq
          have HN : Hid (∀ j (h : j < a.length) (h' : j < b.length), j < k + 1 → a[j] = b[j]) := fun j h h' hj => by
            by_cases e : j = k
            · subst e; exact he
            · exact HA.out j h h' (by omega)
          clear he
          go_wp2_with fail
          go_quiet (fail)
          go_wp2_with fail
          go_roundg (a.length - (k + 1))
          case measure => have := HK.out; omega
          case rel => exact ⟨k + 1, _, rfl, by omega, rfl, by go_num, HN.out⟩
        · rw [decide_eq_false he] at hq
          have HX : Hid (decide (a = b) = false) := by show _ = _; rw [decide_eq_false]; intro e; subst e; exact he rfl
          clear he
          go_wp2_with fail
          go_quiet (fail)
          go_wp2_with fail
          go_ret
          exact ⟨by rw [HX.out]; rfl, _, by rw [World.drewN_drewN]⟩
      · have HX : Hid (decide (a = b) = true) := by
          show _ = _
          rw [decide_eq_true]
          exact List.ext_getElem HL.out (fun j h h' => HA.out j h h' (by omega))
        go_wp2_with fail
        go_ret
        exact ⟨by rw [HX.out]; rfl, _, rfl⟩
  · have hl' : ((a.length : Int) != b.length) = true := by simp; omega
    have HX : Hid (decide (a = b) = false) := by show _ = _; rw [decide_eq_false]; intro e; exact hl (by rw [e])
    clear hl
    go_enter Tryd.func48, Tryd.ntmps48
    go_wp2_with fail
    go_ret
    exact ⟨by rw [HX.out]; rfl, 0, rfl⟩
end Go.Proofs.YtikcnbkoeglecaaDoor
namespace Go.Proofs.YtikcnbkoeglecaaDoor
open Go.RowKit
set_option linter.unusedVariables false

def runOps (t : List Row) (l : List Entry) : List Row := l.foldl (fun t e => opDo t e.op) t
theorem runOps_take (t : List Row) (l : List Entry) (k : Nat) (hk : k < l.length) : runOps t (l.take (k + 1)) = opDo (runOps t (l.take k)) l[k].op := by
  unfold runOps; rw [List.take_succ_eq_append_getElem hk, List.foldl_append]; rfl
theorem gtrans0 {w w1 w2 : World} {row : Option Nat} (h : w.grownBy w1 row) (k : w1.grownBy w2 row) : w.grownBy w2 row :=
  ⟨k.os.trans h.os, k.tape.trans h.tape, k.output.trans h.output, Nat.le_trans h.size k.size, fun i hi hne => (k.block i (Nat.lt_of_lt_of_le hi h.size) hne).trans (h.block i hi hne)⟩
theorem gext0 {w w' : World} {row : Option Nat} (h : Ext w w') : w.grownBy w' row := ⟨h.os, h.tape, h.output, h.size, fun i hi _ => h.block i hi⟩
theorem tab_grown {w w' : World} {p : Nat} (h : Tab w) (hg : w.grownBy w' (some p)) (hp : 0 < p) : Tab w' :=
  h.below (B := 1) ⟨hg.os, hg.tape, hg.output, hg.size, fun k hk => hg.block k (by have := h.pos; omega) (fun e => by injection e; omega)⟩ (by omega)

set_option maxRecDepth 100000 in
set_option maxHeartbeats 2000000 in
theorem each_do (b h : Nat) (f : Nat → Value) (q : List Entry) (n0 p : Nat) (t0 : List Row) (w : World) (ht : Tab w) (hR : Ring w b h f q) (hc : Page w n0 p t0) (hn0 : n0 ≤ w.heap.size) (hbx : n0 ≤ p) (hbp : b ≠ p) (h0 : 0 < n0) :
    Calls Tryd.prog 53 #[.pointer (some ⟨b, 0, none⟩), .func (.func 45) #[.pointer (some ⟨p, 0, none⟩)] #[]] w fun r w' => r = .returned (.tuple #[]) ∧ Page w' n0 p (runOps t0 q) ∧ w.grownBy w' (some p) := by
  have c1 := hR.row.cell (i := 281) (by omega)
  rw [hR.cSz] at c1
  have hlt := hR.row.lt
  have hd := hR.hd
  have hl40 := hR.len
  have HR := Lib.hid hR; have HC := Lib.hid hc; have HT := Lib.hid ht
  clear hR hc ht
  go_enter Tryd.func53, Tryd.ntmps53
  go_wp2
  go_loopg [9] q.length (fun gk i wr => ∃ k : Nat, k ≤ q.length ∧ Hid (gk = q.length - k) ∧ i = .int .i64 k ∧ Hid (Page wr n0 p (runOps t0 (q.take k))) ∧ Hid (w.grownBy wr (some p)))
  case atStart => exact ⟨0, Nat.zero_le _, rfl, rfl, HC.out, grown_refl _ _⟩
  case round =>
    obtain ⟨k, hk, HK, rfl, HQ, HB⟩ := hrel
    by_cases hkl : k < q.length
    · have hring := HR.out.of_block (HB.out.block b hlt (by simpa using hbp))
      have c0 := hring.row.cell (i := 280) (by omega)
      rw [hring.cHd] at c0
      have hk40 : k < 40 := by omega
      have hwr : IntKind.i64.wrap ((h : Int) + (k : Int)) = (h : Int) + (k : Int) := by rw [IntKind.wrap_i64]; omega
      have hrem : Int.tmod ((h : Int) + (k : Int)) 40 = (((h + k) % 40 : Nat) : Int) := by rw [Int.tmod_eq_emod_of_nonneg (by omega)]; omega
      have e0 := hring.slot k hkl 0 _ rfl; have e1 := hring.slot k hkl 1 _ rfl; have e2 := hring.slot k hkl 2 _ rfl; have e3 := hring.slot k hkl 3 _ rfl; have e4 := hring.slot k hkl 4 _ rfl; have e5 := hring.slot k hkl 5 _ rfl; have e6 := hring.slot k hkl 6 _ rfl
      rw [Nat.add_zero] at e0
      have hm1 : (h + k) % 40 < 40 := Nat.mod_lt _ (by omega)
      generalize hm : (h + k) % 40 = m at *
      have hmm1 : (m : Int) < 40 := by omega
      have hmm0 : (0 : Int) ≤ (m : Int) := by omega
      have hsz := HB.out.size
      have hC := fun (W : World) (hw : W = wr.drew) => pageDo_c n0 p (runOps t0 (q.take k)) q[k] W (hw ▸ (tab_grown HT.out HB.out (by omega)).drewN 1) (hw ▸ (HQ.out.ext (Ext.drewN (Below.refl _ wr) 1))) (by rw [hw]; exact Nat.le_trans hn0 hsz) hbx (HR.out.ok _ (List.getElem_mem hkl))
      have HCC := Lib.hid hC
      clear hring hC hm1 hm
      go_wp2
      refine wp_region_any (by kernel_rfl) ?_
      change wpAny _ _ _ _ _ _ _ (World.drew _)
      refine wpAny_take (i := 0) (v := ?_) rfl (by kernel_rfl) (by kernel_rfl) (by kernel_rfl) (fun _ _ _ h => h) (Or.inl ⟨by rfl, ?_⟩) ?_
      rotate_left
      · (intro w; go_simp; try with_reducible rfl)
      refine wpAny_take (i := 1) (v := ?_) rfl (by kernel_rfl) (by kernel_rfl) (by kernel_rfl) (fun _ _ _ h => h) (Or.inl ⟨by rfl, ?_⟩) ?_
      rotate_left
      · (intro w; go_simp; try with_reducible rfl)
      refine wpAny_take (i := 2) (v := ?_) rfl (by kernel_rfl) (by kernel_rfl) (by kernel_rfl) (fun _ _ _ h => h) (Or.inl ⟨by rfl, ?_⟩) ?_
      rotate_left
      · (intro w; go_simp; try with_reducible rfl)
      refine wpAny_take (i := 3) (v := ?_) rfl (by kernel_rfl) (by kernel_rfl) (by kernel_rfl) (fun _ _ _ h => h) (Or.inl ⟨by rfl, ?_⟩) ?_
      rotate_left
      · (intro w; go_simp; try with_reducible rfl)
      refine wpAny_take (i := 4) (v := ?_) rfl (by kernel_rfl) (by kernel_rfl) (by kernel_rfl) (fun _ _ _ h => h) (Or.inl ⟨by rfl, ?_⟩) ?_
      rotate_left
      · (intro w; go_simp; try with_reducible rfl)
      refine wpAny_take (i := 6) (v := ?_) rfl (by kernel_rfl) (by kernel_rfl) (by kernel_rfl) (fun _ _ _ h => h) (Or.inl ⟨by rfl, ?_⟩) ?_
      rotate_left
      · (intro w; go_simp; try with_reducible rfl)
      refine wpAny_take (i := 9) (v := ?_) rfl (by kernel_rfl) (by kernel_rfl) (by kernel_rfl) (fun _ _ _ h => h) (Or.inl ⟨by rfl, ?_⟩) ?_
      rotate_left
      · (intro w; go_simp; try with_reducible rfl)
      refine wpAny_take (i := 10) (v := ?_) rfl (by kernel_rfl) (by kernel_rfl) (by kernel_rfl) (fun _ _ _ h => h) (Or.inl ⟨by rfl, ?_⟩) ?_
      rotate_left
      · (intro w; go_simp; try with_reducible rfl)
      refine wpAny_ready (rs := [5]) (by kernel_rfl) (by simp) ?_
      refine AllReady.cons rfl (fun K hK => ?_) AllReady.nil
      go_simp
      refine hK _ _ ?_; clear hK K
      refine wpAny_take (i := 7) (v := ?_) rfl (by kernel_rfl) (by kernel_rfl) (by kernel_rfl) (fun _ _ _ h => h) (Or.inl ⟨by rfl, ?_⟩) ?_
      rotate_left
      · (intro w; go_simp; try with_reducible rfl)
      refine wpAny_take (i := 8) (v := ?_) rfl (by kernel_rfl) (by kernel_rfl) (by kernel_rfl) (fun _ _ _ h => h) (Or.inl ⟨by rfl, ?_⟩) ?_
      rotate_left
      · (intro w; go_simp; try with_reducible rfl)
      refine wpAny_take (i := 11) (v := ?_) rfl (by kernel_rfl) (by kernel_rfl) (by kernel_rfl) (fun _ _ _ h => h) (Or.inl ⟨by rfl, ?_⟩) ?_
      rotate_left
      · (intro w; go_simp; try with_reducible rfl)
      refine wpAny_ready (rs := [12]) (by kernel_rfl) (by simp) ?_
      refine AllReady.cons rfl (fun K hK => ?_) AllReady.nil
      go_simp
      refine hK _ _ ?_; clear hK K
      refine wpAny_ready (rs := [13]) (by kernel_rfl) (by simp) ?_
      refine AllReady.cons rfl (fun K hK => ?_) AllReady.nil
      go_simp
      go_wp2_with (go_at_call 45; refine (HCC.out _ rfl).mono ?_; rintro r w2 ⟨rfl, hq2, hb2⟩; have HQ2 := Lib.hid hq2; have HB2 := Lib.hid hb2; clear hq2 hb2)
      refine wpAny_done (by kernel_rfl) ?_ _
      go_wp2
      go_roundg (q.length - (k + 1))
      case measure => have := HK.out; omega
      case rel =>
        refine ⟨k + 1, by omega, rfl, by go_num, ?_, ?_⟩
        · show Page _ _ _ _
          rw [runOps_take t0 q k hkl]; exact HQ2.out
        · exact gtrans0 HB.out (gtrans0 (gext0 (Ext.drewN (Below.refl _ wr) 1)) HB2.out)
    · have : k = q.length := by omega
      subst this
      rw [List.take_length] at HQ
      go_wp2
      go_end0
      exact ⟨rfl, HQ.out, HB.out⟩


/-- What a client shows. -/
def showL (c : Client) : List Row := if clientOk c then runOps c.base c.wait else []

set_option maxRecDepth 100000 in
set_option maxHeartbeats 1000000 in
theorem clientShow_c (c : Client) (v : Value) (w : World) (ht : Tab w) (h : CV w c v) :
    Calls Tryd.prog 18 #[v] w fun r w' => ∃ v', r = .returned v' ∧ Own 61 w' w.heap.size v' (showL c) ∧ Ext w w' := by
  have HCV := Lib.hid h; have HT := Lib.hid ht
  obtain ⟨A1, n1, A2, n2, rfl, h1, h2⟩ := h
  have H1 := Lib.hid h1; have H2 := Lib.hid h2
  have hE0 : Ext w (w.alloc (.cells #[.int .i64 c.who, .int .i64 c.seen, .slice A1 c.base.length n1, .slice A2 c.wait.length n2, .int .i64 c.done, .int .i64 c.made] 30)) := (Below.refl _ w).alloc (Nat.le_refl _) _
  have hbox := World.alloc_heap_new w (.cells #[.int .i64 c.who, .int .i64 c.seen, .slice A1 c.base.length n1, .slice A2 c.wait.length n2, .int .i64 c.done, .int .i64 c.made] 30)
  have HC := Lib.hid (clientOk_c c _ (w.alloc (.cells #[.int .i64 c.who, .int .i64 c.seen, .slice A1 c.base.length n1, .slice A2 c.wait.length n2, .int .i64 c.done, .int .i64 c.made] 30)) (HT.out.alloc _) (HCV.out.ext hE0))
  have HE0 := Lib.hid hE0; have HBX := Lib.hid hbox
  have hsz := alloc_sz w (.cells #[.int .i64 c.who, .int .i64 c.seen, .slice A1 c.base.length n1, .slice A2 c.wait.length n2, .int .i64 c.done, .int .i64 c.made] 30)
  have HSZ := Lib.hid hsz
  clear h1 h2 ht hE0 hbox hsz
  go_enter Tryd.func18, Tryd.ntmps18
  go_wp2_with fail
  refine HC.out.mono ?_
  rintro e w1 ⟨rfl, hb1⟩
  have hx1 := (hb1.block w.heap.size (by rw [HSZ.out]; omega)).trans HBX.out
  have hE1 := HE0.out.trans (hb1.mono HE0.out.size)
  have HX1 := Lib.hid hx1; have HE1 := Lib.hid hE1
  obtain ⟨c0, c1, c2, c3, c4, c5, cf⟩ := six_cells hx1
  clear hb1 hx1 hE1 HC
  cases hok : clientOk c
  · have HR : Hid (showL c = []) := by show _ = _; unfold showL; rw [hok]; rfl
    clear hok
    go_wp2_with fail
    go_ret
    exact ⟨_, rfl, by rw [HR.out]; exact Own.nil _ _ _, HE1.out⟩
  · obtain ⟨hw9, hs0, hs40, htr, hd0, hd1, hwl, hm0, hm1, hwt⟩ := clientOk_parts hok
    have hbl := treeOk_len htr
    have HR : Hid (showL c = runOps c.base c.wait) := by show _ = _; unfold showL; rw [hok]; rfl
    have HCL := Lib.hid (clone_row A1 n1 c.base w1 (H1.out.ext HE1.out) (by omega))
    have hw40 : c.wait.length ≤ 40 := by omega
    clear hw9 hs0 hs40 htr hd0 hd1 hwl hm0 hm1 hwt hok hbl
    go_wp2_with fail
    refine HCL.out.mono ?_
    rintro e w2 ⟨v2, rfl, hown2, hb2⟩
    obtain ⟨A3, n3, rfl, hr3⟩ := hown2.rd
    have hx2 := (hb2.block _ (blk_lt HX1.out)).trans HX1.out
    have hE2 := HE1.out.trans (hb2.mono HE1.out.size)
    have hEp : Ext w2 (w2.alloc (.cells #[.slice A3 c.base.length n3] 69)) := (Below.refl _ w2).alloc (Nat.le_refl _) _
    have hpage : Page (w2.alloc (.cells #[.slice A3 c.base.length n3] 69)) w.heap.size w2.heap.size c.base := ⟨_, World.alloc_heap_new w2 _, (hown2.below hEp).lower HE1.out.size⟩
    have hx3 := (hEp.block _ (blk_lt hx2)).trans hx2
    have hsp := alloc_sz w2 (.cells #[.slice A3 c.base.length n3] 69)
    have hgt := blk_lt hx2
    obtain ⟨d0, d1, d2, d3, d4, d5, df⟩ := six_cells hx3
    have HX3 := Lib.hid hx3; have HE3 := Lib.hid (hE2.trans (hEp.mono hE2.size)); have HPG := Lib.hid hpage; have HSP := Lib.hid hsp; have HGT := Lib.hid hgt
    have HE2 := Lib.hid hE2
    clear c0 c1 c2 c3 c4 c5 cf hown2 hr3 hb2 hx2 hE2 hEp hpage hx3 hsp hgt HCL
    go_wp2_with fail
    refine (ringOf_c A2 n2 c.wait _ (H2.out.ext HE3.out) hw40).mono ?_
    rintro e w4 ⟨rb, f4, rfl, hring, hrb, hb4⟩
    have HRG := Lib.hid hring; have HB4 := Lib.hid hb4; have HRB := Lib.hid hrb
    clear hring hb4 hrb d0 d1 d2 d3 d4 d5 df
    have hn := HE2.out.size
    have hE4 := HE3.out.trans (HB4.out.mono HE3.out.size)
    have hsp := HSP.out; have hrb := HRB.out
    have hD := each_do rb 0 f4 c.wait w.heap.size w2.heap.size c.base w4 (HT.out.below hE4 HT.out.pos) HRG.out (HPG.out.ext HB4.out) hE4.size hn (by omega) HT.out.pos
    have HD := Lib.hid hD; have HE4 := Lib.hid hE4
    clear hD hE4 hsp hrb
    go_wp2_with fail
    refine HD.out.mono ?_
    rintro e w5 ⟨rfl, ⟨v5, hbx5, hown5⟩, hg5⟩
    have q0 := hbx5.cell
    have HG5 := Lib.hid hg5; have HO5 := Lib.hid hown5
    clear HD hbx5 hown5 hg5 HPG HRG
    go_wp2_with fail
    go_ret
    refine ⟨_, rfl, by rw [HR.out]; exact HO5.out, ?_⟩
    exact ext_grown HE4.out HG5.out HE4.out.size (fun k hk => by injection hk with hk; subst hk; exact hn)
end Go.Proofs.YtikcnbkoeglecaaDoor
namespace Go.Proofs.YtikcnbkoeglecaaDoor
open Go.RowKit
set_option linter.unusedVariables false

set_option maxHeartbeats 400000 in
theorem rowOk_s (r : Row) (w : World) (hi : i64 r.id) (hs : r.text.size ≤ maxLen) :
    Calls Tryd.prog 105 #[.agg #[.int .i64 r.id, .int .i64 r.depth, .string r.text]] w fun x w' => x = .returned (.bool (rowOk r)) ∧ Ext w w' := by
  have HE : Hid (Ext w (w.alloc (.cells #[.int .i64 r.id, .int .i64 r.depth, .string r.text] 61))) := (Below.refl _ w).alloc (Nat.le_refl _) _
  have HC := Lib.hid (root_s r.id (w.alloc (.cells #[.int .i64 r.id, .int .i64 r.depth, .string r.text] 61)))
  have HBX := Lib.hid (World.alloc_heap_new w (.cells #[.int .i64 r.id, .int .i64 r.depth, .string r.text] 61))
  cases hroot : isRoot r.id
  · rw [hroot] at HC
    have HM := Lib.hid (made_s r.id (w.alloc (.cells #[.int .i64 r.id, .int .i64 r.depth, .string r.text] 61)) hi)
    have HD := Lib.hid (in_c r.depth 1 18 (w.alloc (.cells #[.int .i64 r.id, .int .i64 r.depth, .string r.text] 61)))
    have HT := Lib.hid (text_s r.text (w.alloc (.cells #[.int .i64 r.id, .int .i64 r.depth, .string r.text] 61)) hs)
    have HK : Hid (rowOk r = (isMade r.id && inR r.depth 1 18 && textOk r.text)) := by show _ = _; unfold rowOk; rw [hroot]; rfl
    clear hroot hi hs
    cases hm : isMade r.id
    · rw [hm] at HM HK
      clear hm
      go_enter Tryd.func105, Tryd.ntmps105
      go_wp2_with fail
      refine HC.out.mono ?_; rintro x w' ⟨rfl, rfl⟩
      go_wp2_with fail
      refine HM.out.mono ?_; rintro x w' ⟨rfl, rfl⟩
      go_wp2_with fail
      go_ret
      exact ⟨by rw [HK.out]; rfl, HE.out⟩
    · rw [hm] at HM HK
      clear hm
      cases hd : inR r.depth 1 18
      · rw [hd] at HD HK
        clear hd
        go_enter Tryd.func105, Tryd.ntmps105
        go_wp2_with fail
        refine HC.out.mono ?_; rintro x w' ⟨rfl, rfl⟩
        go_wp2_with fail
        refine HM.out.mono ?_; rintro x w' ⟨rfl, rfl⟩
        go_wp2_with fail
        refine HD.out.mono ?_; rintro x w' ⟨rfl, rfl⟩
        go_wp2_with fail
        go_ret
        exact ⟨by rw [HK.out]; rfl, HE.out⟩
      · rw [hd] at HD HK
        clear hd
        go_enter Tryd.func105, Tryd.ntmps105
        go_wp2_with fail
        refine HC.out.mono ?_; rintro x w' ⟨rfl, rfl⟩
        go_wp2_with fail
        refine HM.out.mono ?_; rintro x w' ⟨rfl, rfl⟩
        go_wp2_with fail
        refine HD.out.mono ?_; rintro x w' ⟨rfl, rfl⟩
        go_wp2_with fail
        refine HT.out.mono ?_; rintro x w' ⟨rfl, rfl⟩
        go_wp2_with fail
        go_ret
        exact ⟨by rw [HK.out]; rfl, HE.out⟩
  · rw [hroot] at HC
    have HK : Hid (rowOk r = (decide (r.depth = 0) && r.text.toList.isEmpty)) := by show _ = _; unfold rowOk; rw [hroot, ← decide_eq_emptyBytes r.text]; rfl
    clear hroot hi hs
    by_cases hd : r.depth = 0
    · have hd' : (r.depth == 0) = true := by simp [hd]
      have HR : Hid (rowOk r = r.text.toList.isEmpty) := by show _ = _; rw [HK.out, decide_eq_true hd]; rfl
      clear hd
      go_enter Tryd.func105, Tryd.ntmps105
      go_wp2_with fail
      refine HC.out.mono ?_; rintro x w' ⟨rfl, rfl⟩
      go_wp2_with fail
      go_ret
      exact ⟨by rw [HR.out]; first | rfl | simp [hd'], HE.out⟩
    · have hd' : (r.depth == 0) = false := by simp [hd]
      have HR : Hid (rowOk r = false) := by show _ = _; rw [HK.out, decide_eq_false hd]; rfl
      clear hd
      go_enter Tryd.func105, Tryd.ntmps105
      go_wp2_with fail
      refine HC.out.mono ?_; rintro x w' ⟨rfl, rfl⟩
      go_wp2_with fail
      go_ret
      exact ⟨by rw [HR.out]; first | rfl | simp [hd'], HE.out⟩
end Go.Proofs.YtikcnbkoeglecaaDoor
