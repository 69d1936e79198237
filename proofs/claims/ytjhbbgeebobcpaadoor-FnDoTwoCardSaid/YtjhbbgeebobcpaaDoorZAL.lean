/- Walks of the reference: the outline at the beginning, behind entries, of a log. .. Walks of the reference's rows and outlines: they are ok. -/
import Derived.Test.YtjhbbgeebobcpaaDoorZAK
import Derived.Test.YtjhbbgeebobcpaaDoorZAI
import Derived.Test.YtjhbbgeebobcpaaDoorZAH
import Derived.Test.YtjhbbgeebobcpaaDoorZAJ
import Derived.Deep.RegionWith
import Derived.Deep.RegionHeld3
import Derived.Deep.DeepCutAuto
import Derived.Deep.CutBlock
import Derived.BigQuiet
namespace Go.Proofs.YtjhbbgeebobcpaaDoor
open Go.RowKit
set_option linter.unusedVariables false
def treeFrom (t : List Row) (l : List Entry) : List Row := l.foldl (fun t e => doL t e.op) t
theorem treeFrom_take (t : List Row) (l : List Entry) (k : Nat) (hk : k < l.length) : treeFrom t (l.take (k + 1)) = doL (treeFrom t (l.take k)) l[k].op := by
 unfold treeFrom; rw [List.take_succ_eq_append_getElem hk, List.foldl_append]; rfl
theorem treeFrom_ok {l : List Entry} : ∀ {t : List Row}, treeOk t = true → (∀ e ∈ l, opOk e.op = true) → treeOk (treeFrom t l) = true := by
 induction l with
 |nil => intro t h _; exact h
 |cons e l ih =>
  intro t h hl
  exact ih (treeOk_do t e.op h (hl e List.mem_cons_self)) (fun e' he => hl e' (List.mem_cons_of_mem _ he))
theorem treeFrom_op {l : List Entry} : ∀ {t : List Row}, treeOk t = true → (∀ e ∈ l, opOk e.op = true) → l.foldl (fun t e => opDo t e.op) t = treeFrom t l := by
 induction l with
 |nil => intro t h _; rfl
 |cons e l ih =>
  intro t h hl
  have ho := hl e List.mem_cons_self
  have e1 : opDo t e.op = doL t e.op := by unfold opDo; rw [h, ho]; rfl
  show l.foldl _ (opDo t e.op) = l.foldl _ (doL t e.op)
  rw [e1]
  exact ih (treeOk_do t e.op h ho) (fun e' he => hl e' (List.mem_cons_of_mem _ he))
theorem treeOf_from {l : List Entry} (h : ∀ e ∈ l, opOk e.op = true) : treeOf l = treeFrom treeNew l := treeFrom_op treeOk_new h
set_option maxRecDepth 100000 in
theorem new_s (w : World) : Calls Tryd.prog 41 #[] w fun e w' => ∃ v, e = .returned v ∧ Own 47 w' w.heap.size v treeNew ∧ Ext w w' := by
 go_enter Tryd.func41, Tryd.ntmps41
 go_wp2
 go_ret
 refine ⟨_, rfl, ⟨⟨rfl, .inr ⟨w.heap.size, 3, _, rfl, Nat.le_refl _, World.alloc_heap_new w _, Nat.le_refl _, by decide, rfl, rfl⟩⟩, ?_⟩, (Below.refl _ w).alloc (Nat.le_refl _) _⟩
 intro r hr
 simp only [treeNew, List.mem_cons, List.not_mem_nil, or_false] at hr
 rcases hr with rfl | rfl | rfl <;> exact Nat.zero_le _
set_option maxRecDepth 100000 in
set_option maxHeartbeats 2000000 in
theorem tree_s (A : Option Addr) (c : Nat) (t : List Row) (A' : Option Addr) (c' : Nat) (l : List Entry) (w : World) (hr : Rd w A c t) (hr' : Rd w A' c' l) (ht : treeOk t = true) (ho : ∀ e ∈ l, opOk e.op = true) :
  Calls Tryd.prog 40 #[.slice A t.length c, .slice A' l.length c'] w fun e w' => ∃ v, e = .returned v ∧ Own 47 w' w.heap.size v (treeFrom t l) ∧ Ext w w' := by
 have hm : l.length ≤ maxLen := Nat.le_trans hr'.1 hr'.2.1
 unfold maxLen at hm
 have HR := Lib.hid hr; have HR' := Lib.hid hr'; have HT := Lib.hid ht; have HO := Lib.hid ho
 clear hr hr' ht ho
 go_enter Tryd.func40, Tryd.ntmps40
 go_wp2_with fail
 go_loopg [0, 5] l.length (fun gk v i wr => ∃ (k : Nat) (A2 : Option Addr) (c2 : Nat), k ≤ l.length ∧ Hid (gk = l.length - k) ∧ i = .int .i64 k ∧ v = .slice A2 (treeFrom t (l.take k)).length c2 ∧ Hid (Rd wr A2 c2 (treeFrom t (l.take k))) ∧ Hid (Ext w wr))
 case atStart => exact ⟨0, A, c, Nat.zero_le _, rfl, rfl, rfl, HR.out, Below.refl _ _⟩
 case round =>
  obtain ⟨k, A2, c2, hk, HK, rfl, rfl, HQ, HW⟩ := hrel
  have hok : treeOk (treeFrom t (l.take k)) = true := treeFrom_ok HT.out (fun e he => HO.out e (List.mem_of_mem_take he))
  have HOK := Lib.hid hok
  have HN := Lib.hid (fun hk => treeFrom_take t l k hk)
  have hlast : k = l.length → treeFrom t (l.take k) = treeFrom t l := fun e => by rw [e, List.take_length]
  have HL := Lib.hid hlast
  clear hok hlast
  generalize treeFrom t (l.take k) = tk at HQ HOK HN HL ⊢
  by_cases hlt : k < l.length
  ·obtain ⟨b, off, rfl, hbl, c0, c1, c2', c3, c4, c5, c6⟩ := ent_at (HR'.out.ext HW.out) k hlt
   have hC := do_s A2 c2 tk l[k].op wr HQ.out HOK.out (HO.out _ (List.getElem_mem hlt)) (HR'.out.okAt k hlt)
   have HC := Lib.hid hC
   have HN2 := Lib.hid (HN.out hlt)
   clear hC c0 c1
   go_wp2_with fail
   refine HC.out.mono ?_; rintro e w3 ⟨v3, rfl, hown3, hb3⟩
   obtain ⟨A3, c3', rfl, hr3⟩ := hown3.rd
   have HR3 := Lib.hid hr3; have HB3 := Lib.hid (HW.out.trans (hb3.mono HW.out.size))
   clear hown3 hr3 hb3 HC
   go_wp2_with fail
   go_roundg (l.length - (k + 1))
   case measure => have := HK.out; omega
   case rel => exact ⟨k + 1, A3, c3', by omega, rfl, by go_num, by rw [HN2.out], by show Rd _ _ _ _; rw [HN2.out]; exact HR3.out, HB3.out⟩
  ·have hkl : k = l.length := by omega
   have HE := Lib.hid (HL.out hkl)
   have hs := HW.out.size
   have hlt0 := treeOk_len HOK.out
   obtain ⟨v3, w3, hrun, hown3, hg3⟩ := app_at el_row (own_made (e := 47) (α := Row) wr w.heap.size hs) (HQ.out.alloc (.cells #[] 47)) (by simp; omega) (by rw [alloc_sz]; omega)
   have hB3 := (own_made (e := 47) (α := Row) wr w.heap.size hs).over (HW.out.alloc hs (.cells #[] 47)) hg3 (Nat.le_refl _) (by rw [alloc_sz]; omega)
   rw [List.nil_append] at hown3
   have HO3 := Lib.hid hown3; have HB3 := Lib.hid hB3
   clear hown3 hg3 hB3 hkl
   go_wp2_with (at_builtin; refine wpList_append_run rfl _ _ _ rfl rfl rfl hrun ?_)
   go_ret
   exact ⟨_, rfl, by rw [← HE.out]; exact HO3.out, HB3.out⟩
theorem logOk_ent {l : List Entry} (h : logOk l = true) : ∀ e ∈ l, entryOk e = true := fun e he => by
 obtain ⟨k, hk, rfl⟩ := List.getElem_of_mem he
 exact logOk_at h k hk
set_option maxRecDepth 100000 in
theorem logTree_s (A : Option Addr) (c : Nat) (l : List Entry) (w : World) (hr : Rd w A c l) (hW : ∀ e ∈ l, OpW e.op) :
  Calls Tryd.prog 15 #[.slice A l.length c] w fun e w' => ∃ v, e = .returned v ∧ Own 47 w' w.heap.size v (logTree l) ∧ Ext w w' := by
 have hL := logOk_s A c l w hr hW
 cases hok : logOk l
 ·rw [hok] at hL
  have HL := Lib.hid hL
  have HX : Hid (logTree l = []) := by show _ = _; unfold logTree; rw [hok]; rfl
  clear hL hok hr hW
  go_enter Tryd.func15, Tryd.ntmps15
  go_wp2_with fail
  refine HL.out.mono ?_; rintro e w1 ⟨rfl, hb⟩
  have HB := Lib.hid hb
  clear hb
  go_wp2_with fail
  go_ret
  exact ⟨_, rfl, by rw [HX.out]; exact own_made w1 w.heap.size HB.out.size, HB.out.alloc HB.out.size _⟩
 ·rw [hok] at hL
  have HL := Lib.hid hL
  have hop : ∀ e ∈ l, opOk e.op = true := fun e he => entryOk_op (logOk_ent hok e he)
  have HOP := Lib.hid hop
  have HX : Hid (logTree l = treeFrom treeNew l) := by show _ = _; unfold logTree; rw [hok]; exact treeOf_from hop
  have HR := Lib.hid hr
  clear hL hok hr hW hop
  go_enter Tryd.func15, Tryd.ntmps15
  go_wp2_with fail
  refine HL.out.mono ?_; rintro e w1 ⟨rfl, hb⟩
  have HB := Lib.hid hb
  clear hb
  go_wp2_with fail
  refine (new_s w1).mono ?_; rintro e w2 ⟨v2, rfl, hown2, hb2⟩
  obtain ⟨A2, c2, rfl, hr2⟩ := hown2.rd
  have HB2 := Lib.hid (HB.out.trans (hb2.mono HB.out.size))
  have HR2 := Lib.hid hr2
  clear hown2 hb2 hr2
  generalize hT : treeNew = T0 at HR2 HX ⊢
  have HT0 := Lib.hid hT
  clear hT
  go_wp2_with fail
  refine (tree_s A2 c2 T0 A c l w2 HR2.out (HR.out.ext HB2.out) (by rw [← HT0.out]; exact treeOk_new) HOP.out).mono ?_
  rintro e w3 ⟨v3, rfl, hown3, hb3⟩
  have HO3 := Lib.hid (hown3.lower HB2.out.size); have HB3 := Lib.hid (HB2.out.trans (hb3.mono HB2.out.size))
  clear hown3 hb3
  go_wp2_with fail
  go_ret
  exact ⟨_, rfl, by rw [HX.out]; exact HO3.out, HB3.out⟩
open Go.RowKit
def runOps (t : List Row) (l : List Entry) : List Row := l.foldl (fun t e => opDo t e.op) t
theorem runOps_take (t : List Row) (l : List Entry) (k : Nat) (hk : k < l.length) : runOps t (l.take (k + 1)) = opDo (runOps t (l.take k)) l[k].op := by
 unfold runOps; rw [List.take_succ_eq_append_getElem hk, List.foldl_append]; rfl
theorem gtrans0 {w w1 w2 : World} {row : Option Nat} (h : w.grownBy w1 row) (k : w1.grownBy w2 row) : w.grownBy w2 row :=
 ⟨k.os.trans h.os, k.tape.trans h.tape, k.output.trans h.output, Nat.le_trans h.size k.size, fun i hi hne => (k.block i (Nat.lt_of_lt_of_le hi h.size) hne).trans (h.block i hi hne)⟩
theorem gext0 {w w' : World} {row : Option Nat} (h : Ext w w') : w.grownBy w' row := ⟨h.os, h.tape, h.output, h.size, fun i hi _ => h.block i hi⟩
theorem tab_grown {w w' : World} {p : Nat} (h : Tab w) (hg : w.grownBy w' (some p)) (hp : 0 < p) : Tab w' :=
 h.below (B := 1) ⟨hg.os, hg.tape, hg.output, hg.size, fun k hk => hg.block k (by have := h.pos; omega) (fun e => by injection e; omega)⟩ (by omega)
set_option maxRecDepth 100000 in
set_option maxHeartbeats 2000000 in
theorem each_do (b h : Nat) (f : Nat → Value) (q : List Entry) (n0 p : Nat) (t0 : List Row) (w : World) (ht : Tab w) (hR : Ring w b h f q) (hc : Page w n0 p t0) (hn0 : n0 ≤ w.heap.size) (hbx : n0 ≤ p) (hbp : b ≠ p) (h0 : 0 < n0) :
  Calls Tryd.prog 53 #[.pointer (some ⟨b, 0, none⟩), .func (.func 48) #[.pointer (some ⟨p, 0, none⟩)] #[]] w fun r w' => r = .returned (.tuple #[]) ∧ Page w' n0 p (runOps t0 q) ∧ w.grownBy w' (some p) := by
 have c1 := hR.row.cell (i := 281) (by omega)
 rw [hR.cSz] at c1
 have hlt := hR.row.lt
 have hd := hR.hd
 have hl40 := hR.len
 have HR := Lib.hid hR; have HC := Lib.hid hc; have HT := Lib.hid ht
 clear hR hc ht
 go_enter Tryd.func53, Tryd.ntmps53
 go_wp2
 go_loopg [9] q.length (fun gk i wr => ∃ k : Nat, k ≤ q.length ∧ Hid (gk = q.length - k) ∧ i = .int .i64 k ∧ Hid (Page wr n0 p (runOps t0 (q.take k))) ∧ Hid (w.grownBy wr (some p)))
 case atStart => exact ⟨0, Nat.zero_le _, rfl, rfl, HC.out, grown_refl _ _⟩
 case round =>
  obtain ⟨k, hk, HK, rfl, HQ, HB⟩ := hrel
  by_cases hkl : k < q.length
  ·have hring := HR.out.of_block (HB.out.block b hlt (by simpa using hbp))
   have c0 := hring.row.cell (i := 280) (by omega)
   rw [hring.cHd] at c0
   have hk40 : k < 40 := by omega
   have hwr : IntKind.i64.wrap ((h : Int) + (k : Int)) = (h : Int) + (k : Int) := by rw [IntKind.wrap_i64]; omega
   have hrem : Int.tmod ((h : Int) + (k : Int)) 40 = (((h + k) % 40 : Nat) : Int) := by rw [Int.tmod_eq_emod_of_nonneg (by omega)]; omega
   have e0 := hring.slot k hkl 0 _ rfl; have e1 := hring.slot k hkl 1 _ rfl; have e2 := hring.slot k hkl 2 _ rfl; have e3 := hring.slot k hkl 3 _ rfl; have e4 := hring.slot k hkl 4 _ rfl; have e5 := hring.slot k hkl 5 _ rfl; have e6 := hring.slot k hkl 6 _ rfl
   rw [Nat.add_zero] at e0
   have hm1 : (h + k) % 40 < 40 := Nat.mod_lt _ (by omega)
   generalize hm : (h + k) % 40 = m at *
   have hmm1 : (m : Int) < 40 := by omega
   have hmm0 : (0 : Int) ≤ (m : Int) := by omega
   have hsz := HB.out.size
   have hC := fun (W : World) (hw : W = wr.drew) => pageDo_c n0 p (runOps t0 (q.take k)) q[k] W (hw ▸ (tab_grown HT.out HB.out (by omega)).drewN 1) (hw ▸ (HQ.out.ext (Ext.drewN (Below.refl _ wr) 1))) (by rw [hw]; exact Nat.le_trans hn0 hsz) hbx (HR.out.ok _ (List.getElem_mem hkl))
   have HCC := Lib.hid hC
   clear hring hC hm1 hm
   go_wp2
   refine wp_region_any (by kernel_rfl) ?_
   change wpAny _ _ _ _ _ _ _ (World.drew _)
   refine wpAny_take (i := 0) (v := ?_) rfl (by kernel_rfl) (by kernel_rfl) (by kernel_rfl) (fun _ _ _ h => h) (Or.inl ⟨by rfl, ?_⟩) ?_
   rotate_left
   ·(intro w; go_simp; try with_reducible rfl)
   refine wpAny_take (i := 1) (v := ?_) rfl (by kernel_rfl) (by kernel_rfl) (by kernel_rfl) (fun _ _ _ h => h) (Or.inl ⟨by rfl, ?_⟩) ?_
   rotate_left
   ·(intro w; go_simp; try with_reducible rfl)
   refine wpAny_take (i := 2) (v := ?_) rfl (by kernel_rfl) (by kernel_rfl) (by kernel_rfl) (fun _ _ _ h => h) (Or.inl ⟨by rfl, ?_⟩) ?_
   rotate_left
   ·(intro w; go_simp; try with_reducible rfl)
   refine wpAny_take (i := 3) (v := ?_) rfl (by kernel_rfl) (by kernel_rfl) (by kernel_rfl) (fun _ _ _ h => h) (Or.inl ⟨by rfl, ?_⟩) ?_
   rotate_left
   ·(intro w; go_simp; try with_reducible rfl)
   refine wpAny_take (i := 4) (v := ?_) rfl (by kernel_rfl) (by kernel_rfl) (by kernel_rfl) (fun _ _ _ h => h) (Or.inl ⟨by rfl, ?_⟩) ?_
   rotate_left
   ·(intro w; go_simp; try with_reducible rfl)
   refine wpAny_take (i := 6) (v := ?_) rfl (by kernel_rfl) (by kernel_rfl) (by kernel_rfl) (fun _ _ _ h => h) (Or.inl ⟨by rfl, ?_⟩) ?_
   rotate_left
   ·(intro w; go_simp; try with_reducible rfl)
   refine wpAny_take (i := 9) (v := ?_) rfl (by kernel_rfl) (by kernel_rfl) (by kernel_rfl) (fun _ _ _ h => h) (Or.inl ⟨by rfl, ?_⟩) ?_
   rotate_left
   ·(intro w; go_simp; try with_reducible rfl)
   refine wpAny_take (i := 10) (v := ?_) rfl (by kernel_rfl) (by kernel_rfl) (by kernel_rfl) (fun _ _ _ h => h) (Or.inl ⟨by rfl, ?_⟩) ?_
   rotate_left
   ·(intro w; go_simp; try with_reducible rfl)
   refine wpAny_ready (rs := [5]) (by kernel_rfl) (by simp) ?_
   refine AllReady.cons rfl (fun K hK => ?_) AllReady.nil
   go_simp
   refine hK _ _ ?_; clear hK K
   refine wpAny_take (i := 7) (v := ?_) rfl (by kernel_rfl) (by kernel_rfl) (by kernel_rfl) (fun _ _ _ h => h) (Or.inl ⟨by rfl, ?_⟩) ?_
   rotate_left
   ·(intro w; go_simp; try with_reducible rfl)
   refine wpAny_take (i := 8) (v := ?_) rfl (by kernel_rfl) (by kernel_rfl) (by kernel_rfl) (fun _ _ _ h => h) (Or.inl ⟨by rfl, ?_⟩) ?_
   rotate_left
   ·(intro w; go_simp; try with_reducible rfl)
   refine wpAny_take (i := 11) (v := ?_) rfl (by kernel_rfl) (by kernel_rfl) (by kernel_rfl) (fun _ _ _ h => h) (Or.inl ⟨by rfl, ?_⟩) ?_
   rotate_left
   ·(intro w; go_simp; try with_reducible rfl)
   refine wpAny_ready (rs := [12]) (by kernel_rfl) (by simp) ?_
   refine AllReady.cons rfl (fun K hK => ?_) AllReady.nil
   go_simp
   refine hK _ _ ?_; clear hK K
   refine wpAny_ready (rs := [13]) (by kernel_rfl) (by simp) ?_
   refine AllReady.cons rfl (fun K hK => ?_) AllReady.nil
   go_simp
   go_wp2_with (go_at_call 48; refine (HCC.out _ rfl).mono ?_; rintro r w2 ⟨rfl, hq2, hb2⟩; have HQ2 := Lib.hid hq2; have HB2 := Lib.hid hb2; clear hq2 hb2)
   refine wpAny_done (by kernel_rfl) ?_ _
   go_wp2
   go_roundg (q.length - (k + 1))
   case measure => have := HK.out; omega
   case rel =>
    refine ⟨k + 1, by omega, rfl, by go_num, ?_, ?_⟩
    ·show Page _ _ _ _
     rw [runOps_take t0 q k hkl]; exact HQ2.out
    ·exact gtrans0 HB.out (gtrans0 (gext0 (Ext.drewN (Below.refl _ wr) 1)) HB2.out)
  ·have : k = q.length := by omega
   subst this
   rw [List.take_length] at HQ
   go_wp2
   go_end0
   exact ⟨rfl, HQ.out, HB.out⟩
def showL (c : Client) : List Row := if clientOk c then runOps c.base c.wait else []
set_option maxRecDepth 100000 in
set_option maxHeartbeats 1000000 in
theorem clientShow_c (c : Client) (v : Value) (w : World) (ht : Tab w) (h : CV w c v) :
  Calls Tryd.prog 22 #[v] w fun r w' => ∃ v', r = .returned v' ∧ Own 47 w' w.heap.size v' (showL c) ∧ Ext w w' := by
 have HCV := Lib.hid h; have HT := Lib.hid ht
 obtain ⟨A1, n1, A2, n2, rfl, h1, h2⟩ := h
 have H1 := Lib.hid h1; have H2 := Lib.hid h2
 have hE0 : Ext w (w.alloc (oC c A1 n1 A2 n2)) := (Below.refl _ w).alloc (Nat.le_refl _) _
 have hbox := World.alloc_heap_new w (oC c A1 n1 A2 n2)
 have HC := Lib.hid (clientOk_c c _ (w.alloc (oC c A1 n1 A2 n2)) (HT.out.alloc _) (HCV.out.ext hE0))
 have HE0 := Lib.hid hE0; have HBX := Lib.hid hbox
 have hsz := alloc_sz w (oC c A1 n1 A2 n2)
 have HSZ := Lib.hid hsz
 clear h1 h2 ht hE0 hbox hsz
 go_enter Tryd.func22, Tryd.ntmps22
 go_wp2_with fail
 refine HC.out.mono ?_
 rintro e w1 ⟨rfl, hb1⟩
 have hx1 := (hb1.block w.heap.size (by rw [HSZ.out]; omega)).trans HBX.out
 have hE1 := HE0.out.trans (hb1.mono HE0.out.size)
 have HX1 := Lib.hid hx1; have HE1 := Lib.hid hE1
 obtain ⟨c0, c1, c2, c3, c4, c5, cf⟩ := six_cells hx1
 clear hb1 hx1 hE1 HC
 cases hok : clientOk c
 ·have HR : Hid (showL c = []) := by show _ = _; unfold showL; rw [hok]; rfl
  clear hok
  go_wp2_with fail
  go_ret
  exact ⟨_, rfl, by rw [HR.out]; exact Own.nil _ _ _, HE1.out⟩
 ·obtain ⟨hw9, hs0, hs40, htr, hd0, hd1, hwl, hm0, hm1, hwt⟩ := clientOk_parts hok
  have hbl := treeOk_len htr
  have HR : Hid (showL c = runOps c.base c.wait) := by show _ = _; unfold showL; rw [hok]; rfl
  have HCL := Lib.hid (clone_row A1 n1 c.base w1 (H1.out.ext HE1.out) (by omega))
  have hw40 : c.wait.length ≤ 40 := by omega
  clear hw9 hs0 hs40 htr hd0 hd1 hwl hm0 hm1 hwt hok hbl
  go_wp2_with fail
  refine HCL.out.mono ?_
  rintro e w2 ⟨v2, rfl, hown2, hb2⟩
  obtain ⟨A3, n3, rfl, hr3⟩ := hown2.rd
  have hx2 := (hb2.block _ (blk_lt HX1.out)).trans HX1.out
  have hE2 := HE1.out.trans (hb2.mono HE1.out.size)
  have hEp : Ext w2 (w2.alloc (.cells #[.slice A3 c.base.length n3] 66)) := (Below.refl _ w2).alloc (Nat.le_refl _) _
  have hpage : Page (w2.alloc (.cells #[.slice A3 c.base.length n3] 66)) w.heap.size w2.heap.size c.base := ⟨_, World.alloc_heap_new w2 _, (hown2.below hEp).lower HE1.out.size⟩
  have hx3 := (hEp.block _ (blk_lt hx2)).trans hx2
  have hsp := alloc_sz w2 (.cells #[.slice A3 c.base.length n3] 66)
  have hgt := blk_lt hx2
  obtain ⟨d0, d1, d2, d3, d4, d5, df⟩ := six_cells hx3
  have HX3 := Lib.hid hx3; have HE3 := Lib.hid (hE2.trans (hEp.mono hE2.size)); have HPG := Lib.hid hpage; have HSP := Lib.hid hsp; have HGT := Lib.hid hgt
  have HE2 := Lib.hid hE2
  clear c0 c1 c2 c3 c4 c5 cf hown2 hr3 hb2 hx2 hE2 hEp hpage hx3 hsp hgt HCL
  go_wp2_with fail
  refine (ringOf_c A2 n2 c.wait _ (H2.out.ext HE3.out) hw40).mono ?_
  rintro e w4 ⟨rb, f4, rfl, hring, hrb, hb4⟩
  have HRG := Lib.hid hring; have HB4 := Lib.hid hb4; have HRB := Lib.hid hrb
  clear hring hb4 hrb d0 d1 d2 d3 d4 d5 df
  have hn := HE2.out.size
  have hE4 := HE3.out.trans (HB4.out.mono HE3.out.size)
  have hsp := HSP.out; have hrb := HRB.out
  have hD := each_do rb 0 f4 c.wait w.heap.size w2.heap.size c.base w4 (HT.out.below hE4 HT.out.pos) HRG.out (HPG.out.ext HB4.out) hE4.size hn (by omega) HT.out.pos
  have HD := Lib.hid hD; have HE4 := Lib.hid hE4
  clear hD hE4 hsp hrb
  go_wp2_with fail
  refine HD.out.mono ?_
  rintro e w5 ⟨rfl, ⟨v5, hbx5, hown5⟩, hg5⟩
  have q0 := hbx5.cell
  have HG5 := Lib.hid hg5; have HO5 := Lib.hid hown5
  clear HD hbx5 hown5 hg5 HPG HRG
  go_wp2_with fail
  go_ret
  refine ⟨_, rfl, by rw [HR.out]; exact HO5.out, ?_⟩
  exact ext_grown HE4.out HG5.out HE4.out.size (fun k hk => by injection hk with hk; subst hk; exact hn)
open Go.RowKit
theorem mid3_new (w : World) (x y z : Obj) : (((w.alloc x).alloc y).alloc z).heap[w.heap.size + 1]? = some y := by
 have h := (two_new w x y).2
 have hs := blk_lt h
 exact (Below.heap_alloc _ z _ hs).trans h
theorem cells3 {W : World} {b : Nat} {v0 v1 v2 : Value} {ty : TypeId} (h : W.heap[b]? = some (.cells #[v0, v1, v2] ty (0, 0))) :
  W.cell? ⟨b, 0, none⟩ = some v0 ∧ W.cell? ⟨b, 1, none⟩ = some v1 ∧ W.cell? ⟨b, 2, none⟩ = some v2 := by
 refine ⟨by simp [World.cell?, h], by simp [World.cell?, h], by simp [World.cell?, h]⟩
theorem ext3 (w : World) (x y z : Obj) : Ext w (((w.alloc x).alloc y).alloc z) := (((Below.refl _ w).alloc (Nat.le_refl _) x).alloc (by simp) y).alloc (by simp only [alloc_sz]; omega) z
theorem three_all (w : World) (x y z : Obj) : (((w.alloc x).alloc y).alloc z).heap[w.heap.size]? = some x ∧ (((w.alloc x).alloc y).alloc z).heap[w.heap.size + 1]? = some y ∧ (((w.alloc x).alloc y).alloc z).heap[w.heap.size + 2]? = some z := by
 have h := two_new w x y
 have hs : ((w.alloc x).alloc y).heap.size = w.heap.size + 2 := by simp only [alloc_sz]
 have hz : (((w.alloc x).alloc y).alloc z).heap[((w.alloc x).alloc y).heap.size]? = some z := (MapKept.heap_alloc _ z).1
 rw [hs] at hz
 exact ⟨(Below.heap_alloc _ z _ (by omega)).trans h.1, (Below.heap_alloc _ z _ (by omega)).trans h.2, hz⟩
open Go.RowKit Go.Lib
set_option maxRecDepth 100000 in
set_option maxHeartbeats 2000000 in
theorem copy_s (c : Client) (v : Value) (w : World) (h : CV w c v) (hb : c.base.length ≤ 1000000) (hw : c.wait.length ≤ 1000000) :
  Calls Tryd.prog 65 #[v] w fun r w' => ∃ v', r = .returned v' ∧ CO w' w.heap.size c v' ∧ Ext w w' := by
 obtain ⟨A1, n1, A2, n2, rfl, h1, h2⟩ := h
 have H1 := Lib.hid h1; have H2 := Lib.hid h2
 have hX := two_new w (oC c A1 n1 A2 n2) oC0
 have hE0 : Ext w ((w.alloc (oC c A1 n1 A2 n2)).alloc oC0) := ((Below.refl _ w).alloc (Nat.le_refl _) _).alloc (by rw [alloc_sz]; omega) _
 have hs0 : ((w.alloc (oC c A1 n1 A2 n2)).alloc oC0).heap.size = w.heap.size + 2 := by rw [alloc_sz, alloc_sz]
 obtain ⟨v3, w3, hrun, hown3, hg3⟩ := app_at el_row (own_made (e := 47) (α := Row) ((w.alloc (oC c A1 n1 A2 n2)).alloc oC0) (w.heap.size + 2) (by omega)) ((h1.ext hE0).alloc (.cells #[] 47)) (by simp; omega) (by rw [alloc_sz]; omega)
 have hs3 := hg3.size
 rw [alloc_sz, hs0] at hs3
 have hE3 := ext_grown (hE0.alloc (by omega) (.cells #[] 47)) hg3 (by rw [alloc_sz]; omega) (fun k hk => by simp only [Value.ownBlock, Option.some.injEq] at hk; omega)
 have hx3 := (hg3.block w.heap.size (by rw [alloc_sz]; omega) (fun e => by simp only [Value.ownBlock, Option.some.injEq] at e; omega)).trans ((Below.heap_alloc _ (.cells #[] 47) w.heap.size (by omega)).trans hX.1)
 have hy3 := (hg3.block (w.heap.size + 1) (by rw [alloc_sz]; omega) (fun e => by simp only [Value.ownBlock, Option.some.injEq] at e; omega)).trans ((Below.heap_alloc _ (.cells #[] 47) (w.heap.size + 1) (by omega)).trans hX.2)
 rw [List.nil_append] at hown3
 obtain ⟨A3, n3, rfl, hr3⟩ := hown3.rd
 have HO3 := Lib.hid hown3; have HE3 := Lib.hid hE3; have HX3 := Lib.hid hx3; have HY3 := Lib.hid hy3
 simp only [alloc_sz] at hrun
 obtain ⟨c0, c1, c2, c3, c4, c5, cf⟩ := six_cells hx3
 have hlt1 : w.heap.size < w3.heap.size := by omega
 have hlt2 : w.heap.size + 1 < w3.heap.size := by omega
 have hE4 : Ext w (w3.setCell ⟨w.heap.size, 2, none⟩ (.slice A3 c.base.length n3)) := HE3.out.setCell (Nat.le_refl _) _
 have hs4 : (w3.setCell ⟨w.heap.size, 2, none⟩ (.slice A3 c.base.length n3)).heap.size = w3.heap.size := setsz _ _ _
 obtain ⟨v5, w5, hrun5, hown5, hg5⟩ := app_at el_ent (own_made (e := 44) (α := Entry) (w3.setCell ⟨w.heap.size, 2, none⟩ (.slice A3 c.base.length n3)) w3.heap.size (by omega)) ((h2.ext hE4).alloc (.cells #[] 44)) (by simp; omega) (by rw [alloc_sz]; omega)
 have hs5 := hg5.size
 rw [alloc_sz, hs4] at hs5
 have hE5 := ext_grown (hE4.alloc (by omega) (.cells #[] 44)) hg5 (by rw [alloc_sz]; omega) (fun k hk => by simp only [Value.ownBlock, Option.some.injEq] at hk; omega)
 have hx5 := (hg5.block w.heap.size (by rw [alloc_sz]; omega) (fun e => by simp only [Value.ownBlock, Option.some.injEq] at e; omega)).trans ((Below.heap_alloc _ (.cells #[] 44) w.heap.size (by omega)).trans (set_at hx3))
 have hy5 := (hg5.block (w.heap.size + 1) (by rw [alloc_sz]; omega) (fun e => by simp only [Value.ownBlock, Option.some.injEq] at e; omega)).trans ((Below.heap_alloc _ (.cells #[] 44) (w.heap.size + 1) (by omega)).trans ((setx (by omega)).trans hy3))
 have ho3 := hown3.of_blocks (w' := w5) (fun k hk hkl => (hg5.block k (by rw [alloc_sz]; omega) (fun e => by simp only [Value.ownBlock, Option.some.injEq] at e; omega)).trans ((Below.heap_alloc _ (.cells #[] 44) k (by omega)).trans (setx (by omega))))
 rw [List.nil_append] at hown5
 obtain ⟨A5, n5, rfl, hr5⟩ := hown5.rd
 have HO5 := Lib.hid hown5; have HE5 := Lib.hid hE5; have HY5 := Lib.hid hy5; have HO3b := Lib.hid ho3
 rw [hs4] at hrun5
 have hx5' : w5.heap[w.heap.size]? = some (.cells (cC c A3 n3 A2 n2) 30 (0, 0)) := hx5
 obtain ⟨d0, d1, d2, d3, d4, d5, df⟩ := six_cells hx5'
 obtain ⟨e0, e1, e2, e3, e4, e5, ef⟩ := six_cells hy5
 clear h1 h2 hX hE0 hs0 hown3 hr3 hg3 hE3 hx3 hy3 hE4 hs4 hown5 hg5 hE5 hx5 hy5 ho3 hr5 hx5'
 go_enter Tryd.func65, Tryd.ntmps65
 go_wp2_with (at_builtin; first | refine wpList_append_run rfl _ _ _ rfl rfl rfl hrun ?_ | refine wpList_append_run rfl _ _ _ rfl rfl rfl hrun5 ?_)
 have hz := set_at (v := .int .i64 c.made) (i := 5) (set_at (v := .int .i64 c.done) (i := 4) (set_at (v := .slice A5 c.wait.length n5) (i := 3) (set_at (v := .slice A3 c.base.length n3) (i := 2) (set_at (v := .int .i64 c.seen) (i := 1) (set_at (v := .int .i64 c.who) (i := 0) ((setx (o := 3) (v := .slice A5 c.wait.length n5) (b := w.heap.size) (by omega)).trans HY5.out))))))
 obtain ⟨k0, k1, k2, k3, k4, k5, kf⟩ := six_cells (v0 := .int .i64 c.who) (v1 := .int .i64 c.seen) (v2 := .slice A3 c.base.length n3) (v3 := .slice A5 c.wait.length n5) (v4 := .int .i64 c.done) (v5 := .int .i64 c.made) hz
 refine bodyPost_ret (v := .agg (cC c A3 n3 A5 n5)) ?_ rfl ?_
 ·simp [results, Tryd.f65, go_sem, k0, k1, k2, k3, k4, k5]
 ·have hfar : ∀ k, w.heap.size + 2 ≤ k → (((((((w5.setCell ⟨w.heap.size, 3, none⟩ (.slice A5 c.wait.length n5)).setCell ⟨w.heap.size + 1, 0, none⟩ (.int .i64 c.who)).setCell ⟨w.heap.size + 1, 1, none⟩ (.int .i64 c.seen)).setCell ⟨w.heap.size + 1, 2, none⟩ (.slice A3 c.base.length n3)).setCell ⟨w.heap.size + 1, 3, none⟩ (.slice A5 c.wait.length n5)).setCell ⟨w.heap.size + 1, 4, none⟩ (.int .i64 c.done)).setCell ⟨w.heap.size + 1, 5, none⟩ (.int .i64 c.made)).heap[k]? = w5.heap[k]? := fun k hk =>
   (setx (by omega)).trans ((setx (by omega)).trans ((setx (by omega)).trans ((setx (by omega)).trans ((setx (by omega)).trans ((setx (by omega)).trans (setx (by omega)))))))
  have r1 := (HO3b.out.of_blocks (w' := _) (fun k hk hkl => hfar k (by omega))).lower (base' := w.heap.size) (by omega)
  have r2 := (HO5.out.of_blocks (w' := _) (fun k hk hkl => hfar k (by omega))).lower (base' := w.heap.size) (by omega)
  refine ⟨_, rfl, ⟨_, _, _, _, rfl, r1, r2⟩, ?_⟩
  exact (((((((HE5.out.setCell (Nat.le_refl _) _).setCell (Nat.le_succ _) _).setCell (Nat.le_succ _) _).setCell (Nat.le_succ _) _).setCell (Nat.le_succ _) _).setCell (Nat.le_succ _) _).setCell (Nat.le_succ _) _)
open Go.RowKit
theorem clientHear_c (c : Client) (v : Value) (frm : Int) (A : Option Addr) (cap : Nat) (l : List Entry) (w : World) (ht : Tab w) (h : CV w c v) (hr : Rd w A cap l) :
  Calls Tryd.prog 18 #[v, .int .i64 frm, .slice A l.length cap] w fun r w' => ∃ v', r = .returned (.tuple #[v', .bool (clientHear c frm l).2]) ∧ CO w' w.heap.size (clientHear c frm l).1 v' ∧ Ext w w' := by
 by_cases hb : clientOk c = false ∨ frm < 0 ∨ 40 < frm
 ·exact clientHear_bad c v frm A cap l w ht h hr hb
 ·have hok : clientOk c = true := by
   cases h9 : clientOk c
   ·exact absurd (.inl h9) hb
   ·rfl
  have h0 : ¬ frm < 0 := fun e => hb (.inr (.inl e))
  have h1 : ¬ 40 < frm := fun e => hb (.inr (.inr e))
  cases hall : l.all entryOk
  ·exact clientHear_entry c v frm A cap l w ht h hr hok h0 h1 hall
  ·have hall' : ∀ x ∈ l, entryOk x = true := List.all_eq_true.1 hall
   by_cases hf : c.seen < frm ∨ 40 - frm < l.length
   ·exact clientHear_far c v frm A cap l w ht h hr hok h0 h1 hall' hf
   ·exact clientHear_go c v frm A cap l w ht h hr hok h0 h1 hall' (fun e => hf (.inl e)) (fun e => hf (.inr e))
open Go.RowKit Go.Lib
def hearS (c : Client) (frm : Int) (l : List Entry) : Client × Bool :=
 if c.seen < frm ∨ 40 - frm < l.length then (c, false)
 else match hearL c.who (l.drop (c.seen - frm).toNat) c.wait c.base c.done c.seen with
  |none => (c, false)
  |some (q, t, d, n) => (⟨c.who, n, t, q, d, c.made⟩, true)
def RdT {α : Type} [Flat α] (e : TypeId) (w : World) (A : Option Addr) (c : Nat) (l : List α) : Prop := Rd w A c l ∧ (0 < l.length → ∀ bb off, A = some ⟨bb, off, none⟩ → ∃ cs m, w.heap[bb]? = some (.cells cs e m))
section
variable {α : Type} [Flat α] {e : TypeId} {w w' : World} {A : Option Addr} {c : Nat} {l : List α}
theorem RdT.ext (h : RdT e w A c l) (hb : Ext w w') : RdT e w' A c l := by
 refine ⟨h.1.ext hb, fun h0 bb off e0 => ?_⟩
 obtain ⟨cs, m, h1⟩ := h.2 h0 bb off e0
 exact ⟨cs, m, (hb.block bb (blk_lt h1)).trans h1⟩
theorem RdT.far {b : Nat} {cs : Array Value} {ty : TypeId} {m : Nat × Nat} (h : RdT e w A c l) (hb : w.heap[b]? = some (.cells cs ty m)) (hne : ty ≠ e) (h0 : 0 < l.length) (bb off : Nat) (e0 : A = some ⟨bb, off, none⟩) : bb ≠ b := by
 obtain ⟨cs', m', h1⟩ := h.2 h0 bb off e0
 rintro rfl
 rw [hb] at h1
 injection h1 with h1; injection h1 with _ h1
 exact hne h1
theorem RdT.set {b : Nat} {cs : Array Value} {ty : TypeId} {m : Nat × Nat} (h : RdT e w A c l) (hb : w.heap[b]? = some (.cells cs ty m)) (hne : ty ≠ e) (i : Nat) (v : Value) : RdT e (w.setCell ⟨b, i, none⟩ v) A c l := by
 refine ⟨⟨h.1.1, h.1.2.1, fun h0 => ?_, h.1.2.2.2⟩, fun h0 bb off e0 => ?_⟩
 ·obtain ⟨bb, off, rfl, hh⟩ := h.1.2.2.1 h0
  have := h.far hb hne h0 bb off rfl
  exact ⟨bb, off, rfl, fun j v hv => (World.cell?_of_block (setx (by show bb ≠ b; exact this))).trans (hh j v hv)⟩
 ·obtain ⟨cs', m', h1⟩ := h.2 h0 bb off e0
  exact ⟨cs', m', (setx (h.far hb hne h0 bb off e0)).trans h1⟩
theorem RdT.put6 {b : Nat} {a0 a1 a2 a3 a4 a5 : Value} {ty : TypeId} (h : RdT e w A c l) (hb : w.heap[b]? = some (.cells #[a0, a1, a2, a3, a4, a5] ty (0, 0))) (hne : ty ≠ e) (v0 v1 v2 v3 v4 v5 : Value) : RdT e (Proofs.YtjhbbgeebobcpaaDoor.put6 w b v0 v1 v2 v3 v4 v5) A c l :=
 (((((h.set hb hne _ _).set (set_at hb) hne _ _).set (set_at (set_at hb)) hne _ _).set (set_at (set_at (set_at hb))) hne _ _).set (set_at (set_at (set_at (set_at hb)))) hne _ _).set (set_at (set_at (set_at (set_at (set_at hb))))) hne _ _
theorem RdT.nil (e : TypeId) (w : World) : RdT e w none 0 ([] : List α) := ⟨Rd.nil w, fun h => by simp at h⟩
theorem RdT.tail (h : RdT e w A c l) : RdT e w (fromA A c 1 (Flat.sz α)) (c - 1) (l.drop 1) := by
 by_cases hl : 1 ≤ l.length
 ·refine ⟨h.1.from_ 1 hl, fun h0 bb off e0 => ?_⟩
  rw [List.length_drop] at h0
  obtain ⟨b', off', rfl, _⟩ := h.1.2.2.1 (by omega)
  have h2 := h.2 (by omega) b' off' rfl
  have hbb : bb = b' := by
   unfold fromA at e0
   split at e0
   ·injection e0 with e0; injection e0 with e1 _; exact e1.symm
   ·simp only [Option.map_some, Option.some.injEq] at e0
    unfold Addr.add at e0
    split at e0
    ·injection e0 with e1 _; exact e1.symm
    ·injection e0 with e1 _; exact e1.symm
  rw [hbb]; exact h2
 ·have h0 : l = [] := by cases l with
   |nil => rfl
   |cons x l => simp at hl
  subst h0
  refine ⟨⟨by simp, by have := h.1.2.1; omega, fun h0 => by simp at h0, by simp⟩, fun h0 => by simp at h0⟩
end
theorem Own.rdT {α : Type} [Flat α] {e : TypeId} {base : Nat} {w : World} {A : Option Addr} {c n : Nat} {l : List α} (h : Own e w base (.slice A n c) l) : RdT e w A c l := by
 obtain ⟨A', c', e', hr⟩ := h.rd
 simp only [Value.slice.injEq] at e'
 obtain ⟨rfl, -, rfl⟩ := e'
 refine ⟨hr, fun h0 bb off e0 => ?_⟩
 subst e0
 rcases h.1.2 with ⟨h9, _⟩ | ⟨g, cap, cur, h9, _, hh, _⟩
 ·cases h9
 ·simp only [Value.slice.injEq, Option.some.injEq, Addr.mk.injEq] at h9
  obtain ⟨⟨rfl, _⟩, _⟩ := h9
  exact ⟨cur, _, hh⟩
def CT (w : World) (c : Client) (v : Value) : Prop :=
 ∃ A1 n1 A2 n2, v = .agg #[.int .i64 c.who, .int .i64 c.seen, .slice A1 c.base.length n1, .slice A2 c.wait.length n2, .int .i64 c.done, .int .i64 c.made] ∧ RdT 47 w A1 n1 c.base ∧ RdT 44 w A2 n2 c.wait
theorem CT.cv {w : World} {c : Client} {v : Value} (h : CT w c v) : CV w c v := by
 obtain ⟨A1, n1, A2, n2, rfl, h1, h2⟩ := h
 exact ⟨A1, n1, A2, n2, rfl, h1.1, h2.1⟩
theorem CT.ext {w w' : World} {c : Client} {v : Value} (h : CT w c v) (hb : Ext w w') : CT w' c v := by
 obtain ⟨A1, n1, A2, n2, rfl, h1, h2⟩ := h
 exact ⟨A1, n1, A2, n2, rfl, h1.ext hb, h2.ext hb⟩
theorem CO.ct {w : World} {base : Nat} {c : Client} {v : Value} (h : CO w base c v) : CT w c v := by
 obtain ⟨A1, n1, A2, n2, rfl, h1, h2⟩ := h
 exact ⟨_, _, _, _, rfl, h1.rdT, h2.rdT⟩
def Sh (b : Nat) (W0 W : World) (c : Client) (B : Option Addr) (cb : Nat) (t : List Row) (Q : Option Addr) (cq : Nat) (q : List Entry) (d n : Int) : Prop :=
 W.heap[b]? = some (.cells #[.int .i64 c.who, .int .i64 n, .slice B t.length cb, .slice Q q.length cq, .int .i64 d, .int .i64 c.made] 30 (0, 0)) ∧ RdT 47 W B cb t ∧ RdT 44 W Q cq q ∧ Below b W0 W
set_option maxRecDepth 100000 in
set_option maxHeartbeats 1000000 in
theorem hear_s (c : Client) (v : Value) (frm : Int) (A : Option Addr) (cap : Nat) (l : List Entry) (w : World) (h : CT w c v) (hr : Rd w A cap l) (hok : clientOk c = true) (hf0 : 0 ≤ frm) (hf1 : frm ≤ 40) (hall : ∀ x ∈ l, entryOk x = true) (hll : l.length ≤ 2000000) :
  Calls Tryd.prog 64 #[v, .int .i64 frm, .slice A l.length cap] w fun r w' => ∃ v', r = .returned (.tuple #[v', .bool (hearS c frm l).2]) ∧ CT w' (hearS c frm l).1 v' ∧ Ext w w' := by
 have HALL := Lib.hid hall
 obtain ⟨hw9, hs0, hs40, htr, hd0, hd1, hwl, hm0, hm1, hwt⟩ := clientOk_parts hok
 have HTR := Lib.hid htr
 obtain ⟨A1, n1, A2, n2, rfl, h1, h2⟩ := h
 have hX := two_new w (oC c A1 n1 A2 n2) oC0
 have hE0 : Ext w ((w.alloc (oC c A1 n1 A2 n2)).alloc oC0) := ((Below.refl _ w).alloc (Nat.le_refl _) _).alloc (by rw [alloc_sz]; omega) _
 have hz0 : ((w.alloc (oC c A1 n1 A2 n2)).alloc oC0).heap.size = w.heap.size + 2 := by rw [alloc_sz, alloc_sz]
 have HR := Lib.hid hr; have H1 := Lib.hid h1; have H2 := Lib.hid h2
 clear hw9 htr hm0 hm1 hwt hok hall
 by_cases hfar : c.seen < frm ∨ 40 - frm < l.length
 ·have HRES : Hid (hearS c frm l = (c, false)) := by show _ = _; unfold hearS; rw [if_pos hfar]
  have hz := (two_new w (oC c A1 n1 A2 n2) (oC c A1 n1 A2 n2)).2
  have hE : Ext w ((w.alloc (oC c A1 n1 A2 n2)).alloc (oC c A1 n1 A2 n2)) := ((Below.refl _ w).alloc (Nat.le_refl _) _).alloc (by rw [alloc_sz]; omega) _
  have hcv : CT ((w.alloc (oC c A1 n1 A2 n2)).alloc (oC c A1 n1 A2 n2)) c (.agg (cC c A1 n1 A2 n2)) := ⟨A1, n1, A2, n2, rfl, h1.ext hE, h2.ext hE⟩
  have HZ := Lib.hid hz; have HE := Lib.hid hE; have HCV := Lib.hid hcv
  clear hX hE0 hz hE h1 h2 hr hcv
  by_cases hs : c.seen < frm
  ·clear hfar
   go_enter Tryd.func64, Tryd.ntmps64
   go_wp2_with fail
   obtain ⟨k0, k1, k2, k3, k4, k5, kf⟩ := six_cells HZ.out
   refine bodyPost_ret (v := .tuple #[(.agg (cC c A1 n1 A2 n2)), .bool false]) ?_ rfl ?_
   ·simp [results, Tryd.f64, go_sem, k0, k1, k2, k3, k4, k5]
   ·exact ⟨_, by rw [HRES.out], by rw [HRES.out]; exact HCV.out, HE.out⟩
  ·have hlong : (40 : Int) < frm + l.length := by omega
   clear hfar
   go_enter Tryd.func64, Tryd.ntmps64
   go_wp2_with fail
   obtain ⟨k0, k1, k2, k3, k4, k5, kf⟩ := six_cells HZ.out
   refine bodyPost_ret (v := .tuple #[(.agg (cC c A1 n1 A2 n2)), .bool false]) ?_ rfl ?_
   ·simp [results, Tryd.f64, go_sem, k0, k1, k2, k3, k4, k5]
   ·exact ⟨_, by rw [HRES.out], by rw [HRES.out]; exact HCV.out, HE.out⟩
 ·have hn1 : ¬ c.seen < frm := fun e => hfar (.inl e)
  have hn2 : ¬ (40 : Int) < frm + l.length := fun e => hfar (.inr (by omega))
  obtain ⟨k0, hk0⟩ : ∃ k0 : Nat, k0 = (c.seen - frm).toNat := ⟨_, rfl⟩
  have hk1 : frm + (k0 : Int) = c.seen := by omega
  have hmax : max (c.seen - frm) 0 = (k0 : Int) := by omega
  have hres : hearS c frm l = (match hearL c.who (l.drop k0) c.wait c.base c.done c.seen with | none => (c, false) | some (q, t, d, n) => (⟨c.who, n, t, q, d, c.made⟩, true)) := by
   unfold hearS; rw [if_neg hfar, hk0]
  have HRES := Lib.hid hres
  obtain ⟨c0, c1, c2, c3, c4, c5, cf⟩ := six_cells hX.1
  have h3 := three_all w (oC c A1 n1 A2 n2) oC0 (oC c A1 n1 A2 n2)
  have hE3 : Ext w (((w.alloc (oC c A1 n1 A2 n2)).alloc oC0).alloc (oC c A1 n1 A2 n2)) := hE0.alloc (by omega) _
  have hz3 : (((w.alloc (oC c A1 n1 A2 n2)).alloc oC0).alloc (oC c A1 n1 A2 n2)).heap.size = w.heap.size + 3 := by rw [alloc_sz, hz0]
  have hst : Sh (w.heap.size + 1 + 1) (((w.alloc (oC c A1 n1 A2 n2)).alloc oC0).alloc (oC c A1 n1 A2 n2)) (((w.alloc (oC c A1 n1 A2 n2)).alloc oC0).alloc (oC c A1 n1 A2 n2)) c A1 n1 c.base A2 n2 c.wait c.done c.seen := ⟨h3.2.2, h1.ext hE3, h2.ext hE3, Below.refl _ _⟩
  have HST := Lib.hid hst; have HE3 := Lib.hid hE3; have H31 := Lib.hid h3.1; have H32 := Lib.hid h3.2.1
  clear hX hE0 h1 h2 hr hres hfar hk0 h3 hE3 hst hz0
  go_enter Tryd.func64, Tryd.ntmps64
  go_wp2_with fail
  clear c0 c1 c2 c3 c4 c5 cf
  generalize (((w.alloc (oC c A1 n1 A2 n2)).alloc oC0).alloc (oC c A1 n1 A2 n2)) = W3 at *
  have hne9 : ∀ W6 : World, Below (w.heap.size + 1 + 1) W3 W6 → (put6 W6 (w.heap.size + 1) (.int .i64 c.who) (.int .i64 c.seen) (.slice A1 c.base.length n1) (.slice A2 c.wait.length n2) (.int .i64 c.done) (.int .i64 c.made)).heap[w.heap.size + 1]? = some (.cells (cC c A1 n1 A2 n2) 30 (0, 0)) ∧
    CT (put6 W6 (w.heap.size + 1) (.int .i64 c.who) (.int .i64 c.seen) (.slice A1 c.base.length n1) (.slice A2 c.wait.length n2) (.int .i64 c.done) (.int .i64 c.made)) c (.agg (cC c A1 n1 A2 n2)) ∧ Ext w (put6 W6 (w.heap.size + 1) (.int .i64 c.who) (.int .i64 c.seen) (.slice A1 c.base.length n1) (.slice A2 c.wait.length n2) (.int .i64 c.done) (.int .i64 c.made)) := fun W6 h6 => by
   have hE : Ext w (put6 W6 (w.heap.size + 1) (.int .i64 c.who) (.int .i64 c.seen) (.slice A1 c.base.length n1) (.slice A2 c.wait.length n2) (.int .i64 c.done) (.int .i64 c.made)) := put6_below _ _ _ _ _ _ (HE3.out.trans (h6.mono (by omega))) (Nat.le_succ _)
   exact ⟨put6_at _ _ _ _ _ _ ((h6.block (w.heap.size + 1) (by omega)).trans H32.out), ⟨A1, n1, A2, n2, rfl, H1.out.ext hE, H2.out.ext hE⟩, hE⟩
  have HNE := Lib.hid hne9
  clear hne9
  go_loopg [9] (l.length - k0) (fun gk i wr => ∃ (k : Nat) (B : Option Addr) (cb : Nat) (t : List Row) (Q : Option Addr) (cq : Nat) (q : List Entry) (d : Int), k0 ≤ k ∧ (k ≤ l.length ∨ k = k0) ∧ Hid (gk = l.length - k) ∧ i = .int .i64 k ∧ Hid (Sh (w.heap.size + 1 + 1) W3 wr c B cb t Q cq q d (frm + k)) ∧ Hid (treeOk t = true) ∧ Hid (hearL c.who (l.drop k) q t d (frm + k) = hearL c.who (l.drop k0) c.wait c.base c.done c.seen) ∧ 0 ≤ d ∧ d ≤ c.done + k)
  case atStart => exact ⟨k0, A1, n1, c.base, A2, n2, c.wait, c.done, Nat.le_refl _, .inr rfl, rfl, rfl, by show Sh _ _ _ _ _ _ _ _ _ _ _ _; rw [hk1]; exact HST.out, HTR.out, by show _ = _; rw [hk1], hd0, by omega⟩
  case round =>
   obtain ⟨k, B, cb, t, Q, cq, q, d, hk, hkl, HK, rfl, HS, HT, HH, hd2, hd3⟩ := hrel
   have hbW := HS.out.2.2.2
   have hEr : Ext w wr := HE3.out.trans (hbW.mono (by omega))
   have hbx := (hbW.block w.heap.size (by omega)).trans H31.out
   have hby := (hbW.block (w.heap.size + 1) (by omega)).trans H32.out
   have hlt2 := blk_lt HS.out.1
   have hltb := blk_lt hbx
   have HER := Lib.hid hEr; have HBX := Lib.hid hbx; have HBY := Lib.hid hby; have HBW := Lib.hid hbW
   clear hbW hEr
   by_cases hlt : k < l.length
   ·obtain ⟨b, off, rfl, hbl, e0, e1, e2, e3, e4, e5, e6⟩ := ent_at (HR.out.ext HER.out) k hlt
    obtain ⟨c0, c1, c2, c3, c4, c5, cf⟩ := six_cells hbx
    obtain ⟨x0, x1, x2, x3, x4, x5, xf⟩ := six_cells HS.out.1
    have hHH := HH.out
    rw [List.drop_eq_getElem_cons hlt] at hHH
    have HHH := Lib.hid hHH
    have hli : (k : Int) < l.length := by omega
    have hek := HALL.out _ (List.getElem_mem hlt)
    have HEK := Lib.hid hek
    have hoe := HR.out.okAt k hlt
    have HOE := Lib.hid hoe
    have hfl : (frm + (k : Int)) < 40 := by omega
    have hcx : (frm + (k : Int)) + 1 = frm + ((k + 1 : Nat) : Int) := by omega
    have HCX := Lib.hid hcx
    clear hbx hby hHH hek hoe hcx
    by_cases hwho : l[k].who = c.who
    ·have hwho' : (l[k].who == c.who) = true := by simp [hwho]
     have HWHO := Lib.hid hwho
     clear hwho
     cases q with
     |nil =>
      have hnone : hearL c.who (l.drop k0) c.wait c.base c.done c.seen = none := by rw [← HHH.out]; simp [hearL, HWHO.out]
      have HNONE := Lib.hid hnone
      simp only [List.length_nil] at x3
      clear hnone
      go_wp2_with fail
      go_region
      go_wp2_with fail
      go_region
      obtain ⟨d0, d1, d2, d3, d4, d5, df⟩ := six_cells HBY.out
      go_wp2_with fail
      obtain ⟨hz, hco, hE⟩ := HNE.out wr HBW.out
      obtain ⟨k0', k1, k2, k3, k4, k5, kf⟩ := six_cells hz
      refine bodyPost_ret (v := .tuple #[(.agg (cC c A1 n1 A2 n2)), .bool false]) ?_ rfl ?_
      ·simp [results, Tryd.f64, go_sem, k0', k1, k2, k3, k4, k5]
      ·have hr9 : hearS c frm l = (c, false) := by rw [HRES.out, HNONE.out]
       exact ⟨_, by rw [hr9], by rw [hr9]; exact hco.ext ((Below.refl _ _).drew.drew), Below.drew (Below.drew hE)⟩
     |cons y q =>
      obtain ⟨b2, off2, rfl, hbl2, q0, q1, q2, q3, q4, q5, q6⟩ := ent_at HS.out.2.2.1.1 0 (by simp)
      simp only [Nat.zero_mul, Nat.add_zero, List.getElem_cons_zero] at q0 q1 q2 q3 q4 q5 q6
      simp only [List.length_cons] at x3
      have hqc := HS.out.2.2.1.1.1
      have hqm := HS.out.2.2.1.1.2.1
      unfold maxLen at hqm
      simp only [List.length_cons] at hqc
      have hsz0 : (((q.length : Int) + 1) == 0) = false := by rw [beq_eq_false_iff_ne]; omega
      have hne := neq_ent y l[k]
      by_cases hy : y = l[k]
      ·rw [decide_eq_true hy] at hne
       have hnext : hearL c.who (l.drop (k + 1)) q (opDo t l[k].op) (d + 1) (frm + ((k + 1 : Nat) : Int)) = hearL c.who (l.drop k0) c.wait c.base c.done c.seen := by rw [← HHH.out, ← HCX.out]; simp [hearL, HWHO.out, hy]
       have HNX := Lib.hid hnext
       have hsl : ∀ W : World, (Instr.slice 23 (.slice (some ⟨b2, off2, none⟩) (q.length + 1) cq) (some (.int .i64 1)) none none).run Tryd.prog W = .ok (.slice (fromA (some ⟨b2, off2, none⟩) cq 1 7) q.length (cq - 1)) W := fun W => run_from (some ⟨b2, off2, none⟩) (q.length + 1) cq 1 (by omega) W
       have hRQ := HS.out.2.2.1.tail
       clear hnext hy
       have hRQ2 : RdT 44 wr (fromA (some ⟨b2, off2, none⟩) cq 1 7) (cq - 1) q := hRQ
       clear hRQ
       generalize fromA (some ⟨b2, off2, none⟩) cq 1 7 = Q2 at hsl hRQ2
       have hRQ := hRQ2
       clear hRQ2
       go_wp2_with fail
       go_region
       go_wp2_with fail
       go_region
       go_upto_region 12 with fail
       have hS2 : Sh (w.heap.size + 1 + 1) W3 ((wr.setCell ⟨w.heap.size + 1 + 1, 3, none⟩ (.slice Q2 q.length (cq - 1))).setCell ⟨w.heap.size + 1 + 1, 4, none⟩ (.int .i64 (d + 1))).drew.drew c B cb t Q2 (cq - 1) q (d + 1) (frm + k) := ⟨set_at (set_at HS.out.1), ((HS.out.2.1.set HS.out.1 (by decide) _ _).set (set_at HS.out.1) (by decide) _ _).ext ((Below.refl _ _).drew.drew), ((hRQ.set HS.out.1 (by decide) _ _).set (set_at HS.out.1) (by decide) _ _).ext ((Below.refl _ _).drew.drew), ((HBW.out.setCell (Nat.le_refl _) _).setCell (Nat.le_refl _) _).drew.drew⟩
       have hE2 : Ext w ((wr.setCell ⟨w.heap.size + 1 + 1, 3, none⟩ (.slice Q2 q.length (cq - 1))).setCell ⟨w.heap.size + 1 + 1, 4, none⟩ (.int .i64 (d + 1))).drew.drew := HE3.out.trans (hS2.2.2.2.mono (by omega))
       have hT := HT.out
       have hop := entryOk_op HEK.out
       have hod : opDo t l[k].op = doL t l[k].op := by unfold opDo; rw [hT, hop]; rfl
       have htn : treeOk (opDo t l[k].op) = true := by rw [hod]; exact treeOk_do t _ hT hop
       clear e0 e1 e2 e3 e4 e5 e6 x0 x1 x2 x3 x4 x5 xf c0 c1 c2 c3 c4 c5 cf hsl hne q0 q1 q2 q3 q4 q5 q6
       generalize ((wr.setCell ⟨w.heap.size + 1 + 1, 3, none⟩ (.slice Q2 q.length (cq - 1))).setCell ⟨w.heap.size + 1 + 1, 4, none⟩ (.int .i64 (d + 1))).drew.drew = wt at *
       have hC := do_s B cb t l[k].op wt.drew (hS2.2.1.1.ext ((Below.refl _ _).drew)) hT hop HOE.out
       rw [← hod] at hC
       obtain ⟨b9, off9, e9, hbl9, e0, e1, e2, e3, e4, e5, e6⟩ := ent_at (HR.out.ext hE2) k hlt
       injection e9 with e9; injection e9 with e91 e92; subst e91; subst e92
       obtain ⟨x0, x1, x2, x3, x4, x5, xf⟩ := six_cells hS2.1
       have hltx := blk_lt hS2.1
       have hfin : ∀ (w5 : World) (B2 : Option Addr) (cb2 : Nat), Own 47 w5 wt.drew.heap.size (.slice B2 (opDo t l[k].op).length cb2) (opDo t l[k].op) → Ext wt.drew w5 → Sh (w.heap.size + 1 + 1) W3 (w5.setCell ⟨w.heap.size + 1 + 1, 2, none⟩ (.slice B2 (opDo t l[k].op).length cb2)) c B2 cb2 (opDo t l[k].op) Q2 (cq - 1) q (d + 1) (frm + k) := fun w5 B2 cb2 ho5 hb5 => by
        have hx : Ext wt w5 := ((Below.refl _ _).drew).trans hb5
        exact ⟨set_at ((hx.block _ hltx).trans hS2.1), ho5.rdT.set ((hx.block _ hltx).trans hS2.1) (by decide) _ _, (hS2.2.2.1.ext hx).set ((hx.block _ hltx).trans hS2.1) (by decide) _ _, (hS2.2.2.2.trans (hx.mono (Nat.le_of_lt hltx))).setCell (Nat.le_refl _) _⟩
       have HFIN := Lib.hid hfin; have HC := Lib.hid hC; have HS2 := Lib.hid hS2; have HTN := Lib.hid htn; have HX2 := Lib.hid hS2.1
       clear hfin hC hS2 hE2 hT hop hod htn
       go_cut [73] (fun s wx => ∃ (B2 : Option Addr) (cb2 : Nat), s = .slice B2 (opDo t l[k].op).length cb2 ∧ Hid (Sh (w.heap.size + 1 + 1) W3 wx c B2 cb2 (opDo t l[k].op) Q2 (cq - 1) q (d + 1) (frm + k)))
       case first =>
        go_region_with (go_at_call 72; refine HC.out.mono ?_; rintro e w5 ⟨v5, rfl, ho5, hb5⟩; obtain ⟨B2, cb2, rfl, -⟩ := ho5.rd; have hx5 := (hb5.block _ hltx).trans HX2.out; obtain ⟨z0, z1, z2, z3, z4, z5, zf⟩ := six_cells hx5; have HO5 := Lib.hid ho5; have HB5 := Lib.hid hb5; clear ho5 hb5 hx5 z0 z1 z3 z4 z5)
        all_goals
         go_wp2_with fail
         go_meet
         exact ⟨_, _, rfl, HFIN.out _ _ _ HO5.out HB5.out⟩
       case rest =>
        obtain ⟨B2, cb2, rfl, HS9⟩ := hcut
        clear e0 e1 e2 e3 e4 e5 e6 x0 x1 x2 x3 x4 x5 xf
        obtain ⟨x0, x1, x2, x3, x4, x5, xf⟩ := six_cells HS9.out.1
        go_wp2_with fail
        go_roundg (l.length - (k + 1))
        case measure => have := HK.out; omega
        case rel =>
         refine ⟨k + 1, B2, cb2, opDo t l[k].op, Q2, (cq - 1), q, (d + 1), by omega, .inl (by omega), rfl, by go_num, ?_, HTN.out, HNX.out, by omega, by omega⟩
         show Sh _ _ _ _ _ _ _ _ _ _ _ _
         rw [← HCX.out]
         exact ⟨set_at HS9.out.1, HS9.out.2.1.set HS9.out.1 (by decide) _ _, HS9.out.2.2.1.set HS9.out.1 (by decide) _ _, HS9.out.2.2.2.setCell (Nat.le_refl _) _⟩
      ·rw [decide_eq_false hy] at hne
       have hnone : hearL c.who (l.drop k0) c.wait c.base c.done c.seen = none := by rw [← HHH.out]; simp [hearL, HWHO.out, hy]
       have HNONE := Lib.hid hnone
       clear hnone hy
       go_wp2_with fail
       go_region
       go_wp2_with fail
       go_region
       obtain ⟨d0, d1, d2, d3, d4, d5, df⟩ := six_cells HBY.out
       go_wp2_with fail
       obtain ⟨hz, hco, hE⟩ := HNE.out wr HBW.out
       obtain ⟨k0', k1, k2, k3, k4, k5, kf⟩ := six_cells hz
       refine bodyPost_ret (v := .tuple #[(.agg (cC c A1 n1 A2 n2)), .bool false]) ?_ rfl ?_
       ·simp [results, Tryd.f64, go_sem, k0', k1, k2, k3, k4, k5]
       ·have hr9 : hearS c frm l = (c, false) := by rw [HRES.out, HNONE.out]
        exact ⟨_, by rw [hr9], by rw [hr9]; exact hco.ext ((Below.refl _ _).drew.drew), Below.drew (Below.drew hE)⟩
    ·have hwho' : (l[k].who == c.who) = false := by simp [hwho]
     have HWHO := Lib.hid hwho
     have hnext : hearL c.who (l.drop (k + 1)) q (opDo t l[k].op) d (frm + ((k + 1 : Nat) : Int)) = hearL c.who (l.drop k0) c.wait c.base c.done c.seen := by rw [← HHH.out, ← HCX.out]; simp [hearL, hwho]
     have HNX := Lib.hid hnext
     clear hwho hnext
     go_wp2_with fail
     go_region
     go_upto_region 12 with fail
     have hS2 : Sh (w.heap.size + 1 + 1) W3 wr.drew c B cb t Q cq q d (frm + k) := ⟨HS.out.1, HS.out.2.1.ext ((Below.refl _ _).drew), HS.out.2.2.1.ext ((Below.refl _ _).drew), HBW.out.drew⟩
     have hE2 : Ext w wr.drew := HE3.out.trans (hS2.2.2.2.mono (by omega))
     have hT := HT.out
     have hop := entryOk_op HEK.out
     have hod : opDo t l[k].op = doL t l[k].op := by unfold opDo; rw [hT, hop]; rfl
     have htn : treeOk (opDo t l[k].op) = true := by rw [hod]; exact treeOk_do t _ hT hop
     clear e0 e1 e2 e3 e4 e5 e6 x0 x1 x2 x3 x4 x5 xf c0 c1 c2 c3 c4 c5 cf
     generalize wr.drew = wt at *
     have hC := do_s B cb t l[k].op wt.drew (hS2.2.1.1.ext ((Below.refl _ _).drew)) hT hop HOE.out
     rw [← hod] at hC
     obtain ⟨b9, off9, e9, hbl9, e0, e1, e2, e3, e4, e5, e6⟩ := ent_at (HR.out.ext hE2) k hlt
     injection e9 with e9; injection e9 with e91 e92; subst e91; subst e92
     obtain ⟨x0, x1, x2, x3, x4, x5, xf⟩ := six_cells hS2.1
     have hltx := blk_lt hS2.1
     have hfin : ∀ (w5 : World) (B2 : Option Addr) (cb2 : Nat), Own 47 w5 wt.drew.heap.size (.slice B2 (opDo t l[k].op).length cb2) (opDo t l[k].op) → Ext wt.drew w5 → Sh (w.heap.size + 1 + 1) W3 (w5.setCell ⟨w.heap.size + 1 + 1, 2, none⟩ (.slice B2 (opDo t l[k].op).length cb2)) c B2 cb2 (opDo t l[k].op) Q cq q d (frm + k) := fun w5 B2 cb2 ho5 hb5 => by
      have hx : Ext wt w5 := ((Below.refl _ _).drew).trans hb5
      exact ⟨set_at ((hx.block _ hltx).trans hS2.1), ho5.rdT.set ((hx.block _ hltx).trans hS2.1) (by decide) _ _, (hS2.2.2.1.ext hx).set ((hx.block _ hltx).trans hS2.1) (by decide) _ _, (hS2.2.2.2.trans (hx.mono (Nat.le_of_lt hltx))).setCell (Nat.le_refl _) _⟩
     have HFIN := Lib.hid hfin; have HC := Lib.hid hC; have HS2 := Lib.hid hS2; have HTN := Lib.hid htn; have HX2 := Lib.hid hS2.1
     clear hfin hC hS2 hE2 hT hop hod htn
     go_cut [73] (fun s wx => ∃ (B2 : Option Addr) (cb2 : Nat), s = .slice B2 (opDo t l[k].op).length cb2 ∧ Hid (Sh (w.heap.size + 1 + 1) W3 wx c B2 cb2 (opDo t l[k].op) Q cq q d (frm + k)))
     case first =>
      go_region_with (go_at_call 72; refine HC.out.mono ?_; rintro e w5 ⟨v5, rfl, ho5, hb5⟩; obtain ⟨B2, cb2, rfl, -⟩ := ho5.rd; have hx5 := (hb5.block _ hltx).trans HX2.out; obtain ⟨z0, z1, z2, z3, z4, z5, zf⟩ := six_cells hx5; have HO5 := Lib.hid ho5; have HB5 := Lib.hid hb5; clear ho5 hb5 hx5 z0 z1 z3 z4 z5)
      all_goals
       go_wp2_with fail
       go_meet
       exact ⟨_, _, rfl, HFIN.out _ _ _ HO5.out HB5.out⟩
     case rest =>
      obtain ⟨B2, cb2, rfl, HS9⟩ := hcut
      clear e0 e1 e2 e3 e4 e5 e6 x0 x1 x2 x3 x4 x5 xf
      obtain ⟨x0, x1, x2, x3, x4, x5, xf⟩ := six_cells HS9.out.1
      go_wp2_with fail
      go_roundg (l.length - (k + 1))
      case measure => have := HK.out; omega
      case rel =>
       refine ⟨k + 1, B2, cb2, opDo t l[k].op, Q, cq, q, d, by omega, .inl (by omega), rfl, by go_num, ?_, HTN.out, HNX.out, by omega, by omega⟩
       show Sh _ _ _ _ _ _ _ _ _ _ _ _
       rw [← HCX.out]
       exact ⟨set_at HS9.out.1, HS9.out.2.1.set HS9.out.1 (by decide) _ _, HS9.out.2.2.1.set HS9.out.1 (by decide) _ _, HS9.out.2.2.2.setCell (Nat.le_refl _) _⟩
   ·have hres : hearS c frm l = (⟨c.who, frm + k, t, q, d, c.made⟩, true) := by
     rw [HRES.out, ← HH.out, List.drop_of_length_le (by omega)]; rfl
    obtain ⟨x0, x1, x2, x3, x4, x5, xf⟩ := six_cells HS.out.1
    obtain ⟨d0, d1, d2, d3, d4, d5, df⟩ := six_cells hby
    have hz := put6_at (.int .i64 c.who) (.int .i64 (frm + k)) (.slice B t.length cb) (.slice Q q.length cq) (.int .i64 d) (.int .i64 c.made) hby
    have hE : Ext w (put6 wr (w.heap.size + 1) (.int .i64 c.who) (.int .i64 (frm + k)) (.slice B t.length cb) (.slice Q q.length cq) (.int .i64 d) (.int .i64 c.made)) := put6_below _ _ _ _ _ _ HER.out (Nat.le_succ _)
    have hcv : CT (put6 wr (w.heap.size + 1) (.int .i64 c.who) (.int .i64 (frm + k)) (.slice B t.length cb) (.slice Q q.length cq) (.int .i64 d) (.int .i64 c.made)) ⟨c.who, frm + k, t, q, d, c.made⟩ (.agg #[.int .i64 c.who, .int .i64 (frm + k), .slice B t.length cb, .slice Q q.length cq, .int .i64 d, .int .i64 c.made]) := ⟨B, cb, Q, cq, rfl, HS.out.2.1.put6 hby (by decide) _ _ _ _ _ _, HS.out.2.2.1.put6 hby (by decide) _ _ _ _ _ _⟩
    have HCV := Lib.hid hcv
    have HZ := Lib.hid hz; have HE := Lib.hid hE; have HRS := Lib.hid hres
    have hli : ¬ ((k : Int) < l.length) := by omega
    clear hbx hby hz hE hres hcv
    go_wp2_with fail
    obtain ⟨k0', k1, k2, k3, k4, k5, kf⟩ := six_cells HZ.out
    refine bodyPost_ret (v := .tuple #[.agg #[.int .i64 c.who, .int .i64 (frm + k), .slice B t.length cb, .slice Q q.length cq, .int .i64 d, .int .i64 c.made], .bool true]) ?_ rfl ?_
    ·simp [results, Tryd.f64, go_sem, k0', k1, k2, k3, k4, k5]
    ·exact ⟨_, by rw [HRS.out], by rw [HRS.out]; exact HCV.out, HE.out⟩
open Go.RowKit
set_option maxHeartbeats 400000 in
theorem rowOk_s (r : Row) (w : World) (hi : i64 r.id) (hs : r.text.size ≤ maxLen) :
  Calls Tryd.prog 77 #[.agg #[.int .i64 r.id, .int .i64 r.depth, .string r.text]] w fun x w' => x = .returned (.bool (rowOk r)) ∧ Ext w w' := by
 have HE : Hid (Ext w (w.alloc (.cells #[.int .i64 r.id, .int .i64 r.depth, .string r.text] 47))) := (Below.refl _ w).alloc (Nat.le_refl _) _
 have HC := Lib.hid (root_s r.id (w.alloc (.cells #[.int .i64 r.id, .int .i64 r.depth, .string r.text] 47)))
 have HBX := Lib.hid (World.alloc_heap_new w (.cells #[.int .i64 r.id, .int .i64 r.depth, .string r.text] 47))
 cases hroot : isRoot r.id
 ·rw [hroot] at HC
  have HM := Lib.hid (made_s r.id (w.alloc (.cells #[.int .i64 r.id, .int .i64 r.depth, .string r.text] 47)) hi)
  have HD := Lib.hid (in_c r.depth 1 18 (w.alloc (.cells #[.int .i64 r.id, .int .i64 r.depth, .string r.text] 47)))
  have HT := Lib.hid (text_s r.text (w.alloc (.cells #[.int .i64 r.id, .int .i64 r.depth, .string r.text] 47)) hs)
  have HK : Hid (rowOk r = (isMade r.id && inR r.depth 1 18 && textOk r.text)) := by show _ = _; unfold rowOk; rw [hroot]; rfl
  clear hroot hi hs
  cases hm : isMade r.id
  ·rw [hm] at HM HK
   clear hm
   go_enter Tryd.func77, Tryd.ntmps77
   go_wp2_with fail
   refine HC.out.mono ?_; rintro x w' ⟨rfl, rfl⟩
   go_wp2_with fail
   refine HM.out.mono ?_; rintro x w' ⟨rfl, rfl⟩
   go_wp2_with fail
   go_ret
   exact ⟨by rw [HK.out]; rfl, HE.out⟩
  ·rw [hm] at HM HK
   clear hm
   cases hd : inR r.depth 1 18
   ·rw [hd] at HD HK
    clear hd
    go_enter Tryd.func77, Tryd.ntmps77
    go_wp2_with fail
    refine HC.out.mono ?_; rintro x w' ⟨rfl, rfl⟩
    go_wp2_with fail
    refine HM.out.mono ?_; rintro x w' ⟨rfl, rfl⟩
    go_wp2_with fail
    refine HD.out.mono ?_; rintro x w' ⟨rfl, rfl⟩
    go_wp2_with fail
    go_ret
    exact ⟨by rw [HK.out]; rfl, HE.out⟩
   ·rw [hd] at HD HK
    clear hd
    go_enter Tryd.func77, Tryd.ntmps77
    go_wp2_with fail
    refine HC.out.mono ?_; rintro x w' ⟨rfl, rfl⟩
    go_wp2_with fail
    refine HM.out.mono ?_; rintro x w' ⟨rfl, rfl⟩
    go_wp2_with fail
    refine HD.out.mono ?_; rintro x w' ⟨rfl, rfl⟩
    go_wp2_with fail
    refine HT.out.mono ?_; rintro x w' ⟨rfl, rfl⟩
    go_wp2_with fail
    go_ret
    exact ⟨by rw [HK.out]; rfl, HE.out⟩
 ·rw [hroot] at HC
  have HK : Hid (rowOk r = (decide (r.depth = 0) && r.text.toList.isEmpty)) := by show _ = _; unfold rowOk; rw [hroot, ← decide_eq_emptyBytes r.text]; rfl
  clear hroot hi hs
  by_cases hd : r.depth = 0
  ·have hd' : (r.depth == 0) = true := by simp [hd]
   have HR : Hid (rowOk r = r.text.toList.isEmpty) := by show _ = _; rw [HK.out, decide_eq_true hd]; rfl
   clear hd
   go_enter Tryd.func77, Tryd.ntmps77
   go_wp2_with fail
   refine HC.out.mono ?_; rintro x w' ⟨rfl, rfl⟩
   go_wp2_with fail
   go_ret
   exact ⟨by rw [HR.out]; first | rfl | simp [hd'], HE.out⟩
  ·have hd' : (r.depth == 0) = false := by simp [hd]
   have HR : Hid (rowOk r = false) := by show _ = _; rw [HK.out, decide_eq_false hd]; rfl
   clear hd
   go_enter Tryd.func77, Tryd.ntmps77
   go_wp2_with fail
   refine HC.out.mono ?_; rintro x w' ⟨rfl, rfl⟩
   go_wp2_with fail
   go_ret
   exact ⟨by rw [HR.out]; first | rfl | simp [hd'], HE.out⟩
end Go.Proofs.YtjhbbgeebobcpaaDoor
