/- The walk of laws.FnShowOwn, over what is drawn. THE ROW AND THE CARD OF laws.FnShowOwn. -/
import Derived.Test.YtjhbbgeebobcpaaDoorRQ
namespace Go.Proofs.YtjhbbgeebobcpaaDoor
open Go.RowKit
set_option linter.unusedVariables false

set_option maxRecDepth 100000 in
set_option maxHeartbeats 4000000 in
theorem showOwn_walk (hD : DrawsShow) (A : Option Addr) (n : Nat) (bs : List UInt8) (w : World) (ht : Tab w) (hr : Rd w A n bs) (hA : ∀ b off, A = some ⟨b, off, none⟩ → b < w.heap.size) :
    Calls Tryd.prog 5 #[.slice A bs.length n] w fun e w' => e = .returned (.bool true) ∧ Ext w w' := by
  have hm : bs.length ≤ maxLen := Nat.le_trans hr.1 hr.2.1
  unfold maxLen at hm
  have hpos := ht.pos
  have HT := Lib.hid ht
  have HDR := Lib.hid (hD A n bs w hr hA)
  clear hD hr hA ht
  go_enter Tryd.func5, Tryd.ntmps5
  by_cases hlong : (1048576 : Int) < bs.length
  · go_wp2_with fail
    go_ret
    exact ⟨rfl, Below.refl _ _⟩
  go_wp2_with fail
  refine HDR.out.mono ?_
  rintro e w1 ⟨c, v, rfl, hcv, hcw, hb1⟩
  have hs1 := hb1.size
  have HC := Lib.hid hcw
  obtain ⟨A1, n1, A2, n2, rfl, h1, h2⟩ := hcv
  have hE2 : Ext w1 (w1.alloc (.cells #[.int .i64 c.who, .int .i64 c.seen, .slice A1 c.base.length n1, .slice A2 c.wait.length n2, .int .i64 c.done, .int .i64 c.made] 30)) := (Below.refl _ w1).alloc (Nat.le_refl _) _
  have HX2 := Lib.hid (World.alloc_heap_new w1 (.cells #[.int .i64 c.who, .int .i64 c.seen, .slice A1 c.base.length n1, .slice A2 c.wait.length n2, .int .i64 c.done, .int .i64 c.made] 30))
  have hsz2 := alloc_sz w1 (.cells #[.int .i64 c.who, .int .i64 c.seen, .slice A1 c.base.length n1, .slice A2 c.wait.length n2, .int .i64 c.done, .int .i64 c.made] 30)
  have HR1 := Lib.hid (h1.ext hE2); have HR2 := Lib.hid (h2.ext hE2)
  have HE2 := Lib.hid (hb1.trans (hE2.mono hs1))
  clear HDR hcw h1 h2 hE2 hb1
  go_wp2_with fail
  generalize (w1.alloc (.cells #[.int .i64 c.who, .int .i64 c.seen, .slice A1 c.base.length n1, .slice A2 c.wait.length n2, .int .i64 c.done, .int .i64 c.made] 30)) = W at *
  have HV : Hid (CV W c (.agg #[.int .i64 c.who, .int .i64 c.seen, .slice A1 c.base.length n1, .slice A2 c.wait.length n2, .int .i64 c.done, .int .i64 c.made])) := ⟨A1, n1, A2, n2, rfl, HR1.out, HR2.out⟩
  refine (clientShow_c c _ W (HT.out.below HE2.out hpos) HV.out).mono ?_
  rintro e w3 ⟨v3, rfl, ho3, hb3⟩
  obtain ⟨G, gn, rfl, hr3⟩ := ho3.rd
  have HE3 := Lib.hid hb3; have HG3 := Lib.hid hr3; have hs3 := hb3.size
  clear ho3 hr3 hb3
  obtain ⟨c0, c1, c2, c3, c4, c5, cf⟩ := six_cells ((HE3.out.block w1.heap.size (blk_lt HX2.out)).trans HX2.out)
  go_wp2_with fail
  refine (clientShow_s c _ w3 (HV.out.ext HE3.out) HC.out).mono ?_
  rintro e w4 ⟨v4, rfl, ho4, hb4⟩
  rw [← showL_showS] at ho4
  obtain ⟨S, sn, rfl, hr4⟩ := ho4.rd
  have HE4 := Lib.hid (HE3.out.trans (hb4.mono HE3.out.size)); have hs4 := hb4.size
  have hLP := lpRows_c G gn (showL c) S sn (showL c) w4 (HG3.out.ext hb4) hr4
  rw [show decide (showL c = showL c) = true by simp] at hLP
  have HLP := Lib.hid hLP; have HG4 := Lib.hid (HG3.out.ext hb4)
  clear ho4 hr4 hb4 hLP c0 c1 c2 c3 c4 c5 cf
  go_wp2_with fail
  refine HLP.out.mono ?_
  rintro e w5 ⟨rfl, m5, hw5⟩
  have hb5 : Ext w4 w5 := by rw [hw5]; exact Ext.drewN (Below.refl _ _) _
  have HE5 := Lib.hid (HE4.out.trans (hb5.mono HE4.out.size)); have HG5 := Lib.hid (HG4.out.ext hb5); have hs5 := hb5.size
  clear hb5 hw5 HLP
  obtain ⟨c0, c1, c2, c3, c4, c5, cf⟩ := six_cells ((HE5.out.block w1.heap.size (blk_lt HX2.out)).trans HX2.out)
  go_wp2_with fail
  refine (clientOk_s c _ w5 (HV.out.ext HE5.out) HC.out).mono ?_
  rintro e w6 ⟨rfl, hb6⟩
  have HE6 := Lib.hid (HE5.out.trans (hb6.mono HE5.out.size)); have HG6 := Lib.hid (HG5.out.ext hb6); have hs6 := hb6.size
  clear hb6 c0 c1 c2 c3 c4 c5 cf
  obtain ⟨c0, c1, c2, c3, c4, c5, cf⟩ := six_cells ((HE6.out.block w1.heap.size (blk_lt HX2.out)).trans HX2.out)
  cases hok : clientOk c
  · clear hok
    go_wp2_with fail
    refine (clientShow_s c _ w6 (HV.out.ext HE6.out) HC.out).mono ?_
    rintro e w7 ⟨v7, rfl, ho7, hb7⟩
    rw [← showL_showS] at ho7
    obtain ⟨S2, sn2, rfl, hr7⟩ := ho7.rd
    have HE7 := Lib.hid (HE6.out.trans (hb7.mono HE6.out.size))
    have hLP := lpRows_c G gn (showL c) S2 sn2 (showL c) w7 (HG6.out.ext hb7) hr7
    rw [show decide (showL c = showL c) = true by simp] at hLP
    have HLP := Lib.hid hLP
    clear ho7 hr7 hb7 hLP c0 c1 c2 c3 c4 c5 cf
    go_wp2_with fail
    refine HLP.out.mono ?_
    rintro e w8 ⟨rfl, m8, hw8⟩
    have HE8 : Hid (Ext w w8) := by
      show Ext w w8
      rw [hw8]
      exact Ext.drewN (HE2.out.trans (HE7.out.mono (by omega))) _
    clear hw8
    go_wp2_with fail
    go_ret
    exact ⟨rfl, HE8.out⟩
  obtain ⟨p1, p2, p3, p4, p5⟩ := showL_ok hok
  have hwl := (clientOk_parts hok).2.2.2.2.2.2.1
  have hd0 := (clientOk_parts hok).2.2.2.2.1
  have hbl := treeOk_len (clientOk_parts hok).2.2.2.1
  have HP4 := Lib.hid p4; have HP5 := Lib.hid p5
  clear hok p1 p2 p3 p4 p5
  go_wp2_with fail
  clear c0 c1 c2 c3 c4 c5 cf
  have hll5 : c.base.length ≤ (showL c).length := by have := HP5.out; omega
  go_loopg [5] c.wait.length (fun gk i wr => ∃ k : Nat, k ≤ c.wait.length ∧ Hid (gk = c.wait.length - k) ∧ i = .int .i64 k ∧ Hid (Ext W wr) ∧ Hid (Rd wr G gn (showL c)))
  case atStart => exact ⟨0, Nat.zero_le _, rfl, rfl, HE6.out, HG6.out⟩
  case round =>
    obtain ⟨k, hk, HK, rfl, HW, HG⟩ := hrel
    obtain ⟨c0, c1, c2, c3, c4, c5, cf⟩ := six_cells ((HW.out.block w1.heap.size (blk_lt HX2.out)).trans HX2.out)
    by_cases hlt : k < c.wait.length
    · obtain ⟨b, off, rfl, hbl2, e0, e1, e2, e3, e4, e5, e6⟩ := ent_at (HR2.out.ext HW.out) k hlt
      have hli : (k : Int) < c.wait.length := by omega
      by_cases hkd : c.wait[k].op.kind = 1
      · have hkd' : (c.wait[k].op.kind == 1) = true := by simp [hkd]
        have HAT := Lib.hid (lpAt_c G gn (showL c) c.wait[k].op.id wr HG.out)
        have hat : ¬ (atI (showL c) c.wait[k].op.id < 0) := by
          have := atI_in (HP4.out _ (List.getElem_mem hlt) hkd)
          omega
        clear hkd
        go_wp2_with fail
        refine HAT.out.mono ?_
        rintro e w8 ⟨rfl, hw8⟩
        rw [hw8]; clear hw8
        generalize atI (showL c) c.wait[k].op.id = ai at *
        clear HAT c0 c1 c2 c3 c4 c5 cf e0 e1 e2 e3 e4 e5 e6
        go_wp2_with fail
        go_roundg (c.wait.length - (k + 1))
        case measure => have := HK.out; omega
        case rel => exact ⟨k + 1, by omega, rfl, by go_num, HW.out, HG.out⟩
      · have hkd' : (c.wait[k].op.kind == 1) = false := by simp [hkd]
        clear hkd
        go_wp2_with fail
        go_roundg (c.wait.length - (k + 1))
        case measure => have := HK.out; omega
        case rel => exact ⟨k + 1, by omega, rfl, by go_num, HW.out, HG.out⟩
    · have hli : ¬ ((k : Int) < c.wait.length) := by omega
      have hge : (c.base.length : Int) ≤ (showL c).length := by omega
      have HE9 : Hid (Ext w wr) := HE2.out.trans (HW.out.mono (by omega))
      go_wp2_with fail
      go_ret
      exact ⟨by simp, HE9.out⟩
end Go.Proofs.YtjhbbgeebobcpaaDoor
namespace Go.Proofs.YtjhbbgeebobcpaaDoor.fnShowOwn
open Go.RowKit Go.ChangeShapes Go.WideShapes Go.ChangeAt
set_option linter.unusedVariables false

set_option maxRecDepth 100000 in
/-- What the walk gives, for every argument and every world that holds the table. -/
theorem contract (H : Type) (enc : TypeId × Value → H) (W : World) (base : Nat) (args : Array Value) (ds gs : List (DataW H)) (before : List MemPlace)
    (hval : ∀ (j : Nat) t v, Tryd.f5.params[j]? = some t → args[j]? = some v → Value.okWide Tryd.prog W .any base t v)
    (hW : DataW.Whole enc Tryd.prog Tryd.f5.params.toList Rows.fnShowOwnSpec.vars false W args.toList ds gs before) (hL : laidMetH Tryd.prog Rows.fnShowOwnRow.laid W) :
    Calls Tryd.prog 5 args W fun e W' => ∃ v, e = .returned v ∧ Rows.fnShowOwnSpec.post enc Tryd.prog Tryd.f5 false true false false W args v W' := by
  have hW' := hW
  obtain ⟨p, q, hA0, hV, rfl, hfz, hnd⟩ := hW
  have hA : DataW.TrodAll enc Tryd.prog W 0 (fun _ => true) true Tryd.f5.params.toList args.toList ds p := hA0
  rw [Tryd.params5] at hA hval
  obtain ⟨v0, vs0, d0, ds0, p0, q0, hargs, rfl, rfl, h0, r0⟩ := trodAll_cons hA
  obtain ⟨rfl, rfl, rfl⟩ := trodAll_nil r0
  obtain rfl : args = #[v0] := by cases args; simp_all
  obtain ⟨g, tg, csg, fg, dg, pg, rfl, _⟩ := trodVars_one hV
  have lt0 : ∀ x ∈ p0, x.block < W.heap.size := by obtain ⟨m, hm⟩ := h0; exact DataW.trod_lt m _ _ _ hm
  obtain ⟨A0, c0, bs0, rfl, hr0, ha0⟩ := arg_bytes (hval 0 22 v0 rfl rfl) h0
  clear hA0
  refine (showOwn_walk drawsShow A0 c0 bs0 W (tab_of hL) hr0 ha0).mono fun e W' ⟨he, bel⟩ => ?_
  subst he
  exact ⟨_, rfl, _, _, _, [], _, _, hW', trodAll_mk1 (shut_bool Tryd.underlying4 _),
    (trodAll_cons_mk (Below.trod laidOut (by kernel_rfl) (of_decide_eq_true (by kernel_rfl)) h0 bel lt0) trodAll_mk0),
    Below.trodVars laidOut bel (by kernel_rfl) hV, bel.frame _, fun h => by cases h⟩

/-- A world for the witness: the settled one, the table holding what its initialiser lays. -/
noncomputable def laidWorld (os : Os) : World :=
  { World.holding Tryd.prog os ⟨#[], #[], []⟩ with heap := (World.holding Tryd.prog os ⟨#[], #[], []⟩).heap.modify 0 fun
      | .cells _ t frozen => .cells (owners.map (Value.int .i64)).toArray t frozen
      | o => o }
theorem laid_met (os : Os) : laidMet Tryd.prog Rows.fnShowOwnRow.laid ((laidWorld os).forCall (fun _ _ => 0) ⟨#[], #[.slice none 0 0], []⟩).memory :=
  laidMet_of_run' 8 (by kernel_rfl) (by kernel_rfl)
theorem reads (os : Os) {H : Type} (enc : TypeId × Value → H) : ∃ gs places, DataW.whole enc Tryd.prog ((laidWorld os).forCall (fun _ _ => 0) ⟨#[], #[.slice none 0 0], []⟩).memory Tryd.f5.params.toList Rows.fnShowOwnSpec.vars false #[Value.slice none 0 0].toList 8 = some ([.nil], gs, places) :=
  ⟨[Rows.laid_loop_example_plashet_impl_rowOwners], MemPlace.row ⟨0, 0, none⟩ 37, by kernel_rfl⟩

set_option maxRecDepth 100000 in
/-- The row's step. -/
theorem lifted (os : Os) (started : os.Started) (H : Type) (enc : TypeId × Value → H) (F : Stop.Interp) :
    ReturnsInHanded {} Tryd.checked os 5 .any ((OpenSpec.ofChange Rows.fnShowOwnSpec).preRow enc Tryd.prog Tryd.f5 Rows.fnShowOwnRow.domain false Rows.fnShowOwnRow.laid) (((OpenSpec.ofChange Rows.fnShowOwnSpec).at F).post enc Tryd.prog Tryd.f5 false true false false) := by
  obtain ⟨gs, places, hx⟩ := reads os enc
  refine returnsInHanded_of_row (C := Tryd.checked) (s := OpenSpec.ofChange Rows.fnShowOwnSpec) own started (by kernel_rfl) Tryd.func5
    (witness_row_at (enc := enc) (C := Tryd.checked) false (laidWorld os) #[.slice none 0 0] rfl (by kernel_rfl) (by kernel_rfl) (by kernel_rfl)
      (OpenSpec.preRow_of_cond 8 hx (by kernel_rfl) (fun k hk => by cases hk) (by kernel_rfl) (laid_met os))) ?_
  intro W base args ds gs before hval hW _ _ _ hL _ _
  exact contract H enc W base args ds gs before hval hW hL

theorem said : Rows.FnShowOwnSaid :=
  OpenClaim.holds_of_cond 5 Tryd.f5 rfl rfl rfl rfl rfl rfl rfl ⟨rfl, rfl, rfl, rfl, rfl⟩ rfl rfl rfl rfl rfl (by kernel_rfl) Tryd.func5 (by kernel_rfl)
    (of_decide_eq_true (by kernel_rfl)) (by unfold Func.isWrapper; first | (rw [if_pos (by decide +kernel)]; kernel_rfl) | (rw [if_neg (by decide +kernel)]; exact ⟨rfl, rfl⟩))
    (fun os started H enc _ F => by rw [OpenClaim.pre_eq_preRow]; exact lifted os started H enc F)

/-- No parameter wants a stand-in; the program's own looks are on, and none of them bears. -/
theorem plain (f : FuncId) (fn : Func) (hf : Tryd.pinned.checked.prog.funcNamed "loop.example/plashet/laws.FnShowOwn" = some f) (hfn : Tryd.pinned.checked.prog.funcs[f]? = some fn) :
    true = Tryd.pinned.checked.prog.looks [] ∧ ∀ (j : Nat) t, fn.params[j]? = some t → Tryd.pinned.checked.prog.wantsStandIn t = false := by
  obtain rfl : f = 5 := Option.some.inj ((show Tryd.prog.funcNamed "loop.example/plashet/laws.FnShowOwn" = some 5 by kernel_rfl).symm.trans hf) |>.symm
  obtain rfl : fn = Tryd.f5 := (Option.some.inj (Tryd.func5.symm.trans hfn)).symm
  refine ⟨by kernel_rfl, fun j t ht => ?_⟩
  rw [Tryd.params5] at ht
  obtain rfl : t = 22 := by simpa using Array.mem_of_getElem? ht
  exact (show Tryd.prog.wantsStandIn 22 = false by kernel_rfl)

/-- The card. -/
theorem card : Rows.FnShowOwnCardSaid :=
  Claim7.holds_tied_plain_at .later [] _ _ _ _ said (fun _ h => by cases h) (by kernel_rfl) (fun _ h => by cases h) fnShowOwn_row_tie rfl ⟨rfl, rfl⟩ (by kernel_rfl) rfl plain (by kernel_rfl)
end Go.Proofs.YtjhbbgeebobcpaaDoor.fnShowOwn
