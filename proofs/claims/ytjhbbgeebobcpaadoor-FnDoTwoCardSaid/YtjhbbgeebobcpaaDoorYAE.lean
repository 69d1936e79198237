/- What a row gives: a slice of bytes as an argument; the table of the rows' owners. .. THE ROW AND THE CARD OF laws.FnDoTwo. -/
import Derived.Test.YtjhbbgeebobcpaaDoorZAN
import Derived.Test.YtjhbbgeebobcpaaDoorCards
import Derived.Test.YtjhbbgeebobcpaaDoorTie
import Derived.WalkKit
import Derived.ProofKit
import Derived.OpenShut
import Derived.OpenVars
import Derived.ChangeVars
import Derived.ChangeSlices
import Derived.ChangeOld
import Derived.Below
import Derived.Carry
import Derived.Deep.DeepHandedRow
import Derived.Lib.LaidTab
import Derived.Test.YtjhbbgeebobcpaaDoorYAD
namespace Go.Proofs.YtjhbbgeebobcpaaDoor
open Go.RowKit Go.ChangeShapes Go.WideShapes Go.ChangeAt
set_option linter.unusedVariables false
theorem laidOut : laidOutB Tryd.prog = true := by kernel_rfl
theorem own : ownKnob Tryd.prog.godebug = none := by kernel_rfl
theorem gTab : Tryd.prog.globalNamed "loop.example/plashet/impl.rowOwners" = some 0 := by kernel_rfl
theorem gTabType : (Tryd.prog.globals[0]?).map (·.type) = some 86 := by kernel_rfl
theorem cellsTab : Tryd.prog.cellsOf 86 = 37 := by kernel_rfl
theorem cellsInt : Tryd.prog.cellsOf 3 = 1 := by kernel_rfl
def owners : List Int := [0, 1, 1, 1, 0, 0, 0, 0, 0, 0, 0, 2, 2, 2, 2, 2, 2, 0, 0, 0, 0, 3, 3, 3, 3, 3, 3, 0, 0, 0, 0, 4, 4, 4, 4, 4, 4]
theorem owners_at (n : Nat) (h : n < 37) : owners.getD n 0 = ownerOf n := by
 have h0 : ∀ n : Fin 37, owners.getD n 0 = ownerOf (n : Nat) := by decide
 exact h0 ⟨n, h⟩
theorem tab_of {W : World} (h : laidMetH Tryd.prog [("loop.example/plashet/impl.rowOwners", Rows.laid_loop_example_plashet_impl_rowOwners)] W) : Tab W := by
 have ht : Lib.TabIs Tryd.prog W "loop.example/plashet/impl.rowOwners" .i64 owners := Lib.tabIs_of_head (rest := []) gTab gTabType Tryd.underlying86 Tryd.underlying3 cellsInt cellsTab h
 intro id h0 h1
 have hn : id.toNat < 37 := by omega
 rw [ht.cell gTab id.toNat (by simpa [owners] using hn), owners_at _ hn, show ((id.toNat : Nat) : Int) = id by omega]
set_option maxRecDepth 100000 in
theorem arg_slice {W : World} {base : Nat} {t e : TypeId} {v : Value} (ht : Tryd.prog.underlying t = some (.slice e)) (h : Value.okWide Tryd.prog W .any base t v) :
  ∃ A len cap, v = .slice A len cap ∧ ∀ a, A = some a → a.spot = none ∧ a.block < W.heap.size := by
 obtain ⟨A, len, cap, rfl⟩ := okWide_slice ht h
 refine ⟨A, len, cap, rfl, ?_⟩
 rintro a rfl
 simp only [Value.okWide, ht, Cell.okWide, Cell.ok, World.has] at h
 obtain ⟨_, _, _, hs, row, cells, hsh, _⟩ := h
 refine ⟨hs, ?_⟩
 unfold World.shape? at hsh
 cases hb : W.heap[a.block]? with
 |none => rw [hb] at hsh; cases hsh
 |some o => exact (Array.getElem?_eq_some_iff.1 hb).1
set_option maxRecDepth 100000 in
theorem arg_bytes {H : Type} {enc : TypeId × Value → H} {W : World} {base : Nat} {v : Value} {d : DataW H} {p : List MemPlace}
  (h : Value.okWide Tryd.prog W .any base 22 v) (hr : DataW.Trod enc Tryd.prog W 0 (fun _ => true) true 22 v d p) :
  ∃ (A : Option Addr) (cap : Nat) (bs : List UInt8), v = .slice A bs.length cap ∧ Rd W A cap bs ∧ ∀ b off, A = some ⟨b, off, none⟩ → b < W.heap.size := by
 obtain ⟨A, len, cap, rfl, hA⟩ := arg_slice Tryd.underlying22 h
 obtain ⟨fuel, hf⟩ := hr
 rcases open_ints Tryd.underlying22 Tryd.underlying5 (by kernel_rfl) hf with ⟨hcs, _⟩ | ⟨x, l, c, zs, hcs, _, hl, hm, hz, _, hcell, hwz⟩
 ·simp [Value.cells] at hcs
  obtain ⟨rfl, rfl, rfl⟩ := hcs
  exact ⟨none, 0, [], rfl, ⟨by simp, by simp, fun h => absurd h (by simp), by simp⟩, by simp⟩
 ·simp [Value.cells] at hcs
  obtain ⟨rfl, rfl, rfl⟩ := hcs
  obtain ⟨b, off, spot⟩ := x
  obtain ⟨hs, hb⟩ := hA _ rfl
  simp only at hs hb hz
  subst hs
  have hlen : ((zs.take len).map fun z => UInt8.ofNat z.toNat).length = len := by simp at hz; simp; omega
  refine ⟨some ⟨b, off, none⟩, cap, (zs.take len).map fun z => UInt8.ofNat z.toNat, by rw [hlen], ⟨by rw [hlen]; exact hl, hm, fun _ => ⟨b, off, rfl, ?_⟩, fun _ _ => trivial⟩, ?_⟩
  ·intro j v hv
   have hfl : flat ((zs.take len).map fun z => UInt8.ofNat z.toNat) = (zs.take len).map fun z => Value.int .u8 ((UInt8.ofNat z.toNat).toNat : Int) := by
    unfold flat; rw [List.flatMap_map]
    show (zs.take len).flatMap (fun a => [Value.int .u8 ((UInt8.ofNat a.toNat).toNat : Int)]) = _
    induction zs.take len with
    |nil => rfl
    |cons a r ih => rw [List.flatMap_cons, ih]; rfl
   rw [hfl, List.getElem?_map, Option.map_eq_some_iff] at hv
   obtain ⟨z, hz1, rfl⟩ := hv
   have hj : j < zs.length ∧ j < len := by
    have := (List.getElem?_eq_some_iff.1 hz1).1
    simp at this
    omega
   rw [List.getElem?_take, if_pos hj.2] at hz1
   have hzj : zs.getD j 0 = z := by simp [List.getD, hz1]
   have hw := hwz z (List.mem_of_getElem? hz1)
   have := hcell j hj.1
   rw [hzj] at this
   have hadd : (⟨b, off, none⟩ : Addr).add j = ⟨b, off + j, none⟩ := by unfold Addr.add; split <;> simp_all
   rw [hadd] at this
   have hz2 : ((UInt8.ofNat z.toNat).toNat : Int) = z := by
    have h1 := of_decide_eq_true (show decide ((0 : Int) ≤ z) = true by simp [Lit.wf, IntKind.min, IntKind.signed] at hw; simpa using hw.1)
    have h2 := of_decide_eq_true (show decide (z ≤ (255 : Int)) = true by simp [Lit.wf, IntKind.max, IntKind.signed, IntKind.bits] at hw; simpa using hw.2)
    have h3 : (UInt8.ofNat z.toNat).toNat = z.toNat % 256 := by simp [UInt8.toNat_ofNat']
    rw [h3]
    omega
   rw [hz2]; exact this
  ·rintro b' off' e; simp at e; omega
end Go.Proofs.YtjhbbgeebobcpaaDoor
namespace Go.Proofs.YtjhbbgeebobcpaaDoor.fnDoTwo
open Go.RowKit Go.ChangeShapes Go.WideShapes Go.ChangeAt
set_option linter.unusedVariables false
set_option maxRecDepth 100000 in
theorem contract (H : Type) (enc : TypeId × Value → H) (W : World) (base : Nat) (args : Array Value) (ds gs : List (DataW H)) (before : List MemPlace)
  (hval : ∀ (j : Nat) t v, Tryd.f11.params[j]? = some t → args[j]? = some v → Value.okWide Tryd.prog W .any base t v)
  (hW : DataW.Whole enc Tryd.prog Tryd.f11.params.toList Rows.fnDoTwoSpec.vars false W args.toList ds gs before) (hL : laidMetH Tryd.prog Rows.fnDoTwoRow.laid W) :
  Calls Tryd.prog 11 args W fun e W' => ∃ v, e = .returned v ∧ Rows.fnDoTwoSpec.post enc Tryd.prog Tryd.f11 false true false false W args v W' := by
 have hW' := hW
 obtain ⟨p, q, hA0, hV, rfl, hfz, hnd⟩ := hW
 have hA : DataW.TrodAll enc Tryd.prog W 0 (fun _ => true) true Tryd.f11.params.toList args.toList ds p := hA0
 rw [Tryd.params11] at hA hval
 obtain ⟨v0, vs0, d0, ds0, p0, q0, hargs, rfl, rfl, h0, r0⟩ := trodAll_cons hA
 obtain ⟨v1, vs1, d1, ds1, p1, q1, rfl, rfl, rfl, h1, r1⟩ := trodAll_cons r0
 obtain ⟨rfl, rfl, rfl⟩ := trodAll_nil r1
 obtain rfl : args = #[v0, v1] := by cases args; simp_all
 obtain ⟨g, tg, csg, fg, dg, pg, rfl, _⟩ := trodVars_one hV
 have lt0 : ∀ x ∈ p0, x.block < W.heap.size := by obtain ⟨m, hm⟩ := h0; exact DataW.trod_lt m _ _ _ hm
 have lt1 : ∀ x ∈ p1, x.block < W.heap.size := by obtain ⟨m, hm⟩ := h1; exact DataW.trod_lt m _ _ _ hm
 obtain ⟨A0, c0, bs0, rfl, hr0, ha0⟩ := arg_bytes (hval 0 22 v0 rfl rfl) h0
 obtain ⟨A1, c1, bs1, rfl, hr1, ha1⟩ := arg_bytes (hval 1 22 v1 rfl rfl) h1
 clear hA0
 refine (doTwo_walk A0 c0 bs0 A1 c1 bs1 W (tab_of hL) hr0 hr1 ha0).mono fun e W' ⟨he, bel⟩ => ?_
 subst he
 exact ⟨_, rfl, _, _, _, [], _, _, hW', trodAll_mk1 (shut_bool Tryd.underlying4 _),
  (trodAll_cons_mk (Below.trod laidOut (by kernel_rfl) (of_decide_eq_true (by kernel_rfl)) h0 bel lt0) (trodAll_cons_mk (Below.trod laidOut (by kernel_rfl) (of_decide_eq_true (by kernel_rfl)) h1 bel lt1) trodAll_mk0)),
  Below.trodVars laidOut bel (by kernel_rfl) hV, bel.frame _, fun h => by cases h⟩
noncomputable def laidWorld (os : Os) : World :=
 { World.holding Tryd.prog os ⟨#[], #[], []⟩ with heap := (World.holding Tryd.prog os ⟨#[], #[], []⟩).heap.modify 0 fun
   |.cells _ t frozen => .cells (owners.map (Value.int .i64)).toArray t frozen
   |o => o }
theorem laid_met (os : Os) : laidMet Tryd.prog Rows.fnDoTwoRow.laid ((laidWorld os).forCall (fun _ _ => 0) ⟨#[], #[.slice none 0 0, .slice none 0 0], []⟩).memory :=
 laidMet_of_run' 8 (by kernel_rfl) (by kernel_rfl)
theorem reads (os : Os) {H : Type} (enc : TypeId × Value → H) : ∃ gs places, DataW.whole enc Tryd.prog ((laidWorld os).forCall (fun _ _ => 0) ⟨#[], #[.slice none 0 0, .slice none 0 0], []⟩).memory Tryd.f11.params.toList Rows.fnDoTwoSpec.vars false #[Value.slice none 0 0, Value.slice none 0 0].toList 8 = some ([.nil, .nil], gs, places) :=
 ⟨[Rows.laid_loop_example_plashet_impl_rowOwners], MemPlace.row ⟨0, 0, none⟩ 37, by kernel_rfl⟩
set_option maxRecDepth 100000 in
theorem lifted (os : Os) (started : os.Started) (H : Type) (enc : TypeId × Value → H) (F : Stop.Interp) :
  ReturnsInHanded {} Tryd.checked os 11 .any ((OpenSpec.ofChange Rows.fnDoTwoSpec).preRow enc Tryd.prog Tryd.f11 Rows.fnDoTwoRow.domain false Rows.fnDoTwoRow.laid) (((OpenSpec.ofChange Rows.fnDoTwoSpec).at F).post enc Tryd.prog Tryd.f11 false true false false) := by
 obtain ⟨gs, places, hx⟩ := reads os enc
 refine returnsInHanded_of_row (C := Tryd.checked) (s := OpenSpec.ofChange Rows.fnDoTwoSpec) own started (by kernel_rfl) Tryd.func11
  (witness_row_at (enc := enc) (C := Tryd.checked) false (laidWorld os) #[.slice none 0 0, .slice none 0 0] rfl (by kernel_rfl) (by kernel_rfl) (by kernel_rfl)
   (OpenSpec.preRow_of_cond 8 hx (by kernel_rfl) (fun k hk => by cases hk) (by kernel_rfl) (laid_met os))) ?_
 intro W base args ds gs before hval hW _ _ _ hL _ _
 exact contract H enc W base args ds gs before hval hW hL
theorem said : Rows.FnDoTwoSaid :=
 OpenClaim.holds_of_cond 11 Tryd.f11 rfl rfl rfl rfl rfl rfl rfl ⟨rfl, rfl, rfl, rfl, rfl⟩ rfl rfl rfl rfl rfl (by kernel_rfl) Tryd.func11 (by kernel_rfl)
  (of_decide_eq_true (by kernel_rfl)) (by unfold Func.isWrapper; first | (rw [if_pos (by decide +kernel)]; kernel_rfl) | (rw [if_neg (by decide +kernel)]; exact ⟨rfl, rfl⟩))
  (fun os started H enc _ F => by rw [OpenClaim.pre_eq_preRow]; exact lifted os started H enc F)
theorem plain (f : FuncId) (fn : Func) (hf : Tryd.pinned.checked.prog.funcNamed "loop.example/plashet/laws.FnDoTwo" = some f) (hfn : Tryd.pinned.checked.prog.funcs[f]? = some fn) :
  true = Tryd.pinned.checked.prog.looks [] ∧ ∀ (j : Nat) t, fn.params[j]? = some t → Tryd.pinned.checked.prog.wantsStandIn t = false := by
 obtain rfl : f = 11 := Option.some.inj ((show Tryd.prog.funcNamed "loop.example/plashet/laws.FnDoTwo" = some 11 by kernel_rfl).symm.trans hf) |>.symm
 obtain rfl : fn = Tryd.f11 := (Option.some.inj (Tryd.func11.symm.trans hfn)).symm
 refine ⟨by kernel_rfl, fun j t ht => ?_⟩
 rw [Tryd.params11] at ht
 obtain rfl : t = 22 := by simpa using Array.mem_of_getElem? ht
 exact (show Tryd.prog.wantsStandIn 22 = false by kernel_rfl)
theorem card : Rows.FnDoTwoCardSaid :=
 Claim7.holds_tied_plain_at .later [] _ _ _ _ said (fun _ h => by cases h) (by kernel_rfl) (fun _ h => by cases h) fnDoTwo_row_tie rfl ⟨rfl, rfl⟩ (by kernel_rfl) rfl plain (by kernel_rfl)
end Go.Proofs.YtjhbbgeebobcpaaDoor.fnDoTwo
