/- The list of a forest. What a change makes of an outline. -/
import Derived.Test.YtikcnbkoeglecaaDoorQF
import Derived.Test.YtikcnbkoeglecaaDoorQA
import Derived.Maps.AppendAt
import Derived.RangeFuncBox
namespace Go.Proofs.YtikcnbkoeglecaaDoor
open Go.RowKit Go.Shelf
set_option linter.unusedVariables false
attribute [local go_sem] Oper.semAt_some

theorem wpOpIn_round {l n : Nat} {P : Program} {ops : Array Oper} {Q : Exit → Act → World → Prop} (hnd : ∀ (j : Nat) (o : Oper), ops[j]? = some o → ∀ c, o.op ≠ .defer c) {i : Nat} {K : Act → World → Prop} {a : Act} {w : World}
    (h : wpOpIn Fence.wide n P ops Q i K a w) : wpOpIn (Fence.wide.inRound l) n P ops Q i K a w := by
  unfold wpOpIn at *
  split
  · rename_i e; simp only [e] at h; exact h
  · rename_i o e
    simp only [e] at h
    split
    · rename_i hw
      simp only [hw, if_true] at h
      unfold Oper.wpIn at *
      rw [Oper.semAt_plain _ _ _ (hnd i o e)] at *
      exact h
    · rename_i hw
      simp only [hw] at h
      exact h
theorem wpAnyIn_round {l n : Nat} {P : Program} {md : Region.Mode} {ops : Array Oper} {Q : Exit → Act → World → Prop} (hnd : ∀ (j : Nat) (o : Oper), ops[j]? = some o → ∀ c, o.op ≠ .defer c) :
    ∀ (fuel : Nat) (listed : Array Bool) (a : Act) (w : World), wpAnyIn Fence.wide n P md ops Q fuel listed a w → wpAnyIn (Fence.wide.inRound l) n P md ops Q fuel listed a w
  | 0, _, _, _, h => h
  | fuel + 1, listed, a, w, h => ⟨h.1, fun i hi => wpOpIn_mono (fun a' w' h' => wpAnyIn_round hnd fuel _ a' w' h') (wpOpIn_round hnd (h.2 i hi))⟩
def noDefer (ops : Array Oper) : Bool := ops.all fun o => match o.op with | .defer _ => false | _ => true
theorem noDefer_spec {ops : Array Oper} (h : noDefer ops = true) (j : Nat) (o : Oper) (hj : ops[j]? = some o) (c : Call) : o.op ≠ .defer c := by
  intro e
  have := Array.all_eq_true.1 h j (Array.getElem?_eq_some_iff.1 hj).1
  obtain ⟨hl, hh⟩ := Array.getElem?_eq_some_iff.1 hj
  rw [hh, e] at this
  cases this
/-- A region of a round that draws its order and defers nothing. -/
theorem region_round {l n id : Nat} {P : Program} {ops : Array Oper} {Q : Exit → Act → World → Prop} {a : Act} {w : World} (hm : P.follows .mixedOrders = true) (hnd : noDefer ops = true)
    (h : wpAnyIn Fence.wide n P .any ops Q ops.size (Array.replicate ops.size false) a w.drew) : (Code.region id ops true).wpIn (Fence.wide.inRound l) n P Q a w :=
  wpIn_region_any hm (wpAnyIn_round (fun j o hj c => noDefer_spec hnd j o hj c) _ _ _ _ h)

theorem anyIn_append {n : Nat} {P : Program} {md : Region.Mode} {ops : Array Oper} {Q : Exit → Act → World → Prop} {fuel : Nat} {listed : Array Bool} {a : Act} {w : World} (i : Nat) {o : Oper} (hi : ops[i]? = some o) (hr : Region.ready md ops listed = [i])
    (hw : Region.wanted o (yielded ops a.tmps) = true) (s x : Operand) (t : TypeId) (hop : o.op = Op.call { callee := Callee.builtin Builtin.append, args := #[s, x], argTypes := #[t, t] }) {v sl v' : Value} {w' : World} (hs : a.eval s = v) (hx : a.eval x = sl)
    (hrun : (Builtin.append_ #[t, t] o.type #[v, sl]).run P w = .ok v' w') (hK : wpAnyIn Fence.wide n P md ops Q fuel (listed.setIfInBounds i true) (a.put o.dst v') w') : wpAnyIn Fence.wide n P md ops Q (fuel + 1) listed a w := by
  refine wpAnyIn_ready hr (by simp) (AllReadyIn.cons hi (fun K hK' => ?_) AllReadyIn.nil)
  rw [if_pos hw]
  unfold Oper.wpIn
  refine ⟨fun _ _ => trivial, ?_⟩
  rw [Oper.semAt_plain _ _ _ (by rw [hop]; intro c hc'; cases hc')]
  simp [execOp, hop, resolve, invoke, builtin, hs, hx, hrun, Result.andThen]
  exact hK' _ _ hK
theorem Own.stab {α : Type} [Flat α] {ts : List TypeId} {B : Nat} {e : TypeId} {W W' : World} {base : Nat} {v : Value} {l : List α} (h : Own e W base v l) (s : Stab B ts W W') (he : e ∈ ts) : Own e W' base v l := by
  refine ⟨⟨h.1.1, ?_⟩, h.2⟩
  rcases h.1.2 with h1 | ⟨g, cap, cur, h1, h2, h3, h4⟩
  · exact .inl h1
  · exact .inr ⟨g, cap, cur, h1, h2, s.cells _ _ _ _ h3 he, h4⟩
theorem T.has_row {h : HP} {adr : Int → Nat} (t : T) : ∀ (d : Int) (top : Bool) (up : Value), T.Has h adr top up t → ∀ r ∈ T.rows d t, ∃ a b c, h (adr r.id) = some (nodeO r.id (.string r.text) a b c) := by
  induction t with
  | nil => intro d top up _ r hr; simp [T.rows] at hr
  | node i x f n ihf ihn =>
    intro d top up ht r hr
    simp only [T.rows, List.mem_cons, List.mem_append] at hr
    rcases hr with rfl | hr | hr
    · exact ⟨_, _, _, ht.1⟩
    · exact ihf _ _ _ ht.2.1 r hr
    · exact ihn _ _ _ ht.2.2 r hr
theorem treeOkF_all (l : List Row) : ∀ (seen : List Int) (R D : Int), treeOkF seen R D l = true → ∀ r ∈ l, rowOk r = true := by
  induction l with
  | nil => intro _ _ _ _ r hr; cases hr
  | cons a l ih =>
    intro seen R D h r hr
    simp only [treeOkF, Bool.and_eq_true] at h
    rcases List.mem_cons.1 hr with rfl | hr
    · exact h.1.1.1
    · have h2 := h.2
      split at h2
      · simp only [Bool.and_eq_true] at h2; exact ih _ _ _ h2.2 r hr
      · exact ih _ _ _ h2 r hr
theorem rowOk_text {r : Row} (h : rowOk r = true) : r.text.size ≤ 4 := by
  unfold rowOk at h
  split at h
  · simp only [Bool.and_eq_true, decide_eq_true_eq] at h; rw [h.2]; exact Nat.zero_le _
  · simp only [Bool.and_eq_true, textOk, decide_eq_true_eq] at h; omega
theorem Kept.grown {ts : List TypeId} {L : Nat → Prop} {W X Y : World} {row : Option Nat} (h : Kept ts L W X) (hg : X.grownBy Y row) (hr : ∀ b, row = some b → ∃ cs ty m, X.heap[b]? = some (Obj.cells cs ty m) ∧ ty ∈ ts) : Kept ts L W Y := by
  refine h.trans ⟨hg.os, hg.tape, hg.output, hg.size, fun b cs ty m hb ht => ?_, fun b o hb ho _ => ?_⟩
  · refine (hg.block b (blk_lt hb) (fun e => ?_)).trans hb
    obtain ⟨cs', ty', m', h1, h2⟩ := hr b e.symm
    rw [hb] at h1; injection h1 with h1; injection h1 with _ h1; exact ht (h1 ▸ h2)
  · refine (hg.block b (blk_lt hb) (fun e => ?_)).trans hb
    obtain ⟨cs', ty', m', h1, h2⟩ := hr b e.symm
    rw [hb] at h1; injection h1 with h1; rw [h1] at ho; cases ho
theorem row_info : ∃ i : TypeInfo, Tryd.prog.info? 61 = some i ∧ i.zero = some (.agg #[.int .i64 0, .int .i64 0, .string ⟨#[]⟩]) ∧ i.size = 3 ∧ i.bytes = 32 := info_parts (by kernel_rfl)
theorem und_rows : Tryd.prog.underlying 25 = some (.slice 61) := by kernel_rfl

set_option maxRecDepth 100000 in
set_option maxHeartbeats 1000000 in
theorem rows_c (g : Nat) (adr : Int → Nat) (t : T) (w : World) (hf : Frs w g adr t) (hv : T.Valid t) (hlen : (T.ids t).length ≤ 1000) :
    Calls Tryd.prog 70 #[.pointer (some ⟨g, 0, none⟩)] w fun e w' => ∃ v, e = .returned v ∧ Own 61 w' w.heap.size v (T.rows 0 t) ∧ Ext w w' := by
  refine (callsIn_wide (n := 3)).1 ?_
  refine callsIn_of_wp_marks Tryd.func70 rfl trivial ?_ rfl
  simp only [Tryd.ntmps70, List.size_toArray, List.length_cons, List.length_nil, Nat.reduceAdd, Nat.reduceSub, Array.replicate_succ, Array.replicate_zero, List.push_toArray, List.append_toArray, List.nil_append, List.cons_append]
  gi_wp2_with (refine ⟨trivial, ?_⟩; gi_at_call 101; refine (callsIn_wide.2 (all_c _ _)).mono ?_; rintro e w1 ⟨rfl, rfl⟩)
  obtain ⟨W0, hW0⟩ : ∃ W0, (((w.alloc (.cells #[] 61)).alloc (.cells #[.slice (some ⟨w.heap.size, 0, none⟩) 0 0] 25)).alloc (.cells #[.pointer (some ⟨g, 0, none⟩)] 99)) = W0 := ⟨_, rfl⟩
  have hsz : W0.heap.size = w.heap.size + 3 := by rw [← hW0, alloc_sz, alloc_sz, alloc_sz]
  have hB0 : Ext w W0 := by rw [← hW0]; exact (((Below.refl _ _).alloc (Nat.le_refl _) _).alloc (by rw [alloc_sz]; omega) _).alloc (by rw [alloc_sz, alloc_sz]; omega) _
  obtain ⟨hx1, hx2, hx3⟩ := three_new w (.cells #[] 61) (.cells #[.slice (some ⟨w.heap.size, 0, none⟩) 0 0] 25) (.cells #[.pointer (some ⟨g, 0, none⟩)] 99)
  rw [hW0] at hx1 hx2 hx3 ⊢
  have hall := treeOkF_all _ _ _ _ (T.treeOk_rows t hv)
  have hfl := T.rows_len 0 t
  refine' wp_rangeX False [25, 61] (fun _ => False) (gf := 112) (lb := #[.pointer (some ⟨w.heap.size + 1 + 1, 0, none⟩)]) rfl (enters_of Tryd.func112 (by kernel_rfl) rfl)
    (all1_s [25, 61] (by decide) (by decide) (by decide) (by decide) (by decide) (by decide) (by decide) g adr (w.heap.size + 1 + 1) t W0 (hf.ext hB0) hv hx3 hlen) (fun _ => rfl) (fun _ h => h.elim)
    (fun k W => ∃ v, Boxed W (w.heap.size + 1) 25 v ∧ Own 61 W w.heap.size v ((T.rows 0 t).take k) ∧ Ext w W)
    (fun _ _ _ => False)
    (fun k W W' h s => by
      obtain ⟨v, h1, h2, h3⟩ := h
      exact ⟨v, (s.low _ (by omega)).trans h1, h2.stab s (by simp), SFrom.below (ts := [25, 61]) (B := W0.heap.size) (by omega) k W W' h3 s⟩)
    (fun c k W W' h s => h) (fun _ _ _ h => h)
    ⟨_, hx2, ⟨⟨rfl, .inr ⟨w.heap.size, 0, #[], rfl, Nat.le_refl _, hx1, Nat.le_refl _, by simp, rfl, rfl⟩⟩, by simp⟩, hB0⟩ _ ?assign ?body ?done ?stop
  case assign =>
    intro l x W K hK
    gi_wp2
    exact hK
  case body =>
    rintro l k hk W hl ⟨v, h1, h2, h3⟩
    obtain ⟨b1, b2, b3, hnode⟩ := T.has_row t 0 true nilp hf.has _ (List.getElem_mem hk)
    have hnW : W.heap[adr (T.rows 0 t)[k].id]? = _ := (h3.block _ (blk_lt hnode)).trans hnode
    obtain ⟨c0, c1, -, -, -, cf⟩ := cells_of hnW
    have cb := h1.cell
    have cbf := h1.frozen
    have hrow := hall _ (List.getElem_mem hk)
    have hlt1 := h1.lt
    have hlt2 := blk_lt hnW
    have hK1 : (T.rows 0 t).take (k + 1) = (T.rows 0 t).take k ++ [(T.rows 0 t)[k]] := List.take_succ_eq_append_getElem hk
    generalize hr : (T.rows 0 t)[k] = r at c0 c1 cf hrow hK1 hnW hnode hlt2
    have hk9 : k < 1000 := by omega
    have H := Lib.hid (And.intro h1 (And.intro h2 (And.intro h3 (And.intro hrow (And.intro hk hK1)))))
    have HW := Lib.hid h3.size
    have HALL := Lib.hid hall
    clear hr h1 h2 h3 hrow hnode hnW hall hf hv hB0 hx1 hx2 hx3 hW0 hfl hk hK1 hlen
    gi_wp2
    obtain ⟨i0, hi0, hz0, hz1, hz2⟩ := row_info
    obtain ⟨h1, h2, h3, hrow, hk, hK1⟩ := H.out
    have hnewx : (W.drew.alloc (.cells #[.int .i64 r.id, .int .i64 r.depth, .string r.text] 61)).heap[W.heap.size]? = some (.cells #[.int .i64 r.id, .int .i64 r.depth, .string r.text] 61 (0, 0)) := World.alloc_heap_new W.drew _
    have hkl : ((T.rows 0 t).take k).length = k := by rw [List.length_take]; omega
    have hkl1 : ((T.rows 0 t).take (k + 1)).length = k + 1 := by rw [List.length_take]; omega
    have hown0 : W.ownsRow w.heap.size 61 3 v k (flat ((T.rows 0 t).take k)) := by have := h2.1; rwa [hkl] at this
    have happ := run_append_own_at (P := Tryd.prog) (w := W.drew.alloc (.cells #[.int .i64 r.id, .int .i64 r.depth, .string r.text] 61)) w.heap.size 25 25 61 i0 _ 3 32 und_rows hi0 hz0 hz1 hz2 rfl (by decide) v k _ ((hown0.drew).alloc _) ⟨W.heap.size, 0, none⟩ 1 1 (rowE r) rfl (fun j u hj => by
        have e1 : (⟨W.heap.size, 0, none⟩ : Addr).add j = ⟨W.heap.size, 0 + j, none⟩ := by unfold Addr.add; split <;> simp_all
        rw [e1, Nat.zero_add]
        unfold World.cell?
        simp only [hnewx]
        simpa [rowE] using hj) (fun u hu => Flat.one r u hu) (by unfold maxLen; omega) (by omega) (by have := HW.out; rw [alloc_sz]; show w.heap.size ≤ W.heap.size + 1; omega)
    obtain ⟨v', w1, hrun, hown, hgrow, -, hblk⟩ := happ
    obtain ⟨g', cap', rfl⟩ := ownsRow_succ hown
    obtain ⟨hv1, hv2, hr2, hk2, hb2⟩ := Boxed.appended (W := W.drew) h1 (by decide) hown0.drew HW.out (by omega) hown hgrow
    have FIN : Hid ((Exit.inBlock 1 (postX [25, 61] (fun _ => False) (fun k W => ∃ v, Boxed W (w.heap.size + 1) 25 v ∧ Own 61 W w.heap.size v ((T.rows 0 t).take k) ∧ Ext w W) (fun _ _ _ => False) (k + 1) W)) .normal { tmps := #[], defers := [] } (w1.setCell ⟨w.heap.size + 1, 0, none⟩ (.slice (some ⟨g', 0, none⟩) (k + 1) cap'))) := by
      refine ⟨?_, _, hv2, ⟨?_, ?_⟩, h3.trans ((Ext.drewN (Below.refl w.heap.size W) 1).trans hb2)⟩
      · have hd : Kept [25, 61] (fun _ => False) W (W.drew.alloc (.cells #[.int .i64 r.id, .int .i64 r.depth, .string r.text] 61)) := (Kept.of_ext (Ext.drewN (Below.refl _ W) 1)).alloc _
        refine (hd.grown hgrow (fun b hb => ?_)).setTurn hv1 (by simp) _ _
        rcases ((hown0.drew).alloc (.cells #[.int .i64 r.id, .int .i64 r.depth, .string r.text] 61)).2 with ⟨h9, _⟩ | ⟨g9, cap9, cur9, h9, _, h8, _⟩
        · rw [h9] at hb; simp [Value.ownBlock] at hb
        · rw [h9] at hb
          simp only [Value.ownBlock, Option.some.injEq] at hb
          subst hb
          exact ⟨_, _, _, h8, by simp⟩
      · rw [hkl1, hK1, flat_append]; exact hr2
      · intro x hx
        have := rowOk_text (HALL.out x (List.mem_of_mem_take hx))
        show x.text.size ≤ maxLen
        unfold maxLen; omega
    have hc1 := hv1.cell
    have hf1 := hv1.frozen
    clear h1 h2 h3 hrow hk hK1 hnewx hown hgrow hblk hown0 hkl hkl1 hv1 hv2 hr2 hk2 hb2 hi0 hz0 hz1 hz2 H
    refine region_round (by kernel_rfl) (by kernel_rfl) ?_
    refine wpAnyIn_take (i := 1) (v := ?_) rfl rfl (by kernel_rfl) (by kernel_rfl) (by kernel_rfl) (fun _ _ _ h => h) ⟨Or.inl ⟨by rfl, ?_⟩, fun _ => rfl⟩ ?_
    rotate_left
    · (intro w; go_simp; try with_reducible rfl)
    refine wpAnyIn_take (i := 2) (v := ?_) rfl rfl (by kernel_rfl) (by kernel_rfl) (by kernel_rfl) (fun _ _ _ h => h) ⟨Or.inl ⟨by rfl, ?_⟩, fun _ => rfl⟩ ?_
    rotate_left
    · (intro w; go_simp; try with_reducible rfl)
    refine wpAnyIn_take (i := 3) (v := ?_) rfl rfl (by kernel_rfl) (by kernel_rfl) (by kernel_rfl) (fun _ _ _ h => h) ⟨Or.inl ⟨by rfl, ?_⟩, fun _ => rfl⟩ ?_
    rotate_left
    · (intro w; go_simp; try with_reducible rfl)
    refine wpAnyIn_take (i := 5) (v := ?_) rfl rfl (by kernel_rfl) (by kernel_rfl) (by kernel_rfl) (fun _ _ _ h => h) ⟨Or.inl ⟨by rfl, ?_⟩, fun _ => rfl⟩ ?_
    rotate_left
    · (intro w; go_simp; try with_reducible rfl)
    refine wpAnyIn_take (i := 6) (v := ?_) rfl rfl (by kernel_rfl) (by kernel_rfl) (by kernel_rfl) (fun _ _ _ h => h) ⟨Or.inl ⟨by rfl, ?_⟩, fun _ => rfl⟩ ?_
    rotate_left
    · (intro w; go_simp; try with_reducible rfl)
    refine wpAnyIn_take (i := 7) (v := ?_) rfl rfl (by kernel_rfl) (by kernel_rfl) (by kernel_rfl) (fun _ _ _ h => h) ⟨Or.inl ⟨by rfl, ?_⟩, fun _ => rfl⟩ ?_
    rotate_left
    · (intro w; go_simp; try with_reducible rfl)
    refine wpAnyIn_take (i := 8) (v := ?_) rfl rfl (by kernel_rfl) (by kernel_rfl) (by kernel_rfl) (fun _ _ _ h => h) ⟨Or.inl ⟨by rfl, ?_⟩, fun _ => rfl⟩ ?_
    rotate_left
    · (intro w; go_simp; try with_reducible rfl)
    --BEGIN
    refine wpAnyIn_ready (rs := [0, 4, 9]) (by kernel_rfl) (by simp) ?_
    refine AllReadyIn.cons rfl (fun K hK => ?_) ?_
    · go_simp
      refine hK _ _ ?_; clear hK K
      refine wpAnyIn_ready (rs := [4, 9]) (by kernel_rfl) (by simp) ?_
      refine AllReadyIn.cons rfl (fun K hK => ?_) ?_
      · go_simp
        refine hK _ _ ?_; clear hK K
        refine wpAnyIn_ready (rs := [9]) (by kernel_rfl) (by simp) ?_
        refine AllReadyIn.cons rfl (fun K hK => ?_) ?_
        · go_simp
          refine hK _ _ ?_; clear hK K
          refine wpAnyIn_take (i := 10) (v := ?_) rfl rfl (by kernel_rfl) (by kernel_rfl) (by kernel_rfl) (fun _ _ _ h => h) ⟨Or.inl ⟨by rfl, ?_⟩, fun _ => rfl⟩ ?_
          rotate_left
          · (intro w; go_simp; try with_reducible rfl)
          refine wpAnyIn_ready (rs := [11]) (by kernel_rfl) (by simp) ?_
          refine AllReadyIn.cons rfl (fun K hK => ?_) ?_
          · go_simp
            refine hK _ _ ?_; clear hK K
            refine anyIn_append 12 rfl (by kernel_rfl) (by rfl) _ _ _ rfl rfl rfl hrun ?_
            refine wpAnyIn_ready (rs := [13]) (by kernel_rfl) (by simp) (AllReadyIn.cons rfl (fun K hK => ?_) AllReadyIn.nil)
            go_simp
            refine hK _ _ ?_; clear hK K
            refine wpAnyIn_done (by kernel_rfl) ?_ _
            exact FIN.out
          exact AllReadyIn.nil
        exact AllReadyIn.nil
      refine AllReadyIn.cons rfl (fun K hK => ?_) ?_
      · go_simp
        refine hK _ _ ?_; clear hK K
        refine wpAnyIn_ready (rs := [4]) (by kernel_rfl) (by simp) ?_
        refine AllReadyIn.cons rfl (fun K hK => ?_) ?_
        · go_simp
          refine hK _ _ ?_; clear hK K
          refine wpAnyIn_take (i := 10) (v := ?_) rfl rfl (by kernel_rfl) (by kernel_rfl) (by kernel_rfl) (fun _ _ _ h => h) ⟨Or.inl ⟨by rfl, ?_⟩, fun _ => rfl⟩ ?_
          rotate_left
          · (intro w; go_simp; try with_reducible rfl)
          refine wpAnyIn_ready (rs := [11]) (by kernel_rfl) (by simp) ?_
          refine AllReadyIn.cons rfl (fun K hK => ?_) ?_
          · go_simp
            refine hK _ _ ?_; clear hK K
            refine anyIn_append 12 rfl (by kernel_rfl) (by rfl) _ _ _ rfl rfl rfl hrun ?_
            refine wpAnyIn_ready (rs := [13]) (by kernel_rfl) (by simp) (AllReadyIn.cons rfl (fun K hK => ?_) AllReadyIn.nil)
            go_simp
            refine hK _ _ ?_; clear hK K
            refine wpAnyIn_done (by kernel_rfl) ?_ _
            exact FIN.out
          exact AllReadyIn.nil
        exact AllReadyIn.nil
      exact AllReadyIn.nil
    refine AllReadyIn.cons rfl (fun K hK => ?_) ?_
    · go_simp
      refine hK _ _ ?_; clear hK K
      refine wpAnyIn_ready (rs := [0, 9]) (by kernel_rfl) (by simp) ?_
      refine AllReadyIn.cons rfl (fun K hK => ?_) ?_
      · go_simp
        refine hK _ _ ?_; clear hK K
        refine wpAnyIn_ready (rs := [9]) (by kernel_rfl) (by simp) ?_
        refine AllReadyIn.cons rfl (fun K hK => ?_) ?_
        · go_simp
          refine hK _ _ ?_; clear hK K
          refine wpAnyIn_take (i := 10) (v := ?_) rfl rfl (by kernel_rfl) (by kernel_rfl) (by kernel_rfl) (fun _ _ _ h => h) ⟨Or.inl ⟨by rfl, ?_⟩, fun _ => rfl⟩ ?_
          rotate_left
          · (intro w; go_simp; try with_reducible rfl)
          refine wpAnyIn_ready (rs := [11]) (by kernel_rfl) (by simp) ?_
          refine AllReadyIn.cons rfl (fun K hK => ?_) ?_
          · go_simp
            refine hK _ _ ?_; clear hK K
            refine anyIn_append 12 rfl (by kernel_rfl) (by rfl) _ _ _ rfl rfl rfl hrun ?_
            refine wpAnyIn_ready (rs := [13]) (by kernel_rfl) (by simp) (AllReadyIn.cons rfl (fun K hK => ?_) AllReadyIn.nil)
            go_simp
            refine hK _ _ ?_; clear hK K
            refine wpAnyIn_done (by kernel_rfl) ?_ _
            exact FIN.out
          exact AllReadyIn.nil
        exact AllReadyIn.nil
      refine AllReadyIn.cons rfl (fun K hK => ?_) ?_
      · go_simp
        refine hK _ _ ?_; clear hK K
        refine wpAnyIn_take (i := 10) (v := ?_) rfl rfl (by kernel_rfl) (by kernel_rfl) (by kernel_rfl) (fun _ _ _ h => h) ⟨Or.inl ⟨by rfl, ?_⟩, fun _ => rfl⟩ ?_
        rotate_left
        · (intro w; go_simp; try with_reducible rfl)
        refine wpAnyIn_ready (rs := [0, 11]) (by kernel_rfl) (by simp) ?_
        refine AllReadyIn.cons rfl (fun K hK => ?_) ?_
        · go_simp
          refine hK _ _ ?_; clear hK K
          refine wpAnyIn_ready (rs := [11]) (by kernel_rfl) (by simp) ?_
          refine AllReadyIn.cons rfl (fun K hK => ?_) ?_
          · go_simp
            refine hK _ _ ?_; clear hK K
            refine anyIn_append 12 rfl (by kernel_rfl) (by rfl) _ _ _ rfl rfl rfl hrun ?_
            refine wpAnyIn_ready (rs := [13]) (by kernel_rfl) (by simp) (AllReadyIn.cons rfl (fun K hK => ?_) AllReadyIn.nil)
            go_simp
            refine hK _ _ ?_; clear hK K
            refine wpAnyIn_done (by kernel_rfl) ?_ _
            exact FIN.out
          exact AllReadyIn.nil
        refine AllReadyIn.cons rfl (fun K hK => ?_) ?_
        · go_simp
          refine hK _ _ ?_; clear hK K
          refine wpAnyIn_ready (rs := [0]) (by kernel_rfl) (by simp) ?_
          refine AllReadyIn.cons rfl (fun K hK => ?_) ?_
          · go_simp
            refine hK _ _ ?_; clear hK K
            refine anyIn_append 12 rfl (by kernel_rfl) (by rfl) _ _ _ rfl rfl rfl hrun ?_
            refine wpAnyIn_ready (rs := [13]) (by kernel_rfl) (by simp) (AllReadyIn.cons rfl (fun K hK => ?_) AllReadyIn.nil)
            go_simp
            refine hK _ _ ?_; clear hK K
            refine wpAnyIn_done (by kernel_rfl) ?_ _
            exact FIN.out
          exact AllReadyIn.nil
        exact AllReadyIn.nil
      exact AllReadyIn.nil
    refine AllReadyIn.cons rfl (fun K hK => ?_) ?_
    · go_simp
      refine hK _ _ ?_; clear hK K
      refine wpAnyIn_ready (rs := [0, 4]) (by kernel_rfl) (by simp) ?_
      refine AllReadyIn.cons rfl (fun K hK => ?_) ?_
      · go_simp
        refine hK _ _ ?_; clear hK K
        refine wpAnyIn_ready (rs := [4]) (by kernel_rfl) (by simp) ?_
        refine AllReadyIn.cons rfl (fun K hK => ?_) ?_
        · go_simp
          refine hK _ _ ?_; clear hK K
          refine wpAnyIn_take (i := 10) (v := ?_) rfl rfl (by kernel_rfl) (by kernel_rfl) (by kernel_rfl) (fun _ _ _ h => h) ⟨Or.inl ⟨by rfl, ?_⟩, fun _ => rfl⟩ ?_
          rotate_left
          · (intro w; go_simp; try with_reducible rfl)
          refine wpAnyIn_ready (rs := [11]) (by kernel_rfl) (by simp) ?_
          refine AllReadyIn.cons rfl (fun K hK => ?_) ?_
          · go_simp
            refine hK _ _ ?_; clear hK K
            refine anyIn_append 12 rfl (by kernel_rfl) (by rfl) _ _ _ rfl rfl rfl hrun ?_
            refine wpAnyIn_ready (rs := [13]) (by kernel_rfl) (by simp) (AllReadyIn.cons rfl (fun K hK => ?_) AllReadyIn.nil)
            go_simp
            refine hK _ _ ?_; clear hK K
            refine wpAnyIn_done (by kernel_rfl) ?_ _
            exact FIN.out
          exact AllReadyIn.nil
        exact AllReadyIn.nil
      refine AllReadyIn.cons rfl (fun K hK => ?_) ?_
      · go_simp
        refine hK _ _ ?_; clear hK K
        refine wpAnyIn_take (i := 10) (v := ?_) rfl rfl (by kernel_rfl) (by kernel_rfl) (by kernel_rfl) (fun _ _ _ h => h) ⟨Or.inl ⟨by rfl, ?_⟩, fun _ => rfl⟩ ?_
        rotate_left
        · (intro w; go_simp; try with_reducible rfl)
        refine wpAnyIn_ready (rs := [0, 11]) (by kernel_rfl) (by simp) ?_
        refine AllReadyIn.cons rfl (fun K hK => ?_) ?_
        · go_simp
          refine hK _ _ ?_; clear hK K
          refine wpAnyIn_ready (rs := [11]) (by kernel_rfl) (by simp) ?_
          refine AllReadyIn.cons rfl (fun K hK => ?_) ?_
          · go_simp
            refine hK _ _ ?_; clear hK K
            refine anyIn_append 12 rfl (by kernel_rfl) (by rfl) _ _ _ rfl rfl rfl hrun ?_
            refine wpAnyIn_ready (rs := [13]) (by kernel_rfl) (by simp) (AllReadyIn.cons rfl (fun K hK => ?_) AllReadyIn.nil)
            go_simp
            refine hK _ _ ?_; clear hK K
            refine wpAnyIn_done (by kernel_rfl) ?_ _
            exact FIN.out
          exact AllReadyIn.nil
        refine AllReadyIn.cons rfl (fun K hK => ?_) ?_
        · go_simp
          refine hK _ _ ?_; clear hK K
          refine wpAnyIn_ready (rs := [0]) (by kernel_rfl) (by simp) ?_
          refine AllReadyIn.cons rfl (fun K hK => ?_) ?_
          · go_simp
            refine hK _ _ ?_; clear hK K
            refine anyIn_append 12 rfl (by kernel_rfl) (by rfl) _ _ _ rfl rfl rfl hrun ?_
            refine wpAnyIn_ready (rs := [13]) (by kernel_rfl) (by simp) (AllReadyIn.cons rfl (fun K hK => ?_) AllReadyIn.nil)
            go_simp
            refine hK _ _ ?_; clear hK K
            refine wpAnyIn_done (by kernel_rfl) ?_ _
            exact FIN.out
          exact AllReadyIn.nil
        exact AllReadyIn.nil
      exact AllReadyIn.nil
    exact AllReadyIn.nil
    --END
  case done =>
    rintro D W hD ⟨v, h1, h2, h3⟩ hK
    rw [List.take_length] at h2
    have cb := h1.cell
    have H := Lib.hid (And.intro h2 h3)
    clear h2 h3 hx1 hx2 hx3 hB0 hW0 hall hf hv
    gi_wp2
    refine ⟨by simp, .inl ⟨_, _, rfl, run_takeDeferred hK, ?_⟩⟩
    refine ⟨_, results_tmp rfl _ _ _, _, rfl, ⟨ownsRow_putObj H.out.1.1 _ hK rfl, H.out.1.2⟩, ?_⟩
    exact H.out.2.trans (belowK_b (w := w) (Nat.le_refl _) W D _ _ (by omega) hK rfl rfl)
  case stop =>
    rintro D c k W hD h hK
    exact h.elim
end Go.Proofs.YtikcnbkoeglecaaDoor
namespace Go.Proofs.YtikcnbkoeglecaaDoor
open Go.RowKit Go.Shelf
set_option linter.unusedVariables false

theorem T.Valid.len {t : T} (h : T.Valid t) : (T.ids t).length ≤ 1000 := by
  have := T.nodup_le (T.ids t) [1, 2, 3, 11, 12, 13, 14, 15, 16, 21, 22, 23, 24, 25, 26, 31, 32, 33, 34, 35, 36] h.2.2 (fun a ha => by
    rcases h.ids_ok a ha with h1 | h1
    · rw [isRoot_iff] at h1; simp only [List.mem_cons, List.not_mem_nil, or_false]; omega
    · rw [isMade_iff] at h1; simp only [List.mem_cons, List.not_mem_nil, or_false]; omega)
  simp at this; omega
theorem T.up_root (t : T) : ∀ (i : Int) (q : Option Int), T.Top i t → 1 ≤ i → i + (T.chain t).length ≤ 4 → ∀ j ∈ T.ids t, isRoot j = false → (q = none → ∃ u, T.upOf j q t = some (some u)) := by
  have good : ∀ (s : T) (u : Int), ∀ j ∈ T.ids s, ∃ v, T.upOf j (some u) s = some (some v) := by
    intro s
    induction s with
    | nil => intro u j hj; simp [T.ids] at hj
    | node a x f n ihf ihn =>
      intro u j hj
      simp only [T.ids, List.mem_cons, List.mem_append] at hj
      simp only [T.upOf]
      by_cases e : a = j
      · rw [if_pos e]; exact ⟨u, rfl⟩
      · rw [if_neg e]
        by_cases hf : j ∈ T.ids f
        · obtain ⟨v, hv⟩ := ihf a j hf; rw [hv]; exact ⟨v, rfl⟩
        · rw [T.upOf_not j _ f hf, Option.none_or]
          exact ihn u j ((hj.resolve_left (fun h => e h.symm)).resolve_left hf)
  induction t with
  | nil => intro i q _ _ _ j hj; simp [T.ids] at hj
  | node a x f n ihf ihn =>
    intro i q ht h1 h2 j hj hr hq
    subst hq
    simp only [T.chain, List.length_cons] at h2
    simp only [T.ids, List.mem_cons, List.mem_append] at hj
    simp only [T.upOf]
    have hne : ¬ a = j := fun e => by
      rw [← e, ht.1] at hr
      have : isRoot i = true := (isRoot_iff i).2 ⟨h1, by omega⟩
      rw [this] at hr; cases hr
    rw [if_neg hne]
    by_cases hf : j ∈ T.ids f
    · obtain ⟨v, hv⟩ := good f a j hf; rw [hv]; exact ⟨v, rfl⟩
    · rw [T.upOf_not j _ f hf, Option.none_or]
      exact ihn (i + 1) none ht.2.2.2 (by omega) (by omega) j ((hj.resolve_left (fun h => hne h.symm)).resolve_left hf) hr rfl
theorem made_rng {id : Int} (h : isMade id = true) : 1 ≤ id ∧ id < 37 := by rw [isMade_iff] at h; omega

theorem apply_c (B g : Nat) (adr : Int → Nat) (t : T) (o : Op) (w : World) (hf : Frs w g adr t) (hv : T.Valid t) (ho : opOk o = true) (hlow : Low B g adr (T.ids t)) (hB : B ≤ w.heap.size) :
    Calls Tryd.prog 69 #[.pointer (some ⟨g, 0, none⟩), o.chg] w fun e w' => e = .returned (.tuple #[]) ∧ ∃ adr', Frs w' g adr' (T.doT t o) ∧ Below B w w' := by
  obtain ⟨hm, hk, htx, hpos⟩ := T.opOk_kind ho
  obtain ⟨h31, h3u⟩ := hv.root 3 rfl
  obtain ⟨r1, r2⟩ := made_rng hm
  have hroot : isRoot o.id = false := made_not_root _ hm
  rcases hk with hk | hk | hk
  · have e1 : o.chg = .iface 126 (.agg #[.int .i64 o.id, .int .i64 o.up, .int .i64 o.pos, .string o.text]) := by simp [Op.chg, hm, hk]
    have e2 : T.doT t o = if o.id ∈ T.ids t then t else T.put t o.id o.text .nil (T.near t o.id o.up o.pos) := by unfold T.doT; rw [if_neg (by omega), if_pos hk]
    rw [e1, e2]
    refine (apply_make B g adr t o.id o.up o.pos o.text w hf hlow hB h31 r1 r2).mono ?_
    rintro e w' ⟨rfl, adr', h1, h2, h3⟩
    exact ⟨rfl, adr', h1, h3⟩
  · have e1 : o.chg = .iface 129 (.agg #[.int .i64 o.id, .string o.text]) := by simp [Op.chg, hm, hk]
    have e2 : T.doT t o = T.setT o.id o.text t := by unfold T.doT; rw [if_pos hk]
    rw [e1, e2]
    refine (apply_text B g adr t o.id o.text w hf hlow hB).mono ?_
    rintro e w' ⟨rfl, h1, h2⟩
    exact ⟨rfl, adr, h1, h2⟩
  · have e1 : o.chg = .iface 131 (.agg #[.int .i64 o.id, .int .i64 o.up, .int .i64 o.pos]) := by simp [Op.chg, hm, hk]
    rw [e1]
    refine (apply_move B g adr t o.id o.up o.pos w hf hlow hB h31 h3u (fun e => by rw [e] at hroot; cases hroot) (fun hi => T.up_root t 1 none hv.1 (by omega) (by rw [hv.2.1]; decide) o.id hi hroot rfl)).mono ?_
    rintro e w' ⟨rfl, t', ht', h1, h2, h3⟩
    have e2 : T.doT t o = t' := by
      rw [ht']; unfold T.doT; rw [if_neg (by omega), if_neg (by omega), if_pos hk]
      cases T.get o.id t with
      | none => rfl
      | some p => rfl
    rw [e2]
    exact ⟨rfl, adr, h1, h3⟩

set_option maxRecDepth 100000 in
theorem plant_no (A : Option Addr) (c : Nat) (l : List Row) (w : World) (ht : Tab w) (hr : Rd w A c l) (hok : treeOk l = false) :
    Calls Tryd.prog 68 #[.slice A l.length c] w fun e w' => e = .returned (.tuple #[nilp, .bool false]) ∧ Ext w w' := by
  have hm : l.length ≤ maxLen := Nat.le_trans hr.1 hr.2.1
  unfold maxLen at hm
  have HO := treeOk_c A c l w ht hr
  rw [hok] at HO
  have HO := Lib.hid HO
  clear ht hr hok
  go_enter Tryd.func68, Tryd.ntmps68
  go_wp2_with fail
  refine HO.out.mono ?_; rintro e w1 ⟨rfl, hb⟩; have HB1 := Lib.hid hb; clear hb HO
  go_wp2_with fail
  go_ret2
  exact ⟨rfl, HB1.out⟩

set_option maxRecDepth 100000 in
theorem opDo_c (A : Option Addr) (c : Nat) (l : List Row) (o : Op) (w : World) (ht : Tab w) (hr : Rd w A c l) (hs : o.text.size ≤ maxLen) :
    Calls Tryd.prog 34 #[.slice A l.length c, o.val] w fun e w' => ∃ v, e = .returned v ∧ Own 61 w' w.heap.size v (opDo l o) ∧ Ext w w' := by
  have hB0 : Ext w (w.alloc (.cells #[.int .i64 o.kind, .int .i64 o.id, .int .i64 o.up, .int .i64 o.pos, .string o.text] 56)) := (Below.refl _ w).alloc (Nat.le_refl _) _
  have HC := Lib.hid (changeOf_c o _ (ht.alloc (.cells #[.int .i64 o.kind, .int .i64 o.id, .int .i64 o.up, .int .i64 o.pos, .string o.text] 56)) hs)
  have HT := Lib.hid ht; have HR := Lib.hid hr; have HB0 := Lib.hid hB0
  have hpos := ht.pos
  have hval : o.val = .agg #[.int .i64 o.kind, .int .i64 o.id, .int .i64 o.up, .int .i64 o.pos, .string o.text] := rfl
  rw [hval]
  clear ht hr hB0 hval
  cases hok : opOk o
  · have HO := Lib.hid hok
    rw [hok] at HC
    clear hok
    have hres : opDo l o = [] := by unfold opDo; rw [HO.out, Bool.and_false]; rfl
    rw [hres]
    have hp : ∀ w1, Ext w w1 → Calls Tryd.prog 68 #[.slice A l.length c] w1 fun e w' => ∃ v b, e = .returned (.tuple #[.pointer v, .bool b]) ∧ Ext w1 w' := fun w1 h => by
      cases hk : treeOk l
      · refine (plant_no A c l w1 (HT.out.below h hpos) (HR.out.ext h) hk).mono ?_
        rintro e w' ⟨rfl, h⟩
        exact ⟨_, _, rfl, h⟩
      · refine (plant_c A c l w1 (HT.out.below h hpos) (HR.out.ext h) hk).mono ?_
        rintro e w' ⟨g, adr, rfl, _, _, h⟩
        exact ⟨_, _, rfl, h⟩
    have HP := Lib.hid hp
    clear hp hres
    go_enter Tryd.func34, Tryd.ntmps34
    go_wp2_with fail
    refine HC.out.mono ?_; rintro e w1 ⟨rfl, hb1⟩
    have HB1 := Lib.hid (HB0.out.trans (hb1.mono (by rw [alloc_sz]; omega))); clear hb1 HC
    go_wp2_with fail
    refine (HP.out _ HB1.out).mono ?_; rintro e w2 ⟨v, b, rfl, hb2⟩
    have HB2 := Lib.hid hb2; clear hb2 HP
    go_wp2_with fail
    go_ret
    exact ⟨_, rfl, Own.nil _ _ _, HB1.out.trans (HB2.out.mono HB1.out.size)⟩
  · have HO := Lib.hid hok
    rw [hok] at HC
    clear hok
    cases hk : treeOk l
    · have hres : opDo l o = [] := by unfold opDo; rw [hk, Bool.false_and]; rfl
      rw [hres]
      have hp : ∀ w1, Ext w w1 → _ := fun w1 h => plant_no A c l w1 (HT.out.below h hpos) (HR.out.ext h) hk
      have HP := Lib.hid hp
      clear hp hres hk
      go_enter Tryd.func34, Tryd.ntmps34
      go_wp2_with fail
      refine HC.out.mono ?_; rintro e w1 ⟨rfl, hb1⟩
      have HB1 := Lib.hid (HB0.out.trans (hb1.mono (by rw [alloc_sz]; omega))); clear hb1 HC
      go_wp2_with fail
      refine (HP.out _ HB1.out).mono ?_; rintro e w2 ⟨rfl, hb2⟩
      have HB2 := Lib.hid hb2; clear hb2 HP
      go_wp2_with fail
      go_ret
      exact ⟨_, rfl, Own.nil _ _ _, HB1.out.trans (HB2.out.mono HB1.out.size)⟩
    · have hres : opDo l o = T.rows 0 (T.doT (T.build l) o) := by unfold opDo; rw [hk, HO.out, Bool.true_and, if_pos rfl]; exact doL_build l o hk HO.out
      rw [hres]
      have hp : ∀ w1, Ext w w1 → _ := fun w1 h => plant_c A c l w1 (HT.out.below h hpos) (HR.out.ext h) hk
      have HP := Lib.hid hp
      have HV := Lib.hid (T.valid_build l hk).1
      clear hp hres hk
      go_enter Tryd.func34, Tryd.ntmps34
      go_wp2_with fail
      refine HC.out.mono ?_; rintro e w1 ⟨rfl, hb1⟩
      have HB1 := Lib.hid (HB0.out.trans (hb1.mono (by rw [alloc_sz]; omega))); clear hb1 HC
      go_wp2_with fail
      refine (HP.out _ HB1.out).mono ?_; rintro e w2 ⟨g, adr, rfl, hf2, hl2, hb2⟩
      have HB2 := Lib.hid (HB1.out.trans (hb2.mono HB1.out.size))
      have HA := Lib.hid (apply_c w1.heap.size g adr _ o w2 hf2 HV.out HO.out hl2 hb2.size)
      clear hb2 HP hf2 hl2
      go_wp2_with fail
      refine HA.out.mono ?_; rintro e w3 ⟨rfl, adr', hf3, hb3⟩
      have HB3 := Lib.hid (HB2.out.trans (hb3.mono HB1.out.size))
      have hv3 := T.valid_doT _ HV.out o HO.out
      have HRW := Lib.hid (rows_c g adr' _ w3 hf3 hv3 hv3.len)
      clear hf3 hb3 HA hv3
      go_wp2_with fail
      refine HRW.out.mono ?_; rintro e w4 ⟨v, rfl, hown, hb4⟩
      have HOWN := Lib.hid (And.intro hown hb4); clear hown hb4 HRW
      go_wp2_with fail
      go_ret
      exact ⟨v, rfl, HOWN.out.1.lower HB3.out.size, HB3.out.trans (HOWN.out.2.mono HB3.out.size)⟩
end Go.Proofs.YtikcnbkoeglecaaDoor
