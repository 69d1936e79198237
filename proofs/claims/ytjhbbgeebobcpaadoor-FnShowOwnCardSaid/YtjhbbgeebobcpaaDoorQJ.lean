/- The list of a forest. A row is taken from its place. -/
import Derived.Test.YtjhbbgeebobcpaaDoorQI
import Derived.Test.YtjhbbgeebobcpaaDoorQB
import Derived.Maps.AppendAt
import Derived.RangeFuncBox
import Derived.Test.YtjhbbgeebobcpaaDoorQH
import Derived.RegionTactic
namespace Go.Proofs.YtjhbbgeebobcpaaDoor
open Go.RowKit Go.Shelf
set_option linter.unusedVariables false
attribute [local go_sem] Oper.semAt_some

theorem wpOpIn_round {l n : Nat} {P : Program} {ops : Array Oper} {Q : Exit → Act → World → Prop} (hnd : ∀ (j : Nat) (o : Oper), ops[j]? = some o → ∀ c, o.op ≠ .defer c) {i : Nat} {K : Act → World → Prop} {a : Act} {w : World}
    (h : wpOpIn Fence.wide n P ops Q i K a w) : wpOpIn (Fence.wide.inRound l) n P ops Q i K a w := by
  unfold wpOpIn at *
  split
  · rename_i e; simp only [e] at h; exact h
  · rename_i o e
    simp only [e] at h
    split
    · rename_i hw
      simp only [hw, if_true] at h
      unfold Oper.wpIn at *
      rw [Oper.semAt_plain _ _ _ (hnd i o e)] at *
      exact h
    · rename_i hw
      simp only [hw] at h
      exact h
theorem wpAnyIn_round {l n : Nat} {P : Program} {md : Region.Mode} {ops : Array Oper} {Q : Exit → Act → World → Prop} (hnd : ∀ (j : Nat) (o : Oper), ops[j]? = some o → ∀ c, o.op ≠ .defer c) :
    ∀ (fuel : Nat) (listed : Array Bool) (a : Act) (w : World), wpAnyIn Fence.wide n P md ops Q fuel listed a w → wpAnyIn (Fence.wide.inRound l) n P md ops Q fuel listed a w
  | 0, _, _, _, h => h
  | fuel + 1, listed, a, w, h => ⟨h.1, fun i hi => wpOpIn_mono (fun a' w' h' => wpAnyIn_round hnd fuel _ a' w' h') (wpOpIn_round hnd (h.2 i hi))⟩
def noDefer (ops : Array Oper) : Bool := ops.all fun o => match o.op with | .defer _ => false | _ => true
theorem noDefer_spec {ops : Array Oper} (h : noDefer ops = true) (j : Nat) (o : Oper) (hj : ops[j]? = some o) (c : Call) : o.op ≠ .defer c := by
  intro e
  have := Array.all_eq_true.1 h j (Array.getElem?_eq_some_iff.1 hj).1
  obtain ⟨hl, hh⟩ := Array.getElem?_eq_some_iff.1 hj
  rw [hh, e] at this
  cases this
/-- A region of a round that draws its order and defers nothing. -/
theorem region_round {l n id : Nat} {P : Program} {ops : Array Oper} {Q : Exit → Act → World → Prop} {a : Act} {w : World} (hm : P.follows .mixedOrders = true) (hnd : noDefer ops = true)
    (h : wpAnyIn Fence.wide n P .any ops Q ops.size (Array.replicate ops.size false) a w.drew) : (Code.region id ops true).wpIn (Fence.wide.inRound l) n P Q a w :=
  wpIn_region_any hm (wpAnyIn_round (fun j o hj c => noDefer_spec hnd j o hj c) _ _ _ _ h)

theorem anyIn_append {n : Nat} {P : Program} {md : Region.Mode} {ops : Array Oper} {Q : Exit → Act → World → Prop} {fuel : Nat} {listed : Array Bool} {a : Act} {w : World} (i : Nat) {o : Oper} (hi : ops[i]? = some o) (hr : Region.ready md ops listed = [i])
    (hw : Region.wanted o (yielded ops a.tmps) = true) (s x : Operand) (t : TypeId) (hop : o.op = Op.call { callee := Callee.builtin Builtin.append, args := #[s, x], argTypes := #[t, t] }) {v sl v' : Value} {w' : World} (hs : a.eval s = v) (hx : a.eval x = sl)
    (hrun : (Builtin.append_ #[t, t] o.type #[v, sl]).run P w = .ok v' w') (hK : wpAnyIn Fence.wide n P md ops Q fuel (listed.setIfInBounds i true) (a.put o.dst v') w') : wpAnyIn Fence.wide n P md ops Q (fuel + 1) listed a w := by
  refine wpAnyIn_ready hr (by simp) (AllReadyIn.cons hi (fun K hK' => ?_) AllReadyIn.nil)
  rw [if_pos hw]
  unfold Oper.wpIn
  refine ⟨fun _ _ => trivial, ?_⟩
  rw [Oper.semAt_plain _ _ _ (by rw [hop]; intro c hc'; cases hc')]
  simp [execOp, hop, resolve, invoke, builtin, hs, hx, hrun, Result.andThen]
  exact hK' _ _ hK
theorem Own.stab {α : Type} [Flat α] {ts : List TypeId} {B : Nat} {e : TypeId} {W W' : World} {base : Nat} {v : Value} {l : List α} (h : Own e W base v l) (s : Stab B ts W W') (he : e ∈ ts) : Own e W' base v l := by
  refine ⟨⟨h.1.1, ?_⟩, h.2⟩
  rcases h.1.2 with h1 | ⟨g, cap, cur, h1, h2, h3, h4⟩
  · exact .inl h1
  · exact .inr ⟨g, cap, cur, h1, h2, s.cells _ _ _ _ h3 he, h4⟩
theorem T.has_row {h : HP} {adr : Int → Nat} (t : T) : ∀ (d : Int) (top : Bool) (up : Value), T.Has h adr top up t → ∀ r ∈ T.rows d t, ∃ a b c, h (adr r.id) = some (nodeO r.id (.string r.text) a b c) := by
  induction t with
  | nil => intro d top up _ r hr; simp [T.rows] at hr
  | node i x f n ihf ihn =>
    intro d top up ht r hr
    simp only [T.rows, List.mem_cons, List.mem_append] at hr
    rcases hr with rfl | hr | hr
    · exact ⟨_, _, _, ht.1⟩
    · exact ihf _ _ _ ht.2.1 r hr
    · exact ihn _ _ _ ht.2.2 r hr
theorem treeOkF_all (l : List Row) : ∀ (seen : List Int) (R D : Int), treeOkF seen R D l = true → ∀ r ∈ l, rowOk r = true := by
  induction l with
  | nil => intro _ _ _ _ r hr; cases hr
  | cons a l ih =>
    intro seen R D h r hr
    simp only [treeOkF, Bool.and_eq_true] at h
    rcases List.mem_cons.1 hr with rfl | hr
    · exact h.1.1.1
    · have h2 := h.2
      split at h2
      · simp only [Bool.and_eq_true] at h2; exact ih _ _ _ h2.2 r hr
      · exact ih _ _ _ h2 r hr
theorem rowOk_text {r : Row} (h : rowOk r = true) : r.text.size ≤ 4 := by
  unfold rowOk at h
  split at h
  · simp only [Bool.and_eq_true, decide_eq_true_eq] at h; rw [h.2]; exact Nat.zero_le _
  · simp only [Bool.and_eq_true, textOk, decide_eq_true_eq] at h; omega
theorem Kept.grown {ts : List TypeId} {L : Nat → Prop} {W X Y : World} {row : Option Nat} (h : Kept ts L W X) (hg : X.grownBy Y row) (hr : ∀ b, row = some b → ∃ cs ty m, X.heap[b]? = some (Obj.cells cs ty m) ∧ ty ∈ ts) : Kept ts L W Y := by
  refine h.trans ⟨hg.os, hg.tape, hg.output, hg.size, fun b cs ty m hb ht => ?_, fun b o hb ho _ => ?_⟩
  · refine (hg.block b (blk_lt hb) (fun e => ?_)).trans hb
    obtain ⟨cs', ty', m', h1, h2⟩ := hr b e.symm
    rw [hb] at h1; injection h1 with h1; injection h1 with _ h1; exact ht (h1 ▸ h2)
  · refine (hg.block b (blk_lt hb) (fun e => ?_)).trans hb
    obtain ⟨cs', ty', m', h1, h2⟩ := hr b e.symm
    rw [hb] at h1; injection h1 with h1; rw [h1] at ho; cases ho
theorem row_info : ∃ i : TypeInfo, Tryd.prog.info? 47 = some i ∧ i.zero = some (.agg #[.int .i64 0, .int .i64 0, .string ⟨#[]⟩]) ∧ i.size = 3 ∧ i.bytes = 32 := info_parts (by kernel_rfl)
theorem und_rows : Tryd.prog.underlying 25 = some (.slice 47) := by kernel_rfl

set_option maxRecDepth 100000 in
set_option maxHeartbeats 1000000 in
theorem rows_c (g : Nat) (adr : Int → Nat) (t : T) (w : World) (hf : Frs w g adr t) (hv : T.Valid t) (hlen : (T.ids t).length ≤ 1000) :
    Calls Tryd.prog 59 #[.pointer (some ⟨g, 0, none⟩)] w fun e w' => ∃ v, e = .returned v ∧ Own 47 w' w.heap.size v (T.rows 0 t) ∧ Ext w w' := by
  refine (callsIn_wide (n := 3)).1 ?_
  refine callsIn_of_wp_marks Tryd.func59 rfl trivial ?_ rfl
  simp only [Tryd.ntmps59, List.size_toArray, List.length_cons, List.length_nil, Nat.reduceAdd, Nat.reduceSub, Array.replicate_succ, Array.replicate_zero, List.push_toArray, List.append_toArray, List.nil_append, List.cons_append]
  gi_wp2_with (refine ⟨trivial, ?_⟩; gi_at_call 86; refine (callsIn_wide.2 (all_c _ _)).mono ?_; rintro e w1 ⟨rfl, rfl⟩)
  obtain ⟨W0, hW0⟩ : ∃ W0, (((w.alloc (.cells #[] 47)).alloc (.cells #[.slice (some ⟨w.heap.size, 0, none⟩) 0 0] 25)).alloc (.cells #[.pointer (some ⟨g, 0, none⟩)] 82)) = W0 := ⟨_, rfl⟩
  have hsz : W0.heap.size = w.heap.size + 3 := by rw [← hW0, alloc_sz, alloc_sz, alloc_sz]
  have hB0 : Ext w W0 := by rw [← hW0]; exact (((Below.refl _ _).alloc (Nat.le_refl _) _).alloc (by rw [alloc_sz]; omega) _).alloc (by rw [alloc_sz, alloc_sz]; omega) _
  obtain ⟨hx1, hx2, hx3⟩ := three_new w (.cells #[] 47) (.cells #[.slice (some ⟨w.heap.size, 0, none⟩) 0 0] 25) (.cells #[.pointer (some ⟨g, 0, none⟩)] 82)
  rw [hW0] at hx1 hx2 hx3 ⊢
  have hall := treeOkF_all _ _ _ _ (T.treeOk_rows t hv)
  have hfl := T.rows_len 0 t
  refine' wp_rangeX False [25, 47] (fun _ => False) (gf := 102) (lb := #[.pointer (some ⟨w.heap.size + 1 + 1, 0, none⟩)]) rfl (enters_of Tryd.func102 (by kernel_rfl) rfl)
    (all1_s [25, 47] (by decide) (by decide) (by decide) (by decide) (by decide) (by decide) (by decide) g adr (w.heap.size + 1 + 1) t W0 (hf.ext hB0) hv hx3 hlen) (fun _ => rfl) (fun _ h => h.elim)
    (fun k W => ∃ v, Boxed W (w.heap.size + 1) 25 v ∧ Own 47 W w.heap.size v ((T.rows 0 t).take k) ∧ Ext w W)
    (fun _ _ _ => False)
    (fun k W W' h s => by
      obtain ⟨v, h1, h2, h3⟩ := h
      exact ⟨v, (s.low _ (by omega)).trans h1, h2.stab s (by simp), SFrom.below (ts := [25, 47]) (B := W0.heap.size) (by omega) k W W' h3 s⟩)
    (fun c k W W' h s => h) (fun _ _ _ h => h)
    ⟨_, hx2, ⟨⟨rfl, .inr ⟨w.heap.size, 0, #[], rfl, Nat.le_refl _, hx1, Nat.le_refl _, by simp, rfl, rfl⟩⟩, by simp⟩, hB0⟩ _ ?assign ?body ?done ?stop
  case assign =>
    intro l x W K hK
    gi_wp2
    exact hK
  case body =>
    rintro l k hk W hl ⟨v, h1, h2, h3⟩
    obtain ⟨b1, b2, b3, hnode⟩ := T.has_row t 0 true nilp hf.has _ (List.getElem_mem hk)
    have hnW : W.heap[adr (T.rows 0 t)[k].id]? = _ := (h3.block _ (blk_lt hnode)).trans hnode
    obtain ⟨c0, c1, -, -, -, cf⟩ := cells_of hnW
    have cb := h1.cell
    have cbf := h1.frozen
    have hrow := hall _ (List.getElem_mem hk)
    have hlt1 := h1.lt
    have hlt2 := blk_lt hnW
    have hK1 : (T.rows 0 t).take (k + 1) = (T.rows 0 t).take k ++ [(T.rows 0 t)[k]] := List.take_succ_eq_append_getElem hk
    generalize hr : (T.rows 0 t)[k] = r at c0 c1 cf hrow hK1 hnW hnode hlt2
    have hk9 : k < 1000 := by omega
    have H := Lib.hid (And.intro h1 (And.intro h2 (And.intro h3 (And.intro hrow (And.intro hk hK1)))))
    have HW := Lib.hid h3.size
    have HALL := Lib.hid hall
    clear hr h1 h2 h3 hrow hnode hnW hall hf hv hB0 hx1 hx2 hx3 hW0 hfl hk hK1 hlen
    gi_wp2
    obtain ⟨i0, hi0, hz0, hz1, hz2⟩ := row_info
    obtain ⟨h1, h2, h3, hrow, hk, hK1⟩ := H.out
    have hnewx : (W.drew.alloc (.cells #[.int .i64 r.id, .int .i64 r.depth, .string r.text] 47)).heap[W.heap.size]? = some (.cells #[.int .i64 r.id, .int .i64 r.depth, .string r.text] 47 (0, 0)) := World.alloc_heap_new W.drew _
    have hkl : ((T.rows 0 t).take k).length = k := by rw [List.length_take]; omega
    have hkl1 : ((T.rows 0 t).take (k + 1)).length = k + 1 := by rw [List.length_take]; omega
    have hown0 : W.ownsRow w.heap.size 47 3 v k (flat ((T.rows 0 t).take k)) := by have := h2.1; rwa [hkl] at this
    have happ := run_append_own_at (P := Tryd.prog) (w := W.drew.alloc (.cells #[.int .i64 r.id, .int .i64 r.depth, .string r.text] 47)) w.heap.size 25 25 47 i0 _ 3 32 und_rows hi0 hz0 hz1 hz2 rfl (by decide) v k _ ((hown0.drew).alloc _) ⟨W.heap.size, 0, none⟩ 1 1 (rowE r) rfl (fun j u hj => by
        have e1 : (⟨W.heap.size, 0, none⟩ : Addr).add j = ⟨W.heap.size, 0 + j, none⟩ := by unfold Addr.add; split <;> simp_all
        rw [e1, Nat.zero_add]
        unfold World.cell?
        simp only [hnewx]
        simpa [rowE] using hj) (fun u hu => Flat.one r u hu) (by unfold maxLen; omega) (by omega) (by have := HW.out; rw [alloc_sz]; show w.heap.size ≤ W.heap.size + 1; omega)
    obtain ⟨v', w1, hrun, hown, hgrow, -, hblk⟩ := happ
    obtain ⟨g', cap', rfl⟩ := ownsRow_succ hown
    obtain ⟨hv1, hv2, hr2, hk2, hb2⟩ := Boxed.appended (W := W.drew) h1 (by decide) hown0.drew HW.out (by omega) hown hgrow
    have FIN : Hid ((Exit.inBlock 1 (postX [25, 47] (fun _ => False) (fun k W => ∃ v, Boxed W (w.heap.size + 1) 25 v ∧ Own 47 W w.heap.size v ((T.rows 0 t).take k) ∧ Ext w W) (fun _ _ _ => False) (k + 1) W)) .normal { tmps := #[], defers := [] } (w1.setCell ⟨w.heap.size + 1, 0, none⟩ (.slice (some ⟨g', 0, none⟩) (k + 1) cap'))) := by
      refine ⟨?_, _, hv2, ⟨?_, ?_⟩, h3.trans ((Ext.drewN (Below.refl w.heap.size W) 1).trans hb2)⟩
      · have hd : Kept [25, 47] (fun _ => False) W (W.drew.alloc (.cells #[.int .i64 r.id, .int .i64 r.depth, .string r.text] 47)) := (Kept.of_ext (Ext.drewN (Below.refl _ W) 1)).alloc _
        refine (hd.grown hgrow (fun b hb => ?_)).setTurn hv1 (by simp) _ _
        rcases ((hown0.drew).alloc (.cells #[.int .i64 r.id, .int .i64 r.depth, .string r.text] 47)).2 with ⟨h9, _⟩ | ⟨g9, cap9, cur9, h9, _, h8, _⟩
        · rw [h9] at hb; simp [Value.ownBlock] at hb
        · rw [h9] at hb
          simp only [Value.ownBlock, Option.some.injEq] at hb
          subst hb
          exact ⟨_, _, _, h8, by simp⟩
      · rw [hkl1, hK1, flat_append]; exact hr2
      · intro x hx
        have := rowOk_text (HALL.out x (List.mem_of_mem_take hx))
        show x.text.size ≤ maxLen
        unfold maxLen; omega
    have hc1 := hv1.cell
    have hf1 := hv1.frozen
    clear h1 h2 h3 hrow hk hK1 hnewx hown hgrow hblk hown0 hkl hkl1 hv1 hv2 hr2 hk2 hb2 hi0 hz0 hz1 hz2 H
    refine region_round (by kernel_rfl) (by kernel_rfl) ?_
    refine wpAnyIn_take (i := 1) (v := ?_) rfl rfl (by kernel_rfl) (by kernel_rfl) (by kernel_rfl) (fun _ _ _ h => h) ⟨Or.inl ⟨by rfl, ?_⟩, fun _ => rfl⟩ ?_
    rotate_left
    · (intro w; go_simp; try with_reducible rfl)
    refine wpAnyIn_take (i := 2) (v := ?_) rfl rfl (by kernel_rfl) (by kernel_rfl) (by kernel_rfl) (fun _ _ _ h => h) ⟨Or.inl ⟨by rfl, ?_⟩, fun _ => rfl⟩ ?_
    rotate_left
    · (intro w; go_simp; try with_reducible rfl)
    refine wpAnyIn_take (i := 3) (v := ?_) rfl rfl (by kernel_rfl) (by kernel_rfl) (by kernel_rfl) (fun _ _ _ h => h) ⟨Or.inl ⟨by rfl, ?_⟩, fun _ => rfl⟩ ?_
    rotate_left
    · (intro w; go_simp; try with_reducible rfl)
    refine wpAnyIn_take (i := 5) (v := ?_) rfl rfl (by kernel_rfl) (by kernel_rfl) (by kernel_rfl) (fun _ _ _ h => h) ⟨Or.inl ⟨by rfl, ?_⟩, fun _ => rfl⟩ ?_
    rotate_left
    · (intro w; go_simp; try with_reducible rfl)
    refine wpAnyIn_take (i := 6) (v := ?_) rfl rfl (by kernel_rfl) (by kernel_rfl) (by kernel_rfl) (fun _ _ _ h => h) ⟨Or.inl ⟨by rfl, ?_⟩, fun _ => rfl⟩ ?_
    rotate_left
    · (intro w; go_simp; try with_reducible rfl)
    refine wpAnyIn_take (i := 7) (v := ?_) rfl rfl (by kernel_rfl) (by kernel_rfl) (by kernel_rfl) (fun _ _ _ h => h) ⟨Or.inl ⟨by rfl, ?_⟩, fun _ => rfl⟩ ?_
    rotate_left
    · (intro w; go_simp; try with_reducible rfl)
    refine wpAnyIn_take (i := 8) (v := ?_) rfl rfl (by kernel_rfl) (by kernel_rfl) (by kernel_rfl) (fun _ _ _ h => h) ⟨Or.inl ⟨by rfl, ?_⟩, fun _ => rfl⟩ ?_
    rotate_left
    · (intro w; go_simp; try with_reducible rfl)
    --BEGIN
    refine wpAnyIn_ready (rs := [0, 4, 9]) (by kernel_rfl) (by simp) ?_
    refine AllReadyIn.cons rfl (fun K hK => ?_) ?_
    · go_simp
      refine hK _ _ ?_; clear hK K
      refine wpAnyIn_ready (rs := [4, 9]) (by kernel_rfl) (by simp) ?_
      refine AllReadyIn.cons rfl (fun K hK => ?_) ?_
      · go_simp
        refine hK _ _ ?_; clear hK K
        refine wpAnyIn_ready (rs := [9]) (by kernel_rfl) (by simp) ?_
        refine AllReadyIn.cons rfl (fun K hK => ?_) ?_
        · go_simp
          refine hK _ _ ?_; clear hK K
          refine wpAnyIn_take (i := 10) (v := ?_) rfl rfl (by kernel_rfl) (by kernel_rfl) (by kernel_rfl) (fun _ _ _ h => h) ⟨Or.inl ⟨by rfl, ?_⟩, fun _ => rfl⟩ ?_
          rotate_left
          · (intro w; go_simp; try with_reducible rfl)
          refine wpAnyIn_ready (rs := [11]) (by kernel_rfl) (by simp) ?_
          refine AllReadyIn.cons rfl (fun K hK => ?_) ?_
          · go_simp
            refine hK _ _ ?_; clear hK K
            refine anyIn_append 12 rfl (by kernel_rfl) (by rfl) _ _ _ rfl rfl rfl hrun ?_
            refine wpAnyIn_ready (rs := [13]) (by kernel_rfl) (by simp) (AllReadyIn.cons rfl (fun K hK => ?_) AllReadyIn.nil)
            go_simp
            refine hK _ _ ?_; clear hK K
            refine wpAnyIn_done (by kernel_rfl) ?_ _
            exact FIN.out
          exact AllReadyIn.nil
        exact AllReadyIn.nil
      refine AllReadyIn.cons rfl (fun K hK => ?_) ?_
      · go_simp
        refine hK _ _ ?_; clear hK K
        refine wpAnyIn_ready (rs := [4]) (by kernel_rfl) (by simp) ?_
        refine AllReadyIn.cons rfl (fun K hK => ?_) ?_
        · go_simp
          refine hK _ _ ?_; clear hK K
          refine wpAnyIn_take (i := 10) (v := ?_) rfl rfl (by kernel_rfl) (by kernel_rfl) (by kernel_rfl) (fun _ _ _ h => h) ⟨Or.inl ⟨by rfl, ?_⟩, fun _ => rfl⟩ ?_
          rotate_left
          · (intro w; go_simp; try with_reducible rfl)
          refine wpAnyIn_ready (rs := [11]) (by kernel_rfl) (by simp) ?_
          refine AllReadyIn.cons rfl (fun K hK => ?_) ?_
          · go_simp
            refine hK _ _ ?_; clear hK K
            refine anyIn_append 12 rfl (by kernel_rfl) (by rfl) _ _ _ rfl rfl rfl hrun ?_
            refine wpAnyIn_ready (rs := [13]) (by kernel_rfl) (by simp) (AllReadyIn.cons rfl (fun K hK => ?_) AllReadyIn.nil)
            go_simp
            refine hK _ _ ?_; clear hK K
            refine wpAnyIn_done (by kernel_rfl) ?_ _
            exact FIN.out
          exact AllReadyIn.nil
        exact AllReadyIn.nil
      exact AllReadyIn.nil
    refine AllReadyIn.cons rfl (fun K hK => ?_) ?_
    · go_simp
      refine hK _ _ ?_; clear hK K
      refine wpAnyIn_ready (rs := [0, 9]) (by kernel_rfl) (by simp) ?_
      refine AllReadyIn.cons rfl (fun K hK => ?_) ?_
      · go_simp
        refine hK _ _ ?_; clear hK K
        refine wpAnyIn_ready (rs := [9]) (by kernel_rfl) (by simp) ?_
        refine AllReadyIn.cons rfl (fun K hK => ?_) ?_
        · go_simp
          refine hK _ _ ?_; clear hK K
          refine wpAnyIn_take (i := 10) (v := ?_) rfl rfl (by kernel_rfl) (by kernel_rfl) (by kernel_rfl) (fun _ _ _ h => h) ⟨Or.inl ⟨by rfl, ?_⟩, fun _ => rfl⟩ ?_
          rotate_left
          · (intro w; go_simp; try with_reducible rfl)
          refine wpAnyIn_ready (rs := [11]) (by kernel_rfl) (by simp) ?_
          refine AllReadyIn.cons rfl (fun K hK => ?_) ?_
          · go_simp
            refine hK _ _ ?_; clear hK K
            refine anyIn_append 12 rfl (by kernel_rfl) (by rfl) _ _ _ rfl rfl rfl hrun ?_
            refine wpAnyIn_ready (rs := [13]) (by kernel_rfl) (by simp) (AllReadyIn.cons rfl (fun K hK => ?_) AllReadyIn.nil)
            go_simp
            refine hK _ _ ?_; clear hK K
            refine wpAnyIn_done (by kernel_rfl) ?_ _
            exact FIN.out
          exact AllReadyIn.nil
        exact AllReadyIn.nil
      refine AllReadyIn.cons rfl (fun K hK => ?_) ?_
      · go_simp
        refine hK _ _ ?_; clear hK K
        refine wpAnyIn_take (i := 10) (v := ?_) rfl rfl (by kernel_rfl) (by kernel_rfl) (by kernel_rfl) (fun _ _ _ h => h) ⟨Or.inl ⟨by rfl, ?_⟩, fun _ => rfl⟩ ?_
        rotate_left
        · (intro w; go_simp; try with_reducible rfl)
        refine wpAnyIn_ready (rs := [0, 11]) (by kernel_rfl) (by simp) ?_
        refine AllReadyIn.cons rfl (fun K hK => ?_) ?_
        · go_simp
          refine hK _ _ ?_; clear hK K
          refine wpAnyIn_ready (rs := [11]) (by kernel_rfl) (by simp) ?_
          refine AllReadyIn.cons rfl (fun K hK => ?_) ?_
          · go_simp
            refine hK _ _ ?_; clear hK K
            refine anyIn_append 12 rfl (by kernel_rfl) (by rfl) _ _ _ rfl rfl rfl hrun ?_
            refine wpAnyIn_ready (rs := [13]) (by kernel_rfl) (by simp) (AllReadyIn.cons rfl (fun K hK => ?_) AllReadyIn.nil)
            go_simp
            refine hK _ _ ?_; clear hK K
            refine wpAnyIn_done (by kernel_rfl) ?_ _
            exact FIN.out
          exact AllReadyIn.nil
        refine AllReadyIn.cons rfl (fun K hK => ?_) ?_
        · go_simp
          refine hK _ _ ?_; clear hK K
          refine wpAnyIn_ready (rs := [0]) (by kernel_rfl) (by simp) ?_
          refine AllReadyIn.cons rfl (fun K hK => ?_) ?_
          · go_simp
            refine hK _ _ ?_; clear hK K
            refine anyIn_append 12 rfl (by kernel_rfl) (by rfl) _ _ _ rfl rfl rfl hrun ?_
            refine wpAnyIn_ready (rs := [13]) (by kernel_rfl) (by simp) (AllReadyIn.cons rfl (fun K hK => ?_) AllReadyIn.nil)
            go_simp
            refine hK _ _ ?_; clear hK K
            refine wpAnyIn_done (by kernel_rfl) ?_ _
            exact FIN.out
          exact AllReadyIn.nil
        exact AllReadyIn.nil
      exact AllReadyIn.nil
    refine AllReadyIn.cons rfl (fun K hK => ?_) ?_
    · go_simp
      refine hK _ _ ?_; clear hK K
      refine wpAnyIn_ready (rs := [0, 4]) (by kernel_rfl) (by simp) ?_
      refine AllReadyIn.cons rfl (fun K hK => ?_) ?_
      · go_simp
        refine hK _ _ ?_; clear hK K
        refine wpAnyIn_ready (rs := [4]) (by kernel_rfl) (by simp) ?_
        refine AllReadyIn.cons rfl (fun K hK => ?_) ?_
        · go_simp
          refine hK _ _ ?_; clear hK K
          refine wpAnyIn_take (i := 10) (v := ?_) rfl rfl (by kernel_rfl) (by kernel_rfl) (by kernel_rfl) (fun _ _ _ h => h) ⟨Or.inl ⟨by rfl, ?_⟩, fun _ => rfl⟩ ?_
          rotate_left
          · (intro w; go_simp; try with_reducible rfl)
          refine wpAnyIn_ready (rs := [11]) (by kernel_rfl) (by simp) ?_
          refine AllReadyIn.cons rfl (fun K hK => ?_) ?_
          · go_simp
            refine hK _ _ ?_; clear hK K
            refine anyIn_append 12 rfl (by kernel_rfl) (by rfl) _ _ _ rfl rfl rfl hrun ?_
            refine wpAnyIn_ready (rs := [13]) (by kernel_rfl) (by simp) (AllReadyIn.cons rfl (fun K hK => ?_) AllReadyIn.nil)
            go_simp
            refine hK _ _ ?_; clear hK K
            refine wpAnyIn_done (by kernel_rfl) ?_ _
            exact FIN.out
          exact AllReadyIn.nil
        exact AllReadyIn.nil
      refine AllReadyIn.cons rfl (fun K hK => ?_) ?_
      · go_simp
        refine hK _ _ ?_; clear hK K
        refine wpAnyIn_take (i := 10) (v := ?_) rfl rfl (by kernel_rfl) (by kernel_rfl) (by kernel_rfl) (fun _ _ _ h => h) ⟨Or.inl ⟨by rfl, ?_⟩, fun _ => rfl⟩ ?_
        rotate_left
        · (intro w; go_simp; try with_reducible rfl)
        refine wpAnyIn_ready (rs := [0, 11]) (by kernel_rfl) (by simp) ?_
        refine AllReadyIn.cons rfl (fun K hK => ?_) ?_
        · go_simp
          refine hK _ _ ?_; clear hK K
          refine wpAnyIn_ready (rs := [11]) (by kernel_rfl) (by simp) ?_
          refine AllReadyIn.cons rfl (fun K hK => ?_) ?_
          · go_simp
            refine hK _ _ ?_; clear hK K
            refine anyIn_append 12 rfl (by kernel_rfl) (by rfl) _ _ _ rfl rfl rfl hrun ?_
            refine wpAnyIn_ready (rs := [13]) (by kernel_rfl) (by simp) (AllReadyIn.cons rfl (fun K hK => ?_) AllReadyIn.nil)
            go_simp
            refine hK _ _ ?_; clear hK K
            refine wpAnyIn_done (by kernel_rfl) ?_ _
            exact FIN.out
          exact AllReadyIn.nil
        refine AllReadyIn.cons rfl (fun K hK => ?_) ?_
        · go_simp
          refine hK _ _ ?_; clear hK K
          refine wpAnyIn_ready (rs := [0]) (by kernel_rfl) (by simp) ?_
          refine AllReadyIn.cons rfl (fun K hK => ?_) ?_
          · go_simp
            refine hK _ _ ?_; clear hK K
            refine anyIn_append 12 rfl (by kernel_rfl) (by rfl) _ _ _ rfl rfl rfl hrun ?_
            refine wpAnyIn_ready (rs := [13]) (by kernel_rfl) (by simp) (AllReadyIn.cons rfl (fun K hK => ?_) AllReadyIn.nil)
            go_simp
            refine hK _ _ ?_; clear hK K
            refine wpAnyIn_done (by kernel_rfl) ?_ _
            exact FIN.out
          exact AllReadyIn.nil
        exact AllReadyIn.nil
      exact AllReadyIn.nil
    exact AllReadyIn.nil
    --END
  case done =>
    rintro D W hD ⟨v, h1, h2, h3⟩ hK
    rw [List.take_length] at h2
    have cb := h1.cell
    have H := Lib.hid (And.intro h2 h3)
    clear h2 h3 hx1 hx2 hx3 hB0 hW0 hall hf hv
    gi_wp2
    refine ⟨by simp, .inl ⟨_, _, rfl, run_takeDeferred hK, ?_⟩⟩
    refine ⟨_, results_tmp rfl _ _ _, _, rfl, ⟨ownsRow_putObj H.out.1.1 _ hK rfl, H.out.1.2⟩, ?_⟩
    exact H.out.2.trans (belowK_b (w := w) (Nat.le_refl _) W D _ _ (by omega) hK rfl rfl)
  case stop =>
    rintro D c k W hD h hK
    exact h.elim
end Go.Proofs.YtjhbbgeebobcpaaDoor
namespace Go.Proofs.YtjhbbgeebobcpaaDoor
open Go.RowKit Go.Shelf
set_option linter.unusedVariables false

namespace T
theorem prev_block {h : HP} {adr : Int → Nat} (m a : Int) (t : T) : ∀ (top : Bool) (up : Value) (p : Option Int), (top = true → m ∉ chain t) → (ids t).Nodup → p ≠ some a → prevOf m p t = some (some a) → Has h adr top up t →
    ∃ x1 x2 x3, h (adr a) = some (nodeO a x1 x2 x3 (PP adr m)) := by
  induction t with
  | nil => intro _ _ _ _ _ _ h; simp [prevOf] at h
  | node i x f n ihf ihn =>
    intro top up p htop nd hpa hp ht
    simp only [ids, List.nodup_cons, List.nodup_append, List.mem_append, not_or] at nd
    obtain ⟨⟨n1, n2⟩, ndf, ndn, hdis⟩ := nd
    obtain ⟨hb, hf, hn⟩ := ht
    simp only [prevOf] at hp
    split at hp
    · exact absurd (Option.some.inj hp) hpa
    · rw [Option.or_eq_some_iff] at hp
      rcases hp with hp | ⟨_, hp⟩
      · exact ihf false _ none (fun h => by cases h) ndf (by simp) hp hf
      · have htn : top = true → m ∉ chain n := fun h hh => htop h (by simp [chain, hh])
        cases n with
        | nil => simp [prevOf] at hp
        | node b c d e =>
          by_cases hbm : b = m
          · simp only [prevOf, if_pos hbm, Option.some.injEq] at hp
            subst hp
            have htf : top = false := by
              cases top with
              | false => rfl
              | true => exact absurd (by simp [chain, hbm]) (htop rfl)
            subst htf; subst hbm
            exact ⟨_, _, _, hb⟩
          · refine ihn top up (some i) htn ndn (fun hia => ?_) hp hn
            injection hia with hia
            subst hia
            simp only [prevOf, if_neg hbm] at hp
            rw [Option.or_eq_some_iff] at hp
            simp only [ids, List.mem_cons, List.mem_append, not_or] at n2
            rcases hp with hp | ⟨_, hp⟩
            · rcases prevOf_mem m i d none hp with h | h
              · exact n2.2.1 h
              · cases h
            · rcases prevOf_mem m i e (some b) hp with h | h
              · exact n2.2.2 h
              · injection h with h; exact n2.1 h.symm
end T

theorem Free.of_cut {w w' : World} {g : Nat} {adr : Int → Nat} {t : T} {id c : Int} {x : ByteArray} {f : T} (hf : Frs w g adr t) (hg : T.get id t = some (x, f)) (hc : c ∉ T.ids f) (hci : c ∈ T.ids t)
    (hsame : ∀ b, b ≠ adr c → b ≠ adr id → w'.heap[b]? = w.heap[b]?) (hid : w'.heap[adr id]? = some (nodeO id (.string x) nilp (T.pt adr f) nilp)) (hcut : T.Has (hpOf w') adr true nilp (T.cut id t)) : Free w' g adr (T.cut id t) id x f := by
  obtain ⟨hndc, hsub, hback, hfwd⟩ := T.cut_facts t hf.nd id x f hg
  obtain ⟨ndf, hmf⟩ := T.get_nodup id x f t hf.nd hg
  obtain ⟨hi, hfi⟩ := T.get_sub id t x f hg
  obtain ⟨x', f', n, top, q, hg', hn, hq, -, hb, hs⟩ := hf.info id hi
  rw [hg] at hg'; injection hg' with hg'; injection hg' with e1 e2; subst e1; subst e2
  obtain ⟨xc, fc, nc, topc, qc, -, -, -, -, hbc, -⟩ := hf.info c hci
  have hgne := hf.adr_ne hf.tab (by decide)
  refine ⟨hcut, ⟨nilp, nilp, hid⟩, T.has_other (h := hpOf w) f false _ hs hbc hb hsame hc hmf, ?_, ?_, ?_⟩
  · refine (hf.tab.of_block (hsame g (hgne c hci) (hgne id hi))).congr fun i _ => ?_
    unfold fst
    by_cases h : (i : Int) ∈ T.ids t
    · rw [if_pos h, if_pos]
      simp only [List.mem_cons, List.mem_append]
      by_cases h1 : (i : Int) = id
      · exact .inl h1
      · by_cases h2 : (i : Int) ∈ T.ids f
        · exact .inr (.inl h2)
        · exact .inr (.inr (hback _ h h1 h2))
    · rw [if_neg h, if_neg]
      intro hh
      simp only [List.mem_cons, List.mem_append] at hh
      rcases hh with hh | hh | hh
      · exact h (hh ▸ hi)
      · exact h (hfi _ hh)
      · exact h (hfwd _ hh).1
  · rw [List.nodup_cons, List.mem_append, List.nodup_append]
    exact ⟨fun hh => hh.elim hmf (fun h => (hfwd _ h).2.1 rfl), ndf, hndc, fun a ha b hb e => (hfwd b hb).2.2 (e ▸ ha)⟩
  · intro i hh
    refine hf.rng i ?_
    simp only [List.mem_cons, List.mem_append] at hh
    rcases hh with rfl | hh | hh
    · exact hi
    · exact hfi _ hh
    · exact (hfwd _ hh).1

set_option maxRecDepth 100000 in
theorem detach_c (B g : Nat) (adr : Int → Nat) (t : T) (id u : Int) (x : ByteArray) (f : T) (w : World) (hf : Frs w g adr t) (hg : T.get id t = some (x, f)) (hu : T.upOf id none t = some (some u)) (hlow : Low B g adr (T.ids t)) (hB : B ≤ w.heap.size) :
    Calls Tryd.prog 85 #[PP adr id] w fun e w' => e = .returned (.tuple #[]) ∧ Free w' g adr (T.cut id t) id x f ∧ Below B w w' := by
  obtain ⟨hi, hfi⟩ := T.get_sub id t x f hg
  have hA := Lib.hid (ahead_c g adr t id u w hf hi hu)
  obtain ⟨ndf, hmf⟩ := T.get_nodup id x f t hf.nd hg
  have hus := T.under_step t hf.nd id x f hg id u hu
  have huf : u ∉ T.ids f := fun h => hmf (hus.2 (.inr h))
  have hui : u ≠ id := fun h => hmf (hus.2 (.inl h))
  obtain ⟨x', f', n, top, q, hg', hn, hq, htop, hb, hs⟩ := hf.info id hi
  rw [hg] at hg'; injection hg' with hg'; injection hg' with e1 e2; subst e1; subst e2
  rw [hu] at hq; injection hq with hq; subst hq
  have htf : top = false := by
    cases top with
    | false => rfl
    | true => exact absurd (htop rfl) (chain_top hf.nd hu)
  subst htf
  obtain ⟨y, fu, hgu⟩ := T.get_some u t (by
    rcases T.up_get t hf.nd id u none hu with ⟨_, h⟩ | ⟨y', g', h, _⟩
    · cases h
    · exact (T.get_sub _ _ _ _ h).1)
  have hch : id ∈ T.chain fu := by
    rcases T.up_get t hf.nd id u none hu with ⟨_, h⟩ | ⟨y', g', h, h2⟩
    · cases h
    · rw [hgu] at h; injection h with h; injection h with _ h; rw [h]; exact h2
  have hum := (T.get_sub _ _ _ _ hgu).1
  have hpi : ∀ pr, T.prevOf id pr t = T.prevOf id none fu := fun pr => T.prev_in id u y fu t pr hf.nd hgu hch
  obtain ⟨np, hnp⟩ := nx_pointer adr false n
  have hndf := (T.get_nodup u y fu t hf.nd hgu).1
  have hidB := hlow.2 id hi
  have HG := Lib.hid hg; have HF0 := Lib.hid hf; have HPI := Lib.hid hpi; have HU := Lib.hid hu; have HCH := Lib.hid hch; have HGU := Lib.hid hgu; have HUF := Lib.hid huf; have HLOW := Lib.hid hlow; have HUM := Lib.hid hum; have HMF := Lib.hid hmf
  have HB := Lib.hid hb; have HNP := Lib.hid hnp; have HND := Lib.hid hndf; have HUI := Lib.hid hui
  clear hf hg hu hpi hch hgu huf hlow hum hmf hb hs htop hnp hn hfi hus hndf hui
  have hup0 : T.prevOf id (some 0) t = T.prevOf id none t := (HPI.out _).trans (HPI.out _).symm
  have HUP := Lib.hid hup0; clear hup0
  go_enter Tryd.func85, Tryd.ntmps85
  go_wp2_with fail
  refine hA.out.mono ?_
  clear hA
  rintro e w1 ⟨q, hq, rfl, hb1⟩
  have hf1 := HF0.out.ext hb1
  have hid1 : w1.heap[adr id]? = some (nodeO id (.string x) (PP adr u) (T.pt adr f) (.pointer np)) := by rw [← HNP.out]; exact (hb1.block _ (blk_lt HB.out)).trans HB.out
  obtain ⟨-, -, c2, -, c4, cf⟩ := cells_of hid1
  have hctop : id ∉ T.chain t := chain_top HF0.out.nd HU.out
  cases q with
  | some a =>
    have hpa : T.prevOf id none fu = some (some a) := (HPI.out none).symm.trans hq
    obtain ⟨p, hp⟩ : ∃ p, (T.chain fu)[p]? = some id := List.mem_iff_getElem?.1 HCH.out
    have hpr := T.prev_top id fu p none HND.out hp
    rw [hpa] at hpr
    have hp0 : ¬ p = 0 := fun e => by rw [if_pos e] at hpr; cases hpr
    rw [if_neg hp0] at hpr
    have hap : (T.chain fu)[p - 1]? = some a := (Option.some.inj hpr).symm
    have hac : a ∈ T.chain fu := List.mem_of_getElem? hap
    have hai : a ≠ id := fun e => by
      subst e
      have := (List.getElem?_inj (List.getElem?_eq_some_iff.1 hap).1 (T.chain_nodup fu HND.out)).1 (hap.trans hp.symm)
      omega
    have hau := T.up_chain t HF0.out.nd u y fu HGU.out a hac none
    have hat := T.up_mem t HF0.out.nd a u hau
    have haf : a ∉ T.ids f := fun h => by
      rcases (T.under_step t HF0.out.nd id x f HG.out a u hau).1 h with h | h
      · exact HUI.out h
      · exact HUF.out h
    obtain ⟨x1, x2, x3, ha1⟩ := T.prev_block (h := hpOf w1) id a t true nilp none (fun _ => hctop) HF0.out.nd (by simp) hq hf1.has
    have hadr : adr a ≠ adr id := T.adr_ne (h := hpOf w1) hid1 ha1 hai
    have hadr' : adr id ≠ adr a := fun e => hadr e.symm
    obtain ⟨-, -, -, -, d4, df⟩ := cells_of ha1
    have hq' := Lib.hid hq; have HF1 := Lib.hid hf1; have HI1 := Lib.hid hid1; have HA1 := Lib.hid ha1; have HAF := Lib.hid haf; have HAT := Lib.hid hat; have HAD := Lib.hid hadr; have HAD' := Lib.hid hadr'; have HB1 := Lib.hid hb1; have HCT := Lib.hid hctop
    clear hq hf1 hid1 ha1 haf hat hap hp hpr hpa hac hau hb1 hctop
    simp only [upv]
    go_wp2
    go_end0
    have hsame : ∀ b, b ≠ adr a → b ≠ adr id → (((w1.setCell ⟨adr a, 4, none⟩ (.pointer np)).setCell ⟨adr id, 2, none⟩ nilp).setCell ⟨adr id, 4, none⟩ nilp).heap[b]? = w1.heap[b]? := fun b h1 h2 => (setx h2).trans ((setx h2).trans (setx h1))
    refine ⟨rfl, Free.of_cut HF1.out HG.out HAF.out HAT.out hsame (set4 (set2 ((setx HAD'.out).trans HI1.out))) ?_, ?_⟩
    · exact T.has_cutN (h := hpOf w1) (adr := adr) hsame HI1.out HA1.out ((setx HAD.out).trans ((setx HAD.out).trans (set4 HA1.out))) t true nilp none (fun _ => HCT.out) HF0.out.nd (by simp) hq'.out HF1.out.has
    · exact (((HB1.out.mono hB).setCell (HLOW.out.2 a HAT.out) _).setCell hidB _).setCell hidB _
  | none =>
    have hpa : T.prevOf id none fu = some none := (HPI.out none).symm.trans hq
    obtain ⟨p, hp⟩ : ∃ p, (T.chain fu)[p]? = some id := List.mem_iff_getElem?.1 HCH.out
    have hpr := T.prev_top id fu p none HND.out hp
    rw [hpa] at hpr
    have hp0 : p = 0 := by
      by_cases e : p = 0
      · exact e
      · rw [if_neg e, List.getElem?_eq_getElem (by have := (List.getElem?_eq_some_iff.1 hp).1; omega)] at hpr
        cases hpr
    subst hp0
    have hfu : T.pt adr fu = PP adr id := by
      cases fu with
      | nil => simp [T.chain] at hp
      | node j b c d =>
        simp only [T.chain, List.getElem?_cons_zero, Option.some.injEq] at hp
        rw [hp]; rfl
    obtain ⟨yu, fu', nu, topu, qu, hgu', -, -, -, hbu, -⟩ := hf1.info u HUM.out
    rw [HGU.out] at hgu'; injection hgu' with hgu'; injection hgu' with e1 e2; subst e1; subst e2
    rw [hfu] at hbu
    have hadr : adr u ≠ adr id := T.adr_ne (h := hpOf w1) hid1 hbu HUI.out
    have hadr' : adr id ≠ adr u := fun e => hadr e.symm
    obtain ⟨-, -, -, d3, -, df⟩ := cells_of hbu
    have hq' := Lib.hid hq; have HF1 := Lib.hid hf1; have HI1 := Lib.hid hid1; have HA1 := Lib.hid hbu; have HAD := Lib.hid hadr; have HAD' := Lib.hid hadr'; have HB1 := Lib.hid hb1; have HCT := Lib.hid hctop
    clear hq hf1 hid1 hbu hp hpr hpa hb1 hctop hfu
    simp only [upv]
    go_wp2
    go_region
    go_wp2
    go_end0
    have hsame : ∀ b, b ≠ adr u → b ≠ adr id → ((((w1.setCell ⟨adr u, 3, none⟩ (.pointer np)).setCell ⟨adr id, 2, none⟩ nilp).setCell ⟨adr id, 4, none⟩ nilp).drew).heap[b]? = w1.heap[b]? := fun b h1 h2 => (setx h2).trans ((setx h2).trans (setx h1))
    refine ⟨rfl, Free.of_cut HF1.out HG.out HUF.out HUM.out hsame (set4 (set2 ((setx HAD'.out).trans HI1.out))) ?_, ?_⟩
    · exact T.has_cutF (h := hpOf w1) (adr := adr) hsame HI1.out HA1.out ((setx HAD.out).trans ((setx HAD.out).trans (set3 HA1.out))) t true nilp (some 0) none HF0.out.nd (by simp) (HUP.out.trans hq'.out) HU.out HF1.out.has
    · exact ((((HB1.out.mono hB).setCell (HLOW.out.2 u HUM.out) _).setCell hidB _).setCell hidB _).trans (Ext.drewN (Below.refl _ _) 1)
end Go.Proofs.YtjhbbgeebobcpaaDoor
