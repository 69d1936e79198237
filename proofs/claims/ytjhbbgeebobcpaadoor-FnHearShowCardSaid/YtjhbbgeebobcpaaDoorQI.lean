/- A row and all under it, one by one. All rows of a forest, one by one. -/
import Derived.Test.YtjhbbgeebobcpaaDoorQH
import Derived.Maps.AppendAt
namespace Go.Proofs.YtjhbbgeebobcpaaDoor
open Go.RowKit Go.Shelf
set_option linter.unusedVariables false
attribute [local go_sem] Oper.semAt_some

namespace T
def tail : Nat → T → T
  | 0, t => t
  | _ + 1, nil => nil
  | m + 1, node _ _ _ n => tail m n
theorem tail_succ (t : T) : ∀ (m : Nat) (hm : m < (chain t).length), ∃ x g n, tail m t = node ((chain t)[m]) x g n ∧ tail (m + 1) t = n := by
  induction t with
  | nil => intro m h; simp [chain] at h
  | node i x f n ihf ihn =>
    intro m hm
    cases m with
    | zero => exact ⟨x, f, n, rfl, by cases n <;> rfl⟩
    | succ m =>
      simp only [chain, List.length_cons] at hm
      obtain ⟨x', g, n', e1, e2⟩ := ihn m (by omega)
      exact ⟨x', g, n', by simpa [tail, chain] using e1, by simpa [tail] using e2⟩
theorem tail_all (t : T) : tail (chain t).length t = nil := by
  induction t with
  | nil => rfl
  | node i x f n ihf ihn => exact ihn
theorem tail_has {h : HP} {adr : Int → Nat} {up : Value} (m : Nat) : ∀ t, Has h adr false up t → Has h adr false up (tail m t) := by
  induction m with
  | zero => intro t h; exact h
  | succ m ih =>
    intro t h
    cases t with
    | nil => trivial
    | node i x f n => exact ih n h.2.2
def AllW (Q : Int → ByteArray → T → Prop) : T → Prop
  | nil => True
  | node i x f n => Q i x f ∧ AllW Q n
theorem allW_tail {Q : Int → ByteArray → T → Prop} (m : Nat) : ∀ t, AllW Q t → AllW Q (tail m t) := by
  induction m with
  | zero => intro t h; exact h
  | succ m ih =>
    intro t h
    cases t with
    | nil => trivial
    | node i x f n => exact ih n h.2
theorem tail_len (m : Nat) : ∀ t, (ids (tail m t)).length ≤ (ids t).length := by
  induction m with
  | zero => intro t; exact Nat.le_refl _
  | succ m ih =>
    intro t
    cases t with
    | nil => exact Nat.le_refl _
    | node i x f n =>
      have := ih n
      simp only [tail, ids, List.length_cons, List.length_append]
      omega
theorem rows_len (d : Int) (t : T) : (rows d t).length = (ids t).length := by rw [← rows_ids d t, List.length_map]
end T

theorem Kept.stab {ts : List TypeId} {L : Nat → Prop} {B : Nat} {W W1 W2 : World} (h : Kept ts L W W1) (s : Stab B ts W1 W2) (hB : W.heap.size ≤ B) : Kept ts L W W2 :=
  ⟨s.os.trans h.os, s.tape.trans h.tape, s.output.trans h.output, Nat.le_trans h.size s.size, fun b cs ty m hb ht => (s.low b (by have := blk_lt hb; omega)).trans (h.cells b cs ty m hb ht), fun b o hb ho hL => (s.low b (by have := blk_lt hb; omega)).trans (h.rest b o hb ho hL)⟩

theorem three_new (w : World) (x y z : Obj) : (((w.alloc x).alloc y).alloc z).heap[w.heap.size]? = some x ∧ (((w.alloc x).alloc y).alloc z).heap[w.heap.size + 1]? = some y ∧ (((w.alloc x).alloc y).alloc z).heap[w.heap.size + 1 + 1]? = some z := by
  have e1 : ∀ (a : Array Obj) (x y z : Obj), ((((a.push x).push y).push z)[a.size]?) = some x ∧ ((((a.push x).push y).push z)[a.size + 1]?) = some y ∧ ((((a.push x).push y).push z)[a.size + 1 + 1]?) = some z := by
    intro a x y z
    refine ⟨?_, ?_, ?_⟩
    · rw [Array.getElem?_push_lt (by simp; omega), Array.getElem_push_lt (by simp), Array.getElem_push_eq]
    · rw [Array.getElem?_push_lt (by simp)]
      simp [Array.getElem_push]
    · rw [show a.size + 1 + 1 = ((a.push x).push y).size by simp, Array.getElem?_push_size]
  exact e1 _ _ _ _

/-- What a walk over a row and all under it does, the rows coming from the k-th on. -/
def WalkOk (ts : List TypeId) (L : Nat → Prop) (l : Nat) (adr : Int → Nat) (J : Nat → World → Prop) (xs : List Row) (B : Nat) (i : Int) (x : ByteArray) (f : T) : Prop :=
  ∀ (d : Int) (k : Nat) (rest : List Row) (W : World) (a1 a2 a4 : Value), 0 ≤ d → d + (T.ids f).length ≤ 1000 → xs.drop k = ⟨i, d, x⟩ :: (T.rows (d + 1) f ++ rest) → W.heap[adr i]? = some (nodeO i a1 a2 (T.pt adr f) a4) → T.Has (hpOf W) adr false (PP adr i) f → J k W → B ≤ W.heap.size → (∀ b, L b → b < W.heap.size) →
    Calls Tryd.prog 103 #[PP adr i, .int .i64 d, .func (.yield l) #[] #[]] W fun e W' => e = .returned (.bool true) ∧ J (k + 1 + (T.ids f).length) W' ∧ Kept ts L W W'

set_option maxRecDepth 100000 in
set_option maxHeartbeats 1000000 in
theorem walk_one (ts : List TypeId) (h110 : 122 ∉ ts) (h3 : 3 ∉ ts) (h127 : 143 ∉ ts) (h4 : 4 ∉ ts) (h104 : 116 ∉ ts) (L : Nat → Prop) (l : Nat) (adr : Int → Nat) (J : Nat → World → Prop) (xs : List Row) (B : Nat) (hJ : SFrom B ts J)
    (hY : ∀ (k : Nat) (hk : k < xs.length) (W1 : World), J k W1 → YieldAt Fence.wide 0 Tryd.prog l #[PP adr xs[k].id, .int .i64 xs[k].depth] W1 fun e W' => e = .returned (.bool true) ∧ J (k + 1) W' ∧ Kept ts L W1 W')
    (i : Int) (x : ByteArray) (f : T) (hall : T.AllW (WalkOk ts L l adr J xs B) f) : WalkOk ts L l adr J xs B i x f := by
  intro d k rest W a1 a2 a4 hd hd2 hxs hi hf hj hB hL
  have hk : k < xs.length := by
    have := congrArg List.length hxs
    simp only [List.length_drop, List.length_cons] at this
    omega
  have hxk : xs[k] = ⟨i, d, x⟩ ∧ xs.drop (k + 1) = T.rows (d + 1) f ++ rest := by
    have := List.drop_eq_getElem_cons hk
    rw [hxs] at this
    injection this with h1 h2
    exact ⟨h1.symm, h2.symm⟩
  obtain ⟨hxk, hxs1⟩ := hxk
  have hS3 : Stab B ts W (((W.alloc (.cells #[.int .i64 d] 3)).alloc (.cells #[.func (.yield l) #[] #[]] 143)).alloc (.cells #[.bool false] 4)) :=
    (((Stab.refl W).alloc hB _).alloc hB _).alloc hB _
  have hE3 : Ext W (((W.alloc (.cells #[.int .i64 d] 3)).alloc (.cells #[.func (.yield l) #[] #[]] 143)).alloc (.cells #[.bool false] 4)) :=
    (((Below.refl _ _).alloc (Nat.le_refl _) _).alloc (by rw [alloc_sz]; omega) _).alloc (by rw [alloc_sz, alloc_sz]; omega) _
  obtain ⟨hx1, hx2, hx3⟩ := three_new W (.cells #[.int .i64 d] 3) (.cells #[.func (.yield l) #[] #[]] 143) (.cells #[.bool false] 4)
  have hsz3 : (((W.alloc (.cells #[.int .i64 d] 3)).alloc (.cells #[.func (.yield l) #[] #[]] 143)).alloc (.cells #[.bool false] 4)).heap.size = W.heap.size + 3 := by rw [alloc_sz, alloc_sz, alloc_sz]
  obtain ⟨fn, tmps, assign, body, hy, hR⟩ := hY k hk _ (hJ k _ _ hj hS3)
  rw [hxk] at hy
  have H3 := Lib.hid (And.intro hE3 (And.intro hx1 (And.intro hx2 (And.intro hx3 hsz3)))); have HI := Lib.hid hi; have HF := Lib.hid hf; have HX := Lib.hid hxs1; have HJ := Lib.hid hJ; have HALL := Lib.hid hall; have HB := Lib.hid hB; have HL := Lib.hid hL; have HD := Lib.hid hd2; have HK := Lib.hid hk
  clear hE3 hx1 hx2 hx3 hi hf hxs1 hxk hxs hJ hall hB hS3 hj hY hL hsz3 hd2 hk
  refine (callsIn_wide (n := 3)).1 ?_
  refine callsIn_of_wp_marks Tryd.func103 rfl trivial ?_ rfl
  simp only [Tryd.ntmps103, List.size_toArray, List.length_cons, List.length_nil, Nat.reduceAdd, Nat.reduceSub, Array.replicate_succ, Array.replicate_zero, List.push_toArray, List.append_toArray, List.nil_append, List.cons_append]
  gi_wp2
  refine (roundIn_any hR).mono ?_
  rintro e W4 ⟨rfl, hJ4, hk4⟩
  obtain ⟨hE3, hx1, hx2, hx3, hsz3⟩ := H3.out
  have K4 : Kept ts L W W4 := (Kept.of_ext hE3).trans hk4
  have b1 := hk4.cells _ _ _ _ hx1 h3
  have b2 := hk4.cells _ _ _ _ hx2 h127
  have b3 := hk4.cells _ _ _ _ hx3 h4
  have hi4 := K4.cells _ _ _ _ HI.out h110
  have hf4 := HF.out.kept K4 h110
  have hs4 := hk4.size
  rw [hsz3] at hs4
  have HJ4 := Lib.hid hJ4; have HK4 := Lib.hid K4
  clear hE3 hx1 hx2 hx3 hsz3 H3 hk4 hR hy hJ4 K4
  gi_wp2_with (refine ⟨trivial, ?_⟩; gi_at_call 110; refine (callsIn_wide.2 (kids_c _ _)).mono ?_; rintro e w1 ⟨rfl, rfl⟩)
  obtain ⟨W5, hW5⟩ : ∃ W5, W4.alloc (.cells #[.pointer (some ⟨adr i, 0, none⟩)] 116) = W5 := ⟨_, rfl⟩
  have hsz5 : W5.heap.size = W4.heap.size + 1 := by rw [← hW5, alloc_sz]
  have hx5 : W5.heap[W4.heap.size]? = some (.cells #[PP adr i] 116 (0, 0)) := by rw [← hW5]; exact World.alloc_heap_new _ _
  have hE5 : Ext W4 W5 := by rw [← hW5]; exact (Below.refl _ _).alloc (Nat.le_refl _) _
  rw [hW5]
  have hi5 := (hE5.block _ (blk_lt hi4)).trans hi4
  have hf5 : T.Has (hpOf W5) adr false (PP adr i) f := hf4.kept (Kept.of_ext hE5 : Kept ts L W4 W5) h110
  have b1' := (hE5.block _ (blk_lt b1)).trans b1
  have b2' := (hE5.block _ (blk_lt b2)).trans b2
  have b3' := (hE5.block _ (blk_lt b3)).trans b3
  have hJ5 : J (k + 1) W5 := HJ.out _ _ _ HJ4.out (Stab.of_ext hE5 (by have := HB.out; omega))
  have hK5 : Kept ts L W W5 := HK4.out.trans (Kept.of_ext hE5)
  have hadr : ∀ j ∈ T.ids f, adr j < W5.heap.size := fun j hj => by
    obtain ⟨x1, x2, x3, x4, e⟩ := T.has_at f _ _ hf5 j hj
    exact blk_lt e
  have HP := Lib.hid (And.intro hx5 (And.intro hi5 (And.intro hf5 (And.intro b1' (And.intro b2' (And.intro b3' (And.intro hJ5 hK5)))))))
  have HAD := Lib.hid hadr
  clear hx5 hi5 hf5 b1' b2' b3' hJ5 hK5 hadr b1 b2 b3 hi4 hf4 hE5 HJ4 HK4
  obtain ⟨hx5, hi5, hf5, b1, b2, b3, hJ5, hK5⟩ := HP.out
  refine' wp_rangeX False ts L (gf := 117) (lb := #[.pointer (some ⟨W4.heap.size, 0, none⟩)]) rfl (enters_of Tryd.func117 (by kernel_rfl) rfl)
    (kids1_s False ts h110 adr W4.heap.size i _ _ _ f W5 hi5 hf5 hx5) (fun _ => rfl) (fun b h => by have := HL.out b h; omega)
    (fun m V => ∃ k', Hid (k' + (T.ids (T.tail m f)).length = k + 1 + (T.ids f).length) ∧ Hid (xs.drop k' = T.rows (d + 1) (T.tail m f) ++ rest) ∧ J k' V ∧ V.heap[W.heap.size]? = some (.cells #[.int .i64 d] 3 (0, 0)) ∧ V.heap[W.heap.size + 1]? = some (.cells #[.func (.yield l) #[] #[]] 143 (0, 0)) ∧
      V.heap[W.heap.size + 1 + 1]? = some (.cells #[.bool false] 4 (0, 0)) ∧ T.Has (hpOf V) adr false (PP adr i) f ∧ Kept ts L W V)
    (fun _ _ _ => False)
    (fun m V V' h s => by
      obtain ⟨k', e1, e2, e3, e4, e5, e6, e7, e8⟩ := h
      exact ⟨k', e1, e2, HJ.out _ _ _ e3 (s.mono (by have := HB.out; omega)), (s.low _ (by omega)).trans e4, (s.low _ (by omega)).trans e5, (s.low _ (by omega)).trans e6, e7.stab s HAD.out, e8.stab s (by omega)⟩)
    (fun c k W W' h s => h) (fun _ _ _ h => h) ⟨k + 1, rfl, HX.out, hJ5, b1, b2, b3, hf5, hK5⟩ _ ?assign ?body ?done ?stop
  case assign =>
    intro l x W K hK
    gi_wp2
    exact hK
  case body =>
    rintro lr m hm V hl ⟨k', e1, e2, e3, e4, e5, e6, e7, e8⟩
    obtain ⟨y, g, n, t1, t2⟩ := T.tail_succ f m hm
    rw [t1] at e1 e2
    have hT := T.tail_has m f e7
    rw [t1] at hT
    have hA := T.allW_tail m f HALL.out
    rw [t1] at hA
    have hlen := T.tail_len m f
    rw [t1] at hlen
    simp only [T.ids, List.length_cons, List.length_append] at hlen
    have hd9 : d + 1 + ((T.ids g).length : Int) ≤ 1000 := by have := HD.out; omega
    have hd8 : d ≤ 1000 := by have := HD.out; omega
    have e2' : xs.drop k' = ⟨(T.chain f)[m], d + 1, y⟩ :: (T.rows (d + 1 + 1) g ++ (T.rows (d + 1) n ++ rest)) := by rw [e2.out]; simp [T.rows]
    have hC := Lib.hid (hA.1 (d + 1) k' _ V _ _ _ (by omega) hd9 e2' hT.1 hT.2.1 e3 (by have := HB.out; have := e8.size; omega) (fun b hb => by have := HL.out b hb; have := e8.size; omega))
    obtain ⟨c4, f4⟩ := one_cell e4
    obtain ⟨c5, f5⟩ := one_cell e5
    have H9 := Lib.hid (And.intro e4 (And.intro e5 (And.intro e6 (And.intro e7 e8))))
    have hdrop : xs.drop (k' + 1 + (T.ids g).length) = T.rows (d + 1) n ++ rest := by
      rw [Nat.add_assoc, ← List.drop_drop, e2', Nat.add_comm 1, List.drop_succ_cons]
      rw [← T.rows_len (d + 1 + 1) g, List.drop_left]
    have HDR := Lib.hid hdrop
    have HE1 := Lib.hid e1.out
    have HM := Lib.hid t2
    clear e1 e2 e3 e4 e5 e6 e7 e8 t1 t2 hT hA hlen hd9 e2' hdrop HP hx5 hi5 hf5 b1 b2 b3 hJ5 hK5 HAD HALL hW5
    gi_wp2_with (refine ⟨trivial, ?_⟩; gi_at_call 103; refine (CallsIn.inRound lr (callsIn_wide.2 hC.out)).mono ?_; clear hC; rintro e V2 ⟨rfl, hj2, hk2⟩)
    obtain ⟨e4, e5, e6, e7, e8⟩ := H9.out
    refine ⟨hk2, k' + 1 + (T.ids g).length, ?_, ?_, hj2, hk2.cells _ _ _ _ e4 h3, hk2.cells _ _ _ _ e5 h127, hk2.cells _ _ _ _ e6 h4, e7.kept hk2 h110, e8.trans hk2⟩
    · have := HE1.out
      show _ = _
      rw [HM.out]
      simp only [T.ids, List.length_cons, List.length_append] at this
      omega
    · show _ = _
      rw [HM.out]; exact HDR.out
  case done =>
    rintro D V hD ⟨k', e1, e2, e3, e4, e5, e6, e7, e8⟩ hK
    obtain ⟨c6, f6⟩ := one_cell e6
    have hk9 : k' = k + 1 + (T.ids f).length := by
      have := e1.out
      rw [T.tail_all] at this
      simpa [T.ids] using this
    have H9 := Lib.hid (And.intro e6 (And.intro e3 (And.intro e8 hk9)))
    clear e1 e2 e3 e4 e5 e6 e7 e8 hk9 HP hx5 hi5 hf5 b1 b2 b3 hJ5 hK5 HAD HALL hW5
    gi_wp2
    obtain ⟨e6, e3, e8, hk9⟩ := H9.out
    have hne : D ≠ W.heap.size + 1 + 1 := by omega
    have hK' : (V.setCell ⟨W.heap.size + 1 + 1, 0, none⟩ (.bool true)).heap[D]? = some (.deferred (some [])) := (setx hne).trans hK
    refine ⟨by simp, .inl ⟨_, _, rfl, run_takeDeferred hK', ?_⟩⟩
    have hc5 : ((V.setCell ⟨W.heap.size + 1 + 1, 0, none⟩ (.bool true)).putObj D (.deferred none)).cell? ⟨W.heap.size + 1 + 1, 0, none⟩ = some (.bool true) := by
      rw [cell_blk (World.putObj_heap_other (fun e => hne e.symm))]
      exact (one_cell (one_set e6)).1
    have hS : Stab W.heap.size ts V ((V.setCell ⟨W.heap.size + 1 + 1, 0, none⟩ (.bool true)).putObj D (.deferred none)) := ((Stab.refl V).setCell (by omega) e6 h4 _ _).put (by omega) hK' rfl _
    refine ⟨.bool true, ?_, rfl, ?_, ?_⟩
    · simp [results, Tryd.f103, go_sem, hc5]
    · rw [← hk9]
      exact HJ.out _ _ _ e3 (hS.mono HB.out)
    · exact (e8.setCell (by omega) _ _).putNew (.inl (by omega)) _
  case stop =>
    rintro D c k W hD h hK
    exact h.elim
end Go.Proofs.YtjhbbgeebobcpaaDoor
namespace Go.Proofs.YtjhbbgeebobcpaaDoor
open Go.RowKit Go.Shelf
set_option linter.unusedVariables false
attribute [local go_sem] Oper.semAt_some

namespace T
theorem top_chain (t : T) : ∀ i, Top i t → ∀ m (hm : m < (chain t).length), (chain t)[m] = i + m := by
  induction t with
  | nil => intro i _ m hm; simp [chain] at hm
  | node j x f n ihf ihn =>
    intro i h m hm
    cases m with
    | zero => simp [chain, h.1]
    | succ m =>
      simp only [chain, List.length_cons] at hm
      have := ihn (i + 1) h.2.2.2 m (by omega)
      simp only [chain, List.getElem_cons_succ]
      rw [this]; omega
theorem has_top {h : HP} {adr : Int → Nat} (m : Nat) : ∀ t, Has h adr true nilp t → Has h adr true nilp (tail m t) := by
  induction m with
  | zero => intro t h; exact h
  | succ m ih =>
    intro t h
    cases t with
    | nil => trivial
    | node i x f n => exact ih n h.2.2
end T
theorem Frs.kept {ts : List TypeId} {L : Nat → Prop} {W W' : World} {g : Nat} {adr : Int → Nat} {t : T} (h : Frs W g adr t) (k : Kept ts L W W') (h1 : 122 ∉ ts) (h2 : 119 ∉ ts) : Frs W' g adr t := by
  obtain ⟨cs, hcs⟩ := rowIs_blk h.tab
  exact ⟨h.has.kept k h1, h.tab.of_block ((k.cells _ _ _ _ hcs h2).trans hcs.symm), h.nd, h.rng⟩

section
variable (ts : List TypeId) (h110 : 122 ∉ ts) (h3 : 3 ∉ ts) (h127 : 143 ∉ ts) (h4 : 4 ∉ ts) (h104 : 116 ∉ ts)
include h110 h3 h127 h4 h104
theorem walk_all (L : Nat → Prop) (l : Nat) (adr : Int → Nat) (J : Nat → World → Prop) (xs : List Row) (B : Nat) (hJ : SFrom B ts J)
    (hY : ∀ (k : Nat) (hk : k < xs.length) (W1 : World), J k W1 → YieldAt Fence.wide 0 Tryd.prog l #[PP adr xs[k].id, .int .i64 xs[k].depth] W1 fun e W' => e = .returned (.bool true) ∧ J (k + 1) W' ∧ Kept ts L W1 W') (t : T) :
    T.AllW (WalkOk ts L l adr J xs B) t := by
  induction t with
  | nil => trivial
  | node i x f n ihf ihn => exact ⟨walk_one ts h110 h3 h127 h4 h104 L l adr J xs B hJ hY i x f ihf, ihn⟩

set_option maxRecDepth 100000 in
theorem all1_s (h107 : 119 ∉ ts) (h73 : 82 ∉ ts) (g : Nat) (adr : Int → Nat) (b : Nat) (t : T) (w : World) (hf : Frs w g adr t) (hv : T.Valid t) (hb : w.heap[b]? = some (.cells #[.pointer (some ⟨g, 0, none⟩)] 82 (0, 0))) (hlen : (T.ids t).length ≤ 1000) :
    Seqs Tryd.prog False ts 102 #[.pointer (some ⟨b, 0, none⟩)] (fun r : Row => #[PP adr r.id, .int .i64 r.depth]) (T.rows 0 t) w := by
  intro l L J Jx W hW hl hL hJ hJx hst hY h0
  have hY' : ∀ (k : Nat) (hk : k < (T.rows 0 t).length) (W1 : World), J k W1 → YieldAt Fence.wide 0 Tryd.prog l #[PP adr (T.rows 0 t)[k].id, .int .i64 (T.rows 0 t)[k].depth] W1 fun e W' => e = .returned (.bool true) ∧ J (k + 1) W' ∧ Kept ts L W1 W' :=
    fun k hk W1 h => (hY k hk W1 h).mono fun e W' h' => h'.elim id (fun h2 => (hst _ _ h2.2).elim)
  have HALL := Lib.hid (walk_all ts h110 h3 h127 h4 h104 L l adr J (T.rows 0 t) W.heap.size hJ hY' t)
  have hb0 := (hW.block b (blk_lt hb)).trans hb
  have H0 := Lib.hid (And.intro h0 (And.intro (hf.ext hW) hb0))
  have HV := Lib.hid hv; have HLEN := Lib.hid hlen; have HL := Lib.hid hL
  have hch := Lib.hid (T.top_chain t 1 hv.1)
  have hch3 := hv.2.1
  clear hY hY' hJ hJx hst h0 hf hb hb0 hv hW hlen hL
  refine (callsIn_wide (n := 3)).1 ?_
  refine callsIn_of_wp Tryd.func102 rfl trivial ?_ rfl
  simp only [Tryd.ntmps102, List.size_toArray, List.length_cons, List.length_nil, Nat.reduceAdd, Nat.reduceSub, Array.replicate_succ, Array.replicate_zero, List.push_toArray, List.append_toArray, List.nil_append, List.cons_append]
  gi_wp2
  gi_loopw [3] (fun v wr => ∃ (m k : Nat), m ≤ 3 ∧ v = .int .i64 (m + 1) ∧ Hid (k + (T.ids (T.tail m t)).length = (T.ids t).length) ∧ Hid ((T.rows 0 t).drop k = T.rows 0 (T.tail m t)) ∧ Hid (J k wr) ∧ Hid (Kept ts L W wr)) (fun v wr => 4 - (intOf v).toNat)
  case atStart => exact ⟨0, 0, by omega, rfl, by show _ = _; simp [T.tail], by show _ = _; simp [T.tail], H0.out.1, Kept.refl _⟩
  case round =>
    obtain ⟨m, k, hm, rfl, h1, h2, hj, hk⟩ := hrel
    by_cases hm3 : m < 3
    · obtain ⟨y, g', n, t1, t2⟩ := T.tail_succ t m (by omega)
      have hcm : (T.chain t)[m] = (m : Int) + 1 := (hch.out m (by omega)).trans (by omega)
      have hF := H0.out.2.1.kept hk.out h110 h107
      have hb := hk.out.cells _ _ _ _ H0.out.2.2 h73
      obtain ⟨cb, fb⟩ := one_cell hb
      have hT := T.has_top m t hF.has
      rw [t1] at hT h1 h2
      have hA := T.allW_tail m t HALL.out
      rw [t1] at hA
      have hln := T.tail_len m t
      rw [t1] at hln
      simp only [T.ids, List.length_cons, List.length_append] at hln
      have hmem : (m : Int) + 1 ∈ T.ids t := T.chain_sub t _ (by rw [← hcm]; exact List.getElem_mem _)
      have hct := hF.tab.cell (i := m + 1) (by omega)
      simp only [fst, show (((m + 1 : Nat)) : Int) = (m : Int) + 1 from by omega] at hct
      rw [if_pos hmem] at hct
      rw [hcm] at hT hA h2
      have e2' : (T.rows 0 t).drop k = ⟨(m : Int) + 1, 0, y⟩ :: (T.rows (0 + 1) g' ++ T.rows 0 n) := by rw [h2.out]; simp [T.rows]
      have hC := Lib.hid (hA.1 0 k _ wr _ _ _ (by omega) (by have := HLEN.out; omega) e2' hT.1 hT.2.1 hj.out hk.out.size (fun b hb => by have := HL.out b hb; have := hk.out.size; omega))
      have hdrop : (T.rows 0 t).drop (k + 1 + (T.ids g').length) = T.rows 0 n := by
        rw [Nat.add_assoc, ← List.drop_drop, e2', Nat.add_comm 1, List.drop_succ_cons]
        rw [← T.rows_len (0 + 1) g', List.drop_left]
      have HDR := Lib.hid hdrop; have HE := Lib.hid h1.out; have HK := Lib.hid hk.out; have HT2 := Lib.hid t2
      clear hdrop h1 h2 hj hk t1 t2 hcm hF hb hT hA hln hmem e2' HALL
      gi_wp2_with (refine ⟨trivial, ?_⟩; gi_at_call 103; refine (callsIn_wide.2 hC.out).mono ?_; clear hC; rintro e V2 ⟨rfl, hj2, hk2⟩; have HJ2 := Lib.hid hj2; have HK2 := Lib.hid hk2; clear hj2 hk2)
      go_roundw
      case rel =>
        refine ⟨m + 1, k + 1 + (T.ids g').length, by omega, by go_num, ?_, ?_, HJ2.out, HK.out.trans HK2.out⟩
        · show _ = _
          have := HE.out
          rw [HT2.out]
          simp only [T.ids, List.length_cons, List.length_append] at this
          omega
        · show _ = _
          rw [HT2.out]; exact HDR.out
      case measure => simp [intOf]; omega
    · have hm' : m = 3 := by omega
      subst hm'
      have hkl : k = (T.rows 0 t).length := by
        have := h1.out
        rw [← hch3, T.tail_all] at this
        rw [T.rows_len]
        simpa [T.ids] using this
      have HJ9 := Lib.hid hj.out
      clear h1 h2 hj hk HALL
      gi_wp2
      go_end0
      rw [← hkl]
      exact ⟨⟨_, rfl⟩, .inl HJ9.out⟩
end

theorem all_c (u : Option Addr) (w : World) : Calls Tryd.prog 86 #[.pointer u] w fun e w' => e = .returned (.func (.func 102) #[] #[.pointer (some ⟨w.heap.size, 0, none⟩)]) ∧ w' = w.alloc (.cells #[.pointer u] 82) := by
  go_enter Tryd.func86, Tryd.ntmps86
  go_wp2
  go_ret
  exact ⟨rfl, rfl⟩
end Go.Proofs.YtjhbbgeebobcpaaDoor
