/- A change is done in a forest. A change is done in a forest. A change is done in a forest: a row is made, or moved. -/
import Derived.Test.YtjhbbgeebobcpaaDoorQJ
import Derived.RegionTactic
namespace Go.Proofs.YtjhbbgeebobcpaaDoor
open Go.RowKit Go.Shelf
set_option linter.unusedVariables false

@[local go_sem] theorem as_make_make (v : Value) (W : World) : (Instr.typeAssert (.iface 109 v) 79 109 true).run Tryd.prog W = .ok (.tuple #[v, .bool true]) W := by kernel_rfl
@[local go_sem] theorem as_make_text (v : Value) (W : World) : (Instr.typeAssert (.iface 109 v) 79 113 true).run Tryd.prog W = .ok (.tuple #[.agg #[.int .i64 0, .string ⟨#[]⟩], .bool false]) W := by kernel_rfl
@[local go_sem] theorem as_make_move (v : Value) (W : World) : (Instr.typeAssert (.iface 109 v) 79 115 true).run Tryd.prog W = .ok (.tuple #[.agg #[.int .i64 0, .int .i64 0, .int .i64 0], .bool false]) W := by kernel_rfl
@[local go_sem] theorem as_text_make (v : Value) (W : World) : (Instr.typeAssert (.iface 113 v) 79 109 true).run Tryd.prog W = .ok (.tuple #[.agg #[.int .i64 0, .int .i64 0, .int .i64 0, .string ⟨#[]⟩], .bool false]) W := by kernel_rfl
@[local go_sem] theorem as_text_text (v : Value) (W : World) : (Instr.typeAssert (.iface 113 v) 79 113 true).run Tryd.prog W = .ok (.tuple #[v, .bool true]) W := by kernel_rfl
@[local go_sem] theorem as_text_move (v : Value) (W : World) : (Instr.typeAssert (.iface 113 v) 79 115 true).run Tryd.prog W = .ok (.tuple #[.agg #[.int .i64 0, .int .i64 0, .int .i64 0], .bool false]) W := by kernel_rfl
@[local go_sem] theorem as_move_make (v : Value) (W : World) : (Instr.typeAssert (.iface 115 v) 79 109 true).run Tryd.prog W = .ok (.tuple #[.agg #[.int .i64 0, .int .i64 0, .int .i64 0, .string ⟨#[]⟩], .bool false]) W := by kernel_rfl
@[local go_sem] theorem as_move_text (v : Value) (W : World) : (Instr.typeAssert (.iface 115 v) 79 113 true).run Tryd.prog W = .ok (.tuple #[.agg #[.int .i64 0, .string ⟨#[]⟩], .bool false]) W := by kernel_rfl
@[local go_sem] theorem as_move_move (v : Value) (W : World) : (Instr.typeAssert (.iface 115 v) 79 115 true).run Tryd.prog W = .ok (.tuple #[v, .bool true]) W := by kernel_rfl

theorem within_nil (a : Option Addr) (w : World) : Calls Tryd.prog 100 #[nilp, .pointer a] w fun e w' => e = .returned (.bool false) ∧ w' = w := by
  go_enter Tryd.func100, Tryd.ntmps100
  go_wp2
  go_loopg [0] 1 (fun gk v wr => wr = w ∧ v = nilp)
  case atStart => exact ⟨rfl, rfl⟩
  case round =>
    obtain ⟨rfl, rfl⟩ := hrel
    go_wp2
    go_ret
    exact ⟨rfl, rfl⟩

set_option maxRecDepth 100000 in
theorem where_make (g : Nat) (adr : Int → Nat) (t : T) (id up pos : Int) (tx : ByteArray) (w : World) (hf : Frs w g adr t) (h3 : 3 ∈ T.ids t) (hi : id ∉ T.ids t) :
    Calls Tryd.prog 84 #[.pointer (some ⟨g, 0, none⟩), .iface 109 (.agg #[.int .i64 id, .int .i64 up, .int .i64 pos, .string tx])] w fun e w' => e = .returned (.tuple #[PP adr (T.near t id up pos).1, posv adr (T.near t id up pos).2, .bool true]) ∧ Ext w w' := by
  have hX : ∀ w', Ext w w' → Frs w' g adr t := fun w' h => hf.ext h
  have HX := Lib.hid hX; have H3 := Lib.hid h3; have HI := Lib.hid hi
  clear hf h3 hi hX
  go_enter Tryd.func84, Tryd.ntmps84
  go_wp2_with fail
  have hf1 := HX.out _ ((Below.refl _ w).alloc (Nat.le_refl _) (.cells #[.int .i64 id, .int .i64 up, .int .i64 pos, .string tx] 109))
  refine (find_no g adr t id _ hf1 HI.out).mono ?_
  rintro e w1 ⟨rfl, rfl⟩
  have hn := Lib.hid (near_c g adr t id up pos _ hf1 H3.out)
  clear hf1
  go_wp2_with fail
  refine hn.out.mono ?_
  rintro e w1 ⟨rfl, rfl⟩
  go_wp2_with fail
  go_ret3
  exact ⟨rfl, (Below.refl _ w).alloc (Nat.le_refl _) _⟩
set_option maxRecDepth 100000 in
theorem where_made (g : Nat) (adr : Int → Nat) (t : T) (id up pos : Int) (tx : ByteArray) (w : World) (hf : Frs w g adr t) (hi : id ∈ T.ids t) :
    Calls Tryd.prog 84 #[.pointer (some ⟨g, 0, none⟩), .iface 109 (.agg #[.int .i64 id, .int .i64 up, .int .i64 pos, .string tx])] w fun e w' => e = .returned (.tuple #[nilp, nilp, .bool false]) ∧ Ext w w' := by
  have hf1 := find_yes g adr t id _ (hf.ext ((Below.refl _ w).alloc (Nat.le_refl _) (.cells #[.int .i64 id, .int .i64 up, .int .i64 pos, .string tx] 109))) hi
  have HF := Lib.hid hf1
  clear hf hi hf1
  go_enter Tryd.func84, Tryd.ntmps84
  go_wp2_with fail
  refine HF.out.mono ?_
  rintro e w1 ⟨rfl, rfl⟩
  go_wp2_with fail
  go_ret3
  exact ⟨rfl, (Below.refl _ w).alloc (Nat.le_refl _) _⟩
set_option maxRecDepth 100000 in
theorem where_gone (g : Nat) (adr : Int → Nat) (t : T) (id up pos : Int) (w : World) (hf : Frs w g adr t) (hi : id ∉ T.ids t) :
    Calls Tryd.prog 84 #[.pointer (some ⟨g, 0, none⟩), .iface 115 (.agg #[.int .i64 id, .int .i64 up, .int .i64 pos])] w fun e w' => e = .returned (.tuple #[nilp, nilp, .bool false]) ∧ Ext w w' := by
  have hf1 := find_no g adr t id _ (hf.ext ((Below.refl _ w).alloc (Nat.le_refl _) (.cells #[.int .i64 id, .int .i64 up, .int .i64 pos] 115))) hi
  have HF := Lib.hid hf1
  clear hf hi hf1
  go_enter Tryd.func84, Tryd.ntmps84
  go_wp2_with fail
  refine HF.out.mono ?_
  rintro e w1 ⟨rfl, rfl⟩
  go_wp2_with fail
  go_ret3
  exact ⟨rfl, (Below.refl _ w).alloc (Nat.le_refl _) _⟩
set_option maxRecDepth 100000 in
theorem where_move (g : Nat) (adr : Int → Nat) (t : T) (id up pos : Int) (x : ByteArray) (f : T) (w : World) (hf : Frs w g adr t) (h3 : 3 ∈ T.ids t) (hg : T.get id t = some (x, f)) :
    Calls Tryd.prog 84 #[.pointer (some ⟨g, 0, none⟩), .iface 115 (.agg #[.int .i64 id, .int .i64 up, .int .i64 pos])] w fun e w' =>
      e = .returned (if up = id ∨ up ∈ T.ids f then .tuple #[nilp, nilp, .bool false] else .tuple #[PP adr (T.near t id up pos).1, posv adr (T.near t id up pos).2, .bool true]) ∧ Ext w w' := by
  obtain ⟨hi, hfi⟩ := T.get_sub id t x f hg
  have hf0 := hf.ext ((Below.refl _ w).alloc (Nat.le_refl _) (.cells #[.int .i64 id, .int .i64 up, .int .i64 pos] 115))
  have HF := Lib.hid (find_yes g adr t id _ hf0 hi)
  by_cases hu : up ∈ T.ids t
  · have HU := Lib.hid (find_yes g adr t up _ hf0 hu)
    have hW := within_c g adr t up id x f _ hf0 hu hg
    by_cases hq : up = id ∨ up ∈ T.ids f
    · rw [if_pos hq]
      rw [(T.inB_iff up id f).2 hq] at hW
      have HW := Lib.hid hW
      clear hf hi hW hq hu hf0 hg hfi h3
      go_enter Tryd.func84, Tryd.ntmps84
      go_wp2_with fail
      refine HF.out.mono ?_; rintro e w1 ⟨rfl, rfl⟩
      go_wp2_with fail
      refine HU.out.mono ?_; rintro e w1 ⟨rfl, rfl⟩
      go_wp2_with fail
      refine HW.out.mono ?_; rintro e w1 ⟨rfl, rfl⟩
      go_wp2_with fail
      go_ret3
      exact ⟨rfl, (Below.refl _ w).alloc (Nat.le_refl _) _⟩
    · rw [if_neg hq]
      have hb : T.inB up id f = false := by rw [Bool.eq_false_iff]; exact fun h => hq ((T.inB_iff up id f).1 h)
      rw [hb] at hW
      have HW := Lib.hid hW
      have HN := Lib.hid (near_c g adr t id up pos _ hf0 h3)
      clear hf hi hW hq hu hf0 hg hfi h3 hb
      go_enter Tryd.func84, Tryd.ntmps84
      go_wp2_with fail
      refine HF.out.mono ?_; rintro e w1 ⟨rfl, rfl⟩
      go_wp2_with fail
      refine HU.out.mono ?_; rintro e w1 ⟨rfl, rfl⟩
      go_wp2_with fail
      refine HW.out.mono ?_; rintro e w1 ⟨rfl, rfl⟩
      go_wp2_with fail
      refine HN.out.mono ?_; rintro e w1 ⟨rfl, rfl⟩
      go_wp2_with fail
      go_ret3
      exact ⟨rfl, (Below.refl _ w).alloc (Nat.le_refl _) _⟩
  · have HU := Lib.hid (find_no g adr t up _ hf0 hu)
    have HW := Lib.hid (within_nil (some ⟨adr id, 0, none⟩))
    have HN := Lib.hid (near_c g adr t id up pos _ hf0 h3)
    have hq : ¬ (up = id ∨ up ∈ T.ids f) := fun h => hu (h.elim (fun e => by rw [e]; exact hi) (hfi up))
    rw [if_neg hq]
    clear hf hi hq hu hf0 hg hfi h3
    go_enter Tryd.func84, Tryd.ntmps84
    go_wp2_with fail
    refine HF.out.mono ?_; rintro e w1 ⟨rfl, rfl⟩
    go_wp2_with fail
    refine HU.out.mono ?_; rintro e w1 ⟨rfl, rfl⟩
    go_wp2_with fail
    refine (HW.out _).mono ?_; rintro e w1 ⟨rfl, rfl⟩
    go_wp2_with fail
    refine HN.out.mono ?_; rintro e w1 ⟨rfl, rfl⟩
    go_wp2_with fail
    go_ret3
    exact ⟨rfl, (Below.refl _ w).alloc (Nat.le_refl _) _⟩
end Go.Proofs.YtjhbbgeebobcpaaDoor
namespace Go.Proofs.YtjhbbgeebobcpaaDoor
open Go.RowKit Go.Shelf
set_option linter.unusedVariables false

@[local go_sem] theorem at_make_make (v : Value) (W : World) : (Instr.typeAssert (.iface 109 v) 79 109 true).run Tryd.prog W = .ok (.tuple #[v, .bool true]) W := by kernel_rfl
@[local go_sem] theorem at_make_text (v : Value) (W : World) : (Instr.typeAssert (.iface 109 v) 79 113 true).run Tryd.prog W = .ok (.tuple #[.agg #[.int .i64 0, .string ⟨#[]⟩], .bool false]) W := by kernel_rfl
@[local go_sem] theorem at_make_move (v : Value) (W : World) : (Instr.typeAssert (.iface 109 v) 79 115 true).run Tryd.prog W = .ok (.tuple #[.agg #[.int .i64 0, .int .i64 0, .int .i64 0], .bool false]) W := by kernel_rfl
@[local go_sem] theorem at_text_make (v : Value) (W : World) : (Instr.typeAssert (.iface 113 v) 79 109 true).run Tryd.prog W = .ok (.tuple #[.agg #[.int .i64 0, .int .i64 0, .int .i64 0, .string ⟨#[]⟩], .bool false]) W := by kernel_rfl
@[local go_sem] theorem at_text_text (v : Value) (W : World) : (Instr.typeAssert (.iface 113 v) 79 113 true).run Tryd.prog W = .ok (.tuple #[v, .bool true]) W := by kernel_rfl
@[local go_sem] theorem at_text_move (v : Value) (W : World) : (Instr.typeAssert (.iface 113 v) 79 115 true).run Tryd.prog W = .ok (.tuple #[.agg #[.int .i64 0, .int .i64 0, .int .i64 0], .bool false]) W := by kernel_rfl
@[local go_sem] theorem at_move_make (v : Value) (W : World) : (Instr.typeAssert (.iface 115 v) 79 109 true).run Tryd.prog W = .ok (.tuple #[.agg #[.int .i64 0, .int .i64 0, .int .i64 0, .string ⟨#[]⟩], .bool false]) W := by kernel_rfl
@[local go_sem] theorem at_move_text (v : Value) (W : World) : (Instr.typeAssert (.iface 115 v) 79 113 true).run Tryd.prog W = .ok (.tuple #[.agg #[.int .i64 0, .string ⟨#[]⟩], .bool false]) W := by kernel_rfl
@[local go_sem] theorem at_move_move (v : Value) (W : World) : (Instr.typeAssert (.iface 115 v) 79 115 true).run Tryd.prog W = .ok (.tuple #[v, .bool true]) W := by kernel_rfl

theorem T.up_cut (m a : Int) (t : T) : ∀ q, (T.ids t).Nodup → a ∈ T.ids (T.cut m t) → T.upOf a q (T.cut m t) = T.upOf a q t := by
  have sub : ∀ s : T, ∀ b ∈ T.ids (T.cut m s), b ∈ T.ids s := by
    intro s
    induction s with
    | nil => simp [T.cut]
    | node i x f n ihf ihn =>
      intro b hb
      simp only [T.cut] at hb
      split at hb
      · simp [T.ids, hb]
      · simp only [T.ids, List.mem_cons, List.mem_append] at hb ⊢
        rcases hb with h | h | h
        · exact .inl h
        · exact .inr (.inl (ihf b h))
        · exact .inr (.inr (ihn b h))
  induction t with
  | nil => intro q _ h; simp [T.cut, T.ids] at h
  | node i x f n ihf ihn =>
    intro q nd ha
    simp only [T.ids, List.nodup_cons, List.nodup_append, List.mem_append, not_or] at nd
    obtain ⟨⟨n1, n2⟩, ndf, ndn, hdis⟩ := nd
    simp only [T.cut] at ha ⊢
    split
    · rename_i e
      rw [if_pos e] at ha
      conv => rhs; rw [T.upOf]
      rw [if_neg (fun e => n2 (by rw [e]; exact ha)), T.upOf_not a _ f (fun hh => hdis a hh a ha rfl), Option.none_or]
    · rename_i e
      rw [if_neg e] at ha
      simp only [T.ids, List.mem_cons, List.mem_append] at ha
      simp only [T.upOf]
      by_cases hia : i = a
      · rw [if_pos hia, if_pos hia]
      · rw [if_neg hia, if_neg hia]
        rcases ha with h | h | h
        · exact absurd h.symm hia
        · rw [ihf _ ndf h]
          have haf := sub f a h
          rw [T.upOf_not a q n (fun hh => hdis a haf a hh rfl), T.upOf_not a q (T.cut m n) (fun hh => hdis a haf a (sub n a hh) rfl)]
        · have han := sub n a h
          rw [T.upOf_not a _ f (fun hh => hdis a hh a han rfl), T.upOf_not a _ (T.cut m f) (fun hh => hdis a (sub f a hh) a han rfl), ihn _ ndn h]

set_option maxRecDepth 100000 in
theorem apply_text (B g : Nat) (adr : Int → Nat) (t : T) (id : Int) (tx : ByteArray) (w : World) (hf : Frs w g adr t) (hlow : Low B g adr (T.ids t)) (hB : B ≤ w.heap.size) :
    Calls Tryd.prog 58 #[.pointer (some ⟨g, 0, none⟩), .iface 113 (.agg #[.int .i64 id, .string tx])] w fun e w' => e = .returned (.tuple #[]) ∧ Frs w' g adr (T.setT id tx t) ∧ Below B w w' := by
  have hsz := alloc_sz w (.cells #[.int .i64 id, .string tx] 113)
  have hf0 := hf.ext ((Below.refl _ w).alloc (Nat.le_refl _) (.cells #[.int .i64 id, .string tx] 113))
  have hB0 : Below B w (w.alloc (.cells #[.int .i64 id, .string tx] 113)) := (Below.refl _ w).alloc hB _
  by_cases hi : id ∈ T.ids t
  · have HF := Lib.hid (find_yes g adr t id _ hf0 hi)
    obtain ⟨x, f, n, top, q, hg, hn, hq, htop, hb, hs⟩ := hf0.info id hi
    have hb0 := (hf.info id hi)
    obtain ⟨x0, f0, n0, top0, q0, -, -, -, -, hb0, -⟩ := hb0
    obtain ⟨-, d1, -, -, -, df⟩ := cells_of hb0
    have hlt := blk_lt hb0
    have H0 := Lib.hid hf0; have HB := Lib.hid hb; have HB0 := Lib.hid hB0; have HL := Lib.hid (hlow.2 id hi); have HI := Lib.hid hi
    clear hf hlow hi hg hn hq htop hs hb hf0 hB0 hsz hb0
    go_enter Tryd.func58, Tryd.ntmps58
    go_wp2_with fail
    refine HF.out.mono ?_; rintro e w1 ⟨rfl, rfl⟩
    go_wp2_with fail
    go_end0
    refine ⟨rfl, ?_⟩
    have hgn := H0.out.adr_ne H0.out.tab (by decide) id HI.out
    have h1 : ∀ W : World, W = ((w.alloc (.cells #[.int .i64 id, .string tx] 113)).setCell ⟨adr id, 1, none⟩ (.string tx)) → Frs W g adr (T.setT id tx t) ∧ Below B w W := by
      rintro W rfl
      refine ⟨⟨T.has_setT (h := hpOf _) (adr := adr) (fun b hb => setx hb) HB.out (set1 HB.out) t true nilp H0.out.nd H0.out.has, ?_, by rw [T.setT_ids]; exact H0.out.nd, fun i hi => H0.out.rng i (by rwa [T.setT_ids] at hi)⟩, HB0.out.setCell HL.out _⟩
      refine (H0.out.tab.of_block (setx hgn)).congr fun i _ => ?_
      unfold fst; rw [T.setT_ids]
    exact h1 _ (by rw [World.setCell_alloc_past _ _ _ _ hlt])
  · have HF := Lib.hid (find_no g adr t id _ hf0 hi)
    rw [T.setT_not id tx t hi]
    have H0 := Lib.hid hf0; have HB0 := Lib.hid hB0
    clear hf hlow hi hf0 hB0 hsz
    go_enter Tryd.func58, Tryd.ntmps58
    go_wp2_with fail
    refine HF.out.mono ?_; rintro e w1 ⟨rfl, rfl⟩
    go_wp2_with fail
    go_end0
    exact ⟨rfl, H0.out, HB0.out⟩
end Go.Proofs.YtjhbbgeebobcpaaDoor
namespace Go.Proofs.YtjhbbgeebobcpaaDoor
open Go.RowKit Go.Shelf
set_option linter.unusedVariables false

@[local go_sem] theorem au_make_make (v : Value) (W : World) : (Instr.typeAssert (.iface 109 v) 79 109 true).run Tryd.prog W = .ok (.tuple #[v, .bool true]) W := by kernel_rfl
@[local go_sem] theorem au_make_text (v : Value) (W : World) : (Instr.typeAssert (.iface 109 v) 79 113 true).run Tryd.prog W = .ok (.tuple #[.agg #[.int .i64 0, .string ⟨#[]⟩], .bool false]) W := by kernel_rfl
@[local go_sem] theorem au_make_move (v : Value) (W : World) : (Instr.typeAssert (.iface 109 v) 79 115 true).run Tryd.prog W = .ok (.tuple #[.agg #[.int .i64 0, .int .i64 0, .int .i64 0], .bool false]) W := by kernel_rfl
@[local go_sem] theorem au_text_make (v : Value) (W : World) : (Instr.typeAssert (.iface 113 v) 79 109 true).run Tryd.prog W = .ok (.tuple #[.agg #[.int .i64 0, .int .i64 0, .int .i64 0, .string ⟨#[]⟩], .bool false]) W := by kernel_rfl
@[local go_sem] theorem au_text_text (v : Value) (W : World) : (Instr.typeAssert (.iface 113 v) 79 113 true).run Tryd.prog W = .ok (.tuple #[v, .bool true]) W := by kernel_rfl
@[local go_sem] theorem au_text_move (v : Value) (W : World) : (Instr.typeAssert (.iface 113 v) 79 115 true).run Tryd.prog W = .ok (.tuple #[.agg #[.int .i64 0, .int .i64 0, .int .i64 0], .bool false]) W := by kernel_rfl
@[local go_sem] theorem au_move_make (v : Value) (W : World) : (Instr.typeAssert (.iface 115 v) 79 109 true).run Tryd.prog W = .ok (.tuple #[.agg #[.int .i64 0, .int .i64 0, .int .i64 0, .string ⟨#[]⟩], .bool false]) W := by kernel_rfl
@[local go_sem] theorem au_move_text (v : Value) (W : World) : (Instr.typeAssert (.iface 115 v) 79 113 true).run Tryd.prog W = .ok (.tuple #[.agg #[.int .i64 0, .string ⟨#[]⟩], .bool false]) W := by kernel_rfl
@[local go_sem] theorem au_move_move (v : Value) (W : World) : (Instr.typeAssert (.iface 115 v) 79 115 true).run Tryd.prog W = .ok (.tuple #[v, .bool true]) W := by kernel_rfl

theorem plant_new1 (w : World) (g : Nat) (adr : Int → Nat) (t : T) (id : Int) (tx : ByteArray) (hF : Frs w g adr t) (hn : id ∉ T.ids t) (h1 : 1 ≤ id) (h2 : id < 37) :
    Free ((w.setCell ⟨g, id.toNat, none⟩ (.pointer (some ⟨w.heap.size, 0, none⟩))).alloc (nodeO id (.string tx) nilp nilp nilp)).drew g (adrPut adr id w.heap.size) t id tx .nil := by
  have hsz : (w.setCell ⟨g, id.toNat, none⟩ (.pointer (some ⟨w.heap.size, 0, none⟩))).heap.size = w.heap.size := setsz _ _ _
  have hself : ((w.setCell ⟨g, id.toNat, none⟩ (.pointer (some ⟨w.heap.size, 0, none⟩))).alloc (nodeO id (.string tx) nilp nilp nilp)).drew.heap[w.heap.size]? = some (nodeO id (.string tx) nilp nilp nilp) := by
    have := World.alloc_heap_new (w.setCell ⟨g, id.toNat, none⟩ (.pointer (some ⟨w.heap.size, 0, none⟩))) (nodeO id (.string tx) nilp nilp nilp)
    rw [hsz] at this
    exact this
  have hblk : ∀ b, b < w.heap.size → b ≠ g → ((w.setCell ⟨g, id.toNat, none⟩ (.pointer (some ⟨w.heap.size, 0, none⟩))).alloc (nodeO id (.string tx) nilp nilp nilp)).drew.heap[b]? = w.heap[b]? := fun b hb hg =>
    (Below.heap_alloc (w.setCell ⟨g, id.toNat, none⟩ (.pointer (some ⟨w.heap.size, 0, none⟩))) (nodeO id (.string tx) nilp nilp nilp) b (by rw [hsz]; exact hb)).trans (setx hg)
  have hself' : adrPut adr id w.heap.size id = w.heap.size := if_pos rfl
  have hsameA : ∀ j ∈ T.ids t, adrPut adr id w.heap.size j = adr j := fun j hj => if_neg (fun e => hn (by rw [← e]; exact hj))
  have hgn := hF.adr_ne hF.tab (by decide)
  refine ⟨?_, ⟨nilp, nilp, by rw [hself']; exact hself⟩, trivial, ?_, ?_, ?_⟩
  · refine T.has_adr t true nilp hsameA (T.has_same t true nilp (fun j hj => hblk _ (hF.adr_lt j hj) (fun e => hgn j hj e.symm)) hF.has)
  · have h3 : ((w.setCell ⟨g, id.toNat, none⟩ (.pointer (some ⟨w.heap.size, 0, none⟩))).alloc (nodeO id (.string tx) nilp nilp nilp)).drew.rowIs g 119 37 (fun j => if j = id.toNat then .pointer (some ⟨w.heap.size, 0, none⟩) else fst adr t j) :=
      ((hF.tab.set id.toNat _).alloc _).drew
    refine h3.congr fun i hi => ?_
    by_cases e : i = id.toNat
    · have e2 : (i : Int) = id := by omega
      rw [if_pos e, e2, if_pos List.mem_cons_self]
      show _ = PP (adrPut adr id w.heap.size) id
      exact congrArg (fun a => Value.pointer (some ⟨a, 0, none⟩)) hself'.symm
    · have e2 : (i : Int) ≠ id := by omega
      rw [if_neg e]
      unfold fst
      by_cases hm : (i : Int) ∈ T.ids t
      · rw [if_pos hm, if_pos (by simp [T.ids, hm])]
        exact congrArg (fun a => Value.pointer (some ⟨a, 0, none⟩)) (hsameA i hm).symm
      · rw [if_neg hm, if_neg (by simp [T.ids, hm, e2])]
  · simpa [T.ids] using ⟨hn, hF.nd⟩
  · intro i hi
    simp only [T.ids, List.nil_append, List.mem_cons] at hi
    rcases hi with rfl | hi
    · exact ⟨h1, h2⟩
    · exact hF.rng i hi

set_option maxRecDepth 100000 in
theorem apply_make (B g : Nat) (adr : Int → Nat) (t : T) (id up pos : Int) (tx : ByteArray) (w : World) (hf : Frs w g adr t) (hlow : Low B g adr (T.ids t)) (hB : B ≤ w.heap.size) (h3 : 3 ∈ T.ids t) (h1 : 1 ≤ id) (h2 : id < 37) :
    Calls Tryd.prog 58 #[.pointer (some ⟨g, 0, none⟩), .iface 109 (.agg #[.int .i64 id, .int .i64 up, .int .i64 pos, .string tx])] w fun e w' => e = .returned (.tuple #[]) ∧
      ∃ adr', Frs w' g adr' (if id ∈ T.ids t then t else T.put t id tx .nil (T.near t id up pos)) ∧ Low B g adr' (T.ids (if id ∈ T.ids t then t else T.put t id tx .nil (T.near t id up pos))) ∧ Below B w w' := by
  have hsz := alloc_sz w (.cells #[.int .i64 id, .int .i64 up, .int .i64 pos, .string tx] 109)
  have hf0 := hf.ext ((Below.refl _ w).alloc (Nat.le_refl _) (.cells #[.int .i64 id, .int .i64 up, .int .i64 pos, .string tx] 109))
  have hB0 : Below B w (w.alloc (.cells #[.int .i64 id, .int .i64 up, .int .i64 pos, .string tx] 109)) := (Below.refl _ w).alloc hB _
  by_cases hi : id ∈ T.ids t
  · rw [if_pos hi]
    have HW := Lib.hid (where_made g adr t id up pos tx _ hf0 hi)
    have H0 := Lib.hid hf0; have HB0 := Lib.hid hB0; have HL := Lib.hid hlow
    clear hf hlow hi hf0 hB0 hsz h3
    go_enter Tryd.func58, Tryd.ntmps58
    go_wp2_with fail
    refine HW.out.mono ?_; rintro e w1 ⟨rfl, hb1⟩
    have HB1 := Lib.hid hb1; clear hb1
    go_wp2_with fail
    go_end0
    exact ⟨rfl, adr, H0.out.ext HB1.out, HL.out, HB0.out.trans (HB1.out.mono (Nat.le_trans hB (by rw [alloc_sz]; omega)))⟩
  · rw [if_neg hi]
    have HW := Lib.hid (where_make g adr t id up pos tx _ hf0 h3 hi)
    have HN := Lib.hid (T.near_ok t hf.nd h3 id up pos)
    have H0 := Lib.hid hf0; have HB0 := Lib.hid hB0; have HL := Lib.hid hlow; have HI := Lib.hid hi
    have HND := Lib.hid hf.nd
    clear hf hlow hi hf0 hB0 hsz h3
    go_enter Tryd.func58, Tryd.ntmps58
    go_wp2_with fail
    refine HW.out.mono ?_; rintro e w1 ⟨rfl, hb1⟩
    have hs1 := hb1.size
    rw [alloc_sz] at hs1
    have hbx : w1.heap[w.heap.size]? = some (.cells #[.int .i64 id, .int .i64 up, .int .i64 pos, .string tx] 109 (0, 0)) := (hb1.block _ (by rw [alloc_sz]; omega)).trans (World.alloc_heap_new w _)
    have k0 : w1.cell? ⟨w.heap.size, 0, none⟩ = some (.int .i64 id) := by simp [World.cell?, hbx]
    have k3 : w1.cell? ⟨w.heap.size, 3, none⟩ = some (.string tx) := by simp [World.cell?, hbx]
    clear hbx
    have hlt1 : w.heap.size < w1.heap.size := by omega
    have HF1 := Lib.hid (H0.out.ext hb1)
    have HB1 := Lib.hid hb1
    have hgc := HF1.out.tab.cell (i := id.toNat) (by omega)
    have hfz := HF1.out.tab.frozen id.toNat
    have hgl := HF1.out.size
    clear hb1 HW H0
    generalize hp : T.near t id up pos = p at HN
    go_wp2_with fail
    go_region
    go_wp2_with fail
    have hfree := plant_new1 w1 g adr t id tx HF1.out HI.out h1 h2
    have hself' : adrPut adr id w1.heap.size id = w1.heap.size := if_pos rfl
    have hsameA : ∀ j ∈ T.ids t, adrPut adr id w1.heap.size j = adr j := fun j hj => if_neg (fun e => HI.out (by rw [← e]; exact hj))
    obtain ⟨np1, np2⟩ := HN.out
    have hlow' : Low B g (adrPut adr id w1.heap.size) (id :: (T.ids (.nil : T) ++ T.ids t)) := ⟨HL.out.1, fun i hi => by
      simp only [T.ids, List.nil_append, List.mem_cons] at hi
      rcases hi with rfl | hi
      · rw [hself']; omega
      · rw [hsameA i hi]; exact HL.out.2 i hi⟩
    have hA := attach_frs B g (adrPut adr id w1.heap.size) t id tx .nil p _ hfree hlow' np1 (fun h0 => by
      obtain ⟨e1, _, e3, _⟩ := np2 h0
      rw [← e1] at e3
      exact ⟨T.up_mem t HND.out _ _ e3, e3⟩)
    have e1 : PP (adrPut adr id w1.heap.size) id = .pointer (some ⟨w1.heap.size, 0, none⟩) := congrArg (fun a => Value.pointer (some ⟨a, 0, none⟩)) hself'
    have e2 : PP (adrPut adr id w1.heap.size) p.1 = PP adr p.1 := T.PP_adr (hsameA _ np1)
    have e3 : posv (adrPut adr id w1.heap.size) p.2 = posv adr p.2 := by
      unfold posv
      split
      · rename_i h0
        obtain ⟨e1, _, e3, _⟩ := np2 h0
        rw [← e1] at e3
        exact T.PP_adr (hsameA _ (T.up_mem t HND.out _ _ e3))
      · rfl
    rw [e1, e2, e3] at hA
    have perm := put_mem t id tx .nil p HND.out np1 (fun h0 => by
      obtain ⟨e1, _, e3, _⟩ := np2 h0
      rw [← e1] at e3
      exact T.up_mem t HND.out _ _ e3)
    have hBw : Below B w1 ((w1.setCell ⟨g, id.toNat, none⟩ (.pointer (some ⟨w1.heap.size, 0, none⟩))).alloc (nodeO id (.string tx) nilp nilp nilp)).drew :=
      ((((Below.refl B w1).setCell (p := ⟨g, id.toNat, none⟩) HL.out.1 _).alloc (by rw [setsz]; omega) _)).trans (Ext.drewN (Below.refl _ _) 1)
    clear hfree hsameA np2 e1 e2 e3 hgc hfz k0 k3
    refine hA.mono ?_
    rintro e w2 ⟨rfl, F2, B2, S2, -⟩
    have FF := Lib.hid F2; have BB := Lib.hid B2; have PM := Lib.hid perm; have BW := Lib.hid hBw; have LL := Lib.hid hlow'
    clear hA F2 B2 perm hBw hlow' S2 hself'
    go_wp2_with fail
    go_end0
    rw [hp]
    refine ⟨rfl, _, FF.out, ⟨HL.out.1, fun i hi => LL.out.2 i (PM.out.mem_iff.1 hi)⟩, HB0.out.trans (((HB1.out.mono (by rw [alloc_sz]; omega)).trans BW.out).trans BB.out)⟩

set_option maxRecDepth 100000 in
theorem apply_move (B g : Nat) (adr : Int → Nat) (t : T) (id up pos : Int) (w : World) (hf : Frs w g adr t) (hlow : Low B g adr (T.ids t)) (hB : B ≤ w.heap.size) (h3 : 3 ∈ T.ids t) (h3u : T.upOf 3 none t = some none) (hid3 : id ≠ 3)
    (hup : id ∈ T.ids t → ∃ u, T.upOf id none t = some (some u)) :
    Calls Tryd.prog 58 #[.pointer (some ⟨g, 0, none⟩), .iface 115 (.agg #[.int .i64 id, .int .i64 up, .int .i64 pos])] w fun e w' => e = .returned (.tuple #[]) ∧
      ∃ t', t' = (match T.get id t with | none => t | some (x, f) => if up = id ∨ up ∈ T.ids f then t else T.put (T.cut id t) id x f (T.near t id up pos)) ∧ Frs w' g adr t' ∧ Low B g adr (T.ids t') ∧ Below B w w' := by
  have hsz := alloc_sz w (.cells #[.int .i64 id, .int .i64 up, .int .i64 pos] 115)
  have hf0 := hf.ext ((Below.refl _ w).alloc (Nat.le_refl _) (.cells #[.int .i64 id, .int .i64 up, .int .i64 pos] 115))
  have hB0 : Below B w (w.alloc (.cells #[.int .i64 id, .int .i64 up, .int .i64 pos] 115)) := (Below.refl _ w).alloc hB _
  have hB1 : B ≤ w.heap.size + 1 := by omega
  by_cases hi : id ∈ T.ids t
  · obtain ⟨x, f, hg⟩ := T.get_some id t hi
    have hW := where_move g adr t id up pos x f _ hf0 h3 hg
    rw [hg]
    simp only
    by_cases hq : up = id ∨ up ∈ T.ids f
    · rw [if_pos hq] at hW ⊢
      have HW := Lib.hid hW
      have H0 := Lib.hid hf0; have HB0 := Lib.hid hB0; have HL := Lib.hid hlow
      clear hf hlow hi hf0 hB0 hsz h3 hW hq hg hup
      go_enter Tryd.func58, Tryd.ntmps58
      go_wp2_with fail
      refine HW.out.mono ?_; rintro e w1 ⟨rfl, hb1⟩
      have HB1 := Lib.hid hb1; clear hb1
      go_wp2_with fail
      go_end0
      exact ⟨rfl, t, rfl, H0.out.ext HB1.out, HL.out, HB0.out.trans (HB1.out.mono (by rw [alloc_sz]; exact hB1))⟩
    · obtain ⟨u, hu⟩ := hup hi
      rw [if_neg hq] at hW ⊢
      have HW := Lib.hid hW
      have HN := Lib.hid (T.near_ok t hf.nd h3 id up pos)
      have HQ := Lib.hid hq
      have hnt : (T.near t id up pos).1 ∈ T.ids (T.cut id t) ∧ (0 < (T.near t id up pos).2 → (T.near t id up pos).2 ∈ T.ids (T.cut id t) ∧ T.upOf (T.near t id up pos).2 none (T.cut id t) = some (some (T.near t id up pos).1)) := by
        obtain ⟨hndc, hsub, hback, hfwd⟩ := T.cut_facts t hf.nd id x f hg
        refine ⟨?_, fun h0 => ?_⟩
        · have h3f : 3 ∉ T.ids f := by
            intro h
            obtain ⟨q, hq', _⟩ := T.under_in t hf.nd id x f hg 3 h
            rw [h3u] at hq'; cases hq'
          unfold T.near
          split
          · rename_i hup'
            exact hback up hup' (fun e => hq (.inl e)) (fun e => hq (.inr e))
          · exact hback 3 h3 (fun e => hid3 e.symm) h3f
        · obtain ⟨e1, e2, e3, e4⟩ := HN.out.2 h0
          rw [e1]
          have hmem : pos ∈ T.ids (T.cut id t) := hback pos (T.up_mem t hf.nd _ _ e3) e2 (fun hpf => hq (by
            have := (T.under_step t hf.nd id x f hg pos _ e3).1 hpf
            rw [e4] at this; exact this))
          exact ⟨hmem, (T.up_cut id pos t none hf.nd hmem).trans e3⟩
      have HNT := Lib.hid hnt
      generalize T.near t id up pos = p at HN HNT HW
      have H0 := Lib.hid hf0; have HB0 := Lib.hid hB0; have HL := Lib.hid hlow; have HI := Lib.hid hi; have HG := Lib.hid hg; have HU := Lib.hid hu
      have HND := Lib.hid hf.nd
      clear hf hlow hi hf0 hB0 hsz h3 hW hq hg hup hnt hu h3u
      go_enter Tryd.func58, Tryd.ntmps58
      go_wp2_with fail
      refine HW.out.mono ?_; rintro e w1 ⟨rfl, hb1⟩
      have hs1 := hb1.size
      rw [alloc_sz] at hs1
      have hbx : w1.heap[w.heap.size]? = some (.cells #[.int .i64 id, .int .i64 up, .int .i64 pos] 115 (0, 0)) := (hb1.block _ (by rw [alloc_sz]; omega)).trans (World.alloc_heap_new w _)
      have k0 : w1.cell? ⟨w.heap.size, 0, none⟩ = some (.int .i64 id) := by simp [World.cell?, hbx]
      clear hbx HW
      have HF1 := Lib.hid (H0.out.ext hb1)
      have HB1 := Lib.hid hb1
      have hFY := Lib.hid (find_yes g adr t id w1 HF1.out HI.out)
      clear hb1 H0
      go_wp2_with fail
      refine hFY.out.mono ?_; rintro e w2 ⟨rfl, rfl⟩
      have hD := Lib.hid (detach_c B g adr t id u x f w2 HF1.out HG.out HU.out HL.out (by omega))
      clear hFY
      go_wp2_with fail
      refine hD.out.mono ?_; rintro e w3 ⟨rfl, hfree, hb3⟩
      have hcf := T.cut_facts t HND.out id x f HG.out
      have hsub := T.get_sub id t x f HG.out
      have hlow' : Low B g adr (id :: (T.ids f ++ T.ids (T.cut id t))) := ⟨HL.out.1, fun i hi => by
        simp only [List.mem_cons, List.mem_append] at hi
        rcases hi with rfl | hi | hi
        · exact HL.out.2 _ HI.out
        · exact HL.out.2 _ (hsub.2 _ hi)
        · exact HL.out.2 _ (hcf.2.2.2 _ hi).1⟩
      have hA := Lib.hid (attach_frs B g adr (T.cut id t) id x f p w3 hfree hlow' HNT.out.1 HNT.out.2)
      have PM := Lib.hid (put_mem (T.cut id t) id x f p hcf.1 HNT.out.1 (fun h0 => (HNT.out.2 h0).1))
      have LL := Lib.hid hlow'
      have HB3 := Lib.hid hb3
      clear hD hfree hb3 hcf hsub hlow'
      go_wp2_with fail
      refine hA.out.mono ?_
      rintro e w4 ⟨rfl, F4, B4, -, -⟩
      have FF := Lib.hid F4; have BB := Lib.hid B4
      clear F4 B4 hA
      go_wp2_with fail
      go_end0
      exact ⟨rfl, _, rfl, FF.out, ⟨HL.out.1, fun i hi => LL.out.2 i (PM.out.mem_iff.1 hi)⟩, HB0.out.trans (((HB1.out.mono (by rw [alloc_sz]; exact hB1)).trans HB3.out).trans BB.out)⟩
  · have HW := Lib.hid (where_gone g adr t id up pos _ hf0 hi)
    rw [T.get_not id t hi]
    have H0 := Lib.hid hf0; have HB0 := Lib.hid hB0; have HL := Lib.hid hlow
    clear hf hlow hi hf0 hB0 hsz h3 hup
    go_enter Tryd.func58, Tryd.ntmps58
    go_wp2_with fail
    refine HW.out.mono ?_; rintro e w1 ⟨rfl, hb1⟩
    have HB1 := Lib.hid hb1; clear hb1
    go_wp2_with fail
    go_end0
    exact ⟨rfl, t, rfl, H0.out.ext HB1.out, HL.out, HB0.out.trans (HB1.out.mono (by rw [alloc_sz]; exact hB1))⟩
end Go.Proofs.YtjhbbgeebobcpaaDoor
