/- What a change makes of an outline. Slices of rows and entries are cloned; the outline at the beginning. Walks: what a log is. The outline behind a log; how many entries of somebody there are. -/
import Derived.Test.YtjhbbgeebobcpaaDoorQJ
import Derived.Test.YtjhbbgeebobcpaaDoorQK
import Derived.Lib.SliceRun
import Derived.Lib.Walk
import Derived.Test.YtjhbbgeebobcpaaDoorQB
import Derived.Deep.RegionHeld3
import Derived.Deep.LoopGhost
namespace Go.Proofs.YtjhbbgeebobcpaaDoor
open Go.RowKit Go.Shelf
set_option linter.unusedVariables false

theorem T.Valid.len {t : T} (h : T.Valid t) : (T.ids t).length ≤ 1000 := by
  have := T.nodup_le (T.ids t) [1, 2, 3, 11, 12, 13, 14, 15, 16, 21, 22, 23, 24, 25, 26, 31, 32, 33, 34, 35, 36] h.2.2 (fun a ha => by
    rcases h.ids_ok a ha with h1 | h1
    · rw [isRoot_iff] at h1; simp only [List.mem_cons, List.not_mem_nil, or_false]; omega
    · rw [isMade_iff] at h1; simp only [List.mem_cons, List.not_mem_nil, or_false]; omega)
  simp at this; omega
theorem T.up_root (t : T) : ∀ (i : Int) (q : Option Int), T.Top i t → 1 ≤ i → i + (T.chain t).length ≤ 4 → ∀ j ∈ T.ids t, isRoot j = false → (q = none → ∃ u, T.upOf j q t = some (some u)) := by
  have good : ∀ (s : T) (u : Int), ∀ j ∈ T.ids s, ∃ v, T.upOf j (some u) s = some (some v) := by
    intro s
    induction s with
    | nil => intro u j hj; simp [T.ids] at hj
    | node a x f n ihf ihn =>
      intro u j hj
      simp only [T.ids, List.mem_cons, List.mem_append] at hj
      simp only [T.upOf]
      by_cases e : a = j
      · rw [if_pos e]; exact ⟨u, rfl⟩
      · rw [if_neg e]
        by_cases hf : j ∈ T.ids f
        · obtain ⟨v, hv⟩ := ihf a j hf; rw [hv]; exact ⟨v, rfl⟩
        · rw [T.upOf_not j _ f hf, Option.none_or]
          exact ihn u j ((hj.resolve_left (fun h => e h.symm)).resolve_left hf)
  induction t with
  | nil => intro i q _ _ _ j hj; simp [T.ids] at hj
  | node a x f n ihf ihn =>
    intro i q ht h1 h2 j hj hr hq
    subst hq
    simp only [T.chain, List.length_cons] at h2
    simp only [T.ids, List.mem_cons, List.mem_append] at hj
    simp only [T.upOf]
    have hne : ¬ a = j := fun e => by
      rw [← e, ht.1] at hr
      have : isRoot i = true := (isRoot_iff i).2 ⟨h1, by omega⟩
      rw [this] at hr; cases hr
    rw [if_neg hne]
    by_cases hf : j ∈ T.ids f
    · obtain ⟨v, hv⟩ := good f a j hf; rw [hv]; exact ⟨v, rfl⟩
    · rw [T.upOf_not j _ f hf, Option.none_or]
      exact ihn (i + 1) none ht.2.2.2 (by omega) (by omega) j ((hj.resolve_left (fun h => hne h.symm)).resolve_left hf) hr rfl
theorem made_rng {id : Int} (h : isMade id = true) : 1 ≤ id ∧ id < 37 := by rw [isMade_iff] at h; omega

theorem apply_c (B g : Nat) (adr : Int → Nat) (t : T) (o : Op) (w : World) (hf : Frs w g adr t) (hv : T.Valid t) (ho : opOk o = true) (hlow : Low B g adr (T.ids t)) (hB : B ≤ w.heap.size) :
    Calls Tryd.prog 58 #[.pointer (some ⟨g, 0, none⟩), o.chg] w fun e w' => e = .returned (.tuple #[]) ∧ ∃ adr', Frs w' g adr' (T.doT t o) ∧ Below B w w' := by
  obtain ⟨hm, hk, htx, hpos⟩ := T.opOk_kind ho
  obtain ⟨h31, h3u⟩ := hv.root 3 rfl
  obtain ⟨r1, r2⟩ := made_rng hm
  have hroot : isRoot o.id = false := made_not_root _ hm
  rcases hk with hk | hk | hk
  · have e1 : o.chg = .iface 109 (.agg #[.int .i64 o.id, .int .i64 o.up, .int .i64 o.pos, .string o.text]) := by simp [Op.chg, hm, hk]
    have e2 : T.doT t o = if o.id ∈ T.ids t then t else T.put t o.id o.text .nil (T.near t o.id o.up o.pos) := by unfold T.doT; rw [if_neg (by omega), if_pos hk]
    rw [e1, e2]
    refine (apply_make B g adr t o.id o.up o.pos o.text w hf hlow hB h31 r1 r2).mono ?_
    rintro e w' ⟨rfl, adr', h1, h2, h3⟩
    exact ⟨rfl, adr', h1, h3⟩
  · have e1 : o.chg = .iface 113 (.agg #[.int .i64 o.id, .string o.text]) := by simp [Op.chg, hm, hk]
    have e2 : T.doT t o = T.setT o.id o.text t := by unfold T.doT; rw [if_pos hk]
    rw [e1, e2]
    refine (apply_text B g adr t o.id o.text w hf hlow hB).mono ?_
    rintro e w' ⟨rfl, h1, h2⟩
    exact ⟨rfl, adr, h1, h2⟩
  · have e1 : o.chg = .iface 115 (.agg #[.int .i64 o.id, .int .i64 o.up, .int .i64 o.pos]) := by simp [Op.chg, hm, hk]
    rw [e1]
    refine (apply_move B g adr t o.id o.up o.pos w hf hlow hB h31 h3u (fun e => by rw [e] at hroot; cases hroot) (fun hi => T.up_root t 1 none hv.1 (by omega) (by rw [hv.2.1]; decide) o.id hi hroot rfl)).mono ?_
    rintro e w' ⟨rfl, t', ht', h1, h2, h3⟩
    have e2 : T.doT t o = t' := by
      rw [ht']; unfold T.doT; rw [if_neg (by omega), if_neg (by omega), if_pos hk]
      cases T.get o.id t with
      | none => rfl
      | some p => rfl
    rw [e2]
    exact ⟨rfl, adr, h1, h3⟩

set_option maxRecDepth 100000 in
theorem plant_no (A : Option Addr) (c : Nat) (l : List Row) (w : World) (ht : Tab w) (hr : Rd w A c l) (hok : treeOk l = false) :
    Calls Tryd.prog 57 #[.slice A l.length c] w fun e w' => e = .returned (.tuple #[nilp, .bool false]) ∧ Ext w w' := by
  have hm : l.length ≤ maxLen := Nat.le_trans hr.1 hr.2.1
  unfold maxLen at hm
  have HO := treeOk_c A c l w ht hr
  rw [hok] at HO
  have HO := Lib.hid HO
  clear ht hr hok
  go_enter Tryd.func57, Tryd.ntmps57
  go_wp2_with fail
  refine HO.out.mono ?_; rintro e w1 ⟨rfl, hb⟩; have HB1 := Lib.hid hb; clear hb HO
  go_wp2_with fail
  go_ret2
  exact ⟨rfl, HB1.out⟩

set_option maxRecDepth 100000 in
theorem opDo_c (A : Option Addr) (c : Nat) (l : List Row) (o : Op) (w : World) (ht : Tab w) (hr : Rd w A c l) (hs : o.text.size ≤ maxLen) :
    Calls Tryd.prog 25 #[.slice A l.length c, o.val] w fun e w' => ∃ v, e = .returned v ∧ Own 47 w' w.heap.size v (opDo l o) ∧ Ext w w' := by
  have hB0 : Ext w (w.alloc (.cells #[.int .i64 o.kind, .int .i64 o.id, .int .i64 o.up, .int .i64 o.pos, .string o.text] 42)) := (Below.refl _ w).alloc (Nat.le_refl _) _
  have HC := Lib.hid (changeOf_c o _ (ht.alloc (.cells #[.int .i64 o.kind, .int .i64 o.id, .int .i64 o.up, .int .i64 o.pos, .string o.text] 42)) hs)
  have HT := Lib.hid ht; have HR := Lib.hid hr; have HB0 := Lib.hid hB0
  have hpos := ht.pos
  have hval : o.val = .agg #[.int .i64 o.kind, .int .i64 o.id, .int .i64 o.up, .int .i64 o.pos, .string o.text] := rfl
  rw [hval]
  clear ht hr hB0 hval
  cases hok : opOk o
  · have HO := Lib.hid hok
    rw [hok] at HC
    clear hok
    have hres : opDo l o = [] := by unfold opDo; rw [HO.out, Bool.and_false]; rfl
    rw [hres]
    have hp : ∀ w1, Ext w w1 → Calls Tryd.prog 57 #[.slice A l.length c] w1 fun e w' => ∃ v b, e = .returned (.tuple #[.pointer v, .bool b]) ∧ Ext w1 w' := fun w1 h => by
      cases hk : treeOk l
      · refine (plant_no A c l w1 (HT.out.below h hpos) (HR.out.ext h) hk).mono ?_
        rintro e w' ⟨rfl, h⟩
        exact ⟨_, _, rfl, h⟩
      · refine (plant_c A c l w1 (HT.out.below h hpos) (HR.out.ext h) hk).mono ?_
        rintro e w' ⟨g, adr, rfl, _, _, h⟩
        exact ⟨_, _, rfl, h⟩
    have HP := Lib.hid hp
    clear hp hres
    go_enter Tryd.func25, Tryd.ntmps25
    go_wp2_with fail
    refine HC.out.mono ?_; rintro e w1 ⟨rfl, hb1⟩
    have HB1 := Lib.hid (HB0.out.trans (hb1.mono (by rw [alloc_sz]; omega))); clear hb1 HC
    go_wp2_with fail
    refine (HP.out _ HB1.out).mono ?_; rintro e w2 ⟨v, b, rfl, hb2⟩
    have HB2 := Lib.hid hb2; clear hb2 HP
    go_wp2_with fail
    go_ret
    exact ⟨_, rfl, Own.nil _ _ _, HB1.out.trans (HB2.out.mono HB1.out.size)⟩
  · have HO := Lib.hid hok
    rw [hok] at HC
    clear hok
    cases hk : treeOk l
    · have hres : opDo l o = [] := by unfold opDo; rw [hk, Bool.false_and]; rfl
      rw [hres]
      have hp : ∀ w1, Ext w w1 → _ := fun w1 h => plant_no A c l w1 (HT.out.below h hpos) (HR.out.ext h) hk
      have HP := Lib.hid hp
      clear hp hres hk
      go_enter Tryd.func25, Tryd.ntmps25
      go_wp2_with fail
      refine HC.out.mono ?_; rintro e w1 ⟨rfl, hb1⟩
      have HB1 := Lib.hid (HB0.out.trans (hb1.mono (by rw [alloc_sz]; omega))); clear hb1 HC
      go_wp2_with fail
      refine (HP.out _ HB1.out).mono ?_; rintro e w2 ⟨rfl, hb2⟩
      have HB2 := Lib.hid hb2; clear hb2 HP
      go_wp2_with fail
      go_ret
      exact ⟨_, rfl, Own.nil _ _ _, HB1.out.trans (HB2.out.mono HB1.out.size)⟩
    · have hres : opDo l o = T.rows 0 (T.doT (T.build l) o) := by unfold opDo; rw [hk, HO.out, Bool.true_and, if_pos rfl]; exact doL_build l o hk HO.out
      rw [hres]
      have hp : ∀ w1, Ext w w1 → _ := fun w1 h => plant_c A c l w1 (HT.out.below h hpos) (HR.out.ext h) hk
      have HP := Lib.hid hp
      have HV := Lib.hid (T.valid_build l hk).1
      clear hp hres hk
      go_enter Tryd.func25, Tryd.ntmps25
      go_wp2_with fail
      refine HC.out.mono ?_; rintro e w1 ⟨rfl, hb1⟩
      have HB1 := Lib.hid (HB0.out.trans (hb1.mono (by rw [alloc_sz]; omega))); clear hb1 HC
      go_wp2_with fail
      refine (HP.out _ HB1.out).mono ?_; rintro e w2 ⟨g, adr, rfl, hf2, hl2, hb2⟩
      have HB2 := Lib.hid (HB1.out.trans (hb2.mono HB1.out.size))
      have HA := Lib.hid (apply_c w1.heap.size g adr _ o w2 hf2 HV.out HO.out hl2 hb2.size)
      clear hb2 HP hf2 hl2
      go_wp2_with fail
      refine HA.out.mono ?_; rintro e w3 ⟨rfl, adr', hf3, hb3⟩
      have HB3 := Lib.hid (HB2.out.trans (hb3.mono HB1.out.size))
      have hv3 := T.valid_doT _ HV.out o HO.out
      have HRW := Lib.hid (rows_c g adr' _ w3 hf3 hv3 hv3.len)
      clear hf3 hb3 HA hv3
      go_wp2_with fail
      refine HRW.out.mono ?_; rintro e w4 ⟨v, rfl, hown, hb4⟩
      have HOWN := Lib.hid (And.intro hown hb4); clear hown hb4 HRW
      go_wp2_with fail
      go_ret
      exact ⟨v, rfl, HOWN.out.1.lower HB3.out.size, HB3.out.trans (HOWN.out.2.mono HB3.out.size)⟩
end Go.Proofs.YtjhbbgeebobcpaaDoor
namespace Go.Proofs.YtjhbbgeebobcpaaDoor
open Go.RowKit Go.Shelf Go.Lib
set_option linter.unusedVariables false

theorem wpList_append_run {P : Program} {w : World} {ops : Array Oper} {rest : List Oper} {o : Oper} {a : Act} {Q : Exit → Act → World → Prop} (hg : o.guard = none) (s x : Operand) (t : TypeId)
    (hop : o.op = Op.call { callee := Callee.builtin Builtin.append, args := #[s, x], argTypes := #[t, t] }) {v sl v' : Value} {w' : World} (hs : a.eval s = v) (hx : a.eval x = sl) (hrun : (Builtin.append_ #[t, t] o.type #[v, sl]).run P w = .ok v' w')
    (hK : wpList P ops Q rest (a.put o.dst v') w') : wpList P ops Q (o :: rest) a w := by
  refine wpList_plain hg fun K hK' => ?_
  unfold Oper.wp
  simp [execOp, hop, resolve, invoke, builtin, hs, hx, hrun, Result.andThen]
  exact hK' _ _ hK
theorem ent_info : ∃ i : TypeInfo, Tryd.prog.info? 44 = some i ∧ i.zero = some (.agg #[.int .i64 0, .int .i64 0, .int .i64 0, .int .i64 0, .int .i64 0, .int .i64 0, .string ⟨#[]⟩]) ∧ i.size = 7 ∧ i.bytes = 64 := info_parts (by kernel_rfl)
theorem und_ents : Tryd.prog.underlying 23 = some (.slice 44) := by kernel_rfl

set_option maxRecDepth 100000 in
set_option maxHeartbeats 1000000 in
theorem clone_row (A : Option Addr) (c : Nat) (l : List Row) (w : World) (hr : Rd w A c l) (hb : l.length ≤ 1000000) :
    Calls Tryd.prog 52 #[.slice A l.length c] w fun e w' => ∃ v, e = .returned v ∧ Own 47 w' w.heap.size v l ∧ Ext w w' := by
  have q22 : ∀ (w : World) (a : Option Addr) (n c n' c' : Nat), (binOp .eql 25 (.slice a n c) (.slice none n' c')).run Tryd.prog w = .ok (.bool a.isNone) w := fun w a n c n' c' => Lib.run_eql_slice_nil w _ _ a n c n' c' und_rows
  cases A with
  | none =>
    have hl : l = [] := by
      cases l with
      | nil => rfl
      | cons x l => obtain ⟨b, off, h, _⟩ := hr.2.2.1 (by simp); cases h
    subst hl
    clear hr
    go_enter Tryd.func52, Tryd.ntmps52
    go_wp2
    go_ret
    exact ⟨_, rfl, Own.nil _ _ _, Below.refl _ _⟩
  | some a =>
    obtain ⟨i0, hi, hz0, hz1, hz2⟩ := row_info
    have hn : ∀ j u, (flat l)[j]? = some u → (w.alloc (.cells #[] 47)).cell? (a.add j) = some u := by
      intro j u hj
      have hl : 0 < l.length := by
        cases l with
        | nil => simp [flat] at hj
        | cons x l => simp
      obtain ⟨b, off, h, hc⟩ := hr.2.2.1 hl
      cases h
      have e1 : (⟨b, off, none⟩ : Addr).add j = ⟨b, off + j, none⟩ := by unfold Addr.add; split <;> simp_all
      rw [e1]
      exact Lib.cell?_alloc_some _ (hc j u hj)
    have happ := run_append_own_at (P := Tryd.prog) (w := w.alloc (.cells #[] 47)) w.heap.size 25 25 47 i0 _ 3 32 und_rows hi hz0 hz1 hz2 rfl (by decide) _ 0 [] (World.ownsRow_made w #[] 0 (Nat.le_refl _) (Nat.zero_le _) rfl) a l.length c (flat l) (flat_length l) hn (flat_one_cell l) (by unfold maxLen; omega) (by omega) (by rw [alloc_sz]; omega)
    obtain ⟨v', w1, hrun, hown, hgrow, -, -⟩ := happ
    have HOK := Lib.hid hr.ok
    have HOWN := Lib.hid hown; have HG := Lib.hid hgrow
    clear hr hn hown hgrow hi hz0 hz1 hz2
    go_enter Tryd.func52, Tryd.ntmps52
    go_wp2_with (at_builtin; refine wpList_append_run rfl _ _ _ rfl rfl rfl hrun ?_)
    go_ret
    refine ⟨_, rfl, ⟨?_, HOK.out⟩, ?_⟩
    · have := HOWN.out; rwa [Nat.zero_add, List.nil_append] at this
    · exact ((Below.refl _ w).alloc (Nat.le_refl _) _).grown HG.out (by rw [alloc_sz]; omega) (by intro k hk; simp [Value.ownBlock] at hk; omega)

set_option maxRecDepth 100000 in
set_option maxHeartbeats 1000000 in
theorem clone_ent (A : Option Addr) (c : Nat) (l : List Entry) (w : World) (hr : Rd w A c l) (hb : l.length ≤ 1000000) :
    Calls Tryd.prog 74 #[.slice A l.length c] w fun e w' => ∃ v, e = .returned v ∧ Own 44 w' w.heap.size v l ∧ Ext w w' := by
  have q22 : ∀ (w : World) (a : Option Addr) (n c n' c' : Nat), (binOp .eql 23 (.slice a n c) (.slice none n' c')).run Tryd.prog w = .ok (.bool a.isNone) w := fun w a n c n' c' => Lib.run_eql_slice_nil w _ _ a n c n' c' und_ents
  cases A with
  | none =>
    have hl : l = [] := by
      cases l with
      | nil => rfl
      | cons x l => obtain ⟨b, off, h, _⟩ := hr.2.2.1 (by simp); cases h
    subst hl
    clear hr
    go_enter Tryd.func74, Tryd.ntmps74
    go_wp2
    go_ret
    exact ⟨_, rfl, Own.nil _ _ _, Below.refl _ _⟩
  | some a =>
    obtain ⟨i0, hi, hz0, hz1, hz2⟩ := ent_info
    have hn : ∀ j u, (flat l)[j]? = some u → (w.alloc (.cells #[] 44)).cell? (a.add j) = some u := by
      intro j u hj
      have hl : 0 < l.length := by
        cases l with
        | nil => simp [flat] at hj
        | cons x l => simp
      obtain ⟨b, off, h, hc⟩ := hr.2.2.1 hl
      cases h
      have e1 : (⟨b, off, none⟩ : Addr).add j = ⟨b, off + j, none⟩ := by unfold Addr.add; split <;> simp_all
      rw [e1]
      exact Lib.cell?_alloc_some _ (hc j u hj)
    have happ := run_append_own_at (P := Tryd.prog) (w := w.alloc (.cells #[] 44)) w.heap.size 23 23 44 i0 _ 7 64 und_ents hi hz0 hz1 hz2 rfl (by decide) _ 0 [] (World.ownsRow_made w #[] 0 (Nat.le_refl _) (Nat.zero_le _) rfl) a l.length c (flat l) (flat_length l) hn (flat_one_cell l) (by unfold maxLen; omega) (by omega) (by rw [alloc_sz]; omega)
    obtain ⟨v', w1, hrun, hown, hgrow, -, -⟩ := happ
    have HOK := Lib.hid hr.ok
    have HOWN := Lib.hid hown; have HG := Lib.hid hgrow
    clear hr hn hown hgrow hi hz0 hz1 hz2
    go_enter Tryd.func74, Tryd.ntmps74
    go_wp2_with (at_builtin; refine wpList_append_run rfl _ _ _ rfl rfl rfl hrun ?_)
    go_ret
    refine ⟨_, rfl, ⟨?_, HOK.out⟩, ?_⟩
    · have := HOWN.out; rwa [Nat.zero_add, List.nil_append] at this
    · exact ((Below.refl _ w).alloc (Nat.le_refl _) _).grown HG.out (by rw [alloc_sz]; omega) (by intro k hk; simp [Value.ownBlock] at hk; omega)

set_option maxRecDepth 100000 in
theorem treeNew_c (w : World) : Calls Tryd.prog 39 #[] w fun e w' => ∃ v, e = .returned v ∧ Own 47 w' w.heap.size v treeNew ∧ Ext w w' := by
  go_enter Tryd.func39, Tryd.ntmps39
  go_wp2
  go_ret
  refine ⟨_, rfl, ⟨⟨rfl, .inr ⟨w.heap.size, 3, _, rfl, Nat.le_refl _, World.alloc_heap_new w _, Nat.le_refl _, by decide, rfl, rfl⟩⟩, ?_⟩, (Below.refl _ w).alloc (Nat.le_refl _) _⟩
  intro r hr
  simp only [treeNew, List.mem_cons, List.not_mem_nil, or_false] at hr
  rcases hr with rfl | rfl | rfl <;> exact Nat.zero_le _
end Go.Proofs.YtjhbbgeebobcpaaDoor
namespace Go.Proofs.YtjhbbgeebobcpaaDoor
open Go.RowKit

theorem any_skip {P : Program} {md : Region.Mode} {ops : Array Oper} {Q : Exit → Act → World → Prop} (i : Nat) {oi : Oper} {fuel : Nat} {listed : Array Bool} {a : Act} {w : World} (hi : ops[i]? = some oi)
    (hs : Region.noSelect ops = true) (hf : Region.free md ops listed i = true) (hr : (Region.ready md ops listed).contains i = true)
    (hQ : ∀ c a w, Q (.panic c) (a.put oi.dst undef) w → Q (.panic c) a w) (hw : Region.wanted oi (yielded ops a.tmps) = false)
    (h : wpAny P md ops Q fuel (listed.setIfInBounds i true) (a.put oi.dst undef) w) : wpAny P md ops Q (fuel + 1) listed a w :=
  wpAny_take hi hs hf hr hQ (.inr ⟨hw, rfl⟩) h

theorem entryOk_who {e : Entry} (h : entryOk e = true) : 1 ≤ e.who ∧ e.who ≤ 3 := by
  simp [entryOk, isWho] at h; exact h.1.1.1

set_option maxHeartbeats 1000000 in
theorem logOk_c (A : Option Addr) (c : Nat) (l : List Entry) (w : World) (ht : Tab w) (hr : Rd w A c l) :
    Calls Tryd.prog 38 #[.slice A l.length c] w fun x w' => x = .returned (.bool (logOk l)) ∧ Ext w w' := by
  have hm : l.length ≤ maxLen := Nat.le_trans hr.1 hr.2.1
  unfold maxLen at hm
  by_cases h40 : l.length ≤ 40
  · have HR := Lib.hid hr; have HT := Lib.hid ht; clear hr ht
    have hmm := @run_makeMap Tryd.prog
    go_enter Tryd.func38, Tryd.ntmps38
    go_wp2
    go_loopg [12] l.length (fun gk i wr => ∃ k : Nat, k ≤ l.length ∧ gk = l.length - k ∧ i = .int .i64 k ∧ Hid (∀ j, j < k → goodAt l j = true) ∧ Hid (Tal wr w.heap.size k (fun who => (cntW (l.take k) who : Int))) ∧ Hid (Below w.heap.size w wr))
    case atStart => exact ⟨0, Nat.zero_le _, rfl, rfl, fun _ h => by omega, (by simpa [cntW] using Tal.made w : Tal _ _ 0 _), (Below.refl _ _).alloc (Nat.le_refl _) _⟩
    case round =>
      obtain ⟨k, hk, hgk, rfl, HG, HTal, HB⟩ := hrel
      by_cases hlt : k < l.length
      · obtain ⟨b, off, rfl, hbl, c0, c1, c2, c3, c4, c5, c6⟩ := ent_at (HR.out.ext HB.out) k hlt
        have HK := Lib.hid hgk; clear hgk
        have hE := entryOk_c l[k] (wr.alloc (.cells #[.int .i64 l[k].who, .int .i64 l[k].seq, .int .i64 l[k].op.kind, .int .i64 l[k].op.id, .int .i64 l[k].op.up, .int .i64 l[k].op.pos, .string l[k].op.text] 44)).drew
          ((HT.out.below HB.out HT.out.pos).alloc _) (HR.out.okAt k hlt)
        simp only [Entry.val] at hE
        have HG1 := Lib.hid (goodAt_lt l k hlt)
        cases hok : entryOk l[k]
        · rw [hok] at hE HG1
          have HE := Lib.hid hE; clear hE hok
          go_wp2
          refine wp_region_any (by kernel_rfl) ?_
          change wpAny _ _ _ _ _ _ _ (World.drew _)
          refine wpAny_ready (rs := [0]) (by kernel_rfl) (by simp) ?_
          refine AllReady.cons rfl (fun K hK => ?_) AllReady.nil
          go_simp
          refine hK _ _ ?_; clear hK K
          refine wpAny_ready (rs := [1]) (by kernel_rfl) (by simp) ?_
          refine AllReady.cons rfl (fun K hK => ?_) AllReady.nil
          go_simp
          go_wp2_with (go_at_call 32; refine HE.out.mono ?_; rintro e w1 ⟨rfl, hb1⟩; obtain ⟨hc1, hf1⟩ := bcell hb1)
          refine wpAny_ready (rs := [2]) (by kernel_rfl) (by simp) ?_
          refine AllReady.cons rfl (fun K hK => ?_) AllReady.nil
          go_simp
          refine hK _ _ ?_; clear hK K
          refine wpAny_ready (rs := [3]) (by kernel_rfl) (by simp) ?_
          refine AllReady.cons rfl (fun K hK => ?_) AllReady.nil
          go_simp
          refine hK _ _ ?_; clear hK K
          refine any_skip 4 rfl (by kernel_rfl) (by kernel_rfl) (by kernel_rfl) (fun _ _ _ h => h) (by rfl) ?_
          refine any_skip 5 rfl (by kernel_rfl) (by kernel_rfl) (by kernel_rfl) (fun _ _ _ h => h) (by rfl) ?_
          refine any_skip 6 rfl (by kernel_rfl) (by kernel_rfl) (by kernel_rfl) (fun _ _ _ h => h) (by rfl) ?_
          refine any_skip 7 rfl (by kernel_rfl) (by kernel_rfl) (by kernel_rfl) (fun _ _ _ h => h) (by rfl) ?_
          refine any_skip 8 rfl (by kernel_rfl) (by kernel_rfl) (by kernel_rfl) (fun _ _ _ h => h) (by rfl) ?_
          refine any_skip 9 rfl (by kernel_rfl) (by kernel_rfl) (by kernel_rfl) (fun _ _ _ h => h) (by rfl) ?_
          refine any_skip 10 rfl (by kernel_rfl) (by kernel_rfl) (by kernel_rfl) (fun _ _ _ h => h) (by rfl) ?_
          refine wpAny_ready (rs := [11]) (by kernel_rfl) (by simp) ?_
          refine AllReady.cons rfl (fun K hK => ?_) AllReady.nil
          go_simp
          refine hK _ _ ?_; clear hK K
          refine wpAny_done (by kernel_rfl) ?_ _
          go_wp2
          go_ret
          exact ⟨by rw [logOk_false l k hlt HG1.out]; rfl, ext_then HB.out (ext_boxd hb1) HB.out.size⟩
        · have hwho := entryOk_who hok
          rw [hok] at hE HG1
          have HE := Lib.hid hE; clear hE hok
          have hadd := fun (w1 : World) (h : Ext (wr.alloc (.cells #[.int .i64 l[k].who, .int .i64 l[k].seq, .int .i64 l[k].op.kind, .int .i64 l[k].op.id, .int .i64 l[k].op.up, .int .i64 l[k].op.pos, .string l[k].op.text] 44)).drew w1) => add_c w.heap.size k (fun who => (cntW (l.take k) who : Int)) l[k].who w1 (HTal.out.below (ext_boxd h)) (by unfold maxLen; omega) (WalkArith.wf_i64 (by omega)) (by omega) (by have := cntW_le (l.take k) l[k].who; rw [List.length_take] at this; omega)
          have HA := Lib.hid hadd; clear hadd
          have HW := Lib.hid hwho; clear hwho
          have hmb : w.heap.size < wr.heap.size := HTal.out.lt
          go_wp2
          have hcq : (((cntW (l.take k) l[k].who : Int) + 1) != l[k].seq) = true ∨ (((cntW (l.take k) l[k].who : Int) + 1) != l[k].seq) = false := by cases (((cntW (l.take k) l[k].who : Int) + 1) != l[k].seq) <;> simp
          rcases hcq with hq | hq
          all_goals
            go_region_held3 (fun w' => w'.cell? ⟨wr.heap.size, 0, none⟩ = some (.int .i64 l[k].who) ∧ w'.cell? ⟨wr.heap.size, 1, none⟩ = some (.int .i64 l[k].seq) ∧ w'.cell? ⟨wr.heap.size, 2, none⟩ = some (.int .i64 l[k].op.kind) ∧ w'.cell? ⟨wr.heap.size, 3, none⟩ = some (.int .i64 l[k].op.id) ∧ w'.cell? ⟨wr.heap.size, 4, none⟩ = some (.int .i64 l[k].op.up) ∧ w'.cell? ⟨wr.heap.size, 5, none⟩ = some (.int .i64 l[k].op.pos) ∧ w'.cell? ⟨wr.heap.size, 6, none⟩ = some (.string l[k].op.text))
              (first | exact E2 | exact E1 | go_keep)
              (first
                | (go_at_call 32; refine HE.out.mono ?_; rintro e w1 ⟨rfl, hb1⟩; obtain ⟨hc1, hf1⟩ := bcell hb1
                   have E1 : w1.cell? ⟨wr.heap.size, 0, none⟩ = some (.int .i64 l[k].who) ∧ w1.cell? ⟨wr.heap.size, 1, none⟩ = some (.int .i64 l[k].seq) ∧ w1.cell? ⟨wr.heap.size, 2, none⟩ = some (.int .i64 l[k].op.kind) ∧ w1.cell? ⟨wr.heap.size, 3, none⟩ = some (.int .i64 l[k].op.id) ∧ w1.cell? ⟨wr.heap.size, 4, none⟩ = some (.int .i64 l[k].op.up) ∧ w1.cell? ⟨wr.heap.size, 5, none⟩ = some (.int .i64 l[k].op.pos) ∧ w1.cell? ⟨wr.heap.size, 6, none⟩ = some (.string l[k].op.text) := by
                     simp [hc1]
                   have HC := Lib.hid hc1; have HB1 := Lib.hid hb1; clear hc1 hf1 hb1)
                | (go_at_call 50; refine (HA.out _ HB1.out).mono ?_; rintro e w2 ⟨rfl, ht2, hg2⟩
                   have E2 : w2.cell? ⟨wr.heap.size, 0, none⟩ = some (.int .i64 l[k].who) ∧ w2.cell? ⟨wr.heap.size, 1, none⟩ = some (.int .i64 l[k].seq) ∧ w2.cell? ⟨wr.heap.size, 2, none⟩ = some (.int .i64 l[k].op.kind) ∧ w2.cell? ⟨wr.heap.size, 3, none⟩ = some (.int .i64 l[k].op.id) ∧ w2.cell? ⟨wr.heap.size, 4, none⟩ = some (.int .i64 l[k].op.up) ∧ w2.cell? ⟨wr.heap.size, 5, none⟩ = some (.int .i64 l[k].op.pos) ∧ w2.cell? ⟨wr.heap.size, 6, none⟩ = some (.string l[k].op.text) := by
                     obtain ⟨e0, e1, e2, e3, e4, e5, e6⟩ := E1
                     have hne : ∀ o : Nat, some (⟨wr.heap.size, o, none⟩ : Addr).block ≠ some w.heap.size := fun o h => by injection h with h; simp only at h; omega
                     exact ⟨hg2.cell e0 (hne _), hg2.cell e1 (hne _), hg2.cell e2 (hne _), hg2.cell e3 (hne _), hg2.cell e4 (hne _), hg2.cell e5 (hne _), hg2.cell e6 (hne _)⟩
                   have HT2 := Lib.hid ht2; have HG2 := Lib.hid hg2; clear ht2 hg2))
          · have HQ := Lib.hid hq; clear hq
            go_wp2
            go_ret
            have hne : ¬ l[k].seq = (cntW (l.take k) l[k].who : Int) + 1 := fun e => by rw [e] at HQ; simp [Hid] at HQ
            have hg : goodAt l k = false := by rw [HG1.out]; simp [hne]
            refine ⟨by rw [logOk_false l k hlt hg]; rfl, ?_⟩
            exact ext_grown (ext_then HB.out (ext_boxd HB1.out) HB.out.size) HG2.out (Nat.le_trans HB.out.size (ext_boxd HB1.out).size) (fun k e => by injection e with e; omega)
          · have HQ := Lib.hid hq; clear hq
            go_wp2
            go_roundg (l.length - (k + 1))
            case measure => have := HK.out; omega
            case rel =>
              have he : (cntW (l.take k) l[k].who : Int) + 1 = l[k].seq := by simpa using HQ.out
              have hg : goodAt l k = true := by rw [HG1.out]; simp [he]
              refine ⟨k + 1, by omega, rfl, by go_num, fun j hj => ?_, ?_, ?_⟩
              · by_cases hjk : j = k
                · rw [hjk]; exact hg
                · exact HG.out j (by omega)
              · have hf : (fun who => (cntW (l.take (k + 1)) who : Int)) = upd (fun who => (cntW (l.take k) who : Int)) l[k].who ((cntW (l.take k) l[k].who : Int) + 1) := by
                  funext x
                  rw [cntW_take l k hlt x]
                  unfold upd
                  by_cases hx : x = l[k].who
                  · rw [if_pos hx, hx, if_pos rfl]; simp
                  · rw [if_neg hx, if_neg (fun e => hx e.symm)]; simp
                rw [hf]
                exact HT2.out
              · exact ext_grown (ext_then HB.out (ext_boxd HB1.out) HB.out.size) HG2.out (Nat.le_trans HB.out.size (ext_boxd HB1.out).size) (fun k e => by injection e with e; omega)
      · go_wp2
        go_ret
        exact ⟨by rw [logOk_true l h40 (fun j hj => HG.out j (by omega))]; rfl, HB.out⟩
  · have hl : logOk l = false := by simp [logOk, h40]
    rw [hl]
    clear hl hr ht
    go_enter Tryd.func38, Tryd.ntmps38
    go_wp2
    go_ret
    exact ⟨rfl, Below.refl _ _⟩
end Go.Proofs.YtjhbbgeebobcpaaDoor
namespace Go.Proofs.YtjhbbgeebobcpaaDoor
open Go.RowKit
set_option linter.unusedVariables false

def treeOf (l : List Entry) : List Row := l.foldl (fun t e => opDo t e.op) treeNew
def logTree (l : List Entry) : List Row := if logOk l then treeOf l else []
theorem treeOf_take (l : List Entry) (k : Nat) (hk : k < l.length) : treeOf (l.take (k + 1)) = opDo (treeOf (l.take k)) l[k].op := by
  unfold treeOf; rw [List.take_succ_eq_append_getElem hk, List.foldl_append]; rfl
theorem entryOk_op {e : Entry} (h : entryOk e = true) : opOk e.op = true := by
  simp only [entryOk, Bool.and_eq_true] at h; exact h.1.2
theorem logOk_at {l : List Entry} (h : logOk l = true) (k : Nat) (hk : k < l.length) : entryOk l[k] = true := by
  have := ((logOk_iff l).1 h).2 k hk
  rw [goodAt_lt l k hk, Bool.and_eq_true] at this; exact this.1
theorem treeOk_new : treeOk treeNew = true := by decide
theorem treeOf_ok {l : List Entry} (h : ∀ e ∈ l, opOk e.op = true) : treeOk (treeOf l) = true := by
  have : ∀ (t : List Row), treeOk t = true → (∀ e ∈ l, opOk e.op = true) → treeOk (l.foldl (fun t e => opDo t e.op) t) = true := by
    clear h
    induction l with
    | nil => intro t h _; exact h
    | cons e l ih =>
      intro t h hl
      refine ih _ ?_ (fun e' he => hl e' (List.mem_cons_of_mem _ he))
      have ho := hl e List.mem_cons_self
      show treeOk (opDo t e.op) = true
      unfold opDo
      rw [h, ho, Bool.and_self, if_pos rfl]
      exact treeOk_do t e.op h ho
  exact this treeNew treeOk_new h

set_option maxRecDepth 100000 in
set_option maxHeartbeats 1000000 in
theorem logTree_c (A : Option Addr) (c : Nat) (l : List Entry) (w : World) (ht : Tab w) (hr : Rd w A c l) :
    Calls Tryd.prog 13 #[.slice A l.length c] w fun e w' => ∃ v, e = .returned v ∧ Own 47 w' w.heap.size v (logTree l) ∧ Ext w w' := by
  have hm : l.length ≤ maxLen := Nat.le_trans hr.1 hr.2.1
  unfold maxLen at hm
  have hL := logOk_c A c l w ht hr
  cases hok : logOk l
  · rw [hok] at hL
    have HL := Lib.hid hL
    have hres : logTree l = [] := by unfold logTree; rw [hok]; rfl
    rw [hres]
    clear hL ht hr hok hres
    go_enter Tryd.func13, Tryd.ntmps13
    go_wp2_with fail
    refine HL.out.mono ?_; rintro e w1 ⟨rfl, hb⟩
    have HB := Lib.hid hb; clear hb HL
    go_wp2_with fail
    go_ret
    exact ⟨_, rfl, Own.nil _ _ _, HB.out⟩
  · rw [hok] at hL
    have HL := Lib.hid hL
    have hres : logTree l = treeOf l := by unfold logTree; rw [hok]; rfl
    rw [hres]
    have HR := Lib.hid hr; have HT := Lib.hid ht
    clear hL ht hr hok hres
    go_enter Tryd.func13, Tryd.ntmps13
    go_wp2_with fail
    refine HL.out.mono ?_; rintro e w1 ⟨rfl, hb⟩
    have HB := Lib.hid hb; clear hb HL
    go_wp2_with fail
    refine (treeNew_c w1).mono ?_; rintro e w2 ⟨v, rfl, hown, hb2⟩
    have HB2 := Lib.hid (HB.out.trans (hb2.mono HB.out.size))
    have HOWN := Lib.hid (hown.lower HB.out.size)
    clear hown hb2
    go_wp2_with fail
    go_loopg [3, 12] l.length (fun gk v i wr => ∃ k : Nat, k ≤ l.length ∧ Hid (gk = l.length - k) ∧ i = .int .i64 k ∧ Hid (Own 47 wr w.heap.size v (treeOf (l.take k))) ∧ Hid (Below w.heap.size w wr))
    case atStart => exact ⟨0, Nat.zero_le _, rfl, rfl, HOWN.out, HB2.out⟩
    case round =>
      obtain ⟨k, hk, HK, rfl, HO, HW⟩ := hrel
      by_cases hlt : k < l.length
      · obtain ⟨b, off, rfl, hbl, c0, c1, c2, c3, c4, c5, c6⟩ := ent_at (HR.out.ext HW.out) k hlt
        obtain ⟨A2, cap2, hv, hrd⟩ := HO.out.rd
        subst hv
        have hsz := HW.out.size
        have hC := Lib.hid (opDo_c A2 cap2 (treeOf (l.take k)) l[k].op (wr.alloc (.cells #[.int .i64 l[k].who, .int .i64 l[k].seq, .int .i64 l[k].op.kind, .int .i64 l[k].op.id, .int .i64 l[k].op.up, .int .i64 l[k].op.pos, .string l[k].op.text] 44))
          ((HT.out.below HW.out HT.out.pos).alloc _) (hrd.alloc _) (HR.out.okAt k hlt))
        have HN := Lib.hid (treeOf_take l k hlt)
        clear hrd
        go_wp2_with fail
        refine hC.out.mono ?_; rintro e w3 ⟨v3, rfl, hown3, hb3⟩
        have HOWN3 := Lib.hid (hown3.lower (Nat.le_trans hsz (by rw [alloc_sz]; omega)))
        have HB3 := Lib.hid (HW.out.trans (((Below.refl w.heap.size wr).alloc hsz _).trans (hb3.mono (Nat.le_trans hsz (by rw [alloc_sz]; omega)))))
        clear hown3 hb3 hC
        go_wp2_with fail
        go_roundg (l.length - (k + 1))
        case measure => have := HK.out; omega
        case rel => exact ⟨k + 1, by omega, rfl, by go_num, by rw [HN.out]; exact HOWN3.out, HB3.out⟩
      · have hkl : k = l.length := by omega
        subst hkl
        rw [List.take_length] at HO
        go_wp2_with fail
        go_ret
        exact ⟨_, rfl, HO.out, HW.out⟩

def logSeq (l : List Entry) (who : Int) : Int := if logOk l then cntW l who else -1
set_option maxRecDepth 100000 in
set_option maxHeartbeats 1000000 in
theorem logSeq_c (A : Option Addr) (c : Nat) (l : List Entry) (who : Int) (w : World) (ht : Tab w) (hr : Rd w A c l) (hw : (Lit.int .i64 who).wf = true) :
    Calls Tryd.prog 19 #[.slice A l.length c, .int .i64 who] w fun e w' => e = .returned (.int .i64 (logSeq l who)) ∧ Ext w w' := by
  have hm : l.length ≤ maxLen := Nat.le_trans hr.1 hr.2.1
  unfold maxLen at hm
  have hL := logOk_c A c l w ht hr
  have HW := Lib.hid hw
  cases hok : logOk l
  · rw [hok] at hL
    have HL := Lib.hid hL
    have hres : logSeq l who = -1 := by unfold logSeq; rw [hok]; rfl
    rw [hres]
    clear hL ht hr hok hres hw
    go_enter Tryd.func19, Tryd.ntmps19
    go_wp2_with fail
    refine HL.out.mono ?_; rintro e w1 ⟨rfl, hb⟩
    have HB := Lib.hid hb; clear hb HL
    go_wp2_with fail
    go_ret
    exact ⟨rfl, HB.out⟩
  · rw [hok] at hL
    have HL := Lib.hid hL
    have hres : logSeq l who = cntW l who := by unfold logSeq; rw [hok]; rfl
    rw [hres]
    have HR := Lib.hid hr; have HT := Lib.hid ht
    have HOK := Lib.hid hok
    have hl40 := ((logOk_iff l).1 hok).1
    clear hL ht hr hok hres hw
    have hmm := @run_makeMap Tryd.prog
    go_enter Tryd.func19, Tryd.ntmps19
    go_wp2_with fail
    refine HL.out.mono ?_; rintro e w1 ⟨rfl, hb⟩
    have HB := Lib.hid hb; clear hb HL
    have hB1 := HB.out.size
    go_wp2_with fail
    go_loopg [14] l.length (fun gk i wr => ∃ k : Nat, k ≤ l.length ∧ Hid (gk = l.length - k) ∧ i = .int .i64 k ∧ Hid (Tal wr w1.heap.size k (fun who => (cntW (l.take k) who : Int))) ∧ Hid (Below w.heap.size w wr))
    case atStart => exact ⟨0, Nat.zero_le _, rfl, rfl, (by simpa [cntW] using Tal.made w1 : Tal _ _ 0 _), HB.out.alloc hB1 _⟩
    case round =>
      obtain ⟨k, hk, HK, rfl, HTal, HBW⟩ := hrel
      by_cases hlt : k < l.length
      · obtain ⟨b, off, rfl, hbl, c0, c1, c2, c3, c4, c5, c6⟩ := ent_at (HR.out.ext HBW.out) k hlt
        have hsz := HBW.out.size
        have hwho := entryOk_who (logOk_at HOK.out k hlt)
        have hC := Lib.hid (add_c w1.heap.size k (fun who => (cntW (l.take k) who : Int)) l[k].who (wr.alloc (.cells #[.int .i64 l[k].who, .int .i64 l[k].seq, .int .i64 l[k].op.kind, .int .i64 l[k].op.id, .int .i64 l[k].op.up, .int .i64 l[k].op.pos, .string l[k].op.text] 44))
          (HTal.out.below ((Below.refl _ _).alloc (Nat.le_refl _) _)) (by unfold maxLen; omega) (WalkArith.wf_i64 (by omega)) (by omega) (by have := cntW_le (l.take k) l[k].who; rw [List.length_take] at this; omega))
        clear hwho
        go_wp2_with fail
        refine hC.out.mono ?_; rintro e w3 ⟨rfl, ht3, hg3⟩
        have HT3 := Lib.hid ht3; have HG3 := Lib.hid hg3
        clear ht3 hg3 hC
        go_wp2_with fail
        go_roundg (l.length - (k + 1))
        case measure => have := HK.out; omega
        case rel =>
          refine ⟨k + 1, by omega, rfl, by go_num, ?_, ?_⟩
          · have hf : (fun who => (cntW (l.take (k + 1)) who : Int)) = upd (fun who => (cntW (l.take k) who : Int)) l[k].who ((cntW (l.take k) l[k].who : Int) + 1) := by
              funext x
              rw [cntW_take l k hlt x]
              unfold upd
              by_cases hx : x = l[k].who
              · rw [if_pos hx, hx, if_pos rfl]; simp
              · rw [if_neg hx, if_neg (fun e => hx e.symm)]; simp
            rw [hf]
            exact HT3.out
          · exact ext_grown (HBW.out.alloc hsz _) HG3.out (by rw [alloc_sz]; omega) (fun k e => by injection e with e; omega)
      · have hkl : k = l.length := by omega
        subst hkl
        rw [List.take_length] at HTal
        have hlook := HTal.out.look who HW.out
        go_wp2_with fail
        go_ret
        exact ⟨rfl, HBW.out⟩
end Go.Proofs.YtjhbbgeebobcpaaDoor
