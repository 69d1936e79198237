/- The children of a row, one by one. The row ahead of a row. A row is taken from its place. A change is done in a forest. A change is done in a forest. -/
import Derived.Test.YtikcnbkoeglecaaDoorQD
import Derived.RegionTactic
namespace Go.Proofs.YtikcnbkoeglecaaDoor
open Go.RowKit Go.Shelf
set_option linter.unusedVariables false
attribute [local go_sem] Oper.semAt_some

theorem T.Has.kept {ts : List TypeId} {L : Nat → Prop} {W W' : World} {adr : Int → Nat} {top : Bool} {up : Value} {t : T} (h : T.Has (hpOf W) adr top up t) (k : Kept ts L W W') (hts : 138 ∉ ts) : T.Has (hpOf W') adr top up t :=
  T.has_same t top up (fun j hj => by
    obtain ⟨a, b, c, d, e⟩ := T.has_at t top up h j hj
    exact (k.cells _ _ _ _ e hts).trans e.symm) h
theorem T.Has.stab {ts : List TypeId} {B : Nat} {W W' : World} {adr : Int → Nat} {top : Bool} {up : Value} {t : T} (h : T.Has (hpOf W) adr top up t) (k : Stab B ts W W') (hlt : ∀ j ∈ T.ids t, adr j < B) : T.Has (hpOf W') adr top up t :=
  T.has_same t top up (fun j hj => k.low _ (hlt j hj)) h

theorem kids_c (u : Option Addr) (w : World) : Calls Tryd.prog 114 #[.pointer u] w fun e w' => e = .returned (.func (.func 115) #[] #[.pointer (some ⟨w.heap.size, 0, none⟩)]) ∧ w' = w.alloc (.cells #[.pointer u] 132) := by
  go_enter Tryd.func114, Tryd.ntmps114
  go_wp2
  go_ret
  exact ⟨rfl, rfl⟩

theorem kids1_s (st : Prop) (ts : List TypeId) (hts : 138 ∉ ts) (adr : Int → Nat) (b : Nat) (u : Int) (a1 a2 a4 : Value) (f : T) (w : World) (hu : w.heap[adr u]? = some (nodeO u a1 a2 (T.pt adr f) a4)) (hf : T.Has (hpOf w) adr false (PP adr u) f)
    (hb : w.heap[b]? = some (.cells #[PP adr u] 132 (0, 0))) :
    Seqs Tryd.prog st ts 115 #[.pointer (some ⟨b, 0, none⟩)] (fun j : Int => #[PP adr j]) (T.chain f) w := by
  intro l L J Jx W hW hl hL hJ hJx hst hY h0
  have hb' : W.cell? ⟨b, 0, none⟩ = some (PP adr u) := by
    rw [cell_blk (hW.block b (blk_lt hb))]; simp [World.cell?, hb]
  have hu' := (hW.block _ (blk_lt hu)).trans hu
  obtain ⟨-, -, -, c3, -, -⟩ := cells_of hu'
  obtain ⟨fp, hfp⟩ := pt_pointer adr f
  have hf' : T.Has (hpOf W) adr false (PP adr u) f := T.has_same f _ _ (fun j hj => by
    obtain ⟨x1, x2, x3, x4, e⟩ := T.has_at f _ _ hf j hj
    exact hW.block _ (blk_lt e)) hf
  rw [hfp] at c3
  have HY := Lib.hid hY; have HF := Lib.hid hf'; have HP := Lib.hid hfp; have H0 := Lib.hid h0
  clear hY hW hu hf hb hu' hf' hfp h0 hJ hJx hst
  refine (callsIn_wide (n := 3)).1 ?_
  refine callsIn_of_wp Tryd.func115 rfl trivial ?_ rfl
  simp only [Tryd.ntmps115, List.size_toArray, List.length_cons, List.length_nil, Nat.reduceAdd, Nat.reduceSub, Array.replicate_succ, Array.replicate_zero, List.push_toArray, List.append_toArray, List.nil_append, List.cons_append]
  gi_wp2
  let rel : Nat → Value → World → Prop := fun n v wr => ∃ (k : Nat) (r : T), n = (T.chain f).length - k ∧ k ≤ (T.chain f).length ∧ T.chain r = (T.chain f).drop k ∧ v = T.pt adr r ∧ T.Has (hpOf wr) adr false (PP adr u) r ∧ J k wr
  gi_loopw [3] (fun v wr => ∃ n, Hid (rel n v wr)) (fun v wr => leastOf (fun n => rel n v wr))
  case atStart => exact ⟨_, 0, f, rfl, Nat.zero_le _, by simp, HP.out.symm, HF.out, H0.out⟩
  case round =>
    have hspec := leastOf_spec (p := fun n => rel n u3 wr) hrel
    generalize hm : leastOf (fun n => rel n u3 wr) = m at hspec
    obtain ⟨k, r, hn, hk, hch, hv, hr, hj⟩ := hspec.1
    have HM := Lib.hid hm
    clear hspec hrel hm
    cases r with
    | nil =>
      have hkl : k = (T.chain f).length := by
        have := congrArg List.length hch
        simp only [T.chain, List.length_nil, List.length_drop] at this
        omega
      simp only [T.pt] at hv
      subst hv
      have HJ := Lib.hid hj
      clear hr hch hn hj
      gi_wp2
      go_end0
      rw [← hkl]
      exact ⟨⟨_, rfl⟩, .inl HJ.out⟩
    | node i x g n =>
      simp only [T.pt] at hv
      subst hv
      simp only [T.chain] at hch
      have hlt : k < (T.chain f).length := by
        have := congrArg List.length hch
        simp only [List.length_cons, List.length_drop] at this
        omega
      have hi : (T.chain f)[k] = i := by
        have := List.drop_eq_getElem_cons hlt
        rw [← hch] at this
        injection this with h1 _
        exact h1.symm
      obtain ⟨hbl, hg, hnx⟩ := hr
      obtain ⟨fn, tmps, assign, body, hy, hR⟩ := HY.out k hlt wr hj
      rw [hi] at hy
      have HN := Lib.hid hnx; have HB := Lib.hid hbl; have HCH := Lib.hid hch; have HNN := Lib.hid hn
      have HLT := Lib.hid hlt
      clear hnx hbl hg hch hn hi hj hlt HY
      gi_wp2
      refine (roundIn_any hR).mono ?_
      clear hR
      rintro e W3 (⟨rfl, hJ3, hk3⟩ | ⟨rfl, hJx3⟩)
      · have hb3 := hk3.cells _ _ _ _ HB.out hts
        obtain ⟨-, -, -, -, c4, -⟩ := cells_of hb3
        obtain ⟨np, hnp⟩ := nx_pointer adr false n
        rw [hnp] at c4
        have HJ3 := Lib.hid hJ3; have HK3 := Lib.hid hk3; have HNP := Lib.hid hnp
        clear hb3 hJ3 hk3 hnp
        gi_wp2
        go_roundw
        case rel =>
          exact ⟨_, k + 1, n, rfl, HLT.out, by rw [List.drop_eq_getElem_cons HLT.out] at HCH; exact (List.cons.inj HCH.out).2, HNP.out.symm, HN.out.kept HK3.out hts, HJ3.out⟩
        case measure =>
          show leastOf (fun n' => rel n' (.pointer np) W3) < leastOf (fun n => rel n _ wr)
          rw [HM.out, HNN.out]
          refine Nat.lt_of_le_of_lt ((leastOf_spec (p := fun n' => rel n' (.pointer np) W3) ⟨(T.chain f).length - (k + 1), k + 1, n, rfl, HLT.out, by rw [List.drop_eq_getElem_cons HLT.out] at HCH; exact (List.cons.inj HCH.out).2, HNP.out.symm, HN.out.kept HK3.out hts, HJ3.out⟩).2 _ ⟨k + 1, n, rfl, HLT.out, by rw [List.drop_eq_getElem_cons HLT.out] at HCH; exact (List.cons.inj HCH.out).2, HNP.out.symm, HN.out.kept HK3.out hts, HJ3.out⟩) ?_
          have := HLT.out
          omega
      · have HJ3 := Lib.hid hJx3
        clear hJx3
        gi_wp2
        refine bodyPost_ret (results_none rfl _ _ _) rfl ?_
        exact ⟨⟨_, rfl⟩, .inr ⟨k + 1, HJ3.out⟩⟩
end Go.Proofs.YtikcnbkoeglecaaDoor
namespace Go.Proofs.YtikcnbkoeglecaaDoor
open Go.RowKit Go.Shelf
set_option linter.unusedVariables false
attribute [local go_sem] Oper.semAt_some

namespace T
theorem prev_top (m : Int) (g : T) : ∀ (k : Nat) (pr : Option Int), (ids g).Nodup → (chain g)[k]? = some m → prevOf m pr g = some (if k = 0 then pr else (chain g)[k - 1]?) := by
  induction g with
  | nil => intro k pr _ h; simp [chain] at h
  | node i x f n ihf ihn =>
    intro k pr nd h
    simp only [ids, List.nodup_cons, List.nodup_append, List.mem_append, not_or] at nd
    obtain ⟨⟨n1, n2⟩, ndf, ndn, hdis⟩ := nd
    simp only [chain] at h ⊢
    cases k with
    | zero => simp at h; subst h; simp [prevOf]
    | succ k =>
      rw [List.getElem?_cons_succ] at h
      have hm := chain_sub n m (List.mem_of_getElem? h)
      have hne : ¬ i = m := fun e => n2 (by rw [e]; exact hm)
      rw [prevOf, if_neg hne, prevOf_not m none f (fun hh => hdis m hh m hm rfl), Option.none_or, ihn k (some i) ndn h]
      cases k with
      | zero => simp
      | succ k => simp
theorem prev_in (m u : Int) (y : ByteArray) (g : T) (t : T) : ∀ pr, (ids t).Nodup → get u t = some (y, g) → m ∈ chain g → prevOf m pr t = prevOf m none g := by
  induction t with
  | nil => intro _ _ h; simp [get] at h
  | node i x f n ihf ihn =>
    intro pr nd hg hm
    have hmm := (get_sub u _ _ _ hg).2 m (chain_sub g m hm)
    simp only [ids, List.nodup_cons, List.nodup_append, List.mem_append, not_or] at nd
    obtain ⟨⟨n1, n2⟩, ndf, ndn, hdis⟩ := nd
    simp only [get] at hg
    split at hg
    · simp only [Option.some.injEq, Prod.mk.injEq] at hg
      obtain ⟨rfl, rfl⟩ := hg
      have hmf := chain_sub f m hm
      rw [prevOf, if_neg (fun e => n1 (by rw [e]; exact hmf)), prevOf_not m (some i) n (fun hh => hdis m hmf m hh rfl), Option.or_none]
    · rw [Option.or_eq_some_iff] at hg
      rcases hg with hg | ⟨_, hg⟩
      · have hmf := (get_sub u _ _ _ hg).2 m (chain_sub g m hm)
        rw [prevOf, if_neg (fun e => n1 (by rw [e]; exact hmf)), prevOf_not m (some i) n (fun hh => hdis m hmf m hh rfl), Option.or_none, ihf none ndf hg hm]
      · have hmn := (get_sub u _ _ _ hg).2 m (chain_sub g m hm)
        rw [prevOf, if_neg (fun e => n2 (by rw [e]; exact hmn)), prevOf_not m none f (fun hh => hdis m hh m hmn rfl), Option.none_or, ihn _ ndn hg hm]
end T

theorem T.chain_nodup (t : T) (nd : (T.ids t).Nodup) : (T.chain t).Nodup := by
  induction t with
  | nil => exact List.nodup_nil
  | node i x f n ihf ihn =>
    simp only [T.ids, List.nodup_cons, List.nodup_append, List.mem_append, not_or] at nd
    simp only [T.chain, List.nodup_cons]
    exact ⟨fun h => nd.1.2 (T.chain_sub n i h), ihn nd.2.2.1⟩
theorem one_cell {W : World} {b : Nat} {v : Value} {ty : TypeId} (h : W.heap[b]? = some (.cells #[v] ty (0, 0))) : W.cell? ⟨b, 0, none⟩ = some v ∧ W.frozen? ⟨b, 0, none⟩ = false := ⟨by simp [World.cell?, h], by simp [World.frozen?, h]⟩
theorem one_set {W : World} {b : Nat} {v u : Value} {ty : TypeId} (h : W.heap[b]? = some (.cells #[v] ty (0, 0))) : (W.setCell ⟨b, 0, none⟩ u).heap[b]? = some (.cells #[u] ty (0, 0)) := by
  unfold World.setCell
  simp only [Array.getElem?_modify, h]; rfl
theorem Kept.setTurn {ts : List TypeId} {L : Nat → Prop} {W W' : World} (h : Kept ts L W W') {b : Nat} {cs : Array Value} {ty : TypeId} {m : Nat × Nat} (ho : W'.heap[b]? = some (.cells cs ty m)) (ht : ty ∈ ts) (i : Nat) (v : Value) : Kept ts L W (W'.setCell ⟨b, i, none⟩ v) := by
  have hs : ∀ x : World, (x.setCell ⟨b, i, none⟩ v).os = x.os ∧ (x.setCell ⟨b, i, none⟩ v).tape = x.tape ∧ (x.setCell ⟨b, i, none⟩ v).output = x.output := fun x => by unfold World.setCell; split <;> exact ⟨rfl, rfl, rfl⟩
  refine h.trans ⟨(hs _).1, (hs _).2.1, (hs _).2.2, Nat.le_of_eq (setsz _ _ _).symm, fun k cs' ty' m' hk ht' => (setx (fun e => ?_)).trans hk, fun k o hk hc _ => (setx (fun e => ?_)).trans hk⟩
  · subst e; rw [hk] at ho; injection ho with ho; injection ho with _ ho; exact ht' (ho ▸ ht)
  · subst e; rw [hk] at ho; injection ho with ho; rw [ho] at hc; cases hc
def prevAt (l : List Int) (k : Nat) : Option Int := if k = 0 then none else l[k - 1]?
set_option maxRecDepth 100000 in
theorem ahead_c (g : Nat) (adr : Int → Nat) (t : T) (id u : Int) (w : World) (hf : Frs w g adr t) (hi : id ∈ T.ids t) (hu : T.upOf id none t = some (some u)) :
    Calls Tryd.prog 111 #[PP adr id] w fun e w' => ∃ q, T.prevOf id none t = some q ∧ e = .returned (upv adr q) ∧ Ext w w' := by
  obtain ⟨x, f, n, top, q, hg, hn, hq, -, hb, hsub⟩ := hf.info id hi
  rw [hu] at hq; injection hq with hq; subst hq
  obtain ⟨y, fu, hgu⟩ := T.get_some u t (by
    rcases T.up_get t hf.nd id u none hu with ⟨_, h⟩ | ⟨y', g', h, _⟩
    · cases h
    · exact (T.get_sub _ _ _ _ h).1)
  have hch : id ∈ T.chain fu := by
    rcases T.up_get t hf.nd id u none hu with ⟨_, h⟩ | ⟨y', g', h, h2⟩
    · cases h
    · rw [hgu] at h; injection h with h; injection h with _ h; rw [h]; exact h2
  have hum := (T.get_sub _ _ _ _ hgu).1
  obtain ⟨xu, fu', nu, topu, qu, hgu', -, -, -, hbu, hsubu⟩ := hf.info u hum
  rw [hgu] at hgu'; injection hgu' with hgu'; injection hgu' with e1 e2; subst e1; subst e2
  obtain ⟨-, -, c2, -, -, -⟩ := cells_of hb
  simp only [upv] at c2
  have hpv := T.prev_in id u y fu t none hf.nd hgu hch
  rw [hpv]
  have hlt := blk_lt hb
  refine (callsIn_wide (n := 3)).1 ?_
  have HF := Lib.hid hf; have HC := Lib.hid hch; have HB := Lib.hid hb; have HBU := Lib.hid hbu; have HS := Lib.hid hsubu
  have HND : Hid (T.ids fu).Nodup := (T.get_nodup u y fu t hf.nd hgu).1
  clear hf hi hu hch hb hbu hsub hsubu hg hgu hpv hum
  refine callsIn_of_wp_marks Tryd.func111 rfl trivial ?_ rfl
  simp only [Tryd.ntmps111, List.size_toArray, List.length_cons, List.length_nil, Nat.reduceAdd, Nat.reduceSub, Array.replicate_succ, Array.replicate_zero, List.push_toArray, List.append_toArray, List.nil_append, List.cons_append]
  gi_wp2_with (refine ⟨trivial, ?_⟩; gi_at_call 114; refine (callsIn_wide.2 (kids_c _ _)).mono ?_; rintro e w1 ⟨rfl, rfl⟩)
  obtain ⟨W0, hW0⟩ : ∃ W0, (((w.alloc (.cells #[PP adr id] 132)).alloc (.cells #[.pointer none] 132)).alloc (.cells #[.pointer (some ⟨adr u, 0, none⟩)] 132)) = W0 := ⟨_, rfl⟩
  obtain ⟨p, hp⟩ : ∃ p, (T.chain fu)[p]? = some id := List.mem_iff_getElem?.1 HC.out
  have hpl : p < (T.chain fu).length := (List.getElem?_eq_some_iff.1 hp).1
  have hsz : W0.heap.size = w.heap.size + 3 := by rw [← hW0, alloc_sz, alloc_sz, alloc_sz]
  have hB0 : Ext w W0 := by rw [← hW0]; exact (((Below.refl _ _).alloc (Nat.le_refl _) _).alloc (by rw [alloc_sz]; omega) _).alloc (by rw [alloc_sz, alloc_sz]; omega) _
  have hx0 : W0.heap[w.heap.size]? = some (.cells #[PP adr id] 132 (0, 0)) ∧ W0.heap[w.heap.size + 1]? = some (.cells #[nilp] 132 (0, 0)) ∧ W0.heap[w.heap.size + 1 + 1]? = some (.cells #[PP adr u] 132 (0, 0)) := by
    rw [← hW0]
    have e1 : ∀ (a : Array Obj) (x y z : Obj), ((((a.push x).push y).push z)[a.size]?) = some x ∧ ((((a.push x).push y).push z)[a.size + 1]?) = some y ∧ ((((a.push x).push y).push z)[a.size + 1 + 1]?) = some z := by
      intro a x y z
      refine ⟨?_, ?_, ?_⟩
      · rw [Array.getElem?_push_lt (by simp; omega), Array.getElem_push_lt (by simp), Array.getElem_push_eq]
      · rw [Array.getElem?_push_lt (by simp)]
        simp [Array.getElem_push]
      · rw [show a.size + 1 + 1 = ((a.push x).push y).size by simp, Array.getElem?_push_size]
    exact e1 _ _ _ _
  obtain ⟨hx1, hx2, hx3⟩ := hx0
  rw [hW0]
  have hbu0 := (hB0.block _ (blk_lt HBU.out)).trans HBU.out
  have hs0 : T.Has (hpOf W0) adr false (PP adr u) fu := T.has_same fu _ _ (fun j hj => by
    obtain ⟨x1, x2, x3, x4, e⟩ := T.has_at fu _ _ HS.out j hj
    exact hB0.block _ (blk_lt e)) HS.out
  have hgat := HF.out
  refine' wp_rangeX True [132] (fun _ => False) (gf := 115) (lb := #[.pointer (some ⟨w.heap.size + 1 + 1, 0, none⟩)]) rfl (enters_of Tryd.func115 (by kernel_rfl) rfl)
    (kids1_s True [132] (by decide) adr (w.heap.size + 1 + 1) u _ _ _ fu W0 hbu0 hs0 hx3) (fun _ => rfl) (fun _ h => h.elim)
    (fun k W => k ≤ p ∧ W.heap[w.heap.size]? = some (.cells #[PP adr id] 132 (0, 0)) ∧ W.heap[w.heap.size + 1]? = some (.cells #[upv adr (prevAt (T.chain fu) k)] 132 (0, 0)) ∧ Ext w W)
    (fun c k W => c = .exit 0 ∧ W.heap[w.heap.size + 1]? = some (.cells #[upv adr (prevAt (T.chain fu) p)] 132 (0, 0)) ∧ Ext w W)
    (fun k W W' h s => ⟨h.1, (s.low _ (by omega)).trans h.2.1, (s.low _ (by omega)).trans h.2.2.1, SFrom.below (ts := [132]) (B := W0.heap.size) (by omega) k W W' h.2.2.2 s⟩)
    (fun c k W W' h s => ⟨h.1, (s.low _ (by omega)).trans h.2.1, SFrom.below (ts := [132]) (B := W0.heap.size) (by omega) k W W' h.2.2 s⟩)
    (fun _ _ _ _ => trivial) ⟨Nat.zero_le _, hx1, hx2, hB0⟩ _ ?assign ?body ?done ?stop
  case assign =>
    intro l x W K hK
    gi_wp2
    exact hK
  case body =>
    rintro l k hk W hl ⟨hkp, b1, b2, hB⟩
    have hcd : (T.chain fu).Nodup := T.chain_nodup fu HND.out
    have hkm : (T.chain fu)[k] ∈ T.chain fu := List.getElem_mem hk
    have hblk : ∀ j ∈ T.chain fu, ∃ c, W.heap[adr j]? = some (.cells c 138 (0, 0)) := fun j hj => by
      obtain ⟨x1, x2, x3, x4, e⟩ := T.has_at fu _ _ HS.out j (T.chain_sub fu j hj)
      exact ⟨_, (hB.block _ (blk_lt e)).trans e⟩
    obtain ⟨c1, f1⟩ := one_cell b1
    obtain ⟨ca, hca⟩ := hblk _ hkm
    obtain ⟨cb, hcb⟩ := hblk id HC.out
    obtain ⟨cc2, f2⟩ := one_cell b2
    have hk1 : (T.chain fu)[k]? = some (T.chain fu)[k] := List.getElem?_eq_getElem hk
    have hxl := blk_lt b2
    by_cases hkp' : k = p
    · have he : (T.chain fu)[k] = id := by subst hkp'; rw [hk1] at hp; exact Option.some.inj hp
      have B2 := Lib.hid b2; have BB := Lib.hid hB; have KP := Lib.hid hkp'
      rw [he]
      have q1 := eql_same ⟨adr id, 0, none⟩
      clear hca hcb hblk b1 b2 hB hkp' hp hk1 cc2 f2 he hbu0 hs0 hgat hx1 hx2 hx3 hW0 hcd hkm hkp
      gi_wp2
      exact ⟨Kept.refl _, rfl, by rw [← KP.out]; exact B2.out, BB.out⟩
    · have hne : (T.chain fu)[k] ≠ id := fun e => hkp' (by
        exact (List.getElem?_inj hk hcd).1 (hk1.trans ((congrArg some e).trans hp.symm)))
      have hadr : adr (T.chain fu)[k] ≠ adr id := fun e => by
        obtain ⟨x1, x2, x3, x4, e1⟩ := T.has_at fu _ _ HS.out _ (T.chain_sub fu _ hkm)
        exact T.adr_ne (h := hpOf w) HB.out e1 hne e
      have q1 := eql_other (W := W) (a := ⟨adr (T.chain fu)[k], 0, none⟩) (b := ⟨adr id, 0, none⟩) (fun e => hadr (by injection e)) hca hcb
      have B1 := Lib.hid b1; have B2 := Lib.hid b2; have BB := Lib.hid hB; have KP := Lib.hid hkp'
      clear hca hcb hblk b1 b2 hB hkp' hp hk1 hbu0 hs0 hgat hx1 hx2 hx3 hW0 hcd hkm hne hadr
      gi_wp2
      refine ⟨Kept.setTurn (Kept.refl _) B2.out (by simp) _ _, ?_, (setx (by omega)).trans B1.out, ?_, BB.out.setCell (by simp) _⟩
      · have := KP.out; omega
      · rw [one_set B2.out, prevAt, if_neg (by omega), Nat.add_sub_cancel, List.getElem?_eq_getElem hk]; rfl
  case done =>
    rintro D W hD ⟨hkp, -, -, -⟩ hK
    exact absurd hkp (by omega)
  case stop =>
    rintro D c k W hD ⟨rfl, b2, hB⟩ hK
    obtain ⟨cc2, f2⟩ := one_cell b2
    have BB := Lib.hid hB
    clear b2 hB hbu0 hs0 hgat hx1 hx2 hx3 hW0
    gi_wp2
    refine ⟨by simp, .inl ⟨_, _, rfl, run_takeDeferred hK, ?_⟩⟩
    refine ⟨_, results_tmp rfl _ _ _, _, T.prev_top id fu p none HND.out hp, rfl, ?_⟩
    exact BB.out.trans (belowK_b (w := w) (Nat.le_refl _) W D _ _ (by omega) hK rfl rfl)
end Go.Proofs.YtikcnbkoeglecaaDoor
namespace Go.Proofs.YtikcnbkoeglecaaDoor
open Go.RowKit Go.Shelf
set_option linter.unusedVariables false

namespace T
theorem prev_block {h : HP} {adr : Int → Nat} (m a : Int) (t : T) : ∀ (top : Bool) (up : Value) (p : Option Int), (top = true → m ∉ chain t) → (ids t).Nodup → p ≠ some a → prevOf m p t = some (some a) → Has h adr top up t →
    ∃ x1 x2 x3, h (adr a) = some (nodeO a x1 x2 x3 (PP adr m)) := by
  induction t with
  | nil => intro _ _ _ _ _ _ h; simp [prevOf] at h
  | node i x f n ihf ihn =>
    intro top up p htop nd hpa hp ht
    simp only [ids, List.nodup_cons, List.nodup_append, List.mem_append, not_or] at nd
    obtain ⟨⟨n1, n2⟩, ndf, ndn, hdis⟩ := nd
    obtain ⟨hb, hf, hn⟩ := ht
    simp only [prevOf] at hp
    split at hp
    · exact absurd (Option.some.inj hp) hpa
    · rw [Option.or_eq_some_iff] at hp
      rcases hp with hp | ⟨_, hp⟩
      · exact ihf false _ none (fun h => by cases h) ndf (by simp) hp hf
      · have htn : top = true → m ∉ chain n := fun h hh => htop h (by simp [chain, hh])
        cases n with
        | nil => simp [prevOf] at hp
        | node b c d e =>
          by_cases hbm : b = m
          · simp only [prevOf, if_pos hbm, Option.some.injEq] at hp
            subst hp
            have htf : top = false := by
              cases top with
              | false => rfl
              | true => exact absurd (by simp [chain, hbm]) (htop rfl)
            subst htf; subst hbm
            exact ⟨_, _, _, hb⟩
          · refine ihn top up (some i) htn ndn (fun hia => ?_) hp hn
            injection hia with hia
            subst hia
            simp only [prevOf, if_neg hbm] at hp
            rw [Option.or_eq_some_iff] at hp
            simp only [ids, List.mem_cons, List.mem_append, not_or] at n2
            rcases hp with hp | ⟨_, hp⟩
            · rcases prevOf_mem m i d none hp with h | h
              · exact n2.2.1 h
              · cases h
            · rcases prevOf_mem m i e (some b) hp with h | h
              · exact n2.2.2 h
              · injection h with h; exact n2.1 h.symm
end T

theorem Free.of_cut {w w' : World} {g : Nat} {adr : Int → Nat} {t : T} {id c : Int} {x : ByteArray} {f : T} (hf : Frs w g adr t) (hg : T.get id t = some (x, f)) (hc : c ∉ T.ids f) (hci : c ∈ T.ids t)
    (hsame : ∀ b, b ≠ adr c → b ≠ adr id → w'.heap[b]? = w.heap[b]?) (hid : w'.heap[adr id]? = some (nodeO id (.string x) nilp (T.pt adr f) nilp)) (hcut : T.Has (hpOf w') adr true nilp (T.cut id t)) : Free w' g adr (T.cut id t) id x f := by
  obtain ⟨hndc, hsub, hback, hfwd⟩ := T.cut_facts t hf.nd id x f hg
  obtain ⟨ndf, hmf⟩ := T.get_nodup id x f t hf.nd hg
  obtain ⟨hi, hfi⟩ := T.get_sub id t x f hg
  obtain ⟨x', f', n, top, q, hg', hn, hq, -, hb, hs⟩ := hf.info id hi
  rw [hg] at hg'; injection hg' with hg'; injection hg' with e1 e2; subst e1; subst e2
  obtain ⟨xc, fc, nc, topc, qc, -, -, -, -, hbc, -⟩ := hf.info c hci
  have hgne := hf.adr_ne hf.tab (by decide)
  refine ⟨hcut, ⟨nilp, nilp, hid⟩, T.has_other (h := hpOf w) f false _ hs hbc hb hsame hc hmf, ?_, ?_, ?_⟩
  · refine (hf.tab.of_block (hsame g (hgne c hci) (hgne id hi))).congr fun i _ => ?_
    unfold fst
    by_cases h : (i : Int) ∈ T.ids t
    · rw [if_pos h, if_pos]
      simp only [List.mem_cons, List.mem_append]
      by_cases h1 : (i : Int) = id
      · exact .inl h1
      · by_cases h2 : (i : Int) ∈ T.ids f
        · exact .inr (.inl h2)
        · exact .inr (.inr (hback _ h h1 h2))
    · rw [if_neg h, if_neg]
      intro hh
      simp only [List.mem_cons, List.mem_append] at hh
      rcases hh with hh | hh | hh
      · exact h (hh ▸ hi)
      · exact h (hfi _ hh)
      · exact h (hfwd _ hh).1
  · rw [List.nodup_cons, List.mem_append, List.nodup_append]
    exact ⟨fun hh => hh.elim hmf (fun h => (hfwd _ h).2.1 rfl), ndf, hndc, fun a ha b hb e => (hfwd b hb).2.2 (e ▸ ha)⟩
  · intro i hh
    refine hf.rng i ?_
    simp only [List.mem_cons, List.mem_append] at hh
    rcases hh with rfl | hh | hh
    · exact hi
    · exact hfi _ hh
    · exact (hfwd _ hh).1

set_option maxRecDepth 100000 in
theorem detach_c (B g : Nat) (adr : Int → Nat) (t : T) (id u : Int) (x : ByteArray) (f : T) (w : World) (hf : Frs w g adr t) (hg : T.get id t = some (x, f)) (hu : T.upOf id none t = some (some u)) (hlow : Low B g adr (T.ids t)) (hB : B ≤ w.heap.size) :
    Calls Tryd.prog 100 #[PP adr id] w fun e w' => e = .returned (.tuple #[]) ∧ Free w' g adr (T.cut id t) id x f ∧ Below B w w' := by
  obtain ⟨hi, hfi⟩ := T.get_sub id t x f hg
  have hA := Lib.hid (ahead_c g adr t id u w hf hi hu)
  obtain ⟨ndf, hmf⟩ := T.get_nodup id x f t hf.nd hg
  have hus := T.under_step t hf.nd id x f hg id u hu
  have huf : u ∉ T.ids f := fun h => hmf (hus.2 (.inr h))
  have hui : u ≠ id := fun h => hmf (hus.2 (.inl h))
  obtain ⟨x', f', n, top, q, hg', hn, hq, htop, hb, hs⟩ := hf.info id hi
  rw [hg] at hg'; injection hg' with hg'; injection hg' with e1 e2; subst e1; subst e2
  rw [hu] at hq; injection hq with hq; subst hq
  have htf : top = false := by
    cases top with
    | false => rfl
    | true => exact absurd (htop rfl) (chain_top hf.nd hu)
  subst htf
  obtain ⟨y, fu, hgu⟩ := T.get_some u t (by
    rcases T.up_get t hf.nd id u none hu with ⟨_, h⟩ | ⟨y', g', h, _⟩
    · cases h
    · exact (T.get_sub _ _ _ _ h).1)
  have hch : id ∈ T.chain fu := by
    rcases T.up_get t hf.nd id u none hu with ⟨_, h⟩ | ⟨y', g', h, h2⟩
    · cases h
    · rw [hgu] at h; injection h with h; injection h with _ h; rw [h]; exact h2
  have hum := (T.get_sub _ _ _ _ hgu).1
  have hpi : ∀ pr, T.prevOf id pr t = T.prevOf id none fu := fun pr => T.prev_in id u y fu t pr hf.nd hgu hch
  obtain ⟨np, hnp⟩ := nx_pointer adr false n
  have hndf := (T.get_nodup u y fu t hf.nd hgu).1
  have hidB := hlow.2 id hi
  have HG := Lib.hid hg; have HF0 := Lib.hid hf; have HPI := Lib.hid hpi; have HU := Lib.hid hu; have HCH := Lib.hid hch; have HGU := Lib.hid hgu; have HUF := Lib.hid huf; have HLOW := Lib.hid hlow; have HUM := Lib.hid hum; have HMF := Lib.hid hmf
  have HB := Lib.hid hb; have HNP := Lib.hid hnp; have HND := Lib.hid hndf; have HUI := Lib.hid hui
  clear hf hg hu hpi hch hgu huf hlow hum hmf hb hs htop hnp hn hfi hus hndf hui
  have hup0 : T.prevOf id (some 0) t = T.prevOf id none t := (HPI.out _).trans (HPI.out _).symm
  have HUP := Lib.hid hup0; clear hup0
  go_enter Tryd.func100, Tryd.ntmps100
  go_wp2_with fail
  refine hA.out.mono ?_
  clear hA
  rintro e w1 ⟨q, hq, rfl, hb1⟩
  have hf1 := HF0.out.ext hb1
  have hid1 : w1.heap[adr id]? = some (nodeO id (.string x) (PP adr u) (T.pt adr f) (.pointer np)) := by rw [← HNP.out]; exact (hb1.block _ (blk_lt HB.out)).trans HB.out
  obtain ⟨-, -, c2, -, c4, cf⟩ := cells_of hid1
  have hctop : id ∉ T.chain t := chain_top HF0.out.nd HU.out
  cases q with
  | some a =>
    have hpa : T.prevOf id none fu = some (some a) := (HPI.out none).symm.trans hq
    obtain ⟨p, hp⟩ : ∃ p, (T.chain fu)[p]? = some id := List.mem_iff_getElem?.1 HCH.out
    have hpr := T.prev_top id fu p none HND.out hp
    rw [hpa] at hpr
    have hp0 : ¬ p = 0 := fun e => by rw [if_pos e] at hpr; cases hpr
    rw [if_neg hp0] at hpr
    have hap : (T.chain fu)[p - 1]? = some a := (Option.some.inj hpr).symm
    have hac : a ∈ T.chain fu := List.mem_of_getElem? hap
    have hai : a ≠ id := fun e => by
      subst e
      have := (List.getElem?_inj (List.getElem?_eq_some_iff.1 hap).1 (T.chain_nodup fu HND.out)).1 (hap.trans hp.symm)
      omega
    have hau := T.up_chain t HF0.out.nd u y fu HGU.out a hac none
    have hat := T.up_mem t HF0.out.nd a u hau
    have haf : a ∉ T.ids f := fun h => by
      rcases (T.under_step t HF0.out.nd id x f HG.out a u hau).1 h with h | h
      · exact HUI.out h
      · exact HUF.out h
    obtain ⟨x1, x2, x3, ha1⟩ := T.prev_block (h := hpOf w1) id a t true nilp none (fun _ => hctop) HF0.out.nd (by simp) hq hf1.has
    have hadr : adr a ≠ adr id := T.adr_ne (h := hpOf w1) hid1 ha1 hai
    have hadr' : adr id ≠ adr a := fun e => hadr e.symm
    obtain ⟨-, -, -, -, d4, df⟩ := cells_of ha1
    have hq' := Lib.hid hq; have HF1 := Lib.hid hf1; have HI1 := Lib.hid hid1; have HA1 := Lib.hid ha1; have HAF := Lib.hid haf; have HAT := Lib.hid hat; have HAD := Lib.hid hadr; have HAD' := Lib.hid hadr'; have HB1 := Lib.hid hb1; have HCT := Lib.hid hctop
    clear hq hf1 hid1 ha1 haf hat hap hp hpr hpa hac hau hb1 hctop
    simp only [upv]
    go_wp2
    go_end0
    have hsame : ∀ b, b ≠ adr a → b ≠ adr id → (((w1.setCell ⟨adr a, 4, none⟩ (.pointer np)).setCell ⟨adr id, 2, none⟩ nilp).setCell ⟨adr id, 4, none⟩ nilp).heap[b]? = w1.heap[b]? := fun b h1 h2 => (setx h2).trans ((setx h2).trans (setx h1))
    refine ⟨rfl, Free.of_cut HF1.out HG.out HAF.out HAT.out hsame (set4 (set2 ((setx HAD'.out).trans HI1.out))) ?_, ?_⟩
    · exact T.has_cutN (h := hpOf w1) (adr := adr) hsame HI1.out HA1.out ((setx HAD.out).trans ((setx HAD.out).trans (set4 HA1.out))) t true nilp none (fun _ => HCT.out) HF0.out.nd (by simp) hq'.out HF1.out.has
    · exact (((HB1.out.mono hB).setCell (HLOW.out.2 a HAT.out) _).setCell hidB _).setCell hidB _
  | none =>
    have hpa : T.prevOf id none fu = some none := (HPI.out none).symm.trans hq
    obtain ⟨p, hp⟩ : ∃ p, (T.chain fu)[p]? = some id := List.mem_iff_getElem?.1 HCH.out
    have hpr := T.prev_top id fu p none HND.out hp
    rw [hpa] at hpr
    have hp0 : p = 0 := by
      by_cases e : p = 0
      · exact e
      · rw [if_neg e, List.getElem?_eq_getElem (by have := (List.getElem?_eq_some_iff.1 hp).1; omega)] at hpr
        cases hpr
    subst hp0
    have hfu : T.pt adr fu = PP adr id := by
      cases fu with
      | nil => simp [T.chain] at hp
      | node j b c d =>
        simp only [T.chain, List.getElem?_cons_zero, Option.some.injEq] at hp
        rw [hp]; rfl
    obtain ⟨yu, fu', nu, topu, qu, hgu', -, -, -, hbu, -⟩ := hf1.info u HUM.out
    rw [HGU.out] at hgu'; injection hgu' with hgu'; injection hgu' with e1 e2; subst e1; subst e2
    rw [hfu] at hbu
    have hadr : adr u ≠ adr id := T.adr_ne (h := hpOf w1) hid1 hbu HUI.out
    have hadr' : adr id ≠ adr u := fun e => hadr e.symm
    obtain ⟨-, -, -, d3, -, df⟩ := cells_of hbu
    have hq' := Lib.hid hq; have HF1 := Lib.hid hf1; have HI1 := Lib.hid hid1; have HA1 := Lib.hid hbu; have HAD := Lib.hid hadr; have HAD' := Lib.hid hadr'; have HB1 := Lib.hid hb1; have HCT := Lib.hid hctop
    clear hq hf1 hid1 hbu hp hpr hpa hb1 hctop hfu
    simp only [upv]
    go_wp2
    go_region
    go_wp2
    go_end0
    have hsame : ∀ b, b ≠ adr u → b ≠ adr id → ((((w1.setCell ⟨adr u, 3, none⟩ (.pointer np)).setCell ⟨adr id, 2, none⟩ nilp).setCell ⟨adr id, 4, none⟩ nilp).drew).heap[b]? = w1.heap[b]? := fun b h1 h2 => (setx h2).trans ((setx h2).trans (setx h1))
    refine ⟨rfl, Free.of_cut HF1.out HG.out HUF.out HUM.out hsame (set4 (set2 ((setx HAD'.out).trans HI1.out))) ?_, ?_⟩
    · exact T.has_cutF (h := hpOf w1) (adr := adr) hsame HI1.out HA1.out ((setx HAD.out).trans ((setx HAD.out).trans (set3 HA1.out))) t true nilp (some 0) none HF0.out.nd (by simp) (HUP.out.trans hq'.out) HU.out HF1.out.has
    · exact ((((HB1.out.mono hB).setCell (HLOW.out.2 u HUM.out) _).setCell hidB _).setCell hidB _).trans (Ext.drewN (Below.refl _ _) 1)
end Go.Proofs.YtikcnbkoeglecaaDoor
namespace Go.Proofs.YtikcnbkoeglecaaDoor
open Go.RowKit Go.Shelf
set_option linter.unusedVariables false

@[local go_sem] theorem as_make_make (v : Value) (W : World) : (Instr.typeAssert (.iface 126 v) 96 126 true).run Tryd.prog W = .ok (.tuple #[v, .bool true]) W := by kernel_rfl
@[local go_sem] theorem as_make_text (v : Value) (W : World) : (Instr.typeAssert (.iface 126 v) 96 129 true).run Tryd.prog W = .ok (.tuple #[.agg #[.int .i64 0, .string ⟨#[]⟩], .bool false]) W := by kernel_rfl
@[local go_sem] theorem as_make_move (v : Value) (W : World) : (Instr.typeAssert (.iface 126 v) 96 131 true).run Tryd.prog W = .ok (.tuple #[.agg #[.int .i64 0, .int .i64 0, .int .i64 0], .bool false]) W := by kernel_rfl
@[local go_sem] theorem as_text_make (v : Value) (W : World) : (Instr.typeAssert (.iface 129 v) 96 126 true).run Tryd.prog W = .ok (.tuple #[.agg #[.int .i64 0, .int .i64 0, .int .i64 0, .string ⟨#[]⟩], .bool false]) W := by kernel_rfl
@[local go_sem] theorem as_text_text (v : Value) (W : World) : (Instr.typeAssert (.iface 129 v) 96 129 true).run Tryd.prog W = .ok (.tuple #[v, .bool true]) W := by kernel_rfl
@[local go_sem] theorem as_text_move (v : Value) (W : World) : (Instr.typeAssert (.iface 129 v) 96 131 true).run Tryd.prog W = .ok (.tuple #[.agg #[.int .i64 0, .int .i64 0, .int .i64 0], .bool false]) W := by kernel_rfl
@[local go_sem] theorem as_move_make (v : Value) (W : World) : (Instr.typeAssert (.iface 131 v) 96 126 true).run Tryd.prog W = .ok (.tuple #[.agg #[.int .i64 0, .int .i64 0, .int .i64 0, .string ⟨#[]⟩], .bool false]) W := by kernel_rfl
@[local go_sem] theorem as_move_text (v : Value) (W : World) : (Instr.typeAssert (.iface 131 v) 96 129 true).run Tryd.prog W = .ok (.tuple #[.agg #[.int .i64 0, .string ⟨#[]⟩], .bool false]) W := by kernel_rfl
@[local go_sem] theorem as_move_move (v : Value) (W : World) : (Instr.typeAssert (.iface 131 v) 96 131 true).run Tryd.prog W = .ok (.tuple #[v, .bool true]) W := by kernel_rfl

theorem within_nil (a : Option Addr) (w : World) : Calls Tryd.prog 110 #[nilp, .pointer a] w fun e w' => e = .returned (.bool false) ∧ w' = w := by
  go_enter Tryd.func110, Tryd.ntmps110
  go_wp2
  go_loopg [0] 1 (fun gk v wr => wr = w ∧ v = nilp)
  case atStart => exact ⟨rfl, rfl⟩
  case round =>
    obtain ⟨rfl, rfl⟩ := hrel
    go_wp2
    go_ret
    exact ⟨rfl, rfl⟩

set_option maxRecDepth 100000 in
theorem where_make (g : Nat) (adr : Int → Nat) (t : T) (id up pos : Int) (tx : ByteArray) (w : World) (hf : Frs w g adr t) (h3 : 3 ∈ T.ids t) (hi : id ∉ T.ids t) :
    Calls Tryd.prog 99 #[.pointer (some ⟨g, 0, none⟩), .iface 126 (.agg #[.int .i64 id, .int .i64 up, .int .i64 pos, .string tx])] w fun e w' => e = .returned (.tuple #[PP adr (T.near t id up pos).1, posv adr (T.near t id up pos).2, .bool true]) ∧ Ext w w' := by
  have hX : ∀ w', Ext w w' → Frs w' g adr t := fun w' h => hf.ext h
  have HX := Lib.hid hX; have H3 := Lib.hid h3; have HI := Lib.hid hi
  clear hf h3 hi hX
  go_enter Tryd.func99, Tryd.ntmps99
  go_wp2_with fail
  have hf1 := HX.out _ ((Below.refl _ w).alloc (Nat.le_refl _) (.cells #[.int .i64 id, .int .i64 up, .int .i64 pos, .string tx] 126))
  refine (find_no g adr t id _ hf1 HI.out).mono ?_
  rintro e w1 ⟨rfl, rfl⟩
  have hn := Lib.hid (near_c g adr t id up pos _ hf1 H3.out)
  clear hf1
  go_wp2_with fail
  refine hn.out.mono ?_
  rintro e w1 ⟨rfl, rfl⟩
  go_wp2_with fail
  go_ret3
  exact ⟨rfl, (Below.refl _ w).alloc (Nat.le_refl _) _⟩
set_option maxRecDepth 100000 in
theorem where_made (g : Nat) (adr : Int → Nat) (t : T) (id up pos : Int) (tx : ByteArray) (w : World) (hf : Frs w g adr t) (hi : id ∈ T.ids t) :
    Calls Tryd.prog 99 #[.pointer (some ⟨g, 0, none⟩), .iface 126 (.agg #[.int .i64 id, .int .i64 up, .int .i64 pos, .string tx])] w fun e w' => e = .returned (.tuple #[nilp, nilp, .bool false]) ∧ Ext w w' := by
  have hf1 := find_yes g adr t id _ (hf.ext ((Below.refl _ w).alloc (Nat.le_refl _) (.cells #[.int .i64 id, .int .i64 up, .int .i64 pos, .string tx] 126))) hi
  have HF := Lib.hid hf1
  clear hf hi hf1
  go_enter Tryd.func99, Tryd.ntmps99
  go_wp2_with fail
  refine HF.out.mono ?_
  rintro e w1 ⟨rfl, rfl⟩
  go_wp2_with fail
  go_ret3
  exact ⟨rfl, (Below.refl _ w).alloc (Nat.le_refl _) _⟩
set_option maxRecDepth 100000 in
theorem where_gone (g : Nat) (adr : Int → Nat) (t : T) (id up pos : Int) (w : World) (hf : Frs w g adr t) (hi : id ∉ T.ids t) :
    Calls Tryd.prog 99 #[.pointer (some ⟨g, 0, none⟩), .iface 131 (.agg #[.int .i64 id, .int .i64 up, .int .i64 pos])] w fun e w' => e = .returned (.tuple #[nilp, nilp, .bool false]) ∧ Ext w w' := by
  have hf1 := find_no g adr t id _ (hf.ext ((Below.refl _ w).alloc (Nat.le_refl _) (.cells #[.int .i64 id, .int .i64 up, .int .i64 pos] 131))) hi
  have HF := Lib.hid hf1
  clear hf hi hf1
  go_enter Tryd.func99, Tryd.ntmps99
  go_wp2_with fail
  refine HF.out.mono ?_
  rintro e w1 ⟨rfl, rfl⟩
  go_wp2_with fail
  go_ret3
  exact ⟨rfl, (Below.refl _ w).alloc (Nat.le_refl _) _⟩
set_option maxRecDepth 100000 in
theorem where_move (g : Nat) (adr : Int → Nat) (t : T) (id up pos : Int) (x : ByteArray) (f : T) (w : World) (hf : Frs w g adr t) (h3 : 3 ∈ T.ids t) (hg : T.get id t = some (x, f)) :
    Calls Tryd.prog 99 #[.pointer (some ⟨g, 0, none⟩), .iface 131 (.agg #[.int .i64 id, .int .i64 up, .int .i64 pos])] w fun e w' =>
      e = .returned (if up = id ∨ up ∈ T.ids f then .tuple #[nilp, nilp, .bool false] else .tuple #[PP adr (T.near t id up pos).1, posv adr (T.near t id up pos).2, .bool true]) ∧ Ext w w' := by
  obtain ⟨hi, hfi⟩ := T.get_sub id t x f hg
  have hf0 := hf.ext ((Below.refl _ w).alloc (Nat.le_refl _) (.cells #[.int .i64 id, .int .i64 up, .int .i64 pos] 131))
  have HF := Lib.hid (find_yes g adr t id _ hf0 hi)
  by_cases hu : up ∈ T.ids t
  · have HU := Lib.hid (find_yes g adr t up _ hf0 hu)
    have hW := within_c g adr t up id x f _ hf0 hu hg
    by_cases hq : up = id ∨ up ∈ T.ids f
    · rw [if_pos hq]
      rw [(T.inB_iff up id f).2 hq] at hW
      have HW := Lib.hid hW
      clear hf hi hW hq hu hf0 hg hfi h3
      go_enter Tryd.func99, Tryd.ntmps99
      go_wp2_with fail
      refine HF.out.mono ?_; rintro e w1 ⟨rfl, rfl⟩
      go_wp2_with fail
      refine HU.out.mono ?_; rintro e w1 ⟨rfl, rfl⟩
      go_wp2_with fail
      refine HW.out.mono ?_; rintro e w1 ⟨rfl, rfl⟩
      go_wp2_with fail
      go_ret3
      exact ⟨rfl, (Below.refl _ w).alloc (Nat.le_refl _) _⟩
    · rw [if_neg hq]
      have hb : T.inB up id f = false := by rw [Bool.eq_false_iff]; exact fun h => hq ((T.inB_iff up id f).1 h)
      rw [hb] at hW
      have HW := Lib.hid hW
      have HN := Lib.hid (near_c g adr t id up pos _ hf0 h3)
      clear hf hi hW hq hu hf0 hg hfi h3 hb
      go_enter Tryd.func99, Tryd.ntmps99
      go_wp2_with fail
      refine HF.out.mono ?_; rintro e w1 ⟨rfl, rfl⟩
      go_wp2_with fail
      refine HU.out.mono ?_; rintro e w1 ⟨rfl, rfl⟩
      go_wp2_with fail
      refine HW.out.mono ?_; rintro e w1 ⟨rfl, rfl⟩
      go_wp2_with fail
      refine HN.out.mono ?_; rintro e w1 ⟨rfl, rfl⟩
      go_wp2_with fail
      go_ret3
      exact ⟨rfl, (Below.refl _ w).alloc (Nat.le_refl _) _⟩
  · have HU := Lib.hid (find_no g adr t up _ hf0 hu)
    have HW := Lib.hid (within_nil (some ⟨adr id, 0, none⟩))
    have HN := Lib.hid (near_c g adr t id up pos _ hf0 h3)
    have hq : ¬ (up = id ∨ up ∈ T.ids f) := fun h => hu (h.elim (fun e => by rw [e]; exact hi) (hfi up))
    rw [if_neg hq]
    clear hf hi hq hu hf0 hg hfi h3
    go_enter Tryd.func99, Tryd.ntmps99
    go_wp2_with fail
    refine HF.out.mono ?_; rintro e w1 ⟨rfl, rfl⟩
    go_wp2_with fail
    refine HU.out.mono ?_; rintro e w1 ⟨rfl, rfl⟩
    go_wp2_with fail
    refine (HW.out _).mono ?_; rintro e w1 ⟨rfl, rfl⟩
    go_wp2_with fail
    refine HN.out.mono ?_; rintro e w1 ⟨rfl, rfl⟩
    go_wp2_with fail
    go_ret3
    exact ⟨rfl, (Below.refl _ w).alloc (Nat.le_refl _) _⟩
end Go.Proofs.YtikcnbkoeglecaaDoor
namespace Go.Proofs.YtikcnbkoeglecaaDoor
open Go.RowKit Go.Shelf
set_option linter.unusedVariables false

@[local go_sem] theorem at_make_make (v : Value) (W : World) : (Instr.typeAssert (.iface 126 v) 96 126 true).run Tryd.prog W = .ok (.tuple #[v, .bool true]) W := by kernel_rfl
@[local go_sem] theorem at_make_text (v : Value) (W : World) : (Instr.typeAssert (.iface 126 v) 96 129 true).run Tryd.prog W = .ok (.tuple #[.agg #[.int .i64 0, .string ⟨#[]⟩], .bool false]) W := by kernel_rfl
@[local go_sem] theorem at_make_move (v : Value) (W : World) : (Instr.typeAssert (.iface 126 v) 96 131 true).run Tryd.prog W = .ok (.tuple #[.agg #[.int .i64 0, .int .i64 0, .int .i64 0], .bool false]) W := by kernel_rfl
@[local go_sem] theorem at_text_make (v : Value) (W : World) : (Instr.typeAssert (.iface 129 v) 96 126 true).run Tryd.prog W = .ok (.tuple #[.agg #[.int .i64 0, .int .i64 0, .int .i64 0, .string ⟨#[]⟩], .bool false]) W := by kernel_rfl
@[local go_sem] theorem at_text_text (v : Value) (W : World) : (Instr.typeAssert (.iface 129 v) 96 129 true).run Tryd.prog W = .ok (.tuple #[v, .bool true]) W := by kernel_rfl
@[local go_sem] theorem at_text_move (v : Value) (W : World) : (Instr.typeAssert (.iface 129 v) 96 131 true).run Tryd.prog W = .ok (.tuple #[.agg #[.int .i64 0, .int .i64 0, .int .i64 0], .bool false]) W := by kernel_rfl
@[local go_sem] theorem at_move_make (v : Value) (W : World) : (Instr.typeAssert (.iface 131 v) 96 126 true).run Tryd.prog W = .ok (.tuple #[.agg #[.int .i64 0, .int .i64 0, .int .i64 0, .string ⟨#[]⟩], .bool false]) W := by kernel_rfl
@[local go_sem] theorem at_move_text (v : Value) (W : World) : (Instr.typeAssert (.iface 131 v) 96 129 true).run Tryd.prog W = .ok (.tuple #[.agg #[.int .i64 0, .string ⟨#[]⟩], .bool false]) W := by kernel_rfl
@[local go_sem] theorem at_move_move (v : Value) (W : World) : (Instr.typeAssert (.iface 131 v) 96 131 true).run Tryd.prog W = .ok (.tuple #[v, .bool true]) W := by kernel_rfl

theorem T.up_cut (m a : Int) (t : T) : ∀ q, (T.ids t).Nodup → a ∈ T.ids (T.cut m t) → T.upOf a q (T.cut m t) = T.upOf a q t := by
  have sub : ∀ s : T, ∀ b ∈ T.ids (T.cut m s), b ∈ T.ids s := by
    intro s
    induction s with
    | nil => simp [T.cut]
    | node i x f n ihf ihn =>
      intro b hb
      simp only [T.cut] at hb
      split at hb
      · simp [T.ids, hb]
      · simp only [T.ids, List.mem_cons, List.mem_append] at hb ⊢
        rcases hb with h | h | h
        · exact .inl h
        · exact .inr (.inl (ihf b h))
        · exact .inr (.inr (ihn b h))
  induction t with
  | nil => intro q _ h; simp [T.cut, T.ids] at h
  | node i x f n ihf ihn =>
    intro q nd ha
    simp only [T.ids, List.nodup_cons, List.nodup_append, List.mem_append, not_or] at nd
    obtain ⟨⟨n1, n2⟩, ndf, ndn, hdis⟩ := nd
    simp only [T.cut] at ha ⊢
    split
    · rename_i e
      rw [if_pos e] at ha
      conv => rhs; rw [T.upOf]
      rw [if_neg (fun e => n2 (by rw [e]; exact ha)), T.upOf_not a _ f (fun hh => hdis a hh a ha rfl), Option.none_or]
    · rename_i e
      rw [if_neg e] at ha
      simp only [T.ids, List.mem_cons, List.mem_append] at ha
      simp only [T.upOf]
      by_cases hia : i = a
      · rw [if_pos hia, if_pos hia]
      · rw [if_neg hia, if_neg hia]
        rcases ha with h | h | h
        · exact absurd h.symm hia
        · rw [ihf _ ndf h]
          have haf := sub f a h
          rw [T.upOf_not a q n (fun hh => hdis a haf a hh rfl), T.upOf_not a q (T.cut m n) (fun hh => hdis a haf a (sub n a hh) rfl)]
        · have han := sub n a h
          rw [T.upOf_not a _ f (fun hh => hdis a hh a han rfl), T.upOf_not a _ (T.cut m f) (fun hh => hdis a (sub f a hh) a han rfl), ihn _ ndn h]

set_option maxRecDepth 100000 in
theorem apply_text (B g : Nat) (adr : Int → Nat) (t : T) (id : Int) (tx : ByteArray) (w : World) (hf : Frs w g adr t) (hlow : Low B g adr (T.ids t)) (hB : B ≤ w.heap.size) :
    Calls Tryd.prog 69 #[.pointer (some ⟨g, 0, none⟩), .iface 129 (.agg #[.int .i64 id, .string tx])] w fun e w' => e = .returned (.tuple #[]) ∧ Frs w' g adr (T.setT id tx t) ∧ Below B w w' := by
  have hsz := alloc_sz w (.cells #[.int .i64 id, .string tx] 129)
  have hf0 := hf.ext ((Below.refl _ w).alloc (Nat.le_refl _) (.cells #[.int .i64 id, .string tx] 129))
  have hB0 : Below B w (w.alloc (.cells #[.int .i64 id, .string tx] 129)) := (Below.refl _ w).alloc hB _
  by_cases hi : id ∈ T.ids t
  · have HF := Lib.hid (find_yes g adr t id _ hf0 hi)
    obtain ⟨x, f, n, top, q, hg, hn, hq, htop, hb, hs⟩ := hf0.info id hi
    have hb0 := (hf.info id hi)
    obtain ⟨x0, f0, n0, top0, q0, -, -, -, -, hb0, -⟩ := hb0
    obtain ⟨-, d1, -, -, -, df⟩ := cells_of hb0
    have hlt := blk_lt hb0
    have H0 := Lib.hid hf0; have HB := Lib.hid hb; have HB0 := Lib.hid hB0; have HL := Lib.hid (hlow.2 id hi); have HI := Lib.hid hi
    clear hf hlow hi hg hn hq htop hs hb hf0 hB0 hsz hb0
    go_enter Tryd.func69, Tryd.ntmps69
    go_wp2_with fail
    refine HF.out.mono ?_; rintro e w1 ⟨rfl, rfl⟩
    go_wp2_with fail
    go_end0
    refine ⟨rfl, ?_⟩
    have hgn := H0.out.adr_ne H0.out.tab (by decide) id HI.out
    have h1 : ∀ W : World, W = ((w.alloc (.cells #[.int .i64 id, .string tx] 129)).setCell ⟨adr id, 1, none⟩ (.string tx)) → Frs W g adr (T.setT id tx t) ∧ Below B w W := by
      rintro W rfl
      refine ⟨⟨T.has_setT (h := hpOf _) (adr := adr) (fun b hb => setx hb) HB.out (set1 HB.out) t true nilp H0.out.nd H0.out.has, ?_, by rw [T.setT_ids]; exact H0.out.nd, fun i hi => H0.out.rng i (by rwa [T.setT_ids] at hi)⟩, HB0.out.setCell HL.out _⟩
      refine (H0.out.tab.of_block (setx hgn)).congr fun i _ => ?_
      unfold fst; rw [T.setT_ids]
    exact h1 _ (by rw [World.setCell_alloc_past _ _ _ _ hlt])
  · have HF := Lib.hid (find_no g adr t id _ hf0 hi)
    rw [T.setT_not id tx t hi]
    have H0 := Lib.hid hf0; have HB0 := Lib.hid hB0
    clear hf hlow hi hf0 hB0 hsz
    go_enter Tryd.func69, Tryd.ntmps69
    go_wp2_with fail
    refine HF.out.mono ?_; rintro e w1 ⟨rfl, rfl⟩
    go_wp2_with fail
    go_end0
    exact ⟨rfl, H0.out, HB0.out⟩
end Go.Proofs.YtikcnbkoeglecaaDoor
