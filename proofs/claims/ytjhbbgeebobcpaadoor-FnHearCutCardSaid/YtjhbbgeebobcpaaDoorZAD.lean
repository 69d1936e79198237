/- A row is taken from its place. .. The ring's entries, as a list. -/
import Derived.Test.YtjhbbgeebobcpaaDoorZAC
import Derived.RegionTactic
import Derived.Lib.SliceRun
import Derived.Lib.Walk
import Derived.Test.YtjhbbgeebobcpaaDoorZAA
import Derived.Deep.RegionHeld3
import Derived.Deep.LoopGhost
import Derived.Laws.StructEq
import Derived.RangeFuncBox
namespace Go.Proofs.YtjhbbgeebobcpaaDoor
open Go.RowKit Go.Shelf
set_option linter.unusedVariables false
namespace T
theorem prev_block {h : HP} {adr : Int → Nat} (m a : Int) (t : T) : ∀ (top : Bool) (up : Value) (p : Option Int), (top = true → m ∉ chain t) → (ids t).Nodup → p ≠ some a → prevOf m p t = some (some a) → Has h adr top up t →
  ∃ x1 x2 x3, h (adr a) = some (nodeO a x1 x2 x3 (PP adr m)) := by
 induction t with
 |nil => intro _ _ _ _ _ _ h; simp [prevOf] at h
 |node i x f n ihf ihn =>
  intro top up p htop nd hpa hp ht
  simp only [ids, List.nodup_cons, List.nodup_append, List.mem_append, not_or] at nd
  obtain ⟨⟨n1, n2⟩, ndf, ndn, hdis⟩ := nd
  obtain ⟨hb, hf, hn⟩ := ht
  simp only [prevOf] at hp
  split at hp
  ·exact absurd (Option.some.inj hp) hpa
  ·rw [Option.or_eq_some_iff] at hp
   rcases hp with hp | ⟨_, hp⟩
   ·exact ihf false _ none (fun h => by cases h) ndf (by simp) hp hf
   ·have htn : top = true → m ∉ chain n := fun h hh => htop h (by simp [chain, hh])
    cases n with
    |nil => simp [prevOf] at hp
    |node b c d e =>
     by_cases hbm : b = m
     ·simp only [prevOf, if_pos hbm, Option.some.injEq] at hp
      subst hp
      have htf : top = false := by
       cases top with
       |false => rfl
       |true => exact absurd (by simp [chain, hbm]) (htop rfl)
      subst htf; subst hbm
      exact ⟨_, _, _, hb⟩
     ·refine ihn top up (some i) htn ndn (fun hia => ?_) hp hn
      injection hia with hia
      subst hia
      simp only [prevOf, if_neg hbm] at hp
      rw [Option.or_eq_some_iff] at hp
      simp only [ids, List.mem_cons, List.mem_append, not_or] at n2
      rcases hp with hp | ⟨_, hp⟩
      ·rcases prevOf_mem m i d none hp with h | h
       ·exact n2.2.1 h
       ·cases h
      ·rcases prevOf_mem m i e (some b) hp with h | h
       ·exact n2.2.2 h
       ·injection h with h; exact n2.1 h.symm
end T
theorem Free.of_cut {w w' : World} {g : Nat} {adr : Int → Nat} {t : T} {id c : Int} {x : ByteArray} {f : T} (hf : Frs w g adr t) (hg : T.get id t = some (x, f)) (hc : c ∉ T.ids f) (hci : c ∈ T.ids t)
  (hsame : ∀ b, b ≠ adr c → b ≠ adr id → w'.heap[b]? = w.heap[b]?) (hid : w'.heap[adr id]? = some (nodeO id (.string x) nilp (T.pt adr f) nilp)) (hcut : T.Has (hpOf w') adr true nilp (T.cut id t)) : Free w' g adr (T.cut id t) id x f := by
 obtain ⟨hndc, hsub, hback, hfwd⟩ := T.cut_facts t hf.nd id x f hg
 obtain ⟨ndf, hmf⟩ := T.get_nodup id x f t hf.nd hg
 obtain ⟨hi, hfi⟩ := T.get_sub id t x f hg
 obtain ⟨x', f', n, top, q, hg', hn, hq, -, hb, hs⟩ := hf.info id hi
 rw [hg] at hg'; injection hg' with hg'; injection hg' with e1 e2; subst e1; subst e2
 obtain ⟨xc, fc, nc, topc, qc, -, -, -, -, hbc, -⟩ := hf.info c hci
 have hgne := hf.adr_ne hf.tab (by decide)
 refine ⟨hcut, ⟨nilp, nilp, hid⟩, T.has_other (h := hpOf w) f false _ hs hbc hb hsame hc hmf, ?_, ?_, ?_⟩
 ·refine (hf.tab.of_block (hsame g (hgne c hci) (hgne id hi))).congr fun i _ => ?_
  unfold fst
  by_cases h : (i : Int) ∈ T.ids t
  ·rw [if_pos h, if_pos]
   simp only [List.mem_cons, List.mem_append]
   by_cases h1 : (i : Int) = id
   ·exact .inl h1
   ·by_cases h2 : (i : Int) ∈ T.ids f
    ·exact .inr (.inl h2)
    ·exact .inr (.inr (hback _ h h1 h2))
  ·rw [if_neg h, if_neg]
   intro hh
   simp only [List.mem_cons, List.mem_append] at hh
   rcases hh with hh | hh | hh
   ·exact h (hh ▸ hi)
   ·exact h (hfi _ hh)
   ·exact h (hfwd _ hh).1
 ·rw [List.nodup_cons, List.mem_append, List.nodup_append]
  exact ⟨fun hh => hh.elim hmf (fun h => (hfwd _ h).2.1 rfl), ndf, hndc, fun a ha b hb e => (hfwd b hb).2.2 (e ▸ ha)⟩
 ·intro i hh
  refine hf.rng i ?_
  simp only [List.mem_cons, List.mem_append] at hh
  rcases hh with rfl | hh | hh
  ·exact hi
  ·exact hfi _ hh
  ·exact (hfwd _ hh).1
set_option maxRecDepth 100000 in
theorem detach_c (B g : Nat) (adr : Int → Nat) (t : T) (id u : Int) (x : ByteArray) (f : T) (w : World) (hf : Frs w g adr t) (hg : T.get id t = some (x, f)) (hu : T.upOf id none t = some (some u)) (hlow : Low B g adr (T.ids t)) (hB : B ≤ w.heap.size) :
  Calls Tryd.prog 85 #[PP adr id] w fun e w' => e = .returned (.tuple #[]) ∧ Free w' g adr (T.cut id t) id x f ∧ Below B w w' := by
 obtain ⟨hi, hfi⟩ := T.get_sub id t x f hg
 have hA := Lib.hid (ahead_c g adr t id u w hf hi hu)
 obtain ⟨ndf, hmf⟩ := T.get_nodup id x f t hf.nd hg
 have hus := T.under_step t hf.nd id x f hg id u hu
 have huf : u ∉ T.ids f := fun h => hmf (hus.2 (.inr h))
 have hui : u ≠ id := fun h => hmf (hus.2 (.inl h))
 obtain ⟨x', f', n, top, q, hg', hn, hq, htop, hb, hs⟩ := hf.info id hi
 rw [hg] at hg'; injection hg' with hg'; injection hg' with e1 e2; subst e1; subst e2
 rw [hu] at hq; injection hq with hq; subst hq
 have htf : top = false := by
  cases top with
  |false => rfl
  |true => exact absurd (htop rfl) (chain_top hf.nd hu)
 subst htf
 obtain ⟨y, fu, hgu⟩ := T.get_some u t (by
  rcases T.up_get t hf.nd id u none hu with ⟨_, h⟩ | ⟨y', g', h, _⟩
  ·cases h
  ·exact (T.get_sub _ _ _ _ h).1)
 have hch : id ∈ T.chain fu := by
  rcases T.up_get t hf.nd id u none hu with ⟨_, h⟩ | ⟨y', g', h, h2⟩
  ·cases h
  ·rw [hgu] at h; injection h with h; injection h with _ h; rw [h]; exact h2
 have hum := (T.get_sub _ _ _ _ hgu).1
 have hpi : ∀ pr, T.prevOf id pr t = T.prevOf id none fu := fun pr => T.prev_in id u y fu t pr hf.nd hgu hch
 obtain ⟨np, hnp⟩ := nx_pointer adr false n
 have hndf := (T.get_nodup u y fu t hf.nd hgu).1
 have hidB := hlow.2 id hi
 have HG := Lib.hid hg; have HF0 := Lib.hid hf; have HPI := Lib.hid hpi; have HU := Lib.hid hu; have HCH := Lib.hid hch; have HGU := Lib.hid hgu; have HUF := Lib.hid huf; have HLOW := Lib.hid hlow; have HUM := Lib.hid hum; have HMF := Lib.hid hmf
 have HB := Lib.hid hb; have HNP := Lib.hid hnp; have HND := Lib.hid hndf; have HUI := Lib.hid hui
 clear hf hg hu hpi hch hgu huf hlow hum hmf hb hs htop hnp hn hfi hus hndf hui
 have hup0 : T.prevOf id (some 0) t = T.prevOf id none t := (HPI.out _).trans (HPI.out _).symm
 have HUP := Lib.hid hup0; clear hup0
 go_enter Tryd.func85, Tryd.ntmps85
 go_wp2_with fail
 refine hA.out.mono ?_
 clear hA
 rintro e w1 ⟨q, hq, rfl, hb1⟩
 have hf1 := HF0.out.ext hb1
 have hid1 : w1.heap[adr id]? = some (nodeO id (.string x) (PP adr u) (T.pt adr f) (.pointer np)) := by rw [← HNP.out]; exact (hb1.block _ (blk_lt HB.out)).trans HB.out
 obtain ⟨-, -, c2, -, c4, cf⟩ := cells_of hid1
 have hctop : id ∉ T.chain t := chain_top HF0.out.nd HU.out
 cases q with
 |some a =>
  have hpa : T.prevOf id none fu = some (some a) := (HPI.out none).symm.trans hq
  obtain ⟨p, hp⟩ : ∃ p, (T.chain fu)[p]? = some id := List.mem_iff_getElem?.1 HCH.out
  have hpr := T.prev_top id fu p none HND.out hp
  rw [hpa] at hpr
  have hp0 : ¬ p = 0 := fun e => by rw [if_pos e] at hpr; cases hpr
  rw [if_neg hp0] at hpr
  have hap : (T.chain fu)[p - 1]? = some a := (Option.some.inj hpr).symm
  have hac : a ∈ T.chain fu := List.mem_of_getElem? hap
  have hai : a ≠ id := fun e => by
   subst e
   have := (List.getElem?_inj (List.getElem?_eq_some_iff.1 hap).1 (T.chain_nodup fu HND.out)).1 (hap.trans hp.symm)
   omega
  have hau := T.up_chain t HF0.out.nd u y fu HGU.out a hac none
  have hat := T.up_mem t HF0.out.nd a u hau
  have haf : a ∉ T.ids f := fun h => by
   rcases (T.under_step t HF0.out.nd id x f HG.out a u hau).1 h with h | h
   ·exact HUI.out h
   ·exact HUF.out h
  obtain ⟨x1, x2, x3, ha1⟩ := T.prev_block (h := hpOf w1) id a t true nilp none (fun _ => hctop) HF0.out.nd (by simp) hq hf1.has
  have hadr : adr a ≠ adr id := T.adr_ne (h := hpOf w1) hid1 ha1 hai
  have hadr' : adr id ≠ adr a := fun e => hadr e.symm
  obtain ⟨-, -, -, -, d4, df⟩ := cells_of ha1
  have hq' := Lib.hid hq; have HF1 := Lib.hid hf1; have HI1 := Lib.hid hid1; have HA1 := Lib.hid ha1; have HAF := Lib.hid haf; have HAT := Lib.hid hat; have HAD := Lib.hid hadr; have HAD' := Lib.hid hadr'; have HB1 := Lib.hid hb1; have HCT := Lib.hid hctop
  clear hq hf1 hid1 ha1 haf hat hap hp hpr hpa hac hau hb1 hctop
  simp only [upv]
  go_wp2
  go_end0
  have hsame : ∀ b, b ≠ adr a → b ≠ adr id → (((w1.setCell ⟨adr a, 4, none⟩ (.pointer np)).setCell ⟨adr id, 2, none⟩ nilp).setCell ⟨adr id, 4, none⟩ nilp).heap[b]? = w1.heap[b]? := fun b h1 h2 => (setx h2).trans ((setx h2).trans (setx h1))
  refine ⟨rfl, Free.of_cut HF1.out HG.out HAF.out HAT.out hsame (set4 (set2 ((setx HAD'.out).trans HI1.out))) ?_, ?_⟩
  ·exact T.has_cutN (h := hpOf w1) (adr := adr) hsame HI1.out HA1.out ((setx HAD.out).trans ((setx HAD.out).trans (set4 HA1.out))) t true nilp none (fun _ => HCT.out) HF0.out.nd (by simp) hq'.out HF1.out.has
  ·exact (((HB1.out.mono hB).setCell (HLOW.out.2 a HAT.out) _).setCell hidB _).setCell hidB _
 |none =>
  have hpa : T.prevOf id none fu = some none := (HPI.out none).symm.trans hq
  obtain ⟨p, hp⟩ : ∃ p, (T.chain fu)[p]? = some id := List.mem_iff_getElem?.1 HCH.out
  have hpr := T.prev_top id fu p none HND.out hp
  rw [hpa] at hpr
  have hp0 : p = 0 := by
   by_cases e : p = 0
   ·exact e
   ·rw [if_neg e, List.getElem?_eq_getElem (by have := (List.getElem?_eq_some_iff.1 hp).1; omega)] at hpr
    cases hpr
  subst hp0
  have hfu : T.pt adr fu = PP adr id := by
   cases fu with
   |nil => simp [T.chain] at hp
   |node j b c d =>
    simp only [T.chain, List.getElem?_cons_zero, Option.some.injEq] at hp
    rw [hp]; rfl
  obtain ⟨yu, fu', nu, topu, qu, hgu', -, -, -, hbu, -⟩ := hf1.info u HUM.out
  rw [HGU.out] at hgu'; injection hgu' with hgu'; injection hgu' with e1 e2; subst e1; subst e2
  rw [hfu] at hbu
  have hadr : adr u ≠ adr id := T.adr_ne (h := hpOf w1) hid1 hbu HUI.out
  have hadr' : adr id ≠ adr u := fun e => hadr e.symm
  obtain ⟨-, -, -, d3, -, df⟩ := cells_of hbu
  have hq' := Lib.hid hq; have HF1 := Lib.hid hf1; have HI1 := Lib.hid hid1; have HA1 := Lib.hid hbu; have HAD := Lib.hid hadr; have HAD' := Lib.hid hadr'; have HB1 := Lib.hid hb1; have HCT := Lib.hid hctop
  clear hq hf1 hid1 hbu hp hpr hpa hb1 hctop hfu
  simp only [upv]
  go_wp2
  go_region
  go_wp2
  go_end0
  have hsame : ∀ b, b ≠ adr u → b ≠ adr id → ((((w1.setCell ⟨adr u, 3, none⟩ (.pointer np)).setCell ⟨adr id, 2, none⟩ nilp).setCell ⟨adr id, 4, none⟩ nilp).drew).heap[b]? = w1.heap[b]? := fun b h1 h2 => (setx h2).trans ((setx h2).trans (setx h1))
  refine ⟨rfl, Free.of_cut HF1.out HG.out HUF.out HUM.out hsame (set4 (set2 ((setx HAD'.out).trans HI1.out))) ?_, ?_⟩
  ·exact T.has_cutF (h := hpOf w1) (adr := adr) hsame HI1.out HA1.out ((setx HAD.out).trans ((setx HAD.out).trans (set3 HA1.out))) t true nilp (some 0) none HF0.out.nd (by simp) (HUP.out.trans hq'.out) HU.out HF1.out.has
  ·exact ((((HB1.out.mono hB).setCell (HLOW.out.2 u HUM.out) _).setCell hidB _).setCell hidB _).trans (Ext.drewN (Below.refl _ _) 1)
open Go.RowKit Go.Shelf
@[local go_sem] theorem as_make_make (v : Value) (W : World) : (Instr.typeAssert (.iface 109 v) 79 109 true).run Tryd.prog W = .ok (.tuple #[v, .bool true]) W := by kernel_rfl
@[local go_sem] theorem as_make_text (v : Value) (W : World) : (Instr.typeAssert (.iface 109 v) 79 113 true).run Tryd.prog W = .ok (.tuple #[.agg #[.int .i64 0, .string ⟨#[]⟩], .bool false]) W := by kernel_rfl
@[local go_sem] theorem as_make_move (v : Value) (W : World) : (Instr.typeAssert (.iface 109 v) 79 115 true).run Tryd.prog W = .ok (.tuple #[.agg #[.int .i64 0, .int .i64 0, .int .i64 0], .bool false]) W := by kernel_rfl
@[local go_sem] theorem as_text_make (v : Value) (W : World) : (Instr.typeAssert (.iface 113 v) 79 109 true).run Tryd.prog W = .ok (.tuple #[.agg #[.int .i64 0, .int .i64 0, .int .i64 0, .string ⟨#[]⟩], .bool false]) W := by kernel_rfl
@[local go_sem] theorem as_text_text (v : Value) (W : World) : (Instr.typeAssert (.iface 113 v) 79 113 true).run Tryd.prog W = .ok (.tuple #[v, .bool true]) W := by kernel_rfl
@[local go_sem] theorem as_text_move (v : Value) (W : World) : (Instr.typeAssert (.iface 113 v) 79 115 true).run Tryd.prog W = .ok (.tuple #[.agg #[.int .i64 0, .int .i64 0, .int .i64 0], .bool false]) W := by kernel_rfl
@[local go_sem] theorem as_move_make (v : Value) (W : World) : (Instr.typeAssert (.iface 115 v) 79 109 true).run Tryd.prog W = .ok (.tuple #[.agg #[.int .i64 0, .int .i64 0, .int .i64 0, .string ⟨#[]⟩], .bool false]) W := by kernel_rfl
@[local go_sem] theorem as_move_text (v : Value) (W : World) : (Instr.typeAssert (.iface 115 v) 79 113 true).run Tryd.prog W = .ok (.tuple #[.agg #[.int .i64 0, .string ⟨#[]⟩], .bool false]) W := by kernel_rfl
@[local go_sem] theorem as_move_move (v : Value) (W : World) : (Instr.typeAssert (.iface 115 v) 79 115 true).run Tryd.prog W = .ok (.tuple #[v, .bool true]) W := by kernel_rfl
theorem within_nil (a : Option Addr) (w : World) : Calls Tryd.prog 100 #[nilp, .pointer a] w fun e w' => e = .returned (.bool false) ∧ w' = w := by
 go_enter Tryd.func100, Tryd.ntmps100
 go_wp2
 go_loopg [0] 1 (fun gk v wr => wr = w ∧ v = nilp)
 case atStart => exact ⟨rfl, rfl⟩
 case round =>
  obtain ⟨rfl, rfl⟩ := hrel
  go_wp2
  go_ret
  exact ⟨rfl, rfl⟩
set_option maxRecDepth 100000 in
theorem where_make (g : Nat) (adr : Int → Nat) (t : T) (id up pos : Int) (tx : ByteArray) (w : World) (hf : Frs w g adr t) (h3 : 3 ∈ T.ids t) (hi : id ∉ T.ids t) :
  Calls Tryd.prog 84 #[.pointer (some ⟨g, 0, none⟩), .iface 109 (.agg #[.int .i64 id, .int .i64 up, .int .i64 pos, .string tx])] w fun e w' => e = .returned (.tuple #[PP adr (T.near t id up pos).1, posv adr (T.near t id up pos).2, .bool true]) ∧ Ext w w' := by
 have hX : ∀ w', Ext w w' → Frs w' g adr t := fun w' h => hf.ext h
 have HX := Lib.hid hX; have H3 := Lib.hid h3; have HI := Lib.hid hi
 clear hf h3 hi hX
 go_enter Tryd.func84, Tryd.ntmps84
 go_wp2_with fail
 have hf1 := HX.out _ ((Below.refl _ w).alloc (Nat.le_refl _) (.cells #[.int .i64 id, .int .i64 up, .int .i64 pos, .string tx] 109))
 refine (find_no g adr t id _ hf1 HI.out).mono ?_
 rintro e w1 ⟨rfl, rfl⟩
 have hn := Lib.hid (near_c g adr t id up pos _ hf1 H3.out)
 clear hf1
 go_wp2_with fail
 refine hn.out.mono ?_
 rintro e w1 ⟨rfl, rfl⟩
 go_wp2_with fail
 go_ret3
 exact ⟨rfl, (Below.refl _ w).alloc (Nat.le_refl _) _⟩
set_option maxRecDepth 100000 in
theorem where_made (g : Nat) (adr : Int → Nat) (t : T) (id up pos : Int) (tx : ByteArray) (w : World) (hf : Frs w g adr t) (hi : id ∈ T.ids t) :
  Calls Tryd.prog 84 #[.pointer (some ⟨g, 0, none⟩), .iface 109 (.agg #[.int .i64 id, .int .i64 up, .int .i64 pos, .string tx])] w fun e w' => e = .returned (.tuple #[nilp, nilp, .bool false]) ∧ Ext w w' := by
 have hf1 := find_yes g adr t id _ (hf.ext ((Below.refl _ w).alloc (Nat.le_refl _) (.cells #[.int .i64 id, .int .i64 up, .int .i64 pos, .string tx] 109))) hi
 have HF := Lib.hid hf1
 clear hf hi hf1
 go_enter Tryd.func84, Tryd.ntmps84
 go_wp2_with fail
 refine HF.out.mono ?_
 rintro e w1 ⟨rfl, rfl⟩
 go_wp2_with fail
 go_ret3
 exact ⟨rfl, (Below.refl _ w).alloc (Nat.le_refl _) _⟩
set_option maxRecDepth 100000 in
theorem where_gone (g : Nat) (adr : Int → Nat) (t : T) (id up pos : Int) (w : World) (hf : Frs w g adr t) (hi : id ∉ T.ids t) :
  Calls Tryd.prog 84 #[.pointer (some ⟨g, 0, none⟩), .iface 115 (.agg #[.int .i64 id, .int .i64 up, .int .i64 pos])] w fun e w' => e = .returned (.tuple #[nilp, nilp, .bool false]) ∧ Ext w w' := by
 have hf1 := find_no g adr t id _ (hf.ext ((Below.refl _ w).alloc (Nat.le_refl _) (.cells #[.int .i64 id, .int .i64 up, .int .i64 pos] 115))) hi
 have HF := Lib.hid hf1
 clear hf hi hf1
 go_enter Tryd.func84, Tryd.ntmps84
 go_wp2_with fail
 refine HF.out.mono ?_
 rintro e w1 ⟨rfl, rfl⟩
 go_wp2_with fail
 go_ret3
 exact ⟨rfl, (Below.refl _ w).alloc (Nat.le_refl _) _⟩
set_option maxRecDepth 100000 in
theorem where_move (g : Nat) (adr : Int → Nat) (t : T) (id up pos : Int) (x : ByteArray) (f : T) (w : World) (hf : Frs w g adr t) (h3 : 3 ∈ T.ids t) (hg : T.get id t = some (x, f)) :
  Calls Tryd.prog 84 #[.pointer (some ⟨g, 0, none⟩), .iface 115 (.agg #[.int .i64 id, .int .i64 up, .int .i64 pos])] w fun e w' =>
   e = .returned (if up = id ∨ up ∈ T.ids f then .tuple #[nilp, nilp, .bool false] else .tuple #[PP adr (T.near t id up pos).1, posv adr (T.near t id up pos).2, .bool true]) ∧ Ext w w' := by
 obtain ⟨hi, hfi⟩ := T.get_sub id t x f hg
 have hf0 := hf.ext ((Below.refl _ w).alloc (Nat.le_refl _) (.cells #[.int .i64 id, .int .i64 up, .int .i64 pos] 115))
 have HF := Lib.hid (find_yes g adr t id _ hf0 hi)
 by_cases hu : up ∈ T.ids t
 ·have HU := Lib.hid (find_yes g adr t up _ hf0 hu)
  have hW := within_c g adr t up id x f _ hf0 hu hg
  by_cases hq : up = id ∨ up ∈ T.ids f
  ·rw [if_pos hq]
   rw [(T.inB_iff up id f).2 hq] at hW
   have HW := Lib.hid hW
   clear hf hi hW hq hu hf0 hg hfi h3
   go_enter Tryd.func84, Tryd.ntmps84
   go_wp2_with fail
   refine HF.out.mono ?_; rintro e w1 ⟨rfl, rfl⟩
   go_wp2_with fail
   refine HU.out.mono ?_; rintro e w1 ⟨rfl, rfl⟩
   go_wp2_with fail
   refine HW.out.mono ?_; rintro e w1 ⟨rfl, rfl⟩
   go_wp2_with fail
   go_ret3
   exact ⟨rfl, (Below.refl _ w).alloc (Nat.le_refl _) _⟩
  ·rw [if_neg hq]
   have hb : T.inB up id f = false := by rw [Bool.eq_false_iff]; exact fun h => hq ((T.inB_iff up id f).1 h)
   rw [hb] at hW
   have HW := Lib.hid hW
   have HN := Lib.hid (near_c g adr t id up pos _ hf0 h3)
   clear hf hi hW hq hu hf0 hg hfi h3 hb
   go_enter Tryd.func84, Tryd.ntmps84
   go_wp2_with fail
   refine HF.out.mono ?_; rintro e w1 ⟨rfl, rfl⟩
   go_wp2_with fail
   refine HU.out.mono ?_; rintro e w1 ⟨rfl, rfl⟩
   go_wp2_with fail
   refine HW.out.mono ?_; rintro e w1 ⟨rfl, rfl⟩
   go_wp2_with fail
   refine HN.out.mono ?_; rintro e w1 ⟨rfl, rfl⟩
   go_wp2_with fail
   go_ret3
   exact ⟨rfl, (Below.refl _ w).alloc (Nat.le_refl _) _⟩
 ·have HU := Lib.hid (find_no g adr t up _ hf0 hu)
  have HW := Lib.hid (within_nil (some ⟨adr id, 0, none⟩))
  have HN := Lib.hid (near_c g adr t id up pos _ hf0 h3)
  have hq : ¬ (up = id ∨ up ∈ T.ids f) := fun h => hu (h.elim (fun e => by rw [e]; exact hi) (hfi up))
  rw [if_neg hq]
  clear hf hi hq hu hf0 hg hfi h3
  go_enter Tryd.func84, Tryd.ntmps84
  go_wp2_with fail
  refine HF.out.mono ?_; rintro e w1 ⟨rfl, rfl⟩
  go_wp2_with fail
  refine HU.out.mono ?_; rintro e w1 ⟨rfl, rfl⟩
  go_wp2_with fail
  refine (HW.out _).mono ?_; rintro e w1 ⟨rfl, rfl⟩
  go_wp2_with fail
  refine HN.out.mono ?_; rintro e w1 ⟨rfl, rfl⟩
  go_wp2_with fail
  go_ret3
  exact ⟨rfl, (Below.refl _ w).alloc (Nat.le_refl _) _⟩
open Go.RowKit Go.Shelf
@[local go_sem] theorem at_make_make (v : Value) (W : World) : (Instr.typeAssert (.iface 109 v) 79 109 true).run Tryd.prog W = .ok (.tuple #[v, .bool true]) W := by kernel_rfl
@[local go_sem] theorem at_make_text (v : Value) (W : World) : (Instr.typeAssert (.iface 109 v) 79 113 true).run Tryd.prog W = .ok (.tuple #[.agg #[.int .i64 0, .string ⟨#[]⟩], .bool false]) W := by kernel_rfl
@[local go_sem] theorem at_make_move (v : Value) (W : World) : (Instr.typeAssert (.iface 109 v) 79 115 true).run Tryd.prog W = .ok (.tuple #[.agg #[.int .i64 0, .int .i64 0, .int .i64 0], .bool false]) W := by kernel_rfl
@[local go_sem] theorem at_text_make (v : Value) (W : World) : (Instr.typeAssert (.iface 113 v) 79 109 true).run Tryd.prog W = .ok (.tuple #[.agg #[.int .i64 0, .int .i64 0, .int .i64 0, .string ⟨#[]⟩], .bool false]) W := by kernel_rfl
@[local go_sem] theorem at_text_text (v : Value) (W : World) : (Instr.typeAssert (.iface 113 v) 79 113 true).run Tryd.prog W = .ok (.tuple #[v, .bool true]) W := by kernel_rfl
@[local go_sem] theorem at_text_move (v : Value) (W : World) : (Instr.typeAssert (.iface 113 v) 79 115 true).run Tryd.prog W = .ok (.tuple #[.agg #[.int .i64 0, .int .i64 0, .int .i64 0], .bool false]) W := by kernel_rfl
@[local go_sem] theorem at_move_make (v : Value) (W : World) : (Instr.typeAssert (.iface 115 v) 79 109 true).run Tryd.prog W = .ok (.tuple #[.agg #[.int .i64 0, .int .i64 0, .int .i64 0, .string ⟨#[]⟩], .bool false]) W := by kernel_rfl
@[local go_sem] theorem at_move_text (v : Value) (W : World) : (Instr.typeAssert (.iface 115 v) 79 113 true).run Tryd.prog W = .ok (.tuple #[.agg #[.int .i64 0, .string ⟨#[]⟩], .bool false]) W := by kernel_rfl
@[local go_sem] theorem at_move_move (v : Value) (W : World) : (Instr.typeAssert (.iface 115 v) 79 115 true).run Tryd.prog W = .ok (.tuple #[v, .bool true]) W := by kernel_rfl
theorem T.up_cut (m a : Int) (t : T) : ∀ q, (T.ids t).Nodup → a ∈ T.ids (T.cut m t) → T.upOf a q (T.cut m t) = T.upOf a q t := by
 have sub : ∀ s : T, ∀ b ∈ T.ids (T.cut m s), b ∈ T.ids s := by
  intro s
  induction s with
  |nil => simp [T.cut]
  |node i x f n ihf ihn =>
   intro b hb
   simp only [T.cut] at hb
   split at hb
   ·simp [T.ids, hb]
   ·simp only [T.ids, List.mem_cons, List.mem_append] at hb ⊢
    rcases hb with h | h | h
    ·exact .inl h
    ·exact .inr (.inl (ihf b h))
    ·exact .inr (.inr (ihn b h))
 induction t with
 |nil => intro q _ h; simp [T.cut, T.ids] at h
 |node i x f n ihf ihn =>
  intro q nd ha
  simp only [T.ids, List.nodup_cons, List.nodup_append, List.mem_append, not_or] at nd
  obtain ⟨⟨n1, n2⟩, ndf, ndn, hdis⟩ := nd
  simp only [T.cut] at ha ⊢
  split
  ·rename_i e
   rw [if_pos e] at ha
   conv => rhs; rw [T.upOf]
   rw [if_neg (fun e => n2 (by rw [e]; exact ha)), T.upOf_not a _ f (fun hh => hdis a hh a ha rfl), Option.none_or]
  ·rename_i e
   rw [if_neg e] at ha
   simp only [T.ids, List.mem_cons, List.mem_append] at ha
   simp only [T.upOf]
   by_cases hia : i = a
   ·rw [if_pos hia, if_pos hia]
   ·rw [if_neg hia, if_neg hia]
    rcases ha with h | h | h
    ·exact absurd h.symm hia
    ·rw [ihf _ ndf h]
     have haf := sub f a h
     rw [T.upOf_not a q n (fun hh => hdis a haf a hh rfl), T.upOf_not a q (T.cut m n) (fun hh => hdis a haf a (sub n a hh) rfl)]
    ·have han := sub n a h
     rw [T.upOf_not a _ f (fun hh => hdis a hh a han rfl), T.upOf_not a _ (T.cut m f) (fun hh => hdis a (sub f a hh) a han rfl), ihn _ ndn h]
set_option maxRecDepth 100000 in
theorem apply_text (B g : Nat) (adr : Int → Nat) (t : T) (id : Int) (tx : ByteArray) (w : World) (hf : Frs w g adr t) (hlow : Low B g adr (T.ids t)) (hB : B ≤ w.heap.size) :
  Calls Tryd.prog 58 #[.pointer (some ⟨g, 0, none⟩), .iface 113 (.agg #[.int .i64 id, .string tx])] w fun e w' => e = .returned (.tuple #[]) ∧ Frs w' g adr (T.setT id tx t) ∧ Below B w w' := by
 have hsz := alloc_sz w (.cells #[.int .i64 id, .string tx] 113)
 have hf0 := hf.ext ((Below.refl _ w).alloc (Nat.le_refl _) (.cells #[.int .i64 id, .string tx] 113))
 have hB0 : Below B w (w.alloc (.cells #[.int .i64 id, .string tx] 113)) := (Below.refl _ w).alloc hB _
 by_cases hi : id ∈ T.ids t
 ·have HF := Lib.hid (find_yes g adr t id _ hf0 hi)
  obtain ⟨x, f, n, top, q, hg, hn, hq, htop, hb, hs⟩ := hf0.info id hi
  have hb0 := (hf.info id hi)
  obtain ⟨x0, f0, n0, top0, q0, -, -, -, -, hb0, -⟩ := hb0
  obtain ⟨-, d1, -, -, -, df⟩ := cells_of hb0
  have hlt := blk_lt hb0
  have H0 := Lib.hid hf0; have HB := Lib.hid hb; have HB0 := Lib.hid hB0; have HL := Lib.hid (hlow.2 id hi); have HI := Lib.hid hi
  clear hf hlow hi hg hn hq htop hs hb hf0 hB0 hsz hb0
  go_enter Tryd.func58, Tryd.ntmps58
  go_wp2_with fail
  refine HF.out.mono ?_; rintro e w1 ⟨rfl, rfl⟩
  go_wp2_with fail
  go_end0
  refine ⟨rfl, ?_⟩
  have hgn := H0.out.adr_ne H0.out.tab (by decide) id HI.out
  have h1 : ∀ W : World, W = ((w.alloc (.cells #[.int .i64 id, .string tx] 113)).setCell ⟨adr id, 1, none⟩ (.string tx)) → Frs W g adr (T.setT id tx t) ∧ Below B w W := by
   rintro W rfl
   refine ⟨⟨T.has_setT (h := hpOf _) (adr := adr) (fun b hb => setx hb) HB.out (set1 HB.out) t true nilp H0.out.nd H0.out.has, ?_, by rw [T.setT_ids]; exact H0.out.nd, fun i hi => H0.out.rng i (by rwa [T.setT_ids] at hi)⟩, HB0.out.setCell HL.out _⟩
   refine (H0.out.tab.of_block (setx hgn)).congr fun i _ => ?_
   unfold fst; rw [T.setT_ids]
  exact h1 _ (by rw [World.setCell_alloc_past _ _ _ _ hlt])
 ·have HF := Lib.hid (find_no g adr t id _ hf0 hi)
  rw [T.setT_not id tx t hi]
  have H0 := Lib.hid hf0; have HB0 := Lib.hid hB0
  clear hf hlow hi hf0 hB0 hsz
  go_enter Tryd.func58, Tryd.ntmps58
  go_wp2_with fail
  refine HF.out.mono ?_; rintro e w1 ⟨rfl, rfl⟩
  go_wp2_with fail
  go_end0
  exact ⟨rfl, H0.out, HB0.out⟩
open Go.RowKit Go.Shelf
@[local go_sem] theorem au_make_make (v : Value) (W : World) : (Instr.typeAssert (.iface 109 v) 79 109 true).run Tryd.prog W = .ok (.tuple #[v, .bool true]) W := by kernel_rfl
@[local go_sem] theorem au_make_text (v : Value) (W : World) : (Instr.typeAssert (.iface 109 v) 79 113 true).run Tryd.prog W = .ok (.tuple #[.agg #[.int .i64 0, .string ⟨#[]⟩], .bool false]) W := by kernel_rfl
@[local go_sem] theorem au_make_move (v : Value) (W : World) : (Instr.typeAssert (.iface 109 v) 79 115 true).run Tryd.prog W = .ok (.tuple #[.agg #[.int .i64 0, .int .i64 0, .int .i64 0], .bool false]) W := by kernel_rfl
@[local go_sem] theorem au_text_make (v : Value) (W : World) : (Instr.typeAssert (.iface 113 v) 79 109 true).run Tryd.prog W = .ok (.tuple #[.agg #[.int .i64 0, .int .i64 0, .int .i64 0, .string ⟨#[]⟩], .bool false]) W := by kernel_rfl
@[local go_sem] theorem au_text_text (v : Value) (W : World) : (Instr.typeAssert (.iface 113 v) 79 113 true).run Tryd.prog W = .ok (.tuple #[v, .bool true]) W := by kernel_rfl
@[local go_sem] theorem au_text_move (v : Value) (W : World) : (Instr.typeAssert (.iface 113 v) 79 115 true).run Tryd.prog W = .ok (.tuple #[.agg #[.int .i64 0, .int .i64 0, .int .i64 0], .bool false]) W := by kernel_rfl
@[local go_sem] theorem au_move_make (v : Value) (W : World) : (Instr.typeAssert (.iface 115 v) 79 109 true).run Tryd.prog W = .ok (.tuple #[.agg #[.int .i64 0, .int .i64 0, .int .i64 0, .string ⟨#[]⟩], .bool false]) W := by kernel_rfl
@[local go_sem] theorem au_move_text (v : Value) (W : World) : (Instr.typeAssert (.iface 115 v) 79 113 true).run Tryd.prog W = .ok (.tuple #[.agg #[.int .i64 0, .string ⟨#[]⟩], .bool false]) W := by kernel_rfl
@[local go_sem] theorem au_move_move (v : Value) (W : World) : (Instr.typeAssert (.iface 115 v) 79 115 true).run Tryd.prog W = .ok (.tuple #[v, .bool true]) W := by kernel_rfl
theorem plant_new1 (w : World) (g : Nat) (adr : Int → Nat) (t : T) (id : Int) (tx : ByteArray) (hF : Frs w g adr t) (hn : id ∉ T.ids t) (h1 : 1 ≤ id) (h2 : id < 37) :
  Free ((w.setCell ⟨g, id.toNat, none⟩ (.pointer (some ⟨w.heap.size, 0, none⟩))).alloc (nodeO id (.string tx) nilp nilp nilp)).drew g (adrPut adr id w.heap.size) t id tx .nil := by
 have hsz : (w.setCell ⟨g, id.toNat, none⟩ (.pointer (some ⟨w.heap.size, 0, none⟩))).heap.size = w.heap.size := setsz _ _ _
 have hself : ((w.setCell ⟨g, id.toNat, none⟩ (.pointer (some ⟨w.heap.size, 0, none⟩))).alloc (nodeO id (.string tx) nilp nilp nilp)).drew.heap[w.heap.size]? = some (nodeO id (.string tx) nilp nilp nilp) := by
  have := World.alloc_heap_new (w.setCell ⟨g, id.toNat, none⟩ (.pointer (some ⟨w.heap.size, 0, none⟩))) (nodeO id (.string tx) nilp nilp nilp)
  rw [hsz] at this
  exact this
 have hblk : ∀ b, b < w.heap.size → b ≠ g → ((w.setCell ⟨g, id.toNat, none⟩ (.pointer (some ⟨w.heap.size, 0, none⟩))).alloc (nodeO id (.string tx) nilp nilp nilp)).drew.heap[b]? = w.heap[b]? := fun b hb hg =>
  (Below.heap_alloc (w.setCell ⟨g, id.toNat, none⟩ (.pointer (some ⟨w.heap.size, 0, none⟩))) (nodeO id (.string tx) nilp nilp nilp) b (by rw [hsz]; exact hb)).trans (setx hg)
 have hself' : adrPut adr id w.heap.size id = w.heap.size := if_pos rfl
 have hsameA : ∀ j ∈ T.ids t, adrPut adr id w.heap.size j = adr j := fun j hj => if_neg (fun e => hn (by rw [← e]; exact hj))
 have hgn := hF.adr_ne hF.tab (by decide)
 refine ⟨?_, ⟨nilp, nilp, by rw [hself']; exact hself⟩, trivial, ?_, ?_, ?_⟩
 ·refine T.has_adr t true nilp hsameA (T.has_same t true nilp (fun j hj => hblk _ (hF.adr_lt j hj) (fun e => hgn j hj e.symm)) hF.has)
 ·have h3 : ((w.setCell ⟨g, id.toNat, none⟩ (.pointer (some ⟨w.heap.size, 0, none⟩))).alloc (nodeO id (.string tx) nilp nilp nilp)).drew.rowIs g 119 37 (fun j => if j = id.toNat then .pointer (some ⟨w.heap.size, 0, none⟩) else fst adr t j) :=
   ((hF.tab.set id.toNat _).alloc _).drew
  refine h3.congr fun i hi => ?_
  by_cases e : i = id.toNat
  ·have e2 : (i : Int) = id := by omega
   rw [if_pos e, e2, if_pos List.mem_cons_self]
   show _ = PP (adrPut adr id w.heap.size) id
   exact congrArg (fun a => Value.pointer (some ⟨a, 0, none⟩)) hself'.symm
  ·have e2 : (i : Int) ≠ id := by omega
   rw [if_neg e]
   unfold fst
   by_cases hm : (i : Int) ∈ T.ids t
   ·rw [if_pos hm, if_pos (by simp [T.ids, hm])]
    exact congrArg (fun a => Value.pointer (some ⟨a, 0, none⟩)) (hsameA i hm).symm
   ·rw [if_neg hm, if_neg (by simp [T.ids, hm, e2])]
 ·simpa [T.ids] using ⟨hn, hF.nd⟩
 ·intro i hi
  simp only [T.ids, List.nil_append, List.mem_cons] at hi
  rcases hi with rfl | hi
  ·exact ⟨h1, h2⟩
  ·exact hF.rng i hi
set_option maxRecDepth 100000 in
theorem apply_make (B g : Nat) (adr : Int → Nat) (t : T) (id up pos : Int) (tx : ByteArray) (w : World) (hf : Frs w g adr t) (hlow : Low B g adr (T.ids t)) (hB : B ≤ w.heap.size) (h3 : 3 ∈ T.ids t) (h1 : 1 ≤ id) (h2 : id < 37) :
  Calls Tryd.prog 58 #[.pointer (some ⟨g, 0, none⟩), .iface 109 (.agg #[.int .i64 id, .int .i64 up, .int .i64 pos, .string tx])] w fun e w' => e = .returned (.tuple #[]) ∧
   ∃ adr', Frs w' g adr' (if id ∈ T.ids t then t else T.put t id tx .nil (T.near t id up pos)) ∧ Low B g adr' (T.ids (if id ∈ T.ids t then t else T.put t id tx .nil (T.near t id up pos))) ∧ Below B w w' := by
 have hsz := alloc_sz w (.cells #[.int .i64 id, .int .i64 up, .int .i64 pos, .string tx] 109)
 have hf0 := hf.ext ((Below.refl _ w).alloc (Nat.le_refl _) (.cells #[.int .i64 id, .int .i64 up, .int .i64 pos, .string tx] 109))
 have hB0 : Below B w (w.alloc (.cells #[.int .i64 id, .int .i64 up, .int .i64 pos, .string tx] 109)) := (Below.refl _ w).alloc hB _
 by_cases hi : id ∈ T.ids t
 ·rw [if_pos hi]
  have HW := Lib.hid (where_made g adr t id up pos tx _ hf0 hi)
  have H0 := Lib.hid hf0; have HB0 := Lib.hid hB0; have HL := Lib.hid hlow
  clear hf hlow hi hf0 hB0 hsz h3
  go_enter Tryd.func58, Tryd.ntmps58
  go_wp2_with fail
  refine HW.out.mono ?_; rintro e w1 ⟨rfl, hb1⟩
  have HB1 := Lib.hid hb1; clear hb1
  go_wp2_with fail
  go_end0
  exact ⟨rfl, adr, H0.out.ext HB1.out, HL.out, HB0.out.trans (HB1.out.mono (Nat.le_trans hB (by rw [alloc_sz]; omega)))⟩
 ·rw [if_neg hi]
  have HW := Lib.hid (where_make g adr t id up pos tx _ hf0 h3 hi)
  have HN := Lib.hid (T.near_ok t hf.nd h3 id up pos)
  have H0 := Lib.hid hf0; have HB0 := Lib.hid hB0; have HL := Lib.hid hlow; have HI := Lib.hid hi
  have HND := Lib.hid hf.nd
  clear hf hlow hi hf0 hB0 hsz h3
  go_enter Tryd.func58, Tryd.ntmps58
  go_wp2_with fail
  refine HW.out.mono ?_; rintro e w1 ⟨rfl, hb1⟩
  have hs1 := hb1.size
  rw [alloc_sz] at hs1
  have hbx : w1.heap[w.heap.size]? = some (.cells #[.int .i64 id, .int .i64 up, .int .i64 pos, .string tx] 109 (0, 0)) := (hb1.block _ (by rw [alloc_sz]; omega)).trans (World.alloc_heap_new w _)
  have k0 : w1.cell? ⟨w.heap.size, 0, none⟩ = some (.int .i64 id) := by simp [World.cell?, hbx]
  have k3 : w1.cell? ⟨w.heap.size, 3, none⟩ = some (.string tx) := by simp [World.cell?, hbx]
  clear hbx
  have hlt1 : w.heap.size < w1.heap.size := by omega
  have HF1 := Lib.hid (H0.out.ext hb1)
  have HB1 := Lib.hid hb1
  have hgc := HF1.out.tab.cell (i := id.toNat) (by omega)
  have hfz := HF1.out.tab.frozen id.toNat
  have hgl := HF1.out.size
  clear hb1 HW H0
  generalize hp : T.near t id up pos = p at HN
  go_wp2_with fail
  go_region
  go_wp2_with fail
  have hfree := plant_new1 w1 g adr t id tx HF1.out HI.out h1 h2
  have hself' : adrPut adr id w1.heap.size id = w1.heap.size := if_pos rfl
  have hsameA : ∀ j ∈ T.ids t, adrPut adr id w1.heap.size j = adr j := fun j hj => if_neg (fun e => HI.out (by rw [← e]; exact hj))
  obtain ⟨np1, np2⟩ := HN.out
  have hlow' : Low B g (adrPut adr id w1.heap.size) (id :: (T.ids (.nil : T) ++ T.ids t)) := ⟨HL.out.1, fun i hi => by
   simp only [T.ids, List.nil_append, List.mem_cons] at hi
   rcases hi with rfl | hi
   ·rw [hself']; omega
   ·rw [hsameA i hi]; exact HL.out.2 i hi⟩
  have hA := attach_frs B g (adrPut adr id w1.heap.size) t id tx .nil p _ hfree hlow' np1 (fun h0 => by
   obtain ⟨e1, _, e3, _⟩ := np2 h0
   rw [← e1] at e3
   exact ⟨T.up_mem t HND.out _ _ e3, e3⟩)
  have e1 : PP (adrPut adr id w1.heap.size) id = .pointer (some ⟨w1.heap.size, 0, none⟩) := congrArg (fun a => Value.pointer (some ⟨a, 0, none⟩)) hself'
  have e2 : PP (adrPut adr id w1.heap.size) p.1 = PP adr p.1 := T.PP_adr (hsameA _ np1)
  have e3 : posv (adrPut adr id w1.heap.size) p.2 = posv adr p.2 := by
   unfold posv
   split
   ·rename_i h0
    obtain ⟨e1, _, e3, _⟩ := np2 h0
    rw [← e1] at e3
    exact T.PP_adr (hsameA _ (T.up_mem t HND.out _ _ e3))
   ·rfl
  rw [e1, e2, e3] at hA
  have perm := put_mem t id tx .nil p HND.out np1 (fun h0 => by
   obtain ⟨e1, _, e3, _⟩ := np2 h0
   rw [← e1] at e3
   exact T.up_mem t HND.out _ _ e3)
  have hBw : Below B w1 ((w1.setCell ⟨g, id.toNat, none⟩ (.pointer (some ⟨w1.heap.size, 0, none⟩))).alloc (nodeO id (.string tx) nilp nilp nilp)).drew :=
   ((((Below.refl B w1).setCell (p := ⟨g, id.toNat, none⟩) HL.out.1 _).alloc (by rw [setsz]; omega) _)).trans (Ext.drewN (Below.refl _ _) 1)
  clear hfree hsameA np2 e1 e2 e3 hgc hfz k0 k3
  refine hA.mono ?_
  rintro e w2 ⟨rfl, F2, B2, S2, -⟩
  have FF := Lib.hid F2; have BB := Lib.hid B2; have PM := Lib.hid perm; have BW := Lib.hid hBw; have LL := Lib.hid hlow'
  clear hA F2 B2 perm hBw hlow' S2 hself'
  go_wp2_with fail
  go_end0
  rw [hp]
  refine ⟨rfl, _, FF.out, ⟨HL.out.1, fun i hi => LL.out.2 i (PM.out.mem_iff.1 hi)⟩, HB0.out.trans (((HB1.out.mono (by rw [alloc_sz]; omega)).trans BW.out).trans BB.out)⟩
set_option maxRecDepth 100000 in
theorem apply_move (B g : Nat) (adr : Int → Nat) (t : T) (id up pos : Int) (w : World) (hf : Frs w g adr t) (hlow : Low B g adr (T.ids t)) (hB : B ≤ w.heap.size) (h3 : 3 ∈ T.ids t) (h3u : T.upOf 3 none t = some none) (hid3 : id ≠ 3)
  (hup : id ∈ T.ids t → ∃ u, T.upOf id none t = some (some u)) :
  Calls Tryd.prog 58 #[.pointer (some ⟨g, 0, none⟩), .iface 115 (.agg #[.int .i64 id, .int .i64 up, .int .i64 pos])] w fun e w' => e = .returned (.tuple #[]) ∧
   ∃ t', t' = (match T.get id t with | none => t | some (x, f) => if up = id ∨ up ∈ T.ids f then t else T.put (T.cut id t) id x f (T.near t id up pos)) ∧ Frs w' g adr t' ∧ Low B g adr (T.ids t') ∧ Below B w w' := by
 have hsz := alloc_sz w (.cells #[.int .i64 id, .int .i64 up, .int .i64 pos] 115)
 have hf0 := hf.ext ((Below.refl _ w).alloc (Nat.le_refl _) (.cells #[.int .i64 id, .int .i64 up, .int .i64 pos] 115))
 have hB0 : Below B w (w.alloc (.cells #[.int .i64 id, .int .i64 up, .int .i64 pos] 115)) := (Below.refl _ w).alloc hB _
 have hB1 : B ≤ w.heap.size + 1 := by omega
 by_cases hi : id ∈ T.ids t
 ·obtain ⟨x, f, hg⟩ := T.get_some id t hi
  have hW := where_move g adr t id up pos x f _ hf0 h3 hg
  rw [hg]
  simp only
  by_cases hq : up = id ∨ up ∈ T.ids f
  ·rw [if_pos hq] at hW ⊢
   have HW := Lib.hid hW
   have H0 := Lib.hid hf0; have HB0 := Lib.hid hB0; have HL := Lib.hid hlow
   clear hf hlow hi hf0 hB0 hsz h3 hW hq hg hup
   go_enter Tryd.func58, Tryd.ntmps58
   go_wp2_with fail
   refine HW.out.mono ?_; rintro e w1 ⟨rfl, hb1⟩
   have HB1 := Lib.hid hb1; clear hb1
   go_wp2_with fail
   go_end0
   exact ⟨rfl, t, rfl, H0.out.ext HB1.out, HL.out, HB0.out.trans (HB1.out.mono (by rw [alloc_sz]; exact hB1))⟩
  ·obtain ⟨u, hu⟩ := hup hi
   rw [if_neg hq] at hW ⊢
   have HW := Lib.hid hW
   have HN := Lib.hid (T.near_ok t hf.nd h3 id up pos)
   have HQ := Lib.hid hq
   have hnt : (T.near t id up pos).1 ∈ T.ids (T.cut id t) ∧ (0 < (T.near t id up pos).2 → (T.near t id up pos).2 ∈ T.ids (T.cut id t) ∧ T.upOf (T.near t id up pos).2 none (T.cut id t) = some (some (T.near t id up pos).1)) := by
    obtain ⟨hndc, hsub, hback, hfwd⟩ := T.cut_facts t hf.nd id x f hg
    refine ⟨?_, fun h0 => ?_⟩
    ·have h3f : 3 ∉ T.ids f := by
      intro h
      obtain ⟨q, hq', _⟩ := T.under_in t hf.nd id x f hg 3 h
      rw [h3u] at hq'; cases hq'
     unfold T.near
     split
     ·rename_i hup'
      exact hback up hup' (fun e => hq (.inl e)) (fun e => hq (.inr e))
     ·exact hback 3 h3 (fun e => hid3 e.symm) h3f
    ·obtain ⟨e1, e2, e3, e4⟩ := HN.out.2 h0
     rw [e1]
     have hmem : pos ∈ T.ids (T.cut id t) := hback pos (T.up_mem t hf.nd _ _ e3) e2 (fun hpf => hq (by
      have := (T.under_step t hf.nd id x f hg pos _ e3).1 hpf
      rw [e4] at this; exact this))
     exact ⟨hmem, (T.up_cut id pos t none hf.nd hmem).trans e3⟩
   have HNT := Lib.hid hnt
   generalize T.near t id up pos = p at HN HNT HW
   have H0 := Lib.hid hf0; have HB0 := Lib.hid hB0; have HL := Lib.hid hlow; have HI := Lib.hid hi; have HG := Lib.hid hg; have HU := Lib.hid hu
   have HND := Lib.hid hf.nd
   clear hf hlow hi hf0 hB0 hsz h3 hW hq hg hup hnt hu h3u
   go_enter Tryd.func58, Tryd.ntmps58
   go_wp2_with fail
   refine HW.out.mono ?_; rintro e w1 ⟨rfl, hb1⟩
   have hs1 := hb1.size
   rw [alloc_sz] at hs1
   have hbx : w1.heap[w.heap.size]? = some (.cells #[.int .i64 id, .int .i64 up, .int .i64 pos] 115 (0, 0)) := (hb1.block _ (by rw [alloc_sz]; omega)).trans (World.alloc_heap_new w _)
   have k0 : w1.cell? ⟨w.heap.size, 0, none⟩ = some (.int .i64 id) := by simp [World.cell?, hbx]
   clear hbx HW
   have HF1 := Lib.hid (H0.out.ext hb1)
   have HB1 := Lib.hid hb1
   have hFY := Lib.hid (find_yes g adr t id w1 HF1.out HI.out)
   clear hb1 H0
   go_wp2_with fail
   refine hFY.out.mono ?_; rintro e w2 ⟨rfl, rfl⟩
   have hD := Lib.hid (detach_c B g adr t id u x f w2 HF1.out HG.out HU.out HL.out (by omega))
   clear hFY
   go_wp2_with fail
   refine hD.out.mono ?_; rintro e w3 ⟨rfl, hfree, hb3⟩
   have hcf := T.cut_facts t HND.out id x f HG.out
   have hsub := T.get_sub id t x f HG.out
   have hlow' : Low B g adr (id :: (T.ids f ++ T.ids (T.cut id t))) := ⟨HL.out.1, fun i hi => by
    simp only [List.mem_cons, List.mem_append] at hi
    rcases hi with rfl | hi | hi
    ·exact HL.out.2 _ HI.out
    ·exact HL.out.2 _ (hsub.2 _ hi)
    ·exact HL.out.2 _ (hcf.2.2.2 _ hi).1⟩
   have hA := Lib.hid (attach_frs B g adr (T.cut id t) id x f p w3 hfree hlow' HNT.out.1 HNT.out.2)
   have PM := Lib.hid (put_mem (T.cut id t) id x f p hcf.1 HNT.out.1 (fun h0 => (HNT.out.2 h0).1))
   have LL := Lib.hid hlow'
   have HB3 := Lib.hid hb3
   clear hD hfree hb3 hcf hsub hlow'
   go_wp2_with fail
   refine hA.out.mono ?_
   rintro e w4 ⟨rfl, F4, B4, -, -⟩
   have FF := Lib.hid F4; have BB := Lib.hid B4
   clear F4 B4 hA
   go_wp2_with fail
   go_end0
   exact ⟨rfl, _, rfl, FF.out, ⟨HL.out.1, fun i hi => LL.out.2 i (PM.out.mem_iff.1 hi)⟩, HB0.out.trans (((HB1.out.mono (by rw [alloc_sz]; exact hB1)).trans HB3.out).trans BB.out)⟩
 ·have HW := Lib.hid (where_gone g adr t id up pos _ hf0 hi)
  rw [T.get_not id t hi]
  have H0 := Lib.hid hf0; have HB0 := Lib.hid hB0; have HL := Lib.hid hlow
  clear hf hlow hi hf0 hB0 hsz h3 hup
  go_enter Tryd.func58, Tryd.ntmps58
  go_wp2_with fail
  refine HW.out.mono ?_; rintro e w1 ⟨rfl, hb1⟩
  have HB1 := Lib.hid hb1; clear hb1
  go_wp2_with fail
  go_end0
  exact ⟨rfl, t, rfl, H0.out.ext HB1.out, HL.out, HB0.out.trans (HB1.out.mono (by rw [alloc_sz]; exact hB1))⟩
open Go.RowKit Go.Shelf
theorem T.Valid.len {t : T} (h : T.Valid t) : (T.ids t).length ≤ 1000 := by
 have := T.nodup_le (T.ids t) [1, 2, 3, 11, 12, 13, 14, 15, 16, 21, 22, 23, 24, 25, 26, 31, 32, 33, 34, 35, 36] h.2.2 (fun a ha => by
  rcases h.ids_ok a ha with h1 | h1
  ·rw [isRoot_iff] at h1; simp only [List.mem_cons, List.not_mem_nil, or_false]; omega
  ·rw [isMade_iff] at h1; simp only [List.mem_cons, List.not_mem_nil, or_false]; omega)
 simp at this; omega
theorem T.up_root (t : T) : ∀ (i : Int) (q : Option Int), T.Top i t → 1 ≤ i → i + (T.chain t).length ≤ 4 → ∀ j ∈ T.ids t, isRoot j = false → (q = none → ∃ u, T.upOf j q t = some (some u)) := by
 have good : ∀ (s : T) (u : Int), ∀ j ∈ T.ids s, ∃ v, T.upOf j (some u) s = some (some v) := by
  intro s
  induction s with
  |nil => intro u j hj; simp [T.ids] at hj
  |node a x f n ihf ihn =>
   intro u j hj
   simp only [T.ids, List.mem_cons, List.mem_append] at hj
   simp only [T.upOf]
   by_cases e : a = j
   ·rw [if_pos e]; exact ⟨u, rfl⟩
   ·rw [if_neg e]
    by_cases hf : j ∈ T.ids f
    ·obtain ⟨v, hv⟩ := ihf a j hf; rw [hv]; exact ⟨v, rfl⟩
    ·rw [T.upOf_not j _ f hf, Option.none_or]
     exact ihn u j ((hj.resolve_left (fun h => e h.symm)).resolve_left hf)
 induction t with
 |nil => intro i q _ _ _ j hj; simp [T.ids] at hj
 |node a x f n ihf ihn =>
  intro i q ht h1 h2 j hj hr hq
  subst hq
  simp only [T.chain, List.length_cons] at h2
  simp only [T.ids, List.mem_cons, List.mem_append] at hj
  simp only [T.upOf]
  have hne : ¬ a = j := fun e => by
   rw [← e, ht.1] at hr
   have : isRoot i = true := (isRoot_iff i).2 ⟨h1, by omega⟩
   rw [this] at hr; cases hr
  rw [if_neg hne]
  by_cases hf : j ∈ T.ids f
  ·obtain ⟨v, hv⟩ := good f a j hf; rw [hv]; exact ⟨v, rfl⟩
  ·rw [T.upOf_not j _ f hf, Option.none_or]
   exact ihn (i + 1) none ht.2.2.2 (by omega) (by omega) j ((hj.resolve_left (fun h => hne h.symm)).resolve_left hf) hr rfl
theorem made_rng {id : Int} (h : isMade id = true) : 1 ≤ id ∧ id < 37 := by rw [isMade_iff] at h; omega
theorem apply_c (B g : Nat) (adr : Int → Nat) (t : T) (o : Op) (w : World) (hf : Frs w g adr t) (hv : T.Valid t) (ho : opOk o = true) (hlow : Low B g adr (T.ids t)) (hB : B ≤ w.heap.size) :
  Calls Tryd.prog 58 #[.pointer (some ⟨g, 0, none⟩), o.chg] w fun e w' => e = .returned (.tuple #[]) ∧ ∃ adr', Frs w' g adr' (T.doT t o) ∧ Below B w w' := by
 obtain ⟨hm, hk, htx, hpos⟩ := T.opOk_kind ho
 obtain ⟨h31, h3u⟩ := hv.root 3 rfl
 obtain ⟨r1, r2⟩ := made_rng hm
 have hroot : isRoot o.id = false := made_not_root _ hm
 rcases hk with hk | hk | hk
 ·have e1 : o.chg = .iface 109 (.agg #[.int .i64 o.id, .int .i64 o.up, .int .i64 o.pos, .string o.text]) := by simp [Op.chg, hm, hk]
  have e2 : T.doT t o = if o.id ∈ T.ids t then t else T.put t o.id o.text .nil (T.near t o.id o.up o.pos) := by unfold T.doT; rw [if_neg (by omega), if_pos hk]
  rw [e1, e2]
  refine (apply_make B g adr t o.id o.up o.pos o.text w hf hlow hB h31 r1 r2).mono ?_
  rintro e w' ⟨rfl, adr', h1, h2, h3⟩
  exact ⟨rfl, adr', h1, h3⟩
 ·have e1 : o.chg = .iface 113 (.agg #[.int .i64 o.id, .string o.text]) := by simp [Op.chg, hm, hk]
  have e2 : T.doT t o = T.setT o.id o.text t := by unfold T.doT; rw [if_pos hk]
  rw [e1, e2]
  refine (apply_text B g adr t o.id o.text w hf hlow hB).mono ?_
  rintro e w' ⟨rfl, h1, h2⟩
  exact ⟨rfl, adr, h1, h2⟩
 ·have e1 : o.chg = .iface 115 (.agg #[.int .i64 o.id, .int .i64 o.up, .int .i64 o.pos]) := by simp [Op.chg, hm, hk]
  rw [e1]
  refine (apply_move B g adr t o.id o.up o.pos w hf hlow hB h31 h3u (fun e => by rw [e] at hroot; cases hroot) (fun hi => T.up_root t 1 none hv.1 (by omega) (by rw [hv.2.1]; decide) o.id hi hroot rfl)).mono ?_
  rintro e w' ⟨rfl, t', ht', h1, h2, h3⟩
  have e2 : T.doT t o = t' := by
   rw [ht']; unfold T.doT; rw [if_neg (by omega), if_neg (by omega), if_pos hk]
   cases T.get o.id t with
   |none => rfl
   |some p => rfl
  rw [e2]
  exact ⟨rfl, adr, h1, h3⟩
set_option maxRecDepth 100000 in
theorem plant_no (A : Option Addr) (c : Nat) (l : List Row) (w : World) (ht : Tab w) (hr : Rd w A c l) (hok : treeOk l = false) :
  Calls Tryd.prog 57 #[.slice A l.length c] w fun e w' => e = .returned (.tuple #[nilp, .bool false]) ∧ Ext w w' := by
 have hm : l.length ≤ maxLen := Nat.le_trans hr.1 hr.2.1
 unfold maxLen at hm
 have HO := treeOk_c A c l w ht hr
 rw [hok] at HO
 have HO := Lib.hid HO
 clear ht hr hok
 go_enter Tryd.func57, Tryd.ntmps57
 go_wp2_with fail
 refine HO.out.mono ?_; rintro e w1 ⟨rfl, hb⟩; have HB1 := Lib.hid hb; clear hb HO
 go_wp2_with fail
 go_ret2
 exact ⟨rfl, HB1.out⟩
set_option maxRecDepth 100000 in
theorem opDo_c (A : Option Addr) (c : Nat) (l : List Row) (o : Op) (w : World) (ht : Tab w) (hr : Rd w A c l) (hs : o.text.size ≤ maxLen) :
  Calls Tryd.prog 25 #[.slice A l.length c, o.val] w fun e w' => ∃ v, e = .returned v ∧ Own 47 w' w.heap.size v (opDo l o) ∧ Ext w w' := by
 have hB0 : Ext w (w.alloc (oO o)) := (Below.refl _ w).alloc (Nat.le_refl _) _
 have HC := Lib.hid (changeOf_c o _ (ht.alloc (oO o)) hs)
 have HT := Lib.hid ht; have HR := Lib.hid hr; have HB0 := Lib.hid hB0
 have hpos := ht.pos
 have hval : o.val = .agg (cO o) := rfl
 rw [hval]
 clear ht hr hB0 hval
 cases hok : opOk o
 ·have HO := Lib.hid hok
  rw [hok] at HC
  clear hok
  have hres : opDo l o = [] := by unfold opDo; rw [HO.out, Bool.and_false]; rfl
  rw [hres]
  have hp : ∀ w1, Ext w w1 → Calls Tryd.prog 57 #[.slice A l.length c] w1 fun e w' => ∃ v b, e = .returned (.tuple #[.pointer v, .bool b]) ∧ Ext w1 w' := fun w1 h => by
   cases hk : treeOk l
   ·refine (plant_no A c l w1 (HT.out.below h hpos) (HR.out.ext h) hk).mono ?_
    rintro e w' ⟨rfl, h⟩
    exact ⟨_, _, rfl, h⟩
   ·refine (plant_c A c l w1 (HT.out.below h hpos) (HR.out.ext h) hk).mono ?_
    rintro e w' ⟨g, adr, rfl, _, _, h⟩
    exact ⟨_, _, rfl, h⟩
  have HP := Lib.hid hp
  clear hp hres
  go_enter Tryd.func25, Tryd.ntmps25
  go_wp2_with fail
  refine HC.out.mono ?_; rintro e w1 ⟨rfl, hb1⟩
  have HB1 := Lib.hid (HB0.out.trans (hb1.mono (by rw [alloc_sz]; omega))); clear hb1 HC
  go_wp2_with fail
  refine (HP.out _ HB1.out).mono ?_; rintro e w2 ⟨v, b, rfl, hb2⟩
  have HB2 := Lib.hid hb2; clear hb2 HP
  go_wp2_with fail
  go_ret
  exact ⟨_, rfl, Own.nil _ _ _, HB1.out.trans (HB2.out.mono HB1.out.size)⟩
 ·have HO := Lib.hid hok
  rw [hok] at HC
  clear hok
  cases hk : treeOk l
  ·have hres : opDo l o = [] := by unfold opDo; rw [hk, Bool.false_and]; rfl
   rw [hres]
   have hp : ∀ w1, Ext w w1 → _ := fun w1 h => plant_no A c l w1 (HT.out.below h hpos) (HR.out.ext h) hk
   have HP := Lib.hid hp
   clear hp hres hk
   go_enter Tryd.func25, Tryd.ntmps25
   go_wp2_with fail
   refine HC.out.mono ?_; rintro e w1 ⟨rfl, hb1⟩
   have HB1 := Lib.hid (HB0.out.trans (hb1.mono (by rw [alloc_sz]; omega))); clear hb1 HC
   go_wp2_with fail
   refine (HP.out _ HB1.out).mono ?_; rintro e w2 ⟨rfl, hb2⟩
   have HB2 := Lib.hid hb2; clear hb2 HP
   go_wp2_with fail
   go_ret
   exact ⟨_, rfl, Own.nil _ _ _, HB1.out.trans (HB2.out.mono HB1.out.size)⟩
  ·have hres : opDo l o = T.rows 0 (T.doT (T.build l) o) := by unfold opDo; rw [hk, HO.out, Bool.true_and, if_pos rfl]; exact doL_build l o hk HO.out
   rw [hres]
   have hp : ∀ w1, Ext w w1 → _ := fun w1 h => plant_c A c l w1 (HT.out.below h hpos) (HR.out.ext h) hk
   have HP := Lib.hid hp
   have HV := Lib.hid (T.valid_build l hk).1
   clear hp hres hk
   go_enter Tryd.func25, Tryd.ntmps25
   go_wp2_with fail
   refine HC.out.mono ?_; rintro e w1 ⟨rfl, hb1⟩
   have HB1 := Lib.hid (HB0.out.trans (hb1.mono (by rw [alloc_sz]; omega))); clear hb1 HC
   go_wp2_with fail
   refine (HP.out _ HB1.out).mono ?_; rintro e w2 ⟨g, adr, rfl, hf2, hl2, hb2⟩
   have HB2 := Lib.hid (HB1.out.trans (hb2.mono HB1.out.size))
   have HA := Lib.hid (apply_c w1.heap.size g adr _ o w2 hf2 HV.out HO.out hl2 hb2.size)
   clear hb2 HP hf2 hl2
   go_wp2_with fail
   refine HA.out.mono ?_; rintro e w3 ⟨rfl, adr', hf3, hb3⟩
   have HB3 := Lib.hid (HB2.out.trans (hb3.mono HB1.out.size))
   have hv3 := T.valid_doT _ HV.out o HO.out
   have HRW := Lib.hid (rows_c g adr' _ w3 hf3 hv3 hv3.len)
   clear hf3 hb3 HA hv3
   go_wp2_with fail
   refine HRW.out.mono ?_; rintro e w4 ⟨v, rfl, hown, hb4⟩
   have HOWN := Lib.hid (And.intro hown hb4); clear hown hb4 HRW
   go_wp2_with fail
   go_ret
   exact ⟨v, rfl, HOWN.out.1.lower HB3.out.size, HB3.out.trans (HOWN.out.2.mono HB3.out.size)⟩
open Go.RowKit Go.Shelf Go.Lib
theorem wpList_append_run {P : Program} {w : World} {ops : Array Oper} {rest : List Oper} {o : Oper} {a : Act} {Q : Exit → Act → World → Prop} (hg : o.guard = none) (s x : Operand) (t : TypeId)
  (hop : o.op = Op.call { callee := Callee.builtin Builtin.append, args := #[s, x], argTypes := #[t, t] }) {v sl v' : Value} {w' : World} (hs : a.eval s = v) (hx : a.eval x = sl) (hrun : (Builtin.append_ #[t, t] o.type #[v, sl]).run P w = .ok v' w')
  (hK : wpList P ops Q rest (a.put o.dst v') w') : wpList P ops Q (o :: rest) a w := by
 refine wpList_plain hg fun K hK' => ?_
 unfold Oper.wp
 simp [execOp, hop, resolve, invoke, builtin, hs, hx, hrun, Result.andThen]
 exact hK' _ _ hK
theorem ent_info : ∃ i : TypeInfo, Tryd.prog.info? 44 = some i ∧ i.zero = some (.agg #[.int .i64 0, .int .i64 0, .int .i64 0, .int .i64 0, .int .i64 0, .int .i64 0, .string ⟨#[]⟩]) ∧ i.size = 7 ∧ i.bytes = 64 := info_parts (by kernel_rfl)
theorem und_ents : Tryd.prog.underlying 23 = some (.slice 44) := by kernel_rfl
set_option maxRecDepth 100000 in
set_option maxHeartbeats 1000000 in
theorem clone_row (A : Option Addr) (c : Nat) (l : List Row) (w : World) (hr : Rd w A c l) (hb : l.length ≤ 1000000) :
  Calls Tryd.prog 52 #[.slice A l.length c] w fun e w' => ∃ v, e = .returned v ∧ Own 47 w' w.heap.size v l ∧ Ext w w' := by
 have q22 : ∀ (w : World) (a : Option Addr) (n c n' c' : Nat), (binOp .eql 25 (.slice a n c) (.slice none n' c')).run Tryd.prog w = .ok (.bool a.isNone) w := fun w a n c n' c' => Lib.run_eql_slice_nil w _ _ a n c n' c' und_rows
 cases A with
 |none =>
  have hl : l = [] := by
   cases l with
   |nil => rfl
   |cons x l => obtain ⟨b, off, h, _⟩ := hr.2.2.1 (by simp); cases h
  subst hl
  clear hr
  go_enter Tryd.func52, Tryd.ntmps52
  go_wp2
  go_ret
  exact ⟨_, rfl, Own.nil _ _ _, Below.refl _ _⟩
 |some a =>
  obtain ⟨i0, hi, hz0, hz1, hz2⟩ := row_info
  have hn : ∀ j u, (flat l)[j]? = some u → (w.alloc (.cells #[] 47)).cell? (a.add j) = some u := by
   intro j u hj
   have hl : 0 < l.length := by
    cases l with
    |nil => simp [flat] at hj
    |cons x l => simp
   obtain ⟨b, off, h, hc⟩ := hr.2.2.1 hl
   cases h
   have e1 : (⟨b, off, none⟩ : Addr).add j = ⟨b, off + j, none⟩ := by unfold Addr.add; split <;> simp_all
   rw [e1]
   exact Lib.cell?_alloc_some _ (hc j u hj)
  have happ := run_append_own_at (P := Tryd.prog) (w := w.alloc (.cells #[] 47)) w.heap.size 25 25 47 i0 _ 3 32 und_rows hi hz0 hz1 hz2 rfl (by decide) _ 0 [] (World.ownsRow_made w #[] 0 (Nat.le_refl _) (Nat.zero_le _) rfl) a l.length c (flat l) (flat_length l) hn (flat_one_cell l) (by unfold maxLen; omega) (by omega) (by rw [alloc_sz]; omega)
  obtain ⟨v', w1, hrun, hown, hgrow, -, -⟩ := happ
  have HOK := Lib.hid hr.ok
  have HOWN := Lib.hid hown; have HG := Lib.hid hgrow
  clear hr hn hown hgrow hi hz0 hz1 hz2
  go_enter Tryd.func52, Tryd.ntmps52
  go_wp2_with (at_builtin; refine wpList_append_run rfl _ _ _ rfl rfl rfl hrun ?_)
  go_ret
  refine ⟨_, rfl, ⟨?_, HOK.out⟩, ?_⟩
  ·have := HOWN.out; rwa [Nat.zero_add, List.nil_append] at this
  ·exact ((Below.refl _ w).alloc (Nat.le_refl _) _).grown HG.out (by rw [alloc_sz]; omega) (by intro k hk; simp [Value.ownBlock] at hk; omega)
set_option maxRecDepth 100000 in
set_option maxHeartbeats 1000000 in
theorem clone_ent (A : Option Addr) (c : Nat) (l : List Entry) (w : World) (hr : Rd w A c l) (hb : l.length ≤ 1000000) :
  Calls Tryd.prog 74 #[.slice A l.length c] w fun e w' => ∃ v, e = .returned v ∧ Own 44 w' w.heap.size v l ∧ Ext w w' := by
 have q22 : ∀ (w : World) (a : Option Addr) (n c n' c' : Nat), (binOp .eql 23 (.slice a n c) (.slice none n' c')).run Tryd.prog w = .ok (.bool a.isNone) w := fun w a n c n' c' => Lib.run_eql_slice_nil w _ _ a n c n' c' und_ents
 cases A with
 |none =>
  have hl : l = [] := by
   cases l with
   |nil => rfl
   |cons x l => obtain ⟨b, off, h, _⟩ := hr.2.2.1 (by simp); cases h
  subst hl
  clear hr
  go_enter Tryd.func74, Tryd.ntmps74
  go_wp2
  go_ret
  exact ⟨_, rfl, Own.nil _ _ _, Below.refl _ _⟩
 |some a =>
  obtain ⟨i0, hi, hz0, hz1, hz2⟩ := ent_info
  have hn : ∀ j u, (flat l)[j]? = some u → (w.alloc (.cells #[] 44)).cell? (a.add j) = some u := by
   intro j u hj
   have hl : 0 < l.length := by
    cases l with
    |nil => simp [flat] at hj
    |cons x l => simp
   obtain ⟨b, off, h, hc⟩ := hr.2.2.1 hl
   cases h
   have e1 : (⟨b, off, none⟩ : Addr).add j = ⟨b, off + j, none⟩ := by unfold Addr.add; split <;> simp_all
   rw [e1]
   exact Lib.cell?_alloc_some _ (hc j u hj)
  have happ := run_append_own_at (P := Tryd.prog) (w := w.alloc (.cells #[] 44)) w.heap.size 23 23 44 i0 _ 7 64 und_ents hi hz0 hz1 hz2 rfl (by decide) _ 0 [] (World.ownsRow_made w #[] 0 (Nat.le_refl _) (Nat.zero_le _) rfl) a l.length c (flat l) (flat_length l) hn (flat_one_cell l) (by unfold maxLen; omega) (by omega) (by rw [alloc_sz]; omega)
  obtain ⟨v', w1, hrun, hown, hgrow, -, -⟩ := happ
  have HOK := Lib.hid hr.ok
  have HOWN := Lib.hid hown; have HG := Lib.hid hgrow
  clear hr hn hown hgrow hi hz0 hz1 hz2
  go_enter Tryd.func74, Tryd.ntmps74
  go_wp2_with (at_builtin; refine wpList_append_run rfl _ _ _ rfl rfl rfl hrun ?_)
  go_ret
  refine ⟨_, rfl, ⟨?_, HOK.out⟩, ?_⟩
  ·have := HOWN.out; rwa [Nat.zero_add, List.nil_append] at this
  ·exact ((Below.refl _ w).alloc (Nat.le_refl _) _).grown HG.out (by rw [alloc_sz]; omega) (by intro k hk; simp [Value.ownBlock] at hk; omega)
set_option maxRecDepth 100000 in
theorem treeNew_c (w : World) : Calls Tryd.prog 39 #[] w fun e w' => ∃ v, e = .returned v ∧ Own 47 w' w.heap.size v treeNew ∧ Ext w w' := by
 go_enter Tryd.func39, Tryd.ntmps39
 go_wp2
 go_ret
 refine ⟨_, rfl, ⟨⟨rfl, .inr ⟨w.heap.size, 3, _, rfl, Nat.le_refl _, World.alloc_heap_new w _, Nat.le_refl _, by decide, rfl, rfl⟩⟩, ?_⟩, (Below.refl _ w).alloc (Nat.le_refl _) _⟩
 intro r hr
 simp only [treeNew, List.mem_cons, List.not_mem_nil, or_false] at hr
 rcases hr with rfl | rfl | rfl <;> exact Nat.zero_le _
open Go.RowKit
theorem any_skip {P : Program} {md : Region.Mode} {ops : Array Oper} {Q : Exit → Act → World → Prop} (i : Nat) {oi : Oper} {fuel : Nat} {listed : Array Bool} {a : Act} {w : World} (hi : ops[i]? = some oi)
  (hs : Region.noSelect ops = true) (hf : Region.free md ops listed i = true) (hr : (Region.ready md ops listed).contains i = true)
  (hQ : ∀ c a w, Q (.panic c) (a.put oi.dst undef) w → Q (.panic c) a w) (hw : Region.wanted oi (yielded ops a.tmps) = false)
  (h : wpAny P md ops Q fuel (listed.setIfInBounds i true) (a.put oi.dst undef) w) : wpAny P md ops Q (fuel + 1) listed a w :=
 wpAny_take hi hs hf hr hQ (.inr ⟨hw, rfl⟩) h
theorem entryOk_who {e : Entry} (h : entryOk e = true) : 1 ≤ e.who ∧ e.who ≤ 3 := by
 simp [entryOk, isWho] at h; exact h.1.1.1
set_option maxHeartbeats 1000000 in
theorem logOk_c (A : Option Addr) (c : Nat) (l : List Entry) (w : World) (ht : Tab w) (hr : Rd w A c l) :
  Calls Tryd.prog 38 #[.slice A l.length c] w fun x w' => x = .returned (.bool (logOk l)) ∧ Ext w w' := by
 have hm : l.length ≤ maxLen := Nat.le_trans hr.1 hr.2.1
 unfold maxLen at hm
 by_cases h40 : l.length ≤ 40
 ·have HR := Lib.hid hr; have HT := Lib.hid ht; clear hr ht
  have hmm := @run_makeMap Tryd.prog
  go_enter Tryd.func38, Tryd.ntmps38
  go_wp2
  go_loopg [12] l.length (fun gk i wr => ∃ k : Nat, k ≤ l.length ∧ gk = l.length - k ∧ i = .int .i64 k ∧ Hid (∀ j, j < k → goodAt l j = true) ∧ Hid (Tal wr w.heap.size k (fun who => (cntW (l.take k) who : Int))) ∧ Hid (Below w.heap.size w wr))
  case atStart => exact ⟨0, Nat.zero_le _, rfl, rfl, fun _ h => by omega, (by simpa [cntW] using Tal.made w : Tal _ _ 0 _), (Below.refl _ _).alloc (Nat.le_refl _) _⟩
  case round =>
   obtain ⟨k, hk, hgk, rfl, HG, HTal, HB⟩ := hrel
   by_cases hlt : k < l.length
   ·obtain ⟨b, off, rfl, hbl, c0, c1, c2, c3, c4, c5, c6⟩ := ent_at (HR.out.ext HB.out) k hlt
    have HK := Lib.hid hgk; clear hgk
    have hE := entryOk_c l[k] (wr.alloc (oN l[k])).drew
     ((HT.out.below HB.out HT.out.pos).alloc _) (HR.out.okAt k hlt)
    simp only [Entry.val] at hE
    have HG1 := Lib.hid (goodAt_lt l k hlt)
    cases hok : entryOk l[k]
    ·rw [hok] at hE HG1
     have HE := Lib.hid hE; clear hE hok
     go_wp2
     refine wp_region_any (by kernel_rfl) ?_
     change wpAny _ _ _ _ _ _ _ (World.drew _)
     refine wpAny_ready (rs := [0]) (by kernel_rfl) (by simp) ?_
     refine AllReady.cons rfl (fun K hK => ?_) AllReady.nil
     go_simp
     refine hK _ _ ?_; clear hK K
     refine wpAny_ready (rs := [1]) (by kernel_rfl) (by simp) ?_
     refine AllReady.cons rfl (fun K hK => ?_) AllReady.nil
     go_simp
     go_wp2_with (go_at_call 32; refine HE.out.mono ?_; rintro e w1 ⟨rfl, hb1⟩; obtain ⟨hc1, hf1⟩ := bcell hb1)
     refine wpAny_ready (rs := [2]) (by kernel_rfl) (by simp) ?_
     refine AllReady.cons rfl (fun K hK => ?_) AllReady.nil
     go_simp
     refine hK _ _ ?_; clear hK K
     refine wpAny_ready (rs := [3]) (by kernel_rfl) (by simp) ?_
     refine AllReady.cons rfl (fun K hK => ?_) AllReady.nil
     go_simp
     refine hK _ _ ?_; clear hK K
     refine any_skip 4 rfl (by kernel_rfl) (by kernel_rfl) (by kernel_rfl) (fun _ _ _ h => h) (by rfl) ?_
     refine any_skip 5 rfl (by kernel_rfl) (by kernel_rfl) (by kernel_rfl) (fun _ _ _ h => h) (by rfl) ?_
     refine any_skip 6 rfl (by kernel_rfl) (by kernel_rfl) (by kernel_rfl) (fun _ _ _ h => h) (by rfl) ?_
     refine any_skip 7 rfl (by kernel_rfl) (by kernel_rfl) (by kernel_rfl) (fun _ _ _ h => h) (by rfl) ?_
     refine any_skip 8 rfl (by kernel_rfl) (by kernel_rfl) (by kernel_rfl) (fun _ _ _ h => h) (by rfl) ?_
     refine any_skip 9 rfl (by kernel_rfl) (by kernel_rfl) (by kernel_rfl) (fun _ _ _ h => h) (by rfl) ?_
     refine any_skip 10 rfl (by kernel_rfl) (by kernel_rfl) (by kernel_rfl) (fun _ _ _ h => h) (by rfl) ?_
     refine wpAny_ready (rs := [11]) (by kernel_rfl) (by simp) ?_
     refine AllReady.cons rfl (fun K hK => ?_) AllReady.nil
     go_simp
     refine hK _ _ ?_; clear hK K
     refine wpAny_done (by kernel_rfl) ?_ _
     go_wp2
     go_ret
     exact ⟨by rw [logOk_false l k hlt HG1.out]; rfl, ext_then HB.out (ext_boxd hb1) HB.out.size⟩
    ·have hwho := entryOk_who hok
     rw [hok] at hE HG1
     have HE := Lib.hid hE; clear hE hok
     have hadd := fun (w1 : World) (h : Ext (wr.alloc (oN l[k])).drew w1) => add_c w.heap.size k (fun who => (cntW (l.take k) who : Int)) l[k].who w1 (HTal.out.below (ext_boxd h)) (by unfold maxLen; omega) (WalkArith.wf_i64 (by omega)) (by omega) (by have := cntW_le (l.take k) l[k].who; rw [List.length_take] at this; omega)
     have HA := Lib.hid hadd; clear hadd
     have HW := Lib.hid hwho; clear hwho
     have hmb : w.heap.size < wr.heap.size := HTal.out.lt
     go_wp2
     have hcq : (((cntW (l.take k) l[k].who : Int) + 1) != l[k].seq) = true ∨ (((cntW (l.take k) l[k].who : Int) + 1) != l[k].seq) = false := by cases (((cntW (l.take k) l[k].who : Int) + 1) != l[k].seq) <;> simp
     rcases hcq with hq | hq
     all_goals
      go_region_held3 (fun w' => w'.cell? ⟨wr.heap.size, 0, none⟩ = some (.int .i64 l[k].who) ∧ w'.cell? ⟨wr.heap.size, 1, none⟩ = some (.int .i64 l[k].seq) ∧ w'.cell? ⟨wr.heap.size, 2, none⟩ = some (.int .i64 l[k].op.kind) ∧ w'.cell? ⟨wr.heap.size, 3, none⟩ = some (.int .i64 l[k].op.id) ∧ w'.cell? ⟨wr.heap.size, 4, none⟩ = some (.int .i64 l[k].op.up) ∧ w'.cell? ⟨wr.heap.size, 5, none⟩ = some (.int .i64 l[k].op.pos) ∧ w'.cell? ⟨wr.heap.size, 6, none⟩ = some (.string l[k].op.text))
       (first | exact E2 | exact E1 | go_keep)
       (first
        |(go_at_call 32; refine HE.out.mono ?_; rintro e w1 ⟨rfl, hb1⟩; obtain ⟨hc1, hf1⟩ := bcell hb1
          have E1 : w1.cell? ⟨wr.heap.size, 0, none⟩ = some (.int .i64 l[k].who) ∧ w1.cell? ⟨wr.heap.size, 1, none⟩ = some (.int .i64 l[k].seq) ∧ w1.cell? ⟨wr.heap.size, 2, none⟩ = some (.int .i64 l[k].op.kind) ∧ w1.cell? ⟨wr.heap.size, 3, none⟩ = some (.int .i64 l[k].op.id) ∧ w1.cell? ⟨wr.heap.size, 4, none⟩ = some (.int .i64 l[k].op.up) ∧ w1.cell? ⟨wr.heap.size, 5, none⟩ = some (.int .i64 l[k].op.pos) ∧ w1.cell? ⟨wr.heap.size, 6, none⟩ = some (.string l[k].op.text) := by
           simp [hc1]
          have HC := Lib.hid hc1; have HB1 := Lib.hid hb1; clear hc1 hf1 hb1)
        |(go_at_call 50; refine (HA.out _ HB1.out).mono ?_; rintro e w2 ⟨rfl, ht2, hg2⟩
          have E2 : w2.cell? ⟨wr.heap.size, 0, none⟩ = some (.int .i64 l[k].who) ∧ w2.cell? ⟨wr.heap.size, 1, none⟩ = some (.int .i64 l[k].seq) ∧ w2.cell? ⟨wr.heap.size, 2, none⟩ = some (.int .i64 l[k].op.kind) ∧ w2.cell? ⟨wr.heap.size, 3, none⟩ = some (.int .i64 l[k].op.id) ∧ w2.cell? ⟨wr.heap.size, 4, none⟩ = some (.int .i64 l[k].op.up) ∧ w2.cell? ⟨wr.heap.size, 5, none⟩ = some (.int .i64 l[k].op.pos) ∧ w2.cell? ⟨wr.heap.size, 6, none⟩ = some (.string l[k].op.text) := by
           obtain ⟨e0, e1, e2, e3, e4, e5, e6⟩ := E1
           have hne : ∀ o : Nat, some (⟨wr.heap.size, o, none⟩ : Addr).block ≠ some w.heap.size := fun o h => by injection h with h; simp only at h; omega
           exact ⟨hg2.cell e0 (hne _), hg2.cell e1 (hne _), hg2.cell e2 (hne _), hg2.cell e3 (hne _), hg2.cell e4 (hne _), hg2.cell e5 (hne _), hg2.cell e6 (hne _)⟩
          have HT2 := Lib.hid ht2; have HG2 := Lib.hid hg2; clear ht2 hg2))
     ·have HQ := Lib.hid hq; clear hq
      go_wp2
      go_ret
      have hne : ¬ l[k].seq = (cntW (l.take k) l[k].who : Int) + 1 := fun e => by rw [e] at HQ; simp [Hid] at HQ
      have hg : goodAt l k = false := by rw [HG1.out]; simp [hne]
      refine ⟨by rw [logOk_false l k hlt hg]; rfl, ?_⟩
      exact ext_grown (ext_then HB.out (ext_boxd HB1.out) HB.out.size) HG2.out (Nat.le_trans HB.out.size (ext_boxd HB1.out).size) (fun k e => by injection e with e; omega)
     ·have HQ := Lib.hid hq; clear hq
      go_wp2
      go_roundg (l.length - (k + 1))
      case measure => have := HK.out; omega
      case rel =>
       have he : (cntW (l.take k) l[k].who : Int) + 1 = l[k].seq := by simpa using HQ.out
       have hg : goodAt l k = true := by rw [HG1.out]; simp [he]
       refine ⟨k + 1, by omega, rfl, by go_num, fun j hj => ?_, ?_, ?_⟩
       ·by_cases hjk : j = k
        ·rw [hjk]; exact hg
        ·exact HG.out j (by omega)
       ·have hf : (fun who => (cntW (l.take (k + 1)) who : Int)) = upd (fun who => (cntW (l.take k) who : Int)) l[k].who ((cntW (l.take k) l[k].who : Int) + 1) := by
         funext x
         rw [cntW_take l k hlt x]
         unfold upd
         by_cases hx : x = l[k].who
         ·rw [if_pos hx, hx, if_pos rfl]; simp
         ·rw [if_neg hx, if_neg (fun e => hx e.symm)]; simp
        rw [hf]
        exact HT2.out
       ·exact ext_grown (ext_then HB.out (ext_boxd HB1.out) HB.out.size) HG2.out (Nat.le_trans HB.out.size (ext_boxd HB1.out).size) (fun k e => by injection e with e; omega)
   ·go_wp2
    go_ret
    exact ⟨by rw [logOk_true l h40 (fun j hj => HG.out j (by omega))]; rfl, HB.out⟩
 ·have hl : logOk l = false := by simp [logOk, h40]
  rw [hl]
  clear hl hr ht
  go_enter Tryd.func38, Tryd.ntmps38
  go_wp2
  go_ret
  exact ⟨rfl, Below.refl _ _⟩
open Go.RowKit
def treeOf (l : List Entry) : List Row := l.foldl (fun t e => opDo t e.op) treeNew
def logTree (l : List Entry) : List Row := if logOk l then treeOf l else []
theorem treeOf_take (l : List Entry) (k : Nat) (hk : k < l.length) : treeOf (l.take (k + 1)) = opDo (treeOf (l.take k)) l[k].op := by
 unfold treeOf; rw [List.take_succ_eq_append_getElem hk, List.foldl_append]; rfl
theorem entryOk_op {e : Entry} (h : entryOk e = true) : opOk e.op = true := by
 simp only [entryOk, Bool.and_eq_true] at h; exact h.1.2
theorem logOk_at {l : List Entry} (h : logOk l = true) (k : Nat) (hk : k < l.length) : entryOk l[k] = true := by
 have := ((logOk_iff l).1 h).2 k hk
 rw [goodAt_lt l k hk, Bool.and_eq_true] at this; exact this.1
theorem treeOk_new : treeOk treeNew = true := by decide
theorem treeOf_ok {l : List Entry} (h : ∀ e ∈ l, opOk e.op = true) : treeOk (treeOf l) = true := by
 have : ∀ (t : List Row), treeOk t = true → (∀ e ∈ l, opOk e.op = true) → treeOk (l.foldl (fun t e => opDo t e.op) t) = true := by
  clear h
  induction l with
  |nil => intro t h _; exact h
  |cons e l ih =>
   intro t h hl
   refine ih _ ?_ (fun e' he => hl e' (List.mem_cons_of_mem _ he))
   have ho := hl e List.mem_cons_self
   show treeOk (opDo t e.op) = true
   unfold opDo
   rw [h, ho, Bool.and_self, if_pos rfl]
   exact treeOk_do t e.op h ho
 exact this treeNew treeOk_new h
set_option maxRecDepth 100000 in
set_option maxHeartbeats 1000000 in
theorem logTree_c (A : Option Addr) (c : Nat) (l : List Entry) (w : World) (ht : Tab w) (hr : Rd w A c l) :
  Calls Tryd.prog 13 #[.slice A l.length c] w fun e w' => ∃ v, e = .returned v ∧ Own 47 w' w.heap.size v (logTree l) ∧ Ext w w' := by
 have hm : l.length ≤ maxLen := Nat.le_trans hr.1 hr.2.1
 unfold maxLen at hm
 have hL := logOk_c A c l w ht hr
 cases hok : logOk l
 ·rw [hok] at hL
  have HL := Lib.hid hL
  have hres : logTree l = [] := by unfold logTree; rw [hok]; rfl
  rw [hres]
  clear hL ht hr hok hres
  go_enter Tryd.func13, Tryd.ntmps13
  go_wp2_with fail
  refine HL.out.mono ?_; rintro e w1 ⟨rfl, hb⟩
  have HB := Lib.hid hb; clear hb HL
  go_wp2_with fail
  go_ret
  exact ⟨_, rfl, Own.nil _ _ _, HB.out⟩
 ·rw [hok] at hL
  have HL := Lib.hid hL
  have hres : logTree l = treeOf l := by unfold logTree; rw [hok]; rfl
  rw [hres]
  have HR := Lib.hid hr; have HT := Lib.hid ht
  clear hL ht hr hok hres
  go_enter Tryd.func13, Tryd.ntmps13
  go_wp2_with fail
  refine HL.out.mono ?_; rintro e w1 ⟨rfl, hb⟩
  have HB := Lib.hid hb; clear hb HL
  go_wp2_with fail
  refine (treeNew_c w1).mono ?_; rintro e w2 ⟨v, rfl, hown, hb2⟩
  have HB2 := Lib.hid (HB.out.trans (hb2.mono HB.out.size))
  have HOWN := Lib.hid (hown.lower HB.out.size)
  clear hown hb2
  go_wp2_with fail
  go_loopg [3, 12] l.length (fun gk v i wr => ∃ k : Nat, k ≤ l.length ∧ Hid (gk = l.length - k) ∧ i = .int .i64 k ∧ Hid (Own 47 wr w.heap.size v (treeOf (l.take k))) ∧ Hid (Below w.heap.size w wr))
  case atStart => exact ⟨0, Nat.zero_le _, rfl, rfl, HOWN.out, HB2.out⟩
  case round =>
   obtain ⟨k, hk, HK, rfl, HO, HW⟩ := hrel
   by_cases hlt : k < l.length
   ·obtain ⟨b, off, rfl, hbl, c0, c1, c2, c3, c4, c5, c6⟩ := ent_at (HR.out.ext HW.out) k hlt
    obtain ⟨A2, cap2, hv, hrd⟩ := HO.out.rd
    subst hv
    have hsz := HW.out.size
    have hC := Lib.hid (opDo_c A2 cap2 (treeOf (l.take k)) l[k].op (wr.alloc (oN l[k]))
     ((HT.out.below HW.out HT.out.pos).alloc _) (hrd.alloc _) (HR.out.okAt k hlt))
    have HN := Lib.hid (treeOf_take l k hlt)
    clear hrd
    go_wp2_with fail
    refine hC.out.mono ?_; rintro e w3 ⟨v3, rfl, hown3, hb3⟩
    have HOWN3 := Lib.hid (hown3.lower (Nat.le_trans hsz (by rw [alloc_sz]; omega)))
    have HB3 := Lib.hid (HW.out.trans (((Below.refl w.heap.size wr).alloc hsz _).trans (hb3.mono (Nat.le_trans hsz (by rw [alloc_sz]; omega)))))
    clear hown3 hb3 hC
    go_wp2_with fail
    go_roundg (l.length - (k + 1))
    case measure => have := HK.out; omega
    case rel => exact ⟨k + 1, by omega, rfl, by go_num, by rw [HN.out]; exact HOWN3.out, HB3.out⟩
   ·have hkl : k = l.length := by omega
    subst hkl
    rw [List.take_length] at HO
    go_wp2_with fail
    go_ret
    exact ⟨_, rfl, HO.out, HW.out⟩
def logSeq (l : List Entry) (who : Int) : Int := if logOk l then cntW l who else -1
set_option maxRecDepth 100000 in
set_option maxHeartbeats 1000000 in
theorem logSeq_c (A : Option Addr) (c : Nat) (l : List Entry) (who : Int) (w : World) (ht : Tab w) (hr : Rd w A c l) (hw : (Lit.int .i64 who).wf = true) :
  Calls Tryd.prog 19 #[.slice A l.length c, .int .i64 who] w fun e w' => e = .returned (.int .i64 (logSeq l who)) ∧ Ext w w' := by
 have hm : l.length ≤ maxLen := Nat.le_trans hr.1 hr.2.1
 unfold maxLen at hm
 have hL := logOk_c A c l w ht hr
 have HW := Lib.hid hw
 cases hok : logOk l
 ·rw [hok] at hL
  have HL := Lib.hid hL
  have hres : logSeq l who = -1 := by unfold logSeq; rw [hok]; rfl
  rw [hres]
  clear hL ht hr hok hres hw
  go_enter Tryd.func19, Tryd.ntmps19
  go_wp2_with fail
  refine HL.out.mono ?_; rintro e w1 ⟨rfl, hb⟩
  have HB := Lib.hid hb; clear hb HL
  go_wp2_with fail
  go_ret
  exact ⟨rfl, HB.out⟩
 ·rw [hok] at hL
  have HL := Lib.hid hL
  have hres : logSeq l who = cntW l who := by unfold logSeq; rw [hok]; rfl
  rw [hres]
  have HR := Lib.hid hr; have HT := Lib.hid ht
  have HOK := Lib.hid hok
  have hl40 := ((logOk_iff l).1 hok).1
  clear hL ht hr hok hres hw
  have hmm := @run_makeMap Tryd.prog
  go_enter Tryd.func19, Tryd.ntmps19
  go_wp2_with fail
  refine HL.out.mono ?_; rintro e w1 ⟨rfl, hb⟩
  have HB := Lib.hid hb; clear hb HL
  have hB1 := HB.out.size
  go_wp2_with fail
  go_loopg [14] l.length (fun gk i wr => ∃ k : Nat, k ≤ l.length ∧ Hid (gk = l.length - k) ∧ i = .int .i64 k ∧ Hid (Tal wr w1.heap.size k (fun who => (cntW (l.take k) who : Int))) ∧ Hid (Below w.heap.size w wr))
  case atStart => exact ⟨0, Nat.zero_le _, rfl, rfl, (by simpa [cntW] using Tal.made w1 : Tal _ _ 0 _), HB.out.alloc hB1 _⟩
  case round =>
   obtain ⟨k, hk, HK, rfl, HTal, HBW⟩ := hrel
   by_cases hlt : k < l.length
   ·obtain ⟨b, off, rfl, hbl, c0, c1, c2, c3, c4, c5, c6⟩ := ent_at (HR.out.ext HBW.out) k hlt
    have hsz := HBW.out.size
    have hwho := entryOk_who (logOk_at HOK.out k hlt)
    have hC := Lib.hid (add_c w1.heap.size k (fun who => (cntW (l.take k) who : Int)) l[k].who (wr.alloc (oN l[k]))
     (HTal.out.below ((Below.refl _ _).alloc (Nat.le_refl _) _)) (by unfold maxLen; omega) (WalkArith.wf_i64 (by omega)) (by omega) (by have := cntW_le (l.take k) l[k].who; rw [List.length_take] at this; omega))
    clear hwho
    go_wp2_with fail
    refine hC.out.mono ?_; rintro e w3 ⟨rfl, ht3, hg3⟩
    have HT3 := Lib.hid ht3; have HG3 := Lib.hid hg3
    clear ht3 hg3 hC
    go_wp2_with fail
    go_roundg (l.length - (k + 1))
    case measure => have := HK.out; omega
    case rel =>
     refine ⟨k + 1, by omega, rfl, by go_num, ?_, ?_⟩
     ·have hf : (fun who => (cntW (l.take (k + 1)) who : Int)) = upd (fun who => (cntW (l.take k) who : Int)) l[k].who ((cntW (l.take k) l[k].who : Int) + 1) := by
       funext x
       rw [cntW_take l k hlt x]
       unfold upd
       by_cases hx : x = l[k].who
       ·rw [if_pos hx, hx, if_pos rfl]; simp
       ·rw [if_neg hx, if_neg (fun e => hx e.symm)]; simp
      rw [hf]
      exact HT3.out
     ·exact ext_grown (HBW.out.alloc hsz _) HG3.out (by rw [alloc_sz]; omega) (fun k e => by injection e with e; omega)
   ·have hkl : k = l.length := by omega
    subst hkl
    rw [List.take_length] at HTal
    have hlook := HTal.out.look who HW.out
    go_wp2_with fail
    go_ret
    exact ⟨rfl, HBW.out⟩
open Go.RowKit
def slotOf (h i : Nat) : Nat := ((h + i) % 40) * 7
structure Ring (w : World) (b h : Nat) (f : Nat → Value) (q : List Entry) : Prop where
 row : w.rowIs b 107 282 f
 hd : h < 40
 len : q.length ≤ 40
 cHd : f 280 = .int .i64 h
 cSz : f 281 = .int .i64 q.length
 at_ : ∀ i (hi : i < q.length) j v, (entE q[i])[j]? = some v → f (slotOf h i + j) = v
 ok : ∀ e ∈ q, e.op.text.size ≤ maxLen
theorem gset {w w' : World} {b : Nat} (h : w.grownBy w' (some b)) (i : Nat) (v : Value) : w.grownBy (w'.setCell ⟨b, i, none⟩ v) (some b) := by
 have hs : ∀ x : World, (x.setCell ⟨b, i, none⟩ v).os = x.os ∧ (x.setCell ⟨b, i, none⟩ v).tape = x.tape ∧ (x.setCell ⟨b, i, none⟩ v).output = x.output := fun x => by unfold World.setCell; split <;> exact ⟨rfl, rfl, rfl⟩
 exact ⟨(hs _).1.trans h.os, (hs _).2.1.trans h.tape, (hs _).2.2.trans h.output, Nat.le_trans h.size (Nat.le_of_eq (setsz _ _ _).symm), fun k hk hne => (setx (fun e => hne (by rw [e]))).trans (h.block k hk hne)⟩
theorem galloc {w w' : World} {row : Option Nat} (h : w.grownBy w' row) (o : Obj) : w.grownBy (w'.alloc o) row :=
 ⟨h.os, h.tape, h.output, Nat.le_trans h.size (by rw [alloc_sz]; omega), fun k hk hne => (Below.heap_alloc w' o k (Nat.lt_of_lt_of_le hk h.size)).trans (h.block k hk hne)⟩
theorem gdrew {w w' : World} {row : Option Nat} (h : w.grownBy w' row) : w.grownBy w'.drew row := ⟨h.os, h.tape, h.output, h.size, h.block⟩
def ringPut (f : Nat → Value) (m : Nat) (e : Entry) : Nat → Value := fun j =>
 if j = m * 7 + 6 then .string e.op.text else if j = m * 7 + 5 then .int .i64 e.op.pos else if j = m * 7 + 4 then .int .i64 e.op.up else if j = m * 7 + 3 then .int .i64 e.op.id else if j = m * 7 + 2 then .int .i64 e.op.kind else if j = m * 7 + 1 then .int .i64 e.seq else if j = m * 7 then .int .i64 e.who else f j
theorem ringPut_far (f : Nat → Value) (m : Nat) (e : Entry) (j : Nat) (h : j < m * 7 ∨ m * 7 + 7 ≤ j) : ringPut f m e j = f j := by
 unfold ringPut
 rw [if_neg (by omega), if_neg (by omega), if_neg (by omega), if_neg (by omega), if_neg (by omega), if_neg (by omega), if_neg (by omega)]
theorem ringPut_at (f : Nat → Value) (m : Nat) (e : Entry) (j : Nat) (v : Value) (h : (entE e)[j]? = some v) : ringPut f m e (m * 7 + j) = v := by
 unfold ringPut entE at *
 match j, h with
 |0, h => simp at h; simp [h]
 |1, h => simp at h; simp [h]
 |2, h => simp at h; simp [h]
 |3, h => simp at h; simp [h]
 |4, h => simp at h; simp [h]
 |5, h => simp at h; simp [h]
 |6, h => simp at h; simp [h]
 |n + 7, h => simp at h
theorem entE_lt {e : Entry} {j : Nat} {v : Value} (h : (entE e)[j]? = some v) : j < 7 := (List.getElem?_eq_some_iff.1 h).1
theorem Ring.put {w w' : World} {b h : Nat} {f : Nat → Value} {q : List Entry} {e : Entry} {m : Nat} (hR : Ring w b h f q) (hq : q.length < 40) (he : e.op.text.size ≤ maxLen) (hm : (h + q.length) % 40 = m)
  (hrow : w'.rowIs b 107 282 (fun j => if j = 281 then .int .i64 (q.length + 1) else ringPut f m e j)) : ∃ f', Ring w' b h f' (q ++ [e]) := by
 have hd := hR.hd
 refine ⟨_, hrow, hd, by simp; omega, ?_, ?_, ?_, ?_⟩
 ·show (if (280 : Nat) = 281 then _ else _) = _
  rw [if_neg (by omega), ringPut_far _ _ _ _ (by omega), hR.cHd]
 ·show (if (281 : Nat) = 281 then _ else _) = _
  rw [if_pos rfl]; simp
 ·intro i hi j v hv
  have hj := entE_lt hv
  show (if slotOf h i + j = 281 then _ else _) = _
  rw [List.length_append, List.length_singleton] at hi
  by_cases hil : i < q.length
  ·rw [List.getElem_append_left hil] at hv
   unfold slotOf
   rw [if_neg (by omega), ringPut_far _ _ _ _ (by omega)]
   exact hR.at_ i hil j v hv
  ·have : i = q.length := by omega
   subst this
   rw [List.getElem_append_right (Nat.le_refl _)] at hv
   simp only [Nat.sub_self, List.getElem_cons_zero] at hv
   unfold slotOf
   rw [hm, if_neg (by omega)]
   exact ringPut_at _ _ _ _ _ hv
 ·intro e' he'
  rcases List.mem_append.1 he' with h1 | h1
  ·exact hR.ok e' h1
  ·rw [List.mem_singleton] at h1; rw [h1]; exact he
theorem Ring.of_block {w w' : World} {b h : Nat} {f : Nat → Value} {q : List Entry} (hR : Ring w b h f q) (e : w'.heap[b]? = w.heap[b]?) : Ring w' b h f q := ⟨hR.row.of_block e, hR.hd, hR.len, hR.cHd, hR.cSz, hR.at_, hR.ok⟩
theorem Ring.ext {w w' : World} {b h : Nat} {f : Nat → Value} {q : List Entry} (hR : Ring w b h f q) (hb : Ext w w') : Ring w' b h f q := hR.of_block (hb.block b hR.row.lt)
set_option maxRecDepth 100000 in
set_option maxHeartbeats 2000000 in
theorem push_c (b h : Nat) (f : Nat → Value) (q : List Entry) (e : Entry) (w : World) (hR : Ring w b h f q) (hq : q.length < 40) (he : e.op.text.size ≤ maxLen) :
  Calls Tryd.prog 75 #[.pointer (some ⟨b, 0, none⟩), e.val] w fun r w' => r = .returned (.bool true) ∧ (∃ f', Ring w' b h f' (q ++ [e])) ∧ w.grownBy w' (some b) := by
 have c0 := hR.row.cell (i := 280) (by omega)
 have c1 := hR.row.cell (i := 281) (by omega)
 rw [hR.cHd] at c0; rw [hR.cSz] at c1
 have hfz := hR.row.frozen
 have hlt := hR.row.lt
 have hd := hR.hd
 have hval : e.val = .agg (cN e) := rfl
 rw [hval]
 have hcs : ∀ j, j < 7 → w.cell? ⟨b, (h + q.length) % 40 * 7 + j, none⟩ = some (f ((h + q.length) % 40 * 7 + j)) := fun j hj => hR.row.cell (by omega)
 have e0 := hcs 0 (by omega); have e1 := hcs 1 (by omega); have e2 := hcs 2 (by omega); have e3 := hcs 3 (by omega); have e4 := hcs 4 (by omega); have e5 := hcs 5 (by omega); have e6 := hcs 6 (by omega)
 rw [Nat.add_zero] at e0
 have HR := Lib.hid hR
 clear hR hcs hval
 have hrem : Int.tmod ((h : Int) + (q.length : Int)) 40 = (((h + q.length) % 40 : Nat) : Int) := by rw [Int.tmod_eq_emod_of_nonneg (by omega)]; omega
 have hm1 : (h + q.length) % 40 < 40 := Nat.mod_lt _ (by omega)
 generalize hm : (h + q.length) % 40 = m at *
 have hmm1 : (m : Int) < 40 := by omega
 have hmm0 : (0 : Int) ≤ (m : Int) := by omega
 go_enter Tryd.func75, Tryd.ntmps75
 go_wp2
 go_region
 go_wp2
 go_ret
 refine ⟨rfl, HR.out.put hq he hm ?_, ?_⟩
 ·exact ((((((((((HR.out.row.set _ _).set _ _).set _ _).set _ _).set _ _).set _ _).set _ _).set _ _).alloc _).drew)
 ·exact gdrew (galloc (gset (gset (gset (gset (gset (gset (gset (gset (World.grownBy.refl w _) _ _) _ _) _ _) _ _) _ _) _ _) _ _) _ _) _)
open Go.RowKit
theorem row_lit (w : World) (c : Array Value) (t : TypeId) : (w.alloc (.cells c t)).rowIs w.heap.size t c.size (fun j => (c[j]?).getD undef) :=
 World.rowIs_alloc w c t _ (fun i hi => by rw [Array.getElem?_eq_getElem hi]; rfl)
set_option maxRecDepth 100000 in
set_option maxHeartbeats 2000000 in
theorem ringOf_c (A : Option Addr) (c : Nat) (l : List Entry) (w : World) (hr : Rd w A c l) (hl : l.length ≤ 40) :
  Calls Tryd.prog 46 #[.slice A l.length c] w fun e w' => ∃ b f, e = .returned (.pointer (some ⟨b, 0, none⟩)) ∧ Ring w' b 0 f l ∧ w.heap.size ≤ b ∧ Ext w w' := by
 have HR := Lib.hid hr
 clear hr
 go_enter Tryd.func46, Tryd.ntmps46
 go_wp2
 go_loopg [10] l.length (fun gk i wr => ∃ k : Nat, k ≤ l.length ∧ Hid (gk = l.length - k) ∧ i = .int .i64 k ∧ Hid (∃ f, Ring wr w.heap.size 0 f (l.take k)) ∧ Hid (Below w.heap.size w wr))
 case atStart =>
  refine ⟨0, Nat.zero_le _, rfl, rfl, ⟨_, row_lit w _ _, by omega, by simp, by rfl, by rfl, fun i hi => absurd hi (by simp), by simp⟩, (Below.refl _ _).alloc (Nat.le_refl _) _⟩
 case round =>
  obtain ⟨k, hk, HK, rfl, HQ, HW⟩ := hrel
  by_cases hlt : k < l.length
  ·obtain ⟨b, off, rfl, hbl, c0, c1, c2, c3, c4, c5, c6⟩ := ent_at (HR.out.ext HW.out) k hlt
   obtain ⟨f, hring⟩ := HQ.out
   have hC := Lib.hid (push_c w.heap.size 0 f (l.take k) l[k] (wr.alloc (oN l[k])) (hring.ext ((Below.refl _ _).alloc (Nat.le_refl _) _)) (by rw [List.length_take]; omega) (HR.out.okAt k hlt))
   have hsz := HW.out.size
   clear hring
   go_wp2_with fail
   refine hC.out.mono ?_; rintro e w3 ⟨rfl, hf3, hg3⟩
   have HF3 := Lib.hid hf3; have HG3 := Lib.hid hg3
   clear hf3 hg3 hC
   go_wp2_with fail
   go_roundg (l.length - (k + 1))
   case measure => have := HK.out; omega
   case rel =>
    refine ⟨k + 1, by omega, rfl, by go_num, ?_, ?_⟩
    ·show ∃ f, _
     rw [List.take_succ_eq_append_getElem hlt]; exact HF3.out
    ·exact ext_grown (HW.out.alloc hsz _) HG3.out (by rw [alloc_sz]; omega) (fun k e => by injection e with e; omega)
  ·have hkl : k = l.length := by omega
   subst hkl
   rw [List.take_length] at HQ
   go_wp2_with fail
   go_ret
   obtain ⟨f, hring⟩ := HQ.out
   exact ⟨_, f, rfl, hring, Nat.le_refl _, HW.out⟩
open Go.RowKit
theorem toList_inj {a b : ByteArray} (h : a.toList = b.toList) : a = b := by
 rw [ByteArray.toList_eq, ByteArray.toList_eq] at h
 obtain ⟨⟨x⟩⟩ := a
 obtain ⟨⟨y⟩⟩ := b
 simp only at h
 rw [h]
theorem ent_ext {a b : Entry} (h1 : a.who = b.who) (h2 : a.seq = b.seq) (h3 : a.op.kind = b.op.kind) (h4 : a.op.id = b.op.id) (h5 : a.op.up = b.op.up) (h6 : a.op.pos = b.op.pos) (h7 : a.op.text.toList = b.op.text.toList) : a = b := by
 obtain ⟨w1, s1, k1, i1, p1, q1, t1⟩ := a
 obtain ⟨w2, s2, k2, i2, p2, q2, t2⟩ := b
 simp only at h1 h2 h3 h4 h5 h6 h7
 have h8 := toList_inj h7
 subst h1 h2 h3 h4 h5 h6 h8
 rfl
theorem neq_ent (a b : Entry) (W : World) : (binOp .neq 44 (.agg (cN a)) (.agg (cN b))).run Tryd.prog W = .ok (.bool (!decide (a = b))) W := by
 have u1 := Tryd.underlying44
 have u2 := Tryd.underlying42
 by_cases h : a = b
 ·subst h
  go_simp
 ·rw [decide_eq_false h]
  go_simp
  have h7 : a.op.text.toList = b.op.text.toList → a.op.text = b.op.text := toList_inj
  by_cases e1 : a.who = b.who
  ·by_cases e2 : a.seq = b.seq
   ·by_cases e3 : a.op.kind = b.op.kind
    ·by_cases e4 : a.op.id = b.op.id
     ·by_cases e5 : a.op.up = b.op.up
      ·by_cases e6 : a.op.pos = b.op.pos
       ·have e7 : ¬ a.op.text.toList = b.op.text.toList := fun e7 => h (ent_ext e1 e2 e3 e4 e5 e6 e7)
        simp [e1, e2, e3, e4, e5, e6, e7]
       ·simp [e1, e2, e3, e4, e5, e6]
      ·simp [e1, e2, e3, e4, e5]
     ·simp [e1, e2, e3, e4]
    ·simp [e1, e2, e3]
   ·simp [e1, e2]
  ·simp [e1]
theorem popIf_nil (b h : Nat) (f : Nat → Value) (e : Entry) (w : World) (hR : Ring w b h f []) :
  Calls Tryd.prog 47 #[.pointer (some ⟨b, 0, none⟩), e.val] w fun r w' => r = .returned (.bool false) ∧ Ext w w' := by
 have c1 := hR.row.cell (i := 281) (by omega)
 rw [hR.cSz] at c1
 simp only [List.length_nil] at c1
 have hlt := hR.row.lt
 have hval : e.val = .agg (cN e) := rfl
 rw [hval]
 clear hR hval
 go_enter Tryd.func47, Tryd.ntmps47
 go_wp2
 all_goals (try go_region)
 all_goals go_wp2
 go_ret
 exact ⟨rfl, by first | exact (Below.refl _ w).alloc (Nat.le_refl _) _ | exact ((Below.refl _ w).alloc (Nat.le_refl _) _).trans (Ext.drewN (Below.refl _ _) 1)⟩
theorem Ring.pop {w w' : World} {b h : Nat} {f : Nat → Value} {e0 : Entry} {q : List Entry} (hR : Ring w b h f (e0 :: q))
  (hrow : w'.rowIs b 107 282 (fun j => if j = 281 then .int .i64 ((q.length : Int)) else if j = 280 then .int .i64 (((h + 1) % 40 : Nat) : Int) else f j)) : ∃ f', Ring w' b ((h + 1) % 40) f' q := by
 have hd := hR.hd
 have hl := hR.len
 simp only [List.length_cons] at hl
 refine ⟨_, hrow, Nat.mod_lt _ (by omega), by omega, ?_, ?_, ?_, fun e he => hR.ok e (List.mem_cons_of_mem _ he)⟩
 ·show (if (280 : Nat) = 281 then _ else _) = _
  rw [if_neg (by omega), if_pos rfl]
 ·show (if (281 : Nat) = 281 then _ else _) = _
  rw [if_pos rfl]
 ·intro i hi j v hv
  have hj := entE_lt hv
  have h1 := hR.at_ (i + 1) (by simp only [List.length_cons]; omega) j v (by simpa using hv)
  have he : slotOf ((h + 1) % 40) i = slotOf h (i + 1) := by unfold slotOf; omega
  show (if slotOf ((h + 1) % 40) i + j = 281 then _ else _) = _
  rw [he]
  have hlt : slotOf h (i + 1) + j < 280 := by unfold slotOf; omega
  rw [if_neg (by omega), if_neg (by omega)]
  exact h1
set_option maxRecDepth 100000 in
set_option maxHeartbeats 2000000 in
theorem popIf_cons (b h : Nat) (f : Nat → Value) (e0 : Entry) (q : List Entry) (e : Entry) (w : World) (hR : Ring w b h f (e0 :: q)) :
  Calls Tryd.prog 47 #[.pointer (some ⟨b, 0, none⟩), e.val] w fun r w' => r = .returned (.bool (decide (e0 = e))) ∧ (if e0 = e then (∃ f', Ring w' b ((h + 1) % 40) f' q) else Ring w' b h f (e0 :: q)) ∧ w.grownBy w' (some b) := by
 have c0 := hR.row.cell (i := 280) (by omega)
 have c1 := hR.row.cell (i := 281) (by omega)
 rw [hR.cHd] at c0; rw [hR.cSz] at c1
 simp only [List.length_cons] at c1
 have hd := hR.hd
 have hl40 := hR.len
 simp only [List.length_cons] at hl40
 have hcs : ∀ j v, j < 7 → (entE e0)[j]? = some v → w.cell? ⟨b, h * 7 + j, none⟩ = some v := fun j v hj hv => by
  have := hR.at_ 0 (by simp) j v (by simpa using hv)
  unfold slotOf at this
  rw [Nat.add_zero, Nat.mod_eq_of_lt hd] at this
  rw [hR.row.cell (by omega), this]
 have e0' := hcs 0 _ (by omega) rfl; have e1 := hcs 1 _ (by omega) rfl; have e2 := hcs 2 _ (by omega) rfl; have e3 := hcs 3 _ (by omega) rfl; have e4 := hcs 4 _ (by omega) rfl; have e5 := hcs 5 _ (by omega) rfl; have e6 := hcs 6 _ (by omega) rfl
 rw [Nat.add_zero] at e0'
 have hfz := hR.row.frozen
 have hlt := hR.row.lt
 have hne := neq_ent e0 e
 have hval : e.val = .agg (cN e) := rfl
 rw [hval]
 have hh0 : (0 : Int) ≤ (h : Int) := by omega
 have hh1 : (h : Int) < 40 := by omega
 have hsz0 : (((q.length : Int) + 1) == 0) = false := by rw [beq_eq_false_iff_ne]; omega
 have hrem : Int.tmod ((h : Int) + 1) 40 = (((h + 1) % 40 : Nat) : Int) := by rw [Int.tmod_eq_emod_of_nonneg (by omega)]; omega
 have HR := Lib.hid hR
 clear hR hcs hval
 by_cases he : e0 = e
 ·have HE := Lib.hid he
  rw [decide_eq_true he] at hne ⊢
  simp only [if_pos he]
  clear he
  generalize hm : (h + 1) % 40 = m at *
  go_enter Tryd.func47, Tryd.ntmps47
  go_wp2
  go_region
  go_wp2
  go_ret
  subst hm
  exact ⟨rfl, HR.out.pop ((((HR.out.row.set _ _).set _ _).alloc _).drew), gdrew (galloc (gset (gset (World.grownBy.refl w _) _ _) _ _) _)⟩
 ·have HE := Lib.hid he
  rw [decide_eq_false he] at hne ⊢
  simp only [if_neg he]
  clear he
  go_enter Tryd.func47, Tryd.ntmps47
  go_wp2
  go_region
  go_wp2
  go_ret
  refine ⟨rfl, HR.out.ext (((Below.refl _ w).alloc (Nat.le_refl _) _).trans (Ext.drewN (Below.refl _ _) 1)), gdrew (galloc (World.grownBy.refl w _) _)⟩
open Go.RowKit
def Coll (w : World) (n0 bx : Nat) (l : List Entry) : Prop := ∃ v, Boxed w bx 23 v ∧ Own 44 w n0 v l
theorem Coll.ext {w w' : World} {n0 bx : Nat} {l : List Entry} (h : Coll w n0 bx l) (hb : Ext w w') : Coll w' n0 bx l := by
 obtain ⟨v, h1, h2⟩ := h
 exact ⟨v, (hb.block bx h1.lt).trans h1, h2.below hb⟩
set_option maxRecDepth 100000 in
theorem coll_c (n0 bx : Nat) (l : List Entry) (e : Entry) (w : World) (h : Coll w n0 bx l) (hn0 : n0 ≤ w.heap.size) (hbx : n0 ≤ bx) (hl : l.length < 1000) (he : e.op.text.size ≤ maxLen) :
  Calls Tryd.prog 76 #[e.val, .pointer (some ⟨bx, 0, none⟩)] w fun r w' => r = .returned (.tuple #[]) ∧ Coll w' n0 bx (l ++ [e]) ∧ Kept [23, 44] (fun _ => False) w w' ∧ Below n0 w w' := by
 obtain ⟨v, h1, h2⟩ := h
 obtain ⟨i0, hi, hz0, hz1, hz2⟩ := ent_info
 have c0 := h1.cell
 have f0 := h1.frozen
 have hlt := h1.lt
 have hval : e.val = .agg (cN e) := rfl
 rw [hval]
 have hnewx : ((w.alloc (oN e)).alloc (oN e)).heap[w.heap.size + 1]? = some (.cells (cN e) 44 (0, 0)) := by
  have := World.alloc_heap_new (w.alloc (oN e)) (oN e)
  rwa [alloc_sz] at this
 have happ := run_append_own_at (P := Tryd.prog) (w := (w.alloc (oN e)).alloc (oN e)) n0 23 23 44 i0 _ 7 64 und_ents hi hz0 hz1 hz2 rfl (by decide) v l.length _ ((h2.1.alloc _).alloc _) ⟨w.heap.size + 1, 0, none⟩ 1 1 (entE e) rfl (fun j u hj => by
   have e1 : (⟨w.heap.size + 1, 0, none⟩ : Addr).add j = ⟨w.heap.size + 1, 0 + j, none⟩ := by unfold Addr.add; split <;> simp_all
   rw [e1, Nat.zero_add]
   unfold World.cell?
   simp only [hnewx]
   simpa [entE] using hj) (fun u hu => Flat.one e u hu) (by unfold maxLen; omega) (by omega) (by rw [alloc_sz, alloc_sz]; omega)
 obtain ⟨v', w1, hrun, hown, hgrow, -, hblk⟩ := happ
 obtain ⟨g', cap', rfl⟩ := ownsRow_succ hown
 obtain ⟨hv1, hv2, hr2, hk2, hb2⟩ := Boxed.appended (W := w.alloc (oN e)) (h1.alloc _) (by decide) (h2.1.alloc _) (by rw [alloc_sz]; omega) hbx hown hgrow
 have hK : Kept [23, 44] (fun _ => False) w (w1.setCell ⟨bx, 0, none⟩ (.slice (some ⟨g', 0, none⟩) (l.length + 1) cap')) := by
  have hd : Kept [23, 44] (fun _ => False) w ((w.alloc (oN e)).alloc (oN e)) := ((Kept.refl w).alloc _).alloc _
  refine (hd.grown hgrow (fun b hb => ?_)).setTurn hv1 (by simp) _ _
  rcases ((h2.1.alloc (oN e)).alloc (oN e)).2 with ⟨h9, _⟩ | ⟨g9, cap9, cur9, h9, _, h8, _⟩
  ·rw [h9] at hb; simp [Value.ownBlock] at hb
  ·rw [h9] at hb
   simp only [Value.ownBlock, Option.some.injEq] at hb
   subst hb
   exact ⟨_, _, _, h8, by simp⟩
 have FIN : Hid (Coll (w1.setCell ⟨bx, 0, none⟩ (.slice (some ⟨g', 0, none⟩) (l.length + 1) cap')) n0 bx (l ++ [e]) ∧ Kept [23, 44] (fun _ => False) w (w1.setCell ⟨bx, 0, none⟩ (.slice (some ⟨g', 0, none⟩) (l.length + 1) cap')) ∧ Below n0 w (w1.setCell ⟨bx, 0, none⟩ (.slice (some ⟨g', 0, none⟩) (l.length + 1) cap'))) := by
  refine ⟨⟨_, hv2, ⟨?_, ?_⟩⟩, hK, ((Below.refl n0 w).alloc hn0 _).trans hb2⟩
  ·rw [flat_append, List.length_append, List.length_singleton]; exact hr2
  ·intro x hx
   rcases List.mem_append.1 hx with h | h
   ·exact h2.2 x h
   ·rw [List.mem_singleton] at h; rw [h]; exact he
 have hc1 := hv1.cell
 have hf1 := hv1.frozen
 clear h1 h2 hi hz0 hz1 hz2 hnewx hown hgrow hblk hv1 hv2 hr2 hk2 hb2 hK hval
 go_enter Tryd.func76, Tryd.ntmps76
 go_wp2_with (at_builtin; refine wpList_append_run rfl _ _ _ rfl rfl rfl hrun ?_)
 go_end0
 exact ⟨rfl, FIN.out⟩
open Go.RowKit
theorem Ring.slot {w : World} {b h : Nat} {f : Nat → Value} {q : List Entry} (hR : Ring w b h f q) (i : Nat) (hi : i < q.length) (j : Nat) (v : Value) (hv : (entE q[i])[j]? = some v) : w.cell? ⟨b, (h + i) % 40 * 7 + j, none⟩ = some v := by
 have := hR.at_ i hi j v hv
 have hj := entE_lt hv
 unfold slotOf at this
 rw [hR.row.cell (by omega), this]
theorem Ring.kept {ts : List TypeId} {L : Nat → Prop} {w w' : World} {b h : Nat} {f : Nat → Value} {q : List Entry} (hR : Ring w b h f q) (k : Kept ts L w w') (ht : 107 ∉ ts) : Ring w' b h f q := by
 obtain ⟨cs, hcs⟩ := rowIs_blk hR.row
 exact hR.of_block ((k.cells _ _ _ _ hcs ht).trans hcs.symm)
set_option maxRecDepth 100000 in
set_option maxHeartbeats 2000000 in
theorem each_coll (b h : Nat) (f : Nat → Value) (q : List Entry) (n0 bx : Nat) (w : World) (hR : Ring w b h f q) (hc : Coll w n0 bx []) (hn0 : n0 ≤ w.heap.size) (hbx : n0 ≤ bx) :
  Calls Tryd.prog 53 #[.pointer (some ⟨b, 0, none⟩), .func (.func 76) #[] #[.pointer (some ⟨bx, 0, none⟩)]] w fun r w' => r = .returned (.tuple #[]) ∧ Coll w' n0 bx q ∧ Below n0 w w' := by
 have c1 := hR.row.cell (i := 281) (by omega)
 rw [hR.cSz] at c1
 have hlt := hR.row.lt
 have hd := hR.hd
 have hl40 := hR.len
 have HR := Lib.hid hR; have HC := Lib.hid hc
 clear hR hc
 go_enter Tryd.func53, Tryd.ntmps53
 go_wp2
 go_loopg [9] q.length (fun gk i wr => ∃ k : Nat, k ≤ q.length ∧ Hid (gk = q.length - k) ∧ i = .int .i64 k ∧ Hid (Coll wr n0 bx (q.take k)) ∧ Hid (Kept [23, 44] (fun _ => False) w wr) ∧ Hid (Below n0 w wr))
 case atStart => exact ⟨0, Nat.zero_le _, rfl, rfl, HC.out, Kept.refl _, Below.refl _ _⟩
 case round =>
  obtain ⟨k, hk, HK, rfl, HQ, HKe, HB⟩ := hrel
  by_cases hkl : k < q.length
  ·have hring := HR.out.kept HKe.out (by decide)
   have c0 := hring.row.cell (i := 280) (by omega)
   rw [hring.cHd] at c0
   have hk40 : k < 40 := by omega
   have hwr : IntKind.i64.wrap ((h : Int) + (k : Int)) = (h : Int) + (k : Int) := by rw [IntKind.wrap_i64]; omega
   have hrem : Int.tmod ((h : Int) + (k : Int)) 40 = (((h + k) % 40 : Nat) : Int) := by rw [Int.tmod_eq_emod_of_nonneg (by omega)]; omega
   have e0 := hring.slot k hkl 0 _ rfl; have e1 := hring.slot k hkl 1 _ rfl; have e2 := hring.slot k hkl 2 _ rfl; have e3 := hring.slot k hkl 3 _ rfl; have e4 := hring.slot k hkl 4 _ rfl; have e5 := hring.slot k hkl 5 _ rfl; have e6 := hring.slot k hkl 6 _ rfl
   rw [Nat.add_zero] at e0
   have hm1 : (h + k) % 40 < 40 := Nat.mod_lt _ (by omega)
   generalize hm : (h + k) % 40 = m at *
   have hmm1 : (m : Int) < 40 := by omega
   have hmm0 : (0 : Int) ≤ (m : Int) := by omega
   have hsz := HB.out.size
   have hC := fun (W : World) (hw : W = wr.drew) => coll_c n0 bx (q.take k) q[k] W (hw ▸ (HQ.out.ext (Ext.drewN (Below.refl _ wr) 1))) (by rw [hw]; exact Nat.le_trans hn0 hsz) hbx (by rw [List.length_take]; omega) (HR.out.ok _ (List.getElem_mem hkl))
   have HCC := Lib.hid hC
   clear hring hC hm1 hm
   go_wp2
   refine wp_region_any (by kernel_rfl) ?_
   change wpAny _ _ _ _ _ _ _ (World.drew _)
   refine wpAny_take (i := 0) (v := ?_) rfl (by kernel_rfl) (by kernel_rfl) (by kernel_rfl) (fun _ _ _ h => h) (Or.inl ⟨by rfl, ?_⟩) ?_
   rotate_left
   ·(intro w; go_simp; try with_reducible rfl)
   refine wpAny_take (i := 1) (v := ?_) rfl (by kernel_rfl) (by kernel_rfl) (by kernel_rfl) (fun _ _ _ h => h) (Or.inl ⟨by rfl, ?_⟩) ?_
   rotate_left
   ·(intro w; go_simp; try with_reducible rfl)
   refine wpAny_take (i := 2) (v := ?_) rfl (by kernel_rfl) (by kernel_rfl) (by kernel_rfl) (fun _ _ _ h => h) (Or.inl ⟨by rfl, ?_⟩) ?_
   rotate_left
   ·(intro w; go_simp; try with_reducible rfl)
   refine wpAny_take (i := 3) (v := ?_) rfl (by kernel_rfl) (by kernel_rfl) (by kernel_rfl) (fun _ _ _ h => h) (Or.inl ⟨by rfl, ?_⟩) ?_
   rotate_left
   ·(intro w; go_simp; try with_reducible rfl)
   refine wpAny_take (i := 4) (v := ?_) rfl (by kernel_rfl) (by kernel_rfl) (by kernel_rfl) (fun _ _ _ h => h) (Or.inl ⟨by rfl, ?_⟩) ?_
   rotate_left
   ·(intro w; go_simp; try with_reducible rfl)
   refine wpAny_take (i := 6) (v := ?_) rfl (by kernel_rfl) (by kernel_rfl) (by kernel_rfl) (fun _ _ _ h => h) (Or.inl ⟨by rfl, ?_⟩) ?_
   rotate_left
   ·(intro w; go_simp; try with_reducible rfl)
   refine wpAny_take (i := 9) (v := ?_) rfl (by kernel_rfl) (by kernel_rfl) (by kernel_rfl) (fun _ _ _ h => h) (Or.inl ⟨by rfl, ?_⟩) ?_
   rotate_left
   ·(intro w; go_simp; try with_reducible rfl)
   refine wpAny_take (i := 10) (v := ?_) rfl (by kernel_rfl) (by kernel_rfl) (by kernel_rfl) (fun _ _ _ h => h) (Or.inl ⟨by rfl, ?_⟩) ?_
   rotate_left
   ·(intro w; go_simp; try with_reducible rfl)
   refine wpAny_ready (rs := [5]) (by kernel_rfl) (by simp) ?_
   refine AllReady.cons rfl (fun K hK => ?_) AllReady.nil
   go_simp
   refine hK _ _ ?_; clear hK K
   refine wpAny_take (i := 7) (v := ?_) rfl (by kernel_rfl) (by kernel_rfl) (by kernel_rfl) (fun _ _ _ h => h) (Or.inl ⟨by rfl, ?_⟩) ?_
   rotate_left
   ·(intro w; go_simp; try with_reducible rfl)
   refine wpAny_take (i := 8) (v := ?_) rfl (by kernel_rfl) (by kernel_rfl) (by kernel_rfl) (fun _ _ _ h => h) (Or.inl ⟨by rfl, ?_⟩) ?_
   rotate_left
   ·(intro w; go_simp; try with_reducible rfl)
   refine wpAny_take (i := 11) (v := ?_) rfl (by kernel_rfl) (by kernel_rfl) (by kernel_rfl) (fun _ _ _ h => h) (Or.inl ⟨by rfl, ?_⟩) ?_
   rotate_left
   ·(intro w; go_simp; try with_reducible rfl)
   refine wpAny_ready (rs := [12]) (by kernel_rfl) (by simp) ?_
   refine AllReady.cons rfl (fun K hK => ?_) AllReady.nil
   go_simp
   refine hK _ _ ?_; clear hK K
   refine wpAny_ready (rs := [13]) (by kernel_rfl) (by simp) ?_
   refine AllReady.cons rfl (fun K hK => ?_) AllReady.nil
   go_simp
   go_wp2_with (go_at_call 76; refine (HCC.out _ rfl).mono ?_; rintro r w2 ⟨rfl, hq2, hk2, hb2⟩; have HQ2 := Lib.hid hq2; have HK2 := Lib.hid hk2; have HB2 := Lib.hid hb2; clear hq2 hk2 hb2)
   refine wpAny_done (by kernel_rfl) ?_ _
   go_wp2
   go_roundg (q.length - (k + 1))
   case measure => have := HK.out; omega
   case rel =>
    refine ⟨k + 1, by omega, rfl, by go_num, ?_, ?_, ?_⟩
    ·show Coll _ _ _ _
     rw [List.take_succ_eq_append_getElem hkl]; exact HQ2.out
    ·exact HKe.out.trans ((Kept.of_ext (Ext.drewN (Below.refl _ wr) 1)).trans HK2.out)
    ·exact HB.out.trans ((Ext.drewN (Below.refl n0 wr) 1).trans HB2.out)
  ·have : k = q.length := by omega
   subst this
   rw [List.take_length] at HQ
   go_wp2
   go_end0
   exact ⟨rfl, HQ.out, HB.out⟩
set_option maxRecDepth 100000 in
theorem entries_c (b h : Nat) (f : Nat → Value) (q : List Entry) (w : World) (hR : Ring w b h f q) :
  Calls Tryd.prog 49 #[.pointer (some ⟨b, 0, none⟩)] w fun r w' => ∃ v, r = .returned v ∧ Own 44 w' w.heap.size v q ∧ Ext w w' := by
 have c1 := hR.row.cell (i := 281) (by omega)
 rw [hR.cSz] at c1
 have hl40 := hR.len
 have hlt := hR.row.lt
 obtain ⟨i0, hi, hz0, hz1, hz2⟩ := ent_info
 have HR := Lib.hid hR
 clear hR
 go_enter Tryd.func49, Tryd.ntmps49
 go_wp2_with (first
  |(at_make; refine wpList_make_own _ rfl _ _ 23 rfl w.heap.size 44 i0 _ 7 und_ents hi hz0 hz1 .i64 .i64 _ q.length rfl rfl rfl (by rw [hz2]; omega) (by unfold maxLen; omega) (Nat.le_refl _) ?_; intro w0 hown0 hgrow0; have HO := Lib.hid hown0; have HG := Lib.hid hgrow0; clear hown0 hgrow0))
 have hsz0 := HG.out.size
 have hR2 : Ring (w0.alloc (.cells #[.slice (some ⟨w.heap.size, 0, none⟩) 0 q.length] 23)) b h f q := (HR.out.of_block (HG.out.block b hlt (by simp))).ext ((Below.refl _ _).alloc (Nat.le_refl _) _)
 have hE := Lib.hid (each_coll b h f q w.heap.size w0.heap.size _ hR2 ⟨_, World.alloc_heap_new w0 _, ⟨HO.out.alloc _, by simp⟩⟩ (by rw [alloc_sz]; omega) hsz0)
 clear hR2 hi hz0 hz1 hz2
 refine hE.out.mono ?_
 rintro r w3 ⟨rfl, hc3, hb3⟩
 obtain ⟨v, h1, h2⟩ := hc3
 have c3 := h1.cell
 have H := Lib.hid (And.intro h2 hb3)
 clear h1 h2 hb3 hE
 go_wp2
 go_ret
 refine ⟨v, rfl, H.out.1, ?_⟩
 exact (((Below.refl w.heap.size w).grown HG.out (Nat.le_refl _) (by simp)).alloc hsz0 _).trans H.out.2
end Go.Proofs.YtjhbbgeebobcpaaDoor
