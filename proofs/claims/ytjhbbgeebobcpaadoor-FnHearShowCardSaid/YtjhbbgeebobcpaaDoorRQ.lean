/- Plain laws: a change takes no row away; a row that is made is there. What a client shows, by either; the law's search for a row. Walks of the laws' comparisons: rows, entries, clients. The walk of laws.FnClientShow, over what is drawn. Walk of DrawClientShow: what the client laws draw. What a row gives: a slice of bytes as an argument; the table of the rows' owners. -/
import Derived.Test.YtjhbbgeebobcpaaDoorQS
import Derived.Test.YtjhbbgeebobcpaaDoorQW
import Derived.Test.YtjhbbgeebobcpaaDoorQO
import Derived.Test.YtjhbbgeebobcpaaDoorQQ
import Derived.Test.YtjhbbgeebobcpaaDoorQL
import Derived.Test.YtjhbbgeebobcpaaDoorQY
import Derived.Test.YtjhbbgeebobcpaaDoorRP
import Derived.Test.YtjhbbgeebobcpaaDoorCards
import Derived.Test.YtjhbbgeebobcpaaDoorTie
import Derived.WalkKit
import Derived.ProofKit
import Derived.OpenShut
import Derived.OpenVars
import Derived.ChangeVars
import Derived.ChangeSlices
import Derived.ChangeOld
import Derived.Below
import Derived.Carry
import Derived.Deep.DeepHandedRow
import Derived.Lib.LaidTab
namespace Go.Proofs.YtjhbbgeebobcpaaDoor
open Go.RowKit
set_option linter.unusedVariables false

namespace T
theorem put_perm (t : T) (nd : (ids t).Nodup) (id : Int) (tx : ByteArray) (s : T) (p : Int × Int) (hp : p.1 ∈ ids t) (hp2 : 0 < p.2 → p.2 ∈ ids t) : (ids (put t id tx s p)).Perm (id :: (ids s ++ ids t)) := by
  unfold put
  split
  · rename_i h0; exact insN_perm p.2 id tx s t (hp2 h0) nd
  · exact insF_perm p.1 id tx s t hp nd
theorem doT_ids (t : T) (h : Valid t) (o : Op) (ho : opOk o = true) : (∀ a ∈ ids t, a ∈ ids (doT t o)) ∧ (o.kind = 1 → o.id ∈ ids (doT t o)) := by
  obtain ⟨hm, hk, htx, hpos⟩ := opOk_kind ho
  have hr3 := h.root 3 rfl
  have hroot : isRoot o.id = false := made_not_root _ hm
  have hn := near_ok t h.2.2 hr3.1 o.id o.up o.pos
  unfold doT
  rcases hk with hk | hk | hk
  · rw [if_neg (by omega), if_pos hk]
    split
    · rename_i hi; exact ⟨fun a ha => ha, fun _ => hi⟩
    · have hpm := put_perm t h.2.2 o.id o.text nil (near t o.id o.up o.pos) hn.1 (fun h0 => by
        obtain ⟨e, _, hu, _⟩ := hn.2 h0
        rw [e] at h0 ⊢
        exact up_mem t h.2.2 _ _ hu)
      exact ⟨fun a ha => hpm.mem_iff.2 (List.mem_cons_of_mem _ (List.mem_append_right _ ha)), fun _ => hpm.mem_iff.2 List.mem_cons_self⟩
  · rw [if_pos hk, setT_ids]
    exact ⟨fun a ha => ha, fun h1 => by omega⟩
  · rw [if_neg (by omega), if_neg (by omega), if_pos hk]
    refine ⟨?_, fun h1 => by omega⟩
    cases hg : get o.id t with
    | none => exact fun a ha => ha
    | some p =>
      obtain ⟨x, f⟩ := p
      simp only
      split
      · exact fun a ha => ha
      · rename_i hq
        obtain ⟨hndc, hsub, hback, hfwd⟩ := cut_facts t h.2.2 o.id x f hg
        have h3f : 3 ∉ ids f := by
          intro h3
          obtain ⟨q, hq, _⟩ := under_in t h.2.2 o.id x f hg 3 h3
          rw [hr3.2] at hq; cases hq
        have hpm := put_perm (cut o.id t) hndc o.id x f (near t o.id o.up o.pos) (by
          unfold near
          split
          · rename_i hu
            exact hback o.up hu (fun e => hq (.inl e)) (fun e => hq (.inr e))
          · exact hback 3 hr3.1 (fun e => by rw [← e] at hroot; cases hroot) h3f) (fun h0 => by
          obtain ⟨e, hne, hu, hup⟩ := hn.2 h0
          rw [e] at h0 ⊢
          rw [hup] at hu
          exact hback o.pos (up_mem t h.2.2 _ _ hu) hne (fun hf => hq ((under_step t h.2.2 o.id x f hg o.pos o.up hu).1 hf)))
        intro a ha
        rw [hpm.mem_iff, List.mem_cons, List.mem_append]
        by_cases e1 : a = o.id
        · exact .inl e1
        · by_cases e2 : a ∈ ids f
          · exact .inr (.inl e2)
          · exact .inr (.inr (hback a ha e1 e2))
end T

def idsL (t : List Row) : List Int := t.map (·.id)
theorem idsL_build {t : List Row} (ht : treeOk t = true) : idsL t = T.ids (T.build t) ∧ (idsL t).Nodup := by
  obtain ⟨hv, he⟩ := T.valid_build t ht
  have h1 : idsL t = T.ids (T.build t) := by
    have := T.rows_ids 0 (T.build t)
    rw [he] at this; exact this
  exact ⟨h1, by rw [h1]; exact hv.2.2⟩
theorem doL_ids {t : List Row} {o : Op} (ht : treeOk t = true) (ho : opOk o = true) : (∀ a ∈ idsL t, a ∈ idsL (doL t o)) ∧ (o.kind = 1 → o.id ∈ idsL (doL t o)) := by
  obtain ⟨h1, h2⟩ := T.doT_ids (T.build t) (T.valid_build t ht).1 o ho
  have h3 : idsL (doL t o) = T.ids (T.doT (T.build t) o) := by rw [doL_build t o ht ho]; exact T.rows_ids 0 _
  rw [(idsL_build ht).1, h3]
  exact ⟨h1, h2⟩
theorem runOps_ids (l : List Entry) : ∀ t : List Row, treeOk t = true → (∀ e ∈ l, opOk e.op = true) → treeOk (runOps t l) = true ∧ (∀ a ∈ idsL t, a ∈ idsL (runOps t l)) ∧ (∀ e ∈ l, e.op.kind = 1 → e.op.id ∈ idsL (runOps t l)) := by
  induction l with
  | nil => intro t ht _; exact ⟨ht, fun a ha => ha, by simp⟩
  | cons e l ih =>
    intro t ht hl
    have ho := hl e List.mem_cons_self
    have hod : opDo t e.op = doL t e.op := by unfold opDo; rw [ht, ho]; rfl
    have h1 := doL_ids ht ho
    rw [← hod] at h1
    have htn : treeOk (opDo t e.op) = true := by rw [hod]; exact treeOk_do t _ ht ho
    obtain ⟨a1, a2, a3⟩ := ih (opDo t e.op) htn (fun x hx => hl x (List.mem_cons_of_mem _ hx))
    refine ⟨a1, fun a ha => a2 a (h1.1 a ha), fun x hx hk => ?_⟩
    rcases List.mem_cons.1 hx with rfl | hx
    · exact a2 _ (h1.2 hk)
    · exact a3 x hx hk
theorem runOps_long {l : List Entry} {t : List Row} (ht : treeOk t = true) (hl : ∀ e ∈ l, opOk e.op = true) : t.length ≤ (runOps t l).length := by
  have h := runOps_ids l t ht hl
  have := T.nodup_le (idsL t) (idsL (runOps t l)) (idsL_build ht).2 h.2.1
  simpa [idsL] using this
end Go.Proofs.YtjhbbgeebobcpaaDoor
namespace Go.Proofs.YtjhbbgeebobcpaaDoor
open Go.RowKit
set_option linter.unusedVariables false

theorem showL_showS (c : Client) : showL c = showS c := by
  unfold showL showS
  split
  · rename_i h
    exact treeFrom_op (clientOk_parts h).2.2.2.1 (waitOk_ent (clientOk_parts h).2.2.2.2.2.2.2.2.2)
  · rfl
theorem showL_ok {c : Client} (h : clientOk c = true) : showL c = runOps c.base c.wait ∧ treeOk (showL c) = true ∧ (∀ a ∈ idsL c.base, a ∈ idsL (showL c)) ∧ (∀ e ∈ c.wait, e.op.kind = 1 → e.op.id ∈ idsL (showL c)) ∧ c.base.length ≤ (showL c).length := by
  have hp := clientOk_parts h
  have hw := waitOk_ent hp.2.2.2.2.2.2.2.2.2
  have h1 : showL c = runOps c.base c.wait := by unfold showL; rw [if_pos h]
  rw [h1]
  obtain ⟨a1, a2, a3⟩ := runOps_ids c.wait c.base hp.2.2.2.1 hw
  exact ⟨rfl, a1, a2, a3, runOps_long hp.2.2.2.1 hw⟩
theorem atI_in {t : List Row} {id : Int} (h : id ∈ idsL t) : 0 ≤ atI t id := by
  unfold atI
  cases hx : idx t id with
  | some k => show (0 : Int) ≤ (k : Int); omega
  | none => exact absurd h ((idx_none t id).1 hx)
set_option maxRecDepth 100000 in
set_option maxHeartbeats 1000000 in
theorem lpAt_c (A : Option Addr) (c : Nat) (t : List Row) (id : Int) (w : World) (hr : Rd w A c t) :
    Calls Tryd.prog 26 #[.slice A t.length c, .int .i64 id] w fun e w' => e = .returned (.int .i64 (atI t id)) ∧ w' = w := by
  have hm : t.length ≤ maxLen := Nat.le_trans hr.1 hr.2.1
  unfold maxLen at hm
  have HR := Lib.hid hr
  clear hr
  go_enter Tryd.func26, Tryd.ntmps26
  go_wp2_with fail
  go_loop [5] (fun i => ∃ k : Nat, k ≤ t.length ∧ i = .int .i64 k ∧ Hid (∀ j (hj : j < t.length), j < k → t[j].id ≠ id)) (fun i => t.length - (intOf i).toNat)
  case atStart => exact ⟨0, Nat.zero_le _, rfl, fun j _ h => by omega⟩
  case round =>
    obtain ⟨k, hk, rfl, HA⟩ := hrel
    by_cases hlt : k < t.length
    · obtain ⟨b, off, rfl, hbl, c0, c1, c2⟩ := row_at HR.out k hlt
      by_cases he : t[k].id = id
      · have he' : (t[k].id == id) = true := by simp [he]
        have HX : Hid (atI t id = k) := by show _ = _; unfold atI; rw [idx_first t id k hlt HA.out he]
        clear he c1 c2
        go_wp2_with fail
        go_ret
        exact ⟨by rw [HX.out]; rfl, rfl⟩
      · have he' : (t[k].id == id) = false := by simp [he]
        have HN : Hid (∀ j (hj : j < t.length), j < k + 1 → t[j].id ≠ id) := fun j hj hjk => by
          by_cases e : j = k
          · subst e; exact he
          · exact HA.out j hj (by omega)
        clear he c1 c2
        go_wp2_with fail
        go_round
        case rel => exact ⟨k + 1, by omega, by go_num, HN⟩
        case measure => simp [intOf]; omega
    · have HX : Hid (atI t id = -1) := by show _ = _; unfold atI; rw [idx_no t id (fun j hj => HA.out j hj (by omega))]
      go_wp2_with fail
      go_ret
      exact ⟨by rw [HX.out]; rfl, rfl⟩
end Go.Proofs.YtjhbbgeebobcpaaDoor
namespace Go.Proofs.YtjhbbgeebobcpaaDoor
open Go.RowKit
set_option linter.unusedVariables false

theorem row_ext {a b : Row} (h1 : a.id = b.id) (h2 : a.depth = b.depth) (h3 : a.text.toList = b.text.toList) : a = b := by
  obtain ⟨i1, d1, t1⟩ := a
  obtain ⟨i2, d2, t2⟩ := b
  simp only at h1 h2 h3
  have h8 := toList_inj h3
  subst h1 h2 h8; rfl
theorem neq_row (a b : Row) (W : World) : (binOp .neq 47 (.agg #[.int .i64 a.id, .int .i64 a.depth, .string a.text]) (.agg #[.int .i64 b.id, .int .i64 b.depth, .string b.text])).run Tryd.prog W = .ok (.bool (!decide (a = b))) W := by
  have u1 := Tryd.underlying47
  by_cases h : a = b
  · subst h
    go_simp
  · rw [decide_eq_false h]
    go_simp
    by_cases e1 : a.id = b.id
    · by_cases e2 : a.depth = b.depth
      · have e7 : ¬ a.text.toList = b.text.toList := fun e7 => h (row_ext e1 e2 e7)
        simp [e1, e2, e7]
      · simp [e1, e2]
    · simp [e1]

set_option maxRecDepth 100000 in
set_option maxHeartbeats 1000000 in
theorem lpRows_c (A : Option Addr) (c : Nat) (a : List Row) (A' : Option Addr) (c' : Nat) (b : List Row) (w : World) (hr : Rd w A c a) (hr' : Rd w A' c' b) :
    Calls Tryd.prog 14 #[.slice A a.length c, .slice A' b.length c'] w fun e w' => e = .returned (.bool (decide (a = b))) ∧ ∃ n, w' = w.drewN n := by
  have hm : a.length ≤ maxLen := Nat.le_trans hr.1 hr.2.1
  unfold maxLen at hm
  have HR := Lib.hid hr; have HR' := Lib.hid hr'
  clear hr hr'
  by_cases hl : a.length = b.length
  · have hl' : ((a.length : Int) != b.length) = false := by simp [hl]
    have HL := Lib.hid hl
    have hml : b.length ≤ 9223372036854775807 := by omega
    clear hl
    go_enter Tryd.func14, Tryd.ntmps14
    go_wp2_with fail
    go_loopg [5] a.length (fun gk i wr => ∃ (k n : Nat), wr = w.drewN n ∧ k ≤ a.length ∧ Hid (gk = a.length - k) ∧ i = .int .i64 k ∧ Hid (∀ j (h : j < a.length) (h' : j < b.length), j < k → a[j] = b[j]))
    case atStart => exact ⟨0, 0, rfl, Nat.zero_le _, rfl, rfl, fun j _ _ h => by omega⟩
    case round =>
      obtain ⟨k, n, rfl, hk, HK, rfl, HA⟩ := hrel
      by_cases hlt : k < a.length
      · have hltb : k < b.length := by have := HL.out; omega
        obtain ⟨b1, o1, rfl, -, c0, c1, c2⟩ := row_at HR.out k hlt
        obtain ⟨b2, o2, rfl, -, d0, d1, d2⟩ := row_at HR'.out k hltb
        have hlt' : (k : Int) < a.length := by omega
        have hltb' : (k : Int) < b.length := by omega
        have hq := neq_row a[k] b[k]
        by_cases he : a[k] = b[k]
        · rw [decide_eq_true he] at hq
          have HN : Hid (∀ j (h : j < a.length) (h' : j < b.length), j < k + 1 → a[j] = b[j]) := fun j h h' hj => by
            by_cases e : j = k
            · subst e; exact he
            · exact HA.out j h h' (by omega)
          clear he
          go_wp2_with fail
          go_quiet (fail)
          go_wp2_with fail
          go_roundg (a.length - (k + 1))
          case measure => have := HK.out; omega
          case rel => exact ⟨k + 1, _, rfl, by omega, rfl, by go_num, HN.out⟩
        · rw [decide_eq_false he] at hq
          have HX : Hid (decide (a = b) = false) := by show _ = _; rw [decide_eq_false]; intro e; subst e; exact he rfl
          clear he
          go_wp2_with fail
          go_quiet (fail)
          go_wp2_with fail
          go_ret
          exact ⟨by rw [HX.out]; rfl, _, by rw [World.drewN_drewN]⟩
      · have HX : Hid (decide (a = b) = true) := by
          show _ = _
          rw [decide_eq_true]
          exact List.ext_getElem HL.out (fun j h h' => HA.out j h h' (by omega))
        go_wp2_with fail
        go_ret
        exact ⟨by rw [HX.out]; rfl, _, rfl⟩
  · have hl' : ((a.length : Int) != b.length) = true := by simp; omega
    have HX : Hid (decide (a = b) = false) := by show _ = _; rw [decide_eq_false]; intro e; exact hl (by rw [e])
    clear hl
    go_enter Tryd.func14, Tryd.ntmps14
    go_wp2_with fail
    go_ret
    exact ⟨by rw [HX.out]; rfl, 0, rfl⟩

set_option maxRecDepth 100000 in
set_option maxHeartbeats 1000000 in
theorem lpLog_c (A : Option Addr) (c : Nat) (a : List Entry) (A' : Option Addr) (c' : Nat) (b : List Entry) (w : World) (hr : Rd w A c a) (hr' : Rd w A' c' b) :
    Calls Tryd.prog 30 #[.slice A a.length c, .slice A' b.length c'] w fun e w' => e = .returned (.bool (decide (a = b))) ∧ ∃ n, w' = w.drewN n := by
  have hm : a.length ≤ maxLen := Nat.le_trans hr.1 hr.2.1
  unfold maxLen at hm
  have HR := Lib.hid hr; have HR' := Lib.hid hr'
  clear hr hr'
  by_cases hl : a.length = b.length
  · have hl' : ((a.length : Int) != b.length) = false := by simp [hl]
    have HL := Lib.hid hl
    have hml : b.length ≤ 9223372036854775807 := by omega
    clear hl
    go_enter Tryd.func30, Tryd.ntmps30
    go_wp2_with fail
    go_loopg [5] a.length (fun gk i wr => ∃ (k n : Nat), wr = w.drewN n ∧ k ≤ a.length ∧ Hid (gk = a.length - k) ∧ i = .int .i64 k ∧ Hid (∀ j (h : j < a.length) (h' : j < b.length), j < k → a[j] = b[j]))
    case atStart => exact ⟨0, 0, rfl, Nat.zero_le _, rfl, rfl, fun j _ _ h => by omega⟩
    case round =>
      obtain ⟨k, n, rfl, hk, HK, rfl, HA⟩ := hrel
      by_cases hlt : k < a.length
      · have hltb : k < b.length := by have := HL.out; omega
        obtain ⟨b1, o1, rfl, -, c0, c1, c2, c3, c4, c5, c6⟩ := ent_at HR.out k hlt
        obtain ⟨b2, o2, rfl, -, d0, d1, d2, d3, d4, d5, d6⟩ := ent_at HR'.out k hltb
        have hlt' : (k : Int) < a.length := by omega
        have hltb' : (k : Int) < b.length := by omega
        have hq := neq_ent a[k] b[k]
        by_cases he : a[k] = b[k]
        · rw [decide_eq_true he] at hq
          have HN : Hid (∀ j (h : j < a.length) (h' : j < b.length), j < k + 1 → a[j] = b[j]) := fun j h h' hj => by
            by_cases e : j = k
            · subst e; exact he
            · exact HA.out j h h' (by omega)
          clear he
          go_wp2_with fail
          go_quiet (fail)
          go_wp2_with fail
          go_roundg (a.length - (k + 1))
          case measure => have := HK.out; omega
          case rel => exact ⟨k + 1, _, rfl, by omega, rfl, by go_num, HN.out⟩
        · rw [decide_eq_false he] at hq
          have HX : Hid (decide (a = b) = false) := by show _ = _; rw [decide_eq_false]; intro e; subst e; exact he rfl
          clear he
          go_wp2_with fail
          go_quiet (fail)
          go_wp2_with fail
          go_ret
          exact ⟨by rw [HX.out]; rfl, _, by rw [World.drewN_drewN]⟩
      · have HX : Hid (decide (a = b) = true) := by
          show _ = _
          rw [decide_eq_true]
          exact List.ext_getElem HL.out (fun j h h' => HA.out j h h' (by omega))
        go_wp2_with fail
        go_ret
        exact ⟨by rw [HX.out]; rfl, _, rfl⟩
  · have hl' : ((a.length : Int) != b.length) = true := by simp; omega
    have HX : Hid (decide (a = b) = false) := by show _ = _; rw [decide_eq_false]; intro e; exact hl (by rw [e])
    clear hl
    go_enter Tryd.func30, Tryd.ntmps30
    go_wp2_with fail
    go_ret
    exact ⟨by rw [HX.out]; rfl, 0, rfl⟩
end Go.Proofs.YtjhbbgeebobcpaaDoor
namespace Go.Proofs.YtjhbbgeebobcpaaDoor
open Go.RowKit
set_option linter.unusedVariables false

/-- What a draw of somebody gives. -/
def DShowP (w : World) (e : Ending) (w' : World) : Prop := ∃ (c : Client) (v : Value), e = .returned v ∧ CV w' c v ∧ CW c ∧ Ext w w'
def DrawsShow : Prop := ∀ (A : Option Addr) (n : Nat) (bs : List UInt8) (w : World), Rd w A n bs → (∀ b off, A = some ⟨b, off, none⟩ → b < w.heap.size) → Calls Tryd.prog 21 #[.slice A bs.length n] w (DShowP w)

set_option maxRecDepth 100000 in
set_option maxHeartbeats 4000000 in
theorem clientShow_walk (hD : DrawsShow) (A : Option Addr) (n : Nat) (bs : List UInt8) (w : World) (ht : Tab w) (hr : Rd w A n bs) (hA : ∀ b off, A = some ⟨b, off, none⟩ → b < w.heap.size) :
    Calls Tryd.prog 4 #[.slice A bs.length n] w fun e w' => e = .returned (.bool true) ∧ Ext w w' := by
  have hm : bs.length ≤ maxLen := Nat.le_trans hr.1 hr.2.1
  unfold maxLen at hm
  have hpos := ht.pos
  have HT := Lib.hid ht
  have HDR := Lib.hid (hD A n bs w hr hA)
  clear hD hr hA ht
  go_enter Tryd.func4, Tryd.ntmps4
  by_cases hlong : (1048576 : Int) < bs.length
  · go_wp2_with fail
    go_ret
    exact ⟨rfl, Below.refl _ _⟩
  go_wp2_with fail
  refine HDR.out.mono ?_
  rintro e w1 ⟨c, v, rfl, hcv, hcw, hb1⟩
  have hs1 := hb1.size
  have HC := Lib.hid hcw
  obtain ⟨A1, n1, A2, n2, rfl, h1, h2⟩ := hcv
  have hE2 : Ext w1 (w1.alloc (.cells #[.int .i64 c.who, .int .i64 c.seen, .slice A1 c.base.length n1, .slice A2 c.wait.length n2, .int .i64 c.done, .int .i64 c.made] 30)) := (Below.refl _ w1).alloc (Nat.le_refl _) _
  have HX2 := Lib.hid (World.alloc_heap_new w1 (.cells #[.int .i64 c.who, .int .i64 c.seen, .slice A1 c.base.length n1, .slice A2 c.wait.length n2, .int .i64 c.done, .int .i64 c.made] 30))
  have hsz2 := alloc_sz w1 (.cells #[.int .i64 c.who, .int .i64 c.seen, .slice A1 c.base.length n1, .slice A2 c.wait.length n2, .int .i64 c.done, .int .i64 c.made] 30)
  have HR1 := Lib.hid (h1.ext hE2); have HR2 := Lib.hid (h2.ext hE2)
  have HE2 := Lib.hid (hb1.trans (hE2.mono hs1))
  clear HDR hcw h1 h2 hE2 hb1
  go_wp2_with fail
  generalize (w1.alloc (.cells #[.int .i64 c.who, .int .i64 c.seen, .slice A1 c.base.length n1, .slice A2 c.wait.length n2, .int .i64 c.done, .int .i64 c.made] 30)) = W at *
  have HV : Hid (CV W c (.agg #[.int .i64 c.who, .int .i64 c.seen, .slice A1 c.base.length n1, .slice A2 c.wait.length n2, .int .i64 c.done, .int .i64 c.made])) := ⟨A1, n1, A2, n2, rfl, HR1.out, HR2.out⟩
  refine (clientShow_c c _ W (HT.out.below HE2.out hpos) HV.out).mono ?_
  rintro e w3 ⟨v3, rfl, ho3, hb3⟩
  obtain ⟨G, gn, rfl, hr3⟩ := ho3.rd
  have HE3 := Lib.hid hb3; have HG3 := Lib.hid hr3; have hs3 := hb3.size
  clear ho3 hr3 hb3
  obtain ⟨c0, c1, c2, c3, c4, c5, cf⟩ := six_cells ((HE3.out.block w1.heap.size (blk_lt HX2.out)).trans HX2.out)
  go_wp2_with fail
  refine (clientShow_s c _ w3 (HV.out.ext HE3.out) HC.out).mono ?_
  rintro e w4 ⟨v4, rfl, ho4, hb4⟩
  rw [← showL_showS] at ho4
  obtain ⟨S, sn, rfl, hr4⟩ := ho4.rd
  have HE4 := Lib.hid (HE3.out.trans (hb4.mono HE3.out.size)); have hs4 := hb4.size
  have hLP := lpRows_c G gn (showL c) S sn (showL c) w4 (HG3.out.ext hb4) hr4
  rw [show decide (showL c = showL c) = true by simp] at hLP
  have HLP := Lib.hid hLP; have HG4 := Lib.hid (HG3.out.ext hb4)
  clear ho4 hr4 hb4 hLP c0 c1 c2 c3 c4 c5 cf
  go_wp2_with fail
  refine HLP.out.mono ?_
  rintro e w5 ⟨rfl, m5, hw5⟩
  have hb5 : Ext w4 w5 := by rw [hw5]; exact Ext.drewN (Below.refl _ _) _
  have HE5 := Lib.hid (HE4.out.trans (hb5.mono HE4.out.size)); have HG5 := Lib.hid (HG4.out.ext hb5); have hs5 := hb5.size
  clear hb5 hw5 HLP
  obtain ⟨c0, c1, c2, c3, c4, c5, cf⟩ := six_cells ((HE5.out.block w1.heap.size (blk_lt HX2.out)).trans HX2.out)
  go_wp2_with fail
  refine (clientOk_s c _ w5 (HV.out.ext HE5.out) HC.out).mono ?_
  rintro e w6 ⟨rfl, hb6⟩
  have HE6 := Lib.hid (HE5.out.trans (hb6.mono HE5.out.size)); have HG6 := Lib.hid (HG5.out.ext hb6); have hs6 := hb6.size
  clear hb6 c0 c1 c2 c3 c4 c5 cf
  obtain ⟨c0, c1, c2, c3, c4, c5, cf⟩ := six_cells ((HE6.out.block w1.heap.size (blk_lt HX2.out)).trans HX2.out)
  cases hok : clientOk c
  · clear hok
    go_wp2_with fail
    refine (clientShow_s c _ w6 (HV.out.ext HE6.out) HC.out).mono ?_
    rintro e w7 ⟨v7, rfl, ho7, hb7⟩
    rw [← showL_showS] at ho7
    obtain ⟨S2, sn2, rfl, hr7⟩ := ho7.rd
    have HE7 := Lib.hid (HE6.out.trans (hb7.mono HE6.out.size))
    have hLP := lpRows_c G gn (showL c) S2 sn2 (showL c) w7 (HG6.out.ext hb7) hr7
    rw [show decide (showL c = showL c) = true by simp] at hLP
    have HLP := Lib.hid hLP
    clear ho7 hr7 hb7 hLP c0 c1 c2 c3 c4 c5 cf
    go_wp2_with fail
    refine HLP.out.mono ?_
    rintro e w8 ⟨rfl, m8, hw8⟩
    have HE8 : Hid (Ext w w8) := by
      show Ext w w8
      rw [hw8]
      exact Ext.drewN (HE2.out.trans (HE7.out.mono (by omega))) _
    clear hw8
    go_wp2_with fail
    go_ret
    exact ⟨rfl, HE8.out⟩
  obtain ⟨p1, p2, p3, p4, p5⟩ := showL_ok hok
  have hwl := (clientOk_parts hok).2.2.2.2.2.2.1
  have hd0 := (clientOk_parts hok).2.2.2.2.1
  have hbl := treeOk_len (clientOk_parts hok).2.2.2.1
  have HP1 := Lib.hid p1; have HP2 := Lib.hid p2; have HP3 := Lib.hid p3
  clear hok p1 p2 p3 p4 p5
  go_wp2_with fail
  clear c0 c1 c2 c3 c4 c5 cf
  go_loopg [5, 6] c.wait.length (fun gk x i wr => ∃ (k : Nat) (B : Option Addr) (bn : Nat), k ≤ c.wait.length ∧ Hid (gk = c.wait.length - k) ∧ i = .int .i64 k ∧ x = .slice B (runOps c.base (c.wait.take k)).length bn ∧ Hid (Rd wr B bn (runOps c.base (c.wait.take k))) ∧ Hid (Ext W wr) ∧ Hid (Rd wr G gn (showL c)))
  case atStart => exact ⟨0, A1, n1, Nat.zero_le _, rfl, rfl, rfl, HR1.out.ext HE6.out, HE6.out, HG6.out⟩
  case round =>
    obtain ⟨k, B, bn, hk, HK, rfl, rfl, HB, HW, HG⟩ := hrel
    obtain ⟨c0, c1, c2, c3, c4, c5, cf⟩ := six_cells ((HW.out.block w1.heap.size (blk_lt HX2.out)).trans HX2.out)
    by_cases hlt : k < c.wait.length
    · obtain ⟨b, off, rfl, hbl2, e0, e1, e2, e3, e4, e5, e6⟩ := ent_at (HR2.out.ext HW.out) k hlt
      have hnext := runOps_take c.base c.wait k hlt
      have HC9 := Lib.hid (opDo_c B bn (runOps c.base (c.wait.take k)) c.wait[k].op wr (HT.out.below (HE2.out.trans (HW.out.mono (by omega))) hpos) HB.out (HR2.out.okAt k hlt))
      have HN := Lib.hid hnext
      clear hnext
      generalize runOps c.base (c.wait.take k) = tk at *
      have hli : (k : Int) < c.wait.length := by omega
      go_wp2_with fail
      refine HC9.out.mono ?_
      rintro e w8 ⟨v8, rfl, ho8, hb8⟩
      rw [← HN.out] at ho8
      obtain ⟨B2, bn2, rfl, hr8⟩ := ho8.rd
      have HB8 := Lib.hid hb8; have HR8 := Lib.hid hr8
      clear ho8 hr8 hb8 HC9 c0 c1 c2 c3 c4 c5 cf e0 e1 e2 e3 e4 e5 e6
      go_wp2_with fail
      go_roundg (c.wait.length - (k + 1))
      case measure => have := HK.out; omega
      case rel => exact ⟨k + 1, B2, bn2, by omega, rfl, by go_num, rfl, HR8.out, HW.out.trans (HB8.out.mono HW.out.size), HG.out.ext HB8.out⟩
    · have hkl : k = c.wait.length := by omega
      subst hkl
      have hB := HB.out
      rw [List.take_length, ← HP1.out] at hB
      have HB9 := Lib.hid hB
      have hT9 : (runOps c.base (c.wait.take c.wait.length)).length = (showL c).length := by rw [List.take_length, ← HP1.out]
      rw [hT9]
      clear hB
      have hli : ¬ ((c.wait.length : Int) < c.wait.length) := by omega
      go_wp2_with fail
      clear c0 c1 c2 c3 c4 c5 cf
      obtain ⟨wo, rfl⟩ : ∃ wo : World, wo = wr := ⟨_, rfl⟩
      go_loopg [7] c.base.length (fun gk i wr => ∃ k : Nat, k ≤ c.base.length ∧ Hid (gk = c.base.length - k) ∧ i = .int .i64 k ∧ Hid (Ext wo wr))
      case atStart => exact ⟨0, Nat.zero_le _, rfl, rfl, Below.refl _ _⟩
      case round =>
        obtain ⟨k, hk2, HK2, rfl, HW2⟩ := hrel
        have HWW := Lib.hid (HW.out.trans (HW2.out.mono HW.out.size))
        obtain ⟨c0, c1, c2, c3, c4, c5, cf⟩ := six_cells ((HWW.out.block w1.heap.size (blk_lt HX2.out)).trans HX2.out)
        by_cases hlt : k < c.base.length
        · obtain ⟨b, off, rfl, hbl2, e0, e1, e2⟩ := row_at (HR1.out.ext HWW.out) k hlt
          have HAT := Lib.hid (lpAt_c G gn (showL c) c.base[k].id wr (HG.out.ext HW2.out))
          have hat : ¬ (atI (showL c) c.base[k].id < 0) := by
            have := atI_in (HP3.out c.base[k].id (List.mem_map.2 ⟨_, List.getElem_mem hlt, rfl⟩))
            omega
          have hli2 : (k : Int) < c.base.length := by omega
          go_wp2_with fail
          refine HAT.out.mono ?_
          rintro e w8 ⟨rfl, hw8⟩
          rw [hw8]; clear hw8
          generalize atI (showL c) c.base[k].id = ai at *
          clear HAT c0 c1 c2 c3 c4 c5 cf e0 e1 e2
          go_wp2_with fail
          go_roundg (c.base.length - (k + 1))
          case measure => have := HK2.out; omega
          case rel => exact ⟨k + 1, by omega, rfl, by go_num, HW2.out⟩
        · have hli2 : ¬ ((k : Int) < c.base.length) := by omega
          have hLP := lpRows_c B bn (showL c) G gn (showL c) wr (HB9.out.ext HW2.out) (HG.out.ext HW2.out)
          rw [show decide (showL c = showL c) = true by simp] at hLP
          have HLP := Lib.hid hLP
          clear hLP
          go_wp2_with fail
          refine HLP.out.mono ?_
          rintro e w8 ⟨rfl, m8, hw8⟩
          have hb8 : Ext wr w8 := by rw [hw8]; exact Ext.drewN (Below.refl _ _) _
          have HW8 := Lib.hid (HWW.out.trans (hb8.mono HWW.out.size)); have hs8 := hb8.size
          have hTO := treeOk_c G gn (showL c) w8 (HT.out.below (HE2.out.trans (HW8.out.mono (by omega))) hpos) ((HG.out.ext HW2.out).ext hb8)
          rw [HP2.out] at hTO
          have HTO := Lib.hid hTO
          clear hTO hb8 hw8 HLP c0 c1 c2 c3 c4 c5 cf
          go_wp2_with fail
          refine HTO.out.mono ?_
          rintro e w9 ⟨rfl, hb9⟩
          have HE9 : Hid (Ext w w9) := HE2.out.trans ((HW8.out.trans (hb9.mono HW8.out.size)).mono (by omega))
          clear hb9
          go_wp2_with fail
          go_ret
          exact ⟨rfl, HE9.out⟩
end Go.Proofs.YtjhbbgeebobcpaaDoor
namespace Go.Proofs.YtjhbbgeebobcpaaDoor
open Go.RowKit Go.Lib
set_option linter.unusedVariables false

set_option maxRecDepth 100000 in
set_option maxHeartbeats 1000000 in
theorem drawsShow : DrawsShow := by
  intro A n bs w hr hA
  have hE1 : Ext w (w.alloc (.cells #[.int .i64 0, .int .i64 0, .slice none 0 0, .slice none 0 0, .int .i64 0, .int .i64 0] 30)) := (Below.refl _ _).alloc (Nat.le_refl _) _
  have HZ0 := Lib.hid (World.alloc_heap_new w (.cells #[.int .i64 0, .int .i64 0, .slice none 0 0, .slice none 0 0, .int .i64 0, .int .i64 0] 30)); have HE0 := Lib.hid hE1
  have hz1 := alloc_sz w (.cells #[.int .i64 0, .int .i64 0, .slice none 0 0, .slice none 0 0, .int .i64 0, .int .i64 0] 30)
  have HO := Lib.hid (open_d A n bs (w.alloc (.cells #[.int .i64 0, .int .i64 0, .slice none 0 0, .slice none 0 0, .int .i64 0, .int .i64 0] 30)) (hr.ext hE1) (fun b off e => by have := hA b off e; omega))
  clear hE1 hr hA
  go_enter Tryd.func21, Tryd.ntmps21
  go_wp2_with fail
  generalize (w.alloc (.cells #[.int .i64 0, .int .i64 0, .slice none 0 0, .slice none 0 0, .int .i64 0, .int .i64 0] 30)) = W0 at *
  refine HO.out.mono ?_
  rintro e w1 ⟨rfl, hr1, hb1⟩
  have hs1 := hb1.size
  have HC := Lib.hid (client_d W0.heap.size 0 w1 hr1 (by omega))
  have HB1 := Lib.hid hb1
  clear hr1 hb1 HO
  rw [hz1] at HC
  go_wp2_with fail
  refine HC.out.mono ?_
  rintro e w2 ⟨c, v, p', rfl, hco, hcw, -, -, -, hg⟩
  have hE2 : Ext w w2 := ext_grown (HE0.out.trans (HB1.out.mono (by omega))) hg (by omega) (fun k e => by injection e with e; omega)
  have hz2 : w2.heap[w.heap.size]? = some (.cells #[.int .i64 0, .int .i64 0, .slice none 0 0, .slice none 0 0, .int .i64 0, .int .i64 0] 30 (0, 0)) := (hg.block _ (blk_lt ((HB1.out.block _ (blk_lt HZ0.out)).trans HZ0.out)) (fun e => by injection e with e; omega)).trans ((HB1.out.block _ (blk_lt HZ0.out)).trans HZ0.out)
  obtain ⟨b, bn, qq, qn, rfl, h1, h2⟩ := hco
  have hz3 := put6_at (.int .i64 c.who) (.int .i64 c.seen) (.slice b c.base.length bn) (.slice qq c.wait.length qn) (.int .i64 c.done) (.int .i64 c.made) hz2
  have hcv : CV (put6 w2 w.heap.size (.int .i64 c.who) (.int .i64 c.seen) (.slice b c.base.length bn) (.slice qq c.wait.length qn) (.int .i64 c.done) (.int .i64 c.made)) c (.agg #[.int .i64 c.who, .int .i64 c.seen, .slice b c.base.length bn, .slice qq c.wait.length qn, .int .i64 c.done, .int .i64 c.made]) := ⟨b, bn, qq, qn, rfl, (h1.rdT.put6 hz2 (by decide) _ _ _ _ _ _).1, (h2.rdT.put6 hz2 (by decide) _ _ _ _ _ _).1⟩
  have hE3 : Ext w (put6 w2 w.heap.size (.int .i64 c.who) (.int .i64 c.seen) (.slice b c.base.length bn) (.slice qq c.wait.length qn) (.int .i64 c.done) (.int .i64 c.made)) := put6_below _ _ _ _ _ _ hE2 (Nat.le_refl _)
  have HF : Hid (DShowP w (.returned (.agg #[.int .i64 c.who, .int .i64 c.seen, .slice b c.base.length bn, .slice qq c.wait.length qn, .int .i64 c.done, .int .i64 c.made])) (put6 w2 w.heap.size (.int .i64 c.who) (.int .i64 c.seen) (.slice b c.base.length bn) (.slice qq c.wait.length qn) (.int .i64 c.done) (.int .i64 c.made))) := ⟨c, _, rfl, hcv, hcw, hE3⟩
  have HZ3 := Lib.hid hz3
  obtain ⟨d0, d1, d2, d3, d4, d5, df⟩ := six_cells hz2
  clear hz2 hz3 hcv hE2 hE3 hg h1 h2 hcw HC
  go_wp2_with fail
  obtain ⟨k0, k1, k2, k3, k4, k5, kf⟩ := six_cells HZ3.out
  refine bodyPost_ret (v := .agg #[.int .i64 c.who, .int .i64 c.seen, .slice b c.base.length bn, .slice qq c.wait.length qn, .int .i64 c.done, .int .i64 c.made]) ?_ rfl ?_
  · simp [results, Tryd.f21, go_sem, k0, k1, k2, k3, k4, k5]
  · exact HF.out
end Go.Proofs.YtjhbbgeebobcpaaDoor
namespace Go.Proofs.YtjhbbgeebobcpaaDoor
open Go.RowKit Go.ChangeShapes Go.WideShapes Go.ChangeAt
set_option linter.unusedVariables false

theorem laidOut : laidOutB Tryd.prog = true := by kernel_rfl
theorem own : ownKnob Tryd.prog.godebug = none := by kernel_rfl
theorem gTab : Tryd.prog.globalNamed "loop.example/plashet/impl.rowOwners" = some 0 := by kernel_rfl
theorem gTabType : (Tryd.prog.globals[0]?).map (·.type) = some 86 := by kernel_rfl
theorem cellsTab : Tryd.prog.cellsOf 86 = 37 := by kernel_rfl
theorem cellsInt : Tryd.prog.cellsOf 3 = 1 := by kernel_rfl

/-- The owners, as the row lists them. -/
def owners : List Int := [0, 1, 1, 1, 0, 0, 0, 0, 0, 0, 0, 2, 2, 2, 2, 2, 2, 0, 0, 0, 0, 3, 3, 3, 3, 3, 3, 0, 0, 0, 0, 4, 4, 4, 4, 4, 4]
theorem owners_at (n : Nat) (h : n < 37) : owners.getD n 0 = ownerOf n := by
  have h0 : ∀ n : Fin 37, owners.getD n 0 = ownerOf (n : Nat) := by decide
  exact h0 ⟨n, h⟩
theorem tab_of {W : World} (h : laidMetH Tryd.prog [("loop.example/plashet/impl.rowOwners", Rows.laid_loop_example_plashet_impl_rowOwners)] W) : Tab W := by
  have ht : Lib.TabIs Tryd.prog W "loop.example/plashet/impl.rowOwners" .i64 owners := Lib.tabIs_of_head (rest := []) gTab gTabType Tryd.underlying86 Tryd.underlying3 cellsInt cellsTab h
  intro id h0 h1
  have hn : id.toNat < 37 := by omega
  rw [ht.cell gTab id.toNat (by simpa [owners] using hn), owners_at _ hn, show ((id.toNat : Nat) : Int) = id by omega]

set_option maxRecDepth 100000 in
/-- A slice that came in: where it lies. -/
theorem arg_slice {W : World} {base : Nat} {t e : TypeId} {v : Value} (ht : Tryd.prog.underlying t = some (.slice e)) (h : Value.okWide Tryd.prog W .any base t v) :
    ∃ A len cap, v = .slice A len cap ∧ ∀ a, A = some a → a.spot = none ∧ a.block < W.heap.size := by
  obtain ⟨A, len, cap, rfl⟩ := okWide_slice ht h
  refine ⟨A, len, cap, rfl, ?_⟩
  rintro a rfl
  simp only [Value.okWide, ht, Cell.okWide, Cell.ok, World.has] at h
  obtain ⟨_, _, _, hs, row, cells, hsh, _⟩ := h
  refine ⟨hs, ?_⟩
  unfold World.shape? at hsh
  cases hb : W.heap[a.block]? with
  | none => rw [hb] at hsh; cases hsh
  | some o => exact (Array.getElem?_eq_some_iff.1 hb).1

set_option maxRecDepth 100000 in
/-- A slice of bytes that came in, read. -/
theorem arg_bytes {H : Type} {enc : TypeId × Value → H} {W : World} {base : Nat} {v : Value} {d : DataW H} {p : List MemPlace}
    (h : Value.okWide Tryd.prog W .any base 22 v) (hr : DataW.Trod enc Tryd.prog W 0 (fun _ => true) true 22 v d p) :
    ∃ (A : Option Addr) (cap : Nat) (bs : List UInt8), v = .slice A bs.length cap ∧ Rd W A cap bs ∧ ∀ b off, A = some ⟨b, off, none⟩ → b < W.heap.size := by
  obtain ⟨A, len, cap, rfl, hA⟩ := arg_slice Tryd.underlying22 h
  obtain ⟨fuel, hf⟩ := hr
  rcases open_ints Tryd.underlying22 Tryd.underlying5 (by kernel_rfl) hf with ⟨hcs, _⟩ | ⟨x, l, c, zs, hcs, _, hl, hm, hz, _, hcell, hwz⟩
  · simp [Value.cells] at hcs
    obtain ⟨rfl, rfl, rfl⟩ := hcs
    exact ⟨none, 0, [], rfl, ⟨by simp, by simp, fun h => absurd h (by simp), by simp⟩, by simp⟩
  · simp [Value.cells] at hcs
    obtain ⟨rfl, rfl, rfl⟩ := hcs
    obtain ⟨b, off, spot⟩ := x
    obtain ⟨hs, hb⟩ := hA _ rfl
    simp only at hs hb hz
    subst hs
    have hlen : ((zs.take len).map fun z => UInt8.ofNat z.toNat).length = len := by simp at hz; simp; omega
    refine ⟨some ⟨b, off, none⟩, cap, (zs.take len).map fun z => UInt8.ofNat z.toNat, by rw [hlen], ⟨by rw [hlen]; exact hl, hm, fun _ => ⟨b, off, rfl, ?_⟩, fun _ _ => trivial⟩, ?_⟩
    · intro j v hv
      have hfl : flat ((zs.take len).map fun z => UInt8.ofNat z.toNat) = (zs.take len).map fun z => Value.int .u8 ((UInt8.ofNat z.toNat).toNat : Int) := by
        unfold flat; rw [List.flatMap_map]
        show (zs.take len).flatMap (fun a => [Value.int .u8 ((UInt8.ofNat a.toNat).toNat : Int)]) = _
        induction zs.take len with
        | nil => rfl
        | cons a r ih => rw [List.flatMap_cons, ih]; rfl
      rw [hfl, List.getElem?_map, Option.map_eq_some_iff] at hv
      obtain ⟨z, hz1, rfl⟩ := hv
      have hj : j < zs.length ∧ j < len := by
        have := (List.getElem?_eq_some_iff.1 hz1).1
        simp at this
        omega
      rw [List.getElem?_take, if_pos hj.2] at hz1
      have hzj : zs.getD j 0 = z := by simp [List.getD, hz1]
      have hw := hwz z (List.mem_of_getElem? hz1)
      have := hcell j hj.1
      rw [hzj] at this
      have hadd : (⟨b, off, none⟩ : Addr).add j = ⟨b, off + j, none⟩ := by unfold Addr.add; split <;> simp_all
      rw [hadd] at this
      have hz2 : ((UInt8.ofNat z.toNat).toNat : Int) = z := by
        have h1 := of_decide_eq_true (show decide ((0 : Int) ≤ z) = true by simp [Lit.wf, IntKind.min, IntKind.signed] at hw; simpa using hw.1)
        have h2 := of_decide_eq_true (show decide (z ≤ (255 : Int)) = true by simp [Lit.wf, IntKind.max, IntKind.signed, IntKind.bits] at hw; simpa using hw.2)
        have h3 : (UInt8.ofNat z.toNat).toNat = z.toNat % 256 := by simp [UInt8.toNat_ofNat']
        rw [h3]
        omega
      rw [hz2]; exact this
    · rintro b' off' e; simp at e; omega
end Go.Proofs.YtjhbbgeebobcpaaDoor
