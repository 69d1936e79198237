/- Trees in memory: each row a block of five cells; what a turned pointer makes of the tree. Walks in a forest: a row is looked up; where a change puts a row. -/
import Derived.Test.YtjhbbgeebobcpaaDoorQB
import Derived.Test.YtjhbbgeebobcpaaDoorQD
import Derived.Test.YtjhbbgeebobcpaaDoorQA
import Derived.Deep.OwnRows
import Derived.Deep.LoopGhost
import Derived.LaidEql
namespace Go.Proofs.YtjhbbgeebobcpaaDoor
open Go.RowKit
set_option linter.unusedVariables false

abbrev nilp : Value := .pointer none
abbrev PP (adr : Int → Nat) (id : Int) : Value := .pointer (some ⟨adr id, 0, none⟩)
abbrev nodeO (id : Int) (a b c d : Value) : Obj := .cells #[.int .i64 id, a, b, c, d] 122 (0, 0)
abbrev HP := Nat → Option Obj
theorem nodeO_inj {i j : Int} {a b c d a' b' c' d' : Value} (h : some (nodeO i a b c d) = some (nodeO j a' b' c' d')) : i = j ∧ a = a' ∧ b = b' ∧ c = c' ∧ d = d' := by
  simp only [Option.some.injEq, Obj.cells.injEq, Array.mk.injEq, List.cons.injEq, Value.int.injEq, true_and, and_true] at h
  exact h
namespace T
def pt (adr : Int → Nat) : T → Value
  | nil => nilp
  | node id _ _ _ => PP adr id
def nx (adr : Int → Nat) (top : Bool) (n : T) : Value := if top then nilp else pt adr n
def Has (h : HP) (adr : Int → Nat) (top : Bool) (up : Value) : T → Prop
  | nil => True
  | node id tx f n => h (adr id) = some (nodeO id (.string tx) up (pt adr f) (nx adr top n)) ∧ Has h adr false (PP adr id) f ∧ Has h adr top up n
/-- The row ahead of a row. -/
def prevOf (m : Int) (prev : Option Int) : T → Option (Option Int)
  | nil => none
  | node id _ f n => if id = m then some prev else (prevOf m none f).or (prevOf m (some id) n)
def nextOf (m : Int) : T → Option T
  | nil => none
  | node id _ f n => if id = m then some n else (nextOf m f).or (nextOf m n)

theorem prevOf_not (m : Int) (p : Option Int) (t : T) (h : m ∉ ids t) : prevOf m p t = none := by
  induction t generalizing p with
  | nil => rfl
  | node i x f n ihf ihn =>
    simp only [ids, List.mem_cons, List.mem_append, not_or] at h
    rw [prevOf, if_neg (fun e => h.1 e.symm), ihf _ h.2.1, ihn _ h.2.2]; rfl
theorem nextOf_not (m : Int) (t : T) (h : m ∉ ids t) : nextOf m t = none := by
  induction t with
  | nil => rfl
  | node i x f n ihf ihn =>
    simp only [ids, List.mem_cons, List.mem_append, not_or] at h
    rw [nextOf, if_neg (fun e => h.1 e.symm), ihf h.2.1, ihn h.2.2]; rfl

section
variable {h h' : HP} {adr : Int → Nat}
theorem has_at (t : T) : ∀ (top : Bool) (up : Value), Has h adr top up t → ∀ j ∈ ids t, ∃ a b c d, h (adr j) = some (nodeO j a b c d) := by
  induction t with
  | nil => simp [ids]
  | node i x f n ihf ihn =>
    intro top up ht j hj
    simp only [ids, List.mem_cons, List.mem_append] at hj
    rcases hj with rfl | hj | hj
    · exact ⟨_, _, _, _, ht.1⟩
    · exact ihf _ _ ht.2.1 j hj
    · exact ihn _ _ ht.2.2 j hj
/-- Where none of its blocks has turned a tree lies as it lay. -/
theorem has_same (t : T) : ∀ (top : Bool) (up : Value), (∀ j ∈ ids t, h' (adr j) = h (adr j)) → Has h adr top up t → Has h' adr top up t := by
  induction t with
  | nil => intros; trivial
  | node i x f n ihf ihn =>
    intro top up hs ht
    exact ⟨(hs i (by simp [ids])).trans ht.1, ihf _ _ (fun j hj => hs j (by simp [ids, hj])) ht.2.1, ihn _ _ (fun j hj => hs j (by simp [ids, hj])) ht.2.2⟩
/-- A block of another row's is another block. -/
theorem adr_ne {u j : Int} {a b c d a' b' c' d' : Value} (h1 : h (adr u) = some (nodeO u a b c d)) (h2 : h (adr j) = some (nodeO j a' b' c' d')) (hne : j ≠ u) : adr j ≠ adr u := by
  intro e
  rw [e, h1] at h2
  exact hne (nodeO_inj h2).1.symm
theorem has_other (t : T) (top : Bool) (up : Value) (ht : Has h adr top up t) {u id : Int} {a b c d a' b' c' d' : Value} (h1 : h (adr u) = some (nodeO u a b c d)) (h2 : h (adr id) = some (nodeO id a' b' c' d'))
    (same : ∀ b, b ≠ adr u → b ≠ adr id → h' b = h b) (hu : u ∉ ids t) (hid : id ∉ ids t) : Has h' adr top up t := by
  refine has_same t top up (fun j hj => ?_) ht
  obtain ⟨x1, x2, x3, x4, hx⟩ := has_at t top up ht j hj
  exact same _ (adr_ne h1 hx (fun e => hu (e ▸ hj))) (adr_ne h2 hx (fun e => hid (e ▸ hj)))
theorem pt_insF (u id : Int) (tx : ByteArray) (s t : T) : pt adr (insF u id tx s t) = pt adr t := by
  cases t with
  | nil => rfl
  | node i x f n => simp only [insF]; split <;> rfl
theorem pt_insN (u id : Int) (tx : ByteArray) (s t : T) : pt adr (insN u id tx s t) = pt adr t := by
  cases t with
  | nil => rfl
  | node i x f n => simp only [insN]; split <;> rfl
theorem pt_setT (u : Int) (tx : ByteArray) (t : T) : pt adr (setT u tx t) = pt adr t := by
  cases t with
  | nil => rfl
  | node i x f n => simp only [setT]; split <;> rfl

/-- A new row as the first under u. -/
theorem has_insF {u id : Int} {tx : ByteArray} {s : T} {fv x1 x2 x4 y1 y2 y3 y4 : Value} (same : ∀ b, b ≠ adr u → b ≠ adr id → h' b = h b)
    (hid : h (adr id) = some (nodeO id y1 y2 y3 y4)) (hnew : h' (adr id) = some (nodeO id (.string tx) (PP adr u) (pt adr s) fv)) (hs : Has h' adr false (PP adr id) s)
    (hu : h (adr u) = some (nodeO u x1 x2 fv x4)) (hu' : h' (adr u) = some (nodeO u x1 x2 (PP adr id) x4)) (t : T) :
    ∀ (top : Bool) (up : Value), id ∉ ids t → (ids t).Nodup → Has h adr top up t → Has h' adr top up (insF u id tx s t) := by
  induction t with
  | nil => intros; trivial
  | node i x f n ihf ihn =>
    intro top up hni nd ht
    simp only [ids, List.nodup_cons, List.nodup_append, List.mem_append, List.mem_cons, not_or] at nd hni
    obtain ⟨⟨n1, n2⟩, ndf, ndn, hdis⟩ := nd
    obtain ⟨hb, hf, hn⟩ := ht
    simp only [insF]
    by_cases he : i = u
    · subst he
      rw [if_pos rfl]
      rw [hu] at hb
      obtain ⟨_, rfl, rfl, rfl, rfl⟩ := nodeO_inj hb
      refine ⟨hu', ⟨hnew, hs, ?_⟩, ?_⟩
      · exact has_other f false _ hf hu hid same n1 hni.2.1
      · exact has_other n top _ hn hu hid same n2 hni.2.2
    · rw [if_neg he]
      refine ⟨?_, ihf _ _ hni.2.1 ndf hf, ihn _ _ hni.2.2 ndn hn⟩
      rw [pt_insF, same _ (adr_ne hu hb he) (adr_ne hid hb (fun e => hni.1 e.symm))]
      unfold nx
      rw [pt_insF]
      exact hb
/-- A new row right behind a. -/
theorem has_insN {u id : Int} {tx : ByteArray} {s : T} {nv x1 x2 x3 y1 y2 y3 y4 : Value} (same : ∀ b, b ≠ adr u → b ≠ adr id → h' b = h b)
    (hid : h (adr id) = some (nodeO id y1 y2 y3 y4)) (hnew : h' (adr id) = some (nodeO id (.string tx) x2 (pt adr s) nv)) (hs : Has h' adr false (PP adr id) s)
    (hu : h (adr u) = some (nodeO u x1 x2 x3 nv)) (hu' : h' (adr u) = some (nodeO u x1 x2 x3 (PP adr id))) (t : T) :
    ∀ (top : Bool) (up : Value), (top = true → u ∉ chain t) → id ∉ ids t → (ids t).Nodup → Has h adr top up t → Has h' adr top up (insN u id tx s t) := by
  induction t with
  | nil => intros; trivial
  | node i x f n ihf ihn =>
    intro top up htop hni nd ht
    simp only [ids, List.nodup_cons, List.nodup_append, List.mem_append, List.mem_cons, not_or] at nd hni
    obtain ⟨⟨n1, n2⟩, ndf, ndn, hdis⟩ := nd
    obtain ⟨hb, hf, hn⟩ := ht
    simp only [insN]
    by_cases he : i = u
    · subst he
      rw [if_pos rfl]
      have ht0 : top = false := by
        cases top with
        | false => rfl
        | true => exact absurd (by simp [chain]) (htop rfl)
      subst ht0
      rw [hu] at hb
      obtain ⟨_, rfl, rfl, rfl, rfl⟩ := nodeO_inj hb
      refine ⟨hu', ?_, hnew, hs, ?_⟩
      · exact has_other f false _ hf hu hid same n1 hni.2.1
      · exact has_other n false _ hn hu hid same n2 hni.2.2
    · rw [if_neg he]
      refine ⟨?_, ihf _ _ (by simp) hni.2.1 ndf hf, ihn _ _ (fun e hc => htop e (by simp [chain, hc])) hni.2.2 ndn hn⟩
      rw [pt_insN, same _ (adr_ne hu hb he) (adr_ne hid hb (fun e => hni.1 e.symm))]
      unfold nx
      rw [pt_insN]
      exact hb
/-- A row's text is another one. -/
theorem has_setT {u : Int} {tx : ByteArray} {x1 x2 x3 x4 : Value} (same : ∀ b, b ≠ adr u → h' b = h b)
    (hu : h (adr u) = some (nodeO u x1 x2 x3 x4)) (hu' : h' (adr u) = some (nodeO u (.string tx) x2 x3 x4)) (t : T) :
    ∀ (top : Bool) (up : Value), (ids t).Nodup → Has h adr top up t → Has h' adr top up (setT u tx t) := by
  induction t with
  | nil => intros; trivial
  | node i x f n ihf ihn =>
    intro top up nd ht
    simp only [ids, List.nodup_cons, List.nodup_append, List.mem_append, not_or] at nd
    obtain ⟨⟨n1, n2⟩, ndf, ndn, hdis⟩ := nd
    obtain ⟨hb, hf, hn⟩ := ht
    simp only [setT]
    by_cases he : i = u
    · subst he
      rw [if_pos rfl]
      rw [hu] at hb
      obtain ⟨_, rfl, rfl, rfl, rfl⟩ := nodeO_inj hb
      exact ⟨hu', has_other f false _ hf hu hu (fun b h1 _ => same b h1) n1 n1, has_other n top _ hn hu hu (fun b h1 _ => same b h1) n2 n2⟩
    · rw [if_neg he]
      refine ⟨?_, ihf _ _ ndf hf, ihn _ _ ndn hn⟩
      rw [pt_setT, same _ (adr_ne hu hb he)]
      unfold nx
      rw [pt_setT]
      exact hb

theorem prevOf_mem (m a : Int) (t : T) : ∀ p, prevOf m p t = some (some a) → a ∈ ids t ∨ p = some a := by
  induction t with
  | nil => simp [prevOf]
  | node i x f n ihf ihn =>
    intro p hp
    simp only [prevOf] at hp
    simp only [ids, List.mem_cons, List.mem_append]
    split at hp
    · exact .inr (by simpa using hp)
    · rw [Option.or_eq_some_iff] at hp
      rcases hp with hp | ⟨_, hp⟩
      · rcases ihf none hp with h | h
        · exact .inl (.inr (.inl h))
        · cases h
      · rcases ihn (some i) hp with h | h
        · exact .inl (.inr (.inr h))
        · injection h with h; exact .inl (.inl h.symm)
/-- A row that stands behind a is taken out. -/
theorem has_cutN {a m : Int} {nv x1 x2 x3 y1 y2 y3 : Value} (same : ∀ b, b ≠ adr a → b ≠ adr m → h' b = h b)
    (hm : h (adr m) = some (nodeO m y1 y2 y3 nv)) (ha : h (adr a) = some (nodeO a x1 x2 x3 (PP adr m))) (ha' : h' (adr a) = some (nodeO a x1 x2 x3 nv)) (t : T) :
    ∀ (top : Bool) (up : Value) (p : Option Int), (top = true → m ∉ chain t) → (ids t).Nodup → p ≠ some a → prevOf m p t = some (some a) → Has h adr top up t → Has h' adr top up (cut m t) := by
  induction t with
  | nil => intros; trivial
  | node i x f n ihf ihn =>
    intro top up p htop nd hpa hp ht
    simp only [ids, List.nodup_cons, List.nodup_append, List.mem_append, not_or] at nd
    obtain ⟨⟨n1, n2⟩, ndf, ndn, hdis⟩ := nd
    obtain ⟨hb, hf, hn⟩ := ht
    simp only [prevOf] at hp
    simp only [cut]
    split at hp
    · rename_i e
      exact absurd (by simpa using hp) hpa
    · rename_i hne
      rw [if_neg hne]
      rw [Option.or_eq_some_iff] at hp
      rcases hp with hp | ⟨hpf, hp⟩
      · -- in the first part
        have haf : a ∈ ids f := (prevOf_mem m a f none hp).resolve_right (by simp)
        have hmf : m ∈ ids f := by
          rcases Decidable.em (m ∈ ids f) with h1 | h1
          · exact h1
          · rw [prevOf_not m none f h1] at hp; cases hp
        have han : a ∉ ids n := fun h1 => hdis a haf a h1 rfl
        have hmn : m ∉ ids n := fun h1 => hdis m hmf m h1 rfl
        have hia : i ≠ a := fun e => n1 (e ▸ haf)
        rw [cut_not m n hmn]
        refine ⟨?_, ihf _ _ none (by simp) ndf (by simp) hp hf, has_other n top _ hn ha hm same han hmn⟩
        rw [same _ (adr_ne ha hb hia) (adr_ne hm hb hne), hb]
        have : pt adr (cut m f) = pt adr f := by
          cases f with
          | nil => rfl
          | node j y g q =>
            simp only [cut]
            rw [if_neg (fun e => by simp [prevOf, e] at hp)]; rfl
        rw [this]
      · have hmn : m ∈ ids n := by
          rcases Decidable.em (m ∈ ids n) with h1 | h1
          · exact h1
          · rw [prevOf_not m _ n h1] at hp; cases hp
        have hmf : m ∉ ids f := fun h1 => hdis m h1 m hmn rfl
        rw [cut_not m f hmf]
        rcases Decidable.em (i = a) with hia | hia
        · -- right behind it
          subst hia
          rw [ha] at hb
          obtain ⟨_, rfl, rfl, rfl, hnx⟩ := nodeO_inj hb
          have htf : top = false := by
            cases top with
            | false => rfl
            | true => simp [nx] at hnx
          subst htf
          cases n with
          | nil => simp [ids] at hmn
          | node j y g q =>
            simp only [nx, pt, Bool.false_eq_true, if_false, Value.pointer.injEq, Option.some.injEq, Addr.mk.injEq, and_true] at hnx
            have hjm : j = m := by
              have h1 := hn.1
              rw [← hnx, hm] at h1
              exact (nodeO_inj h1).1.symm
            subst hjm
            have h1 := hn.1
            rw [hm] at h1
            obtain ⟨_, _, _, _, rfl⟩ := nodeO_inj h1
            simp only [ids, List.mem_cons, List.mem_append, not_or] at n2
            simp only [ids, List.nodup_cons, List.mem_append, not_or] at ndn
            simp only [cut, if_true]
            exact ⟨ha', has_other f false _ hf ha hm same n1 hmf, has_other q false _ hn.2.2 ha hm same n2.2.2 ndn.1.2⟩
        · have han : a ∈ ids n := (prevOf_mem m a n (some i) hp).resolve_right (fun e => hia (by injection e))
          have haf : a ∉ ids f := fun h1 => hdis a h1 a han rfl
          refine ⟨?_, has_other f false _ hf ha hm same haf hmf, ihn _ _ (some i) (fun e hc => htop e (by simp [chain, hc])) ndn (fun e => hia (by injection e)) hp hn⟩
          rw [same _ (adr_ne ha hb hia) (adr_ne hm hb hne), hb]
          have : nx adr top (cut m n) = nx adr top n := by
            cases top with
            | true => rfl
            | false =>
              cases n with
              | nil => rfl
              | node j y g q =>
                have hjm : j ≠ m := by
                  intro e
                  simp only [prevOf] at hp
                  rw [if_pos e] at hp
                  injection hp with hp
                  injection hp with hp
                  exact hia hp
                show pt adr (cut m (node j y g q)) = pt adr (node j y g q)
                simp only [cut]
                rw [if_neg hjm]; rfl
          rw [this]
/-- A row that stands first under u is taken out. -/
theorem has_cutF {u m : Int} {nv x1 x2 x4 y1 y2 y3 : Value} (same : ∀ b, b ≠ adr u → b ≠ adr m → h' b = h b)
    (hm : h (adr m) = some (nodeO m y1 y2 y3 nv)) (hu : h (adr u) = some (nodeO u x1 x2 (PP adr m) x4)) (hu' : h' (adr u) = some (nodeO u x1 x2 nv x4)) (t : T) :
    ∀ (top : Bool) (up : Value) (p : Option Int) (q : Option Int), (ids t).Nodup → p ≠ none → prevOf m p t = some none → upOf m q t = some (some u) → Has h adr top up t → Has h' adr top up (cut m t) := by
  induction t with
  | nil => intros; trivial
  | node i x f n ihf ihn =>
    intro top up p q nd hpn hp hq ht
    simp only [ids, List.nodup_cons, List.nodup_append, List.mem_append, not_or] at nd
    obtain ⟨⟨n1, n2⟩, ndf, ndn, hdis⟩ := nd
    obtain ⟨hb, hf, hn⟩ := ht
    simp only [prevOf] at hp
    simp only [upOf] at hq
    simp only [cut]
    split at hp
    · exact absurd (by simpa using hp) hpn
    · rename_i hne
      rw [if_neg hne] at hq ⊢
      rw [Option.or_eq_some_iff] at hp
      rcases hp with hp | ⟨hpf, hp⟩
      · have hmf : m ∈ ids f := by
          rcases Decidable.em (m ∈ ids f) with h1 | h1
          · exact h1
          · rw [prevOf_not m none f h1] at hp; cases hp
        have hmn : m ∉ ids n := fun h1 => hdis m hmf m h1 rfl
        rw [upOf_not m q n hmn, Option.or_none] at hq
        rw [cut_not m n hmn]
        have hui : u = i ∨ u ∈ ids f := by
          rcases up_get f ndf m u (some i) hq with ⟨_, e⟩ | ⟨y, g, hg, _⟩
          · injection e with e; exact .inl e.symm
          · exact .inr (get_sub u f y g hg).1
        have hun : u ∉ ids n := fun h1 => by
          rcases hui with e | h2
          · exact n2 (e ▸ h1)
          · exact hdis u h2 u h1 rfl
        rcases Decidable.em (i = u) with hiu | hiu
        · subst hiu
          rw [hu] at hb
          obtain ⟨_, rfl, rfl, hfx, rfl⟩ := nodeO_inj hb
          cases f with
          | nil => simp [ids] at hmf
          | node j y g r =>
            simp only [pt, Value.pointer.injEq, Option.some.injEq, Addr.mk.injEq, and_true] at hfx
            have hjm : j = m := by
              have h1 := hf.1
              rw [← hfx, hm] at h1
              exact (nodeO_inj h1).1.symm
            subst hjm
            have h1 := hf.1
            rw [hm] at h1
            obtain ⟨_, _, _, _, rfl⟩ := nodeO_inj h1
            simp only [ids, List.mem_cons, List.mem_append, not_or] at n1
            simp only [ids, List.nodup_cons, List.mem_append, not_or] at ndf
            simp only [cut, if_true]
            refine ⟨?_, has_other r false _ hf.2.2 hu hm same n1.2.2 ndf.1.2, has_other n top _ hn hu hm same n2 hmn⟩
            simpa [nx] using hu'
        · have huf : u ∈ ids f := hui.resolve_left (fun e => hiu e.symm)
          have hroot : ∀ j y g r, f = node j y g r → j ≠ m := by
            intro j y g r e hj
            subst e; subst hj
            simp only [upOf, if_true, Option.some.injEq] at hq
            exact hiu hq
          refine ⟨?_, ?_, has_other n top _ hn hu hm same hun hmn⟩
          · rw [same _ (adr_ne hu hb hiu) (adr_ne hm hb hne), hb]
            have : pt adr (cut m f) = pt adr f := by
              cases f with
              | nil => rfl
              | node j y g r =>
                simp only [cut]
                rw [if_neg (hroot j y g r rfl)]; rfl
            rw [this]
          · refine ihf _ _ (some i) (some i) ndf (by simp) ?_ hq hf
            cases f with
            | nil => simp [ids] at hmf
            | node j y g r =>
              simp only [prevOf] at hp ⊢
              rw [if_neg (hroot j y g r rfl)] at hp ⊢
              exact hp
      · have hmn : m ∈ ids n := by
          rcases Decidable.em (m ∈ ids n) with h1 | h1
          · exact h1
          · rw [prevOf_not m _ n h1] at hp; cases hp
        have hmf : m ∉ ids f := fun h1 => hdis m h1 m hmn rfl
        rw [upOf_not m _ f hmf, Option.none_or] at hq
        rw [cut_not m f hmf]
        have hroot : ∀ j y g r, n = node j y g r → j ≠ m := by
          intro j y g r e hj
          subst e; subst hj
          simp [prevOf] at hp
        have hun : u ∈ ids n := by
          rcases up_get n ndn m u q hq with ⟨hc, _⟩ | ⟨y, g, hg, _⟩
          · exfalso
            -- it would stand among its siblings with one ahead
            have : ∀ (s : T) (v : Option Int), v ≠ none → (ids s).Nodup → m ∈ chain s → prevOf m v s ≠ some none := by
              intro s
              induction s with
              | nil => intro v _ _ h; simp [chain] at h
              | node j y g r _ ihr =>
                intro v hv nds hcs
                simp only [chain, List.mem_cons] at hcs
                simp only [ids, List.nodup_cons, List.nodup_append, List.mem_append, not_or] at nds
                simp only [prevOf]
                by_cases hj : j = m
                · rw [if_pos hj]; simpa using hv
                · rw [if_neg hj]
                  have hcr : m ∈ chain r := hcs.resolve_left (fun e => hj e.symm)
                  rw [prevOf_not m none g (fun hh => nds.2.2.2 m hh m (chain_sub r m hcr) rfl), Option.none_or]
                  exact ihr (some j) (by simp) nds.2.2.1 hcr
            exact this n (some i) (by simp) ndn hc hp
          · exact (get_sub u n y g hg).1
        have hiu : i ≠ u := fun e => n2 (e ▸ hun)
        have huf : u ∉ ids f := fun h1 => hdis u h1 u hun rfl
        refine ⟨?_, has_other f false _ hf hu hm same huf hmf, ihn _ _ (some i) q ndn (by simp) hp hq hn⟩
        rw [same _ (adr_ne hu hb hiu) (adr_ne hm hb hne), hb]
        have : nx adr top (cut m n) = nx adr top n := by
          cases top with
          | true => rfl
          | false =>
            cases n with
            | nil => rfl
            | node j y g r =>
              show pt adr (cut m (node j y g r)) = pt adr (node j y g r)
              simp only [cut]
              rw [if_neg (hroot j y g r rfl)]; rfl
        rw [this]
end
end T
end Go.Proofs.YtjhbbgeebobcpaaDoor
namespace Go.Proofs.YtjhbbgeebobcpaaDoor
open Go.RowKit
set_option linter.unusedVariables false

/-! ### pointers to rows, compared -/
theorem size_node : (Tryd.prog.info? 122).map (·.size) = some 5 := by kernel_rfl
theorem eqin_same (d : Nat) (a : Addr) (W : World) : (Op.equalIn (d + 1) 116 (.pointer (some a)) (.pointer (some a))).run Tryd.prog W = .ok true W := by
  obtain ⟨i, hi, _⟩ := Option.map_eq_some_iff.1 size_node
  simp [Op.equalIn, run_underlying Tryd.underlying116, typeInfo, sizeOf, run_sameAddr_same, hi]
theorem eqin_other (d : Nat) {a b : Addr} {W : World} {ca cb : Array Value} {ta tb : TypeId} (hne : a ≠ b) (ha : W.heap[a.block]? = some (.cells ca ta (0, 0))) (hb : W.heap[b.block]? = some (.cells cb tb (0, 0))) :
    (Op.equalIn (d + 1) 116 (.pointer (some a)) (.pointer (some b))).run Tryd.prog W = .ok false W := by
  obtain ⟨i, hi, hs⟩ := Option.map_eq_some_iff.1 size_node
  simp [Op.equalIn, run_underlying Tryd.underlying116, typeInfo, sizeOf, hi, hs, run_sameAddr_other W hne ha hb]
theorem eqin_nil (d : Nat) (b : Addr) (W : World) : (Op.equalIn (d + 1) 116 (.pointer none) (.pointer (some b))).run Tryd.prog W = .ok false W := by
  simp [Op.equalIn, run_underlying Tryd.underlying116]
theorem eql_same (a : Addr) (W : World) : (binOp .eql 116 (.pointer (some a)) (.pointer (some a))).run Tryd.prog W = .ok (.bool true) W := by
  simp only [binOp]; simp [Op.equal, Op.maxDepth, eqin_same 9999 a W]
theorem neq_same (a : Addr) (W : World) : (binOp .neq 116 (.pointer (some a)) (.pointer (some a))).run Tryd.prog W = .ok (.bool false) W := by
  simp only [binOp]; simp [Op.equal, Op.maxDepth, eqin_same 9999 a W]
theorem eql_other {a b : Addr} {W : World} {ca cb : Array Value} {ta tb : TypeId} (hne : a ≠ b) (ha : W.heap[a.block]? = some (.cells ca ta (0, 0))) (hb : W.heap[b.block]? = some (.cells cb tb (0, 0))) :
    (binOp .eql 116 (.pointer (some a)) (.pointer (some b))).run Tryd.prog W = .ok (.bool false) W := by
  simp only [binOp]; simp [Op.equal, Op.maxDepth, eqin_other 9999 hne ha hb]
theorem neq_other {a b : Addr} {W : World} {ca cb : Array Value} {ta tb : TypeId} (hne : a ≠ b) (ha : W.heap[a.block]? = some (.cells ca ta (0, 0))) (hb : W.heap[b.block]? = some (.cells cb tb (0, 0))) :
    (binOp .neq 116 (.pointer (some a)) (.pointer (some b))).run Tryd.prog W = .ok (.bool true) W := by
  simp only [binOp]; simp [Op.equal, Op.maxDepth, eqin_other 9999 hne ha hb]
theorem eql_nil (b : Addr) (W : World) : (binOp .eql 116 (.pointer none) (.pointer (some b))).run Tryd.prog W = .ok (.bool false) W := by
  simp only [binOp]; simp [Op.equal, Op.maxDepth, eqin_nil 9999 b W]
theorem neq_nil (b : Addr) (W : World) : (binOp .neq 116 (.pointer none) (.pointer (some b))).run Tryd.prog W = .ok (.bool true) W := by
  simp only [binOp]; simp [Op.equal, Op.maxDepth, eqin_nil 9999 b W]

abbrev hpOf (w : World) : HP := fun b => w.heap[b]?
def fst (adr : Int → Nat) (t : T) (i : Nat) : Value := if (i : Int) ∈ T.ids t then PP adr i else nilp
/-- Block g is the table of a forest: its rows lie as the tree says. -/
structure Frs (w : World) (g : Nat) (adr : Int → Nat) (t : T) : Prop where
  has : T.Has (hpOf w) adr true nilp t
  tab : w.rowIs g 119 37 (fst adr t)
  nd : (T.ids t).Nodup
  rng : ∀ i ∈ T.ids t, 1 ≤ i ∧ i < 37
def upv (adr : Int → Nat) : Option Int → Value
  | none => nilp
  | some u => PP adr u
theorem T.has_info {h : HP} {adr : Int → Nat} (j : Int) (x : ByteArray) (f : T) (t : T) : ∀ (top : Bool) (q : Option Int), (T.ids t).Nodup → T.get j t = some (x, f) → T.Has h adr top (upv adr q) t →
    ∃ n top' q', T.nextOf j t = some n ∧ T.upOf j q t = some q' ∧ (top' = true → top = true ∧ j ∈ T.chain t) ∧ h (adr j) = some (nodeO j (.string x) (upv adr q') (T.pt adr f) (T.nx adr top' n)) ∧ T.Has h adr false (PP adr j) f := by
  induction t with
  | nil => intro _ _ _ h; simp [T.get] at h
  | node i y g n ihf ihn =>
    intro top q nd hg ht
    simp only [T.ids, List.nodup_cons, List.nodup_append, List.mem_append, not_or] at nd
    obtain ⟨⟨n1, n2⟩, ndf, ndn, hdis⟩ := nd
    obtain ⟨hb, hf, hn⟩ := ht
    simp only [T.get] at hg
    simp only [T.nextOf, T.upOf, T.chain]
    split at hg
    · rename_i e
      simp only [Option.some.injEq, Prod.mk.injEq] at hg
      obtain ⟨rfl, rfl⟩ := hg
      subst e
      exact ⟨n, top, q, by simp, by simp, fun h => ⟨h, List.mem_cons_self⟩, hb, hf⟩
    · rename_i hne
      rw [if_neg hne, if_neg hne]
      rw [Option.or_eq_some_iff] at hg
      rcases hg with hg | ⟨_, hg⟩
      · obtain ⟨n', top', q', e1, e2, e3, e4⟩ := ihf false (some i) ndf hg hf
        exact ⟨n', top', q', by rw [e1]; rfl, by rw [e2]; rfl, (fun h => by have h9 := (e3 h).1; simp at h9), e4⟩
      · have hj := (T.get_sub j n x f hg).1
        have hjf : j ∉ T.ids g := fun h => hdis j h j hj rfl
        obtain ⟨n', top', q', e1, e2, e3, e4⟩ := ihn top q ndn hg hn
        exact ⟨n', top', q', by rw [T.nextOf_not j g hjf, e1]; rfl, by rw [T.upOf_not j _ g hjf, e2]; rfl, fun h => ⟨(e3 h).1, List.mem_cons_of_mem _ (e3 h).2⟩, e4⟩
section
variable {w : World} {g : Nat} {adr : Int → Nat} {t : T}
theorem Frs.info (h : Frs w g adr t) (j : Int) (hj : j ∈ T.ids t) : ∃ x f n top q, T.get j t = some (x, f) ∧ T.nextOf j t = some n ∧ T.upOf j none t = some q ∧ (top = true → j ∈ T.chain t) ∧
    w.heap[adr j]? = some (nodeO j (.string x) (upv adr q) (T.pt adr f) (T.nx adr top n)) ∧ T.Has (hpOf w) adr false (PP adr j) f := by
  obtain ⟨x, f, hg⟩ := T.get_some j t hj
  obtain ⟨n, top, q, e1, e2, e3, e4, e5⟩ := T.has_info j x f t true none h.nd hg h.has
  exact ⟨x, f, n, top, q, hg, e1, e2, fun h => (e3 h).2, e4, e5⟩
theorem Frs.inj (h : Frs w g adr t) {i j : Int} (hi : i ∈ T.ids t) (hj : j ∈ T.ids t) (hne : i ≠ j) : adr i ≠ adr j := by
  obtain ⟨x, f, n, top, q, _, _, _, _, e, _⟩ := h.info i hi
  obtain ⟨x', f', n', top', q', _, _, _, _, e', _⟩ := h.info j hj
  exact T.adr_ne (h := hpOf w) e' e hne
theorem cells_of {b : Nat} {i : Int} {a b' c d : Value} (h : w.heap[b]? = some (nodeO i a b' c d)) :
    w.cell? ⟨b, 0, none⟩ = some (.int .i64 i) ∧ w.cell? ⟨b, 1, none⟩ = some a ∧ w.cell? ⟨b, 2, none⟩ = some b' ∧ w.cell? ⟨b, 3, none⟩ = some c ∧ w.cell? ⟨b, 4, none⟩ = some d ∧ ∀ o, w.frozen? ⟨b, o, none⟩ = false := by
  refine ⟨by simp [World.cell?, h], by simp [World.cell?, h], by simp [World.cell?, h], by simp [World.cell?, h], by simp [World.cell?, h], fun o => by simp [World.frozen?, h]⟩
theorem Frs.ext (h : Frs w g adr t) {w' : World} (hb : Below w.heap.size w w') : Frs w' g adr t := by
  refine ⟨T.has_same t true nilp (fun j hj => ?_) h.has, h.tab.of_block (hb.block g h.tab.lt), h.nd, h.rng⟩
  obtain ⟨a, b, c, d, e⟩ := T.has_at t true nilp h.has j hj
  exact hb.block _ (Array.getElem?_eq_some_iff.1 e).1
theorem Frs.size (h : Frs w g adr t) : g < w.heap.size := h.tab.lt
end

theorem find_yes (g : Nat) (adr : Int → Nat) (t : T) (id : Int) (w : World) (hf : Frs w g adr t) (hi : id ∈ T.ids t) :
    Calls Tryd.prog 83 #[.pointer (some ⟨g, 0, none⟩), .int .i64 id] w fun e w' => e = .returned (PP adr id) ∧ w' = w := by
  obtain ⟨h1, h2⟩ := hf.rng id hi
  have hc := hf.tab.cell (i := id.toNat) (by omega)
  have hcast : ((id.toNat : Nat) : Int) = id := by omega
  simp only [fst, hcast] at hc
  rw [if_pos hi] at hc
  clear hcast hf hi
  go_enter Tryd.func83, Tryd.ntmps83
  go_wp2
  go_ret
  exact ⟨rfl, rfl⟩
theorem find_no (g : Nat) (adr : Int → Nat) (t : T) (id : Int) (w : World) (hf : Frs w g adr t) (hi : id ∉ T.ids t) :
    Calls Tryd.prog 83 #[.pointer (some ⟨g, 0, none⟩), .int .i64 id] w fun e w' => e = .returned nilp ∧ w' = w := by
  by_cases h : 0 ≤ id ∧ id < 37
  · obtain ⟨h1, h2⟩ := h
    have hc := hf.tab.cell (i := id.toNat) (by omega)
    have hcast : ((id.toNat : Nat) : Int) = id := by omega
    simp only [fst, hcast] at hc
    rw [if_neg hi] at hc
    clear hcast hf hi
    go_enter Tryd.func83, Tryd.ntmps83
    go_wp2
    go_ret
    exact ⟨rfl, rfl⟩
  · clear hf hi
    by_cases h1 : id < 0
    · go_enter Tryd.func83, Tryd.ntmps83
      go_wp2
      go_ret
      exact ⟨rfl, rfl⟩
    · have h2 : 37 ≤ id := by omega
      go_enter Tryd.func83, Tryd.ntmps83
      go_wp2
      go_ret
      exact ⟨rfl, rfl⟩

def posv (adr : Int → Nat) (p : Int) : Value := if 0 < p then PP adr p else nilp
theorem upv_ne (adr : Int → Nat) {q : Option Int} {up : Int} (h : ∀ u, q = some u → adr u ≠ adr up) : upv adr q ≠ PP adr up := by
  cases q with
  | none => simp [upv]
  | some u => simpa [upv] using h u rfl
/-- A pointer's test, whatever stands on its one side. -/
theorem upv_cases (adr : Int → Nat) (q : Option Int) : upv adr q = nilp ∨ ∃ a, upv adr q = .pointer (some ⟨a, 0, none⟩) := by
  cases q with
  | none => exact .inl rfl
  | some u => exact .inr ⟨_, rfl⟩
set_option maxHeartbeats 1000000 in
set_option maxRecDepth 100000 in
theorem near_c (g : Nat) (adr : Int → Nat) (t : T) (id up pos : Int) (w : World) (hf : Frs w g adr t) (h3 : 3 ∈ T.ids t) :
    Calls Tryd.prog 99 #[.pointer (some ⟨g, 0, none⟩), .int .i64 id, .int .i64 up, .int .i64 pos] w fun e w' =>
      e = .returned (.tuple #[PP adr (T.near t id up pos).1, posv adr (T.near t id up pos).2]) ∧ w' = w := by
  by_cases hu : up ∈ T.ids t
  · have f1 := Lib.hid (find_yes g adr t up w hf hu)
    by_cases hp : pos ∈ T.ids t
    · have f2 := Lib.hid (find_yes g adr t pos w hf hp)
      obtain ⟨x, f, n, top, q, -, -, hq, -, hb, -⟩ := hf.info pos hp
      obtain ⟨c0, -, c2, -, -, -⟩ := cells_of hb
      have h1p := (hf.rng pos hp).1
      rcases Decidable.em (q = some up) with hqu | hqu
      · subst hqu
        simp only [upv] at c2
        have q1 := neq_same ⟨adr up, 0, none⟩
        by_cases hpi : pos = id
        · have hn : T.near t id up pos = (up, 0) := by simp [T.near, hu, hpi]
          rw [hn]
          have hpi' : (pos == id) = true := beq_iff_eq.2 hpi
          clear hn hf hu hp hq hb hpi
          go_enter Tryd.func99, Tryd.ntmps99
          go_wp2_with fail
          refine f1.out.mono ?_; rintro e w' ⟨rfl, rfl⟩
          go_wp2_with fail
          refine f2.out.mono ?_; rintro e w' ⟨rfl, rfl⟩
          go_wp2_with fail
          go_ret2
          exact ⟨by simp [posv], rfl⟩
        · have hn : T.near t id up pos = (up, pos) := by simp [T.near, hu, hpi, hq]
          rw [hn]
          have hpi' : (pos == id) = false := beq_eq_false_iff_ne.2 hpi
          clear hn hf hu hp hq hb hpi
          go_enter Tryd.func99, Tryd.ntmps99
          go_wp2_with fail
          refine f1.out.mono ?_; rintro e w' ⟨rfl, rfl⟩
          go_wp2_with fail
          refine f2.out.mono ?_; rintro e w' ⟨rfl, rfl⟩
          go_wp2_with fail
          go_ret2
          exact ⟨by simp [posv]; omega, rfl⟩
      · have hn : T.near t id up pos = (up, 0) := by
          simp only [T.near, if_pos hu, hq]
          rw [if_neg (fun h => hqu (by injection h.1))]
        rw [hn]
        obtain ⟨xu, fu, nu, topu, qu, -, -, -, -, hbu, -⟩ := hf.info up hu
        have hqb : ∀ a, upv adr q = .pointer (some ⟨a, 0, none⟩) → ∃ c, w.heap[a]? = some (.cells c 122 (0, 0)) := fun a e => by
          cases q with
          | none => simp [upv] at e
          | some u =>
            simp only [upv, Value.pointer.injEq, Option.some.injEq, Addr.mk.injEq, and_true] at e
            have hum : u ∈ T.ids t := by
              rcases T.up_get t hf.nd pos u none hq with ⟨_, h⟩ | ⟨y, g', h, _⟩
              · cases h
              · exact (T.get_sub u t y g' h).1
            obtain ⟨xv, fv, nv, topv, qv, -, -, -, -, hbv, -⟩ := hf.info u hum
            rw [← e]; exact ⟨_, hbv⟩
        have hne : upv adr q ≠ PP adr up := upv_ne adr (fun u e => by
          subst e
          have hum : u ∈ T.ids t := by
            rcases T.up_get t hf.nd pos u none hq with ⟨_, h⟩ | ⟨y, g', h, _⟩
            · cases h
            · exact (T.get_sub u t y g' h).1
          exact hf.inj hum hu (fun e => hqu (by rw [e])))
        rcases upv_cases adr q with hv | ⟨a, hv⟩
        · rw [hv] at c2 hne
          have q1 := neq_nil ⟨adr up, 0, none⟩
          clear hn hf hu hp hq hb hqu hv hne
          go_enter Tryd.func99, Tryd.ntmps99
          go_wp2_with fail
          refine f1.out.mono ?_; rintro e w' ⟨rfl, rfl⟩
          go_wp2_with fail
          refine f2.out.mono ?_; rintro e w' ⟨rfl, rfl⟩
          go_wp2_with fail
          go_ret2
          exact ⟨by simp [posv], rfl⟩
        · rw [hv] at c2 hne
          have ha : (⟨a, 0, none⟩ : Addr) ≠ ⟨adr up, 0, none⟩ := fun e => hne (by rw [e])
          obtain ⟨ca, hca⟩ := hqb a hv
          have q1 := neq_other (W := w) ha hca hbu
          clear hn hf hu hp hq hb hqu hv hne hqb hca hbu ha
          go_enter Tryd.func99, Tryd.ntmps99
          go_wp2_with fail
          refine f1.out.mono ?_; rintro e w' ⟨rfl, rfl⟩
          go_wp2_with fail
          refine f2.out.mono ?_; rintro e w' ⟨rfl, rfl⟩
          go_wp2_with fail
          go_ret2
          exact ⟨by simp [posv], rfl⟩
    · have f2 := Lib.hid (find_no g adr t pos w hf hp)
      have hn : T.near t id up pos = (up, 0) := by
        simp only [T.near, if_pos hu]
        rw [if_neg (fun h => hp (T.up_mem t hf.nd pos up h.1))]
      rw [hn]
      clear hn hf hu hp
      go_enter Tryd.func99, Tryd.ntmps99
      go_wp2_with fail
      refine f1.out.mono ?_; rintro e w' ⟨rfl, rfl⟩
      go_wp2_with fail
      refine f2.out.mono ?_; rintro e w' ⟨rfl, rfl⟩
      go_wp2_with fail
      go_ret2
      exact ⟨by simp [posv], rfl⟩
  · have f1 := Lib.hid (find_no g adr t up w hf hu)
    have f2 := Lib.hid (find_yes g adr t 3 w hf h3)
    have hn : T.near t id up pos = (3, 0) := by simp [T.near, hu]
    rw [hn]
    clear hn hf hu h3
    go_enter Tryd.func99, Tryd.ntmps99
    go_wp2_with fail
    refine f1.out.mono ?_; rintro e w' ⟨rfl, rfl⟩
    go_wp2_with fail
    refine f2.out.mono ?_; rintro e w' ⟨rfl, rfl⟩
    go_wp2_with fail
    go_ret2
    exact ⟨by simp [posv], rfl⟩

/-- How deep a row stands. -/
def T.deep (t : T) (c : Int) : Nat := match (T.rows 0 t).find? (fun r => r.id == c) with | some r => r.depth.toNat | none => 0
theorem T.deep_up (t : T) (nd : (T.ids t).Nodup) (c p : Int) (h : T.upOf c none t = some (some p)) : T.deep t p < T.deep t c := by
  have key : ∀ a, a ∈ T.ids t → ∃ r ∈ T.rows 0 t, r.id = a ∧ T.deep t a = r.depth.toNat ∧ 0 ≤ r.depth := by
    intro a ha
    obtain ⟨r, hr, e⟩ := (T.mem_ids 0 t a).1 ha
    unfold T.deep
    cases hf : (T.rows 0 t).find? (fun r => r.id == a) with
    | none => rw [List.find?_eq_none] at hf; exact absurd e (by simpa using hf r hr)
    | some q =>
      have h1 := List.mem_of_find?_eq_some hf
      have h2 := List.find?_some hf
      exact ⟨q, h1, by simpa using h2, rfl, T.rows_depth 0 t q h1⟩
  have hc := T.up_mem t nd c p h
  have hp : p ∈ T.ids t := by
    rcases T.up_get t nd c p none h with ⟨_, h⟩ | ⟨y, g', h, _⟩
    · cases h
    · exact (T.get_sub p t y g' h).1
  obtain ⟨a, ha, ea, da, a0⟩ := key p hp
  obtain ⟨b, hb, eb, db, b0⟩ := key c hc
  have := T.up_depth t nd c p h a ha b hb ea eb
  omega

/-- Whether c is m, or stands under it. -/
def T.inB (c m : Int) (f : T) : Bool := decide (c = m ∨ c ∈ T.ids f)
theorem T.inB_iff (c m : Int) (f : T) : T.inB c m f = true ↔ c = m ∨ c ∈ T.ids f := by simp [T.inB]
set_option maxRecDepth 100000 in
/-- Whether a row stands under another one, or is it. -/
theorem within_c (g : Nat) (adr : Int → Nat) (t : T) (c m : Int) (x : ByteArray) (f : T) (w : World) (hf : Frs w g adr t) (hc : c ∈ T.ids t) (hm : T.get m t = some (x, f)) :
    Calls Tryd.prog 100 #[PP adr c, PP adr m] w fun e w' => e = .returned (.bool (T.inB c m f)) ∧ w' = w := by
  have hmi := (T.get_sub m t x f hm).1
  have HF := Lib.hid hf
  go_enter Tryd.func100, Tryd.ntmps100
  go_wp2
  go_loopg [0] (T.deep t c + 1) (fun gk v wr => wr = w ∧ ∃ q : Option Int, v = upv adr q ∧ (∀ d, q = some d → d ∈ T.ids t ∧ T.deep t d < gk ∧ Hid (T.inB d m f = T.inB c m f)) ∧ (q = none → Hid (T.inB c m f = false)))
  case atStart => exact ⟨rfl, some c, rfl, fun d e => by cases e; exact ⟨hc, by omega, rfl⟩, fun h => by cases h⟩
  case round =>
    obtain ⟨rfl, q, rfl, hd, hn⟩ := hrel
    cases q with
    | none =>
      have HN := hn rfl
      clear hd hn
      simp only [upv]
      go_wp2
      go_ret
      exact ⟨by rw [HN.out]; rfl, rfl⟩
    | some d =>
      obtain ⟨hdi, hdg, HD⟩ := hd d rfl
      clear hd hn
      obtain ⟨y, f', n, top, q, -, -, hq, -, hb, -⟩ := hf.info d hdi
      obtain ⟨-, -, c2, -, -, -⟩ := cells_of hb
      by_cases hdm : d = m
      · subst hdm
        clear hf hb hq c2 hm
        have q1 := eql_same ⟨adr d, 0, none⟩
        simp only [upv]
        go_wp2
        go_ret
        exact ⟨by rw [← HD.out, (T.inB_iff d d f).2 (.inl rfl)]; rfl, rfl⟩
      · have hne := hf.inj hdi hmi hdm
        obtain ⟨xm, fm, nm, topm, qm, -, -, -, -, hbm, -⟩ := hf.info m hmi
        have q1 := eql_other (W := wr) (a := ⟨adr d, 0, none⟩) (b := ⟨adr m, 0, none⟩) (fun e => hne (by injection e)) hb hbm
        clear hbm hne
        have HQ := Lib.hid hq
        have HM := Lib.hid hm
        have HDM := Lib.hid hdm
        have HDG := Lib.hid hdg
        clear hf hb hq hm hdm hdg
        simp only [upv]
        go_wp2
        go_roundg (gk - 1)
        case measure => have := HDG.out; omega
        case rel =>
          refine ⟨rfl, q, rfl, fun d' e => ?_, fun e => ?_⟩
          · subst e
            have hdi' : d' ∈ T.ids t := by
              rcases T.up_get t HF.out.nd d d' none HQ.out with ⟨_, h⟩ | ⟨y', g', h, _⟩
              · cases h
              · exact (T.get_sub d' t y' g' h).1
            refine ⟨hdi', ?_, ?_⟩
            · have := T.deep_up t HF.out.nd d d' HQ.out; have := HDG.out; omega
            · have h1 := T.under_step t HF.out.nd m x f HM.out d d' HQ.out
              have h3 := HDM.out
              show T.inB d' m f = T.inB c m f
              rw [← HD.out, Bool.eq_iff_iff, T.inB_iff, T.inB_iff]
              exact h1.symm.trans ⟨.inr, fun h => h.resolve_left h3⟩
          · subst e
            show T.inB c m f = false
            rw [← HD.out, Bool.eq_false_iff]
            intro h
            have h2 := ((T.inB_iff d m f).1 h).resolve_left HDM.out
            obtain ⟨p, hp, _⟩ := T.under_in t HF.out.nd m x f HM.out d h2
            rw [HQ.out] at hp
            cases hp
end Go.Proofs.YtjhbbgeebobcpaaDoor
