/- Valid trees: they are the valid lists, and a valid change leaves them so. Plain Lean. .. Trees in memory: each row a block of five cells; what a turned pointer makes of the tree. -/
import Derived.Test.YtjhbbgeebobcpaaDoorZAB
import Derived.Test.YtjhbbgeebobcpaaDoorZAA
namespace Go.Proofs.YtjhbbgeebobcpaaDoor
set_option linter.unusedVariables false
namespace T
def Good : T → Prop
 |nil => True
 |node id tx f n => isMade id = true ∧ textOk tx = true ∧ Good f ∧ Good n
def Top (i : Int) : T → Prop
 |nil => True
 |node id tx f n => id = i ∧ tx = ⟨#[]⟩ ∧ Good f ∧ Top (i + 1) n
def Valid (t : T) : Prop := Top 1 t ∧ (chain t).length = 3 ∧ (ids t).Nodup
def spine : T → List Int
 |nil => []
 |node id _ f nil => id :: spine f
 |node _ _ _ (node a b c d) => spine (node a b c d)
def snoc (id : Int) (tx : ByteArray) : T → Nat → T
 |nil, _ => node id tx nil nil
 |node i x f nil, 0 => node i x f (node id tx nil nil)
 |node i x f nil, d + 1 => node i x (snoc id tx f d) nil
 |node i x f (node a b c e), d => node i x f (snoc id tx (node a b c e) d)
def build (l : List Row) : T := l.foldl (fun t r => snoc r.id r.text t r.depth.toNat) nil
theorem rows_snoc (id : Int) (tx : ByteArray) (t : T) : ∀ (d : Nat) (d0 : Int), d ≤ (spine t).length → rows d0 (snoc id tx t d) = rows d0 t ++ [⟨id, d0 + d, tx⟩] := by
 induction t with
 |nil => intro d d0 h; simp [spine] at h; subst h; simp [snoc, rows]
 |node i x f n ihf ihn =>
  intro d d0 h
  cases n with
  |nil =>
   cases d with
   |zero => simp [snoc, rows]
   |succ d =>
    simp only [spine, List.length_cons] at h
    simp only [snoc, rows]
    rw [ihf d (d0 + 1) (by omega)]
    simp; omega
  |node a b c e =>
   simp only [spine] at h
   simp only [snoc]
   rw [rows, ihn d d0 h]
   simp [rows]
theorem snoc_node (id : Int) (tx : ByteArray) (t : T) (d : Nat) : ∃ a b c e, snoc id tx t d = node a b c e := by
 cases t with
 |nil => exact ⟨_, _, _, _, rfl⟩
 |node i x f n =>
  cases n with
  |nil =>
   cases d with
   |zero => exact ⟨_, _, _, _, rfl⟩
   |succ d => exact ⟨_, _, _, _, rfl⟩
  |node a b c e => exact ⟨_, _, _, _, rfl⟩
theorem spine_snoc (id : Int) (tx : ByteArray) (t : T) : ∀ d : Nat, d ≤ (spine t).length → spine (snoc id tx t d) = (spine t).take d ++ [id] := by
 induction t with
 |nil => intro d h; simp [spine] at h; subst h; simp [snoc, spine]
 |node i x f n ihf ihn =>
  intro d h
  cases n with
  |nil =>
   cases d with
   |zero => simp [snoc, spine]
   |succ d =>
    simp only [spine, List.length_cons] at h
    simp only [snoc, spine]
    rw [ihf d (by omega)]
    simp
  |node a b c e =>
   simp only [spine] at h
   simp only [snoc, spine]
   obtain ⟨a', b', c', e', he⟩ := snoc_node id tx (node a b c e) d
   rw [he]
   simp only [spine]
   rw [← he, ihn d h]
theorem good_snoc (id : Int) (tx : ByteArray) (h1 : isMade id = true) (h2 : textOk tx = true) (t : T) : ∀ d, Good t → Good (snoc id tx t d) := by
 induction t with
 |nil => intro d _; exact ⟨h1, h2, trivial, trivial⟩
 |node i x f n ihf ihn =>
  intro d hg
  cases n with
  |nil =>
   cases d with
   |zero => exact ⟨hg.1, hg.2.1, hg.2.2.1, h1, h2, trivial, trivial⟩
   |succ d => exact ⟨hg.1, hg.2.1, ihf d hg.2.2.1, trivial⟩
  |node a b c e => exact ⟨hg.1, hg.2.1, hg.2.2.1, ihn d hg.2.2.2⟩
theorem top_snoc_made (id : Int) (tx : ByteArray) (h1 : isMade id = true) (h2 : textOk tx = true) (t : T) : ∀ (d : Nat) (i : Int), t ≠ nil → 0 < d → Top i t → Top i (snoc id tx t d) ∧ (chain (snoc id tx t d)).length = (chain t).length := by
 induction t with
 |nil => intro d i h; exact absurd rfl h
 |node j x f n ihf ihn =>
  intro d i _ hd ht
  cases n with
  |nil =>
   cases d with
   |zero => omega
   |succ d => exact ⟨⟨ht.1, ht.2.1, good_snoc id tx h1 h2 f d ht.2.2.1, trivial⟩, rfl⟩
  |node a b c e =>
   obtain ⟨g1, g2⟩ := ihn d (i + 1) (by simp) hd ht.2.2.2
   exact ⟨⟨ht.1, ht.2.1, ht.2.2.1, g1⟩, by simp only [snoc, chain, List.length_cons] at g2 ⊢; rw [g2]⟩
theorem top_snoc_root (t : T) : ∀ i : Int, Top i t → Top i (snoc (i + (chain t).length) ⟨#[]⟩ t 0) ∧ (chain (snoc (i + (chain t).length) ⟨#[]⟩ t 0)).length = (chain t).length + 1 := by
 induction t with
 |nil => intro i _; exact ⟨⟨by simp [chain], rfl, trivial, trivial⟩, rfl⟩
 |node j x f n ihf ihn =>
  intro i ht
  cases n with
  |nil => exact ⟨⟨ht.1, ht.2.1, ht.2.2.1, by simp [chain], rfl, trivial, trivial⟩, rfl⟩
  |node a b c e =>
   have h := ihn (i + 1) ht.2.2.2
   have e1 : i + ((chain (node j x f (node a b c e))).length : Int) = i + 1 + ((chain (node a b c e)).length : Int) := by simp [chain]; omega
   rw [e1]
   exact ⟨⟨ht.1, ht.2.1, ht.2.2.1, h.1⟩, by have h2 := h.2; simp only [snoc, chain, List.length_cons] at h2 ⊢; rw [h2]⟩
structure Part (t : T) (seen : List Int) (roots depth : Int) : Prop where
 top : Top 1 t
 num : roots = (chain t).length
 deep : depth + 1 = (spine t).length
 seen : ∀ a, a ∈ seen ↔ a ∈ ids t
 nd : (ids t).Nodup
theorem ids_snoc (id : Int) (tx : ByteArray) (t : T) (d : Nat) (h : d ≤ (spine t).length) : ids (snoc id tx t d) = ids t ++ [id] := by
 rw [← rows_ids 0, rows_snoc id tx t d 0 h]; simp [rows_ids]
theorem spine_nil (t : T) (h : (spine t).length = 0) : t = nil := by
 induction t with
 |nil => rfl
 |node i x f n ihf ihn =>
  cases n with
  |nil => simp [spine] at h
  |node a b c e => simp only [spine] at h; have := ihn h; cases this
theorem part_step (t : T) (seen : List Int) (roots depth : Int) (p : Part t seen roots depth) (r : Row) (rest : List Row) (h : treeOkF seen roots depth (r :: rest) = true) :
  0 ≤ r.depth ∧ r.depth.toNat ≤ (spine t).length ∧ r.id ∉ ids t ∧ ∃ roots', Part (snoc r.id r.text t r.depth.toNat) (r.id :: seen) roots' r.depth ∧ treeOkF (r.id :: seen) roots' r.depth rest = true := by
 simp only [treeOkF, Bool.and_eq_true, decide_eq_true_eq, Bool.not_eq_true'] at h
 obtain ⟨⟨⟨hr, hs⟩, hd⟩, h⟩ := h
 have hns : r.id ∉ ids t := fun hi => by
  have := (p.seen r.id).2 hi
  rw [List.contains_eq_mem] at hs
  simp [this] at hs
 have hdeep := p.deep
 cases hroot : isRoot r.id with
 |true =>
  rw [hroot, if_pos rfl] at h
  simp only [Bool.and_eq_true, decide_eq_true_eq] at h
  simp only [rowOk, hroot, if_true, Bool.and_eq_true, decide_eq_true_eq] at hr
  have h0 : r.depth.toNat = 0 := by omega
  refine ⟨by omega, by omega, hns, roots + 1, ?_, h.2⟩
  have hid : r.id = 1 + (chain t).length := by rw [h.1, p.num]; omega
  have htop := top_snoc_root t 1 p.top
  rw [h0, hr.2]
  rw [hid] at hns ⊢
  refine ⟨htop.1, by rw [htop.2, p.num]; simp, ?_, ?_, ?_⟩
  ·rw [spine_snoc _ _ t 0 (Nat.zero_le _)]; simp; omega
  ·intro a; rw [ids_snoc _ _ t 0 (Nat.zero_le _)]; simp [p.seen a]; exact Or.comm
  ·rw [ids_snoc _ _ t 0 (Nat.zero_le _), List.nodup_append]
   exact ⟨p.nd, by simp, fun a ha b hb => by simp at hb; rw [hb]; intro e; exact hns (e ▸ ha)⟩
 |false =>
  rw [hroot] at h
  simp only [Bool.false_eq_true, if_false] at h
  simp only [rowOk, hroot, Bool.false_eq_true, if_false, Bool.and_eq_true, decide_eq_true_eq] at hr
  obtain ⟨⟨hm, h1, h2⟩, htx⟩ := hr
  have hle : r.depth.toNat ≤ (spine t).length := by omega
  refine ⟨by omega, hle, hns, roots, ?_, h⟩
  have hne : t ≠ nil := by
   intro e; subst e; simp [spine] at hdeep; omega
  have htop := top_snoc_made r.id r.text hm htx t r.depth.toNat 1 hne (by omega) p.top
  refine ⟨htop.1, by rw [htop.2, p.num], ?_, ?_, ?_⟩
  ·rw [spine_snoc _ _ t _ hle]; simp; omega
  ·intro a; rw [ids_snoc _ _ t _ hle]; simp [p.seen a]; exact Or.comm
  ·rw [ids_snoc _ _ t _ hle, List.nodup_append]
   exact ⟨p.nd, by simp, fun a ha b hb => by simp at hb; rw [hb]; intro e; exact hns (e ▸ ha)⟩
theorem build_snoc (l : List Row) (r : Row) : build (l ++ [r]) = snoc r.id r.text (build l) r.depth.toNat := by simp [build, List.foldl_append]
theorem part_take (l : List Row) (h : treeOk l = true) : ∀ k, k ≤ l.length → ∃ seen roots depth, Part (build (l.take k)) seen roots depth ∧ treeOkF seen roots depth (l.drop k) = true ∧ rows 0 (build (l.take k)) = l.take k := by
 intro k
 induction k with
 |zero => intro _; exact ⟨[], 0, -1, ⟨trivial, rfl, rfl, by simp [build, ids], by simp [build, ids]⟩, by simpa [treeOk] using h, by simp [build, rows]⟩
 |succ k ih =>
  intro hk
  obtain ⟨seen, roots, depth, p, ht, hr⟩ := ih (by omega)
  rw [List.drop_eq_getElem_cons (by omega)] at ht
  obtain ⟨h0, h1, h2, roots', p', ht'⟩ := part_step _ seen roots depth p l[k] _ ht
  rw [List.take_succ_eq_append_getElem (by omega), build_snoc]
  refine ⟨_, roots', _, p', ht', ?_⟩
  rw [rows_snoc _ _ _ _ 0 h1, hr]
  have : (0 : Int) + (l[k].depth.toNat : Int) = l[k].depth := by omega
  rw [this]
theorem valid_build (l : List Row) (h : treeOk l = true) : Valid (build l) ∧ rows 0 (build l) = l := by
 obtain ⟨seen, roots, depth, p, ht, hr⟩ := part_take l h l.length (Nat.le_refl _)
 rw [List.take_length] at p hr
 rw [List.drop_length] at ht
 simp only [treeOkF, decide_eq_true_eq] at ht
 exact ⟨⟨p.top, by have := p.num; omega, p.nd⟩, hr⟩
/-! ### valid trees have valid lists -/
theorem nodup_le (l : List Int) : ∀ m : List Int, l.Nodup → (∀ a ∈ l, a ∈ m) → l.length ≤ m.length := by
 induction l with
 |nil => intro m _ _; simp
 |cons a l ih =>
  intro m nd h
  have ha : a ∈ m := h a (List.mem_cons_self)
  have h1 := ih (m.erase a) (List.nodup_cons.1 nd).2 (fun b hb => (List.mem_erase_of_ne (fun e => (List.nodup_cons.1 nd).1 (by rw [← e]; exact hb))).2 (h b (List.mem_cons_of_mem _ hb)))
  rw [List.length_erase_of_mem ha] at h1
  have : 0 < m.length := List.length_pos_of_mem ha
  simp only [List.length_cons]; omega
theorem made_le (l : List Int) (nd : l.Nodup) (h : ∀ a ∈ l, isMade a = true) : l.length ≤ 18 := by
 have := nodup_le l [11, 12, 13, 14, 15, 16, 21, 22, 23, 24, 25, 26, 31, 32, 33, 34, 35, 36] nd (fun a ha => by
  have := (isMade_iff a).1 (h a ha)
  simp only [List.mem_cons, List.not_mem_nil, or_false]
  omega)
 simpa using this
theorem good_made (t : T) (h : Good t) : ∀ a ∈ ids t, isMade a = true := by
 induction t with
 |nil => simp [ids]
 |node i x f n ihf ihn =>
  intro a ha
  simp only [ids, List.mem_cons, List.mem_append] at ha
  rcases ha with rfl | ha | ha
  ·exact h.1
  ·exact ihf h.2.2.1 a ha
  ·exact ihn h.2.2.2 a ha
theorem depth_le (t : T) : ∀ d, ∀ r ∈ rows d t, r.depth ≤ d - 1 + (ids t).length := by
 induction t with
 |nil => simp [rows]
 |node i x f n ihf ihn =>
  intro d r hr
  simp only [rows, List.mem_cons, List.mem_append] at hr
  simp only [ids, List.length_cons, List.length_append]
  rcases hr with rfl | hr | hr
  ·simp only; omega
  ·have := ihf (d + 1) r hr; omega
  ·have := ihn d r hr; omega
theorem ok_good (t : T) : ∀ (d depth roots : Int) (seen : List Int) (rest : List Row), Good t → (ids t).Nodup → (∀ a ∈ ids t, a ∉ seen) → 1 ≤ d → d ≤ depth + 1 → (∀ r ∈ rows d t, r.depth ≤ 18) →
  ∃ seen' depth', treeOkF seen roots depth (rows d t ++ rest) = treeOkF seen' roots depth' rest ∧ (∀ a, a ∈ seen' ↔ a ∈ seen ∨ a ∈ ids t) ∧ d ≤ depth' + 1 := by
 induction t with
 |nil => intro d depth roots seen rest _ _ _ _ hd _; exact ⟨seen, depth, rfl, by simp [ids], hd⟩
 |node i x f n ihf ihn =>
  intro d depth roots seen rest hg nd hs h1 hd hb
  simp only [ids, List.nodup_cons, List.nodup_append, List.mem_append, not_or] at nd
  obtain ⟨⟨n1, n2⟩, ndf, ndn, hdis⟩ := nd
  have hr := made_not_root i hg.1
  have hi : i ∉ seen := hs i (by simp [ids])
  have hrow : rowOk ⟨i, d, x⟩ = true := by
   have : d ≤ 18 := hb ⟨i, d, x⟩ (by simp [rows])
   simp [rowOk, hr, hg.1, hg.2.1, h1, this]
  obtain ⟨s1, d1, e1, m1, b1⟩ := ihf (d + 1) d roots (i :: seen) (rows d n ++ rest) hg.2.2.1 ndf (fun a ha h => by
   rcases List.mem_cons.1 h with rfl | h
   ·exact n1 ha
   ·exact hs a (by simp [ids, ha]) h) (by omega) (by omega) (fun r hr => hb r (by simp [rows, hr]))
  obtain ⟨s2, d2, e2, m2, b2⟩ := ihn d d1 roots s1 rest hg.2.2.2 ndn (fun a ha h => by
   rw [m1] at h
   rcases h with h | h
   ·rcases List.mem_cons.1 h with rfl | h
    ·exact n2 ha
    ·exact hs a (by simp [ids, ha]) h
   ·exact hdis a h a ha rfl) h1 (by omega) (fun r hr => hb r (by simp [rows, hr]))
  refine ⟨s2, d2, ?_, ?_, b2⟩
  ·have : treeOkF seen roots depth (rows d (node i x f n) ++ rest) = treeOkF (i :: seen) roots d (rows (d + 1) f ++ (rows d n ++ rest)) := by
    simp only [rows, List.cons_append, List.append_assoc, treeOkF]
    rw [hrow, hr, List.contains_eq_mem]
    simp [hi, hd]
   rw [this, e1, e2]
  ·intro a
   rw [m2, m1]
   simp only [List.mem_cons, ids, List.mem_append]
   constructor
   ·rintro ((( h | h) | h) | h)
    ·exact .inr (.inl h)
    ·exact .inl h
    ·exact .inr (.inr (.inl h))
    ·exact .inr (.inr (.inr h))
   ·rintro (h | h | h | h)
    ·exact .inl (.inl (.inr h))
    ·exact .inl (.inl (.inl h))
    ·exact .inl (.inr h)
    ·exact .inr h
theorem ok_top (t : T) : ∀ (i depth roots : Int) (seen : List Int), Top i t → i = roots + 1 → 0 ≤ roots → roots + (chain t).length = 3 → (ids t).Nodup → (∀ a ∈ ids t, a ∉ seen) → 0 ≤ depth + 1 → treeOkF seen roots depth (rows 0 t) = true := by
 induction t with
 |nil => intro i depth roots seen _ _ _ h _ _ _; simp [chain] at h; simp [rows, treeOkF, h]
 |node j x f n ihf ihn =>
  intro i depth roots seen ht hi h0 h3 nd hs hd
  simp only [ids, List.nodup_cons, List.nodup_append, List.mem_append, not_or] at nd
  obtain ⟨⟨n1, n2⟩, ndf, ndn, hdis⟩ := nd
  obtain ⟨rfl, rfl, hg, htn⟩ := ht
  simp only [chain, List.length_cons] at h3
  have hroot : isRoot j = true := by rw [isRoot_iff]; omega
  have hb : ∀ r ∈ rows (0 + 1) f, r.depth ≤ 18 := by
   intro r hr
   have h1 := depth_le f (0 + 1) r hr
   have h2 := made_le (ids f) ndf (good_made f hg)
   omega
  obtain ⟨s1, d1, e1, m1, b1⟩ := ok_good f (0 + 1) 0 (roots + 1) (j :: seen) (rows 0 n) hg ndf (fun a ha h => by
   rcases List.mem_cons.1 h with rfl | h
   ·exact n1 ha
   ·exact hs a (by simp [ids, ha]) h) (by omega) (by omega) hb
  have h2 := ihn (j + 1) d1 (roots + 1) s1 htn (by omega) (by omega) (by omega) ndn (fun a ha h => by
   rw [m1] at h
   rcases h with h | h
   ·rcases List.mem_cons.1 h with rfl | h
    ·exact n2 ha
    ·exact hs a (by simp [ids, ha]) h
   ·exact hdis a h a ha rfl) (by omega)
  have hj : j ∉ seen := hs j (by simp [ids])
  simp only [rows, treeOkF]
  rw [e1, h2, List.contains_eq_mem]
  rw [hi] at hroot hj ⊢
  simp [rowOk, hroot, hj, hd]
theorem treeOk_rows (t : T) (h : Valid t) : treeOk (rows 0 t) = true := ok_top t 1 (-1) 0 [] h.1 rfl (by omega) (by rw [h.2.1]; rfl) h.2.2 (by simp) (by omega)
/-! ### a valid change leaves a valid tree so -/
theorem insF_perm (u id : Int) (tx : ByteArray) (s t : T) (hu : u ∈ ids t) (nd : (ids t).Nodup) : (ids (insF u id tx s t)).Perm (id :: (ids s ++ ids t)) := by
 obtain ⟨pre, k, x, f, n, post, sp⟩ := split u t hu nd 0
 rw [← rows_ids 0, sp.insF, ← rows_ids 0 t, sp.all, List.perm_iff_count]
 intro a
 simp only [rows, List.map_append, List.map_cons, List.count_append, List.count_cons, rows_ids]
 omega
theorem insN_perm (u id : Int) (tx : ByteArray) (s t : T) (hu : u ∈ ids t) (nd : (ids t).Nodup) : (ids (insN u id tx s t)).Perm (id :: (ids s ++ ids t)) := by
 obtain ⟨pre, k, x, f, n, post, sp⟩ := split u t hu nd 0
 rw [← rows_ids 0, sp.insN, ← rows_ids 0 t, sp.all, List.perm_iff_count]
 intro a
 simp only [rows, List.map_append, List.map_cons, List.count_append, List.count_cons, rows_ids]
 omega
theorem setT_ids (m : Int) (tx : ByteArray) (t : T) : ids (setT m tx t) = ids t := by
 induction t with
 |nil => rfl
 |node i x f n ihf ihn => simp only [setT]; split <;> simp [ids, ihf, ihn]
theorem good_setT (m : Int) (tx : ByteArray) (h : textOk tx = true) (t : T) (hg : Good t) : Good (setT m tx t) := by
 induction t with
 |nil => trivial
 |node i x f n ihf ihn =>
  simp only [setT]; split
  ·exact ⟨hg.1, h, hg.2.2.1, hg.2.2.2⟩
  ·exact ⟨hg.1, hg.2.1, ihf hg.2.2.1, ihn hg.2.2.2⟩
theorem good_insF (u id : Int) (tx : ByteArray) (s : T) (h1 : isMade id = true) (h2 : textOk tx = true) (h3 : Good s) (t : T) (hg : Good t) : Good (insF u id tx s t) := by
 induction t with
 |nil => trivial
 |node i x f n ihf ihn =>
  simp only [insF]; split
  ·exact ⟨hg.1, hg.2.1, ⟨h1, h2, h3, hg.2.2.1⟩, hg.2.2.2⟩
  ·exact ⟨hg.1, hg.2.1, ihf hg.2.2.1, ihn hg.2.2.2⟩
theorem good_insN (u id : Int) (tx : ByteArray) (s : T) (h1 : isMade id = true) (h2 : textOk tx = true) (h3 : Good s) (t : T) (hg : Good t) : Good (insN u id tx s t) := by
 induction t with
 |nil => trivial
 |node i x f n ihf ihn =>
  simp only [insN]; split
  ·exact ⟨hg.1, hg.2.1, hg.2.2.1, ⟨h1, h2, h3, hg.2.2.2⟩⟩
  ·exact ⟨hg.1, hg.2.1, ihf hg.2.2.1, ihn hg.2.2.2⟩
theorem good_cut (m : Int) (t : T) (hg : Good t) : Good (cut m t) := by
 induction t with
 |nil => trivial
 |node i x f n ihf ihn =>
  simp only [cut]; split
  ·exact hg.2.2.2
  ·exact ⟨hg.1, hg.2.1, ihf hg.2.2.1, ihn hg.2.2.2⟩
theorem good_get (m : Int) (t : T) (hg : Good t) (x : ByteArray) (f : T) (h : get m t = some (x, f)) : textOk x = true ∧ Good f := by
 induction t with
 |nil => simp [get] at h
 |node i y g n ihf ihn =>
  simp only [get] at h
  split at h
  ·simp only [Option.some.injEq, Prod.mk.injEq] at h
   rw [← h.1, ← h.2]; exact ⟨hg.2.1, hg.2.2.1⟩
  ·rw [Option.or_eq_some_iff] at h
   rcases h with h | ⟨_, h⟩
   ·exact ihf hg.2.2.1 h
   ·exact ihn hg.2.2.2 h
theorem top_turn (g : T → T) (hnil : g nil = nil) (hnode : ∀ i x f n, isRoot i = true → ∃ f', (g (node i x f n) = node i x f' (g n) ∨ g (node i x f n) = node i x f' n) ∧ (Good f → Good f')) (t : T) : ∀ i, Top i t → 1 ≤ i → i + (chain t).length ≤ 4 → Top i (g t) ∧ (chain (g t)).length = (chain t).length := by
 induction t with
 |nil => intro i _ _ _; rw [hnil]; exact ⟨trivial, rfl⟩
 |node j x f n ihf ihn =>
  intro i ht h1 h4
  obtain ⟨rfl, rfl, hg, htn⟩ := ht
  simp only [chain, List.length_cons] at h4
  obtain ⟨f', e, hf⟩ := hnode j ⟨#[]⟩ f n (by rw [isRoot_iff]; omega)
  obtain ⟨a, b⟩ := ihn (j + 1) htn (by omega) (by omega)
  rcases e with e | e
  ·rw [e]
   exact ⟨⟨rfl, rfl, hf hg, a⟩, by simp [chain, b]⟩
  ·rw [e]
   exact ⟨⟨rfl, rfl, hf hg, htn⟩, by simp [chain]⟩
theorem top_get (m : Int) (t : T) (x : ByteArray) (f : T) (h : get m t = some (x, f)) (hm : isRoot m = false) : ∀ i, Top i t → 1 ≤ i → i + (chain t).length ≤ 4 → textOk x = true ∧ Good f := by
 induction t with
 |nil => simp [get] at h
 |node j y g n ihf ihn =>
  intro i ht h1 h4
  obtain ⟨rfl, rfl, hg, htn⟩ := ht
  simp only [chain, List.length_cons] at h4
  simp only [get] at h
  rw [if_neg (fun e => by rw [← e] at hm; have := (isRoot_iff j).2 (by omega); rw [this] at hm; cases hm), Option.or_eq_some_iff] at h
  rcases h with h | ⟨_, h⟩
  ·exact good_get m g hg x f h
  ·exact ihn h (j + 1) htn (by omega) (by omega)
theorem top_ids (t : T) : ∀ i, Top i t → 1 ≤ i → i + (chain t).length ≤ 4 → ∀ j : Int, i ≤ j → j < i + (chain t).length → j ∈ ids t ∧ upOf j none t = some none := by
 induction t with
 |nil => intro i _ _ _ j h1 h2; simp [chain] at h2; omega
 |node a x f n ihf ihn =>
  intro i ht hi h4 j h1 h2
  obtain ⟨rfl, rfl, hg, htn⟩ := ht
  simp only [chain, List.length_cons] at h2 h4
  by_cases e : a = j
  ·subst e; exact ⟨by simp [ids], by simp [upOf]⟩
  ·obtain ⟨p, q⟩ := ihn (a + 1) htn (by omega) (by omega) j (by omega) (by omega)
   refine ⟨by simp [ids, p], ?_⟩
   have hj : j ∉ ids f := fun h => by
    have := (isMade_iff j).1 (good_made f hg j h)
    omega
   simp only [upOf]
   rw [if_neg e, upOf_not j _ f hj]
   simpa using q
theorem Valid.root {t : T} (h : Valid t) (j : Int) (hj : isRoot j = true) : j ∈ ids t ∧ upOf j none t = some none := by
 rw [isRoot_iff] at hj
 exact top_ids t 1 h.1 (by omega) (by rw [h.2.1]; decide) j (by omega) (by rw [h.2.1]; omega)
theorem top_ids_ok (t : T) : ∀ i, Top i t → 1 ≤ i → i + (chain t).length ≤ 4 → ∀ j ∈ ids t, isRoot j = true ∨ isMade j = true := by
 induction t with
 |nil => simp [ids]
 |node a x f n ihf ihn =>
  intro i ht hi h4 j hj
  obtain ⟨rfl, rfl, hg, htn⟩ := ht
  simp only [chain, List.length_cons] at h4
  simp only [ids, List.mem_cons, List.mem_append] at hj
  rcases hj with rfl | hj | hj
  ·exact .inl ((isRoot_iff j).2 (by omega))
  ·exact .inr (good_made f hg j hj)
  ·exact ihn (a + 1) htn (by omega) (by omega) j hj
theorem Valid.ids_ok {t : T} (h : Valid t) (j : Int) (hj : j ∈ ids t) : isRoot j = true ∨ isMade j = true := top_ids_ok t 1 h.1 (by omega) (by rw [h.2.1]; decide) j hj
theorem valid_put (t : T) (h : Valid t) (id : Int) (tx : ByteArray) (s : T) (h1 : isMade id = true) (h2 : textOk tx = true) (h3 : Good s) (hn : id ∉ ids t) (hs : (ids s).Nodup) (his : id ∉ ids s) (hd : ∀ a ∈ ids s, a ∉ ids t) (p : Int × Int) (hp : p.1 ∈ ids t)
  (hp2 : 0 < p.2 → p.2 ∈ ids t ∧ isRoot p.2 = false) : Valid (put t id tx s p) := by
 have hnd : (id :: (ids s ++ ids t)).Nodup := by
  rw [List.nodup_cons, List.mem_append, List.nodup_append]
  exact ⟨fun hh => hh.elim his hn, hs, h.2.2, fun a ha b hb e => hd a ha (e ▸ hb)⟩
 unfold put
 split
 ·rename_i h0
  obtain ⟨ha, hr⟩ := hp2 h0
  obtain ⟨q1, q2⟩ := top_turn (insN p.2 id tx s) rfl (fun i x f n hi => ⟨insN p.2 id tx s f, .inl (by simp only [insN]; rw [if_neg (fun e => by rw [e, hr] at hi; cases hi)]), good_insN p.2 id tx s h1 h2 h3 f⟩) t 1 h.1 (by omega) (by rw [h.2.1]; decide)
  exact ⟨q1, by rw [q2, h.2.1], (insN_perm p.2 id tx s t ha h.2.2).nodup_iff.2 hnd⟩
 ·obtain ⟨q1, q2⟩ := top_turn (insF p.1 id tx s) rfl (fun i x f n hi => by
   simp only [insF]
   split
   ·rename_i e
    exact ⟨node id tx s f, .inr rfl, fun hg => ⟨h1, h2, h3, hg⟩⟩
   ·exact ⟨_, .inl rfl, good_insF p.1 id tx s h1 h2 h3 f⟩) t 1 h.1 (by omega) (by rw [h.2.1]; decide)
  exact ⟨q1, by rw [q2, h.2.1], (insF_perm p.1 id tx s t hp h.2.2).nodup_iff.2 hnd⟩
theorem opOk_kind {o : Op} (h : opOk o = true) : isMade o.id = true ∧ (o.kind = 1 ∨ o.kind = 2 ∨ o.kind = 3) ∧ textOk o.text = true ∧ (o.kind ≠ 2 → o.pos = 0 ∨ isMade o.pos = true) := by
 simp only [opOk, Bool.and_eq_true] at h
 obtain ⟨h1, h⟩ := h
 refine ⟨h1, ?_⟩
 have e0 : textOk ⟨#[]⟩ = true := by decide
 split at h
 ·rename_i hk
  simp only [placeOk, Bool.and_eq_true, Bool.or_eq_true, decide_eq_true_eq] at h
  exact ⟨.inl hk, h.2, fun _ => h.1.2⟩
 ·split at h
  ·rename_i hk
   simp only [Bool.and_eq_true, decide_eq_true_eq] at h
   exact ⟨.inr (.inl hk), h.2, fun hh => absurd hk hh⟩
  ·split at h
   ·rename_i hk
    simp only [placeOk, Bool.and_eq_true, Bool.or_eq_true, decide_eq_true_eq] at h
    exact ⟨.inr (.inr hk), by rw [h.2]; exact e0, fun _ => h.1.2⟩
   ·cases h
theorem get_nodup (m : Int) (x : ByteArray) (f : T) (t : T) (nd : (ids t).Nodup) (h : get m t = some (x, f)) : (ids f).Nodup ∧ m ∉ ids f := by
 induction t with
 |nil => simp [get] at h
 |node j z a b iha ihb =>
  simp only [ids, List.nodup_cons, List.nodup_append, List.mem_append, not_or] at nd
  simp only [get] at h
  split at h
  ·rename_i e
   simp only [Option.some.injEq, Prod.mk.injEq] at h
   rw [← h.2, ← e]; exact ⟨nd.2.1, nd.1.1⟩
  ·rw [Option.or_eq_some_iff] at h
   rcases h with h | ⟨_, h⟩
   ·exact iha nd.2.1 h
   ·exact ihb nd.2.2.1 h
theorem valid_doT (t : T) (h : Valid t) (o : Op) (ho : opOk o = true) : Valid (doT t o) := by
 obtain ⟨hm, hk, htx, hpos⟩ := opOk_kind ho
 have hr3 := h.root 3 rfl
 have hroot : isRoot o.id = false := made_not_root _ hm
 have hn := near_ok t h.2.2 hr3.1 o.id o.up o.pos
 unfold doT
 rcases hk with hk | hk | hk
 ·rw [if_neg (by omega), if_pos hk]
  split
  ·exact h
  ·rename_i hi
   refine valid_put t h o.id o.text nil hm htx trivial hi (by simp [ids]) (by simp [ids]) (by simp [ids]) _ hn.1 (fun h0 => ?_)
   obtain ⟨e, _, hu, _⟩ := hn.2 h0
   rw [e] at h0 ⊢
   exact ⟨up_mem t h.2.2 _ _ hu, made_not_root _ ((hpos (by omega)).resolve_left (by omega))⟩
 ·rw [if_pos hk]
  obtain ⟨q1, q2⟩ := top_turn (setT o.id o.text) rfl (fun i x f n hi => ⟨setT o.id o.text f, .inl (by simp only [setT]; rw [if_neg (fun e => by rw [e, hroot] at hi; cases hi)]), good_setT o.id o.text htx f⟩) t 1 h.1 (by omega) (by rw [h.2.1]; decide)
  exact ⟨q1, by rw [q2, h.2.1], by rw [setT_ids]; exact h.2.2⟩
 ·rw [if_neg (by omega), if_neg (by omega), if_pos hk]
  cases hg : get o.id t with
  |none => exact h
  |some p =>
   obtain ⟨x, f⟩ := p
   simp only
   split
   ·exact h
   ·rename_i hq
    obtain ⟨hndc, hsub, hback, hfwd⟩ := cut_facts t h.2.2 o.id x f hg
    obtain ⟨hxt, hxf⟩ := top_get o.id t x f hg hroot 1 h.1 (by omega) (by rw [h.2.1]; decide)
    obtain ⟨q1, q2⟩ := top_turn (cut o.id) rfl (fun i x f n hi => ⟨cut o.id f, .inl (by simp only [cut]; rw [if_neg (fun e => by rw [e, hroot] at hi; cases hi)]), good_cut o.id f⟩) t 1 h.1 (by omega) (by rw [h.2.1]; decide)
    have hv : Valid (cut o.id t) := ⟨q1, by rw [q2, h.2.1], hndc⟩
    have h3f : 3 ∉ ids f := by
     intro h3
     obtain ⟨q, hq, _⟩ := under_in t h.2.2 o.id x f hg 3 h3
     rw [hr3.2] at hq; cases hq
    obtain ⟨ndf, hmf⟩ := get_nodup o.id x f t h.2.2 hg
    refine valid_put (cut o.id t) hv o.id x f hm hxt hxf (fun hh => (hfwd _ hh).2.1 rfl) ndf hmf (fun a ha hh => (hfwd a hh).2.2 ha) _ ?_ (fun h0 => ?_)
    ·unfold near
     split
     ·rename_i hu
      exact hback o.up hu (fun e => hq (.inl e)) (fun e => hq (.inr e))
     ·exact hback 3 hr3.1 (fun e => by rw [← e] at hroot; cases hroot) h3f
    ·obtain ⟨e, hne, hu, hup⟩ := hn.2 h0
     rw [e] at h0 ⊢
     rw [hup] at hu
     exact ⟨hback o.pos (up_mem t h.2.2 _ _ hu) hne (fun hf => hq ((under_step t h.2.2 o.id x f hg o.pos o.up hu).1 hf)), made_not_root _ ((hpos (by omega)).resolve_left (by omega))⟩
end T
def opDo (t : List Row) (o : Op) : List Row := if treeOk t && opOk o then doL t o else []
theorem doL_build (t : List Row) (o : Op) (ht : treeOk t = true) (ho : opOk o = true) : doL t o = T.rows 0 (T.doT (T.build t) o) := by
 obtain ⟨hv, he⟩ := T.valid_build t ht
 obtain ⟨hm, hk, _, _⟩ := T.opOk_kind ho
 have h3 := hv.root 3 rfl
 have := T.doL_rows (T.build t) hv.2.2 h3.2 h3.1 o hk (fun e => by rw [e] at hm; cases hm)
 rwa [he] at this
theorem treeOk_do (t : List Row) (o : Op) (ht : treeOk t = true) (ho : opOk o = true) : treeOk (doL t o) = true := by
 rw [doL_build t o ht ho]
 exact T.treeOk_rows _ (T.valid_doT _ (T.valid_build t ht).1 o ho)
open Go.RowKit
abbrev nilp : Value := .pointer none
abbrev PP (adr : Int → Nat) (id : Int) : Value := .pointer (some ⟨adr id, 0, none⟩)
abbrev nodeO (id : Int) (a b c d : Value) : Obj := .cells #[.int .i64 id, a, b, c, d] 122 (0, 0)
abbrev HP := Nat → Option Obj
theorem nodeO_inj {i j : Int} {a b c d a' b' c' d' : Value} (h : some (nodeO i a b c d) = some (nodeO j a' b' c' d')) : i = j ∧ a = a' ∧ b = b' ∧ c = c' ∧ d = d' := by
 simp only [Option.some.injEq, Obj.cells.injEq, Array.mk.injEq, List.cons.injEq, Value.int.injEq, true_and, and_true] at h
 exact h
namespace T
def pt (adr : Int → Nat) : T → Value
 |nil => nilp
 |node id _ _ _ => PP adr id
def nx (adr : Int → Nat) (top : Bool) (n : T) : Value := if top then nilp else pt adr n
def Has (h : HP) (adr : Int → Nat) (top : Bool) (up : Value) : T → Prop
 |nil => True
 |node id tx f n => h (adr id) = some (nodeO id (.string tx) up (pt adr f) (nx adr top n)) ∧ Has h adr false (PP adr id) f ∧ Has h adr top up n
def prevOf (m : Int) (prev : Option Int) : T → Option (Option Int)
 |nil => none
 |node id _ f n => if id = m then some prev else (prevOf m none f).or (prevOf m (some id) n)
def nextOf (m : Int) : T → Option T
 |nil => none
 |node id _ f n => if id = m then some n else (nextOf m f).or (nextOf m n)
theorem prevOf_not (m : Int) (p : Option Int) (t : T) (h : m ∉ ids t) : prevOf m p t = none := by
 induction t generalizing p with
 |nil => rfl
 |node i x f n ihf ihn =>
  simp only [ids, List.mem_cons, List.mem_append, not_or] at h
  rw [prevOf, if_neg (fun e => h.1 e.symm), ihf _ h.2.1, ihn _ h.2.2]; rfl
theorem nextOf_not (m : Int) (t : T) (h : m ∉ ids t) : nextOf m t = none := by
 induction t with
 |nil => rfl
 |node i x f n ihf ihn =>
  simp only [ids, List.mem_cons, List.mem_append, not_or] at h
  rw [nextOf, if_neg (fun e => h.1 e.symm), ihf h.2.1, ihn h.2.2]; rfl
section
variable {h h' : HP} {adr : Int → Nat}
theorem has_at (t : T) : ∀ (top : Bool) (up : Value), Has h adr top up t → ∀ j ∈ ids t, ∃ a b c d, h (adr j) = some (nodeO j a b c d) := by
 induction t with
 |nil => simp [ids]
 |node i x f n ihf ihn =>
  intro top up ht j hj
  simp only [ids, List.mem_cons, List.mem_append] at hj
  rcases hj with rfl | hj | hj
  ·exact ⟨_, _, _, _, ht.1⟩
  ·exact ihf _ _ ht.2.1 j hj
  ·exact ihn _ _ ht.2.2 j hj
theorem has_same (t : T) : ∀ (top : Bool) (up : Value), (∀ j ∈ ids t, h' (adr j) = h (adr j)) → Has h adr top up t → Has h' adr top up t := by
 induction t with
 |nil => intros; trivial
 |node i x f n ihf ihn =>
  intro top up hs ht
  exact ⟨(hs i (by simp [ids])).trans ht.1, ihf _ _ (fun j hj => hs j (by simp [ids, hj])) ht.2.1, ihn _ _ (fun j hj => hs j (by simp [ids, hj])) ht.2.2⟩
theorem adr_ne {u j : Int} {a b c d a' b' c' d' : Value} (h1 : h (adr u) = some (nodeO u a b c d)) (h2 : h (adr j) = some (nodeO j a' b' c' d')) (hne : j ≠ u) : adr j ≠ adr u := by
 intro e
 rw [e, h1] at h2
 exact hne (nodeO_inj h2).1.symm
theorem has_other (t : T) (top : Bool) (up : Value) (ht : Has h adr top up t) {u id : Int} {a b c d a' b' c' d' : Value} (h1 : h (adr u) = some (nodeO u a b c d)) (h2 : h (adr id) = some (nodeO id a' b' c' d'))
  (same : ∀ b, b ≠ adr u → b ≠ adr id → h' b = h b) (hu : u ∉ ids t) (hid : id ∉ ids t) : Has h' adr top up t := by
 refine has_same t top up (fun j hj => ?_) ht
 obtain ⟨x1, x2, x3, x4, hx⟩ := has_at t top up ht j hj
 exact same _ (adr_ne h1 hx (fun e => hu (e ▸ hj))) (adr_ne h2 hx (fun e => hid (e ▸ hj)))
theorem pt_insF (u id : Int) (tx : ByteArray) (s t : T) : pt adr (insF u id tx s t) = pt adr t := by
 cases t with
 |nil => rfl
 |node i x f n => simp only [insF]; split <;> rfl
theorem pt_insN (u id : Int) (tx : ByteArray) (s t : T) : pt adr (insN u id tx s t) = pt adr t := by
 cases t with
 |nil => rfl
 |node i x f n => simp only [insN]; split <;> rfl
theorem pt_setT (u : Int) (tx : ByteArray) (t : T) : pt adr (setT u tx t) = pt adr t := by
 cases t with
 |nil => rfl
 |node i x f n => simp only [setT]; split <;> rfl
theorem has_insF {u id : Int} {tx : ByteArray} {s : T} {fv x1 x2 x4 y1 y2 y3 y4 : Value} (same : ∀ b, b ≠ adr u → b ≠ adr id → h' b = h b)
  (hid : h (adr id) = some (nodeO id y1 y2 y3 y4)) (hnew : h' (adr id) = some (nodeO id (.string tx) (PP adr u) (pt adr s) fv)) (hs : Has h' adr false (PP adr id) s)
  (hu : h (adr u) = some (nodeO u x1 x2 fv x4)) (hu' : h' (adr u) = some (nodeO u x1 x2 (PP adr id) x4)) (t : T) :
  ∀ (top : Bool) (up : Value), id ∉ ids t → (ids t).Nodup → Has h adr top up t → Has h' adr top up (insF u id tx s t) := by
 induction t with
 |nil => intros; trivial
 |node i x f n ihf ihn =>
  intro top up hni nd ht
  simp only [ids, List.nodup_cons, List.nodup_append, List.mem_append, List.mem_cons, not_or] at nd hni
  obtain ⟨⟨n1, n2⟩, ndf, ndn, hdis⟩ := nd
  obtain ⟨hb, hf, hn⟩ := ht
  simp only [insF]
  by_cases he : i = u
  ·subst he
   rw [if_pos rfl]
   rw [hu] at hb
   obtain ⟨_, rfl, rfl, rfl, rfl⟩ := nodeO_inj hb
   refine ⟨hu', ⟨hnew, hs, ?_⟩, ?_⟩
   ·exact has_other f false _ hf hu hid same n1 hni.2.1
   ·exact has_other n top _ hn hu hid same n2 hni.2.2
  ·rw [if_neg he]
   refine ⟨?_, ihf _ _ hni.2.1 ndf hf, ihn _ _ hni.2.2 ndn hn⟩
   rw [pt_insF, same _ (adr_ne hu hb he) (adr_ne hid hb (fun e => hni.1 e.symm))]
   unfold nx
   rw [pt_insF]
   exact hb
theorem has_insN {u id : Int} {tx : ByteArray} {s : T} {nv x1 x2 x3 y1 y2 y3 y4 : Value} (same : ∀ b, b ≠ adr u → b ≠ adr id → h' b = h b)
  (hid : h (adr id) = some (nodeO id y1 y2 y3 y4)) (hnew : h' (adr id) = some (nodeO id (.string tx) x2 (pt adr s) nv)) (hs : Has h' adr false (PP adr id) s)
  (hu : h (adr u) = some (nodeO u x1 x2 x3 nv)) (hu' : h' (adr u) = some (nodeO u x1 x2 x3 (PP adr id))) (t : T) :
  ∀ (top : Bool) (up : Value), (top = true → u ∉ chain t) → id ∉ ids t → (ids t).Nodup → Has h adr top up t → Has h' adr top up (insN u id tx s t) := by
 induction t with
 |nil => intros; trivial
 |node i x f n ihf ihn =>
  intro top up htop hni nd ht
  simp only [ids, List.nodup_cons, List.nodup_append, List.mem_append, List.mem_cons, not_or] at nd hni
  obtain ⟨⟨n1, n2⟩, ndf, ndn, hdis⟩ := nd
  obtain ⟨hb, hf, hn⟩ := ht
  simp only [insN]
  by_cases he : i = u
  ·subst he
   rw [if_pos rfl]
   have ht0 : top = false := by
    cases top with
    |false => rfl
    |true => exact absurd (by simp [chain]) (htop rfl)
   subst ht0
   rw [hu] at hb
   obtain ⟨_, rfl, rfl, rfl, rfl⟩ := nodeO_inj hb
   refine ⟨hu', ?_, hnew, hs, ?_⟩
   ·exact has_other f false _ hf hu hid same n1 hni.2.1
   ·exact has_other n false _ hn hu hid same n2 hni.2.2
  ·rw [if_neg he]
   refine ⟨?_, ihf _ _ (by simp) hni.2.1 ndf hf, ihn _ _ (fun e hc => htop e (by simp [chain, hc])) hni.2.2 ndn hn⟩
   rw [pt_insN, same _ (adr_ne hu hb he) (adr_ne hid hb (fun e => hni.1 e.symm))]
   unfold nx
   rw [pt_insN]
   exact hb
theorem has_setT {u : Int} {tx : ByteArray} {x1 x2 x3 x4 : Value} (same : ∀ b, b ≠ adr u → h' b = h b)
  (hu : h (adr u) = some (nodeO u x1 x2 x3 x4)) (hu' : h' (adr u) = some (nodeO u (.string tx) x2 x3 x4)) (t : T) :
  ∀ (top : Bool) (up : Value), (ids t).Nodup → Has h adr top up t → Has h' adr top up (setT u tx t) := by
 induction t with
 |nil => intros; trivial
 |node i x f n ihf ihn =>
  intro top up nd ht
  simp only [ids, List.nodup_cons, List.nodup_append, List.mem_append, not_or] at nd
  obtain ⟨⟨n1, n2⟩, ndf, ndn, hdis⟩ := nd
  obtain ⟨hb, hf, hn⟩ := ht
  simp only [setT]
  by_cases he : i = u
  ·subst he
   rw [if_pos rfl]
   rw [hu] at hb
   obtain ⟨_, rfl, rfl, rfl, rfl⟩ := nodeO_inj hb
   exact ⟨hu', has_other f false _ hf hu hu (fun b h1 _ => same b h1) n1 n1, has_other n top _ hn hu hu (fun b h1 _ => same b h1) n2 n2⟩
  ·rw [if_neg he]
   refine ⟨?_, ihf _ _ ndf hf, ihn _ _ ndn hn⟩
   rw [pt_setT, same _ (adr_ne hu hb he)]
   unfold nx
   rw [pt_setT]
   exact hb
theorem prevOf_mem (m a : Int) (t : T) : ∀ p, prevOf m p t = some (some a) → a ∈ ids t ∨ p = some a := by
 induction t with
 |nil => simp [prevOf]
 |node i x f n ihf ihn =>
  intro p hp
  simp only [prevOf] at hp
  simp only [ids, List.mem_cons, List.mem_append]
  split at hp
  ·exact .inr (by simpa using hp)
  ·rw [Option.or_eq_some_iff] at hp
   rcases hp with hp | ⟨_, hp⟩
   ·rcases ihf none hp with h | h
    ·exact .inl (.inr (.inl h))
    ·cases h
   ·rcases ihn (some i) hp with h | h
    ·exact .inl (.inr (.inr h))
    ·injection h with h; exact .inl (.inl h.symm)
theorem has_cutN {a m : Int} {nv x1 x2 x3 y1 y2 y3 : Value} (same : ∀ b, b ≠ adr a → b ≠ adr m → h' b = h b)
  (hm : h (adr m) = some (nodeO m y1 y2 y3 nv)) (ha : h (adr a) = some (nodeO a x1 x2 x3 (PP adr m))) (ha' : h' (adr a) = some (nodeO a x1 x2 x3 nv)) (t : T) :
  ∀ (top : Bool) (up : Value) (p : Option Int), (top = true → m ∉ chain t) → (ids t).Nodup → p ≠ some a → prevOf m p t = some (some a) → Has h adr top up t → Has h' adr top up (cut m t) := by
 induction t with
 |nil => intros; trivial
 |node i x f n ihf ihn =>
  intro top up p htop nd hpa hp ht
  simp only [ids, List.nodup_cons, List.nodup_append, List.mem_append, not_or] at nd
  obtain ⟨⟨n1, n2⟩, ndf, ndn, hdis⟩ := nd
  obtain ⟨hb, hf, hn⟩ := ht
  simp only [prevOf] at hp
  simp only [cut]
  split at hp
  ·rename_i e
   exact absurd (by simpa using hp) hpa
  ·rename_i hne
   rw [if_neg hne]
   rw [Option.or_eq_some_iff] at hp
   rcases hp with hp | ⟨hpf, hp⟩
   ·-- in the first part
    have haf : a ∈ ids f := (prevOf_mem m a f none hp).resolve_right (by simp)
    have hmf : m ∈ ids f := by
     rcases Decidable.em (m ∈ ids f) with h1 | h1
     ·exact h1
     ·rw [prevOf_not m none f h1] at hp; cases hp
    have han : a ∉ ids n := fun h1 => hdis a haf a h1 rfl
    have hmn : m ∉ ids n := fun h1 => hdis m hmf m h1 rfl
    have hia : i ≠ a := fun e => n1 (e ▸ haf)
    rw [cut_not m n hmn]
    refine ⟨?_, ihf _ _ none (by simp) ndf (by simp) hp hf, has_other n top _ hn ha hm same han hmn⟩
    rw [same _ (adr_ne ha hb hia) (adr_ne hm hb hne), hb]
    have : pt adr (cut m f) = pt adr f := by
     cases f with
     |nil => rfl
     |node j y g q =>
      simp only [cut]
      rw [if_neg (fun e => by simp [prevOf, e] at hp)]; rfl
    rw [this]
   ·have hmn : m ∈ ids n := by
     rcases Decidable.em (m ∈ ids n) with h1 | h1
     ·exact h1
     ·rw [prevOf_not m _ n h1] at hp; cases hp
    have hmf : m ∉ ids f := fun h1 => hdis m h1 m hmn rfl
    rw [cut_not m f hmf]
    rcases Decidable.em (i = a) with hia | hia
    ·-- right behind it
     subst hia
     rw [ha] at hb
     obtain ⟨_, rfl, rfl, rfl, hnx⟩ := nodeO_inj hb
     have htf : top = false := by
      cases top with
      |false => rfl
      |true => simp [nx] at hnx
     subst htf
     cases n with
     |nil => simp [ids] at hmn
     |node j y g q =>
      simp only [nx, pt, Bool.false_eq_true, if_false, Value.pointer.injEq, Option.some.injEq, Addr.mk.injEq, and_true] at hnx
      have hjm : j = m := by
       have h1 := hn.1
       rw [← hnx, hm] at h1
       exact (nodeO_inj h1).1.symm
      subst hjm
      have h1 := hn.1
      rw [hm] at h1
      obtain ⟨_, _, _, _, rfl⟩ := nodeO_inj h1
      simp only [ids, List.mem_cons, List.mem_append, not_or] at n2
      simp only [ids, List.nodup_cons, List.mem_append, not_or] at ndn
      simp only [cut, if_true]
      exact ⟨ha', has_other f false _ hf ha hm same n1 hmf, has_other q false _ hn.2.2 ha hm same n2.2.2 ndn.1.2⟩
    ·have han : a ∈ ids n := (prevOf_mem m a n (some i) hp).resolve_right (fun e => hia (by injection e))
     have haf : a ∉ ids f := fun h1 => hdis a h1 a han rfl
     refine ⟨?_, has_other f false _ hf ha hm same haf hmf, ihn _ _ (some i) (fun e hc => htop e (by simp [chain, hc])) ndn (fun e => hia (by injection e)) hp hn⟩
     rw [same _ (adr_ne ha hb hia) (adr_ne hm hb hne), hb]
     have : nx adr top (cut m n) = nx adr top n := by
      cases top with
      |true => rfl
      |false =>
       cases n with
       |nil => rfl
       |node j y g q =>
        have hjm : j ≠ m := by
         intro e
         simp only [prevOf] at hp
         rw [if_pos e] at hp
         injection hp with hp
         injection hp with hp
         exact hia hp
        show pt adr (cut m (node j y g q)) = pt adr (node j y g q)
        simp only [cut]
        rw [if_neg hjm]; rfl
     rw [this]
theorem has_cutF {u m : Int} {nv x1 x2 x4 y1 y2 y3 : Value} (same : ∀ b, b ≠ adr u → b ≠ adr m → h' b = h b)
  (hm : h (adr m) = some (nodeO m y1 y2 y3 nv)) (hu : h (adr u) = some (nodeO u x1 x2 (PP adr m) x4)) (hu' : h' (adr u) = some (nodeO u x1 x2 nv x4)) (t : T) :
  ∀ (top : Bool) (up : Value) (p : Option Int) (q : Option Int), (ids t).Nodup → p ≠ none → prevOf m p t = some none → upOf m q t = some (some u) → Has h adr top up t → Has h' adr top up (cut m t) := by
 induction t with
 |nil => intros; trivial
 |node i x f n ihf ihn =>
  intro top up p q nd hpn hp hq ht
  simp only [ids, List.nodup_cons, List.nodup_append, List.mem_append, not_or] at nd
  obtain ⟨⟨n1, n2⟩, ndf, ndn, hdis⟩ := nd
  obtain ⟨hb, hf, hn⟩ := ht
  simp only [prevOf] at hp
  simp only [upOf] at hq
  simp only [cut]
  split at hp
  ·exact absurd (by simpa using hp) hpn
  ·rename_i hne
   rw [if_neg hne] at hq ⊢
   rw [Option.or_eq_some_iff] at hp
   rcases hp with hp | ⟨hpf, hp⟩
   ·have hmf : m ∈ ids f := by
     rcases Decidable.em (m ∈ ids f) with h1 | h1
     ·exact h1
     ·rw [prevOf_not m none f h1] at hp; cases hp
    have hmn : m ∉ ids n := fun h1 => hdis m hmf m h1 rfl
    rw [upOf_not m q n hmn, Option.or_none] at hq
    rw [cut_not m n hmn]
    have hui : u = i ∨ u ∈ ids f := by
     rcases up_get f ndf m u (some i) hq with ⟨_, e⟩ | ⟨y, g, hg, _⟩
     ·injection e with e; exact .inl e.symm
     ·exact .inr (get_sub u f y g hg).1
    have hun : u ∉ ids n := fun h1 => by
     rcases hui with e | h2
     ·exact n2 (e ▸ h1)
     ·exact hdis u h2 u h1 rfl
    rcases Decidable.em (i = u) with hiu | hiu
    ·subst hiu
     rw [hu] at hb
     obtain ⟨_, rfl, rfl, hfx, rfl⟩ := nodeO_inj hb
     cases f with
     |nil => simp [ids] at hmf
     |node j y g r =>
      simp only [pt, Value.pointer.injEq, Option.some.injEq, Addr.mk.injEq, and_true] at hfx
      have hjm : j = m := by
       have h1 := hf.1
       rw [← hfx, hm] at h1
       exact (nodeO_inj h1).1.symm
      subst hjm
      have h1 := hf.1
      rw [hm] at h1
      obtain ⟨_, _, _, _, rfl⟩ := nodeO_inj h1
      simp only [ids, List.mem_cons, List.mem_append, not_or] at n1
      simp only [ids, List.nodup_cons, List.mem_append, not_or] at ndf
      simp only [cut, if_true]
      refine ⟨?_, has_other r false _ hf.2.2 hu hm same n1.2.2 ndf.1.2, has_other n top _ hn hu hm same n2 hmn⟩
      simpa [nx] using hu'
    ·have huf : u ∈ ids f := hui.resolve_left (fun e => hiu e.symm)
     have hroot : ∀ j y g r, f = node j y g r → j ≠ m := by
      intro j y g r e hj
      subst e; subst hj
      simp only [upOf, if_true, Option.some.injEq] at hq
      exact hiu hq
     refine ⟨?_, ?_, has_other n top _ hn hu hm same hun hmn⟩
     ·rw [same _ (adr_ne hu hb hiu) (adr_ne hm hb hne), hb]
      have : pt adr (cut m f) = pt adr f := by
       cases f with
       |nil => rfl
       |node j y g r =>
        simp only [cut]
        rw [if_neg (hroot j y g r rfl)]; rfl
      rw [this]
     ·refine ihf _ _ (some i) (some i) ndf (by simp) ?_ hq hf
      cases f with
      |nil => simp [ids] at hmf
      |node j y g r =>
       simp only [prevOf] at hp ⊢
       rw [if_neg (hroot j y g r rfl)] at hp ⊢
       exact hp
   ·have hmn : m ∈ ids n := by
     rcases Decidable.em (m ∈ ids n) with h1 | h1
     ·exact h1
     ·rw [prevOf_not m _ n h1] at hp; cases hp
    have hmf : m ∉ ids f := fun h1 => hdis m h1 m hmn rfl
    rw [upOf_not m _ f hmf, Option.none_or] at hq
    rw [cut_not m f hmf]
    have hroot : ∀ j y g r, n = node j y g r → j ≠ m := by
     intro j y g r e hj
     subst e; subst hj
     simp [prevOf] at hp
    have hun : u ∈ ids n := by
     rcases up_get n ndn m u q hq with ⟨hc, _⟩ | ⟨y, g, hg, _⟩
     ·exfalso
      have : ∀ (s : T) (v : Option Int), v ≠ none → (ids s).Nodup → m ∈ chain s → prevOf m v s ≠ some none := by
       intro s
       induction s with
       |nil => intro v _ _ h; simp [chain] at h
       |node j y g r _ ihr =>
        intro v hv nds hcs
        simp only [chain, List.mem_cons] at hcs
        simp only [ids, List.nodup_cons, List.nodup_append, List.mem_append, not_or] at nds
        simp only [prevOf]
        by_cases hj : j = m
        ·rw [if_pos hj]; simpa using hv
        ·rw [if_neg hj]
         have hcr : m ∈ chain r := hcs.resolve_left (fun e => hj e.symm)
         rw [prevOf_not m none g (fun hh => nds.2.2.2 m hh m (chain_sub r m hcr) rfl), Option.none_or]
         exact ihr (some j) (by simp) nds.2.2.1 hcr
      exact this n (some i) (by simp) ndn hc hp
     ·exact (get_sub u n y g hg).1
    have hiu : i ≠ u := fun e => n2 (e ▸ hun)
    have huf : u ∉ ids f := fun h1 => hdis u h1 u hun rfl
    refine ⟨?_, has_other f false _ hf hu hm same huf hmf, ihn _ _ (some i) q ndn (by simp) hp hq hn⟩
    rw [same _ (adr_ne hu hb hiu) (adr_ne hm hb hne), hb]
    have : nx adr top (cut m n) = nx adr top n := by
     cases top with
     |true => rfl
     |false =>
      cases n with
      |nil => rfl
      |node j y g r =>
       show pt adr (cut m (node j y g r)) = pt adr (node j y g r)
       simp only [cut]
       rw [if_neg (hroot j y g r rfl)]; rfl
    rw [this]
end
end T
end Go.Proofs.YtjhbbgeebobcpaaDoor
