/- The exact laws' comparison of clients. The exact laws' helpers: marks. The exact laws' helpers: rows, entries and clients are marked. -/
import Derived.Test.YtikcnbkoeglecaaDoorRE
import Derived.Laws.IdiomStrings
namespace Go.Proofs.YtikcnbkoeglecaaDoor
open Go.RowKit
set_option linter.unusedVariables false

instance : DecidableEq Client := fun a b => by
  obtain ⟨a1, a2, a3, a4, a5, a6⟩ := a; obtain ⟨b1, b2, b3, b4, b5, b6⟩ := b
  exact decidable_of_iff (a1 = b1 ∧ a2 = b2 ∧ a3 = b3 ∧ a4 = b4 ∧ a5 = b5 ∧ a6 = b6) (by simp)
theorem client_ext {a b : Client} (h1 : a.who = b.who) (h2 : a.seen = b.seen) (h3 : a.base = b.base) (h4 : a.wait = b.wait) (h5 : a.done = b.done) (h6 : a.made = b.made) : a = b := by
  obtain ⟨a1, a2, a3, a4, a5, a6⟩ := a; obtain ⟨b1, b2, b3, b4, b5, b6⟩ := b
  simp only at h1 h2 h3 h4 h5 h6
  subst h1 h2 h3 h4 h5 h6; rfl

set_option maxRecDepth 100000 in
set_option maxHeartbeats 2000000 in
theorem eqClient_c (a b : Client) (va vb : Value) (w : World) (ha : CV w a va) (hb : CV w b vb) :
    Calls Tryd.prog 20 #[va, vb] w fun x w' => x = .returned (.bool (decide (a = b))) ∧ Ext w w' := by
  obtain ⟨A1, n1, A2, n2, rfl, ha1, ha2⟩ := ha
  obtain ⟨B1, m1, B2, m2, rfl, hb1, hb2⟩ := hb
  have HE : Hid (Ext w ((w.alloc (.cells #[.int .i64 a.who, .int .i64 a.seen, .slice A1 a.base.length n1, .slice A2 a.wait.length n2, .int .i64 a.done, .int .i64 a.made] 30)).alloc (.cells #[.int .i64 b.who, .int .i64 b.seen, .slice B1 b.base.length m1, .slice B2 b.wait.length m2, .int .i64 b.done, .int .i64 b.made] 30))) := ((Below.refl _ w).alloc (Nat.le_refl _) _).alloc (by simp) _
  have hX := two_new w (.cells #[.int .i64 a.who, .int .i64 a.seen, .slice A1 a.base.length n1, .slice A2 a.wait.length n2, .int .i64 a.done, .int .i64 a.made] 30) (.cells #[.int .i64 b.who, .int .i64 b.seen, .slice B1 b.base.length m1, .slice B2 b.wait.length m2, .int .i64 b.done, .int .i64 b.made] 30)
  have HA1 := Lib.hid ha1; have HA2 := Lib.hid ha2; have HBB1 := Lib.hid hb1; have HBB2 := Lib.hid hb2
  clear ha1 ha2 hb1 hb2
  go_enter Tryd.func20, Tryd.ntmps20
  by_cases ewho : a.who = b.who
  rotate_left
  · have hn : Hid (decide (a = b) = false) := by show _ = _; rw [decide_eq_false]; intro h; exact ewho (by rw [h])
    have e' : (a.who != b.who) = true := by simp [ewho]
    go_wp2_with fail
    go_ret
    exact ⟨by rw [hn.out]; rfl, HE.out⟩
  have Ewho := Lib.hid ewho
  have gwho : (a.who != b.who) = false := by simp [ewho]
  clear ewho
  by_cases eseen : a.seen = b.seen
  rotate_left
  · have hn : Hid (decide (a = b) = false) := by show _ = _; rw [decide_eq_false]; intro h; exact eseen (by rw [h])
    have e' : (a.seen != b.seen) = true := by simp [eseen]
    go_wp2_with fail
    go_ret
    exact ⟨by rw [hn.out]; rfl, HE.out⟩
  have Eseen := Lib.hid eseen
  have gseen : (a.seen != b.seen) = false := by simp [eseen]
  clear eseen
  have HC1 := Lib.hid (eqRowS_c A1 n1 a.base B1 m1 b.base _ (HA1.out.ext HE.out) (HBB1.out.ext HE.out))
  go_wp2_with fail
  refine HC1.out.mono ?_
  rintro x w1 ⟨rfl, hb1⟩
  have HF1 := Lib.hid (HE.out.trans (hb1.mono HE.out.size))
  have hx1 := (hb1.block w.heap.size (blk_lt hX.1)).trans hX.1
  have hy1 := (hb1.block (w.heap.size + 1) (blk_lt hX.2)).trans hX.2
  obtain ⟨c0, c1, c2, c3, c4, c5, cf⟩ := six_cells hx1
  obtain ⟨d0, d1, d2, d3, d4, d5, df⟩ := six_cells hy1
  have HXa := Lib.hid hx1; have HXb := Lib.hid hy1
  clear hx1 hy1 hb1 HC1
  cases ebase : decide (a.base = b.base)
  · have hn : Hid (decide (a = b) = false) := by show _ = _; rw [decide_eq_false]; intro h; exact of_decide_eq_false ebase (by rw [h])
    clear ebase
    go_wp2_with fail
    go_ret
    exact ⟨by rw [hn.out]; rfl, HF1.out⟩
  have Ebase := Lib.hid (of_decide_eq_true ebase)
  clear ebase
  have HC2 := Lib.hid (eqEntryS_c A2 n2 a.wait B2 m2 b.wait _ (HA2.out.ext HF1.out) (HBB2.out.ext HF1.out))
  go_wp2_with fail
  refine HC2.out.mono ?_
  rintro x w2 ⟨rfl, hb2⟩
  have HF2 := Lib.hid (HF1.out.trans (hb2.mono HF1.out.size))
  have hx2 := (hb2.block w.heap.size (blk_lt HXa.out)).trans HXa.out
  have hy2 := (hb2.block (w.heap.size + 1) (blk_lt HXb.out)).trans HXb.out
  clear c0 c1 c2 c3 c4 c5 cf d0 d1 d2 d3 d4 d5 df
  obtain ⟨c0, c1, c2, c3, c4, c5, cf⟩ := six_cells hx2
  obtain ⟨d0, d1, d2, d3, d4, d5, df⟩ := six_cells hy2
  clear hx2 hy2 hb2 HC2
  cases ewait : decide (a.wait = b.wait)
  · have hn : Hid (decide (a = b) = false) := by show _ = _; rw [decide_eq_false]; intro h; exact of_decide_eq_false ewait (by rw [h])
    clear ewait
    go_wp2_with fail
    go_ret
    exact ⟨by rw [hn.out]; rfl, HF2.out⟩
  have Ewait := Lib.hid (of_decide_eq_true ewait)
  clear ewait
  by_cases edone : a.done = b.done
  rotate_left
  · have hn : Hid (decide (a = b) = false) := by show _ = _; rw [decide_eq_false]; intro h; exact edone (by rw [h])
    have e' : (a.done != b.done) = true := by simp [edone]
    go_wp2_with fail
    go_ret
    exact ⟨by rw [hn.out]; rfl, HF2.out⟩
  have Edone := Lib.hid edone
  have gdone : (a.done != b.done) = false := by simp [edone]
  clear edone
  by_cases emade : a.made = b.made
  rotate_left
  · have hn : Hid (decide (a = b) = false) := by show _ = _; rw [decide_eq_false]; intro h; exact emade (by rw [h])
    have e' : (a.made != b.made) = true := by simp [emade]
    go_wp2_with fail
    go_ret
    exact ⟨by rw [hn.out]; rfl, HF2.out⟩
  have Emade := Lib.hid emade
  have gmade : (a.made != b.made) = false := by simp [emade]
  clear emade
  have hy : Hid (decide (a = b) = true) := by show _ = _; rw [decide_eq_true]; exact client_ext Ewho.out Eseen.out Ebase.out Ewait.out Edone.out Emade.out
  go_wp2_with fail
  go_ret
  exact ⟨by rw [hy.out]; rfl, HF2.out⟩
end Go.Proofs.YtikcnbkoeglecaaDoor
namespace Go.Proofs.YtikcnbkoeglecaaDoor
open Go.RowKit
set_option linter.unusedVariables false

def digs (k : Nat) (out : ByteArray) : ByteArray := if h : k = 0 then out else digs (k / 10) (⟨#[48 + UInt8.ofNat (k % 10)]⟩ ++ out)
termination_by k
decreasing_by exact Nat.div_lt_self (Nat.pos_of_ne_zero h) (by omega)
def markB (k : Nat) : ByteArray := ⟨#[109]⟩ ++ digs k ⟨#[]⟩

theorem string_one (W : World) (b : Nat) (v : Int) (h : W.cell? ⟨b, 0, none⟩ = some (.int .u8 v)) (h0 : 0 ≤ v) (h1 : v < 256) :
    (convert 22 9 (.slice (some ⟨b, 0, none⟩) 1 1)).run Tryd.prog W = .ok (.string ⟨#[UInt8.ofNat v.toNat]⟩) W := by
  have hv : ((UInt8.ofNat v.toNat).toNat : Int) = v := by rw [UInt8.toNat_ofNat']; omega
  exact run_convert_bytes_back W 22 9 5 ⟨b, 0, none⟩ 1 [UInt8.ofNat v.toNat] Tryd.underlying22 Tryd.underlying5 Tryd.underlying9 (fun j hj => by
    have : j = 0 := by simpa using hj
    subst this
    simp only [List.getElem_cons_zero, hv]
    exact h)
set_option maxRecDepth 100000 in
set_option maxHeartbeats 1000000 in
theorem markText_c (k : Nat) (w : World) (hk : 0 < k) (hk2 : k ≤ 100000000) :
    Calls Tryd.prog 55 #[.int .i64 k] w fun x w' => x = .returned (.string (markB k)) ∧ Ext w w' := by
  go_enter Tryd.func55, Tryd.ntmps55
  go_wp2_with fail
  go_loopg [0, 3] k (fun gk a s wr => ∃ (m : Nat) (out : ByteArray), a = .int .i64 m ∧ s = .string out ∧ gk = m ∧ m ≤ k ∧ Hid (digs m out = digs k ⟨#[]⟩) ∧ Hid (out.size + m ≤ k) ∧ Hid (Ext w wr))
  case atStart => exact ⟨k, ⟨#[]⟩, rfl, rfl, rfl, Nat.le_refl _, rfl, (show ByteArray.size ⟨#[]⟩ + k ≤ k by simp [ByteArray.size]), Below.refl _ _⟩
  case round =>
    obtain ⟨m, out, rfl, rfl, hg, hm, HD, HS, HB⟩ := hrel
    by_cases h0 : 0 < m
    · have hcv := string_one (wr.alloc (.cells #[.int .u8 (48 + (m : Int) % 10)] 5)) wr.heap.size (48 + (m : Int) % 10) (one_cell (World.alloc_heap_new wr (.cells #[.int .u8 (48 + (m : Int) % 10)] 5))).1 (by omega) (by omega)
      have hby : (48 + (m : Int) % 10).toNat = 48 + m % 10 := by omega
      rw [hby] at hcv
      have hno : ¬ 9223372036854775807 < 1 + out.size := by have := HS.out; omega
      have hdg : digs m out = digs (m / 10) (⟨#[48 + UInt8.ofNat (m % 10)]⟩ ++ out) := by rw [digs, dif_neg (by omega)]
      have HDG := Lib.hid hdg
      clear hby hdg
      go_wp2_with fail
      go_roundg (m / 10)
      case measure => omega
      case rel =>
        refine ⟨m / 10, _, by go_num, rfl, rfl, by omega, ?_, ?_, HB.out.alloc HB.out.size _⟩
        · show _ = _
          rw [← HDG.out, HD.out]
        · show _ + _ ≤ _
          have := HS.out
          rw [ByteArray.size_append]
          have h1 : ByteArray.size ⟨#[48 + UInt8.ofNat (m % 10)]⟩ = 1 := rfl
          rw [h1]; omega
    · have hm0 : m = 0 := by omega
      subst hm0
      have hd : digs 0 out = out := by rw [digs, dif_pos rfl]
      have HF : Hid (out = digs k ⟨#[]⟩) := by show _ = _; rw [← HD.out, hd]
      have hno : ¬ 9223372036854775807 < 1 + out.size := by have := HS.out; omega
      clear hd
      go_wp2_with fail
      go_ret
      exact ⟨by unfold markB; rw [← HF.out]; rfl, HB.out⟩
end Go.Proofs.YtikcnbkoeglecaaDoor
namespace Go.Proofs.YtikcnbkoeglecaaDoor
open Go.RowKit
set_option linter.unusedVariables false

theorem digs_size (k : Nat) : ∀ out : ByteArray, (digs k out).size ≤ k + out.size := by
  induction k using Nat.strongRecOn with
  | _ k ih =>
    intro out
    rw [digs]
    split
    · omega
    · rename_i h
      have h1 := ih (k / 10) (Nat.div_lt_self (by omega) (by omega)) (⟨#[48 + UInt8.ofNat (k % 10)]⟩ ++ out)
      rw [ByteArray.size_append] at h1
      have h2 : ByteArray.size ⟨#[48 + UInt8.ofNat (k % 10)]⟩ = 1 := rfl
      omega
theorem markB_size (k : Nat) (hk : k ≤ 100000000) : (markB k).size ≤ maxLen := by
  have h1 := digs_size k ⟨#[]⟩
  have h2 : ByteArray.size ⟨#[]⟩ = 0 := rfl
  have h3 : ByteArray.size ⟨#[109]⟩ = 1 := rfl
  unfold markB maxLen
  rw [ByteArray.size_append]
  omega

def markRow (k j : Nat) : Row := ⟨(k + 3 * j : Nat), (k + 3 * j + 1 : Nat), markB (k + 3 * j + 2)⟩
def markRs (k n : Nat) : List Row := (List.range n).map (markRow k)
def markEnt (k j : Nat) : Entry := ⟨(k + 7 * j : Nat), (k + 7 * j + 1 : Nat), ⟨(k + 7 * j + 2 : Nat), (k + 7 * j + 3 : Nat), (k + 7 * j + 4 : Nat), (k + 7 * j + 5 : Nat), markB (k + 7 * j + 6)⟩⟩
def markEs (k n : Nat) : List Entry := (List.range n).map (markEnt k)
theorem markRs_len (k n : Nat) : (markRs k n).length = n := by simp [markRs]
theorem markEs_len (k n : Nat) : (markEs k n).length = n := by simp [markEs]
theorem markRs_at (k n j : Nat) (h : j < (markRs k n).length) : (markRs k n)[j] = markRow k j := by simp [markRs]
theorem markEs_at (k n j : Nat) (h : j < (markEs k n).length) : (markEs k n)[j] = markEnt k j := by simp [markEs]
theorem mark_step {α : Type} (f : Nat → α) (l : List α) (j : Nat) (hj : j < l.length) : ((List.range j).map f ++ l.drop j).set j (f j) = (List.range (j + 1)).map f ++ l.drop (j + 1) := by
  have hl : ((List.range j).map f).length = j := by simp
  rw [List.set_append_right _ _ (by omega), hl, Nat.sub_self, List.drop_eq_getElem_cons hj, List.set_cons_zero, List.range_succ, List.map_append, List.append_assoc]
  rfl
theorem mark_len {α : Type} (f : Nat → α) (l : List α) (j : Nat) (hj : j ≤ l.length) : ((List.range j).map f ++ l.drop j).length = l.length := by
  rw [List.length_append, List.length_map, List.length_range, List.length_drop]; omega
theorem Own.at0 {α : Type} [Flat α] {e : TypeId} {w : World} {base n c : Nat} {A : Option Addr} {L : List α} (h : Own e w base (.slice A n c) L) (hn : 0 < n) : ∃ g, A = some ⟨g, 0, none⟩ := by
  rcases h.1.2 with ⟨h9, h8⟩ | ⟨g, cap, cur, h9, _⟩
  · simp only [Value.slice.injEq] at h9; omega
  · simp only [Value.slice.injEq] at h9; exact ⟨g, h9.1⟩

theorem own_mark_row {w : World} {base g cap n : Nat} {L : List Row} (h : Own 61 w base (.slice (some ⟨g, 0, none⟩) n cap) L) (hn : L.length = n) (k : Nat) (hk : k < n) (x0 x1 : Int) :
    ∃ t : ByteArray, Own 61 ((w.setCell ⟨g, k * 3, none⟩ (.int .i64 x0)).setCell ⟨g, k * 3 + 1, none⟩ (.int .i64 x1)) base (.slice (some ⟨g, 0, none⟩) n cap) (L.set k ⟨x0, x1, t⟩) := by
  subst hn
  have e1 := (Own.store h k hk ⟨x0, L[k].depth, L[k].text⟩ (show L[k].text.size ≤ maxLen from h.2 L[k] (List.getElem_mem hk)) 0 (.int .i64 x0) (by decide) rfl).1
  have e2 := (Own.store (l := L.set k ⟨x0, L[k].depth, L[k].text⟩) (by rw [List.length_set]; exact e1) k (by rw [List.length_set]; exact hk) ⟨x0, x1, L[k].text⟩ (show L[k].text.size ≤ maxLen from h.2 L[k] (List.getElem_mem hk)) 1 (.int .i64 x1) (by decide) (by rw [List.getElem_set_self]; rfl)).1
  rw [List.set_set, List.length_set] at e2
  exact ⟨_, e2⟩
theorem own_mark_text {w : World} {base g cap n : Nat} {L : List Row} {x0 x1 : Int} {t : ByteArray} (k : Nat) (hk : k < n) (hn : L.length = n) (h : Own 61 w base (.slice (some ⟨g, 0, none⟩) n cap) (L.set k ⟨x0, x1, t⟩)) (x : Row) (hx : x.text.size ≤ maxLen) (h0 : x.id = x0) (h1 : x.depth = x1) :
    Own 61 (w.setCell ⟨g, k * 3 + 2, none⟩ (.string x.text)) base (.slice (some ⟨g, 0, none⟩) n cap) (L.set k x) := by
  subst hn; subst h0; subst h1
  have e3 := (Own.store (l := L.set k ⟨x.id, x.depth, t⟩) (by rw [List.length_set]; exact h) k (by rw [List.length_set]; exact hk) x hx 2 (.string x.text) (by decide) (by rw [List.getElem_set_self]; rfl)).1
  rw [List.set_set, List.length_set] at e3
  exact e3

set_option maxRecDepth 100000 in
set_option maxHeartbeats 2000000 in
theorem markRowS_c (v : Value) (l : List Row) (base k : Nat) (w : World) (h : Own 61 w base v l) (hk : 0 < k) (hb : k + 3 * l.length ≤ 100000000) :
    Calls Tryd.prog 22 #[v, .int .i64 k] w fun x w' => x = .returned (.int .i64 (k + 3 * l.length : Nat)) ∧ Own 61 w' base v (markRs k l.length) ∧ w.grownBy w' v.ownBlock := by
  obtain ⟨A, c, rfl, hr⟩ := h.rd
  have HO := Lib.hid h
  clear h hr
  go_enter Tryd.func22, Tryd.ntmps22
  go_wp2_with fail
  go_loopg [1, 5] l.length (fun gk a i wr => ∃ j m : Nat, j ≤ l.length ∧ m ≤ 100000000 ∧ Hid (m = k + 3 * j) ∧ Hid (gk = l.length - j) ∧ a = .int .i64 m ∧ i = .int .i64 j ∧ Hid (Own 61 wr base (.slice A l.length c) (markRs k j ++ l.drop j)) ∧ Hid (w.grownBy wr (Value.slice A l.length c).ownBlock))
  case atStart => exact ⟨0, k, Nat.zero_le _, by omega, rfl, rfl, rfl, rfl, HO.out, World.grownBy.refl _ _⟩
  case round =>
    obtain ⟨j, m, hj, hm9, HM, HK, rfl, rfl, HQ, HG⟩ := hrel
    by_cases hlt : j < l.length
    · obtain ⟨g, rfl⟩ := HQ.out.at0 (by omega)
      have hL : (markRs k j ++ l.drop j).length = l.length := mark_len (markRow k) l j hj
      have hm8 : m ≤ 99999997 := by have := HM.out; omega
      have hf := HQ.out.frz
      obtain ⟨v0, v1, v2, y0, y1, y2⟩ := HQ.out.cells3 j hlt
      obtain ⟨t, ho1⟩ := own_mark_row HQ.out hL j hlt m (m + 1)
      have hmk := HM.out
      have hT := markText_c (m + 2) ((wr.setCell ⟨g, j * 3, none⟩ (.int .i64 m)).setCell ⟨g, j * 3 + 1, none⟩ (.int .i64 (m + 1))) (by omega) (by omega)
      rw [show (((m + 2 : Nat)) : Int) = (m : Int) + 1 + 1 by omega] at hT
      have HT := Lib.hid hT; have HO1 := Lib.hid ho1; have HL := Lib.hid hL
      have hlt' : (j : Int) < l.length := by omega
      clear ho1 hL hmk hT
      go_wp2_with fail
      refine HT.out.mono ?_
      rintro e w1 ⟨rfl, hb1⟩
      have hq1 := HO1.out.below hb1
      have hf1 := hq1.frz
      obtain ⟨_, _, u2, _, _, z2⟩ := hq1.cells3 j hlt
      have HQ1 := Lib.hid hq1; have HB1 := Lib.hid hb1
      clear hq1 hb1 hf y0 y1 y2
      go_wp2_with fail
      go_roundg (l.length - (j + 1))
      case measure => have := HK.out; omega
      case rel =>
        have hm := HM.out
        subst hm
        refine ⟨j + 1, k + 3 * j + 3, by omega, by omega, by show _ = _; omega, rfl, by go_num, by go_num, ?_, ?_⟩
        · have h1 := own_mark_text j hlt HL.out HQ1.out (markRow k j) (markB_size _ (by omega)) (by show ((k + 3 * j : Nat) : Int) = _; rfl) (by show ((k + 3 * j + 1 : Nat) : Int) = _; omega)
          have h2 := mark_step (markRow k) l j hlt
          unfold markRs at h1 ⊢
          rw [h2] at h1
          exact h1
        · exact gset (gtrans0 (gset (gset HG.out _ _) _ _) (gext0 HB1.out)) _ _
    · have hjl : j = l.length := by omega
      subst hjl
      have hq := HQ.out
      rw [List.drop_length, List.append_nil] at hq
      have HF := Lib.hid hq
      have hm := HM.out
      clear hq
      go_wp2_with fail
      go_ret
      exact ⟨by rw [hm]; rfl, HF.out, HG.out⟩
end Go.Proofs.YtikcnbkoeglecaaDoor
