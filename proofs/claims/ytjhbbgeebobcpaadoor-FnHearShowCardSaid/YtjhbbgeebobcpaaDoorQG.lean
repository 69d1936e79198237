/- The walk that plants a forest from a list of rows. -/
import Derived.Test.YtjhbbgeebobcpaaDoorQF
import Derived.RegionTactic
namespace Go.Proofs.YtjhbbgeebobcpaaDoor
open Go.RowKit
set_option linter.unusedVariables false

theorem Frs.other {w w' : World} {g : Nat} {adr : Int → Nat} {t : T} (h : Frs w g adr t) (h1 : ∀ j ∈ T.ids t, w'.heap[adr j]? = w.heap[adr j]?) (h2 : w'.heap[g]? = w.heap[g]?) : Frs w' g adr t :=
  ⟨T.has_same t true nilp h1 h.has, h.tab.of_block h2, h.nd, h.rng⟩
theorem rowIs_blk {w : World} {b : Nat} {ty : TypeId} {n : Nat} {f : Nat → Value} (h : w.rowIs b ty n f) : ∃ cs, w.heap[b]? = some (.cells cs ty (0, 0)) := by
  obtain ⟨cs, hcs, _⟩ := h
  exact ⟨cs, hcs⟩
theorem Frs.adr_ne {w : World} {g : Nat} {adr : Int → Nat} {t : T} (h : Frs w g adr t) {b : Nat} {ty : TypeId} {n : Nat} {f : Nat → Value} (hb : w.rowIs b ty n f) (hty : ty ≠ 122) : ∀ j ∈ T.ids t, b ≠ adr j := by
  intro j hj e
  obtain ⟨x, f', n', top, q, _, _, _, _, e', _⟩ := h.info j hj
  obtain ⟨cs, hcs⟩ := rowIs_blk hb
  rw [e, e'] at hcs
  injection hcs with hcs
  injection hcs with _ h2
  exact hty h2.symm
theorem Frs.adr_lt {w : World} {g : Nat} {adr : Int → Nat} {t : T} (h : Frs w g adr t) (j : Int) (hj : j ∈ T.ids t) : adr j < w.heap.size := by
  obtain ⟨x, f', n', top, q, _, _, _, _, e', _⟩ := h.info j hj
  exact (Array.getElem?_eq_some_iff.1 e').1
def adrPut (adr : Int → Nat) (id : Int) (n : Nat) : Int → Nat := fun j => if j = id then n else adr j
theorem two_alloc (w : World) (o1 o2 : Obj) : (∀ b, b < w.heap.size → ((w.alloc o1).alloc o2).drew.heap[b]? = w.heap[b]?) ∧ ((w.alloc o1).alloc o2).drew.heap[w.heap.size]? = some o1 ∧ ((w.alloc o1).alloc o2).drew.heap[w.heap.size + 1]? = some o2 := by
  have e : ((w.alloc o1).alloc o2).drew.heap = (w.heap.push o1).push o2 := rfl
  rw [e]
  refine ⟨fun b hb => ?_, ?_, ?_⟩
  · rw [Array.getElem?_push_lt (by simp; omega), Array.getElem_push_lt hb, Array.getElem?_eq_getElem hb]
  · rw [Array.getElem?_push_lt (by simp), Array.getElem_push_eq]
  · rw [show w.heap.size + 1 = (w.heap.push o1).size by simp, Array.getElem?_push_size]
theorem alloc_sz (w : World) (o : Obj) : (w.alloc o).heap.size = w.heap.size + 1 := Array.size_push _
theorem set_past {w : World} {o1 o2 : Obj} {b i : Nat} {v : Value} (h : b < w.heap.size) : ((w.alloc o1).alloc o2).drew.setCell ⟨b, i, none⟩ v = (((w.setCell ⟨b, i, none⟩ v).alloc o1).alloc o2).drew := by
  rw [World.setCell_drew, World.setCell_alloc_past _ _ _ _ (by simp only [World.alloc, Array.size_push]; omega), World.setCell_alloc_past _ _ _ _ h]
theorem plant_new (w : World) (g : Nat) (adr : Int → Nat) (t : T) (id : Int) (tx : ByteArray) (o : Obj) (hF : Frs w g adr t) (hn : id ∉ T.ids t) (h1 : 1 ≤ id) (h2 : id < 37) :
    Free (((w.setCell ⟨g, id.toNat, none⟩ (.pointer (some ⟨w.heap.size + 1, 0, none⟩))).alloc o).alloc (nodeO id (.string tx) nilp nilp nilp)).drew g (adrPut adr id (w.heap.size + 1)) t id tx .nil ∧
    (((w.setCell ⟨g, id.toNat, none⟩ (.pointer (some ⟨w.heap.size + 1, 0, none⟩))).alloc o).alloc (nodeO id (.string tx) nilp nilp nilp)).drew.heap[w.heap.size + 1]? = some (nodeO id (.string tx) nilp nilp nilp) ∧
    (((w.setCell ⟨g, id.toNat, none⟩ (.pointer (some ⟨w.heap.size + 1, 0, none⟩))).alloc o).alloc (nodeO id (.string tx) nilp nilp nilp)).drew.heap[w.heap.size]? = some o ∧
    ∀ b, b < w.heap.size → b ≠ g → (((w.setCell ⟨g, id.toNat, none⟩ (.pointer (some ⟨w.heap.size + 1, 0, none⟩))).alloc o).alloc (nodeO id (.string tx) nilp nilp nilp)).drew.heap[b]? = w.heap[b]? := by
  have hsz : (w.setCell ⟨g, id.toNat, none⟩ (.pointer (some ⟨w.heap.size + 1, 0, none⟩))).heap.size = w.heap.size := setsz _ _ _
  obtain ⟨hblk0, hrow, hself⟩ := two_alloc (w.setCell ⟨g, id.toNat, none⟩ (.pointer (some ⟨w.heap.size + 1, 0, none⟩))) o (nodeO id (.string tx) nilp nilp nilp)
  rw [hsz] at hblk0 hrow hself
  have hblk := fun b (hb : b < w.heap.size) (hg : b ≠ g) => (hblk0 b hb).trans (setx hg)
  have hself' : adrPut adr id (w.heap.size + 1) id = w.heap.size + 1 := if_pos rfl
  have hsameA : ∀ j ∈ T.ids t, adrPut adr id (w.heap.size + 1) j = adr j := fun j hj => if_neg (fun e => hn (by rw [← e]; exact hj))
  have hgn := hF.adr_ne hF.tab (by decide)
  refine ⟨⟨?_, ⟨nilp, nilp, by rw [hself']; exact hself⟩, trivial, ?_, ?_, ?_⟩, hself, hrow, hblk⟩
  · refine T.has_adr t true nilp hsameA (T.has_same t true nilp (fun j hj => hblk _ (hF.adr_lt j hj) (fun e => hgn j hj e.symm)) hF.has)
  · have h3 : ((w.setCell ⟨g, id.toNat, none⟩ (.pointer (some ⟨w.heap.size + 1, 0, none⟩))).alloc o |>.alloc (nodeO id (.string tx) nilp nilp nilp)).drew.rowIs g 119 37 (fun j => if j = id.toNat then .pointer (some ⟨w.heap.size + 1, 0, none⟩) else fst adr t j) :=
      (((hF.tab.set id.toNat _).alloc o).alloc _).drew
    refine h3.congr fun i hi => ?_
    by_cases e : i = id.toNat
    · have e2 : (i : Int) = id := by omega
      rw [if_pos e, e2, if_pos List.mem_cons_self]
      show _ = PP (adrPut adr id (w.heap.size + 1)) id
      exact congrArg (fun a => Value.pointer (some ⟨a, 0, none⟩)) hself'.symm
    · have e2 : (i : Int) ≠ id := by omega
      rw [if_neg e]
      unfold fst
      by_cases hm : (i : Int) ∈ T.ids t
      · rw [if_pos hm, if_pos (by simp [T.ids, hm])]
        exact congrArg (fun a => Value.pointer (some ⟨a, 0, none⟩)) (hsameA i hm).symm
      · rw [if_neg hm, if_neg (by simp [T.ids, hm, e2])]
  · simpa [T.ids] using ⟨hn, hF.nd⟩
  · intro i hi
    simp only [T.ids, List.nil_append, List.mem_cons] at hi
    rcases hi with rfl | hi
    · exact ⟨h1, h2⟩
    · exact hF.rng i hi
theorem Free.top {w : World} {g : Nat} {adr : Int → Nat} {t : T} {id : Int} {tx : ByteArray} (h : Free w g adr t id tx .nil) (hb : w.heap[adr id]? = some (nodeO id (.string tx) nilp nilp nilp)) : Frs w g adr (T.snoc id tx t 0) := by
  have hi := T.ids_snoc id tx t 0 (Nat.zero_le _)
  refine ⟨T.has_snoc_top id tx hb t h.has, h.tab.congr fun i _ => ?_, ?_, ?_⟩
  · unfold fst
    rw [hi]
    by_cases e : (i : Int) ∈ T.ids t <;> by_cases e2 : (i : Int) = id <;> simp [T.ids, e, e2]
  · have h3 := h.nd
    rw [hi]
    simp only [T.ids, List.nil_append] at h3
    exact (List.perm_append_singleton id (T.ids t)).nodup_iff.2 h3
  · intro i hx
    rw [hi] at hx
    refine h.rng i ?_
    simp only [List.mem_append, List.mem_singleton] at hx
    simp only [T.ids, List.nil_append, List.mem_cons]
    exact hx.symm
theorem plant_facts (l : List Row) (h : treeOk l = true) (k : Nat) (hk : k < l.length) : 1 ≤ l[k].id ∧ l[k].id < 37 ∧ 0 ≤ l[k].depth ∧ l[k].depth < 19 ∧ l[k].id ∉ T.ids (T.build (l.take k)) ∧ l[k].depth.toNat ≤ (T.spine (T.build (l.take k))).length ∧
    T.build (l.take (k + 1)) = T.snoc l[k].id l[k].text (T.build (l.take k)) l[k].depth.toNat := by
  obtain ⟨seen, roots, depth, p, hT, _⟩ := T.part_take l h k (Nat.le_of_lt hk)
  rw [List.drop_eq_getElem_cons hk] at hT
  obtain ⟨h1, h2, h3, _⟩ := T.part_step _ _ _ _ p _ _ hT
  simp only [treeOkF, Bool.and_eq_true] at hT
  obtain ⟨i1, i2, _, i4⟩ := rowOk_id hT.1.1.1
  refine ⟨i1, i2, h1, by omega, h3, h2, ?_⟩
  rw [List.take_succ_eq_append_getElem hk, T.build_snoc]
theorem plant_fin {w wr w2 : World} {B g lb : Nat} {adr : Int → Nat} {lf : Nat → Value} {t : T} {id : Int} {tx : ByteArray} {d : Nat} (HW : wr.rowIs lb 120 19 lf) (HA : LastOk adr t lf) (hd : d ≤ (T.spine t).length) (hid : id ∉ T.ids t)
    (HF2 : Frs w2 g (adrPut adr id (wr.heap.size + 1)) (T.snoc id tx t d)) (hlbk : w2.heap[lb]? = wr.heap[lb]?) (hlow : Low B g adr (T.ids t)) (hB : B ≤ wr.heap.size) (HB2 : Below B w w2) (hlb : B ≤ lb) :
    Frs (w2.setCell ⟨lb, d, none⟩ (.pointer (some ⟨wr.heap.size + 1, 0, none⟩))) g (adrPut adr id (wr.heap.size + 1)) (T.snoc id tx t d) ∧ Low B g (adrPut adr id (wr.heap.size + 1)) (T.ids (T.snoc id tx t d)) ∧
    (w2.setCell ⟨lb, d, none⟩ (.pointer (some ⟨wr.heap.size + 1, 0, none⟩))).rowIs lb 120 19 (fun j => if j = d then PP (adrPut adr id (wr.heap.size + 1)) id else lf j) ∧
    LastOk (adrPut adr id (wr.heap.size + 1)) (T.snoc id tx t d) (fun j => if j = d then PP (adrPut adr id (wr.heap.size + 1)) id else lf j) ∧ Below B w (w2.setCell ⟨lb, d, none⟩ (.pointer (some ⟨wr.heap.size + 1, 0, none⟩))) := by
  have hself' : adrPut adr id (wr.heap.size + 1) id = wr.heap.size + 1 := if_pos rfl
  have hsameA : ∀ j ∈ T.ids t, adrPut adr id (wr.heap.size + 1) j = adr j := fun j hj => if_neg (fun e => hid (by rw [← e]; exact hj))
  have HW2 := HW.of_block hlbk
  have hl := HF2.adr_ne HW2 (by decide)
  have hlg : lb ≠ g := by
    obtain ⟨c1, e1⟩ := rowIs_blk HW2
    obtain ⟨c2, e2⟩ := rowIs_blk HF2.tab
    intro e
    rw [e, e2] at e1
    injection e1 with e1
    injection e1 with _ e1
    exact absurd e1 (by decide)
  refine ⟨HF2.other (fun j hj => setx (fun e => hl j hj e.symm)) (setx hlg.symm), ⟨hlow.1, fun i hi => ?_⟩, (HW2.set d _).congr fun i _ => ?_, HA.step hsameA id tx d hd, HB2.setCell hlb _⟩
  · rw [T.ids_snoc id tx t d hd, List.mem_append, List.mem_singleton] at hi
    rcases hi with hi | rfl
    · rw [hsameA i hi]; exact hlow.2 i hi
    · rw [hself']; omega
  · by_cases e : i = d
    · rw [if_pos e, if_pos e]; exact congrArg (fun a => Value.pointer (some ⟨a, 0, none⟩)) hself'.symm
    · rw [if_neg e, if_neg e]
theorem cell_blk {w w' : World} {b : Nat} (h : w'.heap[b]? = w.heap[b]?) (o : Nat) : w'.cell? ⟨b, o, none⟩ = w.cell? ⟨b, o, none⟩ := by simp [World.cell?, h]
theorem frozen_blk {w w' : World} {b : Nat} (h : w'.heap[b]? = w.heap[b]?) (o : Nat) : w'.frozen? ⟨b, o, none⟩ = w.frozen? ⟨b, o, none⟩ := by simp [World.frozen?, h]
/-- The call that puts the new row under its row. -/
theorem plant_attach {w wr W : World} {B g lb : Nat} {adr : Int → Nat} {lf : Nat → Value} {t : T} {id u : Int} {tx : ByteArray} {o : Obj} (p : Int) (t' : T) (upp : Option Addr) (av : Value)
    (hF : Frs wr g adr t) (hW : wr.rowIs lb 120 19 lf) (hid : id ∉ T.ids t)
    (hN : Free W g (adrPut adr id (wr.heap.size + 1)) t id tx .nil) (hrow : W.heap[wr.heap.size]? = some o) (hsame : ∀ b, b < wr.heap.size → b ≠ g → W.heap[b]? = wr.heap[b]?) (hlow : Low B g adr (T.ids t)) (hB : B ≤ wr.heap.size)
    (hu : u ∈ T.ids t) (hup : PP adr u = .pointer upp) (hav : (p = 0 ∧ av = nilp) ∨ (p ∈ T.ids t ∧ av = PP adr p ∧ T.upOf p none t = some (some u))) (hput : T.put t id tx .nil (u, p) = t') (hlb : lb ≠ g) (hBW : Below B w W) :
    Calls Tryd.prog 82 #[.pointer (some ⟨wr.heap.size + 1, 0, none⟩), .pointer upp, av] W fun e w' => e = .returned (.tuple #[]) ∧ Frs w' g (adrPut adr id (wr.heap.size + 1)) t' ∧ Below B w w' ∧ w'.heap[wr.heap.size]? = some o ∧ w'.heap[lb]? = wr.heap[lb]? ∧ W.heap.size = w'.heap.size := by
  have hself' : adrPut adr id (wr.heap.size + 1) id = wr.heap.size + 1 := if_pos rfl
  have hsameA : ∀ j ∈ T.ids t, adrPut adr id (wr.heap.size + 1) j = adr j := fun j hj => if_neg (fun e => hid (by rw [← e]; exact hj))
  have hl := hF.adr_ne hW (by decide)
  have hA := attach_frs B g (adrPut adr id (wr.heap.size + 1)) t id tx .nil (u, p) W hN ⟨hlow.1, fun i hi => by
      simp only [T.ids, List.nil_append, List.mem_cons] at hi
      rcases hi with rfl | hi
      · rw [hself']; omega
      · rw [hsameA i hi]; exact hlow.2 i hi⟩ hu (fun hp => by
        rcases hav with ⟨h, _⟩ | ⟨h1, h2, h3⟩
        · exact absurd h (by simp at hp; omega)
        · exact ⟨h1, h3⟩)
  have e1 : PP (adrPut adr id (wr.heap.size + 1)) id = .pointer (some ⟨wr.heap.size + 1, 0, none⟩) := congrArg (fun a => Value.pointer (some ⟨a, 0, none⟩)) hself'
  have e2 : PP (adrPut adr id (wr.heap.size + 1)) u = .pointer upp := (T.PP_adr (hsameA u hu)).trans hup
  have e3 : posv (adrPut adr id (wr.heap.size + 1)) p = av := by
    rcases hav with ⟨h, h2⟩ | ⟨h1, h2, h3⟩
    · subst h; rw [h2]; rfl
    · rw [h2, posv, if_pos (by have := (hF.rng p h1).1; omega)]
      exact T.PP_adr (hsameA p h1)
  simp only [e1, e2, e3, hput] at hA
  refine hA.mono ?_
  rintro e w' ⟨rfl, h1, h2, h3, h4⟩
  refine ⟨rfl, h1, hBW.trans h2, (h4 _ ?_).trans hrow, (h4 _ ?_).trans (hsame lb hW.lt hlb), h3.symm⟩
  · intro j hj
    rcases List.mem_cons.1 hj with rfl | hj
    · rw [hself']; omega
    · rw [hsameA j hj]; have := hF.adr_lt j hj; omega
  · intro j hj
    rcases List.mem_cons.1 hj with rfl | hj
    · rw [hself']; have := hW.lt; omega
    · rw [hsameA j hj]; exact hl j hj
set_option maxRecDepth 100000 in
set_option maxHeartbeats 2000000 in
theorem plant_c (A : Option Addr) (c : Nat) (l : List Row) (w : World) (ht : Tab w) (hr : Rd w A c l) (hok : treeOk l = true) :
    Calls Tryd.prog 57 #[.slice A l.length c] w fun e w' => ∃ (g : Nat) (adr : Int → Nat), e = .returned (.tuple #[.pointer (some ⟨g, 0, none⟩), .bool true]) ∧ Frs w' g adr (T.build l) ∧ Low w.heap.size g adr (T.ids (T.build l)) ∧ Ext w w' := by
  have hm : l.length ≤ maxLen := Nat.le_trans hr.1 hr.2.1
  unfold maxLen at hm
  have HP := Lib.hid (plant_facts l hok)
  have HO := treeOk_c A c l w ht hr
  rw [hok] at HO
  have HO := Lib.hid HO
  have HR := Lib.hid hr; have HT := Lib.hid ht; clear hr ht hok
  go_enter Tryd.func57, Tryd.ntmps57
  go_wp2_with (go_at_call 27; refine HO.out.mono ?_; rintro e w1 ⟨rfl, hb⟩; have HB1 := Lib.hid hb; clear hb)
  clear HO
  go_loopg [18] l.length (fun gk i wr => ∃ (k : Nat) (adr : Int → Nat) (lf : Nat → Value), k ≤ l.length ∧ Hid (gk = l.length - k) ∧ i = .int .i64 k ∧ Hid (Frs wr w1.heap.size adr (T.build (l.take k))) ∧ Hid (Low w.heap.size w1.heap.size adr (T.ids (T.build (l.take k)))) ∧ Hid (wr.rowIs (w1.heap.size + 1) 120 19 lf) ∧ Hid (LastOk adr (T.build (l.take k)) lf) ∧ Hid (Below w.heap.size w wr))
  case atStart =>
    have hsz := HB1.out.size
    have hsz2 : ((w1.alloc (.cells (List.replicate 37 nilp).toArray 119)).heap.size) = w1.heap.size + 1 := alloc_sz _ _
    refine ⟨0, fun _ => 0, fun _ => nilp, Nat.zero_le _, rfl, rfl, ⟨trivial, ?_, List.nodup_nil, by simp [T.build, T.ids]⟩, ⟨hsz, by simp [T.build, T.ids]⟩, ?_, ⟨fun _ => .inl rfl, by simp [T.build, T.spine]⟩, ?_⟩
    · refine (World.rowIs_alloc w1 _ _ _ (fun i hi => ?_)).alloc _
      have hi' : i < 37 := hi
      exact rep_at 37 nilp i hi'
    · rw [← hsz2]
      refine World.rowIs_alloc _ _ _ _ (fun i hi => ?_)
      have hi' : i < 19 := hi
      exact rep_at 19 nilp i hi'
    · exact (HB1.out.alloc hsz _).alloc (Nat.le_trans hsz (by rw [alloc_sz]; omega)) _
  case round =>
    obtain ⟨k, adr, lf, hk, HK, rfl, HF, HL, HW, HA, HB⟩ := hrel
    by_cases hlt : k < l.length
    · obtain ⟨b, off, rfl, hbl, c0, c1, c2⟩ := row_at (HR.out.ext HB.out) k hlt
      have hgl := HF.out.size
      have hll := HW.out.lt
      obtain ⟨hrg1, hrg2, hd1, hd2, hfresh, hsp, hnext⟩ := HP.out k hlt
      have hgc := HF.out.tab.cell (i := l[k].id.toNat) (by omega)
      have hlc := HW.out.cell (i := l[k].depth.toNat) (by omega)
      have hfz := HF.out.tab.frozen l[k].id.toNat
      have hlz := HW.out.frozen l[k].depth.toNat
      have HN := Lib.hid (plant_new wr w1.heap.size adr (T.build (l.take k)) l[k].id l[k].text (.cells #[.int .i64 l[k].id, .int .i64 l[k].depth, .string l[k].text] 47) HF.out hfresh hrg1 hrg2)
      have HI := Lib.hid hfresh; have HS := Lib.hid hsp; have HX := Lib.hid hnext
      have hBs := HB.out.size
      have HB1s := Lib.hid HB1.out.size
      clear hfresh hsp hnext
      by_cases hd0 : l[k].depth = 0
      · have hlc0 := HW.out.cell (i := 0) (by omega)
        have hlz0 := HW.out.frozen 0
        clear hlc hlz
        go_wp2
        go_region
        go_wp2
        go_roundg (l.length - (k + 1))
        case measure => have := HK.out; omega
        case rel =>
          obtain ⟨n1, n2, n3, n4⟩ := HN.out
          rw [hd0] at n1 n2 n3 n4
          have hself' : adrPut adr l[k].id (wr.heap.size + 1) l[k].id = wr.heap.size + 1 := if_pos rfl
          have f1 := n1.top (by rw [hself']; exact n2)
          have e0 : l[k].depth.toNat = 0 := by omega
          have HX' := HX.out
          rw [e0] at HX'
          have HB2 := (((HB.out.setCell (p := ⟨w1.heap.size, l[k].id.toNat, none⟩) HB1s.out (.pointer (some ⟨wr.heap.size + 1, 0, none⟩))).alloc (by rw [setsz]; exact hBs) (.cells #[.int .i64 l[k].id, .int .i64 0, .string l[k].text] 47)).alloc (by simp [World.alloc]; omega) (nodeO l[k].id (.string l[k].text) nilp nilp nilp)) |>.trans (Ext.drewN (Below.refl _ _) 1)
          obtain ⟨g1, g2, g3, g4, g5⟩ := plant_fin (d := 0) HW.out HA.out (Nat.zero_le _) HI.out f1 (n4 _ (by omega) (by omega)) HL.out (by omega) HB2 (by have := HB1s.out; omega)
          rw [← HX'] at g1 g2 g4
          rw [set_past (by rw [setsz]; exact hll)] at g1
          rw [set_past (by rw [setsz]; exact hll)] at g3
          rw [set_past (by rw [setsz]; exact hll)] at g5
          refine ⟨k + 1, _, _, by omega, rfl, by go_num, ?_, g2, ?_, g4, ?_⟩
          · exact g1
          · exact g3
          · exact g5
      · have hd0' : 0 < l[k].depth := by omega
        have hc1 := HW.out.cell (i := (l[k].depth.toNat - 1)) (by omega)
        have hlt1 : (l[k].depth.toNat - 1) < (T.spine (T.build (l.take k))).length := by have := HS.out; omega
        have hu := List.getElem?_eq_getElem hlt1
        generalize (T.spine (T.build (l.take k)))[(l[k].depth.toNat - 1)] = u at hu
        rw [HA.out.sp _ _ hu] at hc1
        have HU := Lib.hid hu
        -- the row ahead, if any
        have hah : (∃ a, lf l[k].depth.toNat = PP adr a ∧ a ∈ T.ids (T.build (l.take k)) ∧ T.upOf a none (T.build (l.take k)) = some (some u) ∧ T.insN a l[k].id l[k].text .nil (T.build (l.take k)) = T.build (l.take (k + 1))) ∨
            (T.insF u l[k].id l[k].text .nil (T.build (l.take k)) = T.build (l.take (k + 1)) ∧ (lf l[k].depth.toNat = nilp ∨ ∃ a, lf l[k].depth.toNat = PP adr a ∧ a ∈ T.ids (T.build (l.take k)) ∧ T.upOf a none (T.build (l.take k)) ≠ some (some u))) := by
          rw [HX.out]
          by_cases hlen : l[k].depth.toNat < (T.spine (T.build (l.take k))).length
          · left
            have ha := List.getElem?_eq_getElem hlen
            generalize (T.spine (T.build (l.take k)))[l[k].depth.toNat] = a at ha
            refine ⟨a, HA.out.sp _ _ ha, T.spine_mem _ _ _ ha, ?_, (T.snoc_insN _ _ _ _ _ ha HF.out.nd).symm⟩
            refine (T.spine_up _ none HF.out.nd).2 (l[k].depth.toNat - 1) a u ?_ hu
            rw [show (l[k].depth.toNat - 1) + 1 = l[k].depth.toNat by omega]; exact ha
          · right
            obtain ⟨h1, x, h2⟩ := T.snoc_insF l[k].id l[k].text _ (l[k].depth.toNat - 1) u hu (by have := HS.out; omega) HF.out.nd
            rw [show (l[k].depth.toNat - 1) + 1 = l[k].depth.toNat by omega] at h1
            refine ⟨h1.symm, ?_⟩
            rcases HA.out.one l[k].depth.toNat with h | ⟨a, ha, h⟩
            · exact .inl h
            · refine .inr ⟨a, h, ha, fun hup => ?_⟩
              rcases T.up_get _ HF.out.nd a u none hup with ⟨_, h⟩ | ⟨y, g', h, hm⟩
              · cases h
              · rw [h2] at h; injection h with h; injection h with _ h; rw [← h] at hm; simp [T.chain] at hm
        have hum := T.spine_mem _ _ _ hu
        have hBW : Below w.heap.size w _ := (((HB.out.setCell (p := ⟨w1.heap.size, l[k].id.toNat, none⟩) HB1s.out (.pointer (some ⟨wr.heap.size + 1, 0, none⟩))).alloc (by rw [setsz]; exact hBs) (.cells #[.int .i64 l[k].id, .int .i64 l[k].depth, .string l[k].text] 47)).alloc (by simp [World.alloc]; omega) (nodeO l[k].id (.string l[k].text) nilp nilp nilp)) |>.trans (Ext.drewN (Below.refl _ _) 1)
        have hatt := fun (p : Int) (av : Value) hav hput => plant_attach (w := w) p (T.build (l.take (k + 1))) (some ⟨adr u, 0, none⟩) av HF.out HW.out HI.out HN.out.1 HN.out.2.2.1 HN.out.2.2.2 HL.out hBs hum rfl hav hput (by omega) hBW
        have hg0 := (HF.out.rng u hum).1
        rcases hah with ⟨a, e1, ha, hua, hput⟩ | ⟨hput, hah⟩
        · have hb := Lib.hid (hatt a (PP adr a) (.inr ⟨ha, rfl, hua⟩) (by rw [T.put, if_pos (show (0:Int) < (u, a).2 from (HF.out.rng a ha).1)]; exact hput))
          have HC := hb
          obtain ⟨xa, fa, na, topa, qa, -, -, hqa, -, hba, -⟩ := HF.out.info a ha
          rw [hua] at hqa; injection hqa with hqa; subst hqa
          obtain ⟨-, -, c2a, -, -, -⟩ := cells_of hba
          simp only [upv] at c2a
          have hal := HF.out.adr_lt a ha
          have han := HF.out.adr_ne HF.out.tab (by decide) a ha
          have q1 := neq_same ⟨adr u, 0, none⟩
          rw [e1] at hlc
          clear hb hba hatt hBW hput hua ha hum hu
          go_wp2
          go_region
          go_wp2_with fail
          refine HC.out.mono ?_; rintro e w2 ⟨rfl, f2, b2, r2, l2, s2⟩
          have hr1 : w2.cell? ⟨wr.heap.size, 1, none⟩ = some (.int .i64 l[k].depth) := by simp [World.cell?, r2]
          have hrl := cell_blk l2 l[k].depth.toNat
          have hfl := frozen_blk l2 l[k].depth.toNat
          rw [hlc] at hrl; rw [hlz] at hfl
          have F2 := Lib.hid f2; have B2 := Lib.hid b2; have L2 := Lib.hid l2
          clear f2 b2 r2 l2 hlc hlz hgc hfz c0 c1 c2 hc1 HC
          go_wp2
          go_roundg (l.length - (k + 1))
          case measure => have := HK.out; omega
          case rel =>
            have hfin := plant_fin HW.out HA.out HS.out HI.out (by rw [← HX.out]; exact F2.out) L2.out HL.out (by omega) B2.out (by have := HB1s.out; omega)
            rw [← HX.out] at hfin
            obtain ⟨g1, g2, g3, g4, g5⟩ := hfin
            exact ⟨k + 1, _, _, by omega, rfl, by go_num, g1, g2, g3, g4, g5⟩
        · rcases hah with e1 | ⟨a, e1, ha, hua⟩
          · have HC := Lib.hid (hatt 0 nilp (.inl ⟨rfl, rfl⟩) (by rw [T.put, if_neg (show ¬ (0:Int) < (u, (0 : Int)).2 from Int.lt_irrefl 0)]; exact hput))
            rw [e1] at hlc
            clear hatt hBW hput hum hu
            go_wp2
            go_region
            go_wp2_with fail
            refine HC.out.mono ?_; rintro e w2 ⟨rfl, f2, b2, r2, l2, s2⟩
            have hr1 : w2.cell? ⟨wr.heap.size, 1, none⟩ = some (.int .i64 l[k].depth) := by simp [World.cell?, r2]
            have hrl := cell_blk l2 l[k].depth.toNat
            have hfl := frozen_blk l2 l[k].depth.toNat
            rw [hlc] at hrl; rw [hlz] at hfl
            have F2 := Lib.hid f2; have B2 := Lib.hid b2; have L2 := Lib.hid l2
            clear f2 b2 r2 l2 hlc hlz hgc hfz c0 c1 c2 hc1 HC
            go_wp2
            go_roundg (l.length - (k + 1))
            case measure => have := HK.out; omega
            case rel =>
              have hfin := plant_fin HW.out HA.out HS.out HI.out (by rw [← HX.out]; exact F2.out) L2.out HL.out (by omega) B2.out (by have := HB1s.out; omega)
              rw [← HX.out] at hfin
              obtain ⟨g1, g2, g3, g4, g5⟩ := hfin
              exact ⟨k + 1, _, _, by omega, rfl, by go_num, g1, g2, g3, g4, g5⟩
          · have HC := Lib.hid (hatt 0 nilp (.inl ⟨rfl, rfl⟩) (by rw [T.put, if_neg (show ¬ (0:Int) < (u, (0 : Int)).2 from Int.lt_irrefl 0)]; exact hput))
            obtain ⟨xa, fa, na, topa, qa, -, -, hqa, -, hba, -⟩ := HF.out.info a ha
            obtain ⟨-, -, c2a, -, -, -⟩ := cells_of hba
            have hal := HF.out.adr_lt a ha
            have han := HF.out.adr_ne HF.out.tab (by decide) a ha
            rw [e1] at hlc
            cases qa with
            | none =>
              simp only [upv] at c2a
              have q1 := neq_nil ⟨adr u, 0, none⟩
              clear hba hatt hBW hput hua ha hum hu hqa
              go_wp2
              go_region
              go_wp2_with fail
              refine HC.out.mono ?_; rintro e w2 ⟨rfl, f2, b2, r2, l2, s2⟩
              have hr1 : w2.cell? ⟨wr.heap.size, 1, none⟩ = some (.int .i64 l[k].depth) := by simp [World.cell?, r2]
              have hrl := cell_blk l2 l[k].depth.toNat
              have hfl := frozen_blk l2 l[k].depth.toNat
              rw [hlc] at hrl; rw [hlz] at hfl
              have F2 := Lib.hid f2; have B2 := Lib.hid b2; have L2 := Lib.hid l2
              clear f2 b2 r2 l2 hlc hlz hgc hfz c0 c1 c2 hc1 HC
              go_wp2
              go_roundg (l.length - (k + 1))
              case measure => have := HK.out; omega
              case rel =>
                have hfin := plant_fin HW.out HA.out HS.out HI.out (by rw [← HX.out]; exact F2.out) L2.out HL.out (by omega) B2.out (by have := HB1s.out; omega)
                rw [← HX.out] at hfin
                obtain ⟨g1, g2, g3, g4, g5⟩ := hfin
                exact ⟨k + 1, _, _, by omega, rfl, by go_num, g1, g2, g3, g4, g5⟩
            | some u2 =>
              simp only [upv] at c2a
              have hu2 : u2 ∈ T.ids (T.build (l.take k)) := by
                rcases T.up_get _ HF.out.nd a u2 none hqa with ⟨_, h⟩ | ⟨y, g', h, _⟩
                · cases h
                · exact (T.get_sub _ _ _ _ h).1
              have hne : adr u2 ≠ adr u := HF.out.inj hu2 hum (fun e => hua (by rw [hqa, e]))
              obtain ⟨x3, f3, n3, top3, q3, -, -, -, -, hb3, -⟩ := HF.out.info u2 hu2
              obtain ⟨x4, f4, n4, top4, q4, -, -, -, -, hb4, -⟩ := HF.out.info u hum
              have q1 := neq_other (W := (((wr.setCell ⟨w1.heap.size, l[k].id.toNat, none⟩ (.pointer (some ⟨wr.heap.size + 1, 0, none⟩))).alloc (.cells #[.int .i64 l[k].id, .int .i64 l[k].depth, .string l[k].text] 47)).alloc (nodeO l[k].id (.string l[k].text) nilp nilp nilp)).drew) (a := ⟨adr u2, 0, none⟩) (b := ⟨adr u, 0, none⟩) (fun e => hne (by injection e))
                ((HN.out.2.2.2 _ (HF.out.adr_lt u2 hu2) (fun e => HF.out.adr_ne HF.out.tab (by decide) u2 hu2 e.symm)).trans hb3) ((HN.out.2.2.2 _ (HF.out.adr_lt u hum) (fun e => HF.out.adr_ne HF.out.tab (by decide) u hum e.symm)).trans hb4)
              clear hba hatt hBW hput hua ha hum hu hqa hb3 hb4 hne hu2
              go_wp2
              go_region
              go_wp2_with fail
              refine HC.out.mono ?_; rintro e w2 ⟨rfl, f2, b2, r2, l2, s2⟩
              have hr1 : w2.cell? ⟨wr.heap.size, 1, none⟩ = some (.int .i64 l[k].depth) := by simp [World.cell?, r2]
              have hrl := cell_blk l2 l[k].depth.toNat
              have hfl := frozen_blk l2 l[k].depth.toNat
              rw [hlc] at hrl; rw [hlz] at hfl
              have F2 := Lib.hid f2; have B2 := Lib.hid b2; have L2 := Lib.hid l2
              clear f2 b2 r2 l2 hlc hlz hgc hfz c0 c1 c2 hc1 HC
              go_wp2
              go_roundg (l.length - (k + 1))
              case measure => have := HK.out; omega
              case rel =>
                have hfin := plant_fin HW.out HA.out HS.out HI.out (by rw [← HX.out]; exact F2.out) L2.out HL.out (by omega) B2.out (by have := HB1s.out; omega)
                rw [← HX.out] at hfin
                obtain ⟨g1, g2, g3, g4, g5⟩ := hfin
                exact ⟨k + 1, _, _, by omega, rfl, by go_num, g1, g2, g3, g4, g5⟩
    · go_wp2
      go_ret2
      have hkl : k = l.length := by omega
      subst hkl
      rw [List.take_length] at HF HL
      exact ⟨_, _, rfl, HF.out, HL.out, HB.out⟩
end Go.Proofs.YtjhbbgeebobcpaaDoor
