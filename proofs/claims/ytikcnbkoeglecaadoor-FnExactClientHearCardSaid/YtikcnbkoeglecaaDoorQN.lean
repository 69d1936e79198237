/- Walk of the reference: rows are put under a row. -/
import Derived.Test.YtikcnbkoeglecaaDoorQM
namespace Go.Proofs.YtikcnbkoeglecaaDoor
open Go.RowKit
set_option linter.unusedVariables false

def shiftR (e : Int) (r : Row) : Row := { r with depth := r.depth + e }
def putAt (t rs : List Row) (deep : Int) (place : Nat) : List Row := t.take place ++ rs.map (shiftR deep) ++ t.drop place
theorem shiftR_ok {e : Int} {r : Row} (h : Flat.okE r) : Flat.okE (shiftR e r) := h

set_option maxRecDepth 100000 in
set_option maxHeartbeats 4000000 in
theorem put_s (A : Option Addr) (c : Nat) (t : List Row) (A' : Option Addr) (c' : Nat) (rs : List Row) (up pos : Int) (k : Nat) (w : World) (hr : Rd w A c t) (hr' : Rd w A' c' rs) (hl : t.length ≤ 1000) (hl' : rs.length ≤ 1000) (h0 : 0 < rs.length)
    (hd : ∀ r ∈ t, 0 ≤ r.depth ∧ r.depth ≤ 18) (hd' : ∀ r ∈ rs, 0 ≤ r.depth ∧ r.depth ≤ 18) (hk : idx t up = some k) (hp : 0 < pos → (idx t pos).isSome = true) :
    Calls Tryd.prog 92 #[.slice A t.length c, .slice A' rs.length c', .int .i64 up, .int .i64 pos] w fun e w' => ∃ v, e = .returned v ∧ Own 61 w' w.heap.size v (putL t rs up pos) ∧ Ext w w' := by
  have hkl := idx_lt hk
  have hat : atI t up = k := by unfold atI; rw [hk]
  obtain ⟨b, off, rfl, hbl, a0, a1, a2⟩ := row_at hr k hkl
  obtain ⟨b', off', rfl, hbl', c0, c1, c2⟩ := row_at hr' 0 h0
  have hdk := hd t[k] (List.getElem_mem hkl)
  have hd0 := hd' rs[0] (List.getElem_mem h0)
  obtain ⟨hdk0, hdk1⟩ := hdk
  obtain ⟨hd00, hd01⟩ := hd0
  have HD' := Lib.hid hd'
  have hcap := hr.1
  have hcap' := hr'.1
  have HR := Lib.hid hr; have HR' := Lib.hid hr'; have HR0 := Lib.hid hr; have HR'0 := Lib.hid hr'
  have HA := at_s (some ⟨b, off, none⟩) c t up w hr
  rw [hat] at HA
  have HAT := Lib.hid HA
  have hdeep : ∃ deep : Int, deep = t[k].depth + (1 : Int) - rs[0].depth := ⟨_, rfl⟩
  obtain ⟨deep, hdeep⟩ := hdeep
  have hres : putL t rs up pos = putAt t rs deep (if 0 < pos then endOf t ((idx t pos).getD 0) else k + 1) := by
    unfold putL putAt shiftR
    rw [hk]
    have e1 : depAt t k = t[k].depth := depAt_lt t k hkl
    have e2 : depAt rs 0 = rs[0].depth := depAt_lt rs 0 h0
    simp only [Option.getD_some, e1, e2, hdeep]
  have HRES := Lib.hid hres
  have hdp0 : -17 ≤ deep := by omega
  have hdp1 : deep ≤ 19 := by omega
  have hkl' : (k : Int) < t.length := by omega
  have h0' : (0 : Int) < rs.length := by omega
  have q0 : IntKind.i64.wrap (t[k].depth + 1) = t[k].depth + 1 := by rw [IntKind.wrap_i64]; omega
  have q1 : t[k].depth + (1 : Int) - rs[0].depth = deep := hdeep.symm
  have HDEEP := Lib.hid hdeep
  clear hd hd' hr hr' hk hat HA hres hdeep
  go_enter Tryd.func92, Tryd.ntmps92
  go_wp2_with fail
  refine HAT.out.mono ?_; rintro e w1 ⟨rfl, hw1⟩
  rw [hw1]
  go_wp2_with fail
  go_quiet (fail)
  have hp1 : Ext w (w.drewN nq) := Ext.drewN (Below.refl _ _) _
  have hRq := HR.out.drewN nq
  have hRq' := HR'.out.drewN nq
  obtain ⟨Wq, hWq⟩ : ∃ Wq, Wq = w.drewN nq := ⟨_, rfl⟩
  rw [← hWq] at hp1 hRq hRq' ⊢
  have HEQ := Lib.hid hp1; have HRQ := Lib.hid hRq; have HRQ' := Lib.hid hRq'
  clear hWq hp1 hRq hRq' HR HR' HAT a0 a1 a2 c0 c1 c2 q0
  by_cases hpos : 0 < pos
  · obtain ⟨p, hpx⟩ := Option.isSome_iff_exists.1 (hp hpos)
    have hpat : atI t pos = p := by unfold atI; rw [hpx]
    have hpl := idx_lt hpx
    have HA2 := at_s (some ⟨b, off, none⟩) c t pos Wq HRQ.out
    rw [hpat] at HA2
    have HA2 := Lib.hid HA2
    have HEN := Lib.hid (end_s (some ⟨b, off, none⟩) c t p Wq HRQ.out hpl)
    have her := endOf_range t p hpl
    obtain ⟨her0, her1⟩ := her
    rw [if_pos hpos, hpx, Option.getD_some] at HRES
    generalize endOf t p = place at *
    clear hpat hpx hp
    go_wp2_with fail
    refine HA2.out.mono ?_; rintro e w2 ⟨rfl, hw2⟩
    rw [hw2]
    go_wp2_with fail
    refine HEN.out.mono ?_; rintro e w2 ⟨rfl, n1, hw2⟩
    have hp1 : Ext w w2 := by rw [hw2]; exact Ext.drewN HEQ.out _
    have hRq : Rd w2 (some ⟨b, off, none⟩) c t := by rw [hw2]; exact HRQ.out
    have hRq' : Rd w2 (some ⟨b', off', none⟩) c' rs := by rw [hw2]; exact HRQ'.out
    clear HA2 HEN HEQ HRQ HRQ' hw2
    have hplace : place ≤ t.length := her1
    have hpl9 : (t.take place).length = place := by rw [List.length_take]; omega
    have hs2 := hp1.size
    obtain ⟨v3, w3, hrun, hown3, hg3⟩ := app_at el_row (own_made (e := 61) (α := Row) w2 w.heap.size hs2) ((hRq.alloc (.cells #[] 61)).take place) (by simp; omega) (by rw [alloc_sz]; omega)
    have hB3 := (own_made (e := 61) (α := Row) w2 w.heap.size hs2).over (hp1.alloc hs2 (.cells #[] 61)) hg3 (Nat.le_refl _) (by rw [alloc_sz]; omega)
    rw [hpl9] at hrun
    rw [List.nil_append] at hown3
    have HO3 := Lib.hid hown3; have HB3 := Lib.hid hB3; have HRQ := Lib.hid hRq; have HRQ' := Lib.hid hRq'
    clear hpl9 hown3 hg3 hB3 hRq hRq' hp1 q1
    go_wp2_with (at_builtin; refine wpList_append_run rfl _ _ _ rfl rfl rfl hrun ?_)
    clear hrun
    go_loopg [12, 13] rs.length (fun gk v i wr => ∃ j : Nat, j ≤ rs.length ∧ Hid (gk = rs.length - j) ∧ i = .int .i64 j ∧ Hid (Own 61 wr w.heap.size v (t.take place ++ (rs.take j).map (shiftR deep))) ∧ Hid (Ext w wr))
    case atStart => exact ⟨0, Nat.zero_le _, rfl, rfl, by show Own _ _ _ _ _; simpa using HO3.out, HB3.out⟩
    case round =>
      obtain ⟨j, hj, HJ, rfl, HO, HW⟩ := hrel
      by_cases hlt : j < rs.length
      · obtain ⟨b9, off9, e9, hb9, x0, x1, x2⟩ := row_at (HR'0.out.ext HW.out) j hlt
        cases e9
        have hdj := HD'.out rs[j] (List.getElem_mem hlt)
        obtain ⟨hdj0, hdj1⟩ := hdj
        have hsz := HW.out.size
        have hea : Ext wr (wr.alloc (.cells #[.int .i64 rs[j].id, .int .i64 (rs[j].depth + deep), .string rs[j].text] 61)) := (Below.refl _ _).alloc (Nat.le_refl _) _
        have hO1 := HO.out.below hea
        have hE1 : Ext w (wr.alloc (.cells #[.int .i64 rs[j].id, .int .i64 (rs[j].depth + deep), .string rs[j].text] 61)) := HW.out.alloc hsz _
        have hlen : (t.take place ++ (rs.take j).map (shiftR deep)).length < 1000000 := by simp; omega
        obtain ⟨v4, w4, hrun, hown4, hg4⟩ := app_one el_row hO1 (shiftR deep rs[j]) (HR'0.out.okAt j hlt) hlen hE1.size #[.int .i64 rs[j].id, .int .i64 (rs[j].depth + deep), .string rs[j].text] rfl
        have hB4 := hO1.over_one hE1 hg4 (Nat.le_refl _) hE1.size
        rw [alloc_sz] at hrun
        have hnx : t.take place ++ (rs.take (j + 1)).map (shiftR deep) = (t.take place ++ (rs.take j).map (shiftR deep)) ++ [shiftR deep rs[j]] := by rw [List.take_succ_eq_append_getElem hlt, List.map_append, ← List.append_assoc]; rfl
        have HNX := Lib.hid hnx
        have HO4 := Lib.hid hown4; have HB4 := Lib.hid hB4
        clear hea hO1 hE1 hlen hown4 hg4 hB4 hnx
        go_wp2_with (at_builtin; refine wpList_append_run rfl _ _ _ rfl rfl rfl hrun ?_)
        go_roundg (rs.length - (j + 1))
        case measure => have := HJ.out; omega
        case rel => exact ⟨j + 1, by omega, rfl, by go_num, by rw [HNX.out]; exact HO4.out, HB4.out⟩
      · have hjl : j = rs.length := by omega
        rw [hjl, List.take_length] at HO
        have hsz := HW.out.size
        have hrd := (HR0.out.ext HW.out).from_ place hplace
        have hsl := fun (W : World) => run_cut el_row (some ⟨b, off, none⟩) t.length c place hplace W
        have hszr : Flat.sz Row = 3 := rfl
        simp only [hszr] at hrd hsl
        generalize fromA (some ⟨b, off, none⟩) c place 3 = A7 at hrd hsl
        obtain ⟨v5, w5, hrun, hown5, hg5⟩ := app_at el_row HO.out hrd (by simp; omega) hsz
        have hB5 := HO.out.over HW.out hg5 (Nat.le_refl _) hsz
        rw [List.length_drop] at hrun
        have HO5 := Lib.hid hown5; have HB5 := Lib.hid hB5
        clear hrd hown5 hg5 hB5 hjl hszr
        go_wp2_with (at_builtin; refine wpList_append_run rfl _ _ _ rfl rfl rfl hrun ?_)
        go_ret
        exact ⟨_, rfl, by rw [HRES.out]; exact HO5.out, HB5.out⟩
  · rw [if_neg hpos] at HRES
    have hplace : k + 1 ≤ t.length := hkl
    have hp1 := HEQ.out
    have hRq := HRQ.out
    have hRq' := HRQ'.out
    clear hp HEQ HRQ HRQ'
    generalize hpp : k + 1 = place at *
    have hcast : (k : Int) + 1 = place := by omega
    clear hpp
    obtain ⟨w2, hw2⟩ : ∃ w2, w2 = Wq := ⟨_, rfl⟩
    rw [← hw2] at hp1 hRq hRq' ⊢
    clear hw2
    have hpl9 : (t.take place).length = place := by rw [List.length_take]; omega
    have hs2 := hp1.size
    obtain ⟨v3, w3, hrun, hown3, hg3⟩ := app_at el_row (own_made (e := 61) (α := Row) w2 w.heap.size hs2) ((hRq.alloc (.cells #[] 61)).take place) (by simp; omega) (by rw [alloc_sz]; omega)
    have hB3 := (own_made (e := 61) (α := Row) w2 w.heap.size hs2).over (hp1.alloc hs2 (.cells #[] 61)) hg3 (Nat.le_refl _) (by rw [alloc_sz]; omega)
    rw [hpl9] at hrun
    rw [List.nil_append] at hown3
    have HO3 := Lib.hid hown3; have HB3 := Lib.hid hB3; have HRQ := Lib.hid hRq; have HRQ' := Lib.hid hRq'
    clear hpl9 hown3 hg3 hB3 hRq hRq' hp1 q1
    go_wp2_with (at_builtin; refine wpList_append_run rfl _ _ _ rfl rfl rfl hrun ?_)
    clear hrun
    go_loopg [12, 13] rs.length (fun gk v i wr => ∃ j : Nat, j ≤ rs.length ∧ Hid (gk = rs.length - j) ∧ i = .int .i64 j ∧ Hid (Own 61 wr w.heap.size v (t.take place ++ (rs.take j).map (shiftR deep))) ∧ Hid (Ext w wr))
    case atStart => exact ⟨0, Nat.zero_le _, rfl, rfl, by show Own _ _ _ _ _; simpa using HO3.out, HB3.out⟩
    case round =>
      obtain ⟨j, hj, HJ, rfl, HO, HW⟩ := hrel
      by_cases hlt : j < rs.length
      · obtain ⟨b9, off9, e9, hb9, x0, x1, x2⟩ := row_at (HR'0.out.ext HW.out) j hlt
        cases e9
        have hdj := HD'.out rs[j] (List.getElem_mem hlt)
        obtain ⟨hdj0, hdj1⟩ := hdj
        have hsz := HW.out.size
        have hea : Ext wr (wr.alloc (.cells #[.int .i64 rs[j].id, .int .i64 (rs[j].depth + deep), .string rs[j].text] 61)) := (Below.refl _ _).alloc (Nat.le_refl _) _
        have hO1 := HO.out.below hea
        have hE1 : Ext w (wr.alloc (.cells #[.int .i64 rs[j].id, .int .i64 (rs[j].depth + deep), .string rs[j].text] 61)) := HW.out.alloc hsz _
        have hlen : (t.take place ++ (rs.take j).map (shiftR deep)).length < 1000000 := by simp; omega
        obtain ⟨v4, w4, hrun, hown4, hg4⟩ := app_one el_row hO1 (shiftR deep rs[j]) (HR'0.out.okAt j hlt) hlen hE1.size #[.int .i64 rs[j].id, .int .i64 (rs[j].depth + deep), .string rs[j].text] rfl
        have hB4 := hO1.over_one hE1 hg4 (Nat.le_refl _) hE1.size
        rw [alloc_sz] at hrun
        have hnx : t.take place ++ (rs.take (j + 1)).map (shiftR deep) = (t.take place ++ (rs.take j).map (shiftR deep)) ++ [shiftR deep rs[j]] := by rw [List.take_succ_eq_append_getElem hlt, List.map_append, ← List.append_assoc]; rfl
        have HNX := Lib.hid hnx
        have HO4 := Lib.hid hown4; have HB4 := Lib.hid hB4
        clear hea hO1 hE1 hlen hown4 hg4 hB4 hnx
        go_wp2_with (at_builtin; refine wpList_append_run rfl _ _ _ rfl rfl rfl hrun ?_)
        go_roundg (rs.length - (j + 1))
        case measure => have := HJ.out; omega
        case rel => exact ⟨j + 1, by omega, rfl, by go_num, by rw [HNX.out]; exact HO4.out, HB4.out⟩
      · have hjl : j = rs.length := by omega
        rw [hjl, List.take_length] at HO
        have hsz := HW.out.size
        have hrd := (HR0.out.ext HW.out).from_ place hplace
        have hsl := fun (W : World) => run_cut el_row (some ⟨b, off, none⟩) t.length c place hplace W
        have hszr : Flat.sz Row = 3 := rfl
        simp only [hszr] at hrd hsl
        generalize fromA (some ⟨b, off, none⟩) c place 3 = A7 at hrd hsl
        obtain ⟨v5, w5, hrun, hown5, hg5⟩ := app_at el_row HO.out hrd (by simp; omega) hsz
        have hB5 := HO.out.over HW.out hg5 (Nat.le_refl _) hsz
        rw [List.length_drop] at hrun
        have HO5 := Lib.hid hown5; have HB5 := Lib.hid hB5
        clear hrd hown5 hg5 hB5 hjl hszr
        go_wp2_with (at_builtin; refine wpList_append_run rfl _ _ _ rfl rfl rfl hrun ?_)
        go_ret
        exact ⟨_, rfl, by rw [HRES.out]; exact HO5.out, HB5.out⟩
end Go.Proofs.YtikcnbkoeglecaaDoor
