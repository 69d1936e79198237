/- Walks of the reference's reader of draws: a number is picked; a text is picked. Walks of the reference's draws: a number of a row, a text. -/
import Derived.Test.YtjhbbgeebobcpaaDoorQQ
import Derived.Test.YtjhbbgeebobcpaaDoorQB
import Derived.Deep.QuietTactic
import Derived.BigQuiet
import Derived.Laws.Bits64
namespace Go.Proofs.YtjhbbgeebobcpaaDoor
open Go.RowKit
set_option linter.unusedVariables false

instance : Flat UInt8 := ⟨fun x => [.int .u8 x.toNat], 1, fun _ => rfl, fun _ u hu => by simp at hu; subst hu; rfl, by omega, fun _ => True⟩
theorem byte_at {w : World} {A : Option Addr} {c : Nat} {l : List UInt8} (h : Rd w A c l) (k : Nat) (hk : k < l.length) :
    ∃ b off, A = some ⟨b, off, none⟩ ∧ b < w.heap.size ∧ w.cell? ⟨b, off + k, none⟩ = some (.int .u8 l[k].toNat) := by
  obtain ⟨b, off, rfl, hb, hc⟩ := h.at_ k hk
  have h0 := hc 0 _ rfl
  exact ⟨b, off, rfl, hb, by have e : off + (k * 1 + 0) = off + k := by omega
                             rw [← e]; exact h0⟩
theorem str_at {w : World} {A : Option Addr} {c : Nat} {l : List ByteArray} (h : Rd w A c l) (k : Nat) (hk : k < l.length) :
    ∃ b off, A = some ⟨b, off, none⟩ ∧ b < w.heap.size ∧ w.cell? ⟨b, off + k, none⟩ = some (.string l[k]) := by
  obtain ⟨b, off, rfl, hb, hc⟩ := h.at_ k hk
  have h0 := hc 0 _ rfl
  exact ⟨b, off, rfl, hb, by have e : off + (k * 1 + 0) = off + k := by omega
                             rw [← e]; exact h0⟩

/-- Block r is a reader of draws that has picked p times. -/
def Rdr (w : World) (r p : Nat) : Prop :=
  ∃ (A : Option Addr) (c : Nat) (bs : List UInt8), w.heap[r]? = some (.cells #[.slice A bs.length c, .int .i64 p] 103 (0, 0)) ∧ Rd w A c bs ∧ bs.length ≤ 2000 ∧ ∀ b off, A = some ⟨b, off, none⟩ → b < r
theorem Rdr.lt {w : World} {r p : Nat} (h : Rdr w r p) : r < w.heap.size := by
  obtain ⟨A, c, bs, h1, _⟩ := h; exact blk_lt h1
theorem Rdr.ext {w w' : World} {r p : Nat} (h : Rdr w r p) (hb : Ext w w') : Rdr w' r p := by
  obtain ⟨A, c, bs, h1, h2, h3⟩ := h
  exact ⟨A, c, bs, (hb.block r (blk_lt h1)).trans h1, h2.ext hb, h3⟩
theorem two_cells {W : World} {b : Nat} {v0 v1 : Value} {ty : TypeId} (h : W.heap[b]? = some (.cells #[v0, v1] ty (0, 0))) :
    W.cell? ⟨b, 0, none⟩ = some v0 ∧ W.cell? ⟨b, 1, none⟩ = some v1 ∧ ∀ o, W.frozen? ⟨b, o, none⟩ = false := by
  refine ⟨by simp [World.cell?, h], by simp [World.cell?, h], fun o => by simp [World.frozen?, h]⟩

/-- What a pick leaves. -/
def PickP (r p : Nat) (n : Int) (w : World) (e : Ending) (w' : World) : Prop :=
  ∃ v : Int, e = .returned (.int .i64 v) ∧ 0 ≤ v ∧ (1 ≤ n → v < n) ∧ (n < 1 → v = 0) ∧ Rdr w' r (p + 1) ∧ w.grownBy w' (some r)
theorem xor_i64 (X : Nat) (hX : X < 4611686018427387904) : ∃ Y : Nat, bits .xor .i64 (X : Int) ((X : Int) / 64) = (Y : Int) ∧ Y < 4611686018427387904 := by
  have d : ((X : Int) / 64) = ((X / 64 : Nat) : Int) := by omega
  have hb : X / 64 < 4611686018427387904 := by omega
  have hx : X ^^^ (X / 64) < 2 ^ 62 := Nat.xor_lt_two_pow (by omega) (by omega)
  have h1 : (BitVec.ofInt 64 (X : Int)).toNat = X := by
    rw [BitVec.ofInt_natCast, BitVec.toNat_ofNat]; exact Nat.mod_eq_of_lt (by omega)
  have h2 : (BitVec.ofInt 64 ((X / 64 : Nat) : Int)).toNat = X / 64 := by
    rw [BitVec.ofInt_natCast, BitVec.toNat_ofNat]; exact Nat.mod_eq_of_lt (by omega)
  refine ⟨X ^^^ (X / 64), ?_, by omega⟩
  rw [d]
  show IntKind.i64.wrap ((BitVec.ofInt 64 (X : Int) ^^^ BitVec.ofInt 64 ((X / 64 : Nat) : Int)).toNat : Int) = _
  rw [BitVec.toNat_xor, h1, h2, IntKind.wrap_i64]
  omega

set_option maxRecDepth 100000 in
set_option maxHeartbeats 4000000 in
theorem pick_c (r p : Nat) (n : Int) (w : World) (h : Rdr w r p) (hp : p < 1000000000) (hn : i64 n) :
    Calls Tryd.prog 63 #[.pointer (some ⟨r, 0, none⟩), .int .i64 n] w (PickP r p n w) := by
  obtain ⟨A, c, bs, hbk, hrd, hl, hlow⟩ := h
  obtain ⟨hn0, hn1⟩ := hn
  obtain ⟨c0, c1, cf⟩ := two_cells hbk
  have hset : (w.setCell ⟨r, 1, none⟩ (.int .i64 ((p : Int) + 1))).heap[r]? = some (.cells #[.slice A bs.length c, .int .i64 ((p : Int) + 1)] 103 (0, 0)) := set_at hbk
  obtain ⟨d0, d1, df⟩ := two_cells hset
  have hg : w.grownBy (w.setCell ⟨r, 1, none⟩ (.int .i64 ((p : Int) + 1))) (some r) := gset_any w r 1 _
  have hrd2 : Rd (w.setCell ⟨r, 1, none⟩ (.int .i64 ((p : Int) + 1))) A c bs := hrd.grown hg (fun b off e h => by have := hlow b off e; injection h with h; omega)
  have hR2 : Rdr (w.setCell ⟨r, 1, none⟩ (.int .i64 ((p : Int) + 1))) r (p + 1) := ⟨A, c, bs, by rw [hset]; rfl, hrd2, hl, hlow⟩
  generalize hW : w.setCell ⟨r, 1, none⟩ (.int .i64 ((p : Int) + 1)) = W at hset d0 d1 df hg hrd2 hR2
  have HW := Lib.hid hW; have HG := Lib.hid hg; have HR2 := Lib.hid hR2; have HRD := Lib.hid hrd2
  have hne : r < w.heap.size := blk_lt hbk
  clear hset hg hrd2 hR2 hrd hW hbk
  have hp1 : (p : Int) + 1 ≤ 1000000000 := by omega
  by_cases h1 : n < 1
  · have FIN : Hid (PickP r p n w (.returned (.int .i64 0)) W) := ⟨0, rfl, Int.le_refl _, fun h => by omega, fun _ => rfl, HR2.out, HG.out⟩
    go_enter Tryd.func63, Tryd.ntmps63
    go_wp2_with fail
    rw [HW.out]
    go_ret
    exact FIN.out
  have FIN : Hid (∀ v : Int, 0 ≤ v → v < n → PickP r p n w (.returned (.int .i64 v)) W) := fun v h0 h2 => ⟨v, rfl, h0, fun _ => h2, fun h => by omega, HR2.out, HG.out⟩
  have FIN0 : Hid (PickP r p n w (.returned (.int .i64 0)) W) := FIN.out 0 (Int.le_refl _) (by omega)
  by_cases hb0 : bs.length = 0
  · have hb0' : ((bs.length : Int) == 0) = true := by simp [hb0]
    have HB := Lib.hid hb0
    clear hb0
    go_enter Tryd.func63, Tryd.ntmps63
    go_wp2_with fail
    rw [HW.out]
    go_ret
    exact FIN0.out
  have hb0' : ((bs.length : Int) == 0) = false := beq_eq_false_iff_ne.2 (by omega)
  by_cases hpl : p < bs.length
  · obtain ⟨b, off, rfl, hbl, x0⟩ := byte_at HRD.out p hpl
    have hbr := hlow b off rfl
    have hub : (bs[p].toNat : Int) < 256 := by have := bs[p].toNat_lt; omega
    have y0 : w.cell? ⟨b, off + p, none⟩ = some (.int .u8 bs[p].toNat) := by
      have := (cell_blk (HG.out.block b (by omega) (fun e => Nat.ne_of_lt hbr (Option.some.inj e))) (off + p)).symm.trans x0
      exact this
    have hm0 : 0 ≤ (bs[p].toNat : Int) % n := Int.emod_nonneg _ (by omega)
    have hm1 : (bs[p].toNat : Int) % n < n := Int.emod_lt_of_pos _ (by omega)
    clear hlow x0
    go_enter Tryd.func63, Tryd.ntmps63
    go_wp2_with fail
    rw [HW.out]
    go_ret
    exact FIN.out _ hm0 hm1
  · have hpos : 0 < bs.length := by omega
    have hi1 : p % bs.length < bs.length := Nat.mod_lt _ hpos
    have hi2 : (p * 7 + 3) % bs.length < bs.length := Nat.mod_lt _ hpos
    obtain ⟨b, off, rfl, hbl, x0⟩ := byte_at HRD.out _ hi1
    obtain ⟨b', off', e', hbl', x1⟩ := byte_at HRD.out _ hi2
    cases e'
    have hbr := hlow b off rfl
    clear hlow
    go_enter Tryd.func63, Tryd.ntmps63
    go_wp2_with fail
    rw [HW.out]
    generalize hb1 : bs[p % bs.length].toNat = B1 at x0
    generalize hb2 : bs[(p * 7 + 3) % bs.length].toNat = B2 at x1
    have hub1 : B1 < 256 := by rw [← hb1]; exact UInt8.toNat_lt _
    have hub2 : B2 < 256 := by rw [← hb2]; exact UInt8.toNat_lt _
    clear hb1 hb2
    generalize hl9 : bs.length = N at *
    have hdv : p / N ≤ p := Nat.div_le_self _ _
    have g1 : IntKind.i64.wrap (B1 : Int) = B1 := by rw [IntKind.wrap_i64]; omega
    have g2 : IntKind.i64.wrap (B2 : Int) = B2 := by rw [IntKind.wrap_i64]; omega
    have g3 : IntKind.i64.wrap ((B1 : Int) * 131) = (B1 : Int) * 131 := by rw [IntKind.wrap_i64]; omega
    have g4 : IntKind.i64.wrap ((B2 : Int) * 1117) = (B2 : Int) * 1117 := by rw [IntKind.wrap_i64]; omega
    have g5 : IntKind.i64.wrap ((B1 : Int) * 131 + (B2 : Int) * 1117) = (B1 : Int) * 131 + (B2 : Int) * 1117 := by rw [IntKind.wrap_i64]; omega
    have g6 : IntKind.i64.wrap ((p : Int) * 7) = (p : Int) * 7 := by rw [IntKind.wrap_i64]; omega
    have g7 : IntKind.i64.wrap ((p : Int) * 7 + 3) = (p : Int) * 7 + 3 := by rw [IntKind.wrap_i64]; omega
    have g8 : IntKind.i64.wrap ((p : Int) * 29) = (p : Int) * 29 := by rw [IntKind.wrap_i64]; omega
    have g9 : IntKind.i64.wrap ((B1 : Int) * 131 + (B2 : Int) * 1117 + (p : Int) * 29) = (B1 : Int) * 131 + (B2 : Int) * 1117 + (p : Int) * 29 := by rw [IntKind.wrap_i64]; omega
    have hN0 : (0 : Int) < N := by omega
    have t1 : (p : Int).tmod N = (p : Int) % N := Int.tmod_eq_emod_of_nonneg (by omega)
    have t2 : ((p : Int) * 7 + 3).tmod N = ((p : Int) * 7 + 3) % N := Int.tmod_eq_emod_of_nonneg (by omega)
    have m0 : 0 ≤ (p : Int) % N := Int.emod_nonneg _ (by omega)
    have m1 : (p : Int) % N < N := Int.emod_lt_of_pos _ hN0
    have m2 : ((p : Int) % N).toNat = p % N := by rw [show (p : Int) % N = ((p % N : Nat) : Int) from rfl]; rfl
    have m3 : 0 ≤ ((p : Int) * 7 + 3) % N := Int.emod_nonneg _ (by omega)
    have m4 : ((p : Int) * 7 + 3) % N < N := Int.emod_lt_of_pos _ hN0
    have m5 : (((p : Int) * 7 + 3) % N).toNat = (p * 7 + 3) % N := by rw [show ((p : Int) * 7 + 3) % N = (((p * 7 + 3) % N : Nat) : Int) from rfl]; rfl
    have t3 : (p : Int).tdiv N = ((p / N : Nat) : Int) := by rw [Int.tdiv_eq_ediv_of_nonneg (by omega)]; rfl
    generalize hD : p / N = D at t3 hdv
    have g10 : IntKind.i64.wrap ((D : Int) * 53) = (D : Int) * 53 := by rw [IntKind.wrap_i64]; omega
    have g11 : IntKind.i64.wrap ((B1 : Int) * 131 + (B2 : Int) * 1117 + (p : Int) * 29 + (D : Int) * 53) = (B1 : Int) * 131 + (B2 : Int) * 1117 + (p : Int) * 29 + (D : Int) * 53 := by rw [IntKind.wrap_i64]; omega
    clear hi1 hi2
    go_quiet (fail)
    have hXb : 0 ≤ (B1 : Int) * 131 + (B2 : Int) * 1117 + (p : Int) * 29 + (D : Int) * 53 ∧ (B1 : Int) * 131 + (B2 : Int) * 1117 + (p : Int) * 29 + (D : Int) * 53 < 1000000000000 := by omega
    generalize (B1 : Int) * 131 + (B2 : Int) * 1117 + (p : Int) * 29 + (D : Int) * 53 = XI at *
    obtain ⟨X, rfl⟩ : ∃ X : Nat, XI = X := ⟨XI.toNat, by omega⟩
    obtain ⟨hX0, hX1⟩ := hXb
    obtain ⟨Y, hY, hYb⟩ := xor_i64 X (by omega)
    have hy0 : 0 ≤ (Y : Int) % n := Int.emod_nonneg _ (by omega)
    have hy1 : (Y : Int) % n < n := Int.emod_lt_of_pos _ (by omega)
    have HF : Hid (PickP r p n w (.returned (.int .i64 ((Y : Int) % n))) (W.drewN nq)) := ⟨_, rfl, hy0, fun _ => hy1, fun h => by omega, HR2.out, ⟨HG.out.os, HG.out.tape, HG.out.output, HG.out.size, HG.out.block⟩⟩
    clear g1 g2 g3 g4 g5 g6 g7 g8 g9 g10 g11 t1 t2 t3 m0 m1 m2 m3 m4 m5 hy0 hy1
    go_wp2_with fail
    go_ret
    exact HF.out

theorem gtrans {w w1 w2 : World} {row : Option Nat} (h : w.grownBy w1 row) (k : w1.grownBy w2 row) : w.grownBy w2 row :=
  ⟨k.os.trans h.os, k.tape.trans h.tape, k.output.trans h.output, Nat.le_trans h.size k.size, fun i hi hne => (k.block i (Nat.lt_of_lt_of_le hi h.size) hne).trans (h.block i hi hne)⟩
theorem gext {w w' : World} {row : Option Nat} (h : Ext w w') : w.grownBy w' row := ⟨h.os, h.tape, h.output, h.size, fun i hi _ => h.block i hi⟩
def OfP (r p : Nat) (ss : List ByteArray) (w : World) (e : Ending) (w' : World) : Prop := ∃ s, s ∈ ss ∧ e = .returned (.string s) ∧ Rdr w' r (p + 1) ∧ w.grownBy w' (some r)
set_option maxRecDepth 100000 in
set_option maxHeartbeats 1000000 in
theorem of_c (r p : Nat) (A : Option Addr) (c : Nat) (ss : List ByteArray) (w : World) (h : Rdr w r p) (hp : p < 1000000000) (hr : Rd w A c ss) (h0 : 0 < ss.length) (hl : ss.length ≤ 1000) (hA : ∀ b off, A = some ⟨b, off, none⟩ → b ≠ r) :
    Calls Tryd.prog 108 #[.pointer (some ⟨r, 0, none⟩), .slice A ss.length c] w (OfP r p ss w) := by
  have HP := Lib.hid (pick_c r p ss.length w h hp ⟨by omega, by omega⟩)
  have HR := Lib.hid hr; have HA := Lib.hid hA
  clear hr hA h
  go_enter Tryd.func108, Tryd.ntmps108
  go_wp2_with fail
  refine HP.out.mono ?_
  rintro e w1 ⟨v, rfl, hv0, hv1, -, hr1, hg1⟩
  have hvl := hv1 (by omega)
  obtain ⟨k, rfl⟩ : ∃ k : Nat, v = k := ⟨v.toNat, by omega⟩
  have hk : k < ss.length := by omega
  have hR1 := HR.out.grown hg1 (fun b off e h => HA.out b off e (Option.some.inj h))
  obtain ⟨b, off, rfl, hbl, x0⟩ := str_at hR1 k hk
  have HF : Hid (OfP r p ss w (.returned (.string ss[k])) w1) := ⟨_, List.getElem_mem hk, rfl, hr1, hg1⟩
  clear hv1 hr1 hg1 hR1 HP
  go_wp2_with fail
  go_ret
  exact HF.out
end Go.Proofs.YtjhbbgeebobcpaaDoor
namespace Go.Proofs.YtjhbbgeebobcpaaDoor
open Go.RowKit
set_option linter.unusedVariables false

theorem rd_new {α : Type} [Flat α] (w : World) (l : List α) (cs : Array Value) (ty : TypeId) (h : cs.toList = flat l) (hl : l.length ≤ 1000) (hok : ∀ x ∈ l, Flat.okE x) : Rd (w.alloc (.cells cs ty)) (some ⟨w.heap.size, 0, none⟩) l.length l := by
  refine ⟨Nat.le_refl _, by unfold maxLen; omega, fun _ => ⟨w.heap.size, 0, rfl, fun j v hv => ?_⟩, hok⟩
  rw [← h, Array.getElem?_toList] at hv
  have h9 := World.alloc_heap_new w (.cells cs ty)
  unfold World.cell?
  simp only [h9, Nat.zero_add]
  exact hv
def letters : List ByteArray := [⟨#[97]⟩, ⟨#[98]⟩, ⟨#[99]⟩, ⟨#[100]⟩]
def spoilt : List ByteArray := [⟨#[101]⟩, ⟨#[32]⟩, ⟨#[97, 97, 97, 97]⟩, ⟨#[39]⟩]

theorem letters_ok : ∀ x ∈ letters, x.size = 1 := by intro x hx; simp only [letters, List.mem_cons, List.not_mem_nil, or_false] at hx; rcases hx with rfl | rfl | rfl | rfl <;> rfl
theorem spoilt_ok : ∀ x ∈ spoilt, x.size ≤ 4 := by intro x hx; simp only [spoilt, List.mem_cons, List.not_mem_nil, or_false] at hx; rcases hx with rfl | rfl | rfl | rfl <;> decide
theorem small_ok {l : List ByteArray} (h : ∀ x ∈ l, x.size ≤ 4) : ∀ x ∈ l, Flat.okE x := fun x hx => Nat.le_trans (h x hx) (by decide)
def IdP (r p : Nat) (w : World) (e : Ending) (w' : World) : Prop := ∃ v : Int, e = .returned (.int .i64 v) ∧ isMade v = true ∧ Rdr w' r (p + 2) ∧ w.grownBy w' (some r)
set_option maxRecDepth 100000 in
theorem id_d (r p : Nat) (w : World) (h : Rdr w r p) (hp : p < 999999000) :
    Calls Tryd.prog 88 #[.pointer (some ⟨r, 0, none⟩)] w (IdP r p w) := by
  have HP := Lib.hid (pick_c r p 3 w h (by omega) ⟨by omega, by omega⟩)
  clear h
  go_enter Tryd.func88, Tryd.ntmps88
  go_wp2_with fail
  refine HP.out.mono ?_
  rintro e w1 ⟨v, rfl, hv0, hv1, -, hr1, hg1⟩
  have hvl := hv1 (by omega)
  have HP2 := Lib.hid (pick_c r (p + 1) 4 w1 hr1 (by omega) ⟨by omega, by omega⟩)
  have HG1 := Lib.hid hg1
  clear hv1 hr1 hg1 HP
  go_wp2_with fail
  refine HP2.out.mono ?_
  rintro e w2 ⟨u, rfl, hu0, hu1, -, hr2, hg2⟩
  have hul := hu1 (by omega)
  have HF : Hid (IdP r p w (.returned (.int .i64 (10 * (1 + v) + 1 + u))) w2) := ⟨_, rfl, by rw [isMade_iff]; omega, hr2, gtrans HG1.out hg2⟩
  clear hu1 hr2 hg2 HP2
  go_wp2_with fail
  go_ret
  exact HF.out

def TextP (r p : Nat) (w : World) (e : Ending) (w' : World) : Prop := ∃ (s : ByteArray) (p' : Nat), e = .returned (.string s) ∧ s.size ≤ 7 ∧ p ≤ p' ∧ p' ≤ p + 6 ∧ Rdr w' r p' ∧ w.grownBy w' (some r)
set_option maxRecDepth 100000 in
set_option maxHeartbeats 1000000 in
theorem text_d (r p : Nat) (w : World) (h : Rdr w r p) (hp : p < 999999000) :
    Calls Tryd.prog 89 #[.pointer (some ⟨r, 0, none⟩)] w (TextP r p w) := by
  have HP := Lib.hid (pick_c r p 4 w h (by omega) ⟨by omega, by omega⟩)
  clear h
  go_enter Tryd.func89, Tryd.ntmps89
  go_wp2_with fail
  refine HP.out.mono ?_
  rintro e w1 ⟨v, rfl, hv0, hv1, -, hr1, hg1⟩
  have hvl := hv1 (by omega)
  obtain ⟨m0, rfl⟩ : ∃ k : Nat, v = k := ⟨v.toNat, by omega⟩
  have HR1 := Lib.hid hr1; have HG1 := Lib.hid hg1
  clear hv1 hr1 hg1 HP
  go_wp2_with fail
  go_loopg [3, 4] m0 (fun gk s n wr => ∃ (m q : Nat) (t : ByteArray), Hid (gk = m) ∧ n = .int .i64 m ∧ s = .string t ∧ m ≤ 3 ∧ t.size ≤ 3 - m ∧ p + 1 ≤ q ∧ q ≤ p + 4 - m ∧ Hid (Rdr wr r q) ∧ Hid (w.grownBy wr (some r)))
  case atStart => exact ⟨m0, p + 1, ⟨#[]⟩, rfl, rfl, rfl, by omega, by simp [ByteArray.size], by omega, by omega, HR1.out, HG1.out⟩
  case round =>
    obtain ⟨m, q, t, HK, rfl, rfl, hm, ht, hq0, hq1, HR, HG⟩ := hrel
    by_cases hm0 : 0 < m
    · have hnew := rd_new (α := ByteArray) wr letters #[.string ⟨#[97]⟩, .string ⟨#[98]⟩, .string ⟨#[99]⟩, .string ⟨#[100]⟩] 9 rfl (by decide) (small_ok (fun x hx => by rw [letters_ok x hx]; omega))
      have hO := of_c r q (some ⟨wr.heap.size, 0, none⟩) 4 letters _ (HR.out.ext ((Below.refl _ _).alloc (Nat.le_refl _) _)) (by omega) hnew (by decide) (by decide) (fun b off e => by injection e with e; injection e with e; have := HR.out.lt; omega)
      have HO := Lib.hid hO
      clear hnew hO
      go_wp2_with fail
      refine HO.out.mono ?_
      rintro e w2 ⟨s, hs, rfl, hr2, hg2⟩
      have hs1 := letters_ok s hs
      have HR2 := Lib.hid hr2; have HG2 := Lib.hid (gtrans (HG.out) (gtrans (galloc (grown_refl wr (some r)) _) hg2))
      clear hr2 hg2 hs HO
      go_wp2_with fail
      go_roundg (m - 1)
      case measure => have := HK.out; omega
      case rel =>
        refine ⟨m - 1, q + 1, t ++ s, rfl, ?_, rfl, by omega, by rw [ByteArray.size_append]; omega, by omega, by omega, HR2.out, HG2.out⟩
        rw [show ((m : Int) - 1) = ((m - 1 : Nat) : Int) by omega]
    · have HP3 := Lib.hid (pick_c r q 40 wr HR.out (by omega) ⟨by omega, by omega⟩)
      have hmz : ¬ (0 : Int) < m := by omega
      go_wp2_with fail
      refine HP3.out.mono ?_
      rintro e w3 ⟨v, rfl, hv0, hv1, -, hr3, hg3⟩
      have HG3 := Lib.hid (gtrans HG.out hg3)
      by_cases hv : v = 0
      · have hv' : (v == 0) = true := by simp [hv]
        have hnew := rd_new (α := ByteArray) w3 spoilt #[.string ⟨#[101]⟩, .string ⟨#[32]⟩, .string ⟨#[97, 97, 97, 97]⟩, .string ⟨#[39]⟩] 9 rfl (by decide) (small_ok spoilt_ok)
        have HO := Lib.hid (of_c r (q + 1) (some ⟨w3.heap.size, 0, none⟩) 4 spoilt _ (hr3.ext ((Below.refl _ _).alloc (Nat.le_refl _) _)) (by omega) hnew (by decide) (by decide) (fun b off e => by injection e with e; injection e with e; have := hr3.lt; omega))
        clear hv hv1 hnew hr3 hg3
        go_wp2_with fail
        refine HO.out.mono ?_
        rintro e w4 ⟨s, hs, rfl, hr4, hg4⟩
        have hs1 := spoilt_ok s hs
        have HF : Hid (TextP r p w (.returned (.string (t ++ s))) w4) := ⟨_, q + 2, rfl, by rw [ByteArray.size_append]; omega, by omega, by omega, hr4, gtrans HG3.out (gtrans (galloc (grown_refl w3 (some r)) _) hg4)⟩
        clear hr4 hg4 hs HO
        go_wp2_with fail
        go_ret
        exact HF.out
      · have hv' : (v == 0) = false := by simp [hv]
        have HF : Hid (TextP r p w (.returned (.string t)) w3) := ⟨_, q + 1, rfl, by omega, by omega, by omega, hr3, HG3.out⟩
        clear hv hv1 hr3 hg3
        go_wp2_with fail
        go_ret
        exact HF.out
end Go.Proofs.YtjhbbgeebobcpaaDoor
