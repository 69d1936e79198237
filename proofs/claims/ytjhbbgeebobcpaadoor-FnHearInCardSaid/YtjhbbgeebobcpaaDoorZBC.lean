/- Walk of DrawClientHear. .. Plain laws: what hearing makes of a client. -/
import Derived.Test.YtjhbbgeebobcpaaDoorZBB
import Derived.Deep.DeepCutAuto
import Derived.Deep.CutBlock
import Derived.Test.YtjhbbgeebobcpaaDoorZAL
import Derived.Test.YtjhbbgeebobcpaaDoorZAM
namespace Go.Proofs.YtjhbbgeebobcpaaDoor
open Go.RowKit Go.Lib
set_option linter.unusedVariables false
set_option linter.unusedSimpArgs false
def HearB (w : World) (r wb K : Nat) (wx : World) : Prop :=
 ∃ (log : List Entry) (L : Option Addr) (ln : Nat) (safe : Int) (up : Bool) (C : Option Addr) (cc : Nat) (xs : List RC) (cls : List Client) (N : Option Addr) (nl nc : Nat),
  wx.heap[wb]? = some (.cells #[.slice L log.length ln, .int .i64 safe, .bool up, .slice C xs.length cc, .slice N nl nc] 93 (0, 0)) ∧ Dw wx w.heap.size log L ln safe C cc xs cls ∧ (∃ q, q ≤ K ∧ Rdr wx r q) ∧ Ext w wx ∧ wx.heap[w.heap.size]? = some (.cells #[.int .i64 0, .int .i64 0, .slice none 0 0, .slice none 0 0, .int .i64 0, .int .i64 0] 30 (0, 0))
theorem HearB.mono {w wx : World} {r wb K K' : Nat} (h : HearB w r wb K wx) (hk : K ≤ K') : HearB w r wb K' wx := by
 obtain ⟨log, L, ln, safe, up, C, cc, xs, cls, N, nl, nc, hb, hd, ⟨q, hq, hR⟩, hE, hz⟩ := h
 exact ⟨log, L, ln, safe, up, C, cc, xs, cls, N, nl, nc, hb, hd, ⟨q, by omega, hR⟩, hE, hz⟩
def HB2 (w : World) (r wb q : Nat) (c : Client) (cb : Nat) (wx : World) : Prop :=
 ∃ (log : List Entry) (L : Option Addr) (ln : Nat) (safe : Int) (up : Bool) (C : Option Addr) (cc xn : Nat) (N : Option Addr) (nl nc : Nat) (x : RC),
  wx.heap[wb]? = some (.cells #[.slice L log.length ln, .int .i64 safe, .bool up, .slice C xn cc, .slice N nl nc] 93 (0, 0)) ∧ RdT 44 wx L ln log ∧ log.length ≤ 40 ∧ (∀ e ∈ log, OpW e.op) ∧ RcO wx w.heap.size x c ∧ wx.heap[cb]? = some (.cells #[.int .i64 x.who, .int .i64 x.seen, .slice x.b x.bl x.bn, .slice x.q x.ql x.qn, .int .i64 x.done, .int .i64 x.made] 30 (0, 0)) ∧ wx.heap[w.heap.size]? = some (.cells #[.int .i64 0, .int .i64 0, .slice none 0 0, .slice none 0 0, .int .i64 0, .int .i64 0] 30 (0, 0)) ∧ w.heap.size < cb ∧ r < cb ∧ Rdr wx r q ∧ Ext w wx
theorem RdT.keepR {α : Type} [Flat α] {e : TypeId} {w w' : World} {A : Option Addr} {c : Nat} {l : List α} (h : RdT e w A c l) (hk : KeepRE w w') (he : e = 47 ∨ e = 44) : RdT e w' A c l :=
 h.blk fun _ bb _ cs m _ h1 => (hk bb cs e m h1 he).trans h1.symm
theorem RcO.far {W W' : World} {base gl : Nat} {x : RC} {c : Client} (h : RcO W base x c) (hT : Turn (fun k => k = gl) W W') {cs : Array Value} {m : Nat × Nat} (hg : W.heap[gl]? = some (.cells cs 44 m)) (hne : ∀ k, (Value.slice x.q x.ql x.qn).ownBlock = some k → k ≠ gl) : RcO W' base x c := by
 obtain ⟨b, bn, q, qn, rfl, r1, r2⟩ := h
 refine ⟨b, bn, q, qn, rfl, r1.turn hT (fun k hk e => ?_), r2.turn hT (fun k hk e => hne k hk e)⟩
 obtain ⟨c1, m1, h1⟩ := r1.ty k hk
 have e' : k = gl := e
 subst e'
 rw [hg] at h1
 injection h1 with h1; injection h1 with _ h1
 exact absurd h1 (by decide)
def DHearP (w : World) (x : Ending) (w' : World) : Prop :=
 ∃ (c : Client) (v : Value) (frm : Int) (l : List Entry) (A : Option Addr) (n : Nat), x = .returned (.tuple #[v, .int .i64 frm, .slice A l.length n]) ∧ CV w' c v ∧ CW c ∧ Rd w' A n l ∧ (∀ e ∈ l, OpW e.op) ∧ l.length ≤ 40 ∧ 0 ≤ frm ∧ frm ≤ 41 ∧ Ext w w'
theorem dw_lower {W : World} {base base' : Nat} {log : List Entry} {L : Option Addr} {ln : Nat} {safe : Int} {C : Option Addr} {cc : Nat} {xs : List RC} {cls : List Client} (h : Dw W base log L ln safe C cc xs cls) (hb : base' ≤ base) : Dw W base' log L ln safe C cc xs cls :=
 ⟨h.flog, h.flen, h.fops, h.fs0, h.fs1, h.fcli, h.fpos, h.fthr, h.fcls.imp (fun x c h => h.lower hb), h.fok⟩
set_option maxRecDepth 100000 in
set_option maxHeartbeats 1600000 in
theorem drawHear_d (A : Option Addr) (n : Nat) (bs : List UInt8) (w : World) (hr : Rd w A n bs) (hA : ∀ b off, A = some ⟨b, off, none⟩ → b < w.heap.size) :
  Calls Tryd.prog 28 #[.slice A bs.length n] w (DHearP w) := by
 have hE1 : Ext w (w.alloc oC0) := (Below.refl _ _).alloc (Nat.le_refl _) _
 have HZ0 := Lib.hid (World.alloc_heap_new w oC0); have HE0 := Lib.hid hE1
 have hz1 := alloc_sz w oC0
 have HO := Lib.hid (open_d A n bs (w.alloc oC0) (hr.ext hE1) (fun b off e => by have := hA b off e; omega))
 clear hE1 hr hA
 go_enter Tryd.func28, Tryd.ntmps28
 go_wp2_with fail
 generalize (w.alloc oC0) = W0 at *
 refine HO.out.mono ?_
 rintro e w1 ⟨rfl, hr1, hb1⟩
 have hs1 := hb1.size
 rw [hz1] at hr1
 obtain ⟨r, hr⟩ : ∃ r, r = w.heap.size + 1 := ⟨_, rfl⟩
 rw [← hr] at hr1
 have HC := Lib.hid (world_d r 0 w1 hr1 (by omega))
 have HE1 := Lib.hid (HE0.out.trans (hb1.mono (by omega))); have HZ1 := Lib.hid ((hb1.block _ (blk_lt HZ0.out)).trans HZ0.out)
 have hrw : w.heap.size < r := by omega
 have hrl1 := hr1.lt
 clear hr1 hb1 HO
 go_wp2_with fail
 rw [← hr]
 clear hr
 refine HC.out.mono ?_
 rintro e w2 ⟨log, L, ln, safe, up, C, cc, xs, cls, N, nl, nc, q, rfl, hd, -, hq, hR, hg⟩
 have hs2 := hg.size
 have hE3 : Ext w2 (w2.alloc (.cells #[.slice L log.length ln, .int .i64 safe, .bool up, .slice C xs.length cc, .slice N nl nc] 93)) := (Below.refl _ _).alloc (Nat.le_refl _) _
 have hz3 := alloc_sz w2 (.cells #[.slice L log.length ln, .int .i64 safe, .bool up, .slice C xs.length cc, .slice N nl nc] 93)
 have hE2 : Ext w w2 := ext_grown HE1.out hg HE1.out.size (fun k e => by injection e with e; omega)
 have hz2 := (hg.block _ (blk_lt HZ1.out) (fun e => by injection e with e; omega)).trans HZ1.out
 have HB : Hid (HearB w r w2.heap.size 5001 (w2.alloc (.cells #[.slice L log.length ln, .int .i64 safe, .bool up, .slice C xs.length cc, .slice N nl nc] 93))) := ⟨log, L, ln, safe, up, C, cc, xs, cls, N, nl, nc, World.alloc_heap_new w2 (.cells #[.slice L log.length ln, .int .i64 safe, .bool up, .slice C xs.length cc, .slice N nl nc] 93), (dw_lower hd (by have := HE1.out.size; omega)).keep (KeepT.ext hE3), ⟨q, by omega, hR.ext hE3⟩, hE2.trans (hE3.mono hE2.size), (hE3.block _ (blk_lt hz2)).trans hz2⟩
 have hwb : w.heap.size < w2.heap.size := blk_lt hz2
 have hrb : r < w2.heap.size := hR.lt
 clear hd hR hg hE3 hE2 hz2 HC HE1 HZ1 HZ0 HE0
 go_upto_block 0 with fail
 generalize (w2.alloc (.cells #[.slice L log.length ln, .int .i64 safe, .bool up, .slice C xs.length cc, .slice N nl nc] 93)) = W3 at *
 go_cut [7] (fun s wx => HearB w r w2.heap.size 25005 wx)
 case first =>
  go_wp2_with fail
  go_loopg [7] 4 (fun gk i wr => ∃ k : Nat, k ≤ 4 ∧ Hid (gk = 4 - k) ∧ i = .int .i64 k ∧ Hid (HearB w r w2.heap.size (5001 * (k + 1)) wr))
  case atStart => exact ⟨0, by omega, rfl, rfl, HB.out⟩
  case round =>
   obtain ⟨k, hk, HK, rfl, HH⟩ := hrel
   have HEND : Hid (HearB w r w2.heap.size 25005 wr) := HH.out.mono (by omega)
   by_cases hlt : k < 4
   ·obtain ⟨log, L, ln, safe, up, C, cc, xs, cls, N, nl, nc, hb, hd, ⟨q, hq, hR⟩, hE, hz⟩ := HH.out
    have hki : (k : Int) < 4 := by omega
    go_wp2_with fail
    refine (pick_c r q 8 _ hR (by omega) ⟨by omega, by omega⟩).mono ?_
    rintro r9 w5 ⟨v, rfl, hv0, -, -, hR5, hg5⟩
    have hk5 : KeepT wr w5 := by
     obtain ⟨A, c9, bs, hbk, -⟩ := hR
     exact KeepT.grown hg5 hbk (by decide) (by decide) (by decide) (by decide)
    have hb5 := (hg5.block _ (blk_lt hb) (fun e => by injection e with e; omega)).trans hb
    have hz5 := (hg5.block _ (blk_lt hz) (fun e => by injection e with e; omega)).trans hz
    have hE5 : Ext w w5 := ext_grown hE hg5 hE.size (fun k e => by injection e with e; omega)
    have hd5 := hd.keep hk5
    have HH5 : Hid (HearB w r w2.heap.size (5001 * (k + 1) + 1) w5) := ⟨log, L, ln, safe, up, C, cc, xs, cls, N, nl, nc, hb5, hd5, ⟨q + 1, by omega, hR5⟩, hE5, hz5⟩
    have HEND5 : Hid (HearB w r w2.heap.size 25005 w5) := HH5.out.mono (by omega)
    have HB5 := Lib.hid hb5; have HZ5 := Lib.hid hz5; have HE5 := Lib.hid hE5; have HR5 := Lib.hid hR5
    clear hb hd hR hE hz hk5 hb5 hz5 hE5 hd5 hR5 hg5 HEND HH
    by_cases hv : 0 < v
    ·obtain ⟨b0, b1, b2, b3, b4, bf⟩ := five_cells HB5.out
     by_cases hs : safe = 0
     ·have hs' : (safe == 0) = true := by simp [hs]
      clear hs
      have HC := Lib.hid (world_d r (q + 1) w5 HR5.out (by omega))
      go_wp2_with fail
      refine HC.out.mono ?_
      clear b0 b1 b2 b3 b4 bf
      have HB5x := HB5; have HZ5x := HZ5; have HE5x := HE5
      rintro e w6 ⟨log2, L2, ln2, safe2, up2, C2, cc2, xs2, cls2, N2, nl2, nc2, q2, rfl, hd, hq20, hq2, hR, hg⟩
      have hb6 := (hg.block _ (blk_lt HB5.out) (fun e => by injection e with e; omega)).trans HB5.out
      have hz6 := (hg.block _ (blk_lt HZ5.out) (fun e => by injection e with e; omega)).trans HZ5.out
      have hE6 : Ext w w6 := ext_grown HE5.out hg HE5.out.size (fun k e => by injection e with e; omega)
      have hp := put5_at (.slice L2 log2.length ln2) (.int .i64 safe2) (.bool up2) (.slice C2 xs2.length cc2) (.slice N2 nl2 nc2) hb6
      have hg7 : w6.grownBy (put5 w6 w2.heap.size (.slice L2 log2.length ln2) (.int .i64 safe2) (.bool up2) (.slice C2 xs2.length cc2) (.slice N2 nl2 nc2)) (some w2.heap.size) := gset (gset (gset (gset (gset_any _ _ _ _) _ _) _ _) _ _) _ _
      have hk7 : KeepT w6 (put5 w6 w2.heap.size (.slice L2 log2.length ln2) (.int .i64 safe2) (.bool up2) (.slice C2 xs2.length cc2) (.slice N2 nl2 nc2)) := KeepT.grown hg7 hb6 (by decide) (by decide) (by decide) (by decide)
      have HF : Hid (HearB w r w2.heap.size (5001 * (k + 1 + 1)) (put5 w6 w2.heap.size (.slice L2 log2.length ln2) (.int .i64 safe2) (.bool up2) (.slice C2 xs2.length cc2) (.slice N2 nl2 nc2))) := ⟨log2, L2, ln2, safe2, up2, C2, cc2, xs2, cls2, N2, nl2, nc2, hp, (dw_lower hd HE5.out.size).keep hk7, ⟨q2, by omega, hR.other hg7 hrb⟩, ext_grown hE6 hg7 hE6.size (fun k e => by injection e with e; omega), (hg7.block _ (blk_lt hz6) (fun e => by injection e with e; omega)).trans hz6⟩
      obtain ⟨b0, b1, b2, b3, b4, bf⟩ := five_cells hb6
      clear hb6 hz6 hE6 hp hg7 hk7 hd hR hg HC
      go_wp2_with fail
      go_roundg (4 - (k + 1))
      case measure => have := HK.out; omega
      case rel => exact ⟨k + 1, by omega, rfl, by go_num, HF.out⟩
     ·have hs' : (safe == 0) = false := by simp [hs]
      clear hs
      go_wp2_with fail
      go_meet
      exact HEND5.out
    ·have hv' : ¬ (0 < v) := hv
     go_wp2_with fail
     go_meet
     exact HEND5.out
   ·have hki : ¬ ((k : Int) < 4) := by omega
    go_wp2_with fail
    go_meet
    exact HEND.out
 case rest =>
  clear HB
  obtain ⟨log, L, ln, safe, up, C, cc, xs, cls, N, nl, nc, hb, hd, ⟨q, hq, hR⟩, hE, hz⟩ := hcut
  obtain ⟨g, go, rfl, -⟩ := rc_at hd.fcli.1 0 hd.fpos
  have hxp := hd.fpos; have hx3 := hd.fthr
  have hEd : Ext wc wc.drew := (Below.refl _ _).drew
  obtain ⟨w3, hw3⟩ : ∃ W, W = wc.drew := ⟨_, rfl⟩
  have HD : Hid (Dw w3 w.heap.size log L ln safe (some ⟨g, go, none⟩) cc xs cls) := by rw [hw3]; exact hd.keep (KeepT.ext hEd)
  have HB3 : Hid (w3.heap[w2.heap.size]? = some (.cells #[.slice L log.length ln, .int .i64 safe, .bool up, .slice (some ⟨g, go, none⟩) xs.length cc, .slice N nl nc] 93 (0, 0))) := by rw [hw3]; exact hb
  have HZ3 : Hid (w3.heap[w.heap.size]? = some (.cells cC0 30 (0, 0))) := by rw [hw3]; exact hz
  have HE3 : Hid (Ext w w3) := by rw [hw3]; exact hE.trans (hEd.mono hE.size)
  have HR3 : Hid (Rdr w3 r q) := by rw [hw3]; exact hR.ext hEd
  have HD3 := HD
  have HS : Hid (w3.cell? ⟨w2.heap.size, 3, none⟩ = some (.slice (some ⟨g, go, none⟩) xs.length cc) ∧ Rd w3 (some ⟨g, go, none⟩) cc xs) := Lib.hid ⟨(five_cells HB3.out).2.2.2.1, HD.out.fcli.1⟩
  have hs3 : w2.heap.size < w3.heap.size := blk_lt HB3.out
  obtain ⟨b0, b1, b2, b3, b4, bf⟩ := five_cells hb
  clear hEd hd hR hE hz hb
  go_upto_region 7 with fail
  clear b0 b1 b2 b3 b4 bf
  go_cut [8] (fun s wx => ∃ (c : Client) (cb : Nat), CD c ∧ s = .pointer (some ⟨cb, 0, none⟩) ∧ HB2 w r w2.heap.size (q + 1) c cb wx)
  case first =>
   refine wp_region_B (fun w' => w'.cell? ⟨w2.heap.size, 3, none⟩ = some (.slice (some ⟨g, go, none⟩) xs.length cc) ∧ Rd w' (some ⟨g, go, none⟩) cc xs) 10 (by kernel_rfl) ?_
   rw [← hw3]
   clear hw3
   refine WB.take (i := 0) (v := ?_) rfl (by kernel_rfl) (by kernel_rfl) (by kernel_rfl) (by kernel_rfl) (fun _ _ _ h => h) HS.out (Or.inl ⟨by rfl, ?_⟩) ?_
   rotate_left
   ·(rintro w ⟨s0, s1⟩; go_simp; try with_reducible rfl)
   try simp only [Act.put, List.setIfInBounds_toArray, List.set_cons_zero, List.set_cons_succ]
   refine WB.take (i := 1) (v := ?_) rfl (by kernel_rfl) (by kernel_rfl) (by kernel_rfl) (by kernel_rfl) (fun _ _ _ h => h) HS.out (Or.inl ⟨by rfl, ?_⟩) ?_
   rotate_left
   ·(rintro w ⟨s0, s1⟩; go_simp; try with_reducible rfl)
   try simp only [Act.put, List.setIfInBounds_toArray, List.set_cons_zero, List.set_cons_succ]
   refine WB.take (i := 2) (v := ?_) rfl (by kernel_rfl) (by kernel_rfl) (by kernel_rfl) (by kernel_rfl) (fun _ _ _ h => h) HS.out (Or.inl ⟨by rfl, ?_⟩) ?_
   rotate_left
   ·(rintro w ⟨s0, s1⟩; go_simp; try with_reducible rfl)
   try simp only [Act.put, List.setIfInBounds_toArray, List.set_cons_zero, List.set_cons_succ]
   refine WB.take (i := 3) (v := ?_) rfl (by kernel_rfl) (by kernel_rfl) (by kernel_rfl) (by kernel_rfl) (fun _ _ _ h => h) HS.out (Or.inl ⟨by rfl, ?_⟩) ?_
   rotate_left
   ·(rintro w ⟨s0, s1⟩; go_simp; try with_reducible rfl)
   try simp only [Act.put, List.setIfInBounds_toArray, List.set_cons_zero, List.set_cons_succ]
   refine WB.take (i := 4) (v := ?_) rfl (by kernel_rfl) (by kernel_rfl) (by kernel_rfl) (by kernel_rfl) (fun _ _ _ h => h) HS.out (Or.inl ⟨by rfl, ?_⟩) ?_
   rotate_left
   ·(rintro w ⟨s0, s1⟩; go_simp; try with_reducible rfl)
   try simp only [Act.put, List.setIfInBounds_toArray, List.set_cons_zero, List.set_cons_succ]
   refine WB.take (i := 5) (v := ?_) rfl (by kernel_rfl) (by kernel_rfl) (by kernel_rfl) (by kernel_rfl) (fun _ _ _ h => h) HS.out (Or.inl ⟨by rfl, ?_⟩) ?_
   rotate_left
   ·(rintro w ⟨s0, s1⟩; go_simp; try with_reducible rfl)
   try simp only [Act.put, List.setIfInBounds_toArray, List.set_cons_zero, List.set_cons_succ]
   refine WB.two (i := 6) (j := 9) (by kernel_rfl) rfl rfl (fun K hK => ?_) (fun K hK => ?_)
   ·have HKK := Lib.hid hK
    clear hK
    go_simp
    refine (pick_c r q (xs.length : Int) _ HR3.out (by omega) ⟨by omega, by omega⟩).mono ?_
    rintro r9 w5 ⟨v, rfl, hv0, hv1, -, hR, hg⟩
    have hvb := hv1 (by omega)
    refine Exists.elim (⟨v.toNat, by omega⟩ : ∃ kk : Nat, v = kk) ?_
    intro kk hkk
    rw [hkk]
    have hkx : kk < xs.length := by omega
    have hki : (kk : Int) < xs.length := by omega
    have hkc : kk < cls.length := by have := HD.out.fcls.1; omega
    clear hv1 hkk hvb hv0
    have hk5 : KeepT w3 w5 := by
     obtain ⟨A, c, bs, hbk, -⟩ := HR3.out
     exact KeepT.grown hg hbk (by decide) (by decide) (by decide) (by decide)
    have HD5 := Lib.hid (HD3.out.keep hk5)
    have HB5 := Lib.hid ((hg.block _ (blk_lt HB3.out) (fun e => by injection e with e; omega)).trans HB3.out)
    have HZ5 := Lib.hid ((hg.block _ (blk_lt HZ3.out) (fun e => by injection e with e; omega)).trans HZ3.out)
    have HE5 := Lib.hid (ext_grown HE3.out hg HE3.out.size (fun k e => by injection e with e; omega)); have HR5 := Lib.hid hR
    have HS5 : Hid (w5.cell? ⟨w2.heap.size, 3, none⟩ = some (.slice (some ⟨g, go, none⟩) xs.length cc) ∧ Rd w5 (some ⟨g, go, none⟩) cc xs) := Lib.hid ⟨(five_cells HB5.out).2.2.2.1, HD5.out.fcli.1⟩
    refine HKK.out _ _ ⟨fun _ => HS5.out, ?_⟩
    clear HKK K hg hR hk5
    try simp only [Act.put, List.setIfInBounds_toArray, List.set_cons_zero, List.set_cons_succ]
    refine WB.takeP (i := 7) (v := ?_) rfl (by kernel_rfl) (by kernel_rfl) (by kernel_rfl) (by kernel_rfl) (fun _ _ _ h => h) HS5.out (Or.inl ⟨by rfl, ?_⟩) ?_
    rotate_left
    ·(rintro w -; go_simp; try with_reducible rfl)
    try simp only [Act.put, List.setIfInBounds_toArray, List.set_cons_zero, List.set_cons_succ]
    refine WB.take (i := 8) (v := ?_) rfl (by kernel_rfl) (by kernel_rfl) (by kernel_rfl) (by kernel_rfl) (fun _ _ _ h => h) HS5.out (Or.inl ⟨by rfl, ?_⟩) ?_
    rotate_left
    ·rintro w ⟨s0, s1⟩
     obtain ⟨xb, xo, he9, hbx9, x0, x1, x2, x3, x4, x5⟩ := rc_at s1 kk hkx
     injection he9 with he9; injection he9 with he91 he92; subst he91; subst he92
     go_simp
     try with_reducible rfl
    try simp only [Act.put, List.setIfInBounds_toArray, List.set_cons_zero, List.set_cons_succ]
    have hE6 : Ext w5 (w5.alloc oC0) := (Below.refl _ _).alloc (Nat.le_refl _) _
    have hs5 := HE5.out.size
    have HCB := Lib.hid (World.alloc_heap_new w5 oC0)
    have hrw5 := HR5.out.lt
    have hzw5 := blk_lt HZ5.out; have hbw5 := blk_lt HB5.out
    have HS6 : Hid ((w5.alloc oC0).cell? ⟨w2.heap.size, 3, none⟩ = some (.slice (some ⟨g, go, none⟩) xs.length cc) ∧ Rd (w5.alloc oC0) (some ⟨g, go, none⟩) cc xs) := Lib.hid ⟨(five_cells ((hE6.block _ (blk_lt HB5.out)).trans HB5.out)).2.2.2.1, HD5.out.fcli.1.ext hE6⟩
    refine WB.one (i := 9) (by kernel_rfl) rfl (fun K hK => ?_)
    have HKK := Lib.hid hK
    clear hK
    go_simp
    refine HKK.out _ _ ⟨fun _ => HS6.out, ?_⟩
    clear HKK K hE6 HS5
    try simp only [Act.put, List.setIfInBounds_toArray, List.set_cons_zero, List.set_cons_succ]
    have hE9 : Ext w5 (w5.alloc (oR xs[kk])) := (Below.refl _ _).alloc (Nat.le_refl _) _
    have HF : Hid (HB2 w r w2.heap.size (q + 1) cls[kk] w5.heap.size (w5.alloc (oR xs[kk]))) := ⟨log, L, ln, safe, up, (some ⟨g, go, none⟩), cc, xs.length, N, nl, nc, xs[kk], (hE9.block _ (blk_lt HB5.out)).trans HB5.out, HD5.out.flog.ext hE9, HD5.out.flen, HD5.out.fops, (HD5.out.fcls.2 kk hkx hkc).ext hE9, World.alloc_heap_new w5 (oR xs[kk]), (hE9.block _ (blk_lt HZ5.out)).trans HZ5.out, by omega, by omega, HR5.out.ext hE9, HE5.out.trans (hE9.mono HE5.out.size)⟩
    have HCD := Lib.hid (HD5.out.fok _ (List.getElem_mem hkc))
    clear hE9
    have z0 := (six_cells HCB.out).1
    have z1 := (six_cells HCB.out).2.1
    have z2 := (six_cells HCB.out).2.2.1
    have z3 := (six_cells HCB.out).2.2.2.1
    have z4 := (six_cells HCB.out).2.2.2.2.1
    have z5 := (six_cells HCB.out).2.2.2.2.2.1
    have zf := (six_cells HCB.out).2.2.2.2.2.2
    refine WB.one (i := 10) (by kernel_rfl) rfl (fun K hK => ?_)
    have HKK := Lib.hid hK
    clear hK
    go_simp
    refine HKK.out _ _ ⟨fun h => (no_late h (by kernel_rfl)).elim, ?_⟩
    clear HKK K z0 z1 z2 z3 z4 z5 zf
    refine WB.done (by kernel_rfl) ?_
    go_wp2_with fail
    go_meet
    exact ⟨cls[kk], w5.heap.size, HCD.out, rfl, HF.out⟩
   ·have HKK := Lib.hid hK
    clear hK
    have hE4 : Ext w3 (w3.alloc oC0) := (Below.refl _ _).alloc (Nat.le_refl _) _
    have HC4 := Lib.hid (World.alloc_heap_new w3 oC0)
    have HD4 := Lib.hid (HD.out.keep (KeepT.ext hE4)); have HB4 := Lib.hid ((hE4.block _ (blk_lt HB3.out)).trans HB3.out); have HZ4 := Lib.hid ((hE4.block _ (blk_lt HZ3.out)).trans HZ3.out)
    have HE4 := Lib.hid (HE3.out.trans (hE4.mono HE3.out.size)); have HR4 := Lib.hid (HR3.out.ext hE4)
    have hs34 := HE3.out.size
    have hrl3 := HR3.out.lt
    have hzl3 := blk_lt HZ3.out
    have HS4 : Hid ((w3.alloc oC0).cell? ⟨w2.heap.size, 3, none⟩ = some (.slice (some ⟨g, go, none⟩) xs.length cc) ∧ Rd (w3.alloc oC0) (some ⟨g, go, none⟩) cc xs) := Lib.hid ⟨(five_cells HB4.out).2.2.2.1, HD4.out.fcli.1⟩
    go_simp
    refine HKK.out _ _ ⟨fun _ => HS4.out, ?_⟩
    clear HKK K HS
    try simp only [Act.put, List.setIfInBounds_toArray, List.set_cons_zero, List.set_cons_succ]
    generalize (w3.alloc oC0) = w4 at *
    have hlc := blk_lt HC4.out
    refine WB.one (i := 6) (by kernel_rfl) rfl (fun K hK => ?_)
    have HKK := Lib.hid hK
    clear hK
    go_simp
    refine (pick_c r q (xs.length : Int) _ HR4.out (by omega) ⟨by omega, by omega⟩).mono ?_
    rintro r9 w5 ⟨v, rfl, hv0, hv1, -, hR, hg⟩
    have hvb := hv1 (by omega)
    refine Exists.elim (⟨v.toNat, by omega⟩ : ∃ kk : Nat, v = kk) ?_
    intro kk hkk
    rw [hkk]
    have hkx : kk < xs.length := by omega
    have hki : (kk : Int) < xs.length := by omega
    have hkc : kk < cls.length := by have := HD.out.fcls.1; omega
    clear hv1 hkk hvb hv0
    have hk5 : KeepT w4 w5 := by
     obtain ⟨A, c, bs, hbk, -⟩ := HR4.out
     exact KeepT.grown hg hbk (by decide) (by decide) (by decide) (by decide)
    have HD5 := Lib.hid (HD4.out.keep hk5)
    have HB5 := Lib.hid ((hg.block _ (blk_lt HB4.out) (fun e => by injection e with e; omega)).trans HB4.out)
    have HZ5 := Lib.hid ((hg.block _ (blk_lt HZ4.out) (fun e => by injection e with e; omega)).trans HZ4.out)
    have HE5 := Lib.hid (ext_grown HE4.out hg HE4.out.size (fun k e => by injection e with e; omega)); have HR5 := Lib.hid hR
    have HCB := Lib.hid ((hg.block _ hlc (fun e => by injection e with e; omega)).trans HC4.out)
    have HS5 : Hid (w5.cell? ⟨w2.heap.size, 3, none⟩ = some (.slice (some ⟨g, go, none⟩) xs.length cc) ∧ Rd w5 (some ⟨g, go, none⟩) cc xs) := Lib.hid ⟨(five_cells HB5.out).2.2.2.1, HD5.out.fcli.1⟩
    refine HKK.out _ _ ⟨fun _ => HS5.out, ?_⟩
    clear HKK K HS4 hg hR hk5 hE4
    try simp only [Act.put, List.setIfInBounds_toArray, List.set_cons_zero, List.set_cons_succ]
    refine WB.takeP (i := 7) (v := ?_) rfl (by kernel_rfl) (by kernel_rfl) (by kernel_rfl) (by kernel_rfl) (fun _ _ _ h => h) HS5.out (Or.inl ⟨by rfl, ?_⟩) ?_
    rotate_left
    ·(rintro w -; go_simp; try with_reducible rfl)
    try simp only [Act.put, List.setIfInBounds_toArray, List.set_cons_zero, List.set_cons_succ]
    refine WB.take (i := 8) (v := ?_) rfl (by kernel_rfl) (by kernel_rfl) (by kernel_rfl) (by kernel_rfl) (fun _ _ _ h => h) HS5.out (Or.inl ⟨by rfl, ?_⟩) ?_
    rotate_left
    ·rintro w ⟨s0, s1⟩
     obtain ⟨xb, xo, he9, hbx9, x0, x1, x2, x3, x4, x5⟩ := rc_at s1 kk hkx
     injection he9 with he9; injection he9 with he91 he92; subst he91; subst he92
     go_simp
     try with_reducible rfl
    try simp only [Act.put, List.setIfInBounds_toArray, List.set_cons_zero, List.set_cons_succ]
    have hp6 := put6_at (.int .i64 xs[kk].who) (.int .i64 xs[kk].seen) (.slice xs[kk].b xs[kk].bl xs[kk].bn) (.slice xs[kk].q xs[kk].ql xs[kk].qn) (.int .i64 xs[kk].done) (.int .i64 xs[kk].made) HCB.out
    have hg6 : w5.grownBy (put6 w5 w3.heap.size (.int .i64 xs[kk].who) (.int .i64 xs[kk].seen) (.slice xs[kk].b xs[kk].bl xs[kk].bn) (.slice xs[kk].q xs[kk].ql xs[kk].qn) (.int .i64 xs[kk].done) (.int .i64 xs[kk].made)) (some w3.heap.size) := gset (gset (gset (gset (gset (gset_any _ _ _ _) _ _) _ _) _ _) _ _) _ _
    have hk6 : KeepRE w5 (put6 w5 w3.heap.size (.int .i64 xs[kk].who) (.int .i64 xs[kk].seen) (.slice xs[kk].b xs[kk].bl xs[kk].bn) (.slice xs[kk].q xs[kk].ql xs[kk].qn) (.int .i64 xs[kk].done) (.int .i64 xs[kk].made)) := KeepRE.grown hg6 HCB.out (by decide) (by decide)
    have HF : Hid (HB2 w r w2.heap.size (q + 1) cls[kk] w3.heap.size (put6 w5 w3.heap.size (.int .i64 xs[kk].who) (.int .i64 xs[kk].seen) (.slice xs[kk].b xs[kk].bl xs[kk].bn) (.slice xs[kk].q xs[kk].ql xs[kk].qn) (.int .i64 xs[kk].done) (.int .i64 xs[kk].made))) := ⟨log, L, ln, safe, up, (some ⟨g, go, none⟩), cc, xs.length, N, nl, nc, xs[kk], (hg6.block _ (blk_lt HB5.out) (by intro e; injection e with e; omega)).trans HB5.out, HD5.out.flog.keepR hk6 (.inr rfl), HD5.out.flen, HD5.out.fops, (HD5.out.fcls.2 kk hkx hkc).keepR hk6, hp6, (hg6.block _ (blk_lt HZ5.out) (by intro e; injection e with e; omega)).trans HZ5.out, by omega, by omega, HR5.out.other hg6 (by omega), ext_grown HE5.out hg6 HE5.out.size (fun k e => by injection e with e; omega)⟩
    have HCD := Lib.hid (HD5.out.fok _ (List.getElem_mem hkc))
    clear hp6 hg6 hk6
    have z0 := (six_cells HCB.out).1
    have z1 := (six_cells HCB.out).2.1
    have z2 := (six_cells HCB.out).2.2.1
    have z3 := (six_cells HCB.out).2.2.2.1
    have z4 := (six_cells HCB.out).2.2.2.2.1
    have z5 := (six_cells HCB.out).2.2.2.2.2.1
    have zf := (six_cells HCB.out).2.2.2.2.2.2
    refine WB.one (i := 10) (by kernel_rfl) rfl (fun K hK => ?_)
    have HKK := Lib.hid hK
    clear hK
    go_simp
    refine HKK.out _ _ ⟨fun h => (no_late h (by kernel_rfl)).elim, ?_⟩
    clear HKK K z0 z1 z2 z3 z4 z5 zf
    refine WB.done (by kernel_rfl) ?_
    go_wp2_with fail
    go_meet
    exact ⟨cls[kk], w3.heap.size, HCD.out, rfl, HF.out⟩
  case rest =>
   clear HS HD HD3 HB3 HZ3 HE3 HR3 hs3 hw3
   obtain ⟨c, cb, hcd, rfl, log, L, ln, safe, up, C, cc, xn, N, nl, nc, x, hb, hl, hll, hop, hx, hcx, hz, hcw, hrc, hR, hE⟩ := hcut
   have hEd : Ext wc wc.drew := (Below.refl _ _).drew
   obtain ⟨w3, hw3⟩ : ∃ W, W = wc.drew := ⟨_, rfl⟩
   have HB3 : Hid (w3.heap[w2.heap.size]? = some (.cells #[.slice L log.length ln, .int .i64 safe, .bool up, .slice C xn cc, .slice N nl nc] 93 (0, 0))) := by rw [hw3]; exact hb
   have HL3 : Hid (RdT 44 w3 L ln log) := by rw [hw3]; exact hl.ext hEd
   have HX3 : Hid (RcO w3 w.heap.size x c) := by rw [hw3]; exact hx.ext hEd
   have HC3 : Hid (w3.heap[cb]? = some (.cells (cR x) 30 (0, 0))) := by rw [hw3]; exact hcx
   have HZ3 : Hid (w3.heap[w.heap.size]? = some (.cells cC0 30 (0, 0))) := by rw [hw3]; exact hz
   have HE3 : Hid (Ext w w3) := by rw [hw3]; exact hE.trans (hEd.mono hE.size)
   have HR3 : Hid (Rdr w3 r (q + 1)) := by rw [hw3]; exact hR.ext hEd
   have HCD := Lib.hid hcd; have HOP := Lib.hid hop
   have hxs : x.seen = c.seen := by obtain ⟨b, bn, qq, qn, he, -, -⟩ := hx; rw [he]
   have hxw : x.who = c.who := by obtain ⟨b, bn, qq, qn, he, -, -⟩ := hx; rw [he]
   have hse0 := hcd.2.2.2.1; have hse1 := hcd.2.2.2.2
   have HXS := Lib.hid hxs; have HXW := Lib.hid hxw
   have hxs0 : -100 ≤ x.seen := by omega
   have hxs1 : x.seen ≤ 100 := by omega
   have HS : Hid (w3.cell? ⟨cb, 1, none⟩ = some (.int .i64 x.seen) ∧ w3.cell? ⟨w2.heap.size, 0, none⟩ = some (.slice L log.length ln)) := Lib.hid ⟨(six_cells HC3.out).2.1, (five_cells HB3.out).1⟩
   clear hEd hb hl hx hcx hz hE hR hcd hop hxs hxw hse0 hse1
   go_upto_region 8 with fail
   refine wp_region_B (fun w' => w'.cell? ⟨cb, 1, none⟩ = some (.int .i64 x.seen) ∧ w'.cell? ⟨w2.heap.size, 0, none⟩ = some (.slice L log.length ln)) 11 (by kernel_rfl) ?_
   rw [← hw3]
   clear hw3
   refine WB.take (i := 0) (v := ?_) rfl (by kernel_rfl) (by kernel_rfl) (by kernel_rfl) (by kernel_rfl) (fun _ _ _ h => h) HS.out (Or.inl ⟨by rfl, ?_⟩) ?_
   rotate_left
   ·(rintro w ⟨s0, s1⟩; go_simp; try with_reducible rfl)
   try simp only [Act.put, List.setIfInBounds_toArray, List.set_cons_zero, List.set_cons_succ]
   refine WB.take (i := 1) (v := ?_) rfl (by kernel_rfl) (by kernel_rfl) (by kernel_rfl) (by kernel_rfl) (fun _ _ _ h => h) HS.out (Or.inl ⟨by rfl, ?_⟩) ?_
   rotate_left
   ·(rintro w ⟨s0, s1⟩; go_simp; try with_reducible rfl)
   try simp only [Act.put, List.setIfInBounds_toArray, List.set_cons_zero, List.set_cons_succ]
   refine WB.take (i := 2) (v := ?_) rfl (by kernel_rfl) (by kernel_rfl) (by kernel_rfl) (by kernel_rfl) (fun _ _ _ h => h) HS.out (Or.inl ⟨by rfl, ?_⟩) ?_
   rotate_left
   ·(rintro w ⟨s0, s1⟩; go_simp; try with_reducible rfl)
   try simp only [Act.put, List.setIfInBounds_toArray, List.set_cons_zero, List.set_cons_succ]
   refine WB.take (i := 6) (v := ?_) rfl (by kernel_rfl) (by kernel_rfl) (by kernel_rfl) (by kernel_rfl) (fun _ _ _ h => h) HS.out (Or.inl ⟨by rfl, ?_⟩) ?_
   rotate_left
   ·(rintro w ⟨s0, s1⟩; go_simp; try with_reducible rfl)
   try simp only [Act.put, List.setIfInBounds_toArray, List.set_cons_zero, List.set_cons_succ]
   refine WB.take (i := 7) (v := ?_) rfl (by kernel_rfl) (by kernel_rfl) (by kernel_rfl) (by kernel_rfl) (fun _ _ _ h => h) HS.out (Or.inl ⟨by rfl, ?_⟩) ?_
   rotate_left
   ·(rintro w ⟨s0, s1⟩; go_simp; try with_reducible rfl)
   try simp only [Act.put, List.setIfInBounds_toArray, List.set_cons_zero, List.set_cons_succ]
   refine WB.take (i := 8) (v := ?_) rfl (by kernel_rfl) (by kernel_rfl) (by kernel_rfl) (by kernel_rfl) (fun _ _ _ h => h) HS.out (Or.inl ⟨by rfl, ?_⟩) ?_
   rotate_left
   ·(rintro w ⟨s0, s1⟩; go_simp; try with_reducible rfl)
   try simp only [Act.put, List.setIfInBounds_toArray, List.set_cons_zero, List.set_cons_succ]
   refine WB.take (i := 9) (v := ?_) rfl (by kernel_rfl) (by kernel_rfl) (by kernel_rfl) (by kernel_rfl) (fun _ _ _ h => h) HS.out (Or.inl ⟨by rfl, ?_⟩) ?_
   rotate_left
   ·(rintro w ⟨s0, s1⟩; go_simp; try with_reducible rfl)
   try simp only [Act.put, List.setIfInBounds_toArray, List.set_cons_zero, List.set_cons_succ]
   refine WB.one (i := 3) (by kernel_rfl) rfl (fun K hK => ?_)
   have HKK := Lib.hid hK
   clear hK
   go_simp
   refine (pick_c r (q + 1) 3 _ HR3.out (by omega) ⟨by omega, by omega⟩).mono ?_
   rintro r9 w5 ⟨v, rfl, hv0, hv1, -, hR, hg⟩
   have hvb := hv1 (by omega)
   have hk5 : KeepT w3 w5 := by
    obtain ⟨A, c9, bs, hbk, -⟩ := HR3.out
    exact KeepT.grown hg hbk (by decide) (by decide) (by decide) (by decide)
   have HB5 := Lib.hid ((hg.block _ (blk_lt HB3.out) (fun e => by injection e with e; omega)).trans HB3.out)
   have HC5 := Lib.hid ((hg.block _ (blk_lt HC3.out) (fun e => by injection e with e; omega)).trans HC3.out)
   have HZ5 := Lib.hid ((hg.block _ (blk_lt HZ3.out) (fun e => by injection e with e; omega)).trans HZ3.out)
   have HL5 := Lib.hid (HL3.out.keep hk5 (.inr (.inl rfl))); have HX5 := Lib.hid (HX3.out.keep hk5)
   have HE5 := Lib.hid (ext_grown HE3.out hg HE3.out.size (fun k e => by injection e with e; omega)); have HR5 := Lib.hid hR
   clear hk5 hg hR
   have hwv : IntKind.i64.wrap (x.seen - v) = x.seen - v := by rw [IntKind.wrap_i64]; omega
   have HS5 : Hid (w5.cell? ⟨cb, 1, none⟩ = some (.int .i64 x.seen) ∧ w5.cell? ⟨w2.heap.size, 0, none⟩ = some (.slice L log.length ln)) := Lib.hid ⟨(six_cells HC5.out).2.1, (five_cells HB5.out).1⟩
   refine HKK.out _ _ ⟨fun _ => HS5.out, ?_⟩
   clear HKK K HS
   try simp only [Act.put, List.setIfInBounds_toArray, List.set_cons_zero, List.set_cons_succ]
   refine WB.takeP (i := 4) (v := ?_) rfl (by kernel_rfl) (by kernel_rfl) (by kernel_rfl) (by kernel_rfl) (fun _ _ _ h => h) HS5.out (Or.inl ⟨by rfl, ?_⟩) ?_
   rotate_left
   ·(rintro w -; go_simp; try with_reducible rfl)
   try simp only [Act.put, List.setIfInBounds_toArray, List.set_cons_zero, List.set_cons_succ]
   refine WB.takeP (i := 5) (v := ?_) rfl (by kernel_rfl) (by kernel_rfl) (by kernel_rfl) (by kernel_rfl) (fun _ _ _ h => h) HS5.out (Or.inl ⟨by rfl, ?_⟩) ?_
   rotate_left
   ·(rintro w -; go_simp; try with_reducible rfl)
   try simp only [Act.put, List.setIfInBounds_toArray, List.set_cons_zero, List.set_cons_succ]
   refine WB.takeP (i := 10) (v := ?_) rfl (by kernel_rfl) (by kernel_rfl) (by kernel_rfl) (by kernel_rfl) (fun _ _ _ h => h) HS5.out (Or.inl ⟨by rfl, ?_⟩) ?_
   rotate_left
   ·(rintro w -; go_simp; try with_reducible rfl)
   try simp only [Act.put, List.setIfInBounds_toArray, List.set_cons_zero, List.set_cons_succ]
   refine WB.one (i := 11) (by kernel_rfl) rfl (fun K hK => ?_)
   have HKK := Lib.hid hK
   clear hK
   go_simp
   refine HKK.out _ _ ⟨fun h => (no_late h (by kernel_rfl)).elim, ?_⟩
   clear HKK K HS5
   refine WB.done (by kernel_rfl) ?_
   refine Exists.elim (⟨(min (max (x.seen - v) 0) (log.length : Int)).toNat, by omega⟩ : ∃ f : Nat, min (max (x.seen - v) 0) (log.length : Int) = f) ?_
   intro f hf
   rw [hf]
   have hfl : f ≤ log.length := by omega
   have hsl : ∀ W : World, (Instr.slice 23 (.slice L log.length ln) (some (.int .i64 (f : Int))) none none).run Tryd.prog W = .ok (.slice (fromA L ln f 7) (log.length - f) (ln - f)) W := fun W => run_cut el_ent L log.length ln f hfl W
   have hE6 : Ext w5 (w5.alloc (.cells #[] 44)) := (Below.refl _ _).alloc (Nat.le_refl _) _
   have o0 := own_made (e := 44) (α := Entry) w5 w5.heap.size (Nat.le_refl _)
   obtain ⟨v7, w7, hrun, o7, g7⟩ := app_at el_ent o0 ((HL5.out.1.ext hE6).from_ f hfl) (by simp; omega) hE6.size
   rw [show (log.drop f).length = log.length - f by simp] at hrun
   rw [List.nil_append] at o7
   have hE7 : Ext w5 w7 := o0.over hE6 g7 (Nat.le_refl _) hE6.size
   obtain ⟨lf, hlf⟩ : ∃ lf, lf = log.drop f := ⟨_, rfl⟩
   have HOPL : Hid (∀ e ∈ lf, OpW e.op) := fun e he => HOP.out e (List.mem_of_mem_drop (by rw [hlf] at he; exact he))
   have hlfl : lf.length ≤ 40 := by rw [hlf, List.length_drop]; omega
   have hff : f ≤ 40 := by omega
   rw [← hlf] at o7
   obtain ⟨Lf, nf, hv7, -⟩ := o7.rd
   subst hv7
   have hs5 := HE5.out.size
   have HNQ : Hid (∀ k, (Value.slice x.q x.ql x.qn).ownBlock = some k → Lf.map Addr.block ≠ some k) := fun k hk hLf => by
    obtain ⟨b, bn, qq, qn, he, r1, r2⟩ := HX5.out
    rw [he] at hk
    have h1 := (r2.blk k hk).2
    have h2 := (o7.blk k (by rw [ob_map]; exact hLf)).1
    omega
   have HL7 := Lib.hid (o7.lower (base' := w.heap.size) hs5)
   have HB7 := Lib.hid ((hE7.block _ (blk_lt HB5.out)).trans HB5.out); have HC7 := Lib.hid ((hE7.block _ (blk_lt HC5.out)).trans HC5.out); have HZ7 := Lib.hid ((hE7.block _ (blk_lt HZ5.out)).trans HZ5.out)
   have HX7 := Lib.hid (HX5.out.ext hE7); have HE7 := Lib.hid (HE5.out.trans (hE7.mono hs5)); have HR7 := Lib.hid (HR5.out.ext hE7)
   have HRUN := Lib.hid hrun
   have hbw5 := blk_lt HB5.out
   obtain ⟨b0, b1, b2, b3, b4, bf⟩ := five_cells ((hE6.block _ (blk_lt HB5.out)).trans HB5.out)
   clear hf o0 o7 g7 hrun hE6 hE7 hlf hwv hv0 hv1 hvb
   go_wp2_with (at_builtin; refine wpList_append_run rfl _ _ _ rfl rfl rfl HRUN.out ?_)
   refine (pick_c r (q + 1 + 1) 12 _ HR7.out (by omega) ⟨by omega, by omega⟩).mono ?_
   clear b0 b1 b2 b3 b4 bf hsl HRUN HB3 HL3 HX3 HC3 HZ3 HE3 HR3 HB5 HC5 HZ5 HX5 HE5 HR5 HL5
   rintro r9 w8 ⟨v, rfl, hv0, hv1, -, hR, hg⟩
   have hk8 : KeepT w7 w8 := by
    obtain ⟨A, c9, bs, hbk, -⟩ := HR7.out
    exact KeepT.grown hg hbk (by decide) (by decide) (by decide) (by decide)
   have HB8 := Lib.hid ((hg.block _ (blk_lt HB7.out) (fun e => by injection e with e; omega)).trans HB7.out)
   have HC8 := Lib.hid ((hg.block _ (blk_lt HC7.out) (fun e => by injection e with e; omega)).trans HC7.out)
   have HZ8 := Lib.hid ((hg.block _ (blk_lt HZ7.out) (fun e => by injection e with e; omega)).trans HZ7.out)
   have HL8 := Lib.hid (HL7.out.keep hk8 (.inr (.inl rfl))); have HX8 := Lib.hid (HX7.out.keep hk8)
   have HE8 := Lib.hid (ext_grown HE7.out hg HE7.out.size (fun k e => by injection e with e; omega)); have HR8 := Lib.hid hR
   clear hk8 hg hR
   have hcl := blk_lt HC8.out
   by_cases h0 : v = 0
   ·subst h0
    have hwf : IntKind.i64.wrap ((f : Int) + 1) = (f : Int) + 1 := by rw [IntKind.wrap_i64]; omega
    have hz := put6_at (.int .i64 x.who) (.int .i64 x.seen) (.slice x.b x.bl x.bn) (.slice x.q x.ql x.qn) (.int .i64 x.done) (.int .i64 x.made) HZ8.out
    have hg : w8.grownBy (put6 w8 w.heap.size (.int .i64 x.who) (.int .i64 x.seen) (.slice x.b x.bl x.bn) (.slice x.q x.ql x.qn) (.int .i64 x.done) (.int .i64 x.made)) (some w.heap.size) := gset (gset (gset (gset (gset (gset_any _ _ _ _) _ _) _ _) _ _) _ _) _ _
    have hk := KeepRE.grown hg HZ8.out (by decide) (by decide)
    have HF : Hid (DHearP w (.returned (.tuple #[.agg (cR x), .int .i64 ((f : Int) + 1), .slice Lf lf.length nf])) (put6 w8 w.heap.size (.int .i64 x.who) (.int .i64 x.seen) (.slice x.b x.bl x.bn) (.slice x.q x.ql x.qn) (.int .i64 x.done) (.int .i64 x.made))) := ⟨c, _, ((f : Int) + 1), lf, Lf, nf, rfl, (RcO.co (RcO.keepR HX8.out hk)).cv, HCD.out.1, (Own.keepR HL8.out hk (.inr rfl)).rdT.1, HOPL.out, by omega, by omega, by omega, ext_grown HE8.out hg (Below.size HE8.out) (fun k e => by injection e with e; omega)⟩
    have HZz := Lib.hid hz
    obtain ⟨c0, c1, c2, c3, c4, c5, cf⟩ := six_cells HC8.out
    obtain ⟨d0, d1, d2, d3, d4, d5, df⟩ := six_cells HZ8.out
    clear hz hg hk
    go_wp2_with fail
    obtain ⟨k0, k1, k2, k3, k4, k5, kf⟩ := six_cells HZz.out
    refine bodyPost_ret (v := .tuple #[.agg (cR x), .int .i64 ((f : Int) + 1), .slice Lf lf.length nf]) ?_ rfl ?_
    ·simp [results, Tryd.f28, go_sem, k0, k1, k2, k3, k4, k5]
    ·exact HF.out
   have q0 : (v == 0) = false := by simp [h0]
   by_cases h1 : v = 1
   ·subst h1
    by_cases hlp : 0 < lf.length
    ·have hlpi : (0 : Int) < lf.length := by omega
     obtain ⟨gl, rfl⟩ := HL8.out.at0w hlp
     clear h0 q0
     have hEd : Ext w8 w8.drew := (Below.refl _ _).drew
     obtain ⟨w9, hw9⟩ : ∃ W, W = w8.drew := ⟨_, rfl⟩
     have HB9 : Hid (w9.heap[w2.heap.size]? = some (.cells #[.slice L log.length ln, .int .i64 safe, .bool up, .slice C xn cc, .slice N nl nc] 93 (0, 0))) := by rw [hw9]; exact HB8.out
     have HL9 : Hid (Own 44 w9 w.heap.size (.slice (some ⟨gl, 0, none⟩) lf.length nf) lf) := by rw [hw9]; exact HL8.out.below hEd
     have HX9 : Hid (RcO w9 w.heap.size x c) := by rw [hw9]; exact HX8.out.ext hEd
     have HC9 : Hid (w9.heap[cb]? = some (.cells (cR x) 30 (0, 0))) := by rw [hw9]; exact HC8.out
     have HZ9 : Hid (w9.heap[w.heap.size]? = some (.cells cC0 30 (0, 0))) := by rw [hw9]; exact HZ8.out
     have HE9 : Hid (Ext w w9) := by rw [hw9]; exact HE8.out.trans (hEd.mono HE8.out.size)
     have HR9 : Hid (Rdr w9 r (q + 1 + 1 + 1)) := by rw [hw9]; exact HR8.out.ext hEd
     have HS : Hid (w9.cell? ⟨cb, 0, none⟩ = some (.int .i64 x.who)) := Lib.hid (six_cells HC9.out).1
     clear hEd hv0 hv1
     go_upto_region 15 with fail
     refine wp_region_B (fun w' => w'.cell? ⟨cb, 0, none⟩ = some (.int .i64 x.who)) 9 (by kernel_rfl) ?_
     rw [← hw9]
     clear hw9
     refine WB.take (i := 0) (v := ?_) rfl (by kernel_rfl) (by kernel_rfl) (by kernel_rfl) (by kernel_rfl) (fun _ _ _ h => h) HS.out (Or.inl ⟨by rfl, ?_⟩) ?_
     rotate_left
     ·(rintro w s0; go_simp; try with_reducible rfl)
     try simp only [Act.put, List.setIfInBounds_toArray, List.set_cons_zero, List.set_cons_succ]
     refine WB.take (i := 1) (v := ?_) rfl (by kernel_rfl) (by kernel_rfl) (by kernel_rfl) (by kernel_rfl) (fun _ _ _ h => h) HS.out (Or.inl ⟨by rfl, ?_⟩) ?_
     rotate_left
     ·(rintro w s0; go_simp; try with_reducible rfl)
     try simp only [Act.put, List.setIfInBounds_toArray, List.set_cons_zero, List.set_cons_succ]
     refine WB.take (i := 2) (v := ?_) rfl (by kernel_rfl) (by kernel_rfl) (by kernel_rfl) (by kernel_rfl) (fun _ _ _ h => h) HS.out (Or.inl ⟨by rfl, ?_⟩) ?_
     rotate_left
     ·(rintro w s0; go_simp; try with_reducible rfl)
     try simp only [Act.put, List.setIfInBounds_toArray, List.set_cons_zero, List.set_cons_succ]
     refine WB.take (i := 3) (v := ?_) rfl (by kernel_rfl) (by kernel_rfl) (by kernel_rfl) (by kernel_rfl) (fun _ _ _ h => h) HS.out (Or.inl ⟨by rfl, ?_⟩) ?_
     rotate_left
     ·(rintro w s0; go_simp; try with_reducible rfl)
     try simp only [Act.put, List.setIfInBounds_toArray, List.set_cons_zero, List.set_cons_succ]
     refine WB.take (i := 5) (v := ?_) rfl (by kernel_rfl) (by kernel_rfl) (by kernel_rfl) (by kernel_rfl) (fun _ _ _ h => h) HS.out (Or.inl ⟨by rfl, ?_⟩) ?_
     rotate_left
     ·(rintro w s0; go_simp; try with_reducible rfl)
     try simp only [Act.put, List.setIfInBounds_toArray, List.set_cons_zero, List.set_cons_succ]
     refine WB.take (i := 6) (v := ?_) rfl (by kernel_rfl) (by kernel_rfl) (by kernel_rfl) (by kernel_rfl) (fun _ _ _ h => h) HS.out (Or.inl ⟨by rfl, ?_⟩) ?_
     rotate_left
     ·(rintro w s0; go_simp; try with_reducible rfl)
     try simp only [Act.put, List.setIfInBounds_toArray, List.set_cons_zero, List.set_cons_succ]
     refine WB.one (i := 4) (by kernel_rfl) rfl (fun K hK => ?_)
     have HKK := Lib.hid hK
     clear hK
     go_simp
     refine (pick_c r (q + 1 + 1 + 1) (lf.length : Int) _ HR9.out (by omega) ⟨by omega, by omega⟩).mono ?_
     rintro r9 wa ⟨va, rfl, hv0, hv1, -, hR, hg⟩
     have hvb := hv1 (by omega)
     refine Exists.elim (⟨va.toNat, by omega⟩ : ∃ kk : Nat, va = kk) ?_
     intro kk hkk
     rw [hkk]
     have hkx : kk < lf.length := by omega
     have hki : (kk : Int) < lf.length := by omega
     clear hv1 hkk hvb hv0
     have hka : KeepT w9 wa := by
      obtain ⟨A, c9, bs, hbk, -⟩ := HR9.out
      exact KeepT.grown hg hbk (by decide) (by decide) (by decide) (by decide)
     have HBa := Lib.hid ((hg.block _ (blk_lt HB9.out) (fun e => by injection e with e; omega)).trans HB9.out)
     have HCa := Lib.hid ((hg.block _ (blk_lt HC9.out) (fun e => by injection e with e; omega)).trans HC9.out)
     have HZa := Lib.hid ((hg.block _ (blk_lt HZ9.out) (fun e => by injection e with e; omega)).trans HZ9.out)
     have HLa := Lib.hid (HL9.out.keep hka (.inr (.inl rfl))); have HXa := Lib.hid (HX9.out.keep hka)
     have HEa := Lib.hid (ext_grown HE9.out hg HE9.out.size (fun k e => by injection e with e; omega)); have HRa := Lib.hid hR
     clear hka hg hR
     have HSa : Hid (wa.cell? ⟨cb, 0, none⟩ = some (.int .i64 x.who)) := Lib.hid (six_cells HCa.out).1
     refine HKK.out _ _ ⟨fun _ => HSa.out, ?_⟩
     clear HKK K HS
     try simp only [Act.put, List.setIfInBounds_toArray, List.set_cons_zero, List.set_cons_succ]
     refine WB.takeP (i := 7) (v := ?_) rfl (by kernel_rfl) (by kernel_rfl) (by kernel_rfl) (by kernel_rfl) (fun _ _ _ h => h) HSa.out (Or.inl ⟨by rfl, ?_⟩) ?_
     rotate_left
     ·(rintro w -; go_simp; try with_reducible rfl)
     try simp only [Act.put, List.setIfInBounds_toArray, List.set_cons_zero, List.set_cons_succ]
     refine WB.takeP (i := 8) (v := ?_) rfl (by kernel_rfl) (by kernel_rfl) (by kernel_rfl) (by kernel_rfl) (fun _ _ _ h => h) HSa.out (Or.inl ⟨by rfl, ?_⟩) ?_
     rotate_left
     ·(rintro w -; go_simp; try with_reducible rfl)
     try simp only [Act.put, List.setIfInBounds_toArray, List.set_cons_zero, List.set_cons_succ]
     have hok9 : Flat.okE (⟨x.who, lf[kk].seq, lf[kk].op⟩ : Entry) := HLa.out.2 lf[kk] (List.getElem_mem hkx)
     have hst := HLa.out.store kk hkx (⟨x.who, lf[kk].seq, lf[kk].op⟩ : Entry) hok9 0 (.int .i64 x.who) (by decide) rfl
     have hcell : ∃ u, wa.cell? ⟨gl, kk * 7, none⟩ = some u := by
      obtain ⟨eb, eo, he9, hbx9, e0, -⟩ := ent_at HLa.out.rdT.1 kk hkx
      injection he9 with he9; injection he9 with he91 he92; subst he91; subst he92
      simp only [Nat.zero_add] at e0
      exact ⟨_, e0⟩
     have hfz := HLa.out.frzw
     have hgl := HLa.out.blk gl rfl
     have hne : gl ≠ w.heap.size := by
      obtain ⟨cs, m, h9⟩ := HLa.out.ty gl rfl
      rintro rfl
      have h8 := HZa.out
      rw [h9] at h8
      injection h8 with h8; injection h8 with _ h8
      exact absurd h8 (by decide)
     have hne2 : gl ≠ cb := by
      obtain ⟨cs, m, h9⟩ := HLa.out.ty gl rfl
      rintro rfl
      have h8 := HCa.out
      rw [h9] at h8
      injection h8 with h8; injection h8 with _ h8
      exact absurd h8 (by decide)
     have HCb := Lib.hid ((hst.2.block _ (blk_lt HCa.out) (by intro e; injection e with e; exact hne2 e.symm)).trans HCa.out)
     have HZb := Lib.hid ((hst.2.block _ (blk_lt HZa.out) (by intro e; injection e with e; exact hne e.symm)).trans HZa.out)
     have HEb : Hid (Ext w (wa.setCell ⟨gl, kk * 7, none⟩ (.int .i64 x.who))) := ext_grown HEa.out hst.2 HEa.out.size (fun k e => by injection e with e; omega)
     have hlen : (lf.set kk (⟨x.who, lf[kk].seq, lf[kk].op⟩ : Entry)).length = lf.length := List.length_set
     have hLb := hst.1
     rw [← hlen] at hLb
     have hXb : RcO (wa.setCell ⟨gl, kk * 7, none⟩ (.int .i64 x.who)) w.heap.size x c := by
      obtain ⟨cs, m, h9⟩ := HLa.out.ty gl rfl
      exact HXa.out.far (Turn.grown hst.2 (fun k hk => by injection hk with hk; exact hk.symm)) h9 (fun k hk e => HNQ.out k hk (by rw [e]; rfl))
     have hop9 : ∀ e ∈ lf.set kk (⟨x.who, lf[kk].seq, lf[kk].op⟩ : Entry), OpW e.op := fun e he => by
      rcases List.mem_or_eq_of_mem_set he with h1 | h1
      ·exact HOPL.out e h1
      ·rw [h1]; exact HOPL.out lf[kk] (List.getElem_mem hkx)
     have hll9 : (lf.set kk (⟨x.who, lf[kk].seq, lf[kk].op⟩ : Entry)).length ≤ 40 := by rw [hlen]; omega
     refine Exists.elim (⟨_, rfl⟩ : ∃ l9, l9 = lf.set kk (⟨x.who, lf[kk].seq, lf[kk].op⟩ : Entry)) ?_
     intro l9 hl9
     rw [← hl9] at hLb hop9 hll9 hlen
     have HLb := Lib.hid hLb; have HXb := Lib.hid hXb; have HOPb := Lib.hid hop9
     refine Exists.elim hcell ?_
     intro u hu
     clear hLb hXb hop9 hst hcell hok9 hne hne2 hl9
     refine WB.one (i := 9) (by kernel_rfl) rfl (fun K hK => ?_)
     have HKK := Lib.hid hK
     clear hK
     go_simp
     refine HKK.out _ _ ⟨fun h => (no_late h (by kernel_rfl)).elim, ?_⟩
     clear HKK K HSa hu hfz
     refine WB.done (by kernel_rfl) ?_
     generalize (wa.setCell ⟨gl, kk * 7, none⟩ (.int .i64 x.who)) = wb at *
     rw [← hlen]
     have HLEN9 := Lib.hid hlen
     clear hlen
     have hz := put6_at (.int .i64 x.who) (.int .i64 x.seen) (.slice x.b x.bl x.bn) (.slice x.q x.ql x.qn) (.int .i64 x.done) (.int .i64 x.made) HZb.out
     have hg : wb.grownBy (put6 wb w.heap.size (.int .i64 x.who) (.int .i64 x.seen) (.slice x.b x.bl x.bn) (.slice x.q x.ql x.qn) (.int .i64 x.done) (.int .i64 x.made)) (some w.heap.size) := gset (gset (gset (gset (gset (gset_any _ _ _ _) _ _) _ _) _ _) _ _) _ _
     have hk := KeepRE.grown hg HZb.out (by decide) (by decide)
     have HF : Hid (DHearP w (.returned (.tuple #[.agg (cR x), .int .i64 (f : Int), .slice (some ⟨gl, 0, none⟩) l9.length nf])) (put6 wb w.heap.size (.int .i64 x.who) (.int .i64 x.seen) (.slice x.b x.bl x.bn) (.slice x.q x.ql x.qn) (.int .i64 x.done) (.int .i64 x.made))) := ⟨c, _, (f : Int), l9, (some ⟨gl, 0, none⟩), nf, rfl, (RcO.co (RcO.keepR HXb.out hk)).cv, HCD.out.1, (Own.keepR HLb.out hk (.inr rfl)).rdT.1, HOPb.out, by omega, by omega, by omega, ext_grown HEb.out hg (Below.size HEb.out) (fun k e => by injection e with e; omega)⟩
     have HZz := Lib.hid hz
     obtain ⟨c0, c1, c2, c3, c4, c5, cf⟩ := six_cells HCb.out
     obtain ⟨d0, d1, d2, d3, d4, d5, df⟩ := six_cells HZb.out
     clear hz hg hk
     go_wp2_with fail
     obtain ⟨k0, k1, k2, k3, k4, k5, kf⟩ := six_cells HZz.out
     refine bodyPost_ret (v := .tuple #[.agg (cR x), .int .i64 (f : Int), .slice (some ⟨gl, 0, none⟩) l9.length nf]) ?_ rfl ?_
     ·simp [results, Tryd.f28, go_sem, k0, k1, k2, k3, k4, k5]
     ·exact HF.out
    ·have hlpi : ¬ ((0 : Int) < lf.length) := by omega
     clear h0
     have hz := put6_at (.int .i64 x.who) (.int .i64 x.seen) (.slice x.b x.bl x.bn) (.slice x.q x.ql x.qn) (.int .i64 x.done) (.int .i64 x.made) HZ8.out
     have hg : w8.grownBy (put6 w8 w.heap.size (.int .i64 x.who) (.int .i64 x.seen) (.slice x.b x.bl x.bn) (.slice x.q x.ql x.qn) (.int .i64 x.done) (.int .i64 x.made)) (some w.heap.size) := gset (gset (gset (gset (gset (gset_any _ _ _ _) _ _) _ _) _ _) _ _) _ _
     have hk := KeepRE.grown hg HZ8.out (by decide) (by decide)
     have HF : Hid (DHearP w (.returned (.tuple #[.agg (cR x), .int .i64 (f : Int), .slice Lf lf.length nf])) (put6 w8 w.heap.size (.int .i64 x.who) (.int .i64 x.seen) (.slice x.b x.bl x.bn) (.slice x.q x.ql x.qn) (.int .i64 x.done) (.int .i64 x.made))) := ⟨c, _, (f : Int), lf, Lf, nf, rfl, (RcO.co (RcO.keepR HX8.out hk)).cv, HCD.out.1, (Own.keepR HL8.out hk (.inr rfl)).rdT.1, HOPL.out, by omega, by omega, by omega, ext_grown HE8.out hg (Below.size HE8.out) (fun k e => by injection e with e; omega)⟩
     have HZz := Lib.hid hz
     obtain ⟨c0, c1, c2, c3, c4, c5, cf⟩ := six_cells HC8.out
     obtain ⟨d0, d1, d2, d3, d4, d5, df⟩ := six_cells HZ8.out
     clear hz hg hk
     go_wp2_with fail
     obtain ⟨k0, k1, k2, k3, k4, k5, kf⟩ := six_cells HZz.out
     refine bodyPost_ret (v := .tuple #[.agg (cR x), .int .i64 (f : Int), .slice Lf lf.length nf]) ?_ rfl ?_
     ·simp [results, Tryd.f28, go_sem, k0, k1, k2, k3, k4, k5]
     ·exact HF.out
   ·have q1 : (v == 1) = false := by simp [h1]
    clear h0 h1
    have hz := put6_at (.int .i64 x.who) (.int .i64 x.seen) (.slice x.b x.bl x.bn) (.slice x.q x.ql x.qn) (.int .i64 x.done) (.int .i64 x.made) HZ8.out
    have hg : w8.grownBy (put6 w8 w.heap.size (.int .i64 x.who) (.int .i64 x.seen) (.slice x.b x.bl x.bn) (.slice x.q x.ql x.qn) (.int .i64 x.done) (.int .i64 x.made)) (some w.heap.size) := gset (gset (gset (gset (gset (gset_any _ _ _ _) _ _) _ _) _ _) _ _) _ _
    have hk := KeepRE.grown hg HZ8.out (by decide) (by decide)
    have HF : Hid (DHearP w (.returned (.tuple #[.agg (cR x), .int .i64 (f : Int), .slice Lf lf.length nf])) (put6 w8 w.heap.size (.int .i64 x.who) (.int .i64 x.seen) (.slice x.b x.bl x.bn) (.slice x.q x.ql x.qn) (.int .i64 x.done) (.int .i64 x.made))) := ⟨c, _, (f : Int), lf, Lf, nf, rfl, (RcO.co (RcO.keepR HX8.out hk)).cv, HCD.out.1, (Own.keepR HL8.out hk (.inr rfl)).rdT.1, HOPL.out, by omega, by omega, by omega, ext_grown HE8.out hg (Below.size HE8.out) (fun k e => by injection e with e; omega)⟩
    have HZz := Lib.hid hz
    obtain ⟨c0, c1, c2, c3, c4, c5, cf⟩ := six_cells HC8.out
    obtain ⟨d0, d1, d2, d3, d4, d5, df⟩ := six_cells HZ8.out
    clear hz hg hk
    go_wp2_with fail
    obtain ⟨k0, k1, k2, k3, k4, k5, kf⟩ := six_cells HZz.out
    refine bodyPost_ret (v := .tuple #[.agg (cR x), .int .i64 (f : Int), .slice Lf lf.length nf]) ?_ rfl ?_
    ·simp [results, Tryd.f28, go_sem, k0, k1, k2, k3, k4, k5]
    ·exact HF.out
open Go.RowKit
namespace T
theorem put_perm (t : T) (nd : (ids t).Nodup) (id : Int) (tx : ByteArray) (s : T) (p : Int × Int) (hp : p.1 ∈ ids t) (hp2 : 0 < p.2 → p.2 ∈ ids t) : (ids (put t id tx s p)).Perm (id :: (ids s ++ ids t)) := by
 unfold put
 split
 ·rename_i h0; exact insN_perm p.2 id tx s t (hp2 h0) nd
 ·exact insF_perm p.1 id tx s t hp nd
theorem doT_ids (t : T) (h : Valid t) (o : Op) (ho : opOk o = true) : (∀ a ∈ ids t, a ∈ ids (doT t o)) ∧ (o.kind = 1 → o.id ∈ ids (doT t o)) := by
 obtain ⟨hm, hk, htx, hpos⟩ := opOk_kind ho
 have hr3 := h.root 3 rfl
 have hroot : isRoot o.id = false := made_not_root _ hm
 have hn := near_ok t h.2.2 hr3.1 o.id o.up o.pos
 unfold doT
 rcases hk with hk | hk | hk
 ·rw [if_neg (by omega), if_pos hk]
  split
  ·rename_i hi; exact ⟨fun a ha => ha, fun _ => hi⟩
  ·have hpm := put_perm t h.2.2 o.id o.text nil (near t o.id o.up o.pos) hn.1 (fun h0 => by
    obtain ⟨e, _, hu, _⟩ := hn.2 h0
    rw [e] at h0 ⊢
    exact up_mem t h.2.2 _ _ hu)
   exact ⟨fun a ha => hpm.mem_iff.2 (List.mem_cons_of_mem _ (List.mem_append_right _ ha)), fun _ => hpm.mem_iff.2 List.mem_cons_self⟩
 ·rw [if_pos hk, setT_ids]
  exact ⟨fun a ha => ha, fun h1 => by omega⟩
 ·rw [if_neg (by omega), if_neg (by omega), if_pos hk]
  refine ⟨?_, fun h1 => by omega⟩
  cases hg : get o.id t with
  |none => exact fun a ha => ha
  |some p =>
   obtain ⟨x, f⟩ := p
   simp only
   split
   ·exact fun a ha => ha
   ·rename_i hq
    obtain ⟨hndc, hsub, hback, hfwd⟩ := cut_facts t h.2.2 o.id x f hg
    have h3f : 3 ∉ ids f := by
     intro h3
     obtain ⟨q, hq, _⟩ := under_in t h.2.2 o.id x f hg 3 h3
     rw [hr3.2] at hq; cases hq
    have hpm := put_perm (cut o.id t) hndc o.id x f (near t o.id o.up o.pos) (by
     unfold near
     split
     ·rename_i hu
      exact hback o.up hu (fun e => hq (.inl e)) (fun e => hq (.inr e))
     ·exact hback 3 hr3.1 (fun e => by rw [← e] at hroot; cases hroot) h3f) (fun h0 => by
     obtain ⟨e, hne, hu, hup⟩ := hn.2 h0
     rw [e] at h0 ⊢
     rw [hup] at hu
     exact hback o.pos (up_mem t h.2.2 _ _ hu) hne (fun hf => hq ((under_step t h.2.2 o.id x f hg o.pos o.up hu).1 hf)))
    intro a ha
    rw [hpm.mem_iff, List.mem_cons, List.mem_append]
    by_cases e1 : a = o.id
    ·exact .inl e1
    ·by_cases e2 : a ∈ ids f
     ·exact .inr (.inl e2)
     ·exact .inr (.inr (hback a ha e1 e2))
end T
def idsL (t : List Row) : List Int := t.map (·.id)
theorem idsL_build {t : List Row} (ht : treeOk t = true) : idsL t = T.ids (T.build t) ∧ (idsL t).Nodup := by
 obtain ⟨hv, he⟩ := T.valid_build t ht
 have h1 : idsL t = T.ids (T.build t) := by
  have := T.rows_ids 0 (T.build t)
  rw [he] at this; exact this
 exact ⟨h1, by rw [h1]; exact hv.2.2⟩
theorem doL_ids {t : List Row} {o : Op} (ht : treeOk t = true) (ho : opOk o = true) : (∀ a ∈ idsL t, a ∈ idsL (doL t o)) ∧ (o.kind = 1 → o.id ∈ idsL (doL t o)) := by
 obtain ⟨h1, h2⟩ := T.doT_ids (T.build t) (T.valid_build t ht).1 o ho
 have h3 : idsL (doL t o) = T.ids (T.doT (T.build t) o) := by rw [doL_build t o ht ho]; exact T.rows_ids 0 _
 rw [(idsL_build ht).1, h3]
 exact ⟨h1, h2⟩
theorem runOps_ids (l : List Entry) : ∀ t : List Row, treeOk t = true → (∀ e ∈ l, opOk e.op = true) → treeOk (runOps t l) = true ∧ (∀ a ∈ idsL t, a ∈ idsL (runOps t l)) ∧ (∀ e ∈ l, e.op.kind = 1 → e.op.id ∈ idsL (runOps t l)) := by
 induction l with
 |nil => intro t ht _; exact ⟨ht, fun a ha => ha, by simp⟩
 |cons e l ih =>
  intro t ht hl
  have ho := hl e List.mem_cons_self
  have hod : opDo t e.op = doL t e.op := by unfold opDo; rw [ht, ho]; rfl
  have h1 := doL_ids ht ho
  rw [← hod] at h1
  have htn : treeOk (opDo t e.op) = true := by rw [hod]; exact treeOk_do t _ ht ho
  obtain ⟨a1, a2, a3⟩ := ih (opDo t e.op) htn (fun x hx => hl x (List.mem_cons_of_mem _ hx))
  refine ⟨a1, fun a ha => a2 a (h1.1 a ha), fun x hx hk => ?_⟩
  rcases List.mem_cons.1 hx with rfl | hx
  ·exact a2 _ (h1.2 hk)
  ·exact a3 x hx hk
theorem runOps_long {l : List Entry} {t : List Row} (ht : treeOk t = true) (hl : ∀ e ∈ l, opOk e.op = true) : t.length ≤ (runOps t l).length := by
 have h := runOps_ids l t ht hl
 have := T.nodup_le (idsL t) (idsL (runOps t l)) (idsL_build ht).2 h.2.1
 simpa [idsL] using this
open Go.RowKit
def ownN (who : Int) (l : List Entry) : Nat := l.countP (fun e => decide (e.who = who))
theorem ownN_cons (who : Int) (e : Entry) (l : List Entry) : ownN who (e :: l) = ownN who l + if e.who = who then 1 else 0 := by
 unfold ownN; rw [List.countP_cons]; simp
theorem hearL_some (who : Int) : ∀ (l q : List Entry) (t : List Row) (d n : Int) (q' : List Entry) (t' : List Row) (d' n' : Int), hearL who l q t d n = some (q', t', d', n') →
  q' = q.drop (ownN who l) ∧ ownN who l ≤ q.length ∧ t' = runOps t l ∧ d' = d + ownN who l ∧ n' = n + l.length := by
 intro l
 induction l with
 |nil =>
  intro q t d n q' t' d' n' h
  simp only [hearL, Option.some.injEq, Prod.mk.injEq] at h
  obtain ⟨rfl, rfl, rfl, rfl⟩ := h
  exact ⟨by simp [ownN], by simp [ownN], rfl, by simp [ownN], by simp⟩
 |cons e l ih =>
  intro q t d n q' t' d' n' h
  rw [ownN_cons]
  unfold hearL at h
  by_cases hw : e.who = who
  ·rw [if_pos hw] at h ⊢
   cases q with
   |nil => simp at h
   |cons e0 q0 =>
    simp only at h
    split at h
    ·obtain ⟨a1, a2, a3, a4, a5⟩ := ih _ _ _ _ _ _ _ _ h
     refine ⟨by rw [a1]; rfl, by simp only [List.length_cons]; omega, by rw [a3]; rfl, by rw [a4]; omega, by rw [a5]; simp only [List.length_cons]; omega⟩
    ·cases h
  ·rw [if_neg hw] at h ⊢
   obtain ⟨a1, a2, a3, a4, a5⟩ := ih _ _ _ _ _ _ _ _ h
   exact ⟨a1, a2, by rw [a3]; rfl, a4, by rw [a5]; simp only [List.length_cons]; omega⟩
theorem hearL_cons (who : Int) (e : Entry) (l q : List Entry) (t : List Row) (d n : Int) : hearL who (e :: l) q t d n = if e.who = who then (match q with | e0 :: q' => if e0 = e then hearL who l q' (opDo t e.op) (d + 1) (n + 1) else none | [] => none) else hearL who l q (opDo t e.op) d (n + 1) := by
 cases q <;> rfl
theorem hearL_append (who : Int) : ∀ (l m q : List Entry) (t : List Row) (d n : Int), hearL who (l ++ m) q t d n = (hearL who l q t d n).bind fun p => hearL who m p.1 p.2.1 p.2.2.1 p.2.2.2 := by
 intro l
 induction l with
 |nil => intro m q t d n; rfl
 |cons e l ih =>
  intro m q t d n
  rw [List.cons_append, hearL_cons, hearL_cons]
  by_cases hw : e.who = who
  ·rw [if_pos hw, if_pos hw]
   cases q with
   |nil => rfl
   |cons e0 q0 =>
    simp only
    by_cases he : e0 = e
    ·rw [if_pos he, if_pos he]; exact ih _ _ _ _ _
    ·rw [if_neg he, if_neg he]; rfl
  ·rw [if_neg hw, if_neg hw]; exact ih _ _ _ _ _
theorem hearL_own (who : Int) : ∀ (l : List Entry) (t : List Row) (d n : Int), (∀ e ∈ l, e.who = who) → hearL who l l t d n = some ([], runOps t l, d + l.length, n + l.length) := by
 intro l
 induction l with
 |nil => intro t d n _; simp [hearL, runOps]
 |cons e l ih =>
  intro t d n h
  unfold hearL
  rw [if_pos (h e List.mem_cons_self)]
  simp only [if_true]
  rw [ih _ _ _ (fun x hx => h x (List.mem_cons_of_mem _ hx))]
  simp only [Option.some.injEq, Prod.mk.injEq, List.length_cons, true_and]
  refine ⟨rfl, by omega, by omega⟩
theorem waitOk_who {c : Client} (h : waitOk c = true) : ∀ e ∈ c.wait, entryOk e = true ∧ e.who = c.who := fun e he => by
 obtain ⟨k, hk, rfl⟩ := List.getElem_of_mem he
 have h1 := waitOk_at h k hk
 unfold waitAt at h1
 simp only [Bool.and_eq_true, decide_eq_true_eq] at h1
 exact ⟨h1.1.1.1, h1.1.1.2⟩
theorem hear_own {c : Client} (h : clientOk c = true) (hl : c.seen + c.wait.length ≤ 40) : clientHear c c.seen c.wait = (⟨c.who, c.seen + c.wait.length, runOps c.base c.wait, [], c.done + c.wait.length, c.made⟩, true) := by
 obtain ⟨hw9, hs0, hs40, htr, hd0, hd1, hwl, hm0, hm1, hwt⟩ := clientOk_parts h
 rw [clientHear_S c c.seen c.wait h hs0 hs40 (fun e he => (waitOk_who hwt e he).1)]
 unfold hearS
 rw [if_neg (by omega), show (c.seen - c.seen).toNat = 0 by omega, List.drop_zero, hearL_own c.who c.wait c.base c.done c.seen (fun e he => (waitOk_who hwt e he).2)]
theorem clientHear_true {c : Client} {frm : Int} {l : List Entry} (h : (clientHear c frm l).2 = true) : clientOk c = true ∧ 0 ≤ frm ∧ frm ≤ 40 ∧ (∀ e ∈ l, entryOk e = true) ∧ frm ≤ c.seen ∧ frm + l.length ≤ 40 ∧
  ∃ q t d n, hearL c.who (l.drop (c.seen - frm).toNat) c.wait c.base c.done c.seen = some (q, t, d, n) ∧ clientHear c frm l = (⟨c.who, n, t, q, d, c.made⟩, true) := by
 by_cases hb : clientOk c = false ∨ frm < 0 ∨ 40 < frm
 ·unfold clientHear at h; rw [if_pos hb] at h; cases h
 have hok : clientOk c = true := by
  cases h9 : clientOk c
  ·exact absurd (.inl h9) hb
  ·rfl
 have h0 : ¬ frm < 0 := fun e => hb (.inr (.inl e))
 have h1 : ¬ 40 < frm := fun e => hb (.inr (.inr e))
 cases hall : l.all entryOk
 ·unfold clientHear at h; rw [if_neg hb, if_pos hall] at h; cases h
 have hall' : ∀ x ∈ l, entryOk x = true := List.all_eq_true.1 hall
 have hS := clientHear_S c frm l hok (by omega) (by omega) hall'
 rw [hS] at h ⊢
 refine ⟨hok, by omega, by omega, hall', ?_⟩
 unfold hearS at h ⊢
 by_cases hf : c.seen < frm ∨ 40 - frm < l.length
 ·rw [if_pos hf] at h; cases h
 rw [if_neg hf] at h ⊢
 refine ⟨by omega, by omega, ?_⟩
 cases hh : hearL c.who (l.drop (c.seen - frm).toNat) c.wait c.base c.done c.seen with
 |none => rw [hh] at h; cases h
 |some p =>
  obtain ⟨q, t, d, n⟩ := p
  exact ⟨q, t, d, n, rfl, rfl⟩
end Go.Proofs.YtjhbbgeebobcpaaDoor
