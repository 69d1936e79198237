/- Walk of DrawClientHear. .. What a row gives: a slice of bytes as an argument; the table of the rows' owners. -/
import Derived.Test.YtjhbbgeebobcpaaDoorZAM
import Derived.Deep.DeepCutAuto
import Derived.Deep.CutBlock
import Derived.Test.YtjhbbgeebobcpaaDoorZAF
import Derived.Test.YtjhbbgeebobcpaaDoorZAG
import Derived.Test.YtjhbbgeebobcpaaDoorZAE
import Derived.Test.YtjhbbgeebobcpaaDoorZAH
import Derived.Test.YtjhbbgeebobcpaaDoorCards
import Derived.Test.YtjhbbgeebobcpaaDoorTie
import Derived.WalkKit
import Derived.ProofKit
import Derived.OpenShut
import Derived.OpenVars
import Derived.ChangeVars
import Derived.ChangeSlices
import Derived.ChangeOld
import Derived.Below
import Derived.Carry
import Derived.Deep.DeepHandedRow
import Derived.Lib.LaidTab
namespace Go.Proofs.YtjhbbgeebobcpaaDoor
open Go.RowKit Go.Lib
set_option linter.unusedVariables false
set_option linter.unusedSimpArgs false
def HearB (w : World) (r wb K : Nat) (wx : World) : Prop :=
 ∃ (log : List Entry) (L : Option Addr) (ln : Nat) (safe : Int) (up : Bool) (C : Option Addr) (cc : Nat) (xs : List RC) (cls : List Client) (N : Option Addr) (nl nc : Nat),
  wx.heap[wb]? = some (.cells #[.slice L log.length ln, .int .i64 safe, .bool up, .slice C xs.length cc, .slice N nl nc] 93 (0, 0)) ∧ Dw wx w.heap.size log L ln safe C cc xs cls ∧ (∃ q, q ≤ K ∧ Rdr wx r q) ∧ Ext w wx ∧ wx.heap[w.heap.size]? = some (.cells #[.int .i64 0, .int .i64 0, .slice none 0 0, .slice none 0 0, .int .i64 0, .int .i64 0] 30 (0, 0))
theorem HearB.mono {w wx : World} {r wb K K' : Nat} (h : HearB w r wb K wx) (hk : K ≤ K') : HearB w r wb K' wx := by
 obtain ⟨log, L, ln, safe, up, C, cc, xs, cls, N, nl, nc, hb, hd, ⟨q, hq, hR⟩, hE, hz⟩ := h
 exact ⟨log, L, ln, safe, up, C, cc, xs, cls, N, nl, nc, hb, hd, ⟨q, by omega, hR⟩, hE, hz⟩
def HB2 (w : World) (r wb q : Nat) (c : Client) (cb : Nat) (wx : World) : Prop :=
 ∃ (log : List Entry) (L : Option Addr) (ln : Nat) (safe : Int) (up : Bool) (C : Option Addr) (cc xn : Nat) (N : Option Addr) (nl nc : Nat) (x : RC),
  wx.heap[wb]? = some (.cells #[.slice L log.length ln, .int .i64 safe, .bool up, .slice C xn cc, .slice N nl nc] 93 (0, 0)) ∧ RdT 44 wx L ln log ∧ log.length ≤ 40 ∧ (∀ e ∈ log, OpW e.op) ∧ RcO wx w.heap.size x c ∧ wx.heap[cb]? = some (.cells #[.int .i64 x.who, .int .i64 x.seen, .slice x.b x.bl x.bn, .slice x.q x.ql x.qn, .int .i64 x.done, .int .i64 x.made] 30 (0, 0)) ∧ wx.heap[w.heap.size]? = some (.cells #[.int .i64 0, .int .i64 0, .slice none 0 0, .slice none 0 0, .int .i64 0, .int .i64 0] 30 (0, 0)) ∧ w.heap.size < cb ∧ r < cb ∧ Rdr wx r q ∧ Ext w wx
theorem RdT.keepR {α : Type} [Flat α] {e : TypeId} {w w' : World} {A : Option Addr} {c : Nat} {l : List α} (h : RdT e w A c l) (hk : KeepRE w w') (he : e = 47 ∨ e = 44) : RdT e w' A c l :=
 h.blk fun _ bb _ cs m _ h1 => (hk bb cs e m h1 he).trans h1.symm
theorem RcO.far {W W' : World} {base gl : Nat} {x : RC} {c : Client} (h : RcO W base x c) (hT : Turn (fun k => k = gl) W W') {cs : Array Value} {m : Nat × Nat} (hg : W.heap[gl]? = some (.cells cs 44 m)) (hne : ∀ k, (Value.slice x.q x.ql x.qn).ownBlock = some k → k ≠ gl) : RcO W' base x c := by
 obtain ⟨b, bn, q, qn, rfl, r1, r2⟩ := h
 refine ⟨b, bn, q, qn, rfl, r1.turn hT (fun k hk e => ?_), r2.turn hT (fun k hk e => hne k hk e)⟩
 obtain ⟨c1, m1, h1⟩ := r1.ty k hk
 have e' : k = gl := e
 subst e'
 rw [hg] at h1
 injection h1 with h1; injection h1 with _ h1
 exact absurd h1 (by decide)
def DHearP (w : World) (x : Ending) (w' : World) : Prop :=
 ∃ (c : Client) (v : Value) (frm : Int) (l : List Entry) (A : Option Addr) (n : Nat), x = .returned (.tuple #[v, .int .i64 frm, .slice A l.length n]) ∧ CV w' c v ∧ CW c ∧ Rd w' A n l ∧ (∀ e ∈ l, OpW e.op) ∧ l.length ≤ 40 ∧ 0 ≤ frm ∧ frm ≤ 41 ∧ Ext w w'
theorem dw_lower {W : World} {base base' : Nat} {log : List Entry} {L : Option Addr} {ln : Nat} {safe : Int} {C : Option Addr} {cc : Nat} {xs : List RC} {cls : List Client} (h : Dw W base log L ln safe C cc xs cls) (hb : base' ≤ base) : Dw W base' log L ln safe C cc xs cls :=
 ⟨h.flog, h.flen, h.fops, h.fs0, h.fs1, h.fcli, h.fpos, h.fthr, h.fcls.imp (fun x c h => h.lower hb), h.fok⟩
set_option maxRecDepth 100000 in
set_option maxHeartbeats 1600000 in
theorem drawHear_d (A : Option Addr) (n : Nat) (bs : List UInt8) (w : World) (hr : Rd w A n bs) (hA : ∀ b off, A = some ⟨b, off, none⟩ → b < w.heap.size) :
  Calls Tryd.prog 28 #[.slice A bs.length n] w (DHearP w) := by
 have hE1 : Ext w (w.alloc oC0) := (Below.refl _ _).alloc (Nat.le_refl _) _
 have HZ0 := Lib.hid (World.alloc_heap_new w oC0); have HE0 := Lib.hid hE1
 have hz1 := alloc_sz w oC0
 have HO := Lib.hid (open_d A n bs (w.alloc oC0) (hr.ext hE1) (fun b off e => by have := hA b off e; omega))
 clear hE1 hr hA
 go_enter Tryd.func28, Tryd.ntmps28
 go_wp2_with fail
 generalize (w.alloc oC0) = W0 at *
 refine HO.out.mono ?_
 rintro e w1 ⟨rfl, hr1, hb1⟩
 have hs1 := hb1.size
 rw [hz1] at hr1
 obtain ⟨r, hr⟩ : ∃ r, r = w.heap.size + 1 := ⟨_, rfl⟩
 rw [← hr] at hr1
 have HC := Lib.hid (world_d r 0 w1 hr1 (by omega))
 have HE1 := Lib.hid (HE0.out.trans (hb1.mono (by omega))); have HZ1 := Lib.hid ((hb1.block _ (blk_lt HZ0.out)).trans HZ0.out)
 have hrw : w.heap.size < r := by omega
 have hrl1 := hr1.lt
 clear hr1 hb1 HO
 go_wp2_with fail
 rw [← hr]
 clear hr
 refine HC.out.mono ?_
 rintro e w2 ⟨log, L, ln, safe, up, C, cc, xs, cls, N, nl, nc, q, rfl, hd, -, hq, hR, hg⟩
 have hs2 := hg.size
 have hE3 : Ext w2 (w2.alloc (.cells #[.slice L log.length ln, .int .i64 safe, .bool up, .slice C xs.length cc, .slice N nl nc] 93)) := (Below.refl _ _).alloc (Nat.le_refl _) _
 have hz3 := alloc_sz w2 (.cells #[.slice L log.length ln, .int .i64 safe, .bool up, .slice C xs.length cc, .slice N nl nc] 93)
 have hE2 : Ext w w2 := ext_grown HE1.out hg HE1.out.size (fun k e => by injection e with e; omega)
 have hz2 := (hg.block _ (blk_lt HZ1.out) (fun e => by injection e with e; omega)).trans HZ1.out
 have HB : Hid (HearB w r w2.heap.size 5001 (w2.alloc (.cells #[.slice L log.length ln, .int .i64 safe, .bool up, .slice C xs.length cc, .slice N nl nc] 93))) := ⟨log, L, ln, safe, up, C, cc, xs, cls, N, nl, nc, World.alloc_heap_new w2 (.cells #[.slice L log.length ln, .int .i64 safe, .bool up, .slice C xs.length cc, .slice N nl nc] 93), (dw_lower hd (by have := HE1.out.size; omega)).keep (KeepT.ext hE3), ⟨q, by omega, hR.ext hE3⟩, hE2.trans (hE3.mono hE2.size), (hE3.block _ (blk_lt hz2)).trans hz2⟩
 have hwb : w.heap.size < w2.heap.size := blk_lt hz2
 have hrb : r < w2.heap.size := hR.lt
 clear hd hR hg hE3 hE2 hz2 HC HE1 HZ1 HZ0 HE0
 go_upto_block 0 with fail
 generalize (w2.alloc (.cells #[.slice L log.length ln, .int .i64 safe, .bool up, .slice C xs.length cc, .slice N nl nc] 93)) = W3 at *
 go_cut [7] (fun s wx => HearB w r w2.heap.size 25005 wx)
 case first =>
  go_wp2_with fail
  go_loopg [7] 4 (fun gk i wr => ∃ k : Nat, k ≤ 4 ∧ Hid (gk = 4 - k) ∧ i = .int .i64 k ∧ Hid (HearB w r w2.heap.size (5001 * (k + 1)) wr))
  case atStart => exact ⟨0, by omega, rfl, rfl, HB.out⟩
  case round =>
   obtain ⟨k, hk, HK, rfl, HH⟩ := hrel
   have HEND : Hid (HearB w r w2.heap.size 25005 wr) := HH.out.mono (by omega)
   by_cases hlt : k < 4
   ·obtain ⟨log, L, ln, safe, up, C, cc, xs, cls, N, nl, nc, hb, hd, ⟨q, hq, hR⟩, hE, hz⟩ := HH.out
    have hki : (k : Int) < 4 := by omega
    go_wp2_with fail
    refine (pick_c r q 8 _ hR (by omega) ⟨by omega, by omega⟩).mono ?_
    rintro r9 w5 ⟨v, rfl, hv0, -, -, hR5, hg5⟩
    have hk5 : KeepT wr w5 := by
     obtain ⟨A, c9, bs, hbk, -⟩ := hR
     exact KeepT.grown hg5 hbk (by decide) (by decide) (by decide) (by decide)
    have hb5 := (hg5.block _ (blk_lt hb) (fun e => by injection e with e; omega)).trans hb
    have hz5 := (hg5.block _ (blk_lt hz) (fun e => by injection e with e; omega)).trans hz
    have hE5 : Ext w w5 := ext_grown hE hg5 hE.size (fun k e => by injection e with e; omega)
    have hd5 := hd.keep hk5
    have HH5 : Hid (HearB w r w2.heap.size (5001 * (k + 1) + 1) w5) := ⟨log, L, ln, safe, up, C, cc, xs, cls, N, nl, nc, hb5, hd5, ⟨q + 1, by omega, hR5⟩, hE5, hz5⟩
    have HEND5 : Hid (HearB w r w2.heap.size 25005 w5) := HH5.out.mono (by omega)
    have HB5 := Lib.hid hb5; have HZ5 := Lib.hid hz5; have HE5 := Lib.hid hE5; have HR5 := Lib.hid hR5
    clear hb hd hR hE hz hk5 hb5 hz5 hE5 hd5 hR5 hg5 HEND HH
    by_cases hv : 0 < v
    ·obtain ⟨b0, b1, b2, b3, b4, bf⟩ := five_cells HB5.out
     by_cases hs : safe = 0
     ·have hs' : (safe == 0) = true := by simp [hs]
      clear hs
      have HC := Lib.hid (world_d r (q + 1) w5 HR5.out (by omega))
      go_wp2_with fail
      refine HC.out.mono ?_
      clear b0 b1 b2 b3 b4 bf
      have HB5x := HB5; have HZ5x := HZ5; have HE5x := HE5
      rintro e w6 ⟨log2, L2, ln2, safe2, up2, C2, cc2, xs2, cls2, N2, nl2, nc2, q2, rfl, hd, hq20, hq2, hR, hg⟩
      have hb6 := (hg.block _ (blk_lt HB5.out) (fun e => by injection e with e; omega)).trans HB5.out
      have hz6 := (hg.block _ (blk_lt HZ5.out) (fun e => by injection e with e; omega)).trans HZ5.out
      have hE6 : Ext w w6 := ext_grown HE5.out hg HE5.out.size (fun k e => by injection e with e; omega)
      have hp := put5_at (.slice L2 log2.length ln2) (.int .i64 safe2) (.bool up2) (.slice C2 xs2.length cc2) (.slice N2 nl2 nc2) hb6
      have hg7 : w6.grownBy (put5 w6 w2.heap.size (.slice L2 log2.length ln2) (.int .i64 safe2) (.bool up2) (.slice C2 xs2.length cc2) (.slice N2 nl2 nc2)) (some w2.heap.size) := gset (gset (gset (gset (gset_any _ _ _ _) _ _) _ _) _ _) _ _
      have hk7 : KeepT w6 (put5 w6 w2.heap.size (.slice L2 log2.length ln2) (.int .i64 safe2) (.bool up2) (.slice C2 xs2.length cc2) (.slice N2 nl2 nc2)) := KeepT.grown hg7 hb6 (by decide) (by decide) (by decide) (by decide)
      have HF : Hid (HearB w r w2.heap.size (5001 * (k + 1 + 1)) (put5 w6 w2.heap.size (.slice L2 log2.length ln2) (.int .i64 safe2) (.bool up2) (.slice C2 xs2.length cc2) (.slice N2 nl2 nc2))) := ⟨log2, L2, ln2, safe2, up2, C2, cc2, xs2, cls2, N2, nl2, nc2, hp, (dw_lower hd HE5.out.size).keep hk7, ⟨q2, by omega, hR.other hg7 hrb⟩, ext_grown hE6 hg7 hE6.size (fun k e => by injection e with e; omega), (hg7.block _ (blk_lt hz6) (fun e => by injection e with e; omega)).trans hz6⟩
      obtain ⟨b0, b1, b2, b3, b4, bf⟩ := five_cells hb6
      clear hb6 hz6 hE6 hp hg7 hk7 hd hR hg HC
      go_wp2_with fail
      go_roundg (4 - (k + 1))
      case measure => have := HK.out; omega
      case rel => exact ⟨k + 1, by omega, rfl, by go_num, HF.out⟩
     ·have hs' : (safe == 0) = false := by simp [hs]
      clear hs
      go_wp2_with fail
      go_meet
      exact HEND5.out
    ·have hv' : ¬ (0 < v) := hv
     go_wp2_with fail
     go_meet
     exact HEND5.out
   ·have hki : ¬ ((k : Int) < 4) := by omega
    go_wp2_with fail
    go_meet
    exact HEND.out
 case rest =>
  clear HB
  obtain ⟨log, L, ln, safe, up, C, cc, xs, cls, N, nl, nc, hb, hd, ⟨q, hq, hR⟩, hE, hz⟩ := hcut
  obtain ⟨g, go, rfl, -⟩ := rc_at hd.fcli.1 0 hd.fpos
  have hxp := hd.fpos; have hx3 := hd.fthr
  have hEd : Ext wc wc.drew := (Below.refl _ _).drew
  obtain ⟨w3, hw3⟩ : ∃ W, W = wc.drew := ⟨_, rfl⟩
  have HD : Hid (Dw w3 w.heap.size log L ln safe (some ⟨g, go, none⟩) cc xs cls) := by rw [hw3]; exact hd.keep (KeepT.ext hEd)
  have HB3 : Hid (w3.heap[w2.heap.size]? = some (.cells #[.slice L log.length ln, .int .i64 safe, .bool up, .slice (some ⟨g, go, none⟩) xs.length cc, .slice N nl nc] 93 (0, 0))) := by rw [hw3]; exact hb
  have HZ3 : Hid (w3.heap[w.heap.size]? = some (.cells cC0 30 (0, 0))) := by rw [hw3]; exact hz
  have HE3 : Hid (Ext w w3) := by rw [hw3]; exact hE.trans (hEd.mono hE.size)
  have HR3 : Hid (Rdr w3 r q) := by rw [hw3]; exact hR.ext hEd
  have HD3 := HD
  have HS : Hid (w3.cell? ⟨w2.heap.size, 3, none⟩ = some (.slice (some ⟨g, go, none⟩) xs.length cc) ∧ Rd w3 (some ⟨g, go, none⟩) cc xs) := Lib.hid ⟨(five_cells HB3.out).2.2.2.1, HD.out.fcli.1⟩
  have hs3 : w2.heap.size < w3.heap.size := blk_lt HB3.out
  obtain ⟨b0, b1, b2, b3, b4, bf⟩ := five_cells hb
  clear hEd hd hR hE hz hb
  go_upto_region 7 with fail
  clear b0 b1 b2 b3 b4 bf
  go_cut [8] (fun s wx => ∃ (c : Client) (cb : Nat), CD c ∧ s = .pointer (some ⟨cb, 0, none⟩) ∧ HB2 w r w2.heap.size (q + 1) c cb wx)
  case first =>
   refine wp_region_B (fun w' => w'.cell? ⟨w2.heap.size, 3, none⟩ = some (.slice (some ⟨g, go, none⟩) xs.length cc) ∧ Rd w' (some ⟨g, go, none⟩) cc xs) 10 (by kernel_rfl) ?_
   rw [← hw3]
   clear hw3
   refine WB.take (i := 0) (v := ?_) rfl (by kernel_rfl) (by kernel_rfl) (by kernel_rfl) (by kernel_rfl) (fun _ _ _ h => h) HS.out (Or.inl ⟨by rfl, ?_⟩) ?_
   rotate_left
   ·(rintro w ⟨s0, s1⟩; go_simp; try with_reducible rfl)
   try simp only [Act.put, List.setIfInBounds_toArray, List.set_cons_zero, List.set_cons_succ]
   refine WB.take (i := 1) (v := ?_) rfl (by kernel_rfl) (by kernel_rfl) (by kernel_rfl) (by kernel_rfl) (fun _ _ _ h => h) HS.out (Or.inl ⟨by rfl, ?_⟩) ?_
   rotate_left
   ·(rintro w ⟨s0, s1⟩; go_simp; try with_reducible rfl)
   try simp only [Act.put, List.setIfInBounds_toArray, List.set_cons_zero, List.set_cons_succ]
   refine WB.take (i := 2) (v := ?_) rfl (by kernel_rfl) (by kernel_rfl) (by kernel_rfl) (by kernel_rfl) (fun _ _ _ h => h) HS.out (Or.inl ⟨by rfl, ?_⟩) ?_
   rotate_left
   ·(rintro w ⟨s0, s1⟩; go_simp; try with_reducible rfl)
   try simp only [Act.put, List.setIfInBounds_toArray, List.set_cons_zero, List.set_cons_succ]
   refine WB.take (i := 3) (v := ?_) rfl (by kernel_rfl) (by kernel_rfl) (by kernel_rfl) (by kernel_rfl) (fun _ _ _ h => h) HS.out (Or.inl ⟨by rfl, ?_⟩) ?_
   rotate_left
   ·(rintro w ⟨s0, s1⟩; go_simp; try with_reducible rfl)
   try simp only [Act.put, List.setIfInBounds_toArray, List.set_cons_zero, List.set_cons_succ]
   refine WB.take (i := 4) (v := ?_) rfl (by kernel_rfl) (by kernel_rfl) (by kernel_rfl) (by kernel_rfl) (fun _ _ _ h => h) HS.out (Or.inl ⟨by rfl, ?_⟩) ?_
   rotate_left
   ·(rintro w ⟨s0, s1⟩; go_simp; try with_reducible rfl)
   try simp only [Act.put, List.setIfInBounds_toArray, List.set_cons_zero, List.set_cons_succ]
   refine WB.take (i := 5) (v := ?_) rfl (by kernel_rfl) (by kernel_rfl) (by kernel_rfl) (by kernel_rfl) (fun _ _ _ h => h) HS.out (Or.inl ⟨by rfl, ?_⟩) ?_
   rotate_left
   ·(rintro w ⟨s0, s1⟩; go_simp; try with_reducible rfl)
   try simp only [Act.put, List.setIfInBounds_toArray, List.set_cons_zero, List.set_cons_succ]
   refine WB.two (i := 6) (j := 9) (by kernel_rfl) rfl rfl (fun K hK => ?_) (fun K hK => ?_)
   ·have HKK := Lib.hid hK
    clear hK
    go_simp
    refine (pick_c r q (xs.length : Int) _ HR3.out (by omega) ⟨by omega, by omega⟩).mono ?_
    rintro r9 w5 ⟨v, rfl, hv0, hv1, -, hR, hg⟩
    have hvb := hv1 (by omega)
    refine Exists.elim (⟨v.toNat, by omega⟩ : ∃ kk : Nat, v = kk) ?_
    intro kk hkk
    rw [hkk]
    have hkx : kk < xs.length := by omega
    have hki : (kk : Int) < xs.length := by omega
    have hkc : kk < cls.length := by have := HD.out.fcls.1; omega
    clear hv1 hkk hvb hv0
    have hk5 : KeepT w3 w5 := by
     obtain ⟨A, c, bs, hbk, -⟩ := HR3.out
     exact KeepT.grown hg hbk (by decide) (by decide) (by decide) (by decide)
    have HD5 := Lib.hid (HD3.out.keep hk5)
    have HB5 := Lib.hid ((hg.block _ (blk_lt HB3.out) (fun e => by injection e with e; omega)).trans HB3.out)
    have HZ5 := Lib.hid ((hg.block _ (blk_lt HZ3.out) (fun e => by injection e with e; omega)).trans HZ3.out)
    have HE5 := Lib.hid (ext_grown HE3.out hg HE3.out.size (fun k e => by injection e with e; omega)); have HR5 := Lib.hid hR
    have HS5 : Hid (w5.cell? ⟨w2.heap.size, 3, none⟩ = some (.slice (some ⟨g, go, none⟩) xs.length cc) ∧ Rd w5 (some ⟨g, go, none⟩) cc xs) := Lib.hid ⟨(five_cells HB5.out).2.2.2.1, HD5.out.fcli.1⟩
    refine HKK.out _ _ ⟨fun _ => HS5.out, ?_⟩
    clear HKK K hg hR hk5
    try simp only [Act.put, List.setIfInBounds_toArray, List.set_cons_zero, List.set_cons_succ]
    refine WB.takeP (i := 7) (v := ?_) rfl (by kernel_rfl) (by kernel_rfl) (by kernel_rfl) (by kernel_rfl) (fun _ _ _ h => h) HS5.out (Or.inl ⟨by rfl, ?_⟩) ?_
    rotate_left
    ·(rintro w -; go_simp; try with_reducible rfl)
    try simp only [Act.put, List.setIfInBounds_toArray, List.set_cons_zero, List.set_cons_succ]
    refine WB.take (i := 8) (v := ?_) rfl (by kernel_rfl) (by kernel_rfl) (by kernel_rfl) (by kernel_rfl) (fun _ _ _ h => h) HS5.out (Or.inl ⟨by rfl, ?_⟩) ?_
    rotate_left
    ·rintro w ⟨s0, s1⟩
     obtain ⟨xb, xo, he9, hbx9, x0, x1, x2, x3, x4, x5⟩ := rc_at s1 kk hkx
     injection he9 with he9; injection he9 with he91 he92; subst he91; subst he92
     go_simp
     try with_reducible rfl
    try simp only [Act.put, List.setIfInBounds_toArray, List.set_cons_zero, List.set_cons_succ]
    have hE6 : Ext w5 (w5.alloc oC0) := (Below.refl _ _).alloc (Nat.le_refl _) _
    have hs5 := HE5.out.size
    have HCB := Lib.hid (World.alloc_heap_new w5 oC0)
    have hrw5 := HR5.out.lt
    have hzw5 := blk_lt HZ5.out; have hbw5 := blk_lt HB5.out
    have HS6 : Hid ((w5.alloc oC0).cell? ⟨w2.heap.size, 3, none⟩ = some (.slice (some ⟨g, go, none⟩) xs.length cc) ∧ Rd (w5.alloc oC0) (some ⟨g, go, none⟩) cc xs) := Lib.hid ⟨(five_cells ((hE6.block _ (blk_lt HB5.out)).trans HB5.out)).2.2.2.1, HD5.out.fcli.1.ext hE6⟩
    refine WB.one (i := 9) (by kernel_rfl) rfl (fun K hK => ?_)
    have HKK := Lib.hid hK
    clear hK
    go_simp
    refine HKK.out _ _ ⟨fun _ => HS6.out, ?_⟩
    clear HKK K hE6 HS5
    try simp only [Act.put, List.setIfInBounds_toArray, List.set_cons_zero, List.set_cons_succ]
    have hE9 : Ext w5 (w5.alloc (oR xs[kk])) := (Below.refl _ _).alloc (Nat.le_refl _) _
    have HF : Hid (HB2 w r w2.heap.size (q + 1) cls[kk] w5.heap.size (w5.alloc (oR xs[kk]))) := ⟨log, L, ln, safe, up, (some ⟨g, go, none⟩), cc, xs.length, N, nl, nc, xs[kk], (hE9.block _ (blk_lt HB5.out)).trans HB5.out, HD5.out.flog.ext hE9, HD5.out.flen, HD5.out.fops, (HD5.out.fcls.2 kk hkx hkc).ext hE9, World.alloc_heap_new w5 (oR xs[kk]), (hE9.block _ (blk_lt HZ5.out)).trans HZ5.out, by omega, by omega, HR5.out.ext hE9, HE5.out.trans (hE9.mono HE5.out.size)⟩
    have HCD := Lib.hid (HD5.out.fok _ (List.getElem_mem hkc))
    clear hE9
    have z0 := (six_cells HCB.out).1
    have z1 := (six_cells HCB.out).2.1
    have z2 := (six_cells HCB.out).2.2.1
    have z3 := (six_cells HCB.out).2.2.2.1
    have z4 := (six_cells HCB.out).2.2.2.2.1
    have z5 := (six_cells HCB.out).2.2.2.2.2.1
    have zf := (six_cells HCB.out).2.2.2.2.2.2
    refine WB.one (i := 10) (by kernel_rfl) rfl (fun K hK => ?_)
    have HKK := Lib.hid hK
    clear hK
    go_simp
    refine HKK.out _ _ ⟨fun h => (no_late h (by kernel_rfl)).elim, ?_⟩
    clear HKK K z0 z1 z2 z3 z4 z5 zf
    refine WB.done (by kernel_rfl) ?_
    go_wp2_with fail
    go_meet
    exact ⟨cls[kk], w5.heap.size, HCD.out, rfl, HF.out⟩
   ·have HKK := Lib.hid hK
    clear hK
    have hE4 : Ext w3 (w3.alloc oC0) := (Below.refl _ _).alloc (Nat.le_refl _) _
    have HC4 := Lib.hid (World.alloc_heap_new w3 oC0)
    have HD4 := Lib.hid (HD.out.keep (KeepT.ext hE4)); have HB4 := Lib.hid ((hE4.block _ (blk_lt HB3.out)).trans HB3.out); have HZ4 := Lib.hid ((hE4.block _ (blk_lt HZ3.out)).trans HZ3.out)
    have HE4 := Lib.hid (HE3.out.trans (hE4.mono HE3.out.size)); have HR4 := Lib.hid (HR3.out.ext hE4)
    have hs34 := HE3.out.size
    have hrl3 := HR3.out.lt
    have hzl3 := blk_lt HZ3.out
    have HS4 : Hid ((w3.alloc oC0).cell? ⟨w2.heap.size, 3, none⟩ = some (.slice (some ⟨g, go, none⟩) xs.length cc) ∧ Rd (w3.alloc oC0) (some ⟨g, go, none⟩) cc xs) := Lib.hid ⟨(five_cells HB4.out).2.2.2.1, HD4.out.fcli.1⟩
    go_simp
    refine HKK.out _ _ ⟨fun _ => HS4.out, ?_⟩
    clear HKK K HS
    try simp only [Act.put, List.setIfInBounds_toArray, List.set_cons_zero, List.set_cons_succ]
    generalize (w3.alloc oC0) = w4 at *
    have hlc := blk_lt HC4.out
    refine WB.one (i := 6) (by kernel_rfl) rfl (fun K hK => ?_)
    have HKK := Lib.hid hK
    clear hK
    go_simp
    refine (pick_c r q (xs.length : Int) _ HR4.out (by omega) ⟨by omega, by omega⟩).mono ?_
    rintro r9 w5 ⟨v, rfl, hv0, hv1, -, hR, hg⟩
    have hvb := hv1 (by omega)
    refine Exists.elim (⟨v.toNat, by omega⟩ : ∃ kk : Nat, v = kk) ?_
    intro kk hkk
    rw [hkk]
    have hkx : kk < xs.length := by omega
    have hki : (kk : Int) < xs.length := by omega
    have hkc : kk < cls.length := by have := HD.out.fcls.1; omega
    clear hv1 hkk hvb hv0
    have hk5 : KeepT w4 w5 := by
     obtain ⟨A, c, bs, hbk, -⟩ := HR4.out
     exact KeepT.grown hg hbk (by decide) (by decide) (by decide) (by decide)
    have HD5 := Lib.hid (HD4.out.keep hk5)
    have HB5 := Lib.hid ((hg.block _ (blk_lt HB4.out) (fun e => by injection e with e; omega)).trans HB4.out)
    have HZ5 := Lib.hid ((hg.block _ (blk_lt HZ4.out) (fun e => by injection e with e; omega)).trans HZ4.out)
    have HE5 := Lib.hid (ext_grown HE4.out hg HE4.out.size (fun k e => by injection e with e; omega)); have HR5 := Lib.hid hR
    have HCB := Lib.hid ((hg.block _ hlc (fun e => by injection e with e; omega)).trans HC4.out)
    have HS5 : Hid (w5.cell? ⟨w2.heap.size, 3, none⟩ = some (.slice (some ⟨g, go, none⟩) xs.length cc) ∧ Rd w5 (some ⟨g, go, none⟩) cc xs) := Lib.hid ⟨(five_cells HB5.out).2.2.2.1, HD5.out.fcli.1⟩
    refine HKK.out _ _ ⟨fun _ => HS5.out, ?_⟩
    clear HKK K HS4 hg hR hk5 hE4
    try simp only [Act.put, List.setIfInBounds_toArray, List.set_cons_zero, List.set_cons_succ]
    refine WB.takeP (i := 7) (v := ?_) rfl (by kernel_rfl) (by kernel_rfl) (by kernel_rfl) (by kernel_rfl) (fun _ _ _ h => h) HS5.out (Or.inl ⟨by rfl, ?_⟩) ?_
    rotate_left
    ·(rintro w -; go_simp; try with_reducible rfl)
    try simp only [Act.put, List.setIfInBounds_toArray, List.set_cons_zero, List.set_cons_succ]
    refine WB.take (i := 8) (v := ?_) rfl (by kernel_rfl) (by kernel_rfl) (by kernel_rfl) (by kernel_rfl) (fun _ _ _ h => h) HS5.out (Or.inl ⟨by rfl, ?_⟩) ?_
    rotate_left
    ·rintro w ⟨s0, s1⟩
     obtain ⟨xb, xo, he9, hbx9, x0, x1, x2, x3, x4, x5⟩ := rc_at s1 kk hkx
     injection he9 with he9; injection he9 with he91 he92; subst he91; subst he92
     go_simp
     try with_reducible rfl
    try simp only [Act.put, List.setIfInBounds_toArray, List.set_cons_zero, List.set_cons_succ]
    have hp6 := put6_at (.int .i64 xs[kk].who) (.int .i64 xs[kk].seen) (.slice xs[kk].b xs[kk].bl xs[kk].bn) (.slice xs[kk].q xs[kk].ql xs[kk].qn) (.int .i64 xs[kk].done) (.int .i64 xs[kk].made) HCB.out
    have hg6 : w5.grownBy (put6 w5 w3.heap.size (.int .i64 xs[kk].who) (.int .i64 xs[kk].seen) (.slice xs[kk].b xs[kk].bl xs[kk].bn) (.slice xs[kk].q xs[kk].ql xs[kk].qn) (.int .i64 xs[kk].done) (.int .i64 xs[kk].made)) (some w3.heap.size) := gset (gset (gset (gset (gset (gset_any _ _ _ _) _ _) _ _) _ _) _ _) _ _
    have hk6 : KeepRE w5 (put6 w5 w3.heap.size (.int .i64 xs[kk].who) (.int .i64 xs[kk].seen) (.slice xs[kk].b xs[kk].bl xs[kk].bn) (.slice xs[kk].q xs[kk].ql xs[kk].qn) (.int .i64 xs[kk].done) (.int .i64 xs[kk].made)) := KeepRE.grown hg6 HCB.out (by decide) (by decide)
    have HF : Hid (HB2 w r w2.heap.size (q + 1) cls[kk] w3.heap.size (put6 w5 w3.heap.size (.int .i64 xs[kk].who) (.int .i64 xs[kk].seen) (.slice xs[kk].b xs[kk].bl xs[kk].bn) (.slice xs[kk].q xs[kk].ql xs[kk].qn) (.int .i64 xs[kk].done) (.int .i64 xs[kk].made))) := ⟨log, L, ln, safe, up, (some ⟨g, go, none⟩), cc, xs.length, N, nl, nc, xs[kk], (hg6.block _ (blk_lt HB5.out) (by intro e; injection e with e; omega)).trans HB5.out, HD5.out.flog.keepR hk6 (.inr rfl), HD5.out.flen, HD5.out.fops, (HD5.out.fcls.2 kk hkx hkc).keepR hk6, hp6, (hg6.block _ (blk_lt HZ5.out) (by intro e; injection e with e; omega)).trans HZ5.out, by omega, by omega, HR5.out.other hg6 (by omega), ext_grown HE5.out hg6 HE5.out.size (fun k e => by injection e with e; omega)⟩
    have HCD := Lib.hid (HD5.out.fok _ (List.getElem_mem hkc))
    clear hp6 hg6 hk6
    have z0 := (six_cells HCB.out).1
    have z1 := (six_cells HCB.out).2.1
    have z2 := (six_cells HCB.out).2.2.1
    have z3 := (six_cells HCB.out).2.2.2.1
    have z4 := (six_cells HCB.out).2.2.2.2.1
    have z5 := (six_cells HCB.out).2.2.2.2.2.1
    have zf := (six_cells HCB.out).2.2.2.2.2.2
    refine WB.one (i := 10) (by kernel_rfl) rfl (fun K hK => ?_)
    have HKK := Lib.hid hK
    clear hK
    go_simp
    refine HKK.out _ _ ⟨fun h => (no_late h (by kernel_rfl)).elim, ?_⟩
    clear HKK K z0 z1 z2 z3 z4 z5 zf
    refine WB.done (by kernel_rfl) ?_
    go_wp2_with fail
    go_meet
    exact ⟨cls[kk], w3.heap.size, HCD.out, rfl, HF.out⟩
  case rest =>
   clear HS HD HD3 HB3 HZ3 HE3 HR3 hs3 hw3
   obtain ⟨c, cb, hcd, rfl, log, L, ln, safe, up, C, cc, xn, N, nl, nc, x, hb, hl, hll, hop, hx, hcx, hz, hcw, hrc, hR, hE⟩ := hcut
   have hEd : Ext wc wc.drew := (Below.refl _ _).drew
   obtain ⟨w3, hw3⟩ : ∃ W, W = wc.drew := ⟨_, rfl⟩
   have HB3 : Hid (w3.heap[w2.heap.size]? = some (.cells #[.slice L log.length ln, .int .i64 safe, .bool up, .slice C xn cc, .slice N nl nc] 93 (0, 0))) := by rw [hw3]; exact hb
   have HL3 : Hid (RdT 44 w3 L ln log) := by rw [hw3]; exact hl.ext hEd
   have HX3 : Hid (RcO w3 w.heap.size x c) := by rw [hw3]; exact hx.ext hEd
   have HC3 : Hid (w3.heap[cb]? = some (.cells (cR x) 30 (0, 0))) := by rw [hw3]; exact hcx
   have HZ3 : Hid (w3.heap[w.heap.size]? = some (.cells cC0 30 (0, 0))) := by rw [hw3]; exact hz
   have HE3 : Hid (Ext w w3) := by rw [hw3]; exact hE.trans (hEd.mono hE.size)
   have HR3 : Hid (Rdr w3 r (q + 1)) := by rw [hw3]; exact hR.ext hEd
   have HCD := Lib.hid hcd; have HOP := Lib.hid hop
   have hxs : x.seen = c.seen := by obtain ⟨b, bn, qq, qn, he, -, -⟩ := hx; rw [he]
   have hxw : x.who = c.who := by obtain ⟨b, bn, qq, qn, he, -, -⟩ := hx; rw [he]
   have hse0 := hcd.2.2.2.1; have hse1 := hcd.2.2.2.2
   have HXS := Lib.hid hxs; have HXW := Lib.hid hxw
   have hxs0 : -100 ≤ x.seen := by omega
   have hxs1 : x.seen ≤ 100 := by omega
   have HS : Hid (w3.cell? ⟨cb, 1, none⟩ = some (.int .i64 x.seen) ∧ w3.cell? ⟨w2.heap.size, 0, none⟩ = some (.slice L log.length ln)) := Lib.hid ⟨(six_cells HC3.out).2.1, (five_cells HB3.out).1⟩
   clear hEd hb hl hx hcx hz hE hR hcd hop hxs hxw hse0 hse1
   go_upto_region 8 with fail
   refine wp_region_B (fun w' => w'.cell? ⟨cb, 1, none⟩ = some (.int .i64 x.seen) ∧ w'.cell? ⟨w2.heap.size, 0, none⟩ = some (.slice L log.length ln)) 11 (by kernel_rfl) ?_
   rw [← hw3]
   clear hw3
   refine WB.take (i := 0) (v := ?_) rfl (by kernel_rfl) (by kernel_rfl) (by kernel_rfl) (by kernel_rfl) (fun _ _ _ h => h) HS.out (Or.inl ⟨by rfl, ?_⟩) ?_
   rotate_left
   ·(rintro w ⟨s0, s1⟩; go_simp; try with_reducible rfl)
   try simp only [Act.put, List.setIfInBounds_toArray, List.set_cons_zero, List.set_cons_succ]
   refine WB.take (i := 1) (v := ?_) rfl (by kernel_rfl) (by kernel_rfl) (by kernel_rfl) (by kernel_rfl) (fun _ _ _ h => h) HS.out (Or.inl ⟨by rfl, ?_⟩) ?_
   rotate_left
   ·(rintro w ⟨s0, s1⟩; go_simp; try with_reducible rfl)
   try simp only [Act.put, List.setIfInBounds_toArray, List.set_cons_zero, List.set_cons_succ]
   refine WB.take (i := 2) (v := ?_) rfl (by kernel_rfl) (by kernel_rfl) (by kernel_rfl) (by kernel_rfl) (fun _ _ _ h => h) HS.out (Or.inl ⟨by rfl, ?_⟩) ?_
   rotate_left
   ·(rintro w ⟨s0, s1⟩; go_simp; try with_reducible rfl)
   try simp only [Act.put, List.setIfInBounds_toArray, List.set_cons_zero, List.set_cons_succ]
   refine WB.take (i := 6) (v := ?_) rfl (by kernel_rfl) (by kernel_rfl) (by kernel_rfl) (by kernel_rfl) (fun _ _ _ h => h) HS.out (Or.inl ⟨by rfl, ?_⟩) ?_
   rotate_left
   ·(rintro w ⟨s0, s1⟩; go_simp; try with_reducible rfl)
   try simp only [Act.put, List.setIfInBounds_toArray, List.set_cons_zero, List.set_cons_succ]
   refine WB.take (i := 7) (v := ?_) rfl (by kernel_rfl) (by kernel_rfl) (by kernel_rfl) (by kernel_rfl) (fun _ _ _ h => h) HS.out (Or.inl ⟨by rfl, ?_⟩) ?_
   rotate_left
   ·(rintro w ⟨s0, s1⟩; go_simp; try with_reducible rfl)
   try simp only [Act.put, List.setIfInBounds_toArray, List.set_cons_zero, List.set_cons_succ]
   refine WB.take (i := 8) (v := ?_) rfl (by kernel_rfl) (by kernel_rfl) (by kernel_rfl) (by kernel_rfl) (fun _ _ _ h => h) HS.out (Or.inl ⟨by rfl, ?_⟩) ?_
   rotate_left
   ·(rintro w ⟨s0, s1⟩; go_simp; try with_reducible rfl)
   try simp only [Act.put, List.setIfInBounds_toArray, List.set_cons_zero, List.set_cons_succ]
   refine WB.take (i := 9) (v := ?_) rfl (by kernel_rfl) (by kernel_rfl) (by kernel_rfl) (by kernel_rfl) (fun _ _ _ h => h) HS.out (Or.inl ⟨by rfl, ?_⟩) ?_
   rotate_left
   ·(rintro w ⟨s0, s1⟩; go_simp; try with_reducible rfl)
   try simp only [Act.put, List.setIfInBounds_toArray, List.set_cons_zero, List.set_cons_succ]
   refine WB.one (i := 3) (by kernel_rfl) rfl (fun K hK => ?_)
   have HKK := Lib.hid hK
   clear hK
   go_simp
   refine (pick_c r (q + 1) 3 _ HR3.out (by omega) ⟨by omega, by omega⟩).mono ?_
   rintro r9 w5 ⟨v, rfl, hv0, hv1, -, hR, hg⟩
   have hvb := hv1 (by omega)
   have hk5 : KeepT w3 w5 := by
    obtain ⟨A, c9, bs, hbk, -⟩ := HR3.out
    exact KeepT.grown hg hbk (by decide) (by decide) (by decide) (by decide)
   have HB5 := Lib.hid ((hg.block _ (blk_lt HB3.out) (fun e => by injection e with e; omega)).trans HB3.out)
   have HC5 := Lib.hid ((hg.block _ (blk_lt HC3.out) (fun e => by injection e with e; omega)).trans HC3.out)
   have HZ5 := Lib.hid ((hg.block _ (blk_lt HZ3.out) (fun e => by injection e with e; omega)).trans HZ3.out)
   have HL5 := Lib.hid (HL3.out.keep hk5 (.inr (.inl rfl))); have HX5 := Lib.hid (HX3.out.keep hk5)
   have HE5 := Lib.hid (ext_grown HE3.out hg HE3.out.size (fun k e => by injection e with e; omega)); have HR5 := Lib.hid hR
   clear hk5 hg hR
   have hwv : IntKind.i64.wrap (x.seen - v) = x.seen - v := by rw [IntKind.wrap_i64]; omega
   have HS5 : Hid (w5.cell? ⟨cb, 1, none⟩ = some (.int .i64 x.seen) ∧ w5.cell? ⟨w2.heap.size, 0, none⟩ = some (.slice L log.length ln)) := Lib.hid ⟨(six_cells HC5.out).2.1, (five_cells HB5.out).1⟩
   refine HKK.out _ _ ⟨fun _ => HS5.out, ?_⟩
   clear HKK K HS
   try simp only [Act.put, List.setIfInBounds_toArray, List.set_cons_zero, List.set_cons_succ]
   refine WB.takeP (i := 4) (v := ?_) rfl (by kernel_rfl) (by kernel_rfl) (by kernel_rfl) (by kernel_rfl) (fun _ _ _ h => h) HS5.out (Or.inl ⟨by rfl, ?_⟩) ?_
   rotate_left
   ·(rintro w -; go_simp; try with_reducible rfl)
   try simp only [Act.put, List.setIfInBounds_toArray, List.set_cons_zero, List.set_cons_succ]
   refine WB.takeP (i := 5) (v := ?_) rfl (by kernel_rfl) (by kernel_rfl) (by kernel_rfl) (by kernel_rfl) (fun _ _ _ h => h) HS5.out (Or.inl ⟨by rfl, ?_⟩) ?_
   rotate_left
   ·(rintro w -; go_simp; try with_reducible rfl)
   try simp only [Act.put, List.setIfInBounds_toArray, List.set_cons_zero, List.set_cons_succ]
   refine WB.takeP (i := 10) (v := ?_) rfl (by kernel_rfl) (by kernel_rfl) (by kernel_rfl) (by kernel_rfl) (fun _ _ _ h => h) HS5.out (Or.inl ⟨by rfl, ?_⟩) ?_
   rotate_left
   ·(rintro w -; go_simp; try with_reducible rfl)
   try simp only [Act.put, List.setIfInBounds_toArray, List.set_cons_zero, List.set_cons_succ]
   refine WB.one (i := 11) (by kernel_rfl) rfl (fun K hK => ?_)
   have HKK := Lib.hid hK
   clear hK
   go_simp
   refine HKK.out _ _ ⟨fun h => (no_late h (by kernel_rfl)).elim, ?_⟩
   clear HKK K HS5
   refine WB.done (by kernel_rfl) ?_
   refine Exists.elim (⟨(min (max (x.seen - v) 0) (log.length : Int)).toNat, by omega⟩ : ∃ f : Nat, min (max (x.seen - v) 0) (log.length : Int) = f) ?_
   intro f hf
   rw [hf]
   have hfl : f ≤ log.length := by omega
   have hsl : ∀ W : World, (Instr.slice 23 (.slice L log.length ln) (some (.int .i64 (f : Int))) none none).run Tryd.prog W = .ok (.slice (fromA L ln f 7) (log.length - f) (ln - f)) W := fun W => run_cut el_ent L log.length ln f hfl W
   have hE6 : Ext w5 (w5.alloc (.cells #[] 44)) := (Below.refl _ _).alloc (Nat.le_refl _) _
   have o0 := own_made (e := 44) (α := Entry) w5 w5.heap.size (Nat.le_refl _)
   obtain ⟨v7, w7, hrun, o7, g7⟩ := app_at el_ent o0 ((HL5.out.1.ext hE6).from_ f hfl) (by simp; omega) hE6.size
   rw [show (log.drop f).length = log.length - f by simp] at hrun
   rw [List.nil_append] at o7
   have hE7 : Ext w5 w7 := o0.over hE6 g7 (Nat.le_refl _) hE6.size
   obtain ⟨lf, hlf⟩ : ∃ lf, lf = log.drop f := ⟨_, rfl⟩
   have HOPL : Hid (∀ e ∈ lf, OpW e.op) := fun e he => HOP.out e (List.mem_of_mem_drop (by rw [hlf] at he; exact he))
   have hlfl : lf.length ≤ 40 := by rw [hlf, List.length_drop]; omega
   have hff : f ≤ 40 := by omega
   rw [← hlf] at o7
   obtain ⟨Lf, nf, hv7, -⟩ := o7.rd
   subst hv7
   have hs5 := HE5.out.size
   have HNQ : Hid (∀ k, (Value.slice x.q x.ql x.qn).ownBlock = some k → Lf.map Addr.block ≠ some k) := fun k hk hLf => by
    obtain ⟨b, bn, qq, qn, he, r1, r2⟩ := HX5.out
    rw [he] at hk
    have h1 := (r2.blk k hk).2
    have h2 := (o7.blk k (by rw [ob_map]; exact hLf)).1
    omega
   have HL7 := Lib.hid (o7.lower (base' := w.heap.size) hs5)
   have HB7 := Lib.hid ((hE7.block _ (blk_lt HB5.out)).trans HB5.out); have HC7 := Lib.hid ((hE7.block _ (blk_lt HC5.out)).trans HC5.out); have HZ7 := Lib.hid ((hE7.block _ (blk_lt HZ5.out)).trans HZ5.out)
   have HX7 := Lib.hid (HX5.out.ext hE7); have HE7 := Lib.hid (HE5.out.trans (hE7.mono hs5)); have HR7 := Lib.hid (HR5.out.ext hE7)
   have HRUN := Lib.hid hrun
   have hbw5 := blk_lt HB5.out
   obtain ⟨b0, b1, b2, b3, b4, bf⟩ := five_cells ((hE6.block _ (blk_lt HB5.out)).trans HB5.out)
   clear hf o0 o7 g7 hrun hE6 hE7 hlf hwv hv0 hv1 hvb
   go_wp2_with (at_builtin; refine wpList_append_run rfl _ _ _ rfl rfl rfl HRUN.out ?_)
   refine (pick_c r (q + 1 + 1) 12 _ HR7.out (by omega) ⟨by omega, by omega⟩).mono ?_
   clear b0 b1 b2 b3 b4 bf hsl HRUN HB3 HL3 HX3 HC3 HZ3 HE3 HR3 HB5 HC5 HZ5 HX5 HE5 HR5 HL5
   rintro r9 w8 ⟨v, rfl, hv0, hv1, -, hR, hg⟩
   have hk8 : KeepT w7 w8 := by
    obtain ⟨A, c9, bs, hbk, -⟩ := HR7.out
    exact KeepT.grown hg hbk (by decide) (by decide) (by decide) (by decide)
   have HB8 := Lib.hid ((hg.block _ (blk_lt HB7.out) (fun e => by injection e with e; omega)).trans HB7.out)
   have HC8 := Lib.hid ((hg.block _ (blk_lt HC7.out) (fun e => by injection e with e; omega)).trans HC7.out)
   have HZ8 := Lib.hid ((hg.block _ (blk_lt HZ7.out) (fun e => by injection e with e; omega)).trans HZ7.out)
   have HL8 := Lib.hid (HL7.out.keep hk8 (.inr (.inl rfl))); have HX8 := Lib.hid (HX7.out.keep hk8)
   have HE8 := Lib.hid (ext_grown HE7.out hg HE7.out.size (fun k e => by injection e with e; omega)); have HR8 := Lib.hid hR
   clear hk8 hg hR
   have hcl := blk_lt HC8.out
   by_cases h0 : v = 0
   ·subst h0
    have hwf : IntKind.i64.wrap ((f : Int) + 1) = (f : Int) + 1 := by rw [IntKind.wrap_i64]; omega
    have hz := put6_at (.int .i64 x.who) (.int .i64 x.seen) (.slice x.b x.bl x.bn) (.slice x.q x.ql x.qn) (.int .i64 x.done) (.int .i64 x.made) HZ8.out
    have hg : w8.grownBy (put6 w8 w.heap.size (.int .i64 x.who) (.int .i64 x.seen) (.slice x.b x.bl x.bn) (.slice x.q x.ql x.qn) (.int .i64 x.done) (.int .i64 x.made)) (some w.heap.size) := gset (gset (gset (gset (gset (gset_any _ _ _ _) _ _) _ _) _ _) _ _) _ _
    have hk := KeepRE.grown hg HZ8.out (by decide) (by decide)
    have HF : Hid (DHearP w (.returned (.tuple #[.agg (cR x), .int .i64 ((f : Int) + 1), .slice Lf lf.length nf])) (put6 w8 w.heap.size (.int .i64 x.who) (.int .i64 x.seen) (.slice x.b x.bl x.bn) (.slice x.q x.ql x.qn) (.int .i64 x.done) (.int .i64 x.made))) := ⟨c, _, ((f : Int) + 1), lf, Lf, nf, rfl, (RcO.co (RcO.keepR HX8.out hk)).cv, HCD.out.1, (Own.keepR HL8.out hk (.inr rfl)).rdT.1, HOPL.out, by omega, by omega, by omega, ext_grown HE8.out hg (Below.size HE8.out) (fun k e => by injection e with e; omega)⟩
    have HZz := Lib.hid hz
    obtain ⟨c0, c1, c2, c3, c4, c5, cf⟩ := six_cells HC8.out
    obtain ⟨d0, d1, d2, d3, d4, d5, df⟩ := six_cells HZ8.out
    clear hz hg hk
    go_wp2_with fail
    obtain ⟨k0, k1, k2, k3, k4, k5, kf⟩ := six_cells HZz.out
    refine bodyPost_ret (v := .tuple #[.agg (cR x), .int .i64 ((f : Int) + 1), .slice Lf lf.length nf]) ?_ rfl ?_
    ·simp [results, Tryd.f28, go_sem, k0, k1, k2, k3, k4, k5]
    ·exact HF.out
   have q0 : (v == 0) = false := by simp [h0]
   by_cases h1 : v = 1
   ·subst h1
    by_cases hlp : 0 < lf.length
    ·have hlpi : (0 : Int) < lf.length := by omega
     obtain ⟨gl, rfl⟩ := HL8.out.at0w hlp
     clear h0 q0
     have hEd : Ext w8 w8.drew := (Below.refl _ _).drew
     obtain ⟨w9, hw9⟩ : ∃ W, W = w8.drew := ⟨_, rfl⟩
     have HB9 : Hid (w9.heap[w2.heap.size]? = some (.cells #[.slice L log.length ln, .int .i64 safe, .bool up, .slice C xn cc, .slice N nl nc] 93 (0, 0))) := by rw [hw9]; exact HB8.out
     have HL9 : Hid (Own 44 w9 w.heap.size (.slice (some ⟨gl, 0, none⟩) lf.length nf) lf) := by rw [hw9]; exact HL8.out.below hEd
     have HX9 : Hid (RcO w9 w.heap.size x c) := by rw [hw9]; exact HX8.out.ext hEd
     have HC9 : Hid (w9.heap[cb]? = some (.cells (cR x) 30 (0, 0))) := by rw [hw9]; exact HC8.out
     have HZ9 : Hid (w9.heap[w.heap.size]? = some (.cells cC0 30 (0, 0))) := by rw [hw9]; exact HZ8.out
     have HE9 : Hid (Ext w w9) := by rw [hw9]; exact HE8.out.trans (hEd.mono HE8.out.size)
     have HR9 : Hid (Rdr w9 r (q + 1 + 1 + 1)) := by rw [hw9]; exact HR8.out.ext hEd
     have HS : Hid (w9.cell? ⟨cb, 0, none⟩ = some (.int .i64 x.who)) := Lib.hid (six_cells HC9.out).1
     clear hEd hv0 hv1
     go_upto_region 15 with fail
     refine wp_region_B (fun w' => w'.cell? ⟨cb, 0, none⟩ = some (.int .i64 x.who)) 9 (by kernel_rfl) ?_
     rw [← hw9]
     clear hw9
     refine WB.take (i := 0) (v := ?_) rfl (by kernel_rfl) (by kernel_rfl) (by kernel_rfl) (by kernel_rfl) (fun _ _ _ h => h) HS.out (Or.inl ⟨by rfl, ?_⟩) ?_
     rotate_left
     ·(rintro w s0; go_simp; try with_reducible rfl)
     try simp only [Act.put, List.setIfInBounds_toArray, List.set_cons_zero, List.set_cons_succ]
     refine WB.take (i := 1) (v := ?_) rfl (by kernel_rfl) (by kernel_rfl) (by kernel_rfl) (by kernel_rfl) (fun _ _ _ h => h) HS.out (Or.inl ⟨by rfl, ?_⟩) ?_
     rotate_left
     ·(rintro w s0; go_simp; try with_reducible rfl)
     try simp only [Act.put, List.setIfInBounds_toArray, List.set_cons_zero, List.set_cons_succ]
     refine WB.take (i := 2) (v := ?_) rfl (by kernel_rfl) (by kernel_rfl) (by kernel_rfl) (by kernel_rfl) (fun _ _ _ h => h) HS.out (Or.inl ⟨by rfl, ?_⟩) ?_
     rotate_left
     ·(rintro w s0; go_simp; try with_reducible rfl)
     try simp only [Act.put, List.setIfInBounds_toArray, List.set_cons_zero, List.set_cons_succ]
     refine WB.take (i := 3) (v := ?_) rfl (by kernel_rfl) (by kernel_rfl) (by kernel_rfl) (by kernel_rfl) (fun _ _ _ h => h) HS.out (Or.inl ⟨by rfl, ?_⟩) ?_
     rotate_left
     ·(rintro w s0; go_simp; try with_reducible rfl)
     try simp only [Act.put, List.setIfInBounds_toArray, List.set_cons_zero, List.set_cons_succ]
     refine WB.take (i := 5) (v := ?_) rfl (by kernel_rfl) (by kernel_rfl) (by kernel_rfl) (by kernel_rfl) (fun _ _ _ h => h) HS.out (Or.inl ⟨by rfl, ?_⟩) ?_
     rotate_left
     ·(rintro w s0; go_simp; try with_reducible rfl)
     try simp only [Act.put, List.setIfInBounds_toArray, List.set_cons_zero, List.set_cons_succ]
     refine WB.take (i := 6) (v := ?_) rfl (by kernel_rfl) (by kernel_rfl) (by kernel_rfl) (by kernel_rfl) (fun _ _ _ h => h) HS.out (Or.inl ⟨by rfl, ?_⟩) ?_
     rotate_left
     ·(rintro w s0; go_simp; try with_reducible rfl)
     try simp only [Act.put, List.setIfInBounds_toArray, List.set_cons_zero, List.set_cons_succ]
     refine WB.one (i := 4) (by kernel_rfl) rfl (fun K hK => ?_)
     have HKK := Lib.hid hK
     clear hK
     go_simp
     refine (pick_c r (q + 1 + 1 + 1) (lf.length : Int) _ HR9.out (by omega) ⟨by omega, by omega⟩).mono ?_
     rintro r9 wa ⟨va, rfl, hv0, hv1, -, hR, hg⟩
     have hvb := hv1 (by omega)
     refine Exists.elim (⟨va.toNat, by omega⟩ : ∃ kk : Nat, va = kk) ?_
     intro kk hkk
     rw [hkk]
     have hkx : kk < lf.length := by omega
     have hki : (kk : Int) < lf.length := by omega
     clear hv1 hkk hvb hv0
     have hka : KeepT w9 wa := by
      obtain ⟨A, c9, bs, hbk, -⟩ := HR9.out
      exact KeepT.grown hg hbk (by decide) (by decide) (by decide) (by decide)
     have HBa := Lib.hid ((hg.block _ (blk_lt HB9.out) (fun e => by injection e with e; omega)).trans HB9.out)
     have HCa := Lib.hid ((hg.block _ (blk_lt HC9.out) (fun e => by injection e with e; omega)).trans HC9.out)
     have HZa := Lib.hid ((hg.block _ (blk_lt HZ9.out) (fun e => by injection e with e; omega)).trans HZ9.out)
     have HLa := Lib.hid (HL9.out.keep hka (.inr (.inl rfl))); have HXa := Lib.hid (HX9.out.keep hka)
     have HEa := Lib.hid (ext_grown HE9.out hg HE9.out.size (fun k e => by injection e with e; omega)); have HRa := Lib.hid hR
     clear hka hg hR
     have HSa : Hid (wa.cell? ⟨cb, 0, none⟩ = some (.int .i64 x.who)) := Lib.hid (six_cells HCa.out).1
     refine HKK.out _ _ ⟨fun _ => HSa.out, ?_⟩
     clear HKK K HS
     try simp only [Act.put, List.setIfInBounds_toArray, List.set_cons_zero, List.set_cons_succ]
     refine WB.takeP (i := 7) (v := ?_) rfl (by kernel_rfl) (by kernel_rfl) (by kernel_rfl) (by kernel_rfl) (fun _ _ _ h => h) HSa.out (Or.inl ⟨by rfl, ?_⟩) ?_
     rotate_left
     ·(rintro w -; go_simp; try with_reducible rfl)
     try simp only [Act.put, List.setIfInBounds_toArray, List.set_cons_zero, List.set_cons_succ]
     refine WB.takeP (i := 8) (v := ?_) rfl (by kernel_rfl) (by kernel_rfl) (by kernel_rfl) (by kernel_rfl) (fun _ _ _ h => h) HSa.out (Or.inl ⟨by rfl, ?_⟩) ?_
     rotate_left
     ·(rintro w -; go_simp; try with_reducible rfl)
     try simp only [Act.put, List.setIfInBounds_toArray, List.set_cons_zero, List.set_cons_succ]
     have hok9 : Flat.okE (⟨x.who, lf[kk].seq, lf[kk].op⟩ : Entry) := HLa.out.2 lf[kk] (List.getElem_mem hkx)
     have hst := HLa.out.store kk hkx (⟨x.who, lf[kk].seq, lf[kk].op⟩ : Entry) hok9 0 (.int .i64 x.who) (by decide) rfl
     have hcell : ∃ u, wa.cell? ⟨gl, kk * 7, none⟩ = some u := by
      obtain ⟨eb, eo, he9, hbx9, e0, -⟩ := ent_at HLa.out.rdT.1 kk hkx
      injection he9 with he9; injection he9 with he91 he92; subst he91; subst he92
      simp only [Nat.zero_add] at e0
      exact ⟨_, e0⟩
     have hfz := HLa.out.frzw
     have hgl := HLa.out.blk gl rfl
     have hne : gl ≠ w.heap.size := by
      obtain ⟨cs, m, h9⟩ := HLa.out.ty gl rfl
      rintro rfl
      have h8 := HZa.out
      rw [h9] at h8
      injection h8 with h8; injection h8 with _ h8
      exact absurd h8 (by decide)
     have hne2 : gl ≠ cb := by
      obtain ⟨cs, m, h9⟩ := HLa.out.ty gl rfl
      rintro rfl
      have h8 := HCa.out
      rw [h9] at h8
      injection h8 with h8; injection h8 with _ h8
      exact absurd h8 (by decide)
     have HCb := Lib.hid ((hst.2.block _ (blk_lt HCa.out) (by intro e; injection e with e; exact hne2 e.symm)).trans HCa.out)
     have HZb := Lib.hid ((hst.2.block _ (blk_lt HZa.out) (by intro e; injection e with e; exact hne e.symm)).trans HZa.out)
     have HEb : Hid (Ext w (wa.setCell ⟨gl, kk * 7, none⟩ (.int .i64 x.who))) := ext_grown HEa.out hst.2 HEa.out.size (fun k e => by injection e with e; omega)
     have hlen : (lf.set kk (⟨x.who, lf[kk].seq, lf[kk].op⟩ : Entry)).length = lf.length := List.length_set
     have hLb := hst.1
     rw [← hlen] at hLb
     have hXb : RcO (wa.setCell ⟨gl, kk * 7, none⟩ (.int .i64 x.who)) w.heap.size x c := by
      obtain ⟨cs, m, h9⟩ := HLa.out.ty gl rfl
      exact HXa.out.far (Turn.grown hst.2 (fun k hk => by injection hk with hk; exact hk.symm)) h9 (fun k hk e => HNQ.out k hk (by rw [e]; rfl))
     have hop9 : ∀ e ∈ lf.set kk (⟨x.who, lf[kk].seq, lf[kk].op⟩ : Entry), OpW e.op := fun e he => by
      rcases List.mem_or_eq_of_mem_set he with h1 | h1
      ·exact HOPL.out e h1
      ·rw [h1]; exact HOPL.out lf[kk] (List.getElem_mem hkx)
     have hll9 : (lf.set kk (⟨x.who, lf[kk].seq, lf[kk].op⟩ : Entry)).length ≤ 40 := by rw [hlen]; omega
     refine Exists.elim (⟨_, rfl⟩ : ∃ l9, l9 = lf.set kk (⟨x.who, lf[kk].seq, lf[kk].op⟩ : Entry)) ?_
     intro l9 hl9
     rw [← hl9] at hLb hop9 hll9 hlen
     have HLb := Lib.hid hLb; have HXb := Lib.hid hXb; have HOPb := Lib.hid hop9
     refine Exists.elim hcell ?_
     intro u hu
     clear hLb hXb hop9 hst hcell hok9 hne hne2 hl9
     refine WB.one (i := 9) (by kernel_rfl) rfl (fun K hK => ?_)
     have HKK := Lib.hid hK
     clear hK
     go_simp
     refine HKK.out _ _ ⟨fun h => (no_late h (by kernel_rfl)).elim, ?_⟩
     clear HKK K HSa hu hfz
     refine WB.done (by kernel_rfl) ?_
     generalize (wa.setCell ⟨gl, kk * 7, none⟩ (.int .i64 x.who)) = wb at *
     rw [← hlen]
     have HLEN9 := Lib.hid hlen
     clear hlen
     have hz := put6_at (.int .i64 x.who) (.int .i64 x.seen) (.slice x.b x.bl x.bn) (.slice x.q x.ql x.qn) (.int .i64 x.done) (.int .i64 x.made) HZb.out
     have hg : wb.grownBy (put6 wb w.heap.size (.int .i64 x.who) (.int .i64 x.seen) (.slice x.b x.bl x.bn) (.slice x.q x.ql x.qn) (.int .i64 x.done) (.int .i64 x.made)) (some w.heap.size) := gset (gset (gset (gset (gset (gset_any _ _ _ _) _ _) _ _) _ _) _ _) _ _
     have hk := KeepRE.grown hg HZb.out (by decide) (by decide)
     have HF : Hid (DHearP w (.returned (.tuple #[.agg (cR x), .int .i64 (f : Int), .slice (some ⟨gl, 0, none⟩) l9.length nf])) (put6 wb w.heap.size (.int .i64 x.who) (.int .i64 x.seen) (.slice x.b x.bl x.bn) (.slice x.q x.ql x.qn) (.int .i64 x.done) (.int .i64 x.made))) := ⟨c, _, (f : Int), l9, (some ⟨gl, 0, none⟩), nf, rfl, (RcO.co (RcO.keepR HXb.out hk)).cv, HCD.out.1, (Own.keepR HLb.out hk (.inr rfl)).rdT.1, HOPb.out, by omega, by omega, by omega, ext_grown HEb.out hg (Below.size HEb.out) (fun k e => by injection e with e; omega)⟩
     have HZz := Lib.hid hz
     obtain ⟨c0, c1, c2, c3, c4, c5, cf⟩ := six_cells HCb.out
     obtain ⟨d0, d1, d2, d3, d4, d5, df⟩ := six_cells HZb.out
     clear hz hg hk
     go_wp2_with fail
     obtain ⟨k0, k1, k2, k3, k4, k5, kf⟩ := six_cells HZz.out
     refine bodyPost_ret (v := .tuple #[.agg (cR x), .int .i64 (f : Int), .slice (some ⟨gl, 0, none⟩) l9.length nf]) ?_ rfl ?_
     ·simp [results, Tryd.f28, go_sem, k0, k1, k2, k3, k4, k5]
     ·exact HF.out
    ·have hlpi : ¬ ((0 : Int) < lf.length) := by omega
     clear h0
     have hz := put6_at (.int .i64 x.who) (.int .i64 x.seen) (.slice x.b x.bl x.bn) (.slice x.q x.ql x.qn) (.int .i64 x.done) (.int .i64 x.made) HZ8.out
     have hg : w8.grownBy (put6 w8 w.heap.size (.int .i64 x.who) (.int .i64 x.seen) (.slice x.b x.bl x.bn) (.slice x.q x.ql x.qn) (.int .i64 x.done) (.int .i64 x.made)) (some w.heap.size) := gset (gset (gset (gset (gset (gset_any _ _ _ _) _ _) _ _) _ _) _ _) _ _
     have hk := KeepRE.grown hg HZ8.out (by decide) (by decide)
     have HF : Hid (DHearP w (.returned (.tuple #[.agg (cR x), .int .i64 (f : Int), .slice Lf lf.length nf])) (put6 w8 w.heap.size (.int .i64 x.who) (.int .i64 x.seen) (.slice x.b x.bl x.bn) (.slice x.q x.ql x.qn) (.int .i64 x.done) (.int .i64 x.made))) := ⟨c, _, (f : Int), lf, Lf, nf, rfl, (RcO.co (RcO.keepR HX8.out hk)).cv, HCD.out.1, (Own.keepR HL8.out hk (.inr rfl)).rdT.1, HOPL.out, by omega, by omega, by omega, ext_grown HE8.out hg (Below.size HE8.out) (fun k e => by injection e with e; omega)⟩
     have HZz := Lib.hid hz
     obtain ⟨c0, c1, c2, c3, c4, c5, cf⟩ := six_cells HC8.out
     obtain ⟨d0, d1, d2, d3, d4, d5, df⟩ := six_cells HZ8.out
     clear hz hg hk
     go_wp2_with fail
     obtain ⟨k0, k1, k2, k3, k4, k5, kf⟩ := six_cells HZz.out
     refine bodyPost_ret (v := .tuple #[.agg (cR x), .int .i64 (f : Int), .slice Lf lf.length nf]) ?_ rfl ?_
     ·simp [results, Tryd.f28, go_sem, k0, k1, k2, k3, k4, k5]
     ·exact HF.out
   ·have q1 : (v == 1) = false := by simp [h1]
    clear h0 h1
    have hz := put6_at (.int .i64 x.who) (.int .i64 x.seen) (.slice x.b x.bl x.bn) (.slice x.q x.ql x.qn) (.int .i64 x.done) (.int .i64 x.made) HZ8.out
    have hg : w8.grownBy (put6 w8 w.heap.size (.int .i64 x.who) (.int .i64 x.seen) (.slice x.b x.bl x.bn) (.slice x.q x.ql x.qn) (.int .i64 x.done) (.int .i64 x.made)) (some w.heap.size) := gset (gset (gset (gset (gset (gset_any _ _ _ _) _ _) _ _) _ _) _ _) _ _
    have hk := KeepRE.grown hg HZ8.out (by decide) (by decide)
    have HF : Hid (DHearP w (.returned (.tuple #[.agg (cR x), .int .i64 (f : Int), .slice Lf lf.length nf])) (put6 w8 w.heap.size (.int .i64 x.who) (.int .i64 x.seen) (.slice x.b x.bl x.bn) (.slice x.q x.ql x.qn) (.int .i64 x.done) (.int .i64 x.made))) := ⟨c, _, (f : Int), lf, Lf, nf, rfl, (RcO.co (RcO.keepR HX8.out hk)).cv, HCD.out.1, (Own.keepR HL8.out hk (.inr rfl)).rdT.1, HOPL.out, by omega, by omega, by omega, ext_grown HE8.out hg (Below.size HE8.out) (fun k e => by injection e with e; omega)⟩
    have HZz := Lib.hid hz
    obtain ⟨c0, c1, c2, c3, c4, c5, cf⟩ := six_cells HC8.out
    obtain ⟨d0, d1, d2, d3, d4, d5, df⟩ := six_cells HZ8.out
    clear hz hg hk
    go_wp2_with fail
    obtain ⟨k0, k1, k2, k3, k4, k5, kf⟩ := six_cells HZz.out
    refine bodyPost_ret (v := .tuple #[.agg (cR x), .int .i64 (f : Int), .slice Lf lf.length nf]) ?_ rfl ?_
    ·simp [results, Tryd.f28, go_sem, k0, k1, k2, k3, k4, k5]
    ·exact HF.out
open Go.RowKit
namespace T
theorem put_perm (t : T) (nd : (ids t).Nodup) (id : Int) (tx : ByteArray) (s : T) (p : Int × Int) (hp : p.1 ∈ ids t) (hp2 : 0 < p.2 → p.2 ∈ ids t) : (ids (put t id tx s p)).Perm (id :: (ids s ++ ids t)) := by
 unfold put
 split
 ·rename_i h0; exact insN_perm p.2 id tx s t (hp2 h0) nd
 ·exact insF_perm p.1 id tx s t hp nd
theorem doT_ids (t : T) (h : Valid t) (o : Op) (ho : opOk o = true) : (∀ a ∈ ids t, a ∈ ids (doT t o)) ∧ (o.kind = 1 → o.id ∈ ids (doT t o)) := by
 obtain ⟨hm, hk, htx, hpos⟩ := opOk_kind ho
 have hr3 := h.root 3 rfl
 have hroot : isRoot o.id = false := made_not_root _ hm
 have hn := near_ok t h.2.2 hr3.1 o.id o.up o.pos
 unfold doT
 rcases hk with hk | hk | hk
 ·rw [if_neg (by omega), if_pos hk]
  split
  ·rename_i hi; exact ⟨fun a ha => ha, fun _ => hi⟩
  ·have hpm := put_perm t h.2.2 o.id o.text nil (near t o.id o.up o.pos) hn.1 (fun h0 => by
    obtain ⟨e, _, hu, _⟩ := hn.2 h0
    rw [e] at h0 ⊢
    exact up_mem t h.2.2 _ _ hu)
   exact ⟨fun a ha => hpm.mem_iff.2 (List.mem_cons_of_mem _ (List.mem_append_right _ ha)), fun _ => hpm.mem_iff.2 List.mem_cons_self⟩
 ·rw [if_pos hk, setT_ids]
  exact ⟨fun a ha => ha, fun h1 => by omega⟩
 ·rw [if_neg (by omega), if_neg (by omega), if_pos hk]
  refine ⟨?_, fun h1 => by omega⟩
  cases hg : get o.id t with
  |none => exact fun a ha => ha
  |some p =>
   obtain ⟨x, f⟩ := p
   simp only
   split
   ·exact fun a ha => ha
   ·rename_i hq
    obtain ⟨hndc, hsub, hback, hfwd⟩ := cut_facts t h.2.2 o.id x f hg
    have h3f : 3 ∉ ids f := by
     intro h3
     obtain ⟨q, hq, _⟩ := under_in t h.2.2 o.id x f hg 3 h3
     rw [hr3.2] at hq; cases hq
    have hpm := put_perm (cut o.id t) hndc o.id x f (near t o.id o.up o.pos) (by
     unfold near
     split
     ·rename_i hu
      exact hback o.up hu (fun e => hq (.inl e)) (fun e => hq (.inr e))
     ·exact hback 3 hr3.1 (fun e => by rw [← e] at hroot; cases hroot) h3f) (fun h0 => by
     obtain ⟨e, hne, hu, hup⟩ := hn.2 h0
     rw [e] at h0 ⊢
     rw [hup] at hu
     exact hback o.pos (up_mem t h.2.2 _ _ hu) hne (fun hf => hq ((under_step t h.2.2 o.id x f hg o.pos o.up hu).1 hf)))
    intro a ha
    rw [hpm.mem_iff, List.mem_cons, List.mem_append]
    by_cases e1 : a = o.id
    ·exact .inl e1
    ·by_cases e2 : a ∈ ids f
     ·exact .inr (.inl e2)
     ·exact .inr (.inr (hback a ha e1 e2))
end T
def idsL (t : List Row) : List Int := t.map (·.id)
theorem idsL_build {t : List Row} (ht : treeOk t = true) : idsL t = T.ids (T.build t) ∧ (idsL t).Nodup := by
 obtain ⟨hv, he⟩ := T.valid_build t ht
 have h1 : idsL t = T.ids (T.build t) := by
  have := T.rows_ids 0 (T.build t)
  rw [he] at this; exact this
 exact ⟨h1, by rw [h1]; exact hv.2.2⟩
theorem doL_ids {t : List Row} {o : Op} (ht : treeOk t = true) (ho : opOk o = true) : (∀ a ∈ idsL t, a ∈ idsL (doL t o)) ∧ (o.kind = 1 → o.id ∈ idsL (doL t o)) := by
 obtain ⟨h1, h2⟩ := T.doT_ids (T.build t) (T.valid_build t ht).1 o ho
 have h3 : idsL (doL t o) = T.ids (T.doT (T.build t) o) := by rw [doL_build t o ht ho]; exact T.rows_ids 0 _
 rw [(idsL_build ht).1, h3]
 exact ⟨h1, h2⟩
theorem runOps_ids (l : List Entry) : ∀ t : List Row, treeOk t = true → (∀ e ∈ l, opOk e.op = true) → treeOk (runOps t l) = true ∧ (∀ a ∈ idsL t, a ∈ idsL (runOps t l)) ∧ (∀ e ∈ l, e.op.kind = 1 → e.op.id ∈ idsL (runOps t l)) := by
 induction l with
 |nil => intro t ht _; exact ⟨ht, fun a ha => ha, by simp⟩
 |cons e l ih =>
  intro t ht hl
  have ho := hl e List.mem_cons_self
  have hod : opDo t e.op = doL t e.op := by unfold opDo; rw [ht, ho]; rfl
  have h1 := doL_ids ht ho
  rw [← hod] at h1
  have htn : treeOk (opDo t e.op) = true := by rw [hod]; exact treeOk_do t _ ht ho
  obtain ⟨a1, a2, a3⟩ := ih (opDo t e.op) htn (fun x hx => hl x (List.mem_cons_of_mem _ hx))
  refine ⟨a1, fun a ha => a2 a (h1.1 a ha), fun x hx hk => ?_⟩
  rcases List.mem_cons.1 hx with rfl | hx
  ·exact a2 _ (h1.2 hk)
  ·exact a3 x hx hk
theorem runOps_long {l : List Entry} {t : List Row} (ht : treeOk t = true) (hl : ∀ e ∈ l, opOk e.op = true) : t.length ≤ (runOps t l).length := by
 have h := runOps_ids l t ht hl
 have := T.nodup_le (idsL t) (idsL (runOps t l)) (idsL_build ht).2 h.2.1
 simpa [idsL] using this
open Go.RowKit
def ownN (who : Int) (l : List Entry) : Nat := l.countP (fun e => decide (e.who = who))
theorem ownN_cons (who : Int) (e : Entry) (l : List Entry) : ownN who (e :: l) = ownN who l + if e.who = who then 1 else 0 := by
 unfold ownN; rw [List.countP_cons]; simp
theorem hearL_some (who : Int) : ∀ (l q : List Entry) (t : List Row) (d n : Int) (q' : List Entry) (t' : List Row) (d' n' : Int), hearL who l q t d n = some (q', t', d', n') →
  q' = q.drop (ownN who l) ∧ ownN who l ≤ q.length ∧ t' = runOps t l ∧ d' = d + ownN who l ∧ n' = n + l.length := by
 intro l
 induction l with
 |nil =>
  intro q t d n q' t' d' n' h
  simp only [hearL, Option.some.injEq, Prod.mk.injEq] at h
  obtain ⟨rfl, rfl, rfl, rfl⟩ := h
  exact ⟨by simp [ownN], by simp [ownN], rfl, by simp [ownN], by simp⟩
 |cons e l ih =>
  intro q t d n q' t' d' n' h
  rw [ownN_cons]
  unfold hearL at h
  by_cases hw : e.who = who
  ·rw [if_pos hw] at h ⊢
   cases q with
   |nil => simp at h
   |cons e0 q0 =>
    simp only at h
    split at h
    ·obtain ⟨a1, a2, a3, a4, a5⟩ := ih _ _ _ _ _ _ _ _ h
     refine ⟨by rw [a1]; rfl, by simp only [List.length_cons]; omega, by rw [a3]; rfl, by rw [a4]; omega, by rw [a5]; simp only [List.length_cons]; omega⟩
    ·cases h
  ·rw [if_neg hw] at h ⊢
   obtain ⟨a1, a2, a3, a4, a5⟩ := ih _ _ _ _ _ _ _ _ h
   exact ⟨a1, a2, by rw [a3]; rfl, a4, by rw [a5]; simp only [List.length_cons]; omega⟩
theorem hearL_cons (who : Int) (e : Entry) (l q : List Entry) (t : List Row) (d n : Int) : hearL who (e :: l) q t d n = if e.who = who then (match q with | e0 :: q' => if e0 = e then hearL who l q' (opDo t e.op) (d + 1) (n + 1) else none | [] => none) else hearL who l q (opDo t e.op) d (n + 1) := by
 cases q <;> rfl
theorem hearL_append (who : Int) : ∀ (l m q : List Entry) (t : List Row) (d n : Int), hearL who (l ++ m) q t d n = (hearL who l q t d n).bind fun p => hearL who m p.1 p.2.1 p.2.2.1 p.2.2.2 := by
 intro l
 induction l with
 |nil => intro m q t d n; rfl
 |cons e l ih =>
  intro m q t d n
  rw [List.cons_append, hearL_cons, hearL_cons]
  by_cases hw : e.who = who
  ·rw [if_pos hw, if_pos hw]
   cases q with
   |nil => rfl
   |cons e0 q0 =>
    simp only
    by_cases he : e0 = e
    ·rw [if_pos he, if_pos he]; exact ih _ _ _ _ _
    ·rw [if_neg he, if_neg he]; rfl
  ·rw [if_neg hw, if_neg hw]; exact ih _ _ _ _ _
theorem hearL_own (who : Int) : ∀ (l : List Entry) (t : List Row) (d n : Int), (∀ e ∈ l, e.who = who) → hearL who l l t d n = some ([], runOps t l, d + l.length, n + l.length) := by
 intro l
 induction l with
 |nil => intro t d n _; simp [hearL, runOps]
 |cons e l ih =>
  intro t d n h
  unfold hearL
  rw [if_pos (h e List.mem_cons_self)]
  simp only [if_true]
  rw [ih _ _ _ (fun x hx => h x (List.mem_cons_of_mem _ hx))]
  simp only [Option.some.injEq, Prod.mk.injEq, List.length_cons, true_and]
  refine ⟨rfl, by omega, by omega⟩
theorem waitOk_who {c : Client} (h : waitOk c = true) : ∀ e ∈ c.wait, entryOk e = true ∧ e.who = c.who := fun e he => by
 obtain ⟨k, hk, rfl⟩ := List.getElem_of_mem he
 have h1 := waitOk_at h k hk
 unfold waitAt at h1
 simp only [Bool.and_eq_true, decide_eq_true_eq] at h1
 exact ⟨h1.1.1.1, h1.1.1.2⟩
theorem hear_own {c : Client} (h : clientOk c = true) (hl : c.seen + c.wait.length ≤ 40) : clientHear c c.seen c.wait = (⟨c.who, c.seen + c.wait.length, runOps c.base c.wait, [], c.done + c.wait.length, c.made⟩, true) := by
 obtain ⟨hw9, hs0, hs40, htr, hd0, hd1, hwl, hm0, hm1, hwt⟩ := clientOk_parts h
 rw [clientHear_S c c.seen c.wait h hs0 hs40 (fun e he => (waitOk_who hwt e he).1)]
 unfold hearS
 rw [if_neg (by omega), show (c.seen - c.seen).toNat = 0 by omega, List.drop_zero, hearL_own c.who c.wait c.base c.done c.seen (fun e he => (waitOk_who hwt e he).2)]
theorem clientHear_true {c : Client} {frm : Int} {l : List Entry} (h : (clientHear c frm l).2 = true) : clientOk c = true ∧ 0 ≤ frm ∧ frm ≤ 40 ∧ (∀ e ∈ l, entryOk e = true) ∧ frm ≤ c.seen ∧ frm + l.length ≤ 40 ∧
  ∃ q t d n, hearL c.who (l.drop (c.seen - frm).toNat) c.wait c.base c.done c.seen = some (q, t, d, n) ∧ clientHear c frm l = (⟨c.who, n, t, q, d, c.made⟩, true) := by
 by_cases hb : clientOk c = false ∨ frm < 0 ∨ 40 < frm
 ·unfold clientHear at h; rw [if_pos hb] at h; cases h
 have hok : clientOk c = true := by
  cases h9 : clientOk c
  ·exact absurd (.inl h9) hb
  ·rfl
 have h0 : ¬ frm < 0 := fun e => hb (.inr (.inl e))
 have h1 : ¬ 40 < frm := fun e => hb (.inr (.inr e))
 cases hall : l.all entryOk
 ·unfold clientHear at h; rw [if_neg hb, if_pos hall] at h; cases h
 have hall' : ∀ x ∈ l, entryOk x = true := List.all_eq_true.1 hall
 have hS := clientHear_S c frm l hok (by omega) (by omega) hall'
 rw [hS] at h ⊢
 refine ⟨hok, by omega, by omega, hall', ?_⟩
 unfold hearS at h ⊢
 by_cases hf : c.seen < frm ∨ 40 - frm < l.length
 ·rw [if_pos hf] at h; cases h
 rw [if_neg hf] at h ⊢
 refine ⟨by omega, by omega, ?_⟩
 cases hh : hearL c.who (l.drop (c.seen - frm).toNat) c.wait c.base c.done c.seen with
 |none => rw [hh] at h; cases h
 |some p =>
  obtain ⟨q, t, d, n⟩ := p
  exact ⟨q, t, d, n, rfl, rfl⟩
open Go.RowKit
theorem clientHear_of {c : Client} {frm : Int} {l q : List Entry} {t : List Row} {d n : Int} (hok : clientOk c = true) (h0 : 0 ≤ frm) (h1 : frm ≤ 40) (hall : ∀ e ∈ l, entryOk e = true) (hf : frm ≤ c.seen) (hl : frm + l.length ≤ 40) (hh : hearL c.who (l.drop (c.seen - frm).toNat) c.wait c.base c.done c.seen = some (q, t, d, n)) :
  clientHear c frm l = (⟨c.who, n, t, q, d, c.made⟩, true) := by
 rw [clientHear_S c frm l hok h0 h1 hall]
 unfold hearS
 rw [if_neg (by omega), hh]
theorem hear_parts {c : Client} {frm : Int} {l : List Entry} (h : (clientHear c frm l).2 = true) :
  (clientHear c frm l).1 = ⟨c.who, max c.seen (frm + l.length), runOps c.base (l.drop (c.seen - frm).toNat), c.wait.drop (ownN c.who (l.drop (c.seen - frm).toNat)), c.done + ownN c.who (l.drop (c.seen - frm).toNat), c.made⟩ ∧ ownN c.who (l.drop (c.seen - frm).toNat) ≤ c.wait.length ∧ clientOk (clientHear c frm l).1 = true := by
 obtain ⟨hok, h0, h1, hall, hf, hl, q, t, d, n, hh, he⟩ := clientHear_true h
 obtain ⟨a1, a2, a3, a4, a5⟩ := hearL_some _ _ _ _ _ _ _ _ _ _ hh
 have hk : clientOk (clientHear c frm l).1 = true := by rw [clientHear_S c frm l hok h0 h1 hall]; exact hearS_ok hok h0 hall
 refine ⟨?_, a2, hk⟩
 rw [he, a1, a3, a4, a5, List.length_drop]
 simp only [Client.mk.injEq, true_and, and_true]
 omega
theorem hear_twice {c : Client} {frm : Int} {l : List Entry} (h : (clientHear c frm l).2 = true) : clientHear (clientHear c frm l).1 frm l = ((clientHear c frm l).1, true) := by
 obtain ⟨hp, -, hk⟩ := hear_parts h
 obtain ⟨hok, h0, h1, hall, hf, hl, _⟩ := clientHear_true h
 generalize hx : (clientHear c frm l).1 = x at hp hk
 have hs : x.seen = max c.seen (frm + l.length) := by rw [hp]
 have hd : l.drop (x.seen - frm).toNat = [] := List.drop_of_length_le (by omega)
 rw [clientHear_of (q := x.wait) (t := x.base) (d := x.done) (n := x.seen) hk h0 h1 hall (by omega) hl (by rw [hd]; rfl)]
theorem hear_cut {c : Client} {frm : Int} {l : List Entry} (h : (clientHear c frm l).2 = true) (k : Nat) (hkl : k ≤ l.length) :
  (clientHear c frm (l.take k)).2 = true ∧ clientHear (clientHear c frm (l.take k)).1 (frm + k) (l.drop k) = clientHear c frm l := by
 obtain ⟨hok, h0, h1, hall, hf, hl, q, t, d, n, hh, he⟩ := clientHear_true h
 have hlk : (l.take k).length = k := by rw [List.length_take]; omega
 have hld : (l.drop k).length = l.length - k := List.length_drop
 have hs40 := (clientOk_parts hok).2.2.1
 have hall1 : ∀ e ∈ l.take k, entryOk e = true := fun e he => hall e (List.mem_of_mem_take he)
 have hall2 : ∀ e ∈ l.drop k, entryOk e = true := fun e he => hall e (List.mem_of_mem_drop he)
 obtain ⟨j, hj⟩ : ∃ j : Nat, j = (c.seen - frm).toNat := ⟨_, rfl⟩
 rw [← hj] at hh
 have hsplit : l.drop j = (l.take k).drop j ++ (l.drop k).drop (j - k) := by
  have h9 := List.drop_append (l₁ := l.take k) (l₂ := l.drop k) (i := j)
  rw [List.take_append_drop, hlk] at h9
  exact h9
 rw [hsplit, hearL_append] at hh
 cases h1' : hearL c.who ((l.take k).drop j) c.wait c.base c.done c.seen with
 |none => rw [h1'] at hh; cases hh
 |some p =>
  obtain ⟨q1, t1, d1, n1⟩ := p
  rw [h1'] at hh
  simp only [Option.bind_some] at hh
  have e1 := clientHear_of (frm := frm) (l := l.take k) (q := q1) (t := t1) (d := d1) (n := n1) hok h0 h1 hall1 hf (by omega) (by rw [← hj]; exact h1')
  have hk1 : clientOk (clientHear c frm (l.take k)).1 = true := by rw [clientHear_S c frm (l.take k) hok h0 h1 hall1]; exact hearS_ok hok h0 hall1
  rw [e1] at hk1 ⊢
  refine ⟨rfl, ?_⟩
  have hn1 : n1 = c.seen + ((l.take k).drop j).length := (hearL_some _ _ _ _ _ _ _ _ _ _ h1').2.2.2.2
  rw [List.length_drop, hlk] at hn1
  rw [he]
  have hjn : (n1 - (frm + k)).toNat = j - k := by omega
  exact clientHear_of (c := ⟨c.who, n1, t1, q1, d1, c.made⟩) hk1 (by omega) (by omega) hall2 (by show frm + k ≤ n1; omega) (by omega) (by show hearL c.who ((l.drop k).drop (n1 - (frm + k)).toNat) q1 t1 d1 n1 = _; rw [hjn]; exact hh)
open Go.RowKit
theorem row_ext {a b : Row} (h1 : a.id = b.id) (h2 : a.depth = b.depth) (h3 : a.text.toList = b.text.toList) : a = b := by
 obtain ⟨i1, d1, t1⟩ := a
 obtain ⟨i2, d2, t2⟩ := b
 simp only at h1 h2 h3
 have h8 := toList_inj h3
 subst h1 h2 h8; rfl
theorem neq_row (a b : Row) (W : World) : (binOp .neq 47 (.agg #[.int .i64 a.id, .int .i64 a.depth, .string a.text]) (.agg #[.int .i64 b.id, .int .i64 b.depth, .string b.text])).run Tryd.prog W = .ok (.bool (!decide (a = b))) W := by
 have u1 := Tryd.underlying47
 by_cases h : a = b
 ·subst h
  go_simp
 ·rw [decide_eq_false h]
  go_simp
  by_cases e1 : a.id = b.id
  ·by_cases e2 : a.depth = b.depth
   ·have e7 : ¬ a.text.toList = b.text.toList := fun e7 => h (row_ext e1 e2 e7)
    simp [e1, e2, e7]
   ·simp [e1, e2]
  ·simp [e1]
set_option maxRecDepth 100000 in
set_option maxHeartbeats 1000000 in
theorem lpRows_c (A : Option Addr) (c : Nat) (a : List Row) (A' : Option Addr) (c' : Nat) (b : List Row) (w : World) (hr : Rd w A c a) (hr' : Rd w A' c' b) :
  Calls Tryd.prog 14 #[.slice A a.length c, .slice A' b.length c'] w fun e w' => e = .returned (.bool (decide (a = b))) ∧ ∃ n, w' = w.drewN n := by
 have hm : a.length ≤ maxLen := Nat.le_trans hr.1 hr.2.1
 unfold maxLen at hm
 have HR := Lib.hid hr; have HR' := Lib.hid hr'
 clear hr hr'
 by_cases hl : a.length = b.length
 ·have hl' : ((a.length : Int) != b.length) = false := by simp [hl]
  have HL := Lib.hid hl
  have hml : b.length ≤ 9223372036854775807 := by omega
  clear hl
  go_enter Tryd.func14, Tryd.ntmps14
  go_wp2_with fail
  go_loopg [5] a.length (fun gk i wr => ∃ (k n : Nat), wr = w.drewN n ∧ k ≤ a.length ∧ Hid (gk = a.length - k) ∧ i = .int .i64 k ∧ Hid (∀ j (h : j < a.length) (h' : j < b.length), j < k → a[j] = b[j]))
  case atStart => exact ⟨0, 0, rfl, Nat.zero_le _, rfl, rfl, fun j _ _ h => by omega⟩
  case round =>
   obtain ⟨k, n, rfl, hk, HK, rfl, HA⟩ := hrel
   by_cases hlt : k < a.length
   ·have hltb : k < b.length := by have := HL.out; omega
    obtain ⟨b1, o1, rfl, -, c0, c1, c2⟩ := row_at HR.out k hlt
    obtain ⟨b2, o2, rfl, -, d0, d1, d2⟩ := row_at HR'.out k hltb
    have hlt' : (k : Int) < a.length := by omega
    have hltb' : (k : Int) < b.length := by omega
    have hq := neq_row a[k] b[k]
    by_cases he : a[k] = b[k]
    ·rw [decide_eq_true he] at hq
     have HN : Hid (∀ j (h : j < a.length) (h' : j < b.length), j < k + 1 → a[j] = b[j]) := fun j h h' hj => by
      by_cases e : j = k
      ·subst e; exact he
      ·exact HA.out j h h' (by omega)
     clear he
     go_wp2_with fail
     go_quiet (fail)
     go_wp2_with fail
     go_roundg (a.length - (k + 1))
     case measure => have := HK.out; omega
     case rel => exact ⟨k + 1, _, rfl, by omega, rfl, by go_num, HN.out⟩
    ·rw [decide_eq_false he] at hq
     have HX : Hid (decide (a = b) = false) := by show _ = _; rw [decide_eq_false]; intro e; subst e; exact he rfl
     clear he
     go_wp2_with fail
     go_quiet (fail)
     go_wp2_with fail
     go_ret
     exact ⟨by rw [HX.out]; rfl, _, by rw [World.drewN_drewN]⟩
   ·have HX : Hid (decide (a = b) = true) := by
     show _ = _
     rw [decide_eq_true]
     exact List.ext_getElem HL.out (fun j h h' => HA.out j h h' (by omega))
    go_wp2_with fail
    go_ret
    exact ⟨by rw [HX.out]; rfl, _, rfl⟩
 ·have hl' : ((a.length : Int) != b.length) = true := by simp; omega
  have HX : Hid (decide (a = b) = false) := by show _ = _; rw [decide_eq_false]; intro e; exact hl (by rw [e])
  clear hl
  go_enter Tryd.func14, Tryd.ntmps14
  go_wp2_with fail
  go_ret
  exact ⟨by rw [HX.out]; rfl, 0, rfl⟩
set_option maxRecDepth 100000 in
set_option maxHeartbeats 1000000 in
theorem lpLog_c (A : Option Addr) (c : Nat) (a : List Entry) (A' : Option Addr) (c' : Nat) (b : List Entry) (w : World) (hr : Rd w A c a) (hr' : Rd w A' c' b) :
  Calls Tryd.prog 30 #[.slice A a.length c, .slice A' b.length c'] w fun e w' => e = .returned (.bool (decide (a = b))) ∧ ∃ n, w' = w.drewN n := by
 have hm : a.length ≤ maxLen := Nat.le_trans hr.1 hr.2.1
 unfold maxLen at hm
 have HR := Lib.hid hr; have HR' := Lib.hid hr'
 clear hr hr'
 by_cases hl : a.length = b.length
 ·have hl' : ((a.length : Int) != b.length) = false := by simp [hl]
  have HL := Lib.hid hl
  have hml : b.length ≤ 9223372036854775807 := by omega
  clear hl
  go_enter Tryd.func30, Tryd.ntmps30
  go_wp2_with fail
  go_loopg [5] a.length (fun gk i wr => ∃ (k n : Nat), wr = w.drewN n ∧ k ≤ a.length ∧ Hid (gk = a.length - k) ∧ i = .int .i64 k ∧ Hid (∀ j (h : j < a.length) (h' : j < b.length), j < k → a[j] = b[j]))
  case atStart => exact ⟨0, 0, rfl, Nat.zero_le _, rfl, rfl, fun j _ _ h => by omega⟩
  case round =>
   obtain ⟨k, n, rfl, hk, HK, rfl, HA⟩ := hrel
   by_cases hlt : k < a.length
   ·have hltb : k < b.length := by have := HL.out; omega
    obtain ⟨b1, o1, rfl, -, c0, c1, c2, c3, c4, c5, c6⟩ := ent_at HR.out k hlt
    obtain ⟨b2, o2, rfl, -, d0, d1, d2, d3, d4, d5, d6⟩ := ent_at HR'.out k hltb
    have hlt' : (k : Int) < a.length := by omega
    have hltb' : (k : Int) < b.length := by omega
    have hq := neq_ent a[k] b[k]
    by_cases he : a[k] = b[k]
    ·rw [decide_eq_true he] at hq
     have HN : Hid (∀ j (h : j < a.length) (h' : j < b.length), j < k + 1 → a[j] = b[j]) := fun j h h' hj => by
      by_cases e : j = k
      ·subst e; exact he
      ·exact HA.out j h h' (by omega)
     clear he
     go_wp2_with fail
     go_quiet (fail)
     go_wp2_with fail
     go_roundg (a.length - (k + 1))
     case measure => have := HK.out; omega
     case rel => exact ⟨k + 1, _, rfl, by omega, rfl, by go_num, HN.out⟩
    ·rw [decide_eq_false he] at hq
     have HX : Hid (decide (a = b) = false) := by show _ = _; rw [decide_eq_false]; intro e; subst e; exact he rfl
     clear he
     go_wp2_with fail
     go_quiet (fail)
     go_wp2_with fail
     go_ret
     exact ⟨by rw [HX.out]; rfl, _, by rw [World.drewN_drewN]⟩
   ·have HX : Hid (decide (a = b) = true) := by
     show _ = _
     rw [decide_eq_true]
     exact List.ext_getElem HL.out (fun j h h' => HA.out j h h' (by omega))
    go_wp2_with fail
    go_ret
    exact ⟨by rw [HX.out]; rfl, _, rfl⟩
 ·have hl' : ((a.length : Int) != b.length) = true := by simp; omega
  have HX : Hid (decide (a = b) = false) := by show _ = _; rw [decide_eq_false]; intro e; exact hl (by rw [e])
  clear hl
  go_enter Tryd.func30, Tryd.ntmps30
  go_wp2_with fail
  go_ret
  exact ⟨by rw [HX.out]; rfl, 0, rfl⟩
open Go.RowKit
def clientEq (c d : Client) : Bool := decide (c.who = d.who) && (decide (c.seen = d.seen) && (decide (c.base = d.base) && (decide (c.wait = d.wait) && (decide (c.done = d.done) && decide (c.made = d.made)))))
theorem clientEq_refl (c : Client) : clientEq c c = true := by simp [clientEq]
theorem clientEq_iff (c d : Client) : clientEq c d = true ↔ c = d := by
 obtain ⟨a1, a2, a3, a4, a5, a6⟩ := c
 obtain ⟨b1, b2, b3, b4, b5, b6⟩ := d
 simp [clientEq]
set_option maxRecDepth 100000 in
set_option maxHeartbeats 4000000 in
theorem lpClient_c (c d : Client) (v v' : Value) (w : World) (h : CV w c v) (h' : CV w d v') :
  Calls Tryd.prog 20 #[v, v'] w fun e w' => e = .returned (.bool (clientEq c d)) ∧ Ext w w' := by
 obtain ⟨A1, n1, A2, n2, rfl, h1, h2⟩ := h
 obtain ⟨B1, m1, B2, m2, rfl, g1, g2⟩ := h'
 have hX := two_new w (oC c A1 n1 A2 n2) (oC d B1 m1 B2 m2)
 have hE0 : Ext w ((w.alloc (oC c A1 n1 A2 n2)).alloc (oC d B1 m1 B2 m2)) := ((Below.refl _ w).alloc (Nat.le_refl _) _).alloc (by rw [alloc_sz]; omega) _
 have HRW := Lib.hid (fun W => lpRows_c A1 n1 c.base B1 m1 d.base W)
 have HLW := Lib.hid (fun W => lpLog_c A2 n2 c.wait B2 m2 d.wait W)
 have HE0 := Lib.hid hE0; have HX := Lib.hid hX
 have H1 := Lib.hid h1; have H2 := Lib.hid h2; have G1 := Lib.hid g1; have G2 := Lib.hid g2
 have HK : Hid (clientEq c d = (decide (c.who = d.who) && (decide (c.seen = d.seen) && (decide (c.base = d.base) && (decide (c.wait = d.wait) && (decide (c.done = d.done) && decide (c.made = d.made))))))) := rfl
 clear hX hE0 h1 h2 g1 g2
 by_cases k0 : c.who = d.who
 rotate_left
 ·rw [decide_eq_false k0] at HK
  have kb0 : (c.who == d.who) = false := by simp [k0]
  have HK : Hid (clientEq c d = false) := by show _ = _; rw [HK.out]; simp
  clear k0
  go_enter Tryd.func20, Tryd.ntmps20
  go_wp2_with fail
  go_ret
  exact ⟨by rw [HK.out]; rfl, HE0.out⟩
 rw [decide_eq_true k0] at HK
 have kb0 : (c.who == d.who) = true := by simp [k0]
 clear k0
 by_cases k1 : c.seen = d.seen
 rotate_left
 ·rw [decide_eq_false k1] at HK
  have kb1 : (c.seen == d.seen) = false := by simp [k1]
  have HK : Hid (clientEq c d = false) := by show _ = _; rw [HK.out]; simp
  clear k1
  go_enter Tryd.func20, Tryd.ntmps20
  go_wp2_with fail
  go_ret
  exact ⟨by rw [HK.out]; rfl, HE0.out⟩
 rw [decide_eq_true k1] at HK
 have kb1 : (c.seen == d.seen) = true := by simp [k1]
 clear k1
 by_cases k2 : c.base = d.base
 rotate_left
 ·rw [decide_eq_false k2] at HK
  simp only [decide_eq_false k2] at HRW
  have HK : Hid (clientEq c d = false) := by show _ = _; rw [HK.out]; simp
  clear k2
  go_enter Tryd.func20, Tryd.ntmps20
  go_wp2_with fail
  refine (HRW.out _ (H1.out.ext HE0.out) (G1.out.ext HE0.out)).mono ?_; rintro e w1 ⟨rfl, q1, hw1⟩
  have hE1 : Ext w w1 := by rw [hw1]; exact Ext.drewN HE0.out _
  have hc1 := six_cells (W := w1) (by rw [hw1]; exact HX.out.1)
  have hd1 := six_cells (W := w1) (by rw [hw1]; exact HX.out.2)
  obtain ⟨c0, c1, c2, c3, c4, c5, cf⟩ := hc1
  obtain ⟨d0, d1, d2, d3, d4, d5, df⟩ := hd1
  have HE1 := Lib.hid hE1; have HX1 := Lib.hid (show w1.heap[w.heap.size]? = some (.cells (cC c A1 n1 A2 n2) 30 (0, 0)) ∧ w1.heap[w.heap.size + 1]? = some (.cells (cC d B1 m1 B2 m2) 30 (0, 0)) by rw [hw1]; exact HX.out)
  clear hw1 hE1
  go_wp2_with fail
  go_ret
  exact ⟨by rw [HK.out]; rfl, HE1.out⟩
 rw [decide_eq_true k2] at HK
 simp only [decide_eq_true k2] at HRW
 clear k2
 by_cases k3 : c.wait = d.wait
 rotate_left
 ·rw [decide_eq_false k3] at HK
  simp only [decide_eq_false k3] at HLW
  have HK : Hid (clientEq c d = false) := by show _ = _; rw [HK.out]; simp
  clear k3
  go_enter Tryd.func20, Tryd.ntmps20
  go_wp2_with fail
  refine (HRW.out _ (H1.out.ext HE0.out) (G1.out.ext HE0.out)).mono ?_; rintro e w1 ⟨rfl, q1, hw1⟩
  have hE1 : Ext w w1 := by rw [hw1]; exact Ext.drewN HE0.out _
  have hc1 := six_cells (W := w1) (by rw [hw1]; exact HX.out.1)
  have hd1 := six_cells (W := w1) (by rw [hw1]; exact HX.out.2)
  obtain ⟨c0, c1, c2, c3, c4, c5, cf⟩ := hc1
  obtain ⟨d0, d1, d2, d3, d4, d5, df⟩ := hd1
  have HE1 := Lib.hid hE1; have HX1 := Lib.hid (show w1.heap[w.heap.size]? = some (.cells (cC c A1 n1 A2 n2) 30 (0, 0)) ∧ w1.heap[w.heap.size + 1]? = some (.cells (cC d B1 m1 B2 m2) 30 (0, 0)) by rw [hw1]; exact HX.out)
  clear hw1 hE1
  go_wp2_with fail
  refine (HLW.out _ (H2.out.ext HE1.out) (G2.out.ext HE1.out)).mono ?_; rintro e w2 ⟨rfl, q2, hw2⟩
  have hE2 : Ext w w2 := by rw [hw2]; exact Ext.drewN HE1.out _
  have hc2 := six_cells (W := w2) (by rw [hw2]; exact HX1.out.1)
  have hd2 := six_cells (W := w2) (by rw [hw2]; exact HX1.out.2)
  clear c0 c1 c2 c3 c4 c5 cf d0 d1 d2 d3 d4 d5 df
  obtain ⟨c0, c1, c2, c3, c4, c5, cf⟩ := hc2
  obtain ⟨d0, d1, d2, d3, d4, d5, df⟩ := hd2
  have HE2 := Lib.hid hE2
  clear hw2 hE2
  go_wp2_with fail
  go_ret
  exact ⟨by rw [HK.out]; rfl, HE2.out⟩
 rw [decide_eq_true k3] at HK
 simp only [decide_eq_true k3] at HLW
 clear k3
 by_cases k4 : c.done = d.done
 rotate_left
 ·rw [decide_eq_false k4] at HK
  have kb4 : (c.done == d.done) = false := by simp [k4]
  have HK : Hid (clientEq c d = false) := by show _ = _; rw [HK.out]; simp
  clear k4
  go_enter Tryd.func20, Tryd.ntmps20
  go_wp2_with fail
  refine (HRW.out _ (H1.out.ext HE0.out) (G1.out.ext HE0.out)).mono ?_; rintro e w1 ⟨rfl, q1, hw1⟩
  have hE1 : Ext w w1 := by rw [hw1]; exact Ext.drewN HE0.out _
  have hc1 := six_cells (W := w1) (by rw [hw1]; exact HX.out.1)
  have hd1 := six_cells (W := w1) (by rw [hw1]; exact HX.out.2)
  obtain ⟨c0, c1, c2, c3, c4, c5, cf⟩ := hc1
  obtain ⟨d0, d1, d2, d3, d4, d5, df⟩ := hd1
  have HE1 := Lib.hid hE1; have HX1 := Lib.hid (show w1.heap[w.heap.size]? = some (.cells (cC c A1 n1 A2 n2) 30 (0, 0)) ∧ w1.heap[w.heap.size + 1]? = some (.cells (cC d B1 m1 B2 m2) 30 (0, 0)) by rw [hw1]; exact HX.out)
  clear hw1 hE1
  go_wp2_with fail
  refine (HLW.out _ (H2.out.ext HE1.out) (G2.out.ext HE1.out)).mono ?_; rintro e w2 ⟨rfl, q2, hw2⟩
  have hE2 : Ext w w2 := by rw [hw2]; exact Ext.drewN HE1.out _
  have hc2 := six_cells (W := w2) (by rw [hw2]; exact HX1.out.1)
  have hd2 := six_cells (W := w2) (by rw [hw2]; exact HX1.out.2)
  clear c0 c1 c2 c3 c4 c5 cf d0 d1 d2 d3 d4 d5 df
  obtain ⟨c0, c1, c2, c3, c4, c5, cf⟩ := hc2
  obtain ⟨d0, d1, d2, d3, d4, d5, df⟩ := hd2
  have HE2 := Lib.hid hE2
  clear hw2 hE2
  go_wp2_with fail
  go_ret
  exact ⟨by rw [HK.out]; rfl, HE2.out⟩
 rw [decide_eq_true k4] at HK
 have kb4 : (c.done == d.done) = true := by simp [k4]
 clear k4
 by_cases k5 : c.made = d.made
 rotate_left
 ·rw [decide_eq_false k5] at HK
  have kb5 : (c.made == d.made) = false := by simp [k5]
  have HK : Hid (clientEq c d = false) := by show _ = _; rw [HK.out]; simp
  clear k5
  go_enter Tryd.func20, Tryd.ntmps20
  go_wp2_with fail
  refine (HRW.out _ (H1.out.ext HE0.out) (G1.out.ext HE0.out)).mono ?_; rintro e w1 ⟨rfl, q1, hw1⟩
  have hE1 : Ext w w1 := by rw [hw1]; exact Ext.drewN HE0.out _
  have hc1 := six_cells (W := w1) (by rw [hw1]; exact HX.out.1)
  have hd1 := six_cells (W := w1) (by rw [hw1]; exact HX.out.2)
  obtain ⟨c0, c1, c2, c3, c4, c5, cf⟩ := hc1
  obtain ⟨d0, d1, d2, d3, d4, d5, df⟩ := hd1
  have HE1 := Lib.hid hE1; have HX1 := Lib.hid (show w1.heap[w.heap.size]? = some (.cells (cC c A1 n1 A2 n2) 30 (0, 0)) ∧ w1.heap[w.heap.size + 1]? = some (.cells (cC d B1 m1 B2 m2) 30 (0, 0)) by rw [hw1]; exact HX.out)
  clear hw1 hE1
  go_wp2_with fail
  refine (HLW.out _ (H2.out.ext HE1.out) (G2.out.ext HE1.out)).mono ?_; rintro e w2 ⟨rfl, q2, hw2⟩
  have hE2 : Ext w w2 := by rw [hw2]; exact Ext.drewN HE1.out _
  have hc2 := six_cells (W := w2) (by rw [hw2]; exact HX1.out.1)
  have hd2 := six_cells (W := w2) (by rw [hw2]; exact HX1.out.2)
  clear c0 c1 c2 c3 c4 c5 cf d0 d1 d2 d3 d4 d5 df
  obtain ⟨c0, c1, c2, c3, c4, c5, cf⟩ := hc2
  obtain ⟨d0, d1, d2, d3, d4, d5, df⟩ := hd2
  have HE2 := Lib.hid hE2
  clear hw2 hE2
  go_wp2_with fail
  go_ret
  exact ⟨by rw [HK.out]; rfl, HE2.out⟩
 rw [decide_eq_true k5] at HK
 have kb5 : (c.made == d.made) = true := by simp [k5]
 clear k5
 have HK : Hid (clientEq c d = true) := by show _ = _; rw [HK.out]; rfl
 go_enter Tryd.func20, Tryd.ntmps20
 go_wp2_with fail
 refine (HRW.out _ (H1.out.ext HE0.out) (G1.out.ext HE0.out)).mono ?_; rintro e w1 ⟨rfl, q1, hw1⟩
 have hE1 : Ext w w1 := by rw [hw1]; exact Ext.drewN HE0.out _
 have hc1 := six_cells (W := w1) (by rw [hw1]; exact HX.out.1)
 have hd1 := six_cells (W := w1) (by rw [hw1]; exact HX.out.2)
 obtain ⟨c0, c1, c2, c3, c4, c5, cf⟩ := hc1
 obtain ⟨d0, d1, d2, d3, d4, d5, df⟩ := hd1
 have HE1 := Lib.hid hE1; have HX1 := Lib.hid (show w1.heap[w.heap.size]? = some (.cells (cC c A1 n1 A2 n2) 30 (0, 0)) ∧ w1.heap[w.heap.size + 1]? = some (.cells (cC d B1 m1 B2 m2) 30 (0, 0)) by rw [hw1]; exact HX.out)
 clear hw1 hE1
 go_wp2_with fail
 refine (HLW.out _ (H2.out.ext HE1.out) (G2.out.ext HE1.out)).mono ?_; rintro e w2 ⟨rfl, q2, hw2⟩
 have hE2 : Ext w w2 := by rw [hw2]; exact Ext.drewN HE1.out _
 have hc2 := six_cells (W := w2) (by rw [hw2]; exact HX1.out.1)
 have hd2 := six_cells (W := w2) (by rw [hw2]; exact HX1.out.2)
 clear c0 c1 c2 c3 c4 c5 cf d0 d1 d2 d3 d4 d5 df
 obtain ⟨c0, c1, c2, c3, c4, c5, cf⟩ := hc2
 obtain ⟨d0, d1, d2, d3, d4, d5, df⟩ := hd2
 have HE2 := Lib.hid hE2
 clear hw2 hE2
 go_wp2_with fail
 go_ret
 exact ⟨by rw [HK.out]; rfl, HE2.out⟩
open Go.RowKit Go.Lib
def BoxOf (w0 : World) (x : Client) (cb : Nat) (wx : World) : Prop := ∃ A1 n1 A2 n2, CV wx x (.agg #[.int .i64 x.who, .int .i64 x.seen, .slice A1 x.base.length n1, .slice A2 x.wait.length n2, .int .i64 x.done, .int .i64 x.made]) ∧ wx.heap[cb]? = some (.cells #[.int .i64 x.who, .int .i64 x.seen, .slice A1 x.base.length n1, .slice A2 x.wait.length n2, .int .i64 x.done, .int .i64 x.made] 30 (0, 0)) ∧ Ext w0 wx
theorem clientEq_self (c : Client) : clientEq c c = true := by unfold clientEq; simp
set_option maxRecDepth 100000 in
set_option maxHeartbeats 2000000 in
theorem hearTwice_walk (A : Option Addr) (n : Nat) (bs : List UInt8) (w : World) (ht : Tab w) (hr : Rd w A n bs) (hA : ∀ b off, A = some ⟨b, off, none⟩ → b < w.heap.size) :
  Calls Tryd.prog 10 #[.slice A bs.length n] w fun e w' => e = .returned (.bool true) ∧ Ext w w' := by
 have hm : bs.length ≤ maxLen := Nat.le_trans hr.1 hr.2.1
 unfold maxLen at hm
 have htp_0 := ht.pos
 have HT_0 := Lib.hid ht
 have HDR := Lib.hid (drawHear_d A n bs w hr hA)
 clear hr hA ht
 go_enter Tryd.func10, Tryd.ntmps10
 by_cases hlong : (1048576 : Int) < bs.length
 ·go_wp2_with fail
  go_ret
  exact ⟨rfl, Below.refl _ _⟩
 go_wp2_with fail
 refine HDR.out.mono ?_
 rintro e w1 ⟨c, v, frm, l, L, ln, rfl, ⟨A1, n1, A2, n2, rfl, h1, h2⟩, hcw, hrl, hop, hll, hf0, hf1, hb1⟩
 have hs_1 := hb1.size
 have HCW := Lib.hid hcw; have HOP := Lib.hid hop
 obtain ⟨x, ok, hxo⟩ : ∃ x ok, clientHear c frm l = (x, ok) := ⟨_, _, rfl⟩
 have HXO := Lib.hid hxo
 have hE2 : Ext w1 (w1.alloc (oC c A1 n1 A2 n2)) := (Below.refl _ _).alloc (Nat.le_refl _) _
 have HE_2 := Lib.hid (hb1.trans (hE2.mono hs_1)); have hs_2 := HE_2.out.size
 have HT_2 := Lib.hid (HT_0.out.below HE_2.out htp_0); have htp_2 := HT_2.out.pos
 have HVC_2 : Hid (CV (w1.alloc (oC c A1 n1 A2 n2)) c (.agg (cC c A1 n1 A2 n2))) := ⟨A1, n1, A2, n2, rfl, h1.ext hE2, h2.ext hE2⟩
 have HRL_2 := Lib.hid (hrl.ext hE2)
 have HBC_2 := Lib.hid (World.alloc_heap_new w1 (oC c A1 n1 A2 n2))
 have hz_2 := alloc_sz w1 (oC c A1 n1 A2 n2)
 clear hE2 h1 h2 hcw hrl hop hxo HDR hb1 HT_0
 go_wp2_with fail
 generalize (w1.alloc (oC c A1 n1 A2 n2)) = w2 at *
 have hS := clientHear_s c _ frm L ln l w2 HVC_2.out HRL_2.out HCW.out HOP.out (by omega)
 rw [HXO.out] at hS
 refine hS.mono ?_
 clear hS
 rintro e w3 ⟨v3, rfl, co3, hb3⟩
 have HE_3 := Lib.hid (HE_2.out.trans ((hb3).mono HE_2.out.size)); have hs_3 := HE_3.out.size
 have HT_3 := Lib.hid (HT_2.out.below hb3 htp_2); have htp_3 := HT_3.out.pos
 have HVC_3 := Lib.hid (HVC_2.out.ext hb3)
 have HRL_3 := Lib.hid (HRL_2.out.ext hb3)
 have HBC_3 := Lib.hid (((hb3).block _ (blk_lt HBC_2.out)).trans HBC_2.out)
 clear HE_2 HT_2 HVC_2 HRL_2 HBC_2
 obtain ⟨B1, m1, B2, m2, rfl, g1, g2⟩ := co3.cv
 have hE4 : Ext w3 (w3.alloc (oC x B1 m1 B2 m2)) := (Below.refl _ _).alloc (Nat.le_refl _) _
 have HWW_4 : Hid (CV (w3.alloc (oC x B1 m1 B2 m2)) x (.agg (cC x B1 m1 B2 m2))) := ⟨B1, m1, B2, m2, rfl, g1.ext hE4, g2.ext hE4⟩
 have HBW_4 := Lib.hid (World.alloc_heap_new w3 (oC x B1 m1 B2 m2))
 have hz_4 := alloc_sz w3 (oC x B1 m1 B2 m2)
 have HE_4 := Lib.hid (HE_3.out.trans ((hE4).mono HE_3.out.size)); have hs_4 := HE_4.out.size
 have HT_4 := Lib.hid (HT_3.out.below hE4 htp_3); have htp_4 := HT_4.out.pos
 have HVC_4 := Lib.hid (HVC_3.out.ext hE4)
 have HRL_4 := Lib.hid (HRL_3.out.ext hE4)
 have HBC_4 := Lib.hid (((hE4).block _ (blk_lt HBC_3.out)).trans HBC_3.out)
 clear HE_3 HT_3 HVC_3 HRL_3 HBC_3
 clear hE4 g1 g2
 obtain ⟨c00, c01, c02, c03, c04, c05, c0f⟩ := six_cells HBC_4.out
 go_wp2_with fail
 generalize (w3.alloc (oC x B1 m1 B2 m2)) = w4 at *
 clear hb3 co3
 clear c00 c01 c02 c03 c04 c05 c0f
 have hS := clientHear_c c _ frm L ln l w4 HT_4.out HVC_4.out HRL_4.out
 rw [HXO.out] at hS
 refine hS.mono ?_
 clear hS
 rintro e w5 ⟨v5, rfl, co5, hb5⟩
 have HE_5 := Lib.hid (HE_4.out.trans ((hb5).mono HE_4.out.size)); have hs_5 := HE_5.out.size
 have HT_5 := Lib.hid (HT_4.out.below hb5 htp_4); have htp_5 := HT_5.out.pos
 have HVC_5 := Lib.hid (HVC_4.out.ext hb5)
 have HRL_5 := Lib.hid (HRL_4.out.ext hb5)
 have HBC_5 := Lib.hid (((hb5).block _ (blk_lt HBC_4.out)).trans HBC_4.out)
 have HWW_5 := Lib.hid (HWW_4.out.ext hb5)
 have HBW_5 := Lib.hid (((hb5).block _ (blk_lt HBW_4.out)).trans HBW_4.out)
 clear HE_4 HT_4 HVC_4 HRL_4 HBC_4 HWW_4 HBW_4
 obtain ⟨D1, k1, D2, k2, rfl, g1, g2⟩ := co5.cv
 have hE6 : Ext w5 (w5.alloc (oC x D1 k1 D2 k2)) := (Below.refl _ _).alloc (Nat.le_refl _) _
 have HWX_6 : Hid (CV (w5.alloc (oC x D1 k1 D2 k2)) x (.agg (cC x D1 k1 D2 k2))) := ⟨D1, k1, D2, k2, rfl, g1.ext hE6, g2.ext hE6⟩
 have HBX_6 := Lib.hid (World.alloc_heap_new w5 (oC x D1 k1 D2 k2))
 have hz_6 := alloc_sz w5 (oC x D1 k1 D2 k2)
 have HE_6 := Lib.hid (HE_5.out.trans ((hE6).mono HE_5.out.size)); have hs_6 := HE_6.out.size
 have HT_6 := Lib.hid (HT_5.out.below hE6 htp_5); have htp_6 := HT_6.out.pos
 have HVC_6 := Lib.hid (HVC_5.out.ext hE6)
 have HRL_6 := Lib.hid (HRL_5.out.ext hE6)
 have HBC_6 := Lib.hid (((hE6).block _ (blk_lt HBC_5.out)).trans HBC_5.out)
 have HWW_6 := Lib.hid (HWW_5.out.ext hE6)
 have HBW_6 := Lib.hid (((hE6).block _ (blk_lt HBW_5.out)).trans HBW_5.out)
 clear HE_5 HT_5 HVC_5 HRL_5 HBC_5 HWW_5 HBW_5
 clear hE6 g1 g2
 clear hb5 co5
 obtain ⟨c00, c01, c02, c03, c04, c05, c0f⟩ := six_cells HBC_6.out
 obtain ⟨c10, c11, c12, c13, c14, c15, c1f⟩ := six_cells HBW_6.out
 obtain ⟨c20, c21, c22, c23, c24, c25, c2f⟩ := six_cells HBX_6.out
 cases ok with
 |false =>
  go_wp2_with fail
  generalize (w5.alloc (oC x D1 k1 D2 k2)) = w6 at *
  clear c00 c01 c02 c03 c04 c05 c0f c10 c11 c12 c13 c14 c15 c1f c20 c21 c22 c23 c24 c25 c2f
  have hS := lpClient_c x x _ _ w6 HWX_6.out HWW_6.out
  rw [clientEq_self] at hS
  refine hS.mono ?_
  clear hS
  rintro e w7 ⟨rfl, hb7⟩
  have HE_7 := Lib.hid (HE_6.out.trans ((hb7).mono HE_6.out.size)); have hs_7 := HE_7.out.size
  have HT_7 := Lib.hid (HT_6.out.below hb7 htp_6); have htp_7 := HT_7.out.pos
  have HVC_7 := Lib.hid (HVC_6.out.ext hb7)
  have HRL_7 := Lib.hid (HRL_6.out.ext hb7)
  have HBC_7 := Lib.hid (((hb7).block _ (blk_lt HBC_6.out)).trans HBC_6.out)
  have HWW_7 := Lib.hid (HWW_6.out.ext hb7)
  have HBW_7 := Lib.hid (((hb7).block _ (blk_lt HBW_6.out)).trans HBW_6.out)
  have HWX_7 := Lib.hid (HWX_6.out.ext hb7)
  have HBX_7 := Lib.hid (((hb7).block _ (blk_lt HBX_6.out)).trans HBX_6.out)
  clear HE_6 HT_6 HVC_6 HRL_6 HBC_6 HWW_6 HBW_6 HWX_6 HBX_6
  clear hb7
  obtain ⟨c00, c01, c02, c03, c04, c05, c0f⟩ := six_cells HBC_7.out
  obtain ⟨c10, c11, c12, c13, c14, c15, c1f⟩ := six_cells HBW_7.out
  obtain ⟨c20, c21, c22, c23, c24, c25, c2f⟩ := six_cells HBX_7.out
  go_wp2_with fail
  clear c00 c01 c02 c03 c04 c05 c0f c10 c11 c12 c13 c14 c15 c1f c20 c21 c22 c23 c24 c25 c2f
  have hS := lpClient_c x x _ _ w7 HWX_7.out HWW_7.out
  rw [clientEq_self] at hS
  refine hS.mono ?_
  clear hS
  rintro e w8 ⟨rfl, hb8⟩
  have HE_8 := Lib.hid (HE_7.out.trans ((hb8).mono HE_7.out.size)); have hs_8 := HE_8.out.size
  have HT_8 := Lib.hid (HT_7.out.below hb8 htp_7); have htp_8 := HT_8.out.pos
  have HVC_8 := Lib.hid (HVC_7.out.ext hb8)
  have HRL_8 := Lib.hid (HRL_7.out.ext hb8)
  have HBC_8 := Lib.hid (((hb8).block _ (blk_lt HBC_7.out)).trans HBC_7.out)
  have HWW_8 := Lib.hid (HWW_7.out.ext hb8)
  have HBW_8 := Lib.hid (((hb8).block _ (blk_lt HBW_7.out)).trans HBW_7.out)
  have HWX_8 := Lib.hid (HWX_7.out.ext hb8)
  have HBX_8 := Lib.hid (((hb8).block _ (blk_lt HBX_7.out)).trans HBX_7.out)
  clear HE_7 HT_7 HVC_7 HRL_7 HBC_7 HWW_7 HBW_7 HWX_7 HBX_7
  clear hb8
  go_wp2_with fail
  go_ret
  exact ⟨rfl, HE_8.out⟩
 |true =>
  have htw := hear_twice (c := c) (frm := frm) (l := l) (by rw [HXO.out])
  rw [HXO.out] at htw
  dsimp only at htw
  have HTW := Lib.hid htw
  clear htw
  go_wp2_with fail
  generalize (w5.alloc (oC x D1 k1 D2 k2)) = w6 at *
  clear c00 c01 c02 c03 c04 c05 c0f c10 c11 c12 c13 c14 c15 c1f c20 c21 c22 c23 c24 c25 c2f
  have hS := lpClient_c x x _ _ w6 HWX_6.out HWW_6.out
  rw [clientEq_self] at hS
  refine hS.mono ?_
  clear hS
  rintro e w7 ⟨rfl, hb7⟩
  have HE_7 := Lib.hid (HE_6.out.trans ((hb7).mono HE_6.out.size)); have hs_7 := HE_7.out.size
  have HT_7 := Lib.hid (HT_6.out.below hb7 htp_6); have htp_7 := HT_7.out.pos
  have HVC_7 := Lib.hid (HVC_6.out.ext hb7)
  have HRL_7 := Lib.hid (HRL_6.out.ext hb7)
  have HBC_7 := Lib.hid (((hb7).block _ (blk_lt HBC_6.out)).trans HBC_6.out)
  have HWW_7 := Lib.hid (HWW_6.out.ext hb7)
  have HBW_7 := Lib.hid (((hb7).block _ (blk_lt HBW_6.out)).trans HBW_6.out)
  have HWX_7 := Lib.hid (HWX_6.out.ext hb7)
  have HBX_7 := Lib.hid (((hb7).block _ (blk_lt HBX_6.out)).trans HBX_6.out)
  clear HE_6 HT_6 HVC_6 HRL_6 HBC_6 HWW_6 HBW_6 HWX_6 HBX_6
  clear hb7
  obtain ⟨c00, c01, c02, c03, c04, c05, c0f⟩ := six_cells HBC_7.out
  obtain ⟨c10, c11, c12, c13, c14, c15, c1f⟩ := six_cells HBW_7.out
  obtain ⟨c20, c21, c22, c23, c24, c25, c2f⟩ := six_cells HBX_7.out
  go_wp2_with fail
  have hS := clientHear_c x _ frm L ln l w7 HT_7.out HWX_7.out HRL_7.out
  rw [HTW.out] at hS
  refine hS.mono ?_
  clear hS
  rintro e w8 ⟨v8, rfl, co8, hb8⟩
  clear c00 c01 c02 c03 c04 c05 c0f c10 c11 c12 c13 c14 c15 c1f c20 c21 c22 c23 c24 c25 c2f
  have HE_8 := Lib.hid (HE_7.out.trans ((hb8).mono HE_7.out.size)); have hs_8 := HE_8.out.size
  have HT_8 := Lib.hid (HT_7.out.below hb8 htp_7); have htp_8 := HT_8.out.pos
  have HVC_8 := Lib.hid (HVC_7.out.ext hb8)
  have HRL_8 := Lib.hid (HRL_7.out.ext hb8)
  have HBC_8 := Lib.hid (((hb8).block _ (blk_lt HBC_7.out)).trans HBC_7.out)
  have HWW_8 := Lib.hid (HWW_7.out.ext hb8)
  have HBW_8 := Lib.hid (((hb8).block _ (blk_lt HBW_7.out)).trans HBW_7.out)
  have HWX_8 := Lib.hid (HWX_7.out.ext hb8)
  have HBX_8 := Lib.hid (((hb8).block _ (blk_lt HBX_7.out)).trans HBX_7.out)
  clear HE_7 HT_7 HVC_7 HRL_7 HBC_7 HWW_7 HBW_7 HWX_7 HBX_7
  obtain ⟨E1, j1, E2, j2, rfl, g1, g2⟩ := co8.cv
  have hE9 : Ext w8 (w8.alloc (oC x E1 j1 E2 j2)) := (Below.refl _ _).alloc (Nat.le_refl _) _
  have HWY_9 : Hid (CV (w8.alloc (oC x E1 j1 E2 j2)) x (.agg (cC x E1 j1 E2 j2))) := ⟨E1, j1, E2, j2, rfl, g1.ext hE9, g2.ext hE9⟩
  have HBY_9 := Lib.hid (World.alloc_heap_new w8 (oC x E1 j1 E2 j2))
  have hz_9 := alloc_sz w8 (oC x E1 j1 E2 j2)
  have HE_9 := Lib.hid (HE_8.out.trans ((hE9).mono HE_8.out.size)); have hs_9 := HE_9.out.size
  have HT_9 := Lib.hid (HT_8.out.below hE9 htp_8); have htp_9 := HT_9.out.pos
  have HVC_9 := Lib.hid (HVC_8.out.ext hE9)
  have HRL_9 := Lib.hid (HRL_8.out.ext hE9)
  have HBC_9 := Lib.hid (((hE9).block _ (blk_lt HBC_8.out)).trans HBC_8.out)
  have HWW_9 := Lib.hid (HWW_8.out.ext hE9)
  have HBW_9 := Lib.hid (((hE9).block _ (blk_lt HBW_8.out)).trans HBW_8.out)
  have HWX_9 := Lib.hid (HWX_8.out.ext hE9)
  have HBX_9 := Lib.hid (((hE9).block _ (blk_lt HBX_8.out)).trans HBX_8.out)
  clear HE_8 HT_8 HVC_8 HRL_8 HBC_8 HWW_8 HBW_8 HWX_8 HBX_8
  clear hE9 g1 g2
  clear hb8 co8
  obtain ⟨c00, c01, c02, c03, c04, c05, c0f⟩ := six_cells HBX_9.out
  obtain ⟨c10, c11, c12, c13, c14, c15, c1f⟩ := six_cells HBY_9.out
  go_wp2_with fail
  generalize (w8.alloc (oC x E1 j1 E2 j2)) = w9 at *
  have hS := lpClient_c x x _ _ w9 HWY_9.out HWX_9.out
  rw [clientEq_self] at hS
  refine hS.mono ?_
  clear hS
  rintro e w10 ⟨rfl, hb10⟩
  have HE_10 := Lib.hid (HE_9.out.trans ((hb10).mono HE_9.out.size)); have hs_10 := HE_10.out.size
  have HT_10 := Lib.hid (HT_9.out.below hb10 htp_9); have htp_10 := HT_10.out.pos
  have HVC_10 := Lib.hid (HVC_9.out.ext hb10)
  have HRL_10 := Lib.hid (HRL_9.out.ext hb10)
  have HBC_10 := Lib.hid (((hb10).block _ (blk_lt HBC_9.out)).trans HBC_9.out)
  have HWW_10 := Lib.hid (HWW_9.out.ext hb10)
  have HBW_10 := Lib.hid (((hb10).block _ (blk_lt HBW_9.out)).trans HBW_9.out)
  have HWX_10 := Lib.hid (HWX_9.out.ext hb10)
  have HBX_10 := Lib.hid (((hb10).block _ (blk_lt HBX_9.out)).trans HBX_9.out)
  have HWY_10 := Lib.hid (HWY_9.out.ext hb10)
  have HBY_10 := Lib.hid (((hb10).block _ (blk_lt HBY_9.out)).trans HBY_9.out)
  clear HE_9 HT_9 HVC_9 HRL_9 HBC_9 HWW_9 HBW_9 HWX_9 HBX_9 HWY_9 HBY_9
  clear hb10
  go_wp2_with fail
  go_ret
  exact ⟨rfl, HE_10.out⟩
open Go.RowKit Go.ChangeShapes Go.WideShapes Go.ChangeAt
theorem laidOut : laidOutB Tryd.prog = true := by kernel_rfl
theorem own : ownKnob Tryd.prog.godebug = none := by kernel_rfl
theorem gTab : Tryd.prog.globalNamed "loop.example/plashet/impl.rowOwners" = some 0 := by kernel_rfl
theorem gTabType : (Tryd.prog.globals[0]?).map (·.type) = some 86 := by kernel_rfl
theorem cellsTab : Tryd.prog.cellsOf 86 = 37 := by kernel_rfl
theorem cellsInt : Tryd.prog.cellsOf 3 = 1 := by kernel_rfl
def owners : List Int := [0, 1, 1, 1, 0, 0, 0, 0, 0, 0, 0, 2, 2, 2, 2, 2, 2, 0, 0, 0, 0, 3, 3, 3, 3, 3, 3, 0, 0, 0, 0, 4, 4, 4, 4, 4, 4]
theorem owners_at (n : Nat) (h : n < 37) : owners.getD n 0 = ownerOf n := by
 have h0 : ∀ n : Fin 37, owners.getD n 0 = ownerOf (n : Nat) := by decide
 exact h0 ⟨n, h⟩
theorem tab_of {W : World} (h : laidMetH Tryd.prog [("loop.example/plashet/impl.rowOwners", Rows.laid_loop_example_plashet_impl_rowOwners)] W) : Tab W := by
 have ht : Lib.TabIs Tryd.prog W "loop.example/plashet/impl.rowOwners" .i64 owners := Lib.tabIs_of_head (rest := []) gTab gTabType Tryd.underlying86 Tryd.underlying3 cellsInt cellsTab h
 intro id h0 h1
 have hn : id.toNat < 37 := by omega
 rw [ht.cell gTab id.toNat (by simpa [owners] using hn), owners_at _ hn, show ((id.toNat : Nat) : Int) = id by omega]
set_option maxRecDepth 100000 in
theorem arg_slice {W : World} {base : Nat} {t e : TypeId} {v : Value} (ht : Tryd.prog.underlying t = some (.slice e)) (h : Value.okWide Tryd.prog W .any base t v) :
  ∃ A len cap, v = .slice A len cap ∧ ∀ a, A = some a → a.spot = none ∧ a.block < W.heap.size := by
 obtain ⟨A, len, cap, rfl⟩ := okWide_slice ht h
 refine ⟨A, len, cap, rfl, ?_⟩
 rintro a rfl
 simp only [Value.okWide, ht, Cell.okWide, Cell.ok, World.has] at h
 obtain ⟨_, _, _, hs, row, cells, hsh, _⟩ := h
 refine ⟨hs, ?_⟩
 unfold World.shape? at hsh
 cases hb : W.heap[a.block]? with
 |none => rw [hb] at hsh; cases hsh
 |some o => exact (Array.getElem?_eq_some_iff.1 hb).1
set_option maxRecDepth 100000 in
theorem arg_bytes {H : Type} {enc : TypeId × Value → H} {W : World} {base : Nat} {v : Value} {d : DataW H} {p : List MemPlace}
  (h : Value.okWide Tryd.prog W .any base 22 v) (hr : DataW.Trod enc Tryd.prog W 0 (fun _ => true) true 22 v d p) :
  ∃ (A : Option Addr) (cap : Nat) (bs : List UInt8), v = .slice A bs.length cap ∧ Rd W A cap bs ∧ ∀ b off, A = some ⟨b, off, none⟩ → b < W.heap.size := by
 obtain ⟨A, len, cap, rfl, hA⟩ := arg_slice Tryd.underlying22 h
 obtain ⟨fuel, hf⟩ := hr
 rcases open_ints Tryd.underlying22 Tryd.underlying5 (by kernel_rfl) hf with ⟨hcs, _⟩ | ⟨x, l, c, zs, hcs, _, hl, hm, hz, _, hcell, hwz⟩
 ·simp [Value.cells] at hcs
  obtain ⟨rfl, rfl, rfl⟩ := hcs
  exact ⟨none, 0, [], rfl, ⟨by simp, by simp, fun h => absurd h (by simp), by simp⟩, by simp⟩
 ·simp [Value.cells] at hcs
  obtain ⟨rfl, rfl, rfl⟩ := hcs
  obtain ⟨b, off, spot⟩ := x
  obtain ⟨hs, hb⟩ := hA _ rfl
  simp only at hs hb hz
  subst hs
  have hlen : ((zs.take len).map fun z => UInt8.ofNat z.toNat).length = len := by simp at hz; simp; omega
  refine ⟨some ⟨b, off, none⟩, cap, (zs.take len).map fun z => UInt8.ofNat z.toNat, by rw [hlen], ⟨by rw [hlen]; exact hl, hm, fun _ => ⟨b, off, rfl, ?_⟩, fun _ _ => trivial⟩, ?_⟩
  ·intro j v hv
   have hfl : flat ((zs.take len).map fun z => UInt8.ofNat z.toNat) = (zs.take len).map fun z => Value.int .u8 ((UInt8.ofNat z.toNat).toNat : Int) := by
    unfold flat; rw [List.flatMap_map]
    show (zs.take len).flatMap (fun a => [Value.int .u8 ((UInt8.ofNat a.toNat).toNat : Int)]) = _
    induction zs.take len with
    |nil => rfl
    |cons a r ih => rw [List.flatMap_cons, ih]; rfl
   rw [hfl, List.getElem?_map, Option.map_eq_some_iff] at hv
   obtain ⟨z, hz1, rfl⟩ := hv
   have hj : j < zs.length ∧ j < len := by
    have := (List.getElem?_eq_some_iff.1 hz1).1
    simp at this
    omega
   rw [List.getElem?_take, if_pos hj.2] at hz1
   have hzj : zs.getD j 0 = z := by simp [List.getD, hz1]
   have hw := hwz z (List.mem_of_getElem? hz1)
   have := hcell j hj.1
   rw [hzj] at this
   have hadd : (⟨b, off, none⟩ : Addr).add j = ⟨b, off + j, none⟩ := by unfold Addr.add; split <;> simp_all
   rw [hadd] at this
   have hz2 : ((UInt8.ofNat z.toNat).toNat : Int) = z := by
    have h1 := of_decide_eq_true (show decide ((0 : Int) ≤ z) = true by simp [Lit.wf, IntKind.min, IntKind.signed] at hw; simpa using hw.1)
    have h2 := of_decide_eq_true (show decide (z ≤ (255 : Int)) = true by simp [Lit.wf, IntKind.max, IntKind.signed, IntKind.bits] at hw; simpa using hw.2)
    have h3 : (UInt8.ofNat z.toNat).toNat = z.toNat % 256 := by simp [UInt8.toNat_ofNat']
    rw [h3]
    omega
   rw [hz2]; exact this
  ·rintro b' off' e; simp at e; omega
end Go.Proofs.YtjhbbgeebobcpaaDoor
