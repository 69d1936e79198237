/- Walk of the draw of somebody. .. What a row gives: a slice of bytes as an argument; the table of the rows' owners. -/
import Derived.Test.YtecmcjfdaipfcaaGreatDoorZAW
import Derived.Test.YtecmcjfdaipfcaaGreatDoorZAJ
import Derived.Test.YtecmcjfdaipfcaaGreatDoorZAL
import Derived.Test.YtecmcjfdaipfcaaGreatDoorZAH
import Derived.Test.YtecmcjfdaipfcaaGreatDoorZAM
import Derived.Test.YtecmcjfdaipfcaaGreatDoorCards
import Derived.Test.YtecmcjfdaipfcaaGreatDoorTie
import Derived.WalkKit
import Derived.ProofKit
import Derived.OpenShut
import Derived.OpenVars
import Derived.ChangeVars
import Derived.ChangeSlices
import Derived.ChangeOld
import Derived.Below
import Derived.Carry
import Derived.Deep.DeepHandedRow
import Derived.Lib.LaidTab
namespace Go.Proofs.YtecmcjfdaipfcaaGreatDoor
open Go.RowKit Go.Lib
set_option linter.unusedVariables false
set_option linter.unusedSimpArgs false
def KeepRE (w w':World):Prop:=∀ (k:Nat) (cs:Array Value) (ty:TypeId) (m:Nat × Nat),w.heap[k]?=some (.cells cs ty m)→(ty=46∨ty=35)→w'.heap[k]?=some (.cells cs ty m)
theorem KeepRE.grown {w w':World} {r:Nat} {cs0:Array Value} {ty0:TypeId} {m0:Nat × Nat} (h:w.grownBy w' (some r)) (hr:w.heap[r]?=some (.cells cs0 ty0 m0)) (h1:ty0≠46) (h2:ty0≠35):KeepRE w w':=by
 intro k cs ty m hk ht
 refine (h.block k (blk_lt hk) (fun e=>?_)).trans hk
 injection e with e
 subst e
 rw [hr] at hk
 injection hk with hk;injection hk with _ hk
 subst hk
 rcases ht with h | h
 ·exact h1 h
 ·exact h2 h
theorem Own.keepR {α:Type} [Flat α] {e:TypeId} {w w':World} {base:Nat} {v:Value} {l:List α} (h:Own e w base v l) (hk:KeepRE w w') (he:e=46∨e=35):Own e w' base v l:=by
 refine ⟨⟨h.1.1,?_⟩,h.2⟩
 rcases h.1.2 with h1 | ⟨g,cap,cur,h1,h2,h3,h4⟩
 ·exact .inl h1
 ·exact .inr ⟨g,cap,cur,h1,h2,hk g _ _ _ h3 he,h4⟩
theorem RcO.keepR {W W':World} {base:Nat} {x:RC} {c:Client} (h:RcO W base x c) (hk:KeepRE W W'):RcO W' base x c:=by
 obtain ⟨b,bn,q,qn,rfl,r1,r2⟩:=h
 exact ⟨b,bn,q,qn,rfl,r1.keepR hk (.inl rfl),r2.keepR hk (.inr rfl)⟩
theorem RcO.co {W:World} {base:Nat} {x:RC} {c:Client} (h:RcO W base x c):CO W base c (.agg (cR x)):=by
 obtain ⟨b,bn,q,qn,rfl,r1,r2⟩:=h
 exact ⟨b,bn,q,qn,rfl,r1,r2⟩
theorem CD.done {c:Client} (h:CD c) {v:Int} (hv:0≤v∧v≤100):CD { c with done:=v }:=by
 obtain ⟨⟨⟨a1,a2,a3,a4⟩,a5,a6,a7⟩,b1,b2,b3,b4⟩:=h
 exact ⟨⟨⟨a1,a2,⟨by show _≤v;omega,by show v≤_;omega⟩,a4⟩,a5,a6,a7⟩,b1,b2,b3,b4⟩
def CliS (w:World) (r q:Nat) (c:Client) (cb:Nat) (wx:World):Prop:=
 ∃ x:RC,RcO wx w.heap.size x c∧wx.heap[cb]?=some (.cells #[.int .i64 x.who,.int .i64 x.seen,.slice x.b x.bl x.bn,.slice x.q x.ql x.qn,.int .i64 x.done,.int .i64 x.made] 26 (0,0))∧wx.heap[w.heap.size]?=some (.cells #[.int .i64 0,.int .i64 0,.slice none 0 0,.slice none 0 0,.int .i64 0,.int .i64 0] 26 (0,0))∧w.heap.size<cb∧Rdr wx r q∧w.grownBy wx (some r)
def CliP (r p:Nat) (w:World) (x:Ending) (w':World):Prop:=
 ∃ (c:Client) (v:Value) (p':Nat),x=.returned v∧CO w' w.heap.size c v∧CW c∧p≤p'∧p'≤p+6000∧Rdr w' r p'∧w.grownBy w' (some r)
set_option maxRecDepth 100000 in
set_option maxHeartbeats 1600000 in
theorem client_d (r p:Nat) (w:World) (h:Rdr w r p) (hp:p<800000000) :
  Calls Tryz.prog 27 #[.pointer (some ⟨r,0,none⟩)] w (CliP r p w):=by
 have hrl:=h.lt
 have hE1:Ext w (w.alloc oC0):=(Below.refl _ _).alloc (Nat.le_refl _) _
 have HZ0:=Lib.hid (World.alloc_heap_new w oC0);have HE0:=Lib.hid hE1;have HR0:=Lib.hid (h.ext hE1)
 have hz1:=alloc_sz w oC0
 clear hE1 h
 go_enter Tryz.func27,Tryz.ntmps27
 go_wp2_with fail
 generalize (w.alloc oC0)=W0 at *
 refine (world_d r p W0 HR0.out (by omega)).mono ?_
 rintro x w1 ⟨log,L,ln,safe,up,C,cc,xs,cls,N,nl,nc,q,rfl,hd1,hq1,hq2,hR1,hg1⟩
 have hs1:=hg1.size
 obtain ⟨g,go,rfl,-⟩:=rc_at hd1.fcli.1 0 hd1.fpos
 have hE2:Ext w1 (w1.alloc (.cells #[.slice L log.length ln,.int .i64 safe,.bool up,.slice (some ⟨g,go,none⟩) xs.length cc,.slice N nl nc] 62)):=(Below.refl _ _).alloc (Nat.le_refl _) _
 have hz2:=alloc_sz w1 (.cells #[.slice L log.length ln,.int .i64 safe,.bool up,.slice (some ⟨g,go,none⟩) xs.length cc,.slice N nl nc] 62)
 have hd2:=hd1.keep (KeepT.ext hE2)
 have hxp:=hd1.fpos;have hx3:=hd1.fthr
 have HD2:Hid (Dw (w1.alloc (.cells #[.slice L log.length ln,.int .i64 safe,.bool up,.slice (some ⟨g,go,none⟩) xs.length cc,.slice N nl nc] 62)) w.heap.size log L ln safe (some ⟨g,go,none⟩) cc xs cls):=⟨hd2.flog,hd2.flen,hd2.fops,hd2.fs0,hd2.fs1,hd2.fcli,hd2.fpos,hd2.fthr,hd2.fcls.imp (fun x c h=>h.lower (by omega)),hd2.fok⟩
 have HB2:=Lib.hid (World.alloc_heap_new w1 (.cells #[.slice L log.length ln,.int .i64 safe,.bool up,.slice (some ⟨g,go,none⟩) xs.length cc,.slice N nl nc] 62))
 have hz01:=(hg1.block _ (blk_lt HZ0.out) (fun e=>by injection e with e;omega)).trans HZ0.out
 have HZ2:=Lib.hid ((hE2.block _ (blk_lt hz01)).trans hz01)
 have HG2:=Lib.hid (gtrans (gext HE0.out:w.grownBy W0 (some r)) (gtrans hg1 (gext hE2)));have HR2:=Lib.hid (hR1.ext hE2)
 clear hE2 hd1 hd2 hg1 hR1 hz01 HZ0 HE0 HR0
 go_upto_region 2 with fail
 generalize (w1.alloc (.cells #[.slice L log.length ln,.int .i64 safe,.bool up,.slice (some ⟨g,go,none⟩) xs.length cc,.slice N nl nc] 62))=w2 at *
 have hEd:Ext w2 w2.drew:=(Below.refl _ _).drew
 obtain ⟨w3,hw3⟩:∃ W,W=w2.drew:=⟨_,rfl⟩
 have HD:Hid (Dw w3 w.heap.size log L ln safe (some ⟨g,go,none⟩) cc xs cls):=by rw [hw3];exact HD2.out.keep (KeepT.ext hEd)
 have HB3:Hid (w3.heap[w1.heap.size]?=some (.cells #[.slice L log.length ln,.int .i64 safe,.bool up,.slice (some ⟨g,go,none⟩) xs.length cc,.slice N nl nc] 62 (0,0))):=by rw [hw3];exact HB2.out
 have HZ3:Hid (w3.heap[w.heap.size]?=some (.cells cC0 26 (0,0))):=by rw [hw3];exact HZ2.out
 have HG3:Hid (w.grownBy w3 (some r)):=by rw [hw3];exact gtrans HG2.out (gext hEd)
 have HR3:Hid (Rdr w3 r q):=by rw [hw3];exact HR2.out.ext hEd
 have HD3:=HD
 have HS:Hid (w3.cell? ⟨w1.heap.size,3,none⟩=some (.slice (some ⟨g,go,none⟩) xs.length cc)∧Rd w3 (some ⟨g,go,none⟩) cc xs):=Lib.hid ⟨(five_cells HB3.out).2.2.2.1,HD.out.fcli.1⟩
 have hs3:w1.heap.size<w3.heap.size:=blk_lt HB3.out
 clear hEd
 go_cut [4] (fun s wx=>∃ (c:Client) (cb:Nat),CD c∧s=.pointer (some ⟨cb,0,none⟩)∧CliS w r (q+1) c cb wx)
 case first=>
  refine wp_region_B (fun w'=>w'.cell? ⟨w1.heap.size,3,none⟩=some (.slice (some ⟨g,go,none⟩) xs.length cc)∧Rd w' (some ⟨g,go,none⟩) cc xs) 10 (by kernel_rfl) ?_
  rw [←hw3]
  clear hw3
  refine WB.take (i:=0) (v:=?_) rfl (by kernel_rfl) (by kernel_rfl) (by kernel_rfl) (by kernel_rfl) (fun _ _ _ h=>h) HS.out (Or.inl ⟨by rfl,?_⟩) ?_
  rotate_left
  ·(rintro w ⟨s0,s1⟩;go_simp;try with_reducible rfl)
  try simp only [Act.put,List.setIfInBounds_toArray,List.set_cons_zero,List.set_cons_succ]
  refine WB.take (i:=1) (v:=?_) rfl (by kernel_rfl) (by kernel_rfl) (by kernel_rfl) (by kernel_rfl) (fun _ _ _ h=>h) HS.out (Or.inl ⟨by rfl,?_⟩) ?_
  rotate_left
  ·(rintro w ⟨s0,s1⟩;go_simp;try with_reducible rfl)
  try simp only [Act.put,List.setIfInBounds_toArray,List.set_cons_zero,List.set_cons_succ]
  refine WB.take (i:=2) (v:=?_) rfl (by kernel_rfl) (by kernel_rfl) (by kernel_rfl) (by kernel_rfl) (fun _ _ _ h=>h) HS.out (Or.inl ⟨by rfl,?_⟩) ?_
  rotate_left
  ·(rintro w ⟨s0,s1⟩;go_simp;try with_reducible rfl)
  try simp only [Act.put,List.setIfInBounds_toArray,List.set_cons_zero,List.set_cons_succ]
  refine WB.take (i:=3) (v:=?_) rfl (by kernel_rfl) (by kernel_rfl) (by kernel_rfl) (by kernel_rfl) (fun _ _ _ h=>h) HS.out (Or.inl ⟨by rfl,?_⟩) ?_
  rotate_left
  ·(rintro w ⟨s0,s1⟩;go_simp;try with_reducible rfl)
  try simp only [Act.put,List.setIfInBounds_toArray,List.set_cons_zero,List.set_cons_succ]
  refine WB.take (i:=4) (v:=?_) rfl (by kernel_rfl) (by kernel_rfl) (by kernel_rfl) (by kernel_rfl) (fun _ _ _ h=>h) HS.out (Or.inl ⟨by rfl,?_⟩) ?_
  rotate_left
  ·(rintro w ⟨s0,s1⟩;go_simp;try with_reducible rfl)
  try simp only [Act.put,List.setIfInBounds_toArray,List.set_cons_zero,List.set_cons_succ]
  refine WB.take (i:=5) (v:=?_) rfl (by kernel_rfl) (by kernel_rfl) (by kernel_rfl) (by kernel_rfl) (fun _ _ _ h=>h) HS.out (Or.inl ⟨by rfl,?_⟩) ?_
  rotate_left
  ·(rintro w ⟨s0,s1⟩;go_simp;try with_reducible rfl)
  try simp only [Act.put,List.setIfInBounds_toArray,List.set_cons_zero,List.set_cons_succ]
  refine WB.two (i:=6) (j:=9) (by kernel_rfl) rfl rfl (fun K hK=>?_) (fun K hK=>?_)
  ·have HKK:=Lib.hid hK
   clear hK
   go_simp
   refine (pick_c r q (xs.length:Int) _ HR3.out (by omega) ⟨by omega,by omega⟩).mono ?_
   rintro r9 w5 ⟨v,rfl,hv0,hv1,-,hR,hg⟩
   have hvb:=hv1 (by omega)
   refine Exists.elim (⟨v.toNat,by omega⟩:∃ kk:Nat,v=kk) ?_
   intro kk hkk
   rw [hkk]
   have hkx:kk<xs.length:=by omega
   have hki:(kk:Int)<xs.length:=by omega
   have hkc:kk<cls.length:=by have:=HD.out.fcls.1;omega
   clear hv1 hkk hvb hv0
   have hk5:KeepT w3 w5:=by
    obtain ⟨A,c,bs,hbk,-⟩:=HR3.out
    exact KeepT.grown hg hbk (by decide) (by decide) (by decide) (by decide)
   have HD5:=Lib.hid (HD3.out.keep hk5)
   have HB5:=Lib.hid ((hg.block _ (blk_lt HB3.out) (fun e=>by injection e with e;omega)).trans HB3.out)
   have HZ5:=Lib.hid ((hg.block _ (blk_lt HZ3.out) (fun e=>by injection e with e;omega)).trans HZ3.out)
   have HG5:=Lib.hid (gtrans HG3.out hg);have HR5:=Lib.hid hR
   have HS5:Hid (w5.cell? ⟨w1.heap.size,3,none⟩=some (.slice (some ⟨g,go,none⟩) xs.length cc)∧Rd w5 (some ⟨g,go,none⟩) cc xs):=Lib.hid ⟨(five_cells HB5.out).2.2.2.1,HD5.out.fcli.1⟩
   refine HKK.out _ _ ⟨fun _=>HS5.out,?_⟩
   clear HKK K hg hR hk5
   try simp only [Act.put,List.setIfInBounds_toArray,List.set_cons_zero,List.set_cons_succ]
   refine WB.takeP (i:=7) (v:=?_) rfl (by kernel_rfl) (by kernel_rfl) (by kernel_rfl) (by kernel_rfl) (fun _ _ _ h=>h) HS5.out (Or.inl ⟨by rfl,?_⟩) ?_
   rotate_left
   ·(rintro w -;go_simp;try with_reducible rfl)
   try simp only [Act.put,List.setIfInBounds_toArray,List.set_cons_zero,List.set_cons_succ]
   refine WB.take (i:=8) (v:=?_) rfl (by kernel_rfl) (by kernel_rfl) (by kernel_rfl) (by kernel_rfl) (fun _ _ _ h=>h) HS5.out (Or.inl ⟨by rfl,?_⟩) ?_
   rotate_left
   ·rintro w ⟨s0,s1⟩
    obtain ⟨xb,xo,he9,hbx9,x0,x1,x2,x3,x4,x5⟩:=rc_at s1 kk hkx
    injection he9 with he9;injection he9 with he91 he92;subst he91;subst he92
    go_simp
    try with_reducible rfl
   try simp only [Act.put,List.setIfInBounds_toArray,List.set_cons_zero,List.set_cons_succ]
   have hE6:Ext w5 (w5.alloc oC0):=(Below.refl _ _).alloc (Nat.le_refl _) _
   have hs5:=HG5.out.size
   have HCB:=Lib.hid (World.alloc_heap_new w5 oC0)
   have HD6:=Lib.hid (HD5.out.keep (KeepT.ext hE6));have HB6:=Lib.hid ((hE6.block _ (blk_lt HB5.out)).trans HB5.out);have HZ6:=Lib.hid ((hE6.block _ (blk_lt HZ5.out)).trans HZ5.out)
   have HG6:=Lib.hid (gtrans HG5.out (gext hE6));have HR6:=Lib.hid (HR5.out.ext hE6)
   have HS6:Hid ((w5.alloc oC0).cell? ⟨w1.heap.size,3,none⟩=some (.slice (some ⟨g,go,none⟩) xs.length cc)∧Rd (w5.alloc oC0) (some ⟨g,go,none⟩) cc xs):=Lib.hid ⟨(five_cells HB6.out).2.2.2.1,HD6.out.fcli.1⟩
   have hrw5:=HR5.out.lt
   have hzw5:=blk_lt HZ5.out
   refine WB.one (i:=9) (by kernel_rfl) rfl (fun K hK=>?_)
   have HKK:=Lib.hid hK
   clear hK
   go_simp
   refine HKK.out _ _ ⟨fun _=>HS6.out,?_⟩
   clear HKK K hE6 HS5
   try simp only [Act.put,List.setIfInBounds_toArray,List.set_cons_zero,List.set_cons_succ]
   have hE9:Ext w5 (w5.alloc (oR xs[kk])):=(Below.refl _ _).alloc (Nat.le_refl _) _
   have HF:Hid (CliS w r (q+1) cls[kk] w5.heap.size (w5.alloc (oR xs[kk]))):=⟨xs[kk],(HD5.out.fcls.2 kk hkx hkc).ext hE9,World.alloc_heap_new w5 (oR xs[kk]),(hE9.block _ (blk_lt HZ5.out)).trans HZ5.out,by omega,HR5.out.ext hE9,gtrans HG5.out (gext hE9)⟩
   have HCD:=Lib.hid (HD5.out.fok _ (List.getElem_mem hkc))
   clear hE9
   have z0:=(six_cells HCB.out).1
   have z1:=(six_cells HCB.out).2.1
   have z2:=(six_cells HCB.out).2.2.1
   have z3:=(six_cells HCB.out).2.2.2.1
   have z4:=(six_cells HCB.out).2.2.2.2.1
   have z5:=(six_cells HCB.out).2.2.2.2.2.1
   have zf:=(six_cells HCB.out).2.2.2.2.2.2
   refine WB.one (i:=10) (by kernel_rfl) rfl (fun K hK=>?_)
   have HKK:=Lib.hid hK
   clear hK
   go_simp
   refine HKK.out _ _ ⟨fun h=>(no_late h (by kernel_rfl)).elim,?_⟩
   clear HKK K z0 z1 z2 z3 z4 z5 zf
   refine WB.done (by kernel_rfl) ?_
   go_wp2_with fail
   go_meet
   exact ⟨cls[kk],w5.heap.size,HCD.out,rfl,HF.out⟩
  ·have HKK:=Lib.hid hK
   clear hK
   have hE4:Ext w3 (w3.alloc oC0):=(Below.refl _ _).alloc (Nat.le_refl _) _
   have HC4:=Lib.hid (World.alloc_heap_new w3 oC0)
   have HD4:=Lib.hid (HD.out.keep (KeepT.ext hE4));have HB4:=Lib.hid ((hE4.block _ (blk_lt HB3.out)).trans HB3.out);have HZ4:=Lib.hid ((hE4.block _ (blk_lt HZ3.out)).trans HZ3.out)
   have HG4:=Lib.hid (gtrans HG3.out (gext hE4));have HR4:=Lib.hid (HR3.out.ext hE4)
   have hs34:=HG3.out.size
   have hrl3:=HR3.out.lt
   have hzl3:=blk_lt HZ3.out
   have HS4:Hid ((w3.alloc oC0).cell? ⟨w1.heap.size,3,none⟩=some (.slice (some ⟨g,go,none⟩) xs.length cc)∧Rd (w3.alloc oC0) (some ⟨g,go,none⟩) cc xs):=Lib.hid ⟨(five_cells HB4.out).2.2.2.1,HD4.out.fcli.1⟩
   go_simp
   refine HKK.out _ _ ⟨fun _=>HS4.out,?_⟩
   clear HKK K HS
   try simp only [Act.put,List.setIfInBounds_toArray,List.set_cons_zero,List.set_cons_succ]
   generalize (w3.alloc oC0)=w4 at *
   have hlc:=blk_lt HC4.out
   refine WB.one (i:=6) (by kernel_rfl) rfl (fun K hK=>?_)
   have HKK:=Lib.hid hK
   clear hK
   go_simp
   refine (pick_c r q (xs.length:Int) _ HR4.out (by omega) ⟨by omega,by omega⟩).mono ?_
   rintro r9 w5 ⟨v,rfl,hv0,hv1,-,hR,hg⟩
   have hvb:=hv1 (by omega)
   refine Exists.elim (⟨v.toNat,by omega⟩:∃ kk:Nat,v=kk) ?_
   intro kk hkk
   rw [hkk]
   have hkx:kk<xs.length:=by omega
   have hki:(kk:Int)<xs.length:=by omega
   have hkc:kk<cls.length:=by have:=HD.out.fcls.1;omega
   clear hv1 hkk hvb hv0
   have hk5:KeepT w4 w5:=by
    obtain ⟨A,c,bs,hbk,-⟩:=HR4.out
    exact KeepT.grown hg hbk (by decide) (by decide) (by decide) (by decide)
   have HD5:=Lib.hid (HD4.out.keep hk5)
   have HB5:=Lib.hid ((hg.block _ (blk_lt HB4.out) (fun e=>by injection e with e;omega)).trans HB4.out)
   have HZ5:=Lib.hid ((hg.block _ (blk_lt HZ4.out) (fun e=>by injection e with e;omega)).trans HZ4.out)
   have HG5:=Lib.hid (gtrans HG4.out hg);have HR5:=Lib.hid hR
   have HCB:=Lib.hid ((hg.block _ hlc (fun e=>by injection e with e;omega)).trans HC4.out)
   have HS5:Hid (w5.cell? ⟨w1.heap.size,3,none⟩=some (.slice (some ⟨g,go,none⟩) xs.length cc)∧Rd w5 (some ⟨g,go,none⟩) cc xs):=Lib.hid ⟨(five_cells HB5.out).2.2.2.1,HD5.out.fcli.1⟩
   refine HKK.out _ _ ⟨fun _=>HS5.out,?_⟩
   clear HKK K HS4 hg hR hk5 hE4
   try simp only [Act.put,List.setIfInBounds_toArray,List.set_cons_zero,List.set_cons_succ]
   refine WB.takeP (i:=7) (v:=?_) rfl (by kernel_rfl) (by kernel_rfl) (by kernel_rfl) (by kernel_rfl) (fun _ _ _ h=>h) HS5.out (Or.inl ⟨by rfl,?_⟩) ?_
   rotate_left
   ·(rintro w -;go_simp;try with_reducible rfl)
   try simp only [Act.put,List.setIfInBounds_toArray,List.set_cons_zero,List.set_cons_succ]
   refine WB.take (i:=8) (v:=?_) rfl (by kernel_rfl) (by kernel_rfl) (by kernel_rfl) (by kernel_rfl) (fun _ _ _ h=>h) HS5.out (Or.inl ⟨by rfl,?_⟩) ?_
   rotate_left
   ·rintro w ⟨s0,s1⟩
    obtain ⟨xb,xo,he9,hbx9,x0,x1,x2,x3,x4,x5⟩:=rc_at s1 kk hkx
    injection he9 with he9;injection he9 with he91 he92;subst he91;subst he92
    go_simp
    try with_reducible rfl
   try simp only [Act.put,List.setIfInBounds_toArray,List.set_cons_zero,List.set_cons_succ]
   have hp6:=put6_at (.int .i64 xs[kk].who) (.int .i64 xs[kk].seen) (.slice xs[kk].b xs[kk].bl xs[kk].bn) (.slice xs[kk].q xs[kk].ql xs[kk].qn) (.int .i64 xs[kk].done) (.int .i64 xs[kk].made) HCB.out
   have hg6:w5.grownBy (put6 w5 w3.heap.size (.int .i64 xs[kk].who) (.int .i64 xs[kk].seen) (.slice xs[kk].b xs[kk].bl xs[kk].bn) (.slice xs[kk].q xs[kk].ql xs[kk].qn) (.int .i64 xs[kk].done) (.int .i64 xs[kk].made)) (some w3.heap.size):=gset (gset (gset (gset (gset (gset_any _ _ _ _) _ _) _ _) _ _) _ _) _ _
   have hk6:KeepRE w5 (put6 w5 w3.heap.size (.int .i64 xs[kk].who) (.int .i64 xs[kk].seen) (.slice xs[kk].b xs[kk].bl xs[kk].bn) (.slice xs[kk].q xs[kk].ql xs[kk].qn) (.int .i64 xs[kk].done) (.int .i64 xs[kk].made)):=KeepRE.grown hg6 HCB.out (by decide) (by decide)
   have HF:Hid (CliS w r (q+1) cls[kk] w3.heap.size (put6 w5 w3.heap.size (.int .i64 xs[kk].who) (.int .i64 xs[kk].seen) (.slice xs[kk].b xs[kk].bl xs[kk].bn) (.slice xs[kk].q xs[kk].ql xs[kk].qn) (.int .i64 xs[kk].done) (.int .i64 xs[kk].made))):=⟨xs[kk],(HD5.out.fcls.2 kk hkx hkc).keepR hk6,hp6,(hg6.block _ (blk_lt HZ5.out) (by intro e;injection e with e;omega)).trans HZ5.out,by omega,HR5.out.other hg6 (by omega),gmix HG5.out hg6 (fun b hb=>by injection hb with hb;omega)⟩
   have HCD:=Lib.hid (HD5.out.fok _ (List.getElem_mem hkc))
   clear hp6 hg6 hk6
   have z0:=(six_cells HCB.out).1
   have z1:=(six_cells HCB.out).2.1
   have z2:=(six_cells HCB.out).2.2.1
   have z3:=(six_cells HCB.out).2.2.2.1
   have z4:=(six_cells HCB.out).2.2.2.2.1
   have z5:=(six_cells HCB.out).2.2.2.2.2.1
   have zf:=(six_cells HCB.out).2.2.2.2.2.2
   refine WB.one (i:=10) (by kernel_rfl) rfl (fun K hK=>?_)
   have HKK:=Lib.hid hK
   clear hK
   go_simp
   refine HKK.out _ _ ⟨fun h=>(no_late h (by kernel_rfl)).elim,?_⟩
   clear HKK K z0 z1 z2 z3 z4 z5 zf
   refine WB.done (by kernel_rfl) ?_
   go_wp2_with fail
   go_meet
   exact ⟨cls[kk],w3.heap.size,HCD.out,rfl,HF.out⟩
 case rest=>
  obtain ⟨c,cb,hcd,rfl,x,hx,hbx,hzx,hcb,hR1,hG1⟩:=hcut
  have HX0:=Lib.hid hx;have HB0:=Lib.hid hbx;have HZ0:=Lib.hid hzx;have HR0:=Lib.hid hR1;have HG0:=Lib.hid hG1;have HCD:=Lib.hid hcd
  clear HS HD HD2 HD3 HB2 HB3 HZ2 HZ3 HG2 HG3 HR2 HR3 hw3 hs3 hcd hx hbx hzx hR1 hG1
  go_wp2_with fail
  refine (pick_c r (q+1) 24 _ HR0.out (by omega) ⟨by omega,by omega⟩).mono ?_
  rintro r9 w4 ⟨v,rfl,hv0,hv1,-,hR,hg⟩
  have hk:KeepT wc w4:=by
   obtain ⟨A,c9,bs,hbk,-⟩:=HR0.out
   exact KeepT.grown hg hbk (by decide) (by decide) (by decide) (by decide)
  have HX4:=Lib.hid (HX0.out.keep hk)
  have HB4:=Lib.hid ((hg.block _ (blk_lt HB0.out) (fun e=>by injection e with e;omega)).trans HB0.out)
  have HZ4:=Lib.hid ((hg.block _ (blk_lt HZ0.out) (fun e=>by injection e with e;omega)).trans HZ0.out)
  have HG4:=Lib.hid (gtrans HG0.out hg);have HR4:=Lib.hid hR
  clear hk hg hR
  by_cases h0:v=0
  ·subst h0
   go_wp2_with fail
   refine (pick_c r (q+1+1) 4 _ HR4.out (by omega) ⟨by omega,by omega⟩).mono ?_
   rintro r9 w5 ⟨v5,rfl,hv50,hv51,-,hR,hg⟩
   have hvb:=hv51 (by omega)
   have hk:KeepT w4 w5:=by
    obtain ⟨A,c9,bs,hbk,-⟩:=HR4.out
    exact KeepT.grown hg hbk (by decide) (by decide) (by decide) (by decide)
   have HX5:=Lib.hid (HX4.out.keep hk)
   have HB5:=Lib.hid ((hg.block _ (blk_lt HB4.out) (fun e=>by injection e with e;omega)).trans HB4.out)
   have HZ5:=Lib.hid ((hg.block _ (blk_lt HZ4.out) (fun e=>by injection e with e;omega)).trans HZ4.out)
   have HG5:=Lib.hid (gtrans HG4.out hg);have HR5:=Lib.hid hR
   clear hk hg hR
   have hg7:w5.grownBy (w5.setCell ⟨cb,4,none⟩ (.int .i64 v5)) (some cb):=gset_any w5 cb 4 _
   have HBX:=Lib.hid (set_at (i:=4) (v:=.int .i64 v5) HB5.out)
   have HZX:=Lib.hid ((hg7.block _ (blk_lt HZ5.out) (by intro e;injection e with e;omega)).trans HZ5.out)
   have HXX:Hid (RcO (w5.setCell ⟨cb,4,none⟩ (.int .i64 v5)) w.heap.size (⟨x.who,x.seen,x.b,x.bl,x.bn,x.q,x.ql,x.qn,v5,x.made⟩:RC) { c with done:=v5 }):=by
    obtain ⟨b,bn,qq,qn,he,r1,r2⟩:=HX5.out.keepR (KeepRE.grown hg7 HB5.out (by decide) (by decide))
    rw [he]
    exact ⟨b,bn,qq,qn,rfl,r1,r2⟩
   have HGX:=Lib.hid (gmix HG5.out hg7 (fun b hb=>by injection hb with hb;omega))
   have HRX:=Lib.hid (HR5.out.other hg7 (by omega))
   have HCW:Hid (CW { c with done:=v5 }):=(HCD.out.done ⟨by omega,by omega⟩).1
   obtain ⟨c0,c1,c2,c3,c4,c5,cf⟩:=six_cells HB5.out
   clear hg7
   go_upto_region 8 with fail
   clear c0 c1 c2 c3 c4 c5 cf
   generalize (w5.setCell ⟨cb,4,none⟩ (.int .i64 v5))=W7 at *
   have hz:=put6_at (.int .i64 x.who) (.int .i64 x.seen) (.slice x.b x.bl x.bn) (.slice x.q x.ql x.qn) (.int .i64 v5) (.int .i64 x.made) HZX.out
   have hg:W7.grownBy (put6 W7 w.heap.size (.int .i64 x.who) (.int .i64 x.seen) (.slice x.b x.bl x.bn) (.slice x.q x.ql x.qn) (.int .i64 v5) (.int .i64 x.made)) (some w.heap.size):=gset (gset (gset (gset (gset (gset_any _ _ _ _) _ _) _ _) _ _) _ _) _ _
   have HZ9:=Lib.hid hz
   have HC9:=Lib.hid (RcO.keepR HXX.out (KeepRE.grown hg HZX.out (by decide) (by decide)))
   have HR9:=Lib.hid (Rdr.other HRX.out hg hrl)
   have HG9:=Lib.hid (gmix HGX.out hg (fun b hb=>by injection hb with hb;omega))
   obtain ⟨c0,c1,c2,c3,c4,c5,cf⟩:=six_cells HBX.out
   obtain ⟨d0,d1,d2,d3,d4,d5,df⟩:=six_cells HZX.out
   clear hz hg
   go_wp2_with fail
   obtain ⟨k0,k1,k2,k3,k4,k5,kf⟩:=six_cells HZ9.out
   refine bodyPost_ret (v:=.agg #[.int .i64 x.who,.int .i64 x.seen,.slice x.b x.bl x.bn,.slice x.q x.ql x.qn,.int .i64 v5,.int .i64 x.made]) ?_ rfl ?_
   ·simp [results,Tryz.f27,go_sem,k0,k1,k2,k3,k4,k5]
   ·exact ⟨_,_,q+1+1+1,rfl,HC9.out.co,HCW.out,by omega,by omega,HR9.out,HG9.out⟩
  by_cases h1:v=1
  ·subst h1
   obtain ⟨b,bn,qq,qn,hxe,hr1,hr2⟩:=HX4.out
   have HB4b:Hid (w4.heap[cb]?=some (.cells (cC c b bn qq qn) 26 (0,0))):=by have h:=HB4.out;rw [hxe] at h;exact h
   clear hxe hv0 hv1 h0
   have hEd:Ext w4 w4.drew:=(Below.refl _ _).drew
   obtain ⟨w5,hw5⟩:∃ W,W=w4.drew:=⟨_,rfl⟩
   have HB5:Hid (w5.heap[cb]?=some (.cells (cC c b bn qq qn) 26 (0,0))):=by rw [hw5];exact HB4b.out
   have HZ5:Hid (w5.heap[w.heap.size]?=some (.cells cC0 26 (0,0))):=by rw [hw5];exact HZ4.out
   have H15:Hid (Own 46 w5 w.heap.size (.slice b c.base.length bn) c.base):=by rw [hw5];exact hr1.below hEd
   have H25:Hid (Own 35 w5 w.heap.size (.slice qq c.wait.length qn) c.wait):=by rw [hw5];exact hr2.below hEd
   have HG5:Hid (w.grownBy w5 (some r)):=by rw [hw5];exact gtrans HG4.out (gext hEd)
   have HR5:Hid (Rdr w5 r (q+1+1)):=by rw [hw5];exact HR4.out.ext hEd
   have HS:Hid (w5.cell? ⟨cb,3,none⟩=some (.slice qq c.wait.length qn)∧w5.cell? ⟨cb,0,none⟩=some (.int .i64 c.who)):=Lib.hid ⟨(six_cells HB5.out).2.2.2.1,(six_cells HB5.out).1⟩
   clear hr1 hr2 hEd
   go_upto_region 7 with fail
   refine wp_region_B (fun w'=>w'.cell? ⟨cb,3,none⟩=some (.slice qq c.wait.length qn)∧w'.cell? ⟨cb,0,none⟩=some (.int .i64 c.who)) 13 (by kernel_rfl) ?_
   rw [←hw5]
   clear hw5
   refine WB.take (i:=0) (v:=?_) rfl (by kernel_rfl) (by kernel_rfl) (by kernel_rfl) (by kernel_rfl) (fun _ _ _ h=>h) HS.out (Or.inl ⟨by rfl,?_⟩) ?_
   rotate_left
   ·(rintro w ⟨s0,s1⟩;go_simp;try with_reducible rfl)
   try simp only [Act.put,List.setIfInBounds_toArray,List.set_cons_zero,List.set_cons_succ]
   refine WB.take (i:=1) (v:=?_) rfl (by kernel_rfl) (by kernel_rfl) (by kernel_rfl) (by kernel_rfl) (fun _ _ _ h=>h) HS.out (Or.inl ⟨by rfl,?_⟩) ?_
   rotate_left
   ·(rintro w ⟨s0,s1⟩;go_simp;try with_reducible rfl)
   try simp only [Act.put,List.setIfInBounds_toArray,List.set_cons_zero,List.set_cons_succ]
   refine WB.take (i:=2) (v:=?_) rfl (by kernel_rfl) (by kernel_rfl) (by kernel_rfl) (by kernel_rfl) (fun _ _ _ h=>h) HS.out (Or.inl ⟨by rfl,?_⟩) ?_
   rotate_left
   ·(rintro w ⟨s0,s1⟩;go_simp;try with_reducible rfl)
   try simp only [Act.put,List.setIfInBounds_toArray,List.set_cons_zero,List.set_cons_succ]
   refine WB.take (i:=3) (v:=?_) rfl (by kernel_rfl) (by kernel_rfl) (by kernel_rfl) (by kernel_rfl) (fun _ _ _ h=>h) HS.out (Or.inl ⟨by rfl,?_⟩) ?_
   rotate_left
   ·(rintro w ⟨s0,s1⟩;go_simp;try with_reducible rfl)
   try simp only [Act.put,List.setIfInBounds_toArray,List.set_cons_zero,List.set_cons_succ]
   refine WB.take (i:=4) (v:=?_) rfl (by kernel_rfl) (by kernel_rfl) (by kernel_rfl) (by kernel_rfl) (fun _ _ _ h=>h) HS.out (Or.inl ⟨by rfl,?_⟩) ?_
   rotate_left
   ·(rintro w ⟨s0,s1⟩;go_simp;try with_reducible rfl)
   try simp only [Act.put,List.setIfInBounds_toArray,List.set_cons_zero,List.set_cons_succ]
   refine WB.takeP (i:=7) (v:=?_) rfl (by kernel_rfl) (by kernel_rfl) (by kernel_rfl) (by kernel_rfl) (fun _ _ _ h=>h) HS.out (Or.inl ⟨by rfl,?_⟩) ?_
   rotate_left
   ·(rintro w -;go_simp;try with_reducible rfl)
   try simp only [Act.put,List.setIfInBounds_toArray,List.set_cons_zero,List.set_cons_succ]
   refine WB.one (i:=5) (by kernel_rfl) rfl (fun K hK=>?_)
   have HKK:=Lib.hid hK
   clear hK
   go_simp
   refine (pick_c r (q+1+1) 9 _ HR5.out (by omega) ⟨by omega,by omega⟩).mono ?_
   rintro r9 w6 ⟨v6,rfl,hv0,hv1,-,hR,hg⟩
   have hvb:=hv1 (by omega)
   have hk:KeepT w5 w6:=by
    obtain ⟨A,c9,bs,hbk,-⟩:=HR5.out
    exact KeepT.grown hg hbk (by decide) (by decide) (by decide) (by decide)
   have H16:=Lib.hid (H15.out.keep hk (.inl rfl));have H26:=Lib.hid (H25.out.keep hk (.inr (.inl rfl)))
   have HB6:=Lib.hid ((hg.block _ (blk_lt HB5.out) (fun e=>by injection e with e;omega)).trans HB5.out)
   have HZ6:=Lib.hid ((hg.block _ (blk_lt HZ5.out) (fun e=>by injection e with e;omega)).trans HZ5.out)
   have HG6:=Lib.hid (gtrans HG5.out hg);have HR6:=Lib.hid hR
   have HS6:Hid (w6.cell? ⟨cb,3,none⟩=some (.slice qq c.wait.length qn)∧w6.cell? ⟨cb,0,none⟩=some (.int .i64 c.who)):=Lib.hid ⟨(six_cells HB6.out).2.2.2.1,(six_cells HB6.out).1⟩
   clear hk hg hR
   have hwv:IntKind.i64.wrap (1+v6)=1+v6:=by rw [IntKind.wrap_i64];omega
   refine HKK.out _ _ ⟨fun _=>HS6.out,?_⟩
   clear HKK K HS hv1
   try simp only [Act.put,List.setIfInBounds_toArray,List.set_cons_zero,List.set_cons_succ]
   refine WB.takeP (i:=6) (v:=?_) rfl (by kernel_rfl) (by kernel_rfl) (by kernel_rfl) (by kernel_rfl) (fun _ _ _ h=>h) HS6.out (Or.inl ⟨by rfl,?_⟩) ?_
   rotate_left
   ·(rintro w -;go_simp;try with_reducible rfl)
   try simp only [Act.put,List.setIfInBounds_toArray,List.set_cons_zero,List.set_cons_succ]
   refine WB.one (i:=8) (by kernel_rfl) rfl (fun K hK=>?_)
   have HKK:=Lib.hid hK
   clear hK
   go_simp
   refine (opx_d r (q+1+1+1) _ HR6.out (by omega)).mono ?_
   rintro r9 w7 ⟨o,p7,rfl,hsm,hq71,hq72,hR,hg⟩
   rw [show o.val=.agg (cO o) from rfl]
   have HSM:=Lib.hid hsm
   clear hsm
   have hk:KeepT w6 w7:=by
    obtain ⟨A,c9,bs,hbk,-⟩:=HR6.out
    exact KeepT.grown hg hbk (by decide) (by decide) (by decide) (by decide)
   have H17:=Lib.hid (H16.out.keep hk (.inl rfl));have H27:=Lib.hid (H26.out.keep hk (.inr (.inl rfl)))
   have HB7:=Lib.hid ((hg.block _ (blk_lt HB6.out) (fun e=>by injection e with e;omega)).trans HB6.out)
   have HZ7:=Lib.hid ((hg.block _ (blk_lt HZ6.out) (fun e=>by injection e with e;omega)).trans HZ6.out)
   have HG7:=Lib.hid (gtrans HG6.out hg);have HR7:=Lib.hid hR
   have HS7:Hid (w7.cell? ⟨cb,3,none⟩=some (.slice qq c.wait.length qn)∧w7.cell? ⟨cb,0,none⟩=some (.int .i64 c.who)):=Lib.hid ⟨(six_cells HB7.out).2.2.2.1,(six_cells HB7.out).1⟩
   clear hk hg hR
   refine HKK.out _ _ ⟨fun _=>HS7.out,?_⟩
   clear HKK K HS6
   try simp only [Act.put,List.setIfInBounds_toArray,List.set_cons_zero,List.set_cons_succ]
   refine WB.takeP (i:=9) (v:=?_) rfl (by kernel_rfl) (by kernel_rfl) (by kernel_rfl) (by kernel_rfl) (fun _ _ _ h=>h) HS7.out (Or.inl ⟨by rfl,?_⟩) ?_
   rotate_left
   ·(rintro w -;go_simp;try with_reducible rfl)
   try simp only [Act.put,List.setIfInBounds_toArray,List.set_cons_zero,List.set_cons_succ]
   have hE8:Ext w7 (w7.alloc (.cells #[.int .i64 c.who,.int .i64 (1+v6),.int .i64 o.kind,.int .i64 o.id,.int .i64 o.up,.int .i64 o.pos,.string o.text] 35)):=(Below.refl _ _).alloc (Nat.le_refl _) _
   have hs7:=HG7.out.size
   have happ:=app_one el_ent H27.out (⟨c.who,1+v6,o⟩:Entry) (by have:=HSM.out.2.2.2.2;show o.text.size≤maxLen;unfold maxLen;omega) (by have:=HCD.out.2.1;omega) hs7 #[.int .i64 c.who,.int .i64 (1+v6),.int .i64 o.kind,.int .i64 o.id,.int .i64 o.up,.int .i64 o.pos,.string o.text] rfl
   have HB8:=Lib.hid ((hE8.block _ (blk_lt HB7.out)).trans HB7.out)
   have HS8:Hid ((w7.alloc (.cells #[.int .i64 c.who,.int .i64 (1+v6),.int .i64 o.kind,.int .i64 o.id,.int .i64 o.up,.int .i64 o.pos,.string o.text] 35)).cell? ⟨cb,3,none⟩=some (.slice qq c.wait.length qn)∧(w7.alloc (.cells #[.int .i64 c.who,.int .i64 (1+v6),.int .i64 o.kind,.int .i64 o.id,.int .i64 o.up,.int .i64 o.pos,.string o.text] 35)).cell? ⟨cb,0,none⟩=some (.int .i64 c.who)):=Lib.hid ⟨(six_cells HB8.out).2.2.2.1,(six_cells HB8.out).1⟩
   refine WB.one (i:=10) (by kernel_rfl) rfl (fun K hK=>?_)
   have HKK:=Lib.hid hK
   clear hK
   go_simp
   refine HKK.out _ _ ⟨fun _=>HS8.out,?_⟩
   clear HKK K HS7
   try simp only [Act.put,List.setIfInBounds_toArray,List.set_cons_zero,List.set_cons_succ]
   refine Exists.elim happ ?_
   intro v8 happ
   refine Exists.elim happ ?_
   intro w8 happ
   have hrun:=happ.1;have ho8:=happ.2.1;have hg8:=happ.2.2
   refine Exists.elim ho8.rd ?_
   intro Q8 hv8
   refine Exists.elim hv8 ?_
   intro n8 hv8
   have hv8':=hv8.1
   subst hv8'
   refine Exists.elim (⟨_,rfl⟩:∃ wl,wl=c.wait++[(⟨c.who,1+v6,o⟩:Entry)]) ?_
   intro wl hwl
   rw [←hwl] at ho8 hrun
   have hoa:=H27.out.below hE8
   have hob:=box_grown HB8.out hg8 hoa (by decide)
   have hzb:=box_grown ((hE8.block _ (blk_lt HZ7.out)).trans HZ7.out) hg8 hoa (by decide)
   have hr8:=(H17.out.below hE8).grownO hg8 hoa (by decide)
   have hR8:=(HR7.out.ext hE8).row hg8 (fun b hb=>by have:=(hoa.blk b hb).1;omega)
   have hG8:=gmix (gtrans HG7.out (gext hE8)) hg8 (fun b hb=>(hoa.blk b hb).1)
   have hg9:w8.grownBy (w8.setCell ⟨cb,3,none⟩ (.slice Q8 wl.length n8)) (some cb):=gset_any w8 cb 3 _
   have HB9:=Lib.hid (set_at (i:=3) (v:=.slice Q8 wl.length n8) hob)
   have HZ9:=Lib.hid ((hg9.block _ (blk_lt hzb) (by intro e;injection e with e;omega)).trans hzb)
   have HX9:Hid (RcO (w8.setCell ⟨cb,3,none⟩ (.slice Q8 wl.length n8)) w.heap.size ⟨c.who,c.seen,b,c.base.length,bn,Q8,wl.length,n8,c.done,c.made⟩ { c with wait:=wl }):=⟨b,bn,Q8,n8,rfl,own_put hr8 hob (by decide) 3 _,own_put ho8 hob (by decide) 3 _⟩
   have HR9:=Lib.hid (hR8.other hg9 (by omega))
   have HG9:=Lib.hid (gmix hG8 hg9 (fun b hb=>by injection hb with hb;omega))
   have HCW:Hid (CW { c with wait:=wl }):=by
    have hc:=HCD.out
    refine ⟨hc.1.1,hc.1.2.1,fun e he=>?_,by show wl.length≤2000000;rw [hwl,List.length_append,List.length_singleton];have:=hc.2.1;omega⟩
    have he':e∈wl:=he
    rw [hwl] at he'
    rcases List.mem_append.1 he' with h1 | h1
    ·exact hc.1.2.2.1 e h1
    ·rw [List.mem_singleton.1 h1];exact HSM.out.w
   have HSA:Hid (w8.cell? ⟨cb,3,none⟩=some (.slice qq c.wait.length qn)∧w8.cell? ⟨cb,0,none⟩=some (.int .i64 c.who)):=Lib.hid ⟨(six_cells hob).2.2.2.1,(six_cells hob).1⟩
   have HRUN:=Lib.hid hrun;have HOB:=Lib.hid hob
   clear happ hrun ho8 hg8 hv8 hwl hoa hob hzb hr8 hR8 hG8 hg9 hE8
   refine WB.one (i:=11) (by kernel_rfl) rfl (fun K hK=>?_)
   refine step_append_run rfl _ _ _ rfl rfl rfl HRUN.out ?_
   refine hK _ _ ⟨fun _=>HSA.out,?_⟩
   clear hK K HS8 HRUN
   try simp only [Act.put,List.setIfInBounds_toArray,List.set_cons_zero,List.set_cons_succ]
   refine WB.takeP (i:=12) (v:=?_) rfl (by kernel_rfl) (by kernel_rfl) (by kernel_rfl) (by kernel_rfl) (fun _ _ _ h=>h) HSA.out (Or.inl ⟨by rfl,?_⟩) ?_
   rotate_left
   ·(rintro w -;go_simp;try with_reducible rfl)
   try simp only [Act.put,List.setIfInBounds_toArray,List.set_cons_zero,List.set_cons_succ]
   refine WB.one (i:=13) (by kernel_rfl) rfl (fun K hK=>?_)
   have HKK:=Lib.hid hK
   clear hK
   have c0:=(six_cells HOB.out).1
   have c1:=(six_cells HOB.out).2.1
   have c2:=(six_cells HOB.out).2.2.1
   have c3:=(six_cells HOB.out).2.2.2.1
   have c4:=(six_cells HOB.out).2.2.2.2.1
   have c5:=(six_cells HOB.out).2.2.2.2.2.1
   have cf:=(six_cells HOB.out).2.2.2.2.2.2
   go_simp
   refine HKK.out _ _ ⟨fun h=>(no_late h (by kernel_rfl)).elim,?_⟩
   clear HKK K HSA c0 c1 c2 c3 c4 c5 cf HOB
   refine WB.done (by kernel_rfl) ?_
   generalize (w8.setCell ⟨cb,3,none⟩ (.slice Q8 wl.length n8))=W9 at *
   have HB9b:Hid (W9.heap[cb]?=some (.cells #[.int .i64 c.who,.int .i64 c.seen,.slice b c.base.length bn,.slice Q8 wl.length n8,.int .i64 c.done,.int .i64 c.made] 26 (0,0))):=HB9.out
   have hz:=put6_at (.int .i64 c.who) (.int .i64 c.seen) (.slice b c.base.length bn) (.slice Q8 wl.length n8) (.int .i64 c.done) (.int .i64 c.made) HZ9.out
   have hg:W9.grownBy (put6 W9 w.heap.size (.int .i64 c.who) (.int .i64 c.seen) (.slice b c.base.length bn) (.slice Q8 wl.length n8) (.int .i64 c.done) (.int .i64 c.made)) (some w.heap.size):=gset (gset (gset (gset (gset (gset_any _ _ _ _) _ _) _ _) _ _) _ _) _ _
   have HZa:=Lib.hid hz
   have HC9:=Lib.hid (RcO.keepR HX9.out (KeepRE.grown hg HZ9.out (by decide) (by decide)))
   have HRa:=Lib.hid (Rdr.other HR9.out hg hrl)
   have HGa:=Lib.hid (gmix HG9.out hg (fun b hb=>by injection hb with hb;omega))
   obtain ⟨c0,c1,c2,c3,c4,c5,cf⟩:=six_cells HB9b.out
   obtain ⟨d0,d1,d2,d3,d4,d5,df⟩:=six_cells HZ9.out
   clear hz hg
   go_wp2_with fail
   obtain ⟨k0,k1,k2,k3,k4,k5,kf⟩:=six_cells HZa.out
   refine bodyPost_ret (v:=.agg #[.int .i64 c.who,.int .i64 c.seen,.slice b c.base.length bn,.slice Q8 wl.length n8,.int .i64 c.done,.int .i64 c.made]) ?_ rfl ?_
   ·simp [results,Tryz.f27,go_sem,k0,k1,k2,k3,k4,k5]
   ·exact ⟨_,_,p7,rfl,HC9.out.co,HCW.out,by omega,by omega,HRa.out,HGa.out⟩
  ·have q0:(v == 0)=false:=by simp [h0]
   have q1:(v == 1)=false:=by simp [h1]
   clear h0 h1 hv0 hv1
   have hz:=put6_at (.int .i64 x.who) (.int .i64 x.seen) (.slice x.b x.bl x.bn) (.slice x.q x.ql x.qn) (.int .i64 x.done) (.int .i64 x.made) HZ4.out
   have hg:w4.grownBy (put6 w4 w.heap.size (.int .i64 x.who) (.int .i64 x.seen) (.slice x.b x.bl x.bn) (.slice x.q x.ql x.qn) (.int .i64 x.done) (.int .i64 x.made)) (some w.heap.size):=gset (gset (gset (gset (gset (gset_any _ _ _ _) _ _) _ _) _ _) _ _) _ _
   have HZ9:=Lib.hid hz
   have HC9:=Lib.hid (RcO.keepR HX4.out (KeepRE.grown hg HZ4.out (by decide) (by decide)))
   have HR9:=Lib.hid (Rdr.other HR4.out hg hrl)
   have HG9:=Lib.hid (gmix HG4.out hg (fun b hb=>by injection hb with hb;omega))
   obtain ⟨c0,c1,c2,c3,c4,c5,cf⟩:=six_cells HB4.out
   obtain ⟨d0,d1,d2,d3,d4,d5,df⟩:=six_cells HZ4.out
   clear hz hg
   go_wp2_with fail
   obtain ⟨k0,k1,k2,k3,k4,k5,kf⟩:=six_cells HZ9.out
   refine bodyPost_ret (v:=.agg (cR x)) ?_ rfl ?_
   ·simp [results,Tryz.f27,go_sem,k0,k1,k2,k3,k4,k5]
   ·exact ⟨c,_,q+1+1,rfl,HC9.out.co,HCD.out.1,by omega,by omega,HR9.out,HG9.out⟩
open Go.RowKit
namespace T
theorem put_perm (t:T) (nd:(ids t).Nodup) (id:Int) (tx:ByteArray) (s:T) (p:Int × Int) (hp:p.1∈ids t) (hp2:0<p.2→p.2∈ids t):(ids (put t id tx s p)).Perm (id::(ids s++ids t)):=by
 unfold put
 split
 ·rename_i h0;exact insN_perm p.2 id tx s t (hp2 h0) nd
 ·exact insF_perm p.1 id tx s t hp nd
theorem doT_ids (t:T) (h:Valid t) (o:Op) (ho:opOk o=true):(∀ a∈ids t,a∈ids (doT t o))∧(o.kind=1→o.id∈ids (doT t o)):=by
 obtain ⟨hm,hk,htx,hpos⟩:=opOk_kind ho
 have hr3:=h.root 3 rfl
 have hroot:isRoot o.id=false:=made_not_root _ hm
 have hn:=near_ok t h.2.2 hr3.1 o.id o.up o.pos
 unfold doT
 rcases hk with hk | hk | hk
 ·rw [if_neg (by omega),if_pos hk]
  split
  ·rename_i hi;exact ⟨fun a ha=>ha,fun _=>hi⟩
  ·have hpm:=put_perm t h.2.2 o.id o.text nil (near t o.id o.up o.pos) hn.1 (fun h0=>by
    obtain ⟨e,_,hu,_⟩:=hn.2 h0
    rw [e] at h0 ⊢
    exact up_mem t h.2.2 _ _ hu)
   exact ⟨fun a ha=>hpm.mem_iff.2 (List.mem_cons_of_mem _ (List.mem_append_right _ ha)),fun _=>hpm.mem_iff.2 List.mem_cons_self⟩
 ·rw [if_pos hk,setT_ids]
  exact ⟨fun a ha=>ha,fun h1=>by omega⟩
 ·rw [if_neg (by omega),if_neg (by omega),if_pos hk]
  refine ⟨?_,fun h1=>by omega⟩
  cases hg:get o.id t with
  |none=>exact fun a ha=>ha
  |some p=>
   obtain ⟨x,f⟩:=p
   simp only
   split
   ·exact fun a ha=>ha
   ·rename_i hq
    obtain ⟨hndc,hsub,hback,hfwd⟩:=cut_facts t h.2.2 o.id x f hg
    have h3f:3∉ids f:=by
     intro h3
     obtain ⟨q,hq,_⟩:=under_in t h.2.2 o.id x f hg 3 h3
     rw [hr3.2] at hq;cases hq
    have hpm:=put_perm (cut o.id t) hndc o.id x f (near t o.id o.up o.pos) (by
     unfold near
     split
     ·rename_i hu
      exact hback o.up hu (fun e=>hq (.inl e)) (fun e=>hq (.inr e))
     ·exact hback 3 hr3.1 (fun e=>by rw [←e] at hroot;cases hroot) h3f) (fun h0=>by
     obtain ⟨e,hne,hu,hup⟩:=hn.2 h0
     rw [e] at h0 ⊢
     rw [hup] at hu
     exact hback o.pos (up_mem t h.2.2 _ _ hu) hne (fun hf=>hq ((under_step t h.2.2 o.id x f hg o.pos o.up hu).1 hf)))
    intro a ha
    rw [hpm.mem_iff,List.mem_cons,List.mem_append]
    by_cases e1:a=o.id
    ·exact .inl e1
    ·by_cases e2:a∈ids f
     ·exact .inr (.inl e2)
     ·exact .inr (.inr (hback a ha e1 e2))
end T
def idsL (t:List Row):List Int:=t.map (·.id)
theorem idsL_build {t:List Row} (ht:treeOk t=true):idsL t=T.ids (T.build t)∧(idsL t).Nodup:=by
 obtain ⟨hv,he⟩:=T.valid_build t ht
 have h1:idsL t=T.ids (T.build t):=by
  have:=T.rows_ids 0 (T.build t)
  rw [he] at this;exact this
 exact ⟨h1,by rw [h1];exact hv.2.2⟩
theorem doL_ids {t:List Row} {o:Op} (ht:treeOk t=true) (ho:opOk o=true):(∀ a∈idsL t,a∈idsL (doL t o))∧(o.kind=1→o.id∈idsL (doL t o)):=by
 obtain ⟨h1,h2⟩:=T.doT_ids (T.build t) (T.valid_build t ht).1 o ho
 have h3:idsL (doL t o)=T.ids (T.doT (T.build t) o):=by rw [doL_build t o ht ho];exact T.rows_ids 0 _
 rw [(idsL_build ht).1,h3]
 exact ⟨h1,h2⟩
theorem runOps_ids (l:List Entry):∀ t:List Row,treeOk t=true→(∀ e∈l,opOk e.op=true)→treeOk (runOps t l)=true∧(∀ a∈idsL t,a∈idsL (runOps t l))∧(∀ e∈l,e.op.kind=1→e.op.id∈idsL (runOps t l)):=by
 induction l with
 |nil=>intro t ht _;exact ⟨ht,fun a ha=>ha,by simp⟩
 |cons e l ih=>
  intro t ht hl
  have ho:=hl e List.mem_cons_self
  have hod:opDo t e.op=doL t e.op:=by unfold opDo;rw [ht,ho];rfl
  have h1:=doL_ids ht ho
  rw [←hod] at h1
  have htn:treeOk (opDo t e.op)=true:=by rw [hod];exact treeOk_do t _ ht ho
  obtain ⟨a1,a2,a3⟩:=ih (opDo t e.op) htn (fun x hx=>hl x (List.mem_cons_of_mem _ hx))
  refine ⟨a1,fun a ha=>a2 a (h1.1 a ha),fun x hx hk=>?_⟩
  rcases List.mem_cons.1 hx with rfl | hx
  ·exact a2 _ (h1.2 hk)
  ·exact a3 x hx hk
theorem runOps_long {l:List Entry} {t:List Row} (ht:treeOk t=true) (hl:∀ e∈l,opOk e.op=true):t.length≤(runOps t l).length:=by
 have h:=runOps_ids l t ht hl
 have:=T.nodup_le (idsL t) (idsL (runOps t l)) (idsL_build ht).2 h.2.1
 simpa [idsL] using this
open Go.RowKit
theorem showL_showS (c:Client):showL c=showS c:=by
 unfold showL showS
 split
 ·rename_i h
  exact treeFrom_op (clientOk_parts h).2.2.2.1 (waitOk_ent (clientOk_parts h).2.2.2.2.2.2.2.2.2)
 ·rfl
theorem showL_ok {c:Client} (h:clientOk c=true):showL c=runOps c.base c.wait∧treeOk (showL c)=true∧(∀ a∈idsL c.base,a∈idsL (showL c))∧(∀ e∈c.wait,e.op.kind=1→e.op.id∈idsL (showL c))∧c.base.length≤(showL c).length:=by
 have hp:=clientOk_parts h
 have hw:=waitOk_ent hp.2.2.2.2.2.2.2.2.2
 have h1:showL c=runOps c.base c.wait:=by unfold showL;rw [if_pos h]
 rw [h1]
 obtain ⟨a1,a2,a3⟩:=runOps_ids c.wait c.base hp.2.2.2.1 hw
 exact ⟨rfl,a1,a2,a3,runOps_long hp.2.2.2.1 hw⟩
theorem atI_in {t:List Row} {id:Int} (h:id∈idsL t):0≤atI t id:=by
 unfold atI
 cases hx:idx t id with
 |some k=>show (0:Int)≤(k:Int);omega
 |none=>exact absurd h ((idx_none t id).1 hx)
set_option maxRecDepth 100000 in
set_option maxHeartbeats 1000000 in
theorem lpAt_c (A:Option Addr) (c:Nat) (t:List Row) (id:Int) (w:World) (hr:Rd w A c t) :
  Calls Tryz.prog 19 #[.slice A t.length c,.int .i64 id] w fun e w'=>e=.returned (.int .i64 (atI t id))∧w'=w:=by
 have hm:t.length≤maxLen:=Nat.le_trans hr.1 hr.2.1
 unfold maxLen at hm
 have HR:=Lib.hid hr
 clear hr
 go_enter Tryz.func19,Tryz.ntmps19
 go_wp2_with fail
 go_loop [5] (fun i=>∃ k:Nat,k≤t.length∧i=.int .i64 k∧Hid (∀ j (hj:j<t.length),j<k→t[j].id≠id)) (fun i=>t.length - (RowKit.intOf i).toNat)
 case atStart=>exact ⟨0,Nat.zero_le _,rfl,fun j _ h=>by omega⟩
 case round=>
  obtain ⟨k,hk,rfl,HA⟩:=hrel
  by_cases hlt:k<t.length
  ·obtain ⟨b,off,rfl,hbl,c0,c1,c2⟩:=row_at HR.out k hlt
   by_cases he:t[k].id=id
   ·have he':(t[k].id == id)=true:=by simp [he]
    have HX:Hid (atI t id=k):=by show _=_;unfold atI;rw [idx_first t id k hlt HA.out he]
    clear he c1 c2
    go_wp2_with fail
    go_ret
    exact ⟨by rw [HX.out];rfl,rfl⟩
   ·have he':(t[k].id == id)=false:=by simp [he]
    have HN:Hid (∀ j (hj:j<t.length),j<k+1→t[j].id≠id):=fun j hj hjk=>by
     by_cases e:j=k
     ·subst e;exact he
     ·exact HA.out j hj (by omega)
    clear he c1 c2
    go_wp2_with fail
    go_round
    case rel=>exact ⟨k+1,by omega,by go_num,HN⟩
    case measure=>simp [RowKit.intOf];omega
  ·have HX:Hid (atI t id=-1):=by show _=_;unfold atI;rw [idx_no t id (fun j hj=>HA.out j hj (by omega))]
   go_wp2_with fail
   go_ret
   exact ⟨by rw [HX.out];rfl,rfl⟩
open Go.RowKit
def ownN (who:Int) (l:List Entry):Nat:=l.countP (fun e=>decide (e.who=who))
theorem ownN_cons (who:Int) (e:Entry) (l:List Entry):ownN who (e::l)=ownN who l+if e.who=who then 1 else 0:=by
 unfold ownN;rw [List.countP_cons];simp
theorem hearL_some (who:Int):∀ (l q:List Entry) (t:List Row) (d n:Int) (q':List Entry) (t':List Row) (d' n':Int),hearL who l q t d n=some (q',t',d',n') →
  q'=q.drop (ownN who l)∧ownN who l≤q.length∧t'=runOps t l∧d'=d+ownN who l∧n'=n+l.length:=by
 intro l
 induction l with
 |nil=>
  intro q t d n q' t' d' n' h
  simp only [hearL,Option.some.injEq,Prod.mk.injEq] at h
  obtain ⟨rfl,rfl,rfl,rfl⟩:=h
  exact ⟨by simp [ownN],by simp [ownN],rfl,by simp [ownN],by simp⟩
 |cons e l ih=>
  intro q t d n q' t' d' n' h
  rw [ownN_cons]
  unfold hearL at h
  by_cases hw:e.who=who
  ·rw [if_pos hw] at h ⊢
   cases q with
   |nil=>simp at h
   |cons e0 q0=>
    simp only at h
    split at h
    ·obtain ⟨a1,a2,a3,a4,a5⟩:=ih _ _ _ _ _ _ _ _ h
     refine ⟨by rw [a1];rfl,by simp only [List.length_cons];omega,by rw [a3];rfl,by rw [a4];omega,by rw [a5];simp only [List.length_cons];omega⟩
    ·cases h
  ·rw [if_neg hw] at h ⊢
   obtain ⟨a1,a2,a3,a4,a5⟩:=ih _ _ _ _ _ _ _ _ h
   exact ⟨a1,a2,by rw [a3];rfl,a4,by rw [a5];simp only [List.length_cons];omega⟩
theorem hearL_cons (who:Int) (e:Entry) (l q:List Entry) (t:List Row) (d n:Int):hearL who (e::l) q t d n=if e.who=who then (match q with | e0::q'=>if e0=e then hearL who l q' (opDo t e.op) (d+1) (n+1) else none | []=>none) else hearL who l q (opDo t e.op) d (n+1):=by
 cases q <;> rfl
theorem hearL_append (who:Int):∀ (l m q:List Entry) (t:List Row) (d n:Int),hearL who (l++m) q t d n=(hearL who l q t d n).bind fun p=>hearL who m p.1 p.2.1 p.2.2.1 p.2.2.2:=by
 intro l
 induction l with
 |nil=>intro m q t d n;rfl
 |cons e l ih=>
  intro m q t d n
  rw [List.cons_append,hearL_cons,hearL_cons]
  by_cases hw:e.who=who
  ·rw [if_pos hw,if_pos hw]
   cases q with
   |nil=>rfl
   |cons e0 q0=>
    simp only
    by_cases he:e0=e
    ·rw [if_pos he,if_pos he];exact ih _ _ _ _ _
    ·rw [if_neg he,if_neg he];rfl
  ·rw [if_neg hw,if_neg hw];exact ih _ _ _ _ _
theorem hearL_own (who:Int):∀ (l:List Entry) (t:List Row) (d n:Int),(∀ e∈l,e.who=who)→hearL who l l t d n=some ([],runOps t l,d+l.length,n+l.length):=by
 intro l
 induction l with
 |nil=>intro t d n _;simp [hearL,runOps]
 |cons e l ih=>
  intro t d n h
  unfold hearL
  rw [if_pos (h e List.mem_cons_self)]
  simp only [if_true]
  rw [ih _ _ _ (fun x hx=>h x (List.mem_cons_of_mem _ hx))]
  simp only [Option.some.injEq,Prod.mk.injEq,List.length_cons,true_and]
  refine ⟨rfl,by omega,by omega⟩
theorem waitOk_who {c:Client} (h:waitOk c=true):∀ e∈c.wait,entryOk e=true∧e.who=c.who:=fun e he=>by
 obtain ⟨k,hk,rfl⟩:=List.getElem_of_mem he
 have h1:=waitOk_at h k hk
 unfold waitAt at h1
 simp only [Bool.and_eq_true,decide_eq_true_eq] at h1
 exact ⟨h1.1.1.1,h1.1.1.2⟩
theorem hear_own {c:Client} (h:clientOk c=true) (hl:c.seen+c.wait.length≤40):clientHear c c.seen c.wait=(⟨c.who,c.seen+c.wait.length,runOps c.base c.wait,[],c.done+c.wait.length,c.made⟩,true):=by
 obtain ⟨hw9,hs0,hs40,htr,hd0,hd1,hwl,hm0,hm1,hwt⟩:=clientOk_parts h
 rw [clientHear_S c c.seen c.wait h hs0 hs40 (fun e he=>(waitOk_who hwt e he).1)]
 unfold hearS
 rw [if_neg (by omega),show (c.seen - c.seen).toNat=0 by omega,List.drop_zero,hearL_own c.who c.wait c.base c.done c.seen (fun e he=>(waitOk_who hwt e he).2)]
theorem clientHear_true {c:Client} {frm:Int} {l:List Entry} (h:(clientHear c frm l).2=true):clientOk c=true∧0≤frm∧frm≤40∧(∀ e∈l,entryOk e=true)∧frm≤c.seen∧frm+l.length≤40 ∧
  ∃ q t d n,hearL c.who (l.drop (c.seen - frm).toNat) c.wait c.base c.done c.seen=some (q,t,d,n)∧clientHear c frm l=(⟨c.who,n,t,q,d,c.made⟩,true):=by
 by_cases hb:clientOk c=false∨frm<0∨40<frm
 ·unfold clientHear at h;rw [if_pos hb] at h;cases h
 have hok:clientOk c=true:=by
  cases h9:clientOk c
  ·exact absurd (.inl h9) hb
  ·rfl
 have h0:¬frm<0:=fun e=>hb (.inr (.inl e))
 have h1:¬40<frm:=fun e=>hb (.inr (.inr e))
 cases hall:l.all entryOk
 ·unfold clientHear at h;rw [if_neg hb,if_pos hall] at h;cases h
 have hall':∀ x∈l,entryOk x=true:=List.all_eq_true.1 hall
 have hS:=clientHear_S c frm l hok (by omega) (by omega) hall'
 rw [hS] at h ⊢
 refine ⟨hok,by omega,by omega,hall',?_⟩
 unfold hearS at h ⊢
 by_cases hf:c.seen<frm∨40 - frm<l.length
 ·rw [if_pos hf] at h;cases h
 rw [if_neg hf] at h ⊢
 refine ⟨by omega,by omega,?_⟩
 cases hh:hearL c.who (l.drop (c.seen - frm).toNat) c.wait c.base c.done c.seen with
 |none=>rw [hh] at h;cases h
 |some p=>
  obtain ⟨q,t,d,n⟩:=p
  exact ⟨q,t,d,n,rfl,rfl⟩
open Go.RowKit Go.ChangeShapes Go.WideShapes Go.ChangeAt
theorem laidOut:laidOutB Tryz.prog=true:=by kernel_rfl
theorem own:ownKnob Tryz.prog.godebug=none:=by kernel_rfl
theorem gTab : Tryz.prog.globalNamed "loop.example/plashet/impl.rowOwners" = some 0 := by kernel_rfl
theorem gTabType:(Tryz.prog.globals[0]?).map (·.type)=some 149:=by kernel_rfl
theorem cellsTab:Tryz.prog.cellsOf 149=37:=by kernel_rfl
theorem cellsInt:Tryz.prog.cellsOf 3=1:=by kernel_rfl
def owners:List Int:=[0,1,1,1,0,0,0,0,0,0,0,2,2,2,2,2,2,0,0,0,0,3,3,3,3,3,3,0,0,0,0,4,4,4,4,4,4]
theorem owners_at (n:Nat) (h:n<37):owners.getD n 0=ownerOf n:=by
 have h0:∀ n:Fin 37,owners.getD n 0=ownerOf (n:Nat):=by decide
 exact h0 ⟨n,h⟩
theorem tab_of {W : World} (h : laidMetH Tryz.prog [("loop.example/plashet/impl.rowOwners", Rows.laid_loop_example_plashet_impl_rowOwners)] W) : Tab W := by
 have ht : Lib.TabIs Tryz.prog W "loop.example/plashet/impl.rowOwners" .i64 owners := Lib.tabIs_of_head (rest := []) gTab gTabType Tryz.underlying149 Tryz.underlying3 cellsInt cellsTab h
 intro id h0 h1
 have hn:id.toNat<37:=by omega
 rw [ht.cell gTab id.toNat (by simpa [owners] using hn),owners_at _ hn,show ((id.toNat:Nat):Int)=id by omega]
set_option maxRecDepth 100000 in
theorem arg_slice {W:World} {base:Nat} {t e:TypeId} {v:Value} (ht:Tryz.prog.underlying t=some (.slice e)) (h:Value.okWide Tryz.prog W .any base t v) :
  ∃ A len cap,v=.slice A len cap∧∀ a,A=some a→a.spot=none∧a.block<W.heap.size:=by
 obtain ⟨A,len,cap,rfl⟩:=okWide_slice ht h
 refine ⟨A,len,cap,rfl,?_⟩
 rintro a rfl
 simp only [Value.okWide,ht,Cell.okWide,Cell.ok,World.has] at h
 obtain ⟨_,_,_,hs,row,cells,hsh,_⟩:=h
 refine ⟨hs,?_⟩
 unfold World.shape? at hsh
 cases hb:W.heap[a.block]? with
 |none=>rw [hb] at hsh;cases hsh
 |some o=>exact (Array.getElem?_eq_some_iff.1 hb).1
set_option maxRecDepth 100000 in
theorem arg_bytes {H:Type} {enc:TypeId × Value→H} {W:World} {base:Nat} {v:Value} {d:DataW H} {p:List MemPlace}
  (h:Value.okWide Tryz.prog W .any base 22 v) (hr:DataW.Trod enc Tryz.prog W 0 (fun _=>true) true 22 v d p) :
  ∃ (A:Option Addr) (cap:Nat) (bs:List UInt8),v=.slice A bs.length cap∧Rd W A cap bs∧∀ b off,A=some ⟨b,off,none⟩→b<W.heap.size:=by
 obtain ⟨A,len,cap,rfl,hA⟩:=arg_slice Tryz.underlying22 h
 obtain ⟨fuel,hf⟩:=hr
 rcases open_ints Tryz.underlying22 Tryz.underlying5 (by kernel_rfl) hf with ⟨hcs,_⟩ | ⟨x,l,c,zs,hcs,_,hl,hm,hz,_,hcell,hwz⟩
 ·simp [Value.cells] at hcs
  obtain ⟨rfl,rfl,rfl⟩:=hcs
  exact ⟨none,0,[],rfl,⟨by simp,by simp,fun h=>absurd h (by simp),by simp⟩,by simp⟩
 ·simp [Value.cells] at hcs
  obtain ⟨rfl,rfl,rfl⟩:=hcs
  obtain ⟨b,off,spot⟩:=x
  obtain ⟨hs,hb⟩:=hA _ rfl
  simp only at hs hb hz
  subst hs
  have hlen:((zs.take len).map fun z=>UInt8.ofNat z.toNat).length=len:=by simp at hz;simp;omega
  refine ⟨some ⟨b,off,none⟩,cap,(zs.take len).map fun z=>UInt8.ofNat z.toNat,by rw [hlen],⟨by rw [hlen];exact hl,hm,fun _=>⟨b,off,rfl,?_⟩,fun _ _=>trivial⟩,?_⟩
  ·intro j v hv
   have hfl:flat ((zs.take len).map fun z=>UInt8.ofNat z.toNat)=(zs.take len).map fun z=>Value.int .u8 ((UInt8.ofNat z.toNat).toNat:Int):=by
    unfold flat;rw [List.flatMap_map]
    show (zs.take len).flatMap (fun a=>[Value.int .u8 ((UInt8.ofNat a.toNat).toNat:Int)])=_
    induction zs.take len with
    |nil=>rfl
    |cons a r ih=>rw [List.flatMap_cons,ih];rfl
   rw [hfl,List.getElem?_map,Option.map_eq_some_iff] at hv
   obtain ⟨z,hz1,rfl⟩:=hv
   have hj:j<zs.length∧j<len:=by
    have:=(List.getElem?_eq_some_iff.1 hz1).1
    simp at this
    omega
   rw [List.getElem?_take,if_pos hj.2] at hz1
   have hzj:zs.getD j 0=z:=by simp [List.getD,hz1]
   have hw:=hwz z (List.mem_of_getElem? hz1)
   have:=hcell j hj.1
   rw [hzj] at this
   have hadd:(⟨b,off,none⟩:Addr).add j=⟨b,off+j,none⟩:=by unfold Addr.add;split <;> simp_all
   rw [hadd] at this
   have hz2:((UInt8.ofNat z.toNat).toNat:Int)=z:=by
    have h1:=of_decide_eq_true (show decide ((0:Int)≤z)=true by simp [Lit.wf,IntKind.min,IntKind.signed] at hw;simpa using hw.1)
    have h2:=of_decide_eq_true (show decide (z≤(255:Int))=true by simp [Lit.wf,IntKind.max,IntKind.signed,IntKind.bits] at hw;simpa using hw.2)
    have h3:(UInt8.ofNat z.toNat).toNat=z.toNat % 256:=by simp [UInt8.toNat_ofNat']
    rw [h3]
    omega
   rw [hz2];exact this
  ·rintro b' off' e;simp at e;omega
end Go.Proofs.YtecmcjfdaipfcaaGreatDoor
