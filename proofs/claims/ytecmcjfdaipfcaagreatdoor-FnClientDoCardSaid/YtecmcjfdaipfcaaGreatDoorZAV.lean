/- Walk of the draw of an event. .. Walk of the draw of a play. -/
import Derived.Test.YtecmcjfdaipfcaaGreatDoorZAU
import Derived.Test.YtecmcjfdaipfcaaGreatDoorZAO
namespace Go.Proofs.YtecmcjfdaipfcaaGreatDoor
open Go.RowKit Go.Lib
set_option linter.unusedVariables false
set_option linter.unusedSimpArgs false
abbrev put8 (W:World) (b:Nat) (v0 v1 v2 v3 v4 v5 v6 v7:Value):World:=
 (((((((W.setCell ⟨b,0,none⟩ v0).setCell ⟨b,1,none⟩ v1).setCell ⟨b,2,none⟩ v2).setCell ⟨b,3,none⟩ v3).setCell ⟨b,4,none⟩ v4).setCell ⟨b,5,none⟩ v5).setCell ⟨b,6,none⟩ v6).setCell ⟨b,7,none⟩ v7
theorem put8_at {W:World} {b:Nat} {a0 a1 a2 a3 a4 a5 a6 a7:Value} {ty:TypeId} (v0 v1 v2 v3 v4 v5 v6 v7:Value) (h:W.heap[b]?=some (.cells #[a0,a1,a2,a3,a4,a5,a6,a7] ty (0,0))):(put8 W b v0 v1 v2 v3 v4 v5 v6 v7).heap[b]?=some (.cells #[v0,v1,v2,v3,v4,v5,v6,v7] ty (0,0)):=by
 have h1:(W.setCell ⟨b,0,none⟩ v0).heap[b]?=some (.cells #[v0,a1,a2,a3,a4,a5,a6,a7] ty (0,0)):=set_at h
 have h2:((W.setCell ⟨b,0,none⟩ v0).setCell ⟨b,1,none⟩ v1).heap[b]?=some (.cells #[v0,v1,a2,a3,a4,a5,a6,a7] ty (0,0)):=set_at h1
 have h3:(((W.setCell ⟨b,0,none⟩ v0).setCell ⟨b,1,none⟩ v1).setCell ⟨b,2,none⟩ v2).heap[b]?=some (.cells #[v0,v1,v2,a3,a4,a5,a6,a7] ty (0,0)):=set_at h2
 have h4:((((W.setCell ⟨b,0,none⟩ v0).setCell ⟨b,1,none⟩ v1).setCell ⟨b,2,none⟩ v2).setCell ⟨b,3,none⟩ v3).heap[b]?=some (.cells #[v0,v1,v2,v3,a4,a5,a6,a7] ty (0,0)):=set_at h3
 have h5:(((((W.setCell ⟨b,0,none⟩ v0).setCell ⟨b,1,none⟩ v1).setCell ⟨b,2,none⟩ v2).setCell ⟨b,3,none⟩ v3).setCell ⟨b,4,none⟩ v4).heap[b]?=some (.cells #[v0,v1,v2,v3,v4,a5,a6,a7] ty (0,0)):=set_at h4
 have h6:((((((W.setCell ⟨b,0,none⟩ v0).setCell ⟨b,1,none⟩ v1).setCell ⟨b,2,none⟩ v2).setCell ⟨b,3,none⟩ v3).setCell ⟨b,4,none⟩ v4).setCell ⟨b,5,none⟩ v5).heap[b]?=some (.cells #[v0,v1,v2,v3,v4,v5,a6,a7] ty (0,0)):=set_at h5
 have h7:(((((((W.setCell ⟨b,0,none⟩ v0).setCell ⟨b,1,none⟩ v1).setCell ⟨b,2,none⟩ v2).setCell ⟨b,3,none⟩ v3).setCell ⟨b,4,none⟩ v4).setCell ⟨b,5,none⟩ v5).setCell ⟨b,6,none⟩ v6).heap[b]?=some (.cells #[v0,v1,v2,v3,v4,v5,v6,a7] ty (0,0)):=set_at h6
 have h8:((((((((W.setCell ⟨b,0,none⟩ v0).setCell ⟨b,1,none⟩ v1).setCell ⟨b,2,none⟩ v2).setCell ⟨b,3,none⟩ v3).setCell ⟨b,4,none⟩ v4).setCell ⟨b,5,none⟩ v5).setCell ⟨b,6,none⟩ v6).setCell ⟨b,7,none⟩ v7).heap[b]?=some (.cells #[v0,v1,v2,v3,v4,v5,v6,v7] ty (0,0)):=set_at h7
 exact h8
def EvOk (e:Ev):Prop:=OpW e.op∧e.op.text.size≤maxLen
def EvP (r p:Nat) (w:World) (x:Ending) (w':World):Prop:=∃ (e:Ev) (p':Nat),x=.returned (.agg #[.int .i64 e.kind,.int .i64 e.who,.int .i64 e.n,.int .i64 e.op.kind,.int .i64 e.op.id,.int .i64 e.op.up,.int .i64 e.op.pos,.string e.op.text])∧EvOk e∧p≤p'∧p'≤p+60∧Rdr w' r p'∧w.grownBy w' (some r)
theorem opW0:OpW ⟨0,0,0,0,⟨#[]⟩⟩:=by unfold OpW i64;decide
def EvS (Z w0:World) (r p K:Nat) (X:Obj) (cb:Nat) (Y:Obj) (w:World):Prop:=
 KeepT Z w∧(∃ q,p≤q∧q≤p+K∧Rdr w r q)∧w0.grownBy w (some r)∧w.heap[w0.heap.size]?=some X∧w.heap[w0.heap.size+1]?=some (.cells #[.int .i64 0,.int .i64 0,.int .i64 0,.int .i64 0,.int .i64 0,.int .i64 0,.int .i64 0,.string ⟨#[]⟩] 201 (0,0))∧w.heap[cb]?=some Y
theorem EvS.step {Z w0 w w':World} {r p K q cb d q':Nat} {X Y:Obj} (h:EvS Z w0 r p K X cb Y w) (hr:r<w0.heap.size) (hc:w0.heap.size<cb) (hR:Rdr w' r q') (hg:w.grownBy w' (some r)) (hq:p≤q∧q≤p+K) (hq':q≤q'∧q'≤q+d):EvS Z w0 r p (K+d) X cb Y w':=by
 obtain ⟨hk,⟨q0,-,-,A,c,bs,hbk,-⟩,hG,hw,hz,hy⟩:=h
 exact ⟨hk.trans (KeepT.grown hg hbk (by decide) (by decide) (by decide) (by decide)),⟨q',by omega,by omega,hR⟩,gtrans hG hg,(hg.block _ (by have:=hG.size;exact blk_lt hw) (fun e=>by injection e with e;omega)).trans hw,(hg.block _ (blk_lt hz) (fun e=>by injection e with e;omega)).trans hz,(hg.block _ (blk_lt hy) (fun e=>by injection e with e;omega)).trans hy⟩
theorem EvS.fin {Z w0 w:World} {r p K cb:Nat} {X Y:Obj} (h:EvS Z w0 r p K X cb Y w) (hr:r<w0.heap.size) (e:Ev) (ho:EvOk e) (hK:K≤60) :
  EvP r p w0 (.returned (.agg (cV e))) (put8 w (w0.heap.size+1) (.int .i64 e.kind) (.int .i64 e.who) (.int .i64 e.n) (.int .i64 e.op.kind) (.int .i64 e.op.id) (.int .i64 e.op.up) (.int .i64 e.op.pos) (.string e.op.text))∧(put8 w (w0.heap.size+1) (.int .i64 e.kind) (.int .i64 e.who) (.int .i64 e.n) (.int .i64 e.op.kind) (.int .i64 e.op.id) (.int .i64 e.op.up) (.int .i64 e.op.pos) (.string e.op.text)).heap[w0.heap.size+1]?=some (.cells (cV e) 201 (0,0)):=by
 obtain ⟨-,⟨q,h1,h2,hR⟩,hG,hw,hz,hy⟩:=h
 refine ⟨⟨e,q,rfl,ho,h1,by omega,hR.other (gset (gset (gset (gset (gset (gset (gset (gset_any _ _ _ _) _ _) _ _) _ _) _ _) _ _) _ _) _ _) (by omega),?_⟩,put8_at _ _ _ _ _ _ _ _ hz⟩
 have hb:w0.heap.size≤w0.heap.size+1:=Nat.le_succ _
 exact gset_new (gset_new (gset_new (gset_new (gset_new (gset_new (gset_new (gset_new hG hb _ _) hb _ _) hb _ _) hb _ _) hb _ _) hb _ _) hb _ _) hb _ _
theorem EvS.ext {Z w0 w w':World} {r p K cb:Nat} {X Y:Obj} (h:EvS Z w0 r p K X cb Y w) (hb:Ext w w'):EvS Z w0 r p K X cb Y w':=by
 obtain ⟨hk,⟨q,h1,h2,hR⟩,hG,hw,hz,hy⟩:=h
 exact ⟨hk.trans (KeepT.ext hb),⟨q,h1,h2,hR.ext hb⟩,gtrans hG (gext hb),(hb.block _ (blk_lt hw)).trans hw,(hb.block _ (blk_lt hz)).trans hz,(hb.block _ (blk_lt hy)).trans hy⟩
set_option maxRecDepth 100000 in
set_option maxHeartbeats 4000000 in
theorem event_d (r p:Nat) (wd:Wd) (base:Nat) (L:Option Addr) (ln:Nat) (C:Option Addr) (cc:Nat) (N:Option Addr) (nc:Nat) (xs:List RC) (ys:List RL) (w:World) (h:Rdr w r p) (hp:p<999000000) (hpw:WP w base wd L ln C cc N nc xs ys) (hw:WInv wd) (hrb:r<base) :
  Calls Tryz.prog 140 #[.pointer (some ⟨r,0,none⟩),.agg (cW wd L ln C xs cc N ys nc)] w (EvP r p w):=by
 have hrl:=h.lt
 have h2:=two_new w (oW wd L ln C xs cc N ys nc) (.cells #[.int .i64 0,.int .i64 0,.int .i64 0,.int .i64 0,.int .i64 0,.int .i64 0,.int .i64 0,.string ⟨#[]⟩] 201)
 have hE2:Ext w ((w.alloc (oW wd L ln C xs cc N ys nc)).alloc (.cells #[.int .i64 0,.int .i64 0,.int .i64 0,.int .i64 0,.int .i64 0,.int .i64 0,.int .i64 0,.string ⟨#[]⟩] 201)):=((Below.refl _ w).alloc (Nat.le_refl _) _).alloc (by rw [alloc_sz];omega) _
 have hz2:((w.alloc (oW wd L ln C xs cc N ys nc)).alloc (.cells #[.int .i64 0,.int .i64 0,.int .i64 0,.int .i64 0,.int .i64 0,.int .i64 0,.int .i64 0,.string ⟨#[]⟩] 201)).heap.size=w.heap.size+2:=by rw [alloc_sz,alloc_sz]
 have HX1:=Lib.hid h2.1;have HX2:=Lib.hid h2.2;have HE2:=Lib.hid hE2
 have HP:=Lib.hid hpw;have HW:=Lib.hid hw;have HR:=Lib.hid (h.ext hE2)
 have hxl:xs.length=3:=by have:=hpw.cls.1;have:=hw.three;omega
 have hyl:ys.length≤12:=by have:=hpw.nets.1;have:=hw.net;omega
 have HXL:=Lib.hid hxl
 clear h2 hE2 hpw hw h hxl
 go_enter Tryz.func140,Tryz.ntmps140
 go_wp2_with fail
 generalize ((w.alloc (oW wd L ln C xs cc N ys nc)).alloc (.cells #[.int .i64 0,.int .i64 0,.int .i64 0,.int .i64 0,.int .i64 0,.int .i64 0,.int .i64 0,.string ⟨#[]⟩] 201))=W2 at *
 refine (pick_c r p 3 _ HR.out (by omega) ⟨by omega,by omega⟩).mono ?_
 rintro r9 w1 ⟨v,rfl,hv0,hv1,-,hR1,hg1⟩
 have hvb:=hv1 (by omega)
 obtain ⟨i,rfl⟩:∃ i:Nat,v=i:=⟨v.toNat,by omega⟩
 have hi3:i<3:=by omega
 have hg01:w.grownBy w1 (some r):=gtrans (gext HE2.out) hg1
 have hk1:KeepT w w1:=(KeepT.ext HE2.out).trans (by
  obtain ⟨A,c,bs,hbk,-⟩:=HR.out
  exact KeepT.grown hg1 hbk (by decide) (by decide) (by decide) (by decide))
 have hb1:=(hg1.block _ (blk_lt HX1.out) (fun e=>by injection e with e;omega)).trans HX1.out
 have hz1:=(hg1.block _ (blk_lt HX2.out) (fun e=>by injection e with e;omega)).trans HX2.out
 have hpw1:=HP.out.keep hk1
 have hi1:i<xs.length:=by have:=HXL.out;omega
 have hi2:i<wd.cls.length:=by have:=HW.out.three;omega
 obtain ⟨xb,xo,rfl,hbx,x0,x1,x2,x3,x4,x5⟩:=rc_at hpw1.cli.rdT.1 i hi1
 obtain ⟨cb,cbn,cq,cqn,hxi,hr1,hr2⟩:=hpw1.cls.2 i hi1 hi2
 rw [hxi] at x0 x1 x2 x3 x4 x5
 dsimp only at x0 x1 x2 x3 x4 x5
 have HCO:=Lib.hid (HW.out.cls _ (List.getElem_mem hi2))
 generalize wd.cls[i]=c at *
 obtain ⟨b0,b1,b2,b3,b4,bf⟩:=five_cells hb1
 have hil:(i:Int)<xs.length:=by omega
 have hw1:IntKind.i64.wrap (1+(i:Int))=1+(i:Int):=by rw [IntKind.wrap_i64];omega
 have hw2:IntKind.i64.wrap (1+(i:Int) - 1)=(i:Int):=by rw [IntKind.wrap_i64];omega
 have HB1:=Lib.hid hb1;have HZ1:=Lib.hid hz1;have HG1:=Lib.hid hg01;have HR1:=Lib.hid hR1;have HC1:=Lib.hid hr1;have HC2:=Lib.hid hr2;have HPW1:=Lib.hid hpw1
 have hs1:=hg01.size
 have hs2:=blk_lt hz1
 clear hv1 hvb hR1 hg1 hg01 hk1 hb1 hz1 hxi hr1 hr2 hv0 hpw1
 go_wp2_with fail
 have hE3:Ext w1 (w1.alloc (oC c cb cbn cq cqn)):=(Below.refl _ _).alloc (Nat.le_refl _) _
 have hS:EvS (w1.alloc (oC c cb cbn cq cqn)) w r p 1 _ w1.heap.size (.cells (cC c cb cbn cq cqn) 26 (0,0)) (w1.alloc (oC c cb cbn cq cqn)):=⟨KeepT.ext (Below.refl _ _),⟨p+1,by omega,by omega,HR1.out.ext hE3⟩,gtrans HG1.out (gext hE3),(hE3.block _ (blk_lt HB1.out)).trans HB1.out,(hE3.block _ (blk_lt HZ1.out)).trans HZ1.out,World.alloc_heap_new w1 (oC c cb cbn cq cqn)⟩
 have HS:=Lib.hid hS
 have HP3:=Lib.hid (HPW1.out.ext hE3);have HC3:=Lib.hid (HC1.out.ext hE3);have HQ3:=Lib.hid (HC2.out.ext hE3)
 have hcb9:w.heap.size<w1.heap.size:=by omega
 clear hE3 hS x0 x1 x2 x3 x4 x5 b0 b1 b2 b3 b4 bf HX1 HX2 HR HB1 HZ1 HG1 HR1 HC1 HC2 HPW1
 generalize (w1.alloc (oC c cb cbn cq cqn))=W3 at *
 obtain ⟨-,⟨q,hq1,hq2,hRq⟩,hGq,hwq,hzq,hcq⟩:=HS.out
 skip
 refine (pick_c r q 14 _ hRq (by omega) ⟨by omega,by omega⟩).mono ?_
 rintro r9 w9 ⟨v,rfl,hv0,hv1,-,hR9,hg9⟩
 have hvb:=hv1 (by omega)
 have HS4:=Lib.hid ((HS.out).step (d:=1) hrl hcb9 hR9 hg9 ⟨hq1,hq2⟩ ⟨by omega,by omega⟩)
 clear hRq hGq hwq hzq hcq hR9 hg9 hv1 hq1 hq2
 have hcases:(v=0∨v=1∨v=2∨v=3)∨v=4∨(v=5∨v=6)∨(v=7∨v=8)∨v=9∨v=10∨(v=11∨v=12∨v=13):=by omega
 clear hv0 hvb
 rcases hcases with hcases | hcases | hcases | hcases | hcases | hcases | hcases
 ·rcases hcases with rfl | rfl | rfl | rfl
  all_goals
   have hEd:Ext w9 w9.drew:=(Below.refl _ _).drew
   have HSD:=Lib.hid (HS4.out.ext hEd)
   have hcp:=clientOk_parts HCO.out
   have hmd0:=hcp.2.2.2.2.2.2.2.1;have hmd1:=hcp.2.2.2.2.2.2.2.2.1
   have hent:=waitOk_ent hcp.2.2.2.2.2.2.2.2.2
   have HTO:=Lib.hid (treeFrom_ok hcp.2.2.2.1 hent)
   have HC:=Lib.hid (tree_s cb cbn c.base cq cqn c.wait w9.drew ((HC3.out.keep HSD.out.1 (.inl rfl)).1) ((HQ3.out.keep HSD.out.1 (.inr (.inl rfl))).1) hcp.2.2.2.1 hent)
   clear hcp hent
   obtain ⟨-,-,-,hw9,hz9,hc9⟩:=HSD.out
   obtain ⟨b0,b1,b2,b3,b4,bf⟩:=five_cells hw9
   obtain ⟨z0,z1,z2,z3,z4,z5,z6,z7,zf⟩:=eight_cells hz9
   obtain ⟨c0,c1,c2,c3,c4,c5,cf⟩:=six_cells hc9
   clear hw9 hz9 hc9
   have HS:Hid (w9.drew.cell? ⟨w1.heap.size,2,none⟩=some (.slice cb c.base.length cbn)∧w9.drew.cell? ⟨w1.heap.size,3,none⟩=some (.slice cq c.wait.length cqn)∧w9.drew.cell? ⟨w1.heap.size,5,none⟩=some (.int .i64 c.made)):=Lib.hid ⟨c2,c3,c5⟩
   clear b0 b1 b2 b3 b4 bf z0 z1 z2 z3 z4 z5 z6 z7 zf c0 c1 c2 c3 c4 c5 cf
   go_upto_region 8 with fail
   refine wp_region_B (fun w'=>w'.cell? ⟨w1.heap.size,2,none⟩=some (.slice cb c.base.length cbn)∧w'.cell? ⟨w1.heap.size,3,none⟩=some (.slice cq c.wait.length cqn)∧w'.cell? ⟨w1.heap.size,5,none⟩=some (.int .i64 c.made)) 12 (by kernel_rfl) ?_
   refine WB.take (i:=0) (v:=?_) rfl (by kernel_rfl) (by kernel_rfl) (by kernel_rfl) (by kernel_rfl) (fun _ _ _ h=>h) HS.out (Or.inl ⟨by rfl,?_⟩) ?_
   rotate_left
   ·(rintro w ⟨s0,s1,s2⟩;go_simp;try with_reducible rfl)
   try simp only [Act.put,List.setIfInBounds_toArray,List.set_cons_zero,List.set_cons_succ]
   refine WB.take (i:=1) (v:=?_) rfl (by kernel_rfl) (by kernel_rfl) (by kernel_rfl) (by kernel_rfl) (fun _ _ _ h=>h) HS.out (Or.inl ⟨by rfl,?_⟩) ?_
   rotate_left
   ·(rintro w ⟨s0,s1,s2⟩;go_simp;try with_reducible rfl)
   try simp only [Act.put,List.setIfInBounds_toArray,List.set_cons_zero,List.set_cons_succ]
   refine WB.take (i:=2) (v:=?_) rfl (by kernel_rfl) (by kernel_rfl) (by kernel_rfl) (by kernel_rfl) (fun _ _ _ h=>h) HS.out (Or.inl ⟨by rfl,?_⟩) ?_
   rotate_left
   ·(rintro w ⟨s0,s1,s2⟩;go_simp;try with_reducible rfl)
   try simp only [Act.put,List.setIfInBounds_toArray,List.set_cons_zero,List.set_cons_succ]
   refine WB.take (i:=3) (v:=?_) rfl (by kernel_rfl) (by kernel_rfl) (by kernel_rfl) (by kernel_rfl) (fun _ _ _ h=>h) HS.out (Or.inl ⟨by rfl,?_⟩) ?_
   rotate_left
   ·(rintro w ⟨s0,s1,s2⟩;go_simp;try with_reducible rfl)
   try simp only [Act.put,List.setIfInBounds_toArray,List.set_cons_zero,List.set_cons_succ]
   refine WB.take (i:=4) (v:=?_) rfl (by kernel_rfl) (by kernel_rfl) (by kernel_rfl) (by kernel_rfl) (fun _ _ _ h=>h) HS.out (Or.inl ⟨by rfl,?_⟩) ?_
   rotate_left
   ·(rintro w ⟨s0,s1,s2⟩;go_simp;try with_reducible rfl)
   try simp only [Act.put,List.setIfInBounds_toArray,List.set_cons_zero,List.set_cons_succ]
   refine WB.take (i:=5) (v:=?_) rfl (by kernel_rfl) (by kernel_rfl) (by kernel_rfl) (by kernel_rfl) (fun _ _ _ h=>h) HS.out (Or.inl ⟨by rfl,?_⟩) ?_
   rotate_left
   ·(rintro w ⟨s0,s1,s2⟩;go_simp;try with_reducible rfl)
   try simp only [Act.put,List.setIfInBounds_toArray,List.set_cons_zero,List.set_cons_succ]
   refine WB.take (i:=7) (v:=?_) rfl (by kernel_rfl) (by kernel_rfl) (by kernel_rfl) (by kernel_rfl) (fun _ _ _ h=>h) HS.out (Or.inl ⟨by rfl,?_⟩) ?_
   rotate_left
   ·(rintro w ⟨s0,s1,s2⟩;go_simp;try with_reducible rfl)
   try simp only [Act.put,List.setIfInBounds_toArray,List.set_cons_zero,List.set_cons_succ]
   refine WB.take (i:=8) (v:=?_) rfl (by kernel_rfl) (by kernel_rfl) (by kernel_rfl) (by kernel_rfl) (fun _ _ _ h=>h) HS.out (Or.inl ⟨by rfl,?_⟩) ?_
   rotate_left
   ·(rintro w ⟨s0,s1,s2⟩;go_simp;try with_reducible rfl)
   try simp only [Act.put,List.setIfInBounds_toArray,List.set_cons_zero,List.set_cons_succ]
   refine WB.take (i:=9) (v:=?_) rfl (by kernel_rfl) (by kernel_rfl) (by kernel_rfl) (by kernel_rfl) (fun _ _ _ h=>h) HS.out (Or.inl ⟨by rfl,?_⟩) ?_
   rotate_left
   ·(rintro w ⟨s0,s1,s2⟩;go_simp;try with_reducible rfl)
   try simp only [Act.put,List.setIfInBounds_toArray,List.set_cons_zero,List.set_cons_succ]
   refine WB.one (i:=6) (by kernel_rfl) rfl (fun K hK=>?_)
   have HKK:=Lib.hid hK
   clear hK
   go_simp
   refine HC.out.mono ?_
   rintro r9 w5 ⟨v5,rfl,ho5,hb5⟩
   obtain ⟨T,tn,rfl,ht5⟩:=ho5.rd
   have HSE:=Lib.hid (HSD.out.ext hb5)
   have hTA:∀ b off,T=some ⟨b,off,none⟩→b≠r:=fun b off e=>by
    have:=(ho5.blk b (by rw [e];rfl)).1
    have h2:=HSD.out.2.2.1.size
    show b≠r
    have h3:w9.drew.heap.size=w9.heap.size:=rfl
    omega
   have HT5:=Lib.hid ht5;have HTA:=Lib.hid hTA
   generalize treeFrom c.base c.wait=tr at *
   clear ho5 ht5 hTA hb5
   have c2:=(six_cells HSE.out.2.2.2.2.2).2.2.1
   have c3:=(six_cells HSE.out.2.2.2.2.2).2.2.2.1
   have c5:=(six_cells HSE.out.2.2.2.2.2).2.2.2.2.2.1
   have HS5:Hid (w5.cell? ⟨w1.heap.size,2,none⟩=some (.slice cb c.base.length cbn)∧w5.cell? ⟨w1.heap.size,3,none⟩=some (.slice cq c.wait.length cqn)∧w5.cell? ⟨w1.heap.size,5,none⟩=some (.int .i64 c.made)):=Lib.hid ⟨c2,c3,c5⟩
   clear c2 c3 c5
   refine HKK.out _ _ ⟨fun _=>HS5.out,?_⟩
   clear HKK K HS HC
   try simp only [Act.put,List.setIfInBounds_toArray,List.set_cons_zero,List.set_cons_succ]
   refine WB.one (i:=10) (by kernel_rfl) rfl (fun K hK=>?_)
   have HKK:=Lib.hid hK
   clear hK
   go_simp
   have hq:=HSE.out.2.1
   refine Exists.elim hq ?_
   intro q hq9
   have hq1:=hq9.1;have hq2:=hq9.2.1
   refine (op_d r q T tn tr (1+(i:Int)) c.made _ hq9.2.2 (by omega) HT5.out HTO.out HTA.out ⟨by omega,by omega⟩ ⟨by omega,by omega⟩).mono ?_
   rintro r9 w8 ⟨op,q2,rfl,hod,hq3,hq4,hR9,hg9⟩
   rw [show op.val=.agg (cO op) from rfl]
   have HSF:=Lib.hid (HSE.out.step (d:=30) hrl hcb9 hR9 hg9 ⟨hq1,hq2⟩ ⟨by omega,by omega⟩)
   have HOD:Hid (EvOk (⟨1,(1+(i:Int)),0,op⟩:Ev)):=⟨hod.w,Nat.le_trans hod.2.1 (by unfold maxLen;omega)⟩
   clear hq hq9 hR9 hg9 hod hq1 hq2 hq3 hq4
   have c2:=(six_cells HSF.out.2.2.2.2.2).2.2.1
   have c3:=(six_cells HSF.out.2.2.2.2.2).2.2.2.1
   have c5:=(six_cells HSF.out.2.2.2.2.2).2.2.2.2.2.1
   have HS8:Hid (w8.cell? ⟨w1.heap.size,2,none⟩=some (.slice cb c.base.length cbn)∧w8.cell? ⟨w1.heap.size,3,none⟩=some (.slice cq c.wait.length cqn)∧w8.cell? ⟨w1.heap.size,5,none⟩=some (.int .i64 c.made)):=Lib.hid ⟨c2,c3,c5⟩
   clear c2 c3 c5
   refine HKK.out _ _ ⟨fun _=>HS8.out,?_⟩
   clear HKK K HS5
   try simp only [Act.put,List.setIfInBounds_toArray,List.set_cons_zero,List.set_cons_succ]
   refine WB.takeP (i:=11) (v:=?_) rfl (by kernel_rfl) (by kernel_rfl) (by kernel_rfl) (by kernel_rfl) (fun _ _ _ h=>h) HS8.out (Or.inl ⟨by rfl,?_⟩) ?_
   rotate_left
   ·(rintro w -;go_simp;try with_reducible rfl)
   try simp only [Act.put,List.setIfInBounds_toArray,List.set_cons_zero,List.set_cons_succ]
   refine WB.one (i:=12) (by kernel_rfl) rfl (fun K hK=>?_)
   have HKK:=Lib.hid hK
   clear hK
   have z0:=(eight_cells HSF.out.2.2.2.2.1).1
   have z1:=(eight_cells HSF.out.2.2.2.2.1).2.1
   have z2:=(eight_cells HSF.out.2.2.2.2.1).2.2.1
   have z3:=(eight_cells HSF.out.2.2.2.2.1).2.2.2.1
   have z4:=(eight_cells HSF.out.2.2.2.2.1).2.2.2.2.1
   have z5:=(eight_cells HSF.out.2.2.2.2.1).2.2.2.2.2.1
   have z6:=(eight_cells HSF.out.2.2.2.2.1).2.2.2.2.2.2.1
   have z7:=(eight_cells HSF.out.2.2.2.2.1).2.2.2.2.2.2.2.1
   have zf:=(eight_cells HSF.out.2.2.2.2.1).2.2.2.2.2.2.2.2
   go_simp
   refine HKK.out _ _ ⟨fun h=>(no_late h (by kernel_rfl)).elim,?_⟩
   clear HKK K z0 z1 z2 z3 z4 z5 z6 z7 zf HS8
   refine WB.done (by kernel_rfl) ?_
   have HF:=Lib.hid ((HSF.out).fin hrl (⟨1,(1+(i:Int)),0,op⟩:Ev) HOD.out (by omega))
   go_wp2_with fail
   obtain ⟨k0,k1,k2,k3,k4,k5,k6,k7,kf⟩:=eight_cells HF.out.2
   refine bodyPost_ret (v:=.agg #[.int .i64 1,.int .i64 (1+(i:Int)),.int .i64 0,.int .i64 op.kind,.int .i64 op.id,.int .i64 op.up,.int .i64 op.pos,.string op.text]) ?_ rfl ?_
   ·simp [results,Tryz.f140,go_sem,k0,k1,k2,k3,k4,k5,k6,k7]
   ·exact HF.out.1
 ·subst hcases
  obtain ⟨-,-,-,hw9,hz9,hc9⟩:=HS4.out
  obtain ⟨b0,b1,b2,b3,b4,bf⟩:=five_cells hw9
  obtain ⟨z0,z1,z2,z3,z4,z5,z6,z7,zf⟩:=eight_cells hz9
  obtain ⟨c0,c1,c2,c3,c4,c5,cf⟩:=six_cells hc9
  clear hw9 hz9 hc9
  have HF:=Lib.hid ((HS4.out).fin hrl (⟨2,(1+(i:Int)),0,⟨0,0,0,0,⟨#[]⟩⟩⟩:Ev) ⟨opW0,Nat.zero_le _⟩ (by omega))
  go_wp2_with fail
  obtain ⟨k0,k1,k2,k3,k4,k5,k6,k7,kf⟩:=eight_cells HF.out.2
  refine bodyPost_ret (v:=.agg #[.int .i64 2,.int .i64 (1+(i:Int)),.int .i64 0,.int .i64 0,.int .i64 0,.int .i64 0,.int .i64 0,.string ⟨#[]⟩]) ?_ rfl ?_
  ·simp [results,Tryz.f140,go_sem,k0,k1,k2,k3,k4,k5,k6,k7]
  ·exact HF.out.1
 ·rcases hcases with rfl | rfl
  all_goals
   obtain ⟨-,-,-,hw9,hz9,hc9⟩:=HS4.out
   obtain ⟨b0,b1,b2,b3,b4,bf⟩:=five_cells hw9
   obtain ⟨z0,z1,z2,z3,z4,z5,z6,z7,zf⟩:=eight_cells hz9
   obtain ⟨c0,c1,c2,c3,c4,c5,cf⟩:=six_cells hc9
   clear hw9 hz9 hc9
   have HF:=Lib.hid ((HS4.out).fin hrl (⟨3,0,0,⟨0,0,0,0,⟨#[]⟩⟩⟩:Ev) ⟨opW0,Nat.zero_le _⟩ (by omega))
   go_wp2_with fail
   obtain ⟨k0,k1,k2,k3,k4,k5,k6,k7,kf⟩:=eight_cells HF.out.2
   refine bodyPost_ret (v:=.agg #[.int .i64 3,.int .i64 0,.int .i64 0,.int .i64 0,.int .i64 0,.int .i64 0,.int .i64 0,.string ⟨#[]⟩]) ?_ rfl ?_
   ·simp [results,Tryz.f140,go_sem,k0,k1,k2,k3,k4,k5,k6,k7]
   ·exact HF.out.1
 ·rcases hcases with rfl | rfl
  all_goals
   have hEd:Ext w9 w9.drew:=(Below.refl _ _).drew
   have HSD:=Lib.hid (HS4.out.ext hEd)
   obtain ⟨-,-,-,hw9,hz9,hc9⟩:=HSD.out
   obtain ⟨b0,b1,b2,b3,b4,bf⟩:=five_cells hw9
   obtain ⟨z0,z1,z2,z3,z4,z5,z6,z7,zf⟩:=eight_cells hz9
   obtain ⟨c0,c1,c2,c3,c4,c5,cf⟩:=six_cells hc9
   clear hw9 hz9 hc9
   have HS:Hid (w9.drew.cell? ⟨w1.heap.size,1,none⟩=some (.int .i64 c.seen)∧w9.drew.cell? ⟨w.heap.size,1,none⟩=some (.int .i64 wd.safe)):=Lib.hid ⟨c1,b1⟩
   clear b0 b1 b2 b3 b4 bf z0 z1 z2 z3 z4 z5 z6 z7 zf c0 c1 c2 c3 c4 c5 cf
   obtain ⟨-,⟨q,hq1,hq2,hRq⟩,-⟩:=HSD.out
   go_upto_region 16 with fail
   refine wp_region_B (fun w'=>w'.cell? ⟨w1.heap.size,1,none⟩=some (.int .i64 c.seen)∧w'.cell? ⟨w.heap.size,1,none⟩=some (.int .i64 wd.safe)) 12 (by kernel_rfl) ?_
   refine WB.take (i:=0) (v:=?_) rfl (by kernel_rfl) (by kernel_rfl) (by kernel_rfl) (by kernel_rfl) (fun _ _ _ h=>h) HS.out (Or.inl ⟨by rfl,?_⟩) ?_
   rotate_left
   ·(rintro w ⟨s0,s1⟩;go_simp;try with_reducible rfl)
   try simp only [Act.put,List.setIfInBounds_toArray,List.set_cons_zero,List.set_cons_succ]
   refine WB.take (i:=1) (v:=?_) rfl (by kernel_rfl) (by kernel_rfl) (by kernel_rfl) (by kernel_rfl) (fun _ _ _ h=>h) HS.out (Or.inl ⟨by rfl,?_⟩) ?_
   rotate_left
   ·(rintro w ⟨s0,s1⟩;go_simp;try with_reducible rfl)
   try simp only [Act.put,List.setIfInBounds_toArray,List.set_cons_zero,List.set_cons_succ]
   refine WB.take (i:=2) (v:=?_) rfl (by kernel_rfl) (by kernel_rfl) (by kernel_rfl) (by kernel_rfl) (fun _ _ _ h=>h) HS.out (Or.inl ⟨by rfl,?_⟩) ?_
   rotate_left
   ·(rintro w ⟨s0,s1⟩;go_simp;try with_reducible rfl)
   try simp only [Act.put,List.setIfInBounds_toArray,List.set_cons_zero,List.set_cons_succ]
   refine WB.take (i:=3) (v:=?_) rfl (by kernel_rfl) (by kernel_rfl) (by kernel_rfl) (by kernel_rfl) (fun _ _ _ h=>h) HS.out (Or.inl ⟨by rfl,?_⟩) ?_
   rotate_left
   ·(rintro w ⟨s0,s1⟩;go_simp;try with_reducible rfl)
   try simp only [Act.put,List.setIfInBounds_toArray,List.set_cons_zero,List.set_cons_succ]
   refine WB.take (i:=4) (v:=?_) rfl (by kernel_rfl) (by kernel_rfl) (by kernel_rfl) (by kernel_rfl) (fun _ _ _ h=>h) HS.out (Or.inl ⟨by rfl,?_⟩) ?_
   rotate_left
   ·(rintro w ⟨s0,s1⟩;go_simp;try with_reducible rfl)
   try simp only [Act.put,List.setIfInBounds_toArray,List.set_cons_zero,List.set_cons_succ]
   refine WB.take (i:=5) (v:=?_) rfl (by kernel_rfl) (by kernel_rfl) (by kernel_rfl) (by kernel_rfl) (fun _ _ _ h=>h) HS.out (Or.inl ⟨by rfl,?_⟩) ?_
   rotate_left
   ·(rintro w ⟨s0,s1⟩;go_simp;try with_reducible rfl)
   try simp only [Act.put,List.setIfInBounds_toArray,List.set_cons_zero,List.set_cons_succ]
   refine WB.take (i:=6) (v:=?_) rfl (by kernel_rfl) (by kernel_rfl) (by kernel_rfl) (by kernel_rfl) (fun _ _ _ h=>h) HS.out (Or.inl ⟨by rfl,?_⟩) ?_
   rotate_left
   ·(rintro w ⟨s0,s1⟩;go_simp;try with_reducible rfl)
   try simp only [Act.put,List.setIfInBounds_toArray,List.set_cons_zero,List.set_cons_succ]
   refine WB.take (i:=7) (v:=?_) rfl (by kernel_rfl) (by kernel_rfl) (by kernel_rfl) (by kernel_rfl) (fun _ _ _ h=>h) HS.out (Or.inl ⟨by rfl,?_⟩) ?_
   rotate_left
   ·(rintro w ⟨s0,s1⟩;go_simp;try with_reducible rfl)
   try simp only [Act.put,List.setIfInBounds_toArray,List.set_cons_zero,List.set_cons_succ]
   refine WB.one (i:=8) (by kernel_rfl) rfl (fun K hK=>?_)
   have HKK:=Lib.hid hK
   clear hK
   go_simp
   refine (pick_c r q 4 _ hRq (by omega) ⟨by omega,by omega⟩).mono ?_
   rintro r9 w8 ⟨v,rfl,hv0,hv1,-,hR9,hg9⟩
   have hvb:=hv1 (by omega)
   have HSE:=Lib.hid (HSD.out.step (d:=1) hrl hcb9 hR9 hg9 ⟨hq1,hq2⟩ ⟨by omega,by omega⟩)
   clear hR9 hg9 hv1
   have c1:=(six_cells HSE.out.2.2.2.2.2).2.1
   have b1:=(five_cells HSE.out.2.2.2.1).2.1
   have HS8:Hid (w8.cell? ⟨w1.heap.size,1,none⟩=some (.int .i64 c.seen)∧w8.cell? ⟨w.heap.size,1,none⟩=some (.int .i64 wd.safe)):=Lib.hid ⟨c1,b1⟩
   clear c1 b1
   refine HKK.out _ _ ⟨fun _=>HS8.out,?_⟩
   clear HKK K HS
   try simp only [Act.put,List.setIfInBounds_toArray,List.set_cons_zero,List.set_cons_succ]
   refine WB.takeP (i:=9) (v:=?_) rfl (by kernel_rfl) (by kernel_rfl) (by kernel_rfl) (by kernel_rfl) (fun _ _ _ h=>h) HS8.out (Or.inl ⟨by rfl,?_⟩) ?_
   rotate_left
   ·(rintro w -;go_simp;try with_reducible rfl)
   try simp only [Act.put,List.setIfInBounds_toArray,List.set_cons_zero,List.set_cons_succ]
   refine WB.takeP (i:=10) (v:=?_) rfl (by kernel_rfl) (by kernel_rfl) (by kernel_rfl) (by kernel_rfl) (fun _ _ _ h=>h) HS8.out (Or.inl ⟨by rfl,?_⟩) ?_
   rotate_left
   ·(rintro w -;go_simp;try with_reducible rfl)
   try simp only [Act.put,List.setIfInBounds_toArray,List.set_cons_zero,List.set_cons_succ]
   refine WB.takeP (i:=11) (v:=?_) rfl (by kernel_rfl) (by kernel_rfl) (by kernel_rfl) (by kernel_rfl) (fun _ _ _ h=>h) HS8.out (Or.inl ⟨by rfl,?_⟩) ?_
   rotate_left
   ·(rintro w -;go_simp;try with_reducible rfl)
   try simp only [Act.put,List.setIfInBounds_toArray,List.set_cons_zero,List.set_cons_succ]
   refine WB.one (i:=12) (by kernel_rfl) rfl (fun K hK=>?_)
   have HKK:=Lib.hid hK
   clear hK
   have z0:=(eight_cells HSE.out.2.2.2.2.1).1
   have z1:=(eight_cells HSE.out.2.2.2.2.1).2.1
   have z2:=(eight_cells HSE.out.2.2.2.2.1).2.2.1
   have z3:=(eight_cells HSE.out.2.2.2.2.1).2.2.2.1
   have z4:=(eight_cells HSE.out.2.2.2.2.1).2.2.2.2.1
   have z5:=(eight_cells HSE.out.2.2.2.2.1).2.2.2.2.2.1
   have z6:=(eight_cells HSE.out.2.2.2.2.1).2.2.2.2.2.2.1
   have z7:=(eight_cells HSE.out.2.2.2.2.1).2.2.2.2.2.2.2.1
   have zf:=(eight_cells HSE.out.2.2.2.2.1).2.2.2.2.2.2.2.2
   go_simp
   refine HKK.out _ _ ⟨fun h=>(no_late h (by kernel_rfl)).elim,?_⟩
   clear HKK K z0 z1 z2 z3 z4 z5 z6 z7 zf HS8
   refine WB.done (by kernel_rfl) ?_
   have HF:=Lib.hid ((HSE.out).fin hrl (⟨4,(1+(i:Int)),(IntKind.i64.wrap ((IntKind.i64.wrap (min c.seen wd.safe*v)).tdiv 3)),⟨0,0,0,0,⟨#[]⟩⟩⟩:Ev) ⟨opW0,Nat.zero_le _⟩ (by omega))
   go_wp2_with fail
   obtain ⟨k0,k1,k2,k3,k4,k5,k6,k7,kf⟩:=eight_cells HF.out.2
   refine bodyPost_ret (v:=.agg #[.int .i64 4,.int .i64 (1+(i:Int)),.int .i64 (IntKind.i64.wrap ((IntKind.i64.wrap (min c.seen wd.safe*v)).tdiv 3)),.int .i64 0,.int .i64 0,.int .i64 0,.int .i64 0,.string ⟨#[]⟩]) ?_ rfl ?_
   ·simp [results,Tryz.f140,go_sem,k0,k1,k2,k3,k4,k5,k6,k7]
   ·exact HF.out.1
 ·subst hcases
  obtain ⟨-,-,-,hw9,hz9,hc9⟩:=HS4.out
  obtain ⟨b0,b1,b2,b3,b4,bf⟩:=five_cells hw9
  obtain ⟨z0,z1,z2,z3,z4,z5,z6,z7,zf⟩:=eight_cells hz9
  obtain ⟨c0,c1,c2,c3,c4,c5,cf⟩:=six_cells hc9
  clear hw9 hz9 hc9
  obtain ⟨-,⟨q,hq1,hq2,hRq⟩,hGq,hwq,hzq,hcq⟩:=HS4.out
  go_wp2_with fail
  refine (pick_c r q 3 _ hRq (by omega) ⟨by omega,by omega⟩).mono ?_
  rintro r9 w9 ⟨v,rfl,hv0,hv1,-,hR9,hg9⟩
  have hvb:=hv1 (by omega)
  have HT1:=Lib.hid ((HS4.out).step (d:=1) hrl hcb9 hR9 hg9 ⟨hq1,hq2⟩ ⟨by omega,by omega⟩)
  clear hRq hGq hwq hzq hcq hR9 hg9 hv1 hq1 hq2
  clear b0 b1 b2 b3 b4 bf z0 z1 z2 z3 z4 z5 z6 z7 zf c0 c1 c2 c3 c4 c5 cf
  by_cases hv:v=0
  ·have hv':(v == 0)=true:=by simp [hv]
   clear hv hv0 hvb
   obtain ⟨-,-,-,hw9,hz9,hc9⟩:=HT1.out
   obtain ⟨b0,b1,b2,b3,b4,bf⟩:=five_cells hw9
   obtain ⟨z0,z1,z2,z3,z4,z5,z6,z7,zf⟩:=eight_cells hz9
   obtain ⟨c0,c1,c2,c3,c4,c5,cf⟩:=six_cells hc9
   clear hw9 hz9 hc9
   obtain ⟨-,⟨q,hq1,hq2,hRq⟩,hGq,hwq,hzq,hcq⟩:=HT1.out
   go_wp2_with fail
   refine (pick_c r q 3 _ hRq (by omega) ⟨by omega,by omega⟩).mono ?_
   rintro r9 w9 ⟨v,rfl,hv0,hv1,-,hR9,hg9⟩
   have hvb:=hv1 (by omega)
   have HT2:=Lib.hid ((HT1.out).step (d:=1) hrl hcb9 hR9 hg9 ⟨hq1,hq2⟩ ⟨by omega,by omega⟩)
   clear hRq hGq hwq hzq hcq hR9 hg9 hv1 hq1 hq2
   clear b0 b1 b2 b3 b4 bf z0 z1 z2 z3 z4 z5 z6 z7 zf c0 c1 c2 c3 c4 c5 cf
   obtain ⟨-,-,-,hw9,hz9,hc9⟩:=HT2.out
   obtain ⟨b0,b1,b2,b3,b4,bf⟩:=five_cells hw9
   obtain ⟨z0,z1,z2,z3,z4,z5,z6,z7,zf⟩:=eight_cells hz9
   obtain ⟨c0,c1,c2,c3,c4,c5,cf⟩:=six_cells hc9
   clear hw9 hz9 hc9
   have HF:=Lib.hid ((HT2.out).fin hrl (⟨5,0,v,⟨0,0,0,0,⟨#[]⟩⟩⟩:Ev) ⟨opW0,Nat.zero_le _⟩ (by omega))
   go_wp2_with fail
   obtain ⟨k0,k1,k2,k3,k4,k5,k6,k7,kf⟩:=eight_cells HF.out.2
   refine bodyPost_ret (v:=.agg #[.int .i64 5,.int .i64 0,.int .i64 v,.int .i64 0,.int .i64 0,.int .i64 0,.int .i64 0,.string ⟨#[]⟩]) ?_ rfl ?_
   ·simp [results,Tryz.f140,go_sem,k0,k1,k2,k3,k4,k5,k6,k7]
   ·exact HF.out.1
  ·have hv':(v == 0)=false:=by simp [hv]
   clear hv hv0 hvb
   by_cases hu:wd.up=true
   ·have HU:=Lib.hid hu
    clear hu
    obtain ⟨-,-,-,hw9,hz9,hc9⟩:=HT1.out
    obtain ⟨b0,b1,b2,b3,b4,bf⟩:=five_cells hw9
    obtain ⟨z0,z1,z2,z3,z4,z5,z6,z7,zf⟩:=eight_cells hz9
    obtain ⟨c0,c1,c2,c3,c4,c5,cf⟩:=six_cells hc9
    clear hw9 hz9 hc9
    rw [HU.out] at b2
    obtain ⟨-,⟨q,hq1,hq2,hRq⟩,hGq,hwq,hzq,hcq⟩:=HT1.out
    go_wp2_with fail
    refine (pick_c r q 4 _ hRq (by omega) ⟨by omega,by omega⟩).mono ?_
    rintro r9 w9 ⟨v,rfl,hv0,hv1,-,hR9,hg9⟩
    have hvb:=hv1 (by omega)
    have HT2:=Lib.hid ((HT1.out).step (d:=1) hrl hcb9 hR9 hg9 ⟨hq1,hq2⟩ ⟨by omega,by omega⟩)
    clear hRq hGq hwq hzq hcq hR9 hg9 hv1 hq1 hq2
    clear b0 b1 b2 b3 b4 bf z0 z1 z2 z3 z4 z5 z6 z7 zf c0 c1 c2 c3 c4 c5 cf
    by_cases hv2:v=0
    ·have hv2':(v == 0)=true:=by simp [hv2]
     clear hv2 hv0 hvb
     obtain ⟨-,-,-,hw9,hz9,hc9⟩:=HT2.out
     obtain ⟨b0,b1,b2,b3,b4,bf⟩:=five_cells hw9
     obtain ⟨z0,z1,z2,z3,z4,z5,z6,z7,zf⟩:=eight_cells hz9
     obtain ⟨c0,c1,c2,c3,c4,c5,cf⟩:=six_cells hc9
     clear hw9 hz9 hc9
     have HF:=Lib.hid ((HT2.out).fin hrl (⟨6,0,0,⟨0,0,0,0,⟨#[]⟩⟩⟩:Ev) ⟨opW0,Nat.zero_le _⟩ (by omega))
     go_wp2_with fail
     obtain ⟨k0,k1,k2,k3,k4,k5,k6,k7,kf⟩:=eight_cells HF.out.2
     refine bodyPost_ret (v:=.agg #[.int .i64 6,.int .i64 0,.int .i64 0,.int .i64 0,.int .i64 0,.int .i64 0,.int .i64 0,.string ⟨#[]⟩]) ?_ rfl ?_
     ·simp [results,Tryz.f140,go_sem,k0,k1,k2,k3,k4,k5,k6,k7]
     ·exact HF.out.1
    ·have hv2':(v == 0)=false:=by simp [hv2]
     clear hv2 hv0 hvb
     have hwl:IntKind.i64.wrap ((ys.length:Int)+1)=(ys.length:Int)+1:=by rw [IntKind.wrap_i64];omega
     obtain ⟨-,-,-,hw9,hz9,hc9⟩:=HT2.out
     obtain ⟨b0,b1,b2,b3,b4,bf⟩:=five_cells hw9
     obtain ⟨z0,z1,z2,z3,z4,z5,z6,z7,zf⟩:=eight_cells hz9
     obtain ⟨c0,c1,c2,c3,c4,c5,cf⟩:=six_cells hc9
     clear hw9 hz9 hc9
     obtain ⟨-,⟨q,hq1,hq2,hRq⟩,hGq,hwq,hzq,hcq⟩:=HT2.out
     go_wp2_with fail
     refine (pick_c r q ((ys.length:Int)+1) _ hRq (by omega) ⟨by omega,by omega⟩).mono ?_
     rintro r9 w9 ⟨v,rfl,hv0,hv1,-,hR9,hg9⟩
     have hvb:=hv1 (by omega)
     have HP1:=Lib.hid ((HT2.out).step (d:=1) hrl hcb9 hR9 hg9 ⟨hq1,hq2⟩ ⟨by omega,by omega⟩)
     clear hRq hGq hwq hzq hcq hR9 hg9 hv1 hq1 hq2
     clear b0 b1 b2 b3 b4 bf z0 z1 z2 z3 z4 z5 z6 z7 zf c0 c1 c2 c3 c4 c5 cf
     obtain ⟨m1,rfl⟩:∃ m1:Nat,v=m1:=⟨v.toNat,by omega⟩
     have hm1:m1≤12:=by omega
     clear hv0 hvb
     obtain ⟨-,-,-,hw9,hz9,hc9⟩:=HP1.out
     obtain ⟨b0,b1,b2,b3,b4,bf⟩:=five_cells hw9
     obtain ⟨z0,z1,z2,z3,z4,z5,z6,z7,zf⟩:=eight_cells hz9
     obtain ⟨c0,c1,c2,c3,c4,c5,cf⟩:=six_cells hc9
     clear hw9 hz9 hc9
     obtain ⟨-,⟨q,hq1,hq2,hRq⟩,hGq,hwq,hzq,hcq⟩:=HP1.out
     go_wp2_with fail
     refine (pick_c r q 2 _ hRq (by omega) ⟨by omega,by omega⟩).mono ?_
     rintro r9 w9 ⟨v,rfl,hv0,hv1,-,hR9,hg9⟩
     have hvb:=hv1 (by omega)
     have HP2:=Lib.hid ((HP1.out).step (d:=1) hrl hcb9 hR9 hg9 ⟨hq1,hq2⟩ ⟨by omega,by omega⟩)
     clear hRq hGq hwq hzq hcq hR9 hg9 hv1 hq1 hq2
     clear b0 b1 b2 b3 b4 bf z0 z1 z2 z3 z4 z5 z6 z7 zf c0 c1 c2 c3 c4 c5 cf
     have hwm:IntKind.i64.wrap ((m1:Int)*v)=(m1:Int)*v:=by
      rcases (by omega:v=0∨v=1) with rfl | rfl <;> (rw [IntKind.wrap_i64];omega)
     obtain ⟨-,-,-,hw9,hz9,hc9⟩:=HP2.out
     obtain ⟨b0,b1,b2,b3,b4,bf⟩:=five_cells hw9
     obtain ⟨z0,z1,z2,z3,z4,z5,z6,z7,zf⟩:=eight_cells hz9
     obtain ⟨c0,c1,c2,c3,c4,c5,cf⟩:=six_cells hc9
     clear hw9 hz9 hc9
     have HF:=Lib.hid ((HP2.out).fin hrl (⟨8,0,((m1:Int)*v),⟨0,0,0,0,⟨#[]⟩⟩⟩:Ev) ⟨opW0,Nat.zero_le _⟩ (by omega))
     go_wp2_with fail
     obtain ⟨k0,k1,k2,k3,k4,k5,k6,k7,kf⟩:=eight_cells HF.out.2
     refine bodyPost_ret (v:=.agg #[.int .i64 8,.int .i64 0,.int .i64 ((m1:Int)*v),.int .i64 0,.int .i64 0,.int .i64 0,.int .i64 0,.string ⟨#[]⟩]) ?_ rfl ?_
     ·simp [results,Tryz.f140,go_sem,k0,k1,k2,k3,k4,k5,k6,k7]
     ·exact HF.out.1
   ·have hu':wd.up=false:=by simpa using hu
    have HU:=Lib.hid hu'
    clear hu hu'
    obtain ⟨-,-,-,hw9,hz9,hc9⟩:=HT1.out
    obtain ⟨b0,b1,b2,b3,b4,bf⟩:=five_cells hw9
    obtain ⟨z0,z1,z2,z3,z4,z5,z6,z7,zf⟩:=eight_cells hz9
    obtain ⟨c0,c1,c2,c3,c4,c5,cf⟩:=six_cells hc9
    clear hw9 hz9 hc9
    rw [HU.out] at b2
    have HF:=Lib.hid ((HT1.out).fin hrl (⟨7,0,0,⟨0,0,0,0,⟨#[]⟩⟩⟩:Ev) ⟨opW0,Nat.zero_le _⟩ (by omega))
    go_wp2_with fail
    obtain ⟨k0,k1,k2,k3,k4,k5,k6,k7,kf⟩:=eight_cells HF.out.2
    refine bodyPost_ret (v:=.agg #[.int .i64 7,.int .i64 0,.int .i64 0,.int .i64 0,.int .i64 0,.int .i64 0,.int .i64 0,.string ⟨#[]⟩]) ?_ rfl ?_
    ·simp [results,Tryz.f140,go_sem,k0,k1,k2,k3,k4,k5,k6,k7]
    ·exact HF.out.1
 ·subst hcases
  obtain ⟨-,-,-,hw9,hz9,hc9⟩:=HS4.out
  obtain ⟨b0,b1,b2,b3,b4,bf⟩:=five_cells hw9
  obtain ⟨z0,z1,z2,z3,z4,z5,z6,z7,zf⟩:=eight_cells hz9
  obtain ⟨c0,c1,c2,c3,c4,c5,cf⟩:=six_cells hc9
  clear hw9 hz9 hc9
  obtain ⟨-,⟨q,hq1,hq2,hRq⟩,hGq,hwq,hzq,hcq⟩:=HS4.out
  go_wp2_with fail
  refine (pick_c r q 2 _ hRq (by omega) ⟨by omega,by omega⟩).mono ?_
  rintro r9 w9 ⟨v,rfl,hv0,hv1,-,hR9,hg9⟩
  have hvb:=hv1 (by omega)
  have HT1:=Lib.hid ((HS4.out).step (d:=1) hrl hcb9 hR9 hg9 ⟨hq1,hq2⟩ ⟨by omega,by omega⟩)
  clear hRq hGq hwq hzq hcq hR9 hg9 hv1 hq1 hq2
  clear b0 b1 b2 b3 b4 bf z0 z1 z2 z3 z4 z5 z6 z7 zf c0 c1 c2 c3 c4 c5 cf
  have hwl:IntKind.i64.wrap ((ys.length:Int)+1)=(ys.length:Int)+1:=by rw [IntKind.wrap_i64];omega
  by_cases hv:v=0
  ·have hv':(v == 0)=true:=by simp [hv]
   clear hv hv0 hvb
   obtain ⟨-,-,-,hw9,hz9,hc9⟩:=HT1.out
   obtain ⟨b0,b1,b2,b3,b4,bf⟩:=five_cells hw9
   obtain ⟨z0,z1,z2,z3,z4,z5,z6,z7,zf⟩:=eight_cells hz9
   obtain ⟨c0,c1,c2,c3,c4,c5,cf⟩:=six_cells hc9
   clear hw9 hz9 hc9
   obtain ⟨-,⟨q,hq1,hq2,hRq⟩,hGq,hwq,hzq,hcq⟩:=HT1.out
   go_wp2_with fail
   refine (pick_c r q ((ys.length:Int)+1) _ hRq (by omega) ⟨by omega,by omega⟩).mono ?_
   rintro r9 w9 ⟨v,rfl,hv0,hv1,-,hR9,hg9⟩
   have hvb:=hv1 (by omega)
   have HT2:=Lib.hid ((HT1.out).step (d:=1) hrl hcb9 hR9 hg9 ⟨hq1,hq2⟩ ⟨by omega,by omega⟩)
   clear hRq hGq hwq hzq hcq hR9 hg9 hv1 hq1 hq2
   clear b0 b1 b2 b3 b4 bf z0 z1 z2 z3 z4 z5 z6 z7 zf c0 c1 c2 c3 c4 c5 cf
   obtain ⟨-,-,-,hw9,hz9,hc9⟩:=HT2.out
   obtain ⟨b0,b1,b2,b3,b4,bf⟩:=five_cells hw9
   obtain ⟨z0,z1,z2,z3,z4,z5,z6,z7,zf⟩:=eight_cells hz9
   obtain ⟨c0,c1,c2,c3,c4,c5,cf⟩:=six_cells hc9
   clear hw9 hz9 hc9
   have HF:=Lib.hid ((HT2.out).fin hrl (⟨10,0,v,⟨0,0,0,0,⟨#[]⟩⟩⟩:Ev) ⟨opW0,Nat.zero_le _⟩ (by omega))
   go_wp2_with fail
   obtain ⟨k0,k1,k2,k3,k4,k5,k6,k7,kf⟩:=eight_cells HF.out.2
   refine bodyPost_ret (v:=.agg #[.int .i64 10,.int .i64 0,.int .i64 v,.int .i64 0,.int .i64 0,.int .i64 0,.int .i64 0,.string ⟨#[]⟩]) ?_ rfl ?_
   ·simp [results,Tryz.f140,go_sem,k0,k1,k2,k3,k4,k5,k6,k7]
   ·exact HF.out.1
  ·have hv':(v == 0)=false:=by simp [hv]
   clear hv hv0 hvb
   obtain ⟨-,-,-,hw9,hz9,hc9⟩:=HT1.out
   obtain ⟨b0,b1,b2,b3,b4,bf⟩:=five_cells hw9
   obtain ⟨z0,z1,z2,z3,z4,z5,z6,z7,zf⟩:=eight_cells hz9
   obtain ⟨c0,c1,c2,c3,c4,c5,cf⟩:=six_cells hc9
   clear hw9 hz9 hc9
   obtain ⟨-,⟨q,hq1,hq2,hRq⟩,hGq,hwq,hzq,hcq⟩:=HT1.out
   go_wp2_with fail
   refine (pick_c r q ((ys.length:Int)+1) _ hRq (by omega) ⟨by omega,by omega⟩).mono ?_
   rintro r9 w9 ⟨v,rfl,hv0,hv1,-,hR9,hg9⟩
   have hvb:=hv1 (by omega)
   have HT2:=Lib.hid ((HT1.out).step (d:=1) hrl hcb9 hR9 hg9 ⟨hq1,hq2⟩ ⟨by omega,by omega⟩)
   clear hRq hGq hwq hzq hcq hR9 hg9 hv1 hq1 hq2
   clear b0 b1 b2 b3 b4 bf z0 z1 z2 z3 z4 z5 z6 z7 zf c0 c1 c2 c3 c4 c5 cf
   obtain ⟨-,-,-,hw9,hz9,hc9⟩:=HT2.out
   obtain ⟨b0,b1,b2,b3,b4,bf⟩:=five_cells hw9
   obtain ⟨z0,z1,z2,z3,z4,z5,z6,z7,zf⟩:=eight_cells hz9
   obtain ⟨c0,c1,c2,c3,c4,c5,cf⟩:=six_cells hc9
   clear hw9 hz9 hc9
   have HF:=Lib.hid ((HT2.out).fin hrl (⟨9,0,v,⟨0,0,0,0,⟨#[]⟩⟩⟩:Ev) ⟨opW0,Nat.zero_le _⟩ (by omega))
   go_wp2_with fail
   obtain ⟨k0,k1,k2,k3,k4,k5,k6,k7,kf⟩:=eight_cells HF.out.2
   refine bodyPost_ret (v:=.agg #[.int .i64 9,.int .i64 0,.int .i64 v,.int .i64 0,.int .i64 0,.int .i64 0,.int .i64 0,.string ⟨#[]⟩]) ?_ rfl ?_
   ·simp [results,Tryz.f140,go_sem,k0,k1,k2,k3,k4,k5,k6,k7]
   ·exact HF.out.1
 ·rcases hcases with rfl | rfl | rfl
  all_goals
   have hwl:IntKind.i64.wrap ((ys.length:Int)+1)=(ys.length:Int)+1:=by rw [IntKind.wrap_i64];omega
   obtain ⟨-,-,-,hw9,hz9,hc9⟩:=HS4.out
   obtain ⟨b0,b1,b2,b3,b4,bf⟩:=five_cells hw9
   obtain ⟨z0,z1,z2,z3,z4,z5,z6,z7,zf⟩:=eight_cells hz9
   obtain ⟨c0,c1,c2,c3,c4,c5,cf⟩:=six_cells hc9
   clear hw9 hz9 hc9
   obtain ⟨-,⟨q,hq1,hq2,hRq⟩,hGq,hwq,hzq,hcq⟩:=HS4.out
   go_wp2_with fail
   refine (pick_c r q ((ys.length:Int)+1) _ hRq (by omega) ⟨by omega,by omega⟩).mono ?_
   rintro r9 w9 ⟨v,rfl,hv0,hv1,-,hR9,hg9⟩
   have hvb:=hv1 (by omega)
   have HP1:=Lib.hid ((HS4.out).step (d:=1) hrl hcb9 hR9 hg9 ⟨hq1,hq2⟩ ⟨by omega,by omega⟩)
   clear hRq hGq hwq hzq hcq hR9 hg9 hv1 hq1 hq2
   clear b0 b1 b2 b3 b4 bf z0 z1 z2 z3 z4 z5 z6 z7 zf c0 c1 c2 c3 c4 c5 cf
   obtain ⟨m1,rfl⟩:∃ m1:Nat,v=m1:=⟨v.toNat,by omega⟩
   have hm1:m1≤12:=by omega
   clear hv0 hvb
   obtain ⟨-,-,-,hw9,hz9,hc9⟩:=HP1.out
   obtain ⟨b0,b1,b2,b3,b4,bf⟩:=five_cells hw9
   obtain ⟨z0,z1,z2,z3,z4,z5,z6,z7,zf⟩:=eight_cells hz9
   obtain ⟨c0,c1,c2,c3,c4,c5,cf⟩:=six_cells hc9
   clear hw9 hz9 hc9
   obtain ⟨-,⟨q,hq1,hq2,hRq⟩,hGq,hwq,hzq,hcq⟩:=HP1.out
   go_wp2_with fail
   refine (pick_c r q 2 _ hRq (by omega) ⟨by omega,by omega⟩).mono ?_
   rintro r9 w9 ⟨v,rfl,hv0,hv1,-,hR9,hg9⟩
   have hvb:=hv1 (by omega)
   have HP2:=Lib.hid ((HP1.out).step (d:=1) hrl hcb9 hR9 hg9 ⟨hq1,hq2⟩ ⟨by omega,by omega⟩)
   clear hRq hGq hwq hzq hcq hR9 hg9 hv1 hq1 hq2
   clear b0 b1 b2 b3 b4 bf z0 z1 z2 z3 z4 z5 z6 z7 zf c0 c1 c2 c3 c4 c5 cf
   have hwm:IntKind.i64.wrap ((m1:Int)*v)=(m1:Int)*v:=by
    rcases (by omega:v=0∨v=1) with rfl | rfl <;> (rw [IntKind.wrap_i64];omega)
   obtain ⟨-,-,-,hw9,hz9,hc9⟩:=HP2.out
   obtain ⟨b0,b1,b2,b3,b4,bf⟩:=five_cells hw9
   obtain ⟨z0,z1,z2,z3,z4,z5,z6,z7,zf⟩:=eight_cells hz9
   obtain ⟨c0,c1,c2,c3,c4,c5,cf⟩:=six_cells hc9
   clear hw9 hz9 hc9
   have HF:=Lib.hid ((HP2.out).fin hrl (⟨8,0,((m1:Int)*v),⟨0,0,0,0,⟨#[]⟩⟩⟩:Ev) ⟨opW0,Nat.zero_le _⟩ (by omega))
   go_wp2_with fail
   obtain ⟨k0,k1,k2,k3,k4,k5,k6,k7,kf⟩:=eight_cells HF.out.2
   refine bodyPost_ret (v:=.agg #[.int .i64 8,.int .i64 0,.int .i64 ((m1:Int)*v),.int .i64 0,.int .i64 0,.int .i64 0,.int .i64 0,.string ⟨#[]⟩]) ?_ rfl ?_
   ·simp [results,Tryz.f140,go_sem,k0,k1,k2,k3,k4,k5,k6,k7]
   ·exact HF.out.1
open Go.RowKit Go.Lib
instance:Flat Ev:=⟨fun e=>[.int .i64 e.kind,.int .i64 e.who,.int .i64 e.n,.int .i64 e.op.kind,.int .i64 e.op.id,.int .i64 e.op.up,.int .i64 e.op.pos,.string e.op.text],8,fun _=>rfl,fun _ u hu=>by simp at hu;rcases hu with rfl | rfl | rfl | rfl | rfl | rfl | rfl | rfl <;> rfl,by omega,fun e=>e.op.text.size≤maxLen⟩
theorem ev_info:∃ i:TypeInfo,Tryz.prog.info? 201=some i∧i.zero=some (.agg #[.int .i64 0,.int .i64 0,.int .i64 0,.int .i64 0,.int .i64 0,.int .i64 0,.int .i64 0,.string ⟨#[]⟩])∧i.size=8∧i.bytes=72:=info_parts (by kernel_rfl)
theorem el_ev:El Ev 201 171:=⟨by kernel_rfl,info_of ev_info (by decide) rfl rfl⟩
theorem WP.lower {W:World} {base base':Nat} {w:Wd} {L C N:Option Addr} {ln cc nc:Nat} {xs:List RC} {ys:List RL} (h:WP W base w L ln C cc N nc xs ys) (hb:base'≤base):WP W base' w L ln C cc N nc xs ys:=
 ⟨h.log,h.cli.lower hb,h.let_.lower hb,h.cls,h.nets⟩
theorem keepT_own {α:Type} [Flat α] {e:TypeId} {W W':World} {base:Nat} {v:Value} {xs:List α} (ho:Own e W base v xs) (hg:W.grownBy W' v.ownBlock) (h1:e≠46) (h2:e≠35) (h3:e≠26) (h4:e≠104):KeepT W W':=by
 cases hv:v.ownBlock with
 |none=>rw [hv] at hg;exact fun k cs ty m hk _=>(hg.block k (blk_lt hk) (by simp)).trans hk
 |some k=>
  obtain ⟨cs,m,hk⟩:=ho.ty k hv
  rw [hv] at hg
  exact KeepT.grown hg hk h1 h2 h3 h4
theorem ownB_ty {W:World} {base:Nat} {w:Wd} {L C N:Option Addr} {ln cc nc:Nat} {xs:List RC} {ys:List RL} (h:WP W base w L ln C cc N nc xs ys) {k:Nat} (hk:OwnB C N k):base≤k∧∃ cs ty m,W.heap[k]?=some (.cells cs ty m)∧(ty=26∨ty=104):=by
 rcases hk with hk | hk
 ·obtain ⟨cs,m,h1⟩:=h.cli.ty k (by rw [ob_map];exact hk)
  exact ⟨(h.cli.blk k (by rw [ob_map];exact hk)).1,cs,_,m,h1,.inl rfl⟩
 ·obtain ⟨cs,m,h1⟩:=h.let_.ty k (by rw [ob_map];exact hk)
  exact ⟨(h.let_.blk k (by rw [ob_map];exact hk)).1,cs,_,m,h1,.inr rfl⟩
theorem WP.box {W W':World} {base:Nat} {w:Wd} {L C N:Option Addr} {ln cc nc:Nat} {xs:List RC} {ys:List RL} (h:WP W base w L ln C cc N nc xs ys) (hT:Turn (OwnB C N) W W') {b:Nat} {cs:Array Value} {ty:TypeId} {m:Nat × Nat} (hb:W.heap[b]?=some (.cells cs ty m)) (h1:ty≠26) (h2:ty≠104):W'.heap[b]?=some (.cells cs ty m):=
 (hT.block b (blk_lt hb) (fun hk=>by
  obtain ⟨-,c2,t2,m2,h3,h4⟩:=ownB_ty h hk
  rw [hb] at h3
  injection h3 with h3;injection h3 with _ h3
  rcases h4 with h4 | h4
  ·exact h1 (h3.trans h4)
  ·exact h2 (h3.trans h4))).trans hb
theorem WP.ownT {α:Type} [Flat α] {e:TypeId} {W W':World} {base base':Nat} {w:Wd} {L C N:Option Addr} {ln cc nc:Nat} {xs:List RC} {ys:List RL} {v:Value} {l:List α} (h:WP W base w L ln C cc N nc xs ys) (hT:Turn (OwnB C N) W W') (ho:Own e W base' v l) (h1:e≠26) (h2:e≠104):Own e W' base' v l:=
 ho.turn hT (fun k hk hs=>by
  obtain ⟨cs,m,hb⟩:=ho.ty k hk
  obtain ⟨-,c2,t2,m2,h3,h4⟩:=ownB_ty h hs
  rw [hb] at h3
  injection h3 with h3;injection h3 with _ h3
  rcases h4 with h4 | h4
  ·exact h1 (h3.trans h4)
  ·exact h2 (h3.trans h4))
theorem Rdr.turn {S:Nat→Prop} {w w':World} {r p:Nat} (h:Rdr w r p) (hT:Turn S w w') (hS:∀ k,S k→r<k):Rdr w' r p:=by
 obtain ⟨A,c,bs,h1,h2,h3,h4⟩:=h
 refine ⟨A,c,bs,(hT.block r (blk_lt h1) (fun e=>by have:=hS r e;omega)).trans h1,⟨h2.1,h2.2.1,fun h0=>?_,h2.2.2.2⟩,h3,h4⟩
 obtain ⟨b,off,rfl,hh⟩:=h2.2.2.1 h0
 have hbr:=h4 b off rfl
 exact ⟨b,off,rfl,fun j v hv=>(World.cell?_of_block (hT.block b (by have:=blk_lt h1;omega) (fun e=>by have:=hS b e;omega))).trans (hh j v hv)⟩
theorem Own.keepB {α:Type} [Flat α] {e:TypeId} {W W':World} {base b:Nat} {v:Value} {l:List α} {cs:Array Value} {ty:TypeId} {m:Nat × Nat} (h:Own e W base v l) (hg:W.grownBy W' (some b)) (hb:W.heap[b]?=some (.cells cs ty m)) (hne:ty≠e):Own e W' base v l:=by
 refine h.grown hg ?_
 cases hv:v.ownBlock with
 |none=>exact .inl rfl
 |some k=>
  refine .inr (fun eq=>?_)
  injection eq with eq
  subst eq
  obtain ⟨c1,m1,h1⟩:=h.ty k hv
  rw [hb] at h1
  injection h1 with h1;injection h1 with _ h1
  exact hne h1
theorem gturn {S:Nat→Prop} {w wr w':World} {row:Option Nat} (h:w.grownBy wr row) (hT:Turn S wr w') (hS:∀ k,S k→w.heap.size≤k):w.grownBy w' row:=
 ⟨hT.os.trans h.os,hT.tape.trans h.tape,hT.output.trans h.output,Nat.le_trans h.size hT.size,fun k hk hne=>(hT.block k (Nat.lt_of_lt_of_le hk h.size) (fun e=>by have:=hS k e;omega)).trans (h.block k hk hne)⟩
theorem newW_ok:WInv ⟨[],0,true,clisNew 3,[]⟩:=
 ⟨fun e h=>by simp at h,by simp,by simp,by simp,by simp [clisNew],by decide,by simp,fun m h=>by simp at h⟩
def PlayP (r p:Nat) (w:World) (x:Ending) (w':World):Prop:=∃ (ev v:Value) (wd:Wd) (p':Nat),x=.returned (.tuple #[ev,v])∧WInv wd∧WVc w' w.heap.size wd v∧p≤p'∧p'≤p+3000∧Rdr w' r p'∧w.grownBy w' (some r)
set_option maxRecDepth 100000 in
set_option maxHeartbeats 4000000 in
theorem play_d (r p:Nat) (w:World) (h:Rdr w r p) (hp:p<990000000) :
  Calls Tryz.prog 115 #[.pointer (some ⟨r,0,none⟩)] w (PlayP r p w):=by
 have hrl:=h.lt
 have hE1:Ext w (w.alloc oW0):=(Below.refl _ _).alloc (Nat.le_refl _) _
 have HZ0:=Lib.hid (World.alloc_heap_new w oW0);have HE0:=Lib.hid hE1;have HR0:=Lib.hid (h.ext hE1)
 have hz1:=alloc_sz w oW0
 clear hE1 h
 go_enter Tryz.func115,Tryz.ntmps115
 go_wp2_with fail
 generalize (w.alloc oW0)=W0 at *
 refine (worldNew_s W0).mono ?_
 rintro x w1 ⟨v1,rfl,⟨L,ln,C,cc,N,nc,xs,ys,rfl,hp1⟩,hb1⟩
 have hs1:=hb1.size
 dsimp only [List.length_nil]
 have hE2:Ext w1 (w1.alloc (.cells #[.slice L 0 ln,.int .i64 0,.bool true,.slice C xs.length cc,.slice N ys.length nc] 62)):=(Below.refl _ _).alloc (Nat.le_refl _) _
 have hx2:=World.alloc_heap_new w1 (.cells #[.slice L 0 ln,.int .i64 0,.bool true,.slice C xs.length cc,.slice N ys.length nc] 62)
 have hz2:=alloc_sz w1 (.cells #[.slice L 0 ln,.int .i64 0,.bool true,.slice C xs.length cc,.slice N ys.length nc] 62)
 have HZ2:=Lib.hid ((hE2.block _ (blk_lt ((hb1.block _ (blk_lt HZ0.out)).trans HZ0.out))).trans ((hb1.block _ (blk_lt HZ0.out)).trans HZ0.out))
 have HX2:=Lib.hid hx2
 have HP2:=Lib.hid ((hp1.ext hE2).lower (base':=w.heap.size) (by omega))
 have hE02:Ext w (w1.alloc (.cells #[.slice L 0 ln,.int .i64 0,.bool true,.slice C xs.length cc,.slice N ys.length nc] 62)):=(HE0.out.trans (hb1.mono (by omega))).trans (hE2.mono (by omega))
 have HE2:=Lib.hid hE02;have HR2:=Lib.hid ((HR0.out.ext hb1).ext hE2)
 clear hE2 hx2 hp1 hE02 hb1
 go_wp2_with fail
 generalize (w1.alloc (.cells #[.slice L 0 ln,.int .i64 0,.bool true,.slice C xs.length cc,.slice N ys.length nc] 62))=W2 at *
 have hE3:Ext W2 (W2.alloc (.cells #[] 201)):=(Below.refl _ _).alloc (Nat.le_refl _) _
 refine (pick_c r p 46 _ (HR2.out.ext hE3) (by omega) ⟨by omega,by omega⟩).mono ?_
 rintro r9 w3 ⟨v,rfl,hv0,hv1,-,hR3,hg3⟩
 have hvb:=hv1 (by omega)
 obtain ⟨t0,rfl⟩:∃ t:Nat,v=t:=⟨v.toNat,by omega⟩
 have hos:=own_made (e:=201) (α:=Ev) W2 w.heap.size (by omega)
 have HO3:=Lib.hid (hos.grown hg3 (.inr (by simp only [Value.ownBlock,ne_eq,Option.some.injEq];omega)))
 have hk3:KeepT (W2.alloc (.cells #[] 201)) w3:=by
  obtain ⟨A,c,bs,hbk,-⟩:=HR2.out.ext hE3
  exact KeepT.grown hg3 hbk (by decide) (by decide) (by decide) (by decide)
 have HP3:=Lib.hid ((HP2.out.ext hE3).keep hk3)
 have HX3:=Lib.hid ((hg3.block _ (blk_lt ((hE3.block _ (blk_lt HX2.out)).trans HX2.out)) (fun e=>by injection e with e;omega)).trans ((hE3.block _ (blk_lt HX2.out)).trans HX2.out))
 have HZ3:=Lib.hid ((hg3.block _ (blk_lt ((hE3.block _ (blk_lt HZ2.out)).trans HZ2.out)) (fun e=>by injection e with e;omega)).trans ((hE3.block _ (blk_lt HZ2.out)).trans HZ2.out))
 have HG3:=Lib.hid (gtrans (gext (HE2.out.trans (hE3.mono (by omega)))) hg3)
 have HR3:=Lib.hid hR3
 clear hos hk3 hR3 hg3 hE3 hv1
 go_wp2_with fail
 go_loopg [5,6] t0 (fun gk ev i wr=>∃ (t q:Nat) (es:List Ev) (E:Option Addr) (ec:Nat) (wk:Wd) (L:Option Addr) (ln:Nat) (C:Option Addr) (cc:Nat) (N:Option Addr) (nc:Nat) (xs:List RC) (ys:List RL),t≤45∧Hid (gk=t)∧i=.int .i64 t∧ev=.slice E es.length ec∧Hid (Own 201 wr w.heap.size (.slice E es.length ec) es)∧es.length+t≤45∧p≤q∧q+60*t≤p+2800∧Hid (Rdr wr r q)∧Hid (WInv wk)∧Hid (wr.heap[w1.heap.size]?=some (.cells (cW wk L ln C xs cc N ys nc) 62 (0,0)))∧Hid (wr.heap[w.heap.size]?=some (.cells cW0 62 (0,0)))∧Hid (WP wr w.heap.size wk L ln C cc N nc xs ys)∧Hid (w.grownBy wr (some r)))
 case atStart=>exact ⟨t0,p+1,[],some ⟨w1.heap.size+1,0,none⟩,0,⟨[],0,true,clisNew 3,[]⟩,L,ln,C,cc,N,nc,xs,ys,by omega,rfl,rfl,rfl,by have h:=HO3.out;rw [hz2] at h;exact h,by simp;omega,by omega,by omega,HR3.out,newW_ok,HX3.out,HZ3.out,HP3.out,HG3.out⟩
 case round=>
  obtain ⟨t,q,es,E,ec,wk,L,ln,C,cc,N,nc,xs,ys,ht,HGK,rfl,rfl,HO,hel,hq1,hq2,HR,HI,HB,HZ,HP,HG⟩:=hrel
  have hgs:=HG.out.size
  have hs1b:=blk_lt HB.out;have hs0b:=blk_lt HZ.out
  obtain ⟨b0,b1,b2,b3,b4,bf⟩:=five_cells HB.out
  by_cases hlt:0<t
  ·have hti:(0:Int)<t:=by omega
   have HC:=Lib.hid (event_d r q wk w.heap.size L ln C cc N nc xs ys wr HR.out (by omega) HP.out HI.out hrl)
   go_wp2_with fail
   refine HC.out.mono ?_
   rintro r9 w5 ⟨e,q',rfl,hev,hq3,hq4,hR5,hg5⟩
   have hk5:KeepT wr w5:=by
    obtain ⟨A,c,bs,hbk,-⟩:=HR.out
    exact KeepT.grown hg5 hbk (by decide) (by decide) (by decide) (by decide)
   have hb5:=(hg5.block _ hs1b (fun e=>by injection e with e;omega)).trans HB.out
   have hzz5:=(hg5.block _ hs0b (fun e=>by injection e with e;omega)).trans HZ.out
   have ho5:=HO.out.grown hg5 (.inr (fun e=>by have:=(HO.out.blk r e).1;omega))
   have hp5:=HP.out.keep hk5
   have hG5:=gtrans HG.out hg5
   have hE6:Ext w5 (w5.alloc (.cells #[.int .i64 e.kind,.int .i64 e.who,.int .i64 e.n,.int .i64 e.op.kind,.int .i64 e.op.id,.int .i64 e.op.up,.int .i64 e.op.pos,.string e.op.text] 201)):=(Below.refl _ _).alloc (Nat.le_refl _) _
   have hx6:=World.alloc_heap_new w5 (.cells #[.int .i64 e.kind,.int .i64 e.who,.int .i64 e.n,.int .i64 e.op.kind,.int .i64 e.op.id,.int .i64 e.op.up,.int .i64 e.op.pos,.string e.op.text] 201)
   have hz6:=alloc_sz w5 (.cells #[.int .i64 e.kind,.int .i64 e.who,.int .i64 e.n,.int .i64 e.op.kind,.int .i64 e.op.id,.int .i64 e.op.up,.int .i64 e.op.pos,.string e.op.text] 201)
   have hs5:=hG5.size
   obtain ⟨v8,w8,hrun,ho8,hg8⟩:=app_one el_ev (ho5.below hE6) e hev.2 (by omega) (by omega) #[.int .i64 e.kind,.int .i64 e.who,.int .i64 e.n,.int .i64 e.op.kind,.int .i64 e.op.id,.int .i64 e.op.up,.int .i64 e.op.pos,.string e.op.text] rfl
   rw [hz6] at hrun
   obtain ⟨E8,e8,hv8,-⟩:=ho8.rd
   rw [List.length_append,List.length_singleton] at hv8
   subst hv8
   have hE7:Ext w5 ((w5.alloc (.cells #[.int .i64 e.kind,.int .i64 e.who,.int .i64 e.n,.int .i64 e.op.kind,.int .i64 e.op.id,.int .i64 e.op.up,.int .i64 e.op.pos,.string e.op.text] 201)).alloc (.cells #[.int .i64 e.kind,.int .i64 e.who,.int .i64 e.n,.int .i64 e.op.kind,.int .i64 e.op.id,.int .i64 e.op.up,.int .i64 e.op.pos,.string e.op.text] 201)):=hE6.alloc hE6.size _
   have ho7:=ho5.below hE7
   have hk8:KeepT w5 w8:=(KeepT.ext hE7).trans (keepT_own ho7 hg8 (by decide) (by decide) (by decide) (by decide))
   have hb8:=box_grown ((hE7.block _ (blk_lt hb5)).trans hb5) hg8 ho7 (by decide)
   have hzz8:=box_grown ((hE7.block _ (blk_lt hzz5)).trans hzz5) hg8 ho7 (by decide)
   have hx8:w8.heap[w5.heap.size]?=some (.cells #[.int .i64 e.kind,.int .i64 e.who,.int .i64 e.n,.int .i64 e.op.kind,.int .i64 e.op.id,.int .i64 e.op.up,.int .i64 e.op.pos,.string e.op.text] 201 (0,0)):=by
    have h9:((w5.alloc (.cells #[.int .i64 e.kind,.int .i64 e.who,.int .i64 e.n,.int .i64 e.op.kind,.int .i64 e.op.id,.int .i64 e.op.up,.int .i64 e.op.pos,.string e.op.text] 201)).alloc (.cells #[.int .i64 e.kind,.int .i64 e.who,.int .i64 e.n,.int .i64 e.op.kind,.int .i64 e.op.id,.int .i64 e.op.up,.int .i64 e.op.pos,.string e.op.text] 201)).heap[w5.heap.size]?=some (.cells #[.int .i64 e.kind,.int .i64 e.who,.int .i64 e.n,.int .i64 e.op.kind,.int .i64 e.op.id,.int .i64 e.op.up,.int .i64 e.op.pos,.string e.op.text] 201 (0,0)):=(Below.heap_alloc (w5.alloc (.cells #[.int .i64 e.kind,.int .i64 e.who,.int .i64 e.n,.int .i64 e.op.kind,.int .i64 e.op.id,.int .i64 e.op.up,.int .i64 e.op.pos,.string e.op.text] 201)) _ w5.heap.size (by omega)).trans hx6
    exact (hg8.block _ (by have:=alloc_sz (w5.alloc (.cells #[.int .i64 e.kind,.int .i64 e.who,.int .i64 e.n,.int .i64 e.op.kind,.int .i64 e.op.id,.int .i64 e.op.up,.int .i64 e.op.pos,.string e.op.text] 201)) (.cells #[.int .i64 e.kind,.int .i64 e.who,.int .i64 e.n,.int .i64 e.op.kind,.int .i64 e.op.id,.int .i64 e.op.up,.int .i64 e.op.pos,.string e.op.text] 201);omega) (fun e9=>by have:=(ho5.blk _ e9.symm).2;omega)).trans h9
   have hp8:=hp5.keep hk8
   have hR8:Rdr w8 r q':=(hR5.ext hE7).row hg8 (fun b hb=>by have:=(ho7.blk b hb).1;omega)
   have hG8:w.grownBy w8 (some r):=gmix (gtrans hG5 (gext hE7)) hg8 (fun b hb=>(ho7.blk b hb).1)
   have hsz8:=hG8.size
   have HC8:=Lib.hid (do22_s wk e w.heap.size L ln C cc N nc xs ys w8 hp8 hsz8 HI.out hev.1 hev.2)
   have HRUN:=Lib.hid hrun;have HB5:=Lib.hid hb5;have HB8:=Lib.hid hb8;have HZ8:=Lib.hid hzz8;have HX6:=Lib.hid hx6;have HX8:=Lib.hid hx8;have HP8:=Lib.hid hp8;have HR8:=Lib.hid hR8;have HG8:=Lib.hid hG8;have HO8:=Lib.hid ho8
   clear hk5 hb5 hzz5 ho5 hp5 hG5 hE6 hx6 hrun ho8 hg8 hE7 ho7 hk8 hb8 hzz8 hx8 hp8 hR8 hG8 hR5 hg5 HC b0 b1 b2 b3 b4 bf
   go_upto_region 7 with fail
   obtain ⟨z0,z1,z2,z3,z4,z5,z6,z7,zf⟩:=eight_cells HX6.out
   obtain ⟨y0,y1,y2,y3,y4,y5,y6,y7,yf⟩:=eight_cells HX8.out
   obtain ⟨b0,b1,b2,b3,b4,bf⟩:=five_cells HB8.out
   go_upto_region 8 with (at_builtin;refine wpList_append_run rfl _ _ _ rfl rfl rfl HRUN.out ?_)
   clear z0 z1 z2 z3 z4 z5 z6 z7 zf HRUN HX6 HB5
   go_wp2_with fail
   refine HC8.out.mono ?_
   rintro r9 w9 ⟨wk2,L2,ln2,C2,cc2,N2,nc2,xs2,ys2,rfl,hi9,hp9,hT9,hO9⟩
   clear b0 b1 b2 b3 b4 bf y0 y1 y2 y3 y4 y5 y6 y7 yf HC8
   have hb9:=HP8.out.box hT9 HB8.out (by decide) (by decide)
   have hzz9:=HP8.out.box hT9 HZ8.out (by decide) (by decide)
   have ho9:=HP8.out.ownT hT9 HO8.out (by decide) (by decide)
   have hR9:=HR8.out.turn hT9 (fun k hk=>by have:=(ownB_ty HP8.out hk).1;omega)
   have hG9:=gturn HG8.out hT9 (fun k hk=>(ownB_ty HP8.out hk).1)
   have hx:=put5_at (.slice L2 wk2.log.length ln2) (.int .i64 wk2.safe) (.bool wk2.up) (.slice C2 xs2.length cc2) (.slice N2 ys2.length nc2) hb9
   have hk:KeepT w9 (put5 w9 w1.heap.size (.slice L2 wk2.log.length ln2) (.int .i64 wk2.safe) (.bool wk2.up) (.slice C2 xs2.length cc2) (.slice N2 ys2.length nc2)):=KeepT.grown (gset (gset (gset (gset (gset_any _ _ _ _) _ _) _ _) _ _) _ _) hb9 (by decide) (by decide) (by decide) (by decide)
   have hg:w9.grownBy (put5 w9 w1.heap.size (.slice L2 wk2.log.length ln2) (.int .i64 wk2.safe) (.bool wk2.up) (.slice C2 xs2.length cc2) (.slice N2 ys2.length nc2)) (some w1.heap.size):=gset (gset (gset (gset (gset_any _ _ _ _) _ _) _ _) _ _) _ _
   have HX9:=Lib.hid hx
   have HZ9:=Lib.hid ((hg.block _ (blk_lt hzz9) (by intro e;injection e with e;omega)).trans hzz9)
   have HP9:=Lib.hid (hp9.keep hk)
   have HO9:=Lib.hid (ho9.keepB hg hb9 (by decide))
   have HR9:=Lib.hid (hR9.other hg (by omega))
   have HG9:=Lib.hid (gmix hG9 hg (fun b hb=>by injection hb with hb;omega))
   have HI9:=Lib.hid hi9
   obtain ⟨d0,d1,d2,d3,d4,df⟩:=five_cells hb9
   clear hb9 hzz9 ho9 hR9 hG9 hx hk hg hp9 hT9 hO9 hi9
   go_wp2_with fail
   have htc:(t:Int) - 1=((t - 1:Nat):Int):=by omega
   have hel2:(es++[e]).length=es.length+1:=by simp
   have HEL:=Lib.hid hel2
   clear hel2 d0 d1 d2 d3 d4 df
   go_roundg (t - 1)
   case measure=>have:=HGK.out;omega
   case rel=>exact ⟨t - 1,q',es++[e],E8,e8,wk2,L2,ln2,C2,cc2,N2,nc2,xs2,ys2,by omega,rfl,by rw [htc],by rw [HEL.out],by rw [HEL.out];exact HO9.out,by rw [HEL.out];omega,by omega,by omega,HR9.out,HI9.out,HX9.out,HZ9.out,HP9.out,HG9.out⟩
  ·have ht0:t=0:=by omega
   have hti:¬((0:Int)<t):=by omega
   have HC:=Lib.hid (copy22_s wk w.heap.size L ln C cc N nc xs ys wr HP.out HI.out)
   go_wp2_with fail
   refine HC.out.mono ?_
   rintro r9 w5 ⟨v5,rfl,⟨L2,ln2,C2,cc2,N2,nc2,xs2,ys2,rfl,hp5,hc5⟩,hb5⟩
   have hzz5:=(hb5.block _ hs0b).trans HZ.out
   have hz:=put5_at (.slice L2 wk.log.length ln2) (.int .i64 wk.safe) (.bool wk.up) (.slice C2 xs2.length cc2) (.slice N2 ys2.length nc2) hzz5
   have hk:KeepT w5 (put5 w5 w.heap.size (.slice L2 wk.log.length ln2) (.int .i64 wk.safe) (.bool wk.up) (.slice C2 xs2.length cc2) (.slice N2 ys2.length nc2)):=KeepT.grown (gset (gset (gset (gset (gset_any _ _ _ _) _ _) _ _) _ _) _ _) hzz5 (by decide) (by decide) (by decide) (by decide)
   have hg:w5.grownBy (put5 w5 w.heap.size (.slice L2 wk.log.length ln2) (.int .i64 wk.safe) (.bool wk.up) (.slice C2 xs2.length cc2) (.slice N2 ys2.length nc2)) (some w.heap.size):=gset (gset (gset (gset (gset_any _ _ _ _) _ _) _ _) _ _) _ _
   have HZ9:=Lib.hid hz
   have HP9:=Lib.hid ((hp5.lower hgs).keep hk)
   have HC9:=Lib.hid (hc5.imp (fun x c h=>(h.lower hgs).keep hk))
   have HR9:=Lib.hid ((HR.out.ext hb5).other hg hrl)
   have HG9:=Lib.hid (gmix (gtrans HG.out (gext hb5)) hg (fun b hb=>by injection hb with hb;omega))
   obtain ⟨d0,d1,d2,d3,d4,df⟩:=five_cells hzz5
   clear hzz5 hz hk hg hp5 hc5 hb5 HC b0 b1 b2 b3 b4 bf
   go_wp2_with fail
   obtain ⟨k0,k1,k2,k3,k4,kf⟩:=five_cells HZ9.out
   refine bodyPost_ret (v:=.tuple #[.slice E es.length ec,.agg (cW wk L2 ln2 C2 xs2 cc2 N2 ys2 nc2)]) ?_ rfl ?_
   ·simp [results,Tryz.f115,go_sem,k0,k1,k2,k3,k4]
   ·exact ⟨_,_,wk,q,rfl,HI.out,⟨L2,ln2,C2,cc2,N2,nc2,xs2,ys2,rfl,HP9.out,HC9.out⟩,hq1,by omega,HR9.out,HG9.out⟩
end Go.Proofs.YtecmcjfdaipfcaaGreatDoor
