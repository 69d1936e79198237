/- Walk of the draw of a world. -/
import Derived.Test.YtecmcjfdaipfcaaGreatDoorZAV
namespace Go.Proofs.YtecmcjfdaipfcaaGreatDoor
open Go.RowKit Go.Lib
set_option linter.unusedVariables false
set_option linter.unusedSimpArgs false
def CD (c:Client):Prop:=CW c∧c.wait.length≤1000∧c.base.length≤1000∧-100≤c.seen∧c.seen≤100
theorem isWho_of {x:Int} (h:isWho x=true):1≤x∧x≤3:=by unfold isWho at h;simpa using h
theorem CD.of {c:Client} (h:clientOk c=true):CD c:=by
 obtain ⟨hw9,hs0,hs40,htr,hd0,hd1,hwl,hm0,hm1,hwt⟩:=clientOk_parts h
 have hw:=isWho_of hw9
 refine ⟨⟨⟨⟨by omega,by omega⟩,⟨by omega,by omega⟩,⟨by omega,by omega⟩,⟨by omega,by omega⟩⟩,fun r hr=>?_,fun e he=>?_,by omega⟩,by omega,treeOk_len htr,by omega,by omega⟩
 ·have:=rowOk_id (treeOk_rows_ok htr r hr)
  exact ⟨by omega,by omega⟩
 ·exact opOk_w (waitOk_ent hwt e he)
theorem CD.seen {c:Client} (h:CD c) {v:Int} (hv:0≤v∧v≤100):CD { c with seen:=v }:=by
 obtain ⟨⟨⟨a1,a2,a3,a4⟩,a5,a6,a7⟩,b1,b2,b3,b4⟩:=h
 exact ⟨⟨⟨a1,⟨by show _≤v;omega,by show v≤_;omega⟩,a3,a4⟩,a5,a6,a7⟩,b1,b2,by show _≤v;omega,by show v≤_;omega⟩
theorem CD.made {c:Client} (h:CD c) {v:Int} (hv:0≤v∧v≤100):CD { c with made:=v }:=by
 obtain ⟨⟨⟨a1,a2,a3,a4⟩,a5,a6,a7⟩,b1,b2,b3,b4⟩:=h
 exact ⟨⟨⟨a1,a2,a3,⟨by show _≤v;omega,by show v≤_;omega⟩⟩,a5,a6,a7⟩,b1,b2,b3,b4⟩
structure Dw (W:World) (base:Nat) (log:List Entry) (L:Option Addr) (ln:Nat) (safe:Int) (C:Option Addr) (cc:Nat) (xs:List RC) (cls:List Client):Prop where
 flog:RdT 35 W L ln log
 flen:log.length≤40
 fops:∀ e∈log,OpW e.op
 fs0:-10≤safe
 fs1:safe≤100
 fcli:RdT 26 W C cc xs
 fpos:0<xs.length
 fthr:xs.length≤3
 fcls:All2 (RcO W base) xs cls
 fok:∀ c∈cls,CD c
theorem Dw.keep {W W':World} {base:Nat} {log:List Entry} {L:Option Addr} {ln:Nat} {safe:Int} {C:Option Addr} {cc:Nat} {xs:List RC} {cls:List Client} (h:Dw W base log L ln safe C cc xs cls) (hk:KeepT W W'):Dw W' base log L ln safe C cc xs cls:=
 ⟨h.flog.keep hk (.inr (.inl rfl)),h.flen,h.fops,h.fs0,h.fs1,h.fcli.keep hk (.inr (.inr (.inl rfl))),h.fpos,h.fthr,h.fcls.imp (fun x c h=>h.keep hk),h.fok⟩
theorem Dw.of {W:World} {base:Nat} {w:Wd} {L C N:Option Addr} {ln cc nc:Nat} {xs:List RC} {ys:List RL} (hw:WInv w) (h:WP W base w L ln C cc N nc xs ys) (hc:All2 (RcO W base) xs w.cls):Dw W base w.log L ln w.safe C cc xs w.cls:=
 ⟨h.log,hw.len,fun e he=>opOk_w (entryOk_op (hw.log e he)),by have:=hw.safe0;omega,by have:=hw.safe1;have:=hw.len;omega,h.cli.rdT,by have:=h.cls.1;have:=hw.three;omega,by have:=h.cls.1;have:=hw.three;omega,hc,fun c hc=>CD.of (hw.cls c hc)⟩
def WldP (r p:Nat) (w:World) (x:Ending) (w':World):Prop:=
 ∃ (log:List Entry) (L:Option Addr) (ln:Nat) (safe:Int) (up:Bool) (C:Option Addr) (cc:Nat) (xs:List RC) (cls:List Client) (N:Option Addr) (nl nc:Nat) (p':Nat),
  x=.returned (.agg #[.slice L log.length ln,.int .i64 safe,.bool up,.slice C xs.length cc,.slice N nl nc])∧Dw w' w.heap.size log L ln safe C cc xs cls∧p≤p'∧p'≤p+5000∧Rdr w' r p'∧w.grownBy w' (some r)
set_option maxRecDepth 100000 in
set_option maxHeartbeats 8000000 in
theorem world_d (r p:Nat) (w:World) (h:Rdr w r p) (hp:p<900000000) :
  Calls Tryz.prog 67 #[.pointer (some ⟨r,0,none⟩)] w (WldP r p w):=by
 have hrl:=h.lt
 have hE1:Ext w (w.alloc oW0):=(Below.refl _ _).alloc (Nat.le_refl _) _
 have HZ0:=Lib.hid (World.alloc_heap_new w oW0);have HE0:=Lib.hid hE1;have HR0:=Lib.hid (h.ext hE1)
 have hz1:=alloc_sz w oW0
 clear hE1 h
 go_enter Tryz.func67,Tryz.ntmps67
 go_wp2_with fail
 generalize (w.alloc oW0)=W0 at *
 refine (play_d r p W0 HR0.out (by omega)).mono ?_
 rintro x w1 ⟨ev,v1,wd,q,rfl,hwi,⟨L,ln,C,cc,N,nc,xs,ys,rfl,hp1,hc1⟩,hq1,hq2,hR1,hg1⟩
 have hs1:=hg1.size
 have hxl:xs.length=3:=by have:=hp1.cls.1;have:=hwi.three;omega
 obtain ⟨g,rfl⟩:=hp1.cli.at0w (by omega)
 have hgb:=(hp1.cli.blk g rfl).1
 have hgw:=(hp1.cli.blk g rfl).2
 have hE2:Ext w1 (w1.alloc (oW wd L ln (some ⟨g,0,none⟩) xs cc N ys nc)):=(Below.refl _ _).alloc (Nat.le_refl _) _
 have hz2:=alloc_sz w1 (oW wd L ln (some ⟨g,0,none⟩) xs cc N ys nc)
 have hb2:W0.heap.size=w.heap.size+1:=hz1
 have HB2:=Lib.hid (World.alloc_heap_new w1 (oW wd L ln (some ⟨g,0,none⟩) xs cc N ys nc))
 have HZ2:=Lib.hid ((hE2.block _ (blk_lt ((hg1.block _ (blk_lt HZ0.out) (fun e=>by injection e with e;omega)).trans HZ0.out))).trans ((hg1.block _ (blk_lt HZ0.out) (fun e=>by injection e with e;omega)).trans HZ0.out))
 have HP2:=Lib.hid ((hp1.ext hE2).lower (base':=w.heap.size) (by omega));have HC2:=Lib.hid (hc1.imp (fun x c h=>(h.ext hE2).lower (base':=w.heap.size) (by omega)))
 have HG2:=Lib.hid (gtrans (gext HE0.out:w.grownBy W0 (some r)) (gtrans hg1 (gext hE2)));have HR2:=Lib.hid (hR1.ext hE2)
 have HW:=Lib.hid hwi;have HXL:=Lib.hid hxl
 clear hE2 hp1 hc1 hg1 hR1 hwi hxl
 go_wp2_with fail
 generalize (w1.alloc (oW wd L ln (some ⟨g,0,none⟩) xs cc N ys nc))=w2 at *
 refine (pick_c r q 3 _ HR2.out (by omega) ⟨by omega,by omega⟩).mono ?_
 rintro r9 w3 ⟨v3,rfl,hv0,hv1,-,hR,hg⟩
 have hvb3:=hv1 (by omega)
 obtain ⟨kk,rfl⟩:∃ k:Nat,v3=k:=⟨v3.toNat,by omega⟩
 clear hv1 hv0
 have hk3:KeepT w2 w3:=by
  obtain ⟨A,c,bs,hbk,-⟩:=HR2.out
  exact KeepT.grown hg hbk (by decide) (by decide) (by decide) (by decide)
 have HB3:=Lib.hid ((hg.block _ (blk_lt HB2.out) (fun e=>by injection e with e;omega)).trans HB2.out)
 have HZ3:=Lib.hid ((hg.block _ (blk_lt HZ2.out) (fun e=>by injection e with e;omega)).trans HZ2.out)
 have HP3:=Lib.hid (HP2.out.keep hk3);have HC3:=Lib.hid (HC2.out.imp (fun x c h=>h.keep hk3))
 have HG3:=Lib.hid (gtrans HG2.out hg);have HR3:=Lib.hid hR
 clear hk3 hg hR
 go_wp2_with fail
 refine (pick_c r (q+1) 40 _ HR3.out (by omega) ⟨by omega,by omega⟩).mono ?_
 rintro r9 w4 ⟨v,rfl,hv0,hv1,-,hR,hg⟩
 have hvb:=hv1 (by omega)
 clear hv1
 have hk4:KeepT w3 w4:=by
  obtain ⟨A,c,bs,hbk,-⟩:=HR3.out
  exact KeepT.grown hg hbk (by decide) (by decide) (by decide) (by decide)
 have HB4:=Lib.hid ((hg.block _ (blk_lt HB3.out) (fun e=>by injection e with e;omega)).trans HB3.out)
 have HZ4:=Lib.hid ((hg.block _ (blk_lt HZ3.out) (fun e=>by injection e with e;omega)).trans HZ3.out)
 have HP4:=Lib.hid (HP3.out.keep hk4);have HC4:=Lib.hid (HC3.out.imp (fun x c h=>h.keep hk4))
 have HG4:=Lib.hid (gtrans HG3.out hg);have HR4:=Lib.hid hR
 clear hk4 hg hR
 clear HB2 HZ2 HP2 HC2 HG2 HR2 HB3 HZ3 HP3 HC3 HG3 HR3 HZ0 HE0 HR0
 have hkx:kk<xs.length:=by have:=HXL.out;omega
 have hkc:kk<wd.cls.length:=by have:=HW.out.three;omega
 obtain ⟨qa,hqa⟩:∃ qa,qa=q+1+1:=⟨_,rfl⟩
 rw [←hqa] at HR4
 by_cases h1:v=1
 ·subst h1
  have hEd:Ext w4 w4.drew:=(Below.refl _ _).drew
  obtain ⟨w5,hw5⟩:∃ W,W=w4.drew:=⟨_,rfl⟩
  have HB5:Hid (w5.heap[w1.heap.size]?=some (.cells (cW wd L ln (some ⟨g,0,none⟩) xs cc N ys nc) 62 (0,0))):=by rw [hw5];exact HB4.out
  have HZ5:Hid (w5.heap[w.heap.size]?=some (.cells cW0 62 (0,0))):=by rw [hw5];exact HZ4.out
  have HP5:Hid (WP w5 w.heap.size wd L ln (some ⟨g,0,none⟩) cc N nc xs ys):=by rw [hw5];exact HP4.out.ext hEd
  have HC5:Hid (All2 (RcO w5 w.heap.size) xs wd.cls):=by rw [hw5];exact HC4.out.imp (fun x c h=>h.ext hEd)
  have HG5:Hid (w.grownBy w5 (some r)):=by rw [hw5];exact gtrans HG4.out (gext hEd)
  have HR5:Hid (Rdr w5 r qa):=by rw [hw5];exact HR4.out.ext hEd
  have HS:Hid (w5.cell? ⟨w1.heap.size,3,none⟩=some (.slice (some ⟨g,0,none⟩) xs.length cc)):=Lib.hid (five_cells HB5.out).2.2.2.1
  go_upto_region 7 with fail
  refine wp_region_B (fun w'=>w'.cell? ⟨w1.heap.size,3,none⟩=some (.slice (some ⟨g,0,none⟩) xs.length cc)) 7 (by kernel_rfl) ?_
  rw [←hw5]
  clear hw5
  refine WB.take (i:=0) (v:=?_) rfl (by kernel_rfl) (by kernel_rfl) (by kernel_rfl) (by kernel_rfl) (fun _ _ _ h=>h) HS.out (Or.inl ⟨by rfl,?_⟩) ?_
  rotate_left
  ·(rintro w s0;go_simp;try with_reducible rfl)
  try simp only [Act.put,List.setIfInBounds_toArray,List.set_cons_zero,List.set_cons_succ]
  refine WB.take (i:=1) (v:=?_) rfl (by kernel_rfl) (by kernel_rfl) (by kernel_rfl) (by kernel_rfl) (fun _ _ _ h=>h) HS.out (Or.inl ⟨by rfl,?_⟩) ?_
  rotate_left
  ·(rintro w s0;go_simp;try with_reducible rfl)
  try simp only [Act.put,List.setIfInBounds_toArray,List.set_cons_zero,List.set_cons_succ]
  refine WB.take (i:=2) (v:=?_) rfl (by kernel_rfl) (by kernel_rfl) (by kernel_rfl) (by kernel_rfl) (fun _ _ _ h=>h) HS.out (Or.inl ⟨by rfl,?_⟩) ?_
  rotate_left
  ·(rintro w s0;go_simp;try with_reducible rfl)
  try simp only [Act.put,List.setIfInBounds_toArray,List.set_cons_zero,List.set_cons_succ]
  refine WB.take (i:=3) (v:=?_) rfl (by kernel_rfl) (by kernel_rfl) (by kernel_rfl) (by kernel_rfl) (fun _ _ _ h=>h) HS.out (Or.inl ⟨by rfl,?_⟩) ?_
  rotate_left
  ·(rintro w s0;go_simp;try with_reducible rfl)
  try simp only [Act.put,List.setIfInBounds_toArray,List.set_cons_zero,List.set_cons_succ]
  refine WB.one (i:=4) (by kernel_rfl) rfl (fun K hK=>?_)
  have HKK:=Lib.hid hK
  clear hK
  go_simp
  refine (pick_c r qa 5 _ HR5.out (by omega) ⟨by omega,by omega⟩).mono ?_
  rintro r9 w6 ⟨v6,rfl,hv0,hv1,-,hR,hg⟩
  have hvb6:=hv1 (by omega)
  have hva6:=hv0
  clear hv1 hv0
  have hk6:KeepT w5 w6:=by
   obtain ⟨A,c,bs,hbk,-⟩:=HR5.out
   exact KeepT.grown hg hbk (by decide) (by decide) (by decide) (by decide)
  have HB6:=Lib.hid ((hg.block _ (blk_lt HB5.out) (fun e=>by injection e with e;omega)).trans HB5.out)
  have HZ6:=Lib.hid ((hg.block _ (blk_lt HZ5.out) (fun e=>by injection e with e;omega)).trans HZ5.out)
  have HP6:=Lib.hid (HP5.out.keep hk6);have HC6:=Lib.hid (HC5.out.imp (fun x c h=>h.keep hk6))
  have HG6:=Lib.hid (gtrans HG5.out hg);have HR6:=Lib.hid hR
  clear hk6 hg hR
  have HS6:Hid (w6.cell? ⟨w1.heap.size,3,none⟩=some (.slice (some ⟨g,0,none⟩) xs.length cc)):=Lib.hid (five_cells HB6.out).2.2.2.1
  refine HKK.out _ _ ⟨fun _=>HS6.out,?_⟩
  clear HKK K HS
  try simp only [Act.put,List.setIfInBounds_toArray,List.set_cons_zero,List.set_cons_succ]
  have hki:(kk:Int)<xs.length:=by omega
  refine WB.takeP (i:=5) (v:=?_) rfl (by kernel_rfl) (by kernel_rfl) (by kernel_rfl) (by kernel_rfl) (fun _ _ _ h=>h) HS6.out (Or.inl ⟨by rfl,?_⟩) ?_
  rotate_left
  ·(rintro w -;go_simp;try with_reducible rfl)
  try simp only [Act.put,List.setIfInBounds_toArray,List.set_cons_zero,List.set_cons_succ]
  refine WB.takeP (i:=6) (v:=?_) rfl (by kernel_rfl) (by kernel_rfl) (by kernel_rfl) (by kernel_rfl) (fun _ _ _ h=>h) HS6.out (Or.inl ⟨by rfl,?_⟩) ?_
  rotate_left
  ·(rintro w -;go_simp;try with_reducible rfl)
  try simp only [Act.put,List.setIfInBounds_toArray,List.set_cons_zero,List.set_cons_succ]
  have hst:=HP6.out.cli.store kk hkx ⟨xs[kk].who,v6,xs[kk].b,xs[kk].bl,xs[kk].bn,xs[kk].q,xs[kk].ql,xs[kk].qn,xs[kk].done,xs[kk].made⟩ trivial 1 (.int .i64 v6) (by decide) rfl
  have hzx:=(hst.2.block _ (blk_lt HZ6.out) (by intro e;injection e with e;omega)).trans HZ6.out
  have hbx:=(hst.2.block _ (blk_lt HB6.out) (by intro e;injection e with e;omega)).trans HB6.out
  have hgt:=HP6.out.cli.ty g rfl
  have hgc:∃ cs m,w6.heap[g]?=some (.cells cs 26 m):=hgt
  have hfz:=HP6.out.cli.frzw
  have hcell:∃ u,w6.cell? ⟨g,kk*6+1,none⟩=some u:=by
   obtain ⟨xb,xo,he9,hbx9,x0,x1,x2,x3,x4,x5⟩:=rc_at HP6.out.cli.rdT.1 kk hkx
   injection he9 with he9;injection he9 with he91 he92;subst he91;subst he92
   simp only [Nat.zero_add] at x0 x1 x2 x3 x4 x5
   exact ⟨_,x1⟩
  have HD:Hid (Dw (w6.setCell ⟨g,kk*6+1,none⟩ (.int .i64 v6)) w.heap.size wd.log L ln wd.safe (some ⟨g,0,none⟩) cc (xs.set kk ⟨xs[kk].who,v6,xs[kk].b,xs[kk].bl,xs[kk].bn,xs[kk].q,xs[kk].ql,xs[kk].qn,xs[kk].done,xs[kk].made⟩) (wd.cls.set kk { wd.cls[kk] with seen:=v6 })):=by
   obtain ⟨cs,m,hgc⟩:=hgc
   have hd:=Dw.of HW.out HP6.out HC6.out
   have hgr:Turn (fun k=>k=g) w6 (w6.setCell ⟨g,kk*6+1,none⟩ (.int .i64 v6)):=Turn.grown hst.2 (fun k hk=>by injection hk with hk;exact hk.symm)
   refine ⟨hd.flog.set hgc (by decide) _ _,hd.flen,hd.fops,hd.fs0,hd.fs1,hst.1.rdT,by rw [List.length_set];exact hd.fpos,by rw [List.length_set];exact hd.fthr,?_,?_⟩
   ·refine (hd.fcls.imp (fun x c h=>h.set hgc (by decide) (by decide) _ _)).set kk ?_
    obtain ⟨b,bn,qq,qn,he,r1,r2⟩:=HC6.out.2 kk hkx hkc
    rw [he]
    exact ⟨b,bn,qq,qn,rfl,own_put r1 hgc (by decide) _ _,own_put r2 hgc (by decide) _ _⟩
   ·intro c hc
    rcases List.mem_or_eq_of_mem_set hc with h1 | h1
    ·exact hd.fok c h1
    ·rw [h1]
     exact (hd.fok _ (List.getElem_mem hkc)).seen ⟨by omega,by omega⟩
  have HZX:=Lib.hid hzx;have HBX:=Lib.hid hbx
  have HG7:=Lib.hid (gmix HG6.out hst.2 (fun b hb=>by injection hb with hb;omega))
  have HR7:=Lib.hid (HR6.out.other hst.2 (by omega))
  refine Exists.elim hcell ?_
  intro u hu
  clear hst hzx hbx hgt hgc hcell
  refine WB.one (i:=7) (by kernel_rfl) rfl (fun K hK=>?_)
  have HKK:=Lib.hid hK
  clear hK
  go_simp
  refine HKK.out _ _ ⟨fun h=>(no_late h (by kernel_rfl)).elim,?_⟩
  clear HKK K HS6 hu hfz hEd
  refine WB.done (by kernel_rfl) ?_
  have hxl:(xs.set kk ⟨xs[kk].who,v6,xs[kk].b,xs[kk].bl,xs[kk].bn,xs[kk].q,xs[kk].ql,xs[kk].qn,xs[kk].done,xs[kk].made⟩).length=xs.length:=List.length_set
  generalize (w6.setCell ⟨g,kk*6+1,none⟩ (.int .i64 v6))=W7 at *
  have HXL9:=Lib.hid hxl
  clear hxl
  have hz:=put5_at (.slice L wd.log.length ln) (.int .i64 wd.safe) (.bool wd.up) (.slice (some ⟨g,0,none⟩) xs.length cc) (.slice N ys.length nc) HZX.out
  have hk:KeepT W7 (put5 W7 w.heap.size (.slice L wd.log.length ln) (.int .i64 wd.safe) (.bool wd.up) (.slice (some ⟨g,0,none⟩) xs.length cc) (.slice N ys.length nc)):=KeepT.grown (gset (gset (gset (gset (gset_any _ _ _ _) _ _) _ _) _ _) _ _) HZX.out (by decide) (by decide) (by decide) (by decide)
  have hg:W7.grownBy (put5 W7 w.heap.size (.slice L wd.log.length ln) (.int .i64 wd.safe) (.bool wd.up) (.slice (some ⟨g,0,none⟩) xs.length cc) (.slice N ys.length nc)) (some w.heap.size):=gset (gset (gset (gset (gset_any _ _ _ _) _ _) _ _) _ _) _ _
  have HZ9:=Lib.hid hz
  have HD9:=Lib.hid (Dw.keep HD.out hk)
  have HR9:=Lib.hid ((HR7.out).other hg hrl)
  have HG9:=Lib.hid (gmix HG7.out hg (fun b hb=>by injection hb with hb;omega))
  obtain ⟨b0,b1,b2,b3,b4,bf⟩:=five_cells HBX.out
  obtain ⟨d0,d1,d2,d3,d4,df⟩:=five_cells HZX.out
  clear hz hk hg
  go_wp2_with fail
  obtain ⟨k0,k1,k2,k3,k4,kf⟩:=five_cells HZ9.out
  refine bodyPost_ret (v:=.agg (cW wd L ln (some ⟨g,0,none⟩) xs cc N ys nc)) ?_ rfl ?_
  ·simp [results,Tryz.f67,go_sem,k0,k1,k2,k3,k4]
  ·exact ⟨_,_,_,_,_,_,_,_,_,_,_,_,(qa+1),by rw [List.length_set],HD9.out,by omega,by omega,HR9.out,HG9.out⟩
 by_cases h2:v=2
 ·subst h2
  have hEd:Ext w4 w4.drew:=(Below.refl _ _).drew
  obtain ⟨w5,hw5⟩:∃ W,W=w4.drew:=⟨_,rfl⟩
  have HB5:Hid (w5.heap[w1.heap.size]?=some (.cells (cW wd L ln (some ⟨g,0,none⟩) xs cc N ys nc) 62 (0,0))):=by rw [hw5];exact HB4.out
  have HZ5:Hid (w5.heap[w.heap.size]?=some (.cells cW0 62 (0,0))):=by rw [hw5];exact HZ4.out
  have HP5:Hid (WP w5 w.heap.size wd L ln (some ⟨g,0,none⟩) cc N nc xs ys):=by rw [hw5];exact HP4.out.ext hEd
  have HC5:Hid (All2 (RcO w5 w.heap.size) xs wd.cls):=by rw [hw5];exact HC4.out.imp (fun x c h=>h.ext hEd)
  have HG5:Hid (w.grownBy w5 (some r)):=by rw [hw5];exact gtrans HG4.out (gext hEd)
  have HR5:Hid (Rdr w5 r qa):=by rw [hw5];exact HR4.out.ext hEd
  have HS:Hid (w5.cell? ⟨w1.heap.size,3,none⟩=some (.slice (some ⟨g,0,none⟩) xs.length cc)):=Lib.hid (five_cells HB5.out).2.2.2.1
  go_upto_region 9 with fail
  refine wp_region_B (fun w'=>w'.cell? ⟨w1.heap.size,3,none⟩=some (.slice (some ⟨g,0,none⟩) xs.length cc)) 7 (by kernel_rfl) ?_
  rw [←hw5]
  clear hw5
  refine WB.take (i:=0) (v:=?_) rfl (by kernel_rfl) (by kernel_rfl) (by kernel_rfl) (by kernel_rfl) (fun _ _ _ h=>h) HS.out (Or.inl ⟨by rfl,?_⟩) ?_
  rotate_left
  ·(rintro w s0;go_simp;try with_reducible rfl)
  try simp only [Act.put,List.setIfInBounds_toArray,List.set_cons_zero,List.set_cons_succ]
  refine WB.take (i:=1) (v:=?_) rfl (by kernel_rfl) (by kernel_rfl) (by kernel_rfl) (by kernel_rfl) (fun _ _ _ h=>h) HS.out (Or.inl ⟨by rfl,?_⟩) ?_
  rotate_left
  ·(rintro w s0;go_simp;try with_reducible rfl)
  try simp only [Act.put,List.setIfInBounds_toArray,List.set_cons_zero,List.set_cons_succ]
  refine WB.take (i:=2) (v:=?_) rfl (by kernel_rfl) (by kernel_rfl) (by kernel_rfl) (by kernel_rfl) (fun _ _ _ h=>h) HS.out (Or.inl ⟨by rfl,?_⟩) ?_
  rotate_left
  ·(rintro w s0;go_simp;try with_reducible rfl)
  try simp only [Act.put,List.setIfInBounds_toArray,List.set_cons_zero,List.set_cons_succ]
  refine WB.take (i:=3) (v:=?_) rfl (by kernel_rfl) (by kernel_rfl) (by kernel_rfl) (by kernel_rfl) (fun _ _ _ h=>h) HS.out (Or.inl ⟨by rfl,?_⟩) ?_
  rotate_left
  ·(rintro w s0;go_simp;try with_reducible rfl)
  try simp only [Act.put,List.setIfInBounds_toArray,List.set_cons_zero,List.set_cons_succ]
  refine WB.one (i:=4) (by kernel_rfl) rfl (fun K hK=>?_)
  have HKK:=Lib.hid hK
  clear hK
  go_simp
  refine (pick_c r qa 8 _ HR5.out (by omega) ⟨by omega,by omega⟩).mono ?_
  rintro r9 w6 ⟨v6,rfl,hv0,hv1,-,hR,hg⟩
  have hvb6:=hv1 (by omega)
  have hva6:=hv0
  clear hv1 hv0
  have hk6:KeepT w5 w6:=by
   obtain ⟨A,c,bs,hbk,-⟩:=HR5.out
   exact KeepT.grown hg hbk (by decide) (by decide) (by decide) (by decide)
  have HB6:=Lib.hid ((hg.block _ (blk_lt HB5.out) (fun e=>by injection e with e;omega)).trans HB5.out)
  have HZ6:=Lib.hid ((hg.block _ (blk_lt HZ5.out) (fun e=>by injection e with e;omega)).trans HZ5.out)
  have HP6:=Lib.hid (HP5.out.keep hk6);have HC6:=Lib.hid (HC5.out.imp (fun x c h=>h.keep hk6))
  have HG6:=Lib.hid (gtrans HG5.out hg);have HR6:=Lib.hid hR
  clear hk6 hg hR
  have HS6:Hid (w6.cell? ⟨w1.heap.size,3,none⟩=some (.slice (some ⟨g,0,none⟩) xs.length cc)):=Lib.hid (five_cells HB6.out).2.2.2.1
  refine HKK.out _ _ ⟨fun _=>HS6.out,?_⟩
  clear HKK K HS
  try simp only [Act.put,List.setIfInBounds_toArray,List.set_cons_zero,List.set_cons_succ]
  have hki:(kk:Int)<xs.length:=by omega
  refine WB.takeP (i:=5) (v:=?_) rfl (by kernel_rfl) (by kernel_rfl) (by kernel_rfl) (by kernel_rfl) (fun _ _ _ h=>h) HS6.out (Or.inl ⟨by rfl,?_⟩) ?_
  rotate_left
  ·(rintro w -;go_simp;try with_reducible rfl)
  try simp only [Act.put,List.setIfInBounds_toArray,List.set_cons_zero,List.set_cons_succ]
  refine WB.takeP (i:=6) (v:=?_) rfl (by kernel_rfl) (by kernel_rfl) (by kernel_rfl) (by kernel_rfl) (fun _ _ _ h=>h) HS6.out (Or.inl ⟨by rfl,?_⟩) ?_
  rotate_left
  ·(rintro w -;go_simp;try with_reducible rfl)
  try simp only [Act.put,List.setIfInBounds_toArray,List.set_cons_zero,List.set_cons_succ]
  have hst:=HP6.out.cli.store kk hkx ⟨xs[kk].who,xs[kk].seen,xs[kk].b,xs[kk].bl,xs[kk].bn,xs[kk].q,xs[kk].ql,xs[kk].qn,xs[kk].done,v6⟩ trivial 5 (.int .i64 v6) (by decide) rfl
  have hzx:=(hst.2.block _ (blk_lt HZ6.out) (by intro e;injection e with e;omega)).trans HZ6.out
  have hbx:=(hst.2.block _ (blk_lt HB6.out) (by intro e;injection e with e;omega)).trans HB6.out
  have hgt:=HP6.out.cli.ty g rfl
  have hgc:∃ cs m,w6.heap[g]?=some (.cells cs 26 m):=hgt
  have hfz:=HP6.out.cli.frzw
  have hcell:∃ u,w6.cell? ⟨g,kk*6+5,none⟩=some u:=by
   obtain ⟨xb,xo,he9,hbx9,x0,x1,x2,x3,x4,x5⟩:=rc_at HP6.out.cli.rdT.1 kk hkx
   injection he9 with he9;injection he9 with he91 he92;subst he91;subst he92
   simp only [Nat.zero_add] at x0 x1 x2 x3 x4 x5
   exact ⟨_,x5⟩
  have HD:Hid (Dw (w6.setCell ⟨g,kk*6+5,none⟩ (.int .i64 v6)) w.heap.size wd.log L ln wd.safe (some ⟨g,0,none⟩) cc (xs.set kk ⟨xs[kk].who,xs[kk].seen,xs[kk].b,xs[kk].bl,xs[kk].bn,xs[kk].q,xs[kk].ql,xs[kk].qn,xs[kk].done,v6⟩) (wd.cls.set kk { wd.cls[kk] with made:=v6 })):=by
   obtain ⟨cs,m,hgc⟩:=hgc
   have hd:=Dw.of HW.out HP6.out HC6.out
   have hgr:Turn (fun k=>k=g) w6 (w6.setCell ⟨g,kk*6+5,none⟩ (.int .i64 v6)):=Turn.grown hst.2 (fun k hk=>by injection hk with hk;exact hk.symm)
   refine ⟨hd.flog.set hgc (by decide) _ _,hd.flen,hd.fops,hd.fs0,hd.fs1,hst.1.rdT,by rw [List.length_set];exact hd.fpos,by rw [List.length_set];exact hd.fthr,?_,?_⟩
   ·refine (hd.fcls.imp (fun x c h=>h.set hgc (by decide) (by decide) _ _)).set kk ?_
    obtain ⟨b,bn,qq,qn,he,r1,r2⟩:=HC6.out.2 kk hkx hkc
    rw [he]
    exact ⟨b,bn,qq,qn,rfl,own_put r1 hgc (by decide) _ _,own_put r2 hgc (by decide) _ _⟩
   ·intro c hc
    rcases List.mem_or_eq_of_mem_set hc with h1 | h1
    ·exact hd.fok c h1
    ·rw [h1]
     exact (hd.fok _ (List.getElem_mem hkc)).made ⟨by omega,by omega⟩
  have HZX:=Lib.hid hzx;have HBX:=Lib.hid hbx
  have HG7:=Lib.hid (gmix HG6.out hst.2 (fun b hb=>by injection hb with hb;omega))
  have HR7:=Lib.hid (HR6.out.other hst.2 (by omega))
  refine Exists.elim hcell ?_
  intro u hu
  clear hst hzx hbx hgt hgc hcell
  refine WB.one (i:=7) (by kernel_rfl) rfl (fun K hK=>?_)
  have HKK:=Lib.hid hK
  clear hK
  go_simp
  refine HKK.out _ _ ⟨fun h=>(no_late h (by kernel_rfl)).elim,?_⟩
  clear HKK K HS6 hu hfz hEd
  refine WB.done (by kernel_rfl) ?_
  have hxl:(xs.set kk ⟨xs[kk].who,xs[kk].seen,xs[kk].b,xs[kk].bl,xs[kk].bn,xs[kk].q,xs[kk].ql,xs[kk].qn,xs[kk].done,v6⟩).length=xs.length:=List.length_set
  generalize (w6.setCell ⟨g,kk*6+5,none⟩ (.int .i64 v6))=W7 at *
  have HXL9:=Lib.hid hxl
  clear hxl
  have hz:=put5_at (.slice L wd.log.length ln) (.int .i64 wd.safe) (.bool wd.up) (.slice (some ⟨g,0,none⟩) xs.length cc) (.slice N ys.length nc) HZX.out
  have hk:KeepT W7 (put5 W7 w.heap.size (.slice L wd.log.length ln) (.int .i64 wd.safe) (.bool wd.up) (.slice (some ⟨g,0,none⟩) xs.length cc) (.slice N ys.length nc)):=KeepT.grown (gset (gset (gset (gset (gset_any _ _ _ _) _ _) _ _) _ _) _ _) HZX.out (by decide) (by decide) (by decide) (by decide)
  have hg:W7.grownBy (put5 W7 w.heap.size (.slice L wd.log.length ln) (.int .i64 wd.safe) (.bool wd.up) (.slice (some ⟨g,0,none⟩) xs.length cc) (.slice N ys.length nc)) (some w.heap.size):=gset (gset (gset (gset (gset_any _ _ _ _) _ _) _ _) _ _) _ _
  have HZ9:=Lib.hid hz
  have HD9:=Lib.hid (Dw.keep HD.out hk)
  have HR9:=Lib.hid ((HR7.out).other hg hrl)
  have HG9:=Lib.hid (gmix HG7.out hg (fun b hb=>by injection hb with hb;omega))
  obtain ⟨b0,b1,b2,b3,b4,bf⟩:=five_cells HBX.out
  obtain ⟨d0,d1,d2,d3,d4,df⟩:=five_cells HZX.out
  clear hz hk hg
  go_wp2_with fail
  obtain ⟨k0,k1,k2,k3,k4,kf⟩:=five_cells HZ9.out
  refine bodyPost_ret (v:=.agg (cW wd L ln (some ⟨g,0,none⟩) xs cc N ys nc)) ?_ rfl ?_
  ·simp [results,Tryz.f67,go_sem,k0,k1,k2,k3,k4]
  ·exact ⟨_,_,_,_,_,_,_,_,_,_,_,_,(qa+1),by rw [List.length_set],HD9.out,by omega,by omega,HR9.out,HG9.out⟩
 by_cases h0:v=0
 ·subst h0
  have hEd:Ext w4 w4.drew:=(Below.refl _ _).drew
  obtain ⟨w5,hw5⟩:∃ W,W=w4.drew:=⟨_,rfl⟩
  have HB5:Hid (w5.heap[w1.heap.size]?=some (.cells (cW wd L ln (some ⟨g,0,none⟩) xs cc N ys nc) 62 (0,0))):=by rw [hw5];exact HB4.out
  have HZ5:Hid (w5.heap[w.heap.size]?=some (.cells cW0 62 (0,0))):=by rw [hw5];exact HZ4.out
  have HP5:Hid (WP w5 w.heap.size wd L ln (some ⟨g,0,none⟩) cc N nc xs ys):=by rw [hw5];exact HP4.out.ext hEd
  have HC5:Hid (All2 (RcO w5 w.heap.size) xs wd.cls):=by rw [hw5];exact HC4.out.imp (fun x c h=>h.ext hEd)
  have HG5:Hid (w.grownBy w5 (some r)):=by rw [hw5];exact gtrans HG4.out (gext hEd)
  have HR5:Hid (Rdr w5 r qa):=by rw [hw5];exact HR4.out.ext hEd
  have HS:Hid (w5.cell? ⟨w1.heap.size,1,none⟩=some (.int .i64 wd.safe)):=Lib.hid (five_cells HB5.out).2.1
  go_upto_region 5 with fail
  refine wp_region_B (fun w'=>w'.cell? ⟨w1.heap.size,1,none⟩=some (.int .i64 wd.safe)) 9 (by kernel_rfl) ?_
  rw [←hw5]
  clear hw5
  refine WB.take (i:=0) (v:=?_) rfl (by kernel_rfl) (by kernel_rfl) (by kernel_rfl) (by kernel_rfl) (fun _ _ _ h=>h) HS.out (Or.inl ⟨by rfl,?_⟩) ?_
  rotate_left
  ·(rintro w s0;go_simp;try with_reducible rfl)
  try simp only [Act.put,List.setIfInBounds_toArray,List.set_cons_zero,List.set_cons_succ]
  refine WB.take (i:=1) (v:=?_) rfl (by kernel_rfl) (by kernel_rfl) (by kernel_rfl) (by kernel_rfl) (fun _ _ _ h=>h) HS.out (Or.inl ⟨by rfl,?_⟩) ?_
  rotate_left
  ·(rintro w s0;go_simp;try with_reducible rfl)
  try simp only [Act.put,List.setIfInBounds_toArray,List.set_cons_zero,List.set_cons_succ]
  refine WB.take (i:=2) (v:=?_) rfl (by kernel_rfl) (by kernel_rfl) (by kernel_rfl) (by kernel_rfl) (fun _ _ _ h=>h) HS.out (Or.inl ⟨by rfl,?_⟩) ?_
  rotate_left
  ·(rintro w s0;go_simp;try with_reducible rfl)
  try simp only [Act.put,List.setIfInBounds_toArray,List.set_cons_zero,List.set_cons_succ]
  refine WB.take (i:=3) (v:=?_) rfl (by kernel_rfl) (by kernel_rfl) (by kernel_rfl) (by kernel_rfl) (fun _ _ _ h=>h) HS.out (Or.inl ⟨by rfl,?_⟩) ?_
  rotate_left
  ·(rintro w s0;go_simp;try with_reducible rfl)
  try simp only [Act.put,List.setIfInBounds_toArray,List.set_cons_zero,List.set_cons_succ]
  refine WB.one (i:=4) (by kernel_rfl) rfl (fun K hK=>?_)
  have HKK:=Lib.hid hK
  clear hK
  go_simp
  refine (pick_c r qa 3 _ HR5.out (by omega) ⟨by omega,by omega⟩).mono ?_
  rintro r9 w6 ⟨v6,rfl,hv0,hv1,-,hR,hg⟩
  have hvb6:=hv1 (by omega)
  have hva6:=hv0
  clear hv1 hv0
  have hk6:KeepT w5 w6:=by
   obtain ⟨A,c,bs,hbk,-⟩:=HR5.out
   exact KeepT.grown hg hbk (by decide) (by decide) (by decide) (by decide)
  have HB6:=Lib.hid ((hg.block _ (blk_lt HB5.out) (fun e=>by injection e with e;omega)).trans HB5.out)
  have HZ6:=Lib.hid ((hg.block _ (blk_lt HZ5.out) (fun e=>by injection e with e;omega)).trans HZ5.out)
  have HP6:=Lib.hid (HP5.out.keep hk6);have HC6:=Lib.hid (HC5.out.imp (fun x c h=>h.keep hk6))
  have HG6:=Lib.hid (gtrans HG5.out hg);have HR6:=Lib.hid hR
  clear hk6 hg hR
  have HS6:Hid (w6.cell? ⟨w1.heap.size,1,none⟩=some (.int .i64 wd.safe)):=Lib.hid (five_cells HB6.out).2.1
  have hsf0:=HW.out.safe0;have hsf1:=HW.out.safe1;have hsf2:=HW.out.len
  have hwa:IntKind.i64.wrap (wd.safe+v6)=wd.safe+v6:=by rw [IntKind.wrap_i64];omega
  have hwb:IntKind.i64.wrap (wd.safe+v6 - 1)=wd.safe+v6 - 1:=by rw [IntKind.wrap_i64];omega
  refine HKK.out _ _ ⟨fun _=>HS6.out,?_⟩
  clear HKK K HS
  try simp only [Act.put,List.setIfInBounds_toArray,List.set_cons_zero,List.set_cons_succ]
  refine WB.takeP (i:=5) (v:=?_) rfl (by kernel_rfl) (by kernel_rfl) (by kernel_rfl) (by kernel_rfl) (fun _ _ _ h=>h) HS6.out (Or.inl ⟨by rfl,?_⟩) ?_
  rotate_left
  ·(rintro w -;go_simp;try with_reducible rfl)
  try simp only [Act.put,List.setIfInBounds_toArray,List.set_cons_zero,List.set_cons_succ]
  refine WB.takeP (i:=6) (v:=?_) rfl (by kernel_rfl) (by kernel_rfl) (by kernel_rfl) (by kernel_rfl) (fun _ _ _ h=>h) HS6.out (Or.inl ⟨by rfl,?_⟩) ?_
  rotate_left
  ·(rintro w -;go_simp;try with_reducible rfl)
  try simp only [Act.put,List.setIfInBounds_toArray,List.set_cons_zero,List.set_cons_succ]
  refine WB.takeP (i:=7) (v:=?_) rfl (by kernel_rfl) (by kernel_rfl) (by kernel_rfl) (by kernel_rfl) (fun _ _ _ h=>h) HS6.out (Or.inl ⟨by rfl,?_⟩) ?_
  rotate_left
  ·(rintro w -;go_simp;try with_reducible rfl)
  try simp only [Act.put,List.setIfInBounds_toArray,List.set_cons_zero,List.set_cons_succ]
  refine WB.takeP (i:=8) (v:=?_) rfl (by kernel_rfl) (by kernel_rfl) (by kernel_rfl) (by kernel_rfl) (fun _ _ _ h=>h) HS6.out (Or.inl ⟨by rfl,?_⟩) ?_
  rotate_left
  ·(rintro w -;go_simp;try with_reducible rfl)
  try simp only [Act.put,List.setIfInBounds_toArray,List.set_cons_zero,List.set_cons_succ]
  have hbq:=HB6.out
  have hk7:KeepT w6 (w6.setCell ⟨w1.heap.size,1,none⟩ (.int .i64 (wd.safe+v6 - 1))):=KeepT.grown (gset_any w6 (w1.heap.size) 1 _) hbq (by decide) (by decide) (by decide) (by decide)
  have hg7:w6.grownBy (w6.setCell ⟨w1.heap.size,1,none⟩ (.int .i64 (wd.safe+v6 - 1))) (some (w1.heap.size)):=gset_any w6 (w1.heap.size) 1 _
  have HBX:=Lib.hid (set_at (i:=1) (v:=(.int .i64 (wd.safe+v6 - 1))) hbq)
  have HZX:=Lib.hid ((hg7.block _ (blk_lt HZ6.out) (by intro e;injection e with e;omega)).trans HZ6.out)
  have HG7:=Lib.hid (gmix HG6.out hg7 (fun b hb=>by injection hb with hb;omega))
  have HR7:=Lib.hid (HR6.out.other hg7 (by omega))
  have HD:=Lib.hid (Dw.keep ((⟨(Dw.of HW.out HP6.out HC6.out).flog,(Dw.of HW.out HP6.out HC6.out).flen,(Dw.of HW.out HP6.out HC6.out).fops,by show -10≤(wd.safe+v6 - 1);omega,by show (wd.safe+v6 - 1)≤100;omega,(Dw.of HW.out HP6.out HC6.out).fcli,(Dw.of HW.out HP6.out HC6.out).fpos,(Dw.of HW.out HP6.out HC6.out).fthr,(Dw.of HW.out HP6.out HC6.out).fcls,(Dw.of HW.out HP6.out HC6.out).fok⟩:Dw w6 w.heap.size wd.log L ln (wd.safe+v6 - 1) (some ⟨g,0,none⟩) cc xs wd.cls)) hk7)
  clear hbq hk7 hg7
  have b0:=(five_cells HB6.out).1
  have b1:=(five_cells HB6.out).2.1
  have b2:=(five_cells HB6.out).2.2.1
  have b3:=(five_cells HB6.out).2.2.2.1
  have b4:=(five_cells HB6.out).2.2.2.2.1
  have bf:=(five_cells HB6.out).2.2.2.2.2
  refine WB.one (i:=9) (by kernel_rfl) rfl (fun K hK=>?_)
  have HKK:=Lib.hid hK
  clear hK
  go_simp
  refine HKK.out _ _ ⟨fun h=>(no_late h (by kernel_rfl)).elim,?_⟩
  clear HKK K HS6 hEd b0 b1 b2 b3 b4 bf hwa hwb
  refine WB.done (by kernel_rfl) ?_
  generalize (w6.setCell ⟨w1.heap.size,1,none⟩ (.int .i64 (wd.safe+v6 - 1)))=W7 at *
  have hz:=put5_at (.slice L wd.log.length ln) (.int .i64 (wd.safe+v6 - 1)) (.bool wd.up) (.slice (some ⟨g,0,none⟩) xs.length cc) (.slice N ys.length nc) HZX.out
  have hk:KeepT W7 (put5 W7 w.heap.size (.slice L wd.log.length ln) (.int .i64 (wd.safe+v6 - 1)) (.bool wd.up) (.slice (some ⟨g,0,none⟩) xs.length cc) (.slice N ys.length nc)):=KeepT.grown (gset (gset (gset (gset (gset_any _ _ _ _) _ _) _ _) _ _) _ _) HZX.out (by decide) (by decide) (by decide) (by decide)
  have hg:W7.grownBy (put5 W7 w.heap.size (.slice L wd.log.length ln) (.int .i64 (wd.safe+v6 - 1)) (.bool wd.up) (.slice (some ⟨g,0,none⟩) xs.length cc) (.slice N ys.length nc)) (some w.heap.size):=gset (gset (gset (gset (gset_any _ _ _ _) _ _) _ _) _ _) _ _
  have HZ9:=Lib.hid hz
  have HD9:=Lib.hid (Dw.keep HD.out hk)
  have HR9:=Lib.hid ((HR7.out).other hg hrl)
  have HG9:=Lib.hid (gmix HG7.out hg (fun b hb=>by injection hb with hb;omega))
  obtain ⟨b0,b1,b2,b3,b4,bf⟩:=five_cells HBX.out
  obtain ⟨d0,d1,d2,d3,d4,df⟩:=five_cells HZX.out
  clear hz hk hg
  go_wp2_with fail
  obtain ⟨k0,k1,k2,k3,k4,kf⟩:=five_cells HZ9.out
  refine bodyPost_ret (v:=.agg #[.slice L wd.log.length ln,.int .i64 (wd.safe+v6 - 1),.bool wd.up,.slice (some ⟨g,0,none⟩) xs.length cc,.slice N ys.length nc]) ?_ rfl ?_
  ·simp [results,Tryz.f67,go_sem,k0,k1,k2,k3,k4]
  ·exact ⟨_,_,_,_,_,_,_,_,_,_,_,_,(qa+1),rfl,HD9.out,by omega,by omega,HR9.out,HG9.out⟩
 by_cases h3:v=3
 ·subst h3
  go_wp2_with fail
  refine (log_d r qa _ HR4.out (by omega)).mono ?_
  rintro r9 w5 ⟨lg,v5,p5,rfl,ho5,hl5,hop5,hp51,hp52,hR,hg⟩
  obtain ⟨L3,n3,rfl,-⟩:=ho5.rd
  have HO5:=Lib.hid ho5;have HOP:=Lib.hid hop5
  clear ho5 hop5
  have hk5:KeepT w4 w5:=by
   obtain ⟨A,c,bs,hbk,-⟩:=HR4.out
   exact KeepT.grown hg hbk (by decide) (by decide) (by decide) (by decide)
  have HB5:=Lib.hid ((hg.block _ (blk_lt HB4.out) (fun e=>by injection e with e;omega)).trans HB4.out)
  have HZ5:=Lib.hid ((hg.block _ (blk_lt HZ4.out) (fun e=>by injection e with e;omega)).trans HZ4.out)
  have HP5:=Lib.hid (HP4.out.keep hk5);have HC5:=Lib.hid (HC4.out.imp (fun x c h=>h.keep hk5))
  have HG5:=Lib.hid (gtrans HG4.out hg);have HR5:=Lib.hid hR
  clear hk5 hg hR
  have hbq:=HB5.out
  have hk7:KeepT w5 (w5.setCell ⟨w1.heap.size,0,none⟩ (.slice L3 lg.length n3)):=KeepT.grown (gset_any w5 (w1.heap.size) 0 _) hbq (by decide) (by decide) (by decide) (by decide)
  have hg7:w5.grownBy (w5.setCell ⟨w1.heap.size,0,none⟩ (.slice L3 lg.length n3)) (some (w1.heap.size)):=gset_any w5 (w1.heap.size) 0 _
  have HBX:=Lib.hid (set_at (i:=0) (v:=(.slice L3 lg.length n3)) hbq)
  have HZX:=Lib.hid ((hg7.block _ (blk_lt HZ5.out) (by intro e;injection e with e;omega)).trans HZ5.out)
  have HG7:=Lib.hid (gmix HG5.out hg7 (fun b hb=>by injection hb with hb;omega))
  have HR7:=Lib.hid (HR5.out.other hg7 (by omega))
  have HD:=Lib.hid (Dw.keep ((⟨HO5.out.rdT,by omega,HOP.out,(Dw.of HW.out HP5.out HC5.out).fs0,(Dw.of HW.out HP5.out HC5.out).fs1,(Dw.of HW.out HP5.out HC5.out).fcli,(Dw.of HW.out HP5.out HC5.out).fpos,(Dw.of HW.out HP5.out HC5.out).fthr,(Dw.of HW.out HP5.out HC5.out).fcls,(Dw.of HW.out HP5.out HC5.out).fok⟩:Dw w5 w.heap.size lg L3 n3 wd.safe (some ⟨g,0,none⟩) cc xs wd.cls)) hk7)
  clear hbq hk7 hg7
  obtain ⟨b0,b1,b2,b3,b4,bf⟩:=five_cells HB5.out
  go_upto_region 14 with fail
  clear b0 b1 b2 b3 b4 bf
  generalize (w5.setCell ⟨w1.heap.size,0,none⟩ (.slice L3 lg.length n3))=W7 at *
  have hz:=put5_at (.slice L3 lg.length n3) (.int .i64 wd.safe) (.bool wd.up) (.slice (some ⟨g,0,none⟩) xs.length cc) (.slice N ys.length nc) HZX.out
  have hk:KeepT W7 (put5 W7 w.heap.size (.slice L3 lg.length n3) (.int .i64 wd.safe) (.bool wd.up) (.slice (some ⟨g,0,none⟩) xs.length cc) (.slice N ys.length nc)):=KeepT.grown (gset (gset (gset (gset (gset_any _ _ _ _) _ _) _ _) _ _) _ _) HZX.out (by decide) (by decide) (by decide) (by decide)
  have hg:W7.grownBy (put5 W7 w.heap.size (.slice L3 lg.length n3) (.int .i64 wd.safe) (.bool wd.up) (.slice (some ⟨g,0,none⟩) xs.length cc) (.slice N ys.length nc)) (some w.heap.size):=gset (gset (gset (gset (gset_any _ _ _ _) _ _) _ _) _ _) _ _
  have HZ9:=Lib.hid hz
  have HD9:=Lib.hid (Dw.keep HD.out hk)
  have HR9:=Lib.hid ((HR7.out).other hg hrl)
  have HG9:=Lib.hid (gmix HG7.out hg (fun b hb=>by injection hb with hb;omega))
  obtain ⟨b0,b1,b2,b3,b4,bf⟩:=five_cells HBX.out
  obtain ⟨d0,d1,d2,d3,d4,df⟩:=five_cells HZX.out
  clear hz hk hg
  go_wp2_with fail
  obtain ⟨k0,k1,k2,k3,k4,kf⟩:=five_cells HZ9.out
  refine bodyPost_ret (v:=.agg #[.slice L3 lg.length n3,.int .i64 wd.safe,.bool wd.up,.slice (some ⟨g,0,none⟩) xs.length cc,.slice N ys.length nc]) ?_ rfl ?_
  ·simp [results,Tryz.f67,go_sem,k0,k1,k2,k3,k4]
  ·exact ⟨_,_,_,_,_,_,_,_,_,_,_,_,p5,rfl,HD9.out,by omega,by omega,HR9.out,HG9.out⟩
 by_cases h4:v=4
 ·subst h4
  have hsl:∀ W:World,(Instr.slice 59 (.slice (some ⟨g,0,none⟩) xs.length cc) (some (.int .i64 1)) none none).run Tryz.prog W=.ok (.slice (fromA (some ⟨g,0,none⟩) cc 1 6) (xs.length - 1) (cc - 1)) W:=fun W=>run_cut el_cli (some ⟨g,0,none⟩) xs.length cc 1 (by have:=HXL.out;omega) W
  have hbq:=HB4.out
  have hk7:KeepT w4 (w4.setCell ⟨w1.heap.size,3,none⟩ (.slice (fromA (some ⟨g,0,none⟩) cc 1 6) (xs.length - 1) (cc - 1))):=KeepT.grown (gset_any w4 (w1.heap.size) 3 _) hbq (by decide) (by decide) (by decide) (by decide)
  have hg7:w4.grownBy (w4.setCell ⟨w1.heap.size,3,none⟩ (.slice (fromA (some ⟨g,0,none⟩) cc 1 6) (xs.length - 1) (cc - 1))) (some (w1.heap.size)):=gset_any w4 (w1.heap.size) 3 _
  have HBX:=Lib.hid (set_at (i:=3) (v:=(.slice (fromA (some ⟨g,0,none⟩) cc 1 6) (xs.length - 1) (cc - 1))) hbq)
  have HZX:=Lib.hid ((hg7.block _ (blk_lt HZ4.out) (by intro e;injection e with e;omega)).trans HZ4.out)
  have HG7:=Lib.hid (gmix HG4.out hg7 (fun b hb=>by injection hb with hb;omega))
  have HR7:=Lib.hid (HR4.out.other hg7 (by omega))
  have HD:=Lib.hid (Dw.keep ((⟨(Dw.of HW.out HP4.out HC4.out).flog,(Dw.of HW.out HP4.out HC4.out).flen,(Dw.of HW.out HP4.out HC4.out).fops,(Dw.of HW.out HP4.out HC4.out).fs0,(Dw.of HW.out HP4.out HC4.out).fs1,(Dw.of HW.out HP4.out HC4.out).fcli.tail,by rw [List.length_drop];have:=HXL.out;omega,by rw [List.length_drop];have:=HXL.out;omega,(Dw.of HW.out HP4.out HC4.out).fcls.drop 1,fun c hc=>(Dw.of HW.out HP4.out HC4.out).fok c (List.mem_of_mem_drop hc)⟩:Dw w4 w.heap.size wd.log L ln wd.safe (fromA (some ⟨g,0,none⟩) cc 1 6) (cc - 1) (xs.drop 1) (wd.cls.drop 1))) hk7)
  clear hbq hk7 hg7
  obtain ⟨b0,b1,b2,b3,b4,bf⟩:=five_cells HB4.out
  go_upto_region 14 with fail
  clear b0 b1 b2 b3 b4 bf hsl
  generalize (w4.setCell ⟨w1.heap.size,3,none⟩ (.slice (fromA (some ⟨g,0,none⟩) cc 1 6) (xs.length - 1) (cc - 1)))=W7 at *
  have hz:=put5_at (.slice L wd.log.length ln) (.int .i64 wd.safe) (.bool wd.up) (.slice (fromA (some ⟨g,0,none⟩) cc 1 6) (xs.length - 1) (cc - 1)) (.slice N ys.length nc) HZX.out
  have hk:KeepT W7 (put5 W7 w.heap.size (.slice L wd.log.length ln) (.int .i64 wd.safe) (.bool wd.up) (.slice (fromA (some ⟨g,0,none⟩) cc 1 6) (xs.length - 1) (cc - 1)) (.slice N ys.length nc)):=KeepT.grown (gset (gset (gset (gset (gset_any _ _ _ _) _ _) _ _) _ _) _ _) HZX.out (by decide) (by decide) (by decide) (by decide)
  have hg:W7.grownBy (put5 W7 w.heap.size (.slice L wd.log.length ln) (.int .i64 wd.safe) (.bool wd.up) (.slice (fromA (some ⟨g,0,none⟩) cc 1 6) (xs.length - 1) (cc - 1)) (.slice N ys.length nc)) (some w.heap.size):=gset (gset (gset (gset (gset_any _ _ _ _) _ _) _ _) _ _) _ _
  have HZ9:=Lib.hid hz
  have HD9:=Lib.hid (Dw.keep HD.out hk)
  have HR9:=Lib.hid ((HR7.out).other hg hrl)
  have HG9:=Lib.hid (gmix HG7.out hg (fun b hb=>by injection hb with hb;omega))
  obtain ⟨b0,b1,b2,b3,b4,bf⟩:=five_cells HBX.out
  obtain ⟨d0,d1,d2,d3,d4,df⟩:=five_cells HZX.out
  clear hz hk hg
  go_wp2_with fail
  obtain ⟨k0,k1,k2,k3,k4,kf⟩:=five_cells HZ9.out
  refine bodyPost_ret (v:=.agg #[.slice L wd.log.length ln,.int .i64 wd.safe,.bool wd.up,.slice (fromA (some ⟨g,0,none⟩) cc 1 6) (xs.length - 1) (cc - 1),.slice N ys.length nc]) ?_ rfl ?_
  ·simp [results,Tryz.f67,go_sem,k0,k1,k2,k3,k4]
  ·exact ⟨_,_,_,_,_,_,_,_,_,_,_,_,qa,by rw [List.length_drop],HD9.out,by omega,by omega,HR9.out,HG9.out⟩
 ·have q0:(v == 0)=false:=by simp [h0]
  have q1:(v == 1)=false:=by simp [h1]
  have q2:(v == 2)=false:=by simp [h2]
  have q3:(v == 3)=false:=by simp [h3]
  have q4:(v == 4)=false:=by simp [h4]
  have HD:=Lib.hid (Dw.of HW.out HP4.out HC4.out)
  clear h0 h1 h2 h3 h4
  have hz:=put5_at (.slice L wd.log.length ln) (.int .i64 wd.safe) (.bool wd.up) (.slice (some ⟨g,0,none⟩) xs.length cc) (.slice N ys.length nc) HZ4.out
  have hk:KeepT w4 (put5 w4 w.heap.size (.slice L wd.log.length ln) (.int .i64 wd.safe) (.bool wd.up) (.slice (some ⟨g,0,none⟩) xs.length cc) (.slice N ys.length nc)):=KeepT.grown (gset (gset (gset (gset (gset_any _ _ _ _) _ _) _ _) _ _) _ _) HZ4.out (by decide) (by decide) (by decide) (by decide)
  have hg:w4.grownBy (put5 w4 w.heap.size (.slice L wd.log.length ln) (.int .i64 wd.safe) (.bool wd.up) (.slice (some ⟨g,0,none⟩) xs.length cc) (.slice N ys.length nc)) (some w.heap.size):=gset (gset (gset (gset (gset_any _ _ _ _) _ _) _ _) _ _) _ _
  have HZ9:=Lib.hid hz
  have HD9:=Lib.hid (Dw.keep HD.out hk)
  have HR9:=Lib.hid ((HR4.out).other hg hrl)
  have HG9:=Lib.hid (gmix HG4.out hg (fun b hb=>by injection hb with hb;omega))
  obtain ⟨b0,b1,b2,b3,b4,bf⟩:=five_cells HB4.out
  obtain ⟨d0,d1,d2,d3,d4,df⟩:=five_cells HZ4.out
  clear hz hk hg
  go_wp2_with fail
  obtain ⟨k0,k1,k2,k3,k4,kf⟩:=five_cells HZ9.out
  refine bodyPost_ret (v:=.agg (cW wd L ln (some ⟨g,0,none⟩) xs cc N ys nc)) ?_ rfl ?_
  ·simp [results,Tryz.f67,go_sem,k0,k1,k2,k3,k4]
  ·exact ⟨_,_,_,_,_,_,_,_,_,_,_,_,qa,rfl,HD9.out,by omega,by omega,HR9.out,HG9.out⟩
end Go.Proofs.YtecmcjfdaipfcaaGreatDoor
