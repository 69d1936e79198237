/- The exact laws' copy of a world. .. What a row gives: a world as an argument. -/
import Derived.Test.YtecmcjfdaipfcaaGreatDoorYAR
import Derived.Test.YtecmcjfdaipfcaaGreatDoorYAL
namespace Go.Proofs.YtecmcjfdaipfcaaGreatDoor
open Go.RowKit Go.Lib
set_option linter.unusedVariables false
set_option linter.unusedSimpArgs false
abbrev w5 (a b c d e:Value):Obj:=.cells #[a,b,c,d,e] 62
abbrev z5:Obj:=.cells #[.slice none 0 0,.int .i64 0,.bool false,.slice none 0 0,.slice none 0 0] 62
theorem KeepT.box {w w':World} {r:Nat} {cs:Array Value} (h:w.grownBy w' (some r)) (hr:w.heap[r]?=some (.cells cs 62 (0,0))):KeepT w w':=KeepT.grown h hr (by decide) (by decide) (by decide) (by decide)
set_option maxRecDepth 100000 in
set_option maxHeartbeats 2000000 in
theorem toWorld_c (wd:Wd) (L:Option Addr) (ln:Nat) (C:Option Addr) (cc:Nat) (N:Option Addr) (nc:Nat) (xs:List RC) (ys:List RL) (w:World) (h:WU w wd L ln C cc N nc xs ys) (hsm:Small wd 2000000) :
  Calls Tryz.prog 23 #[.agg (wA wd L ln C xs.length cc N ys.length nc)] w fun x w'=>∃ L' ln' C' cc' N' nc' zs ts,x=.returned (.agg (wA wd L' ln' C' zs.length cc' N' ts.length nc'))∧WR w' wd L' ln' C' cc' N' nc' zs ts∧Ext w w':=by
 have h3:=three_all w (.cells (wA wd L ln C xs.length cc N ys.length nc) 54) z5 z5
 have hE0:=ext3 w (.cells (wA wd L ln C xs.length cc N ys.length nc) 54) z5 z5
 have hz:(((w.alloc (.cells (wA wd L ln C xs.length cc N ys.length nc) 54)).alloc z5).alloc z5).heap.size=w.heap.size+3:=by simp only [alloc_sz]
 have HU0:=Lib.hid h;have HU:=Lib.hid (h.ext hE0);have HE:=Lib.hid hE0;have HSM:=Lib.hid hsm
 have HC:=Lib.hid (toServer_c L ln wd.log wd.safe wd.up _ HU.out.log (by have:=hsm.1;omega))
 clear h hsm
 go_enter Tryz.func23,Tryz.ntmps23
 go_wp2_with fail
 generalize (((w.alloc (.cells (wA wd L ln C xs.length cc N ys.length nc) 54)).alloc z5).alloc z5)=W3 at *
 have nx:w.heap.size≠w.heap.size+1+1:=by omega
 have ny:w.heap.size+1≠w.heap.size+1+1:=by omega
 have HX:=Lib.hid h3.1;have HY:=Lib.hid h3.2.1;have HZ:=Lib.hid h3.2.2;have HSZ:=Lib.hid hz
 clear h3 hE0 hz
 refine HC.out.mono ?_
 rintro e w1 ⟨L',ln',rfl,ht,hb⟩
 have ha2:w.heap.size≤w.heap.size+1+1:=by omega
 have ha1:w.heap.size≤w.heap.size+1:=by omega
 have x1:=(hb.block w.heap.size (blk_lt HX.out)).trans HX.out
 have y1:=(hb.block (w.heap.size+1) (blk_lt HY.out)).trans HY.out
 have z1:=(hb.block (w.heap.size+1+1) (blk_lt HZ.out)).trans HZ.out
 have X1:=Lib.hid x1;have Y1:=Lib.hid y1;have Z1:=Lib.hid z1;have HT:=Lib.hid ht;have HB:=Lib.hid hb
 obtain ⟨c0,c1,c2,c3,c4,cf⟩:=five_cells x1
 obtain ⟨d0,d1,d2,d3,d4,df⟩:=five_cells z1
 clear x1 y1 z1 ht hb HC
 go_wp2_with fail
 have hb4:Ext w (((w1.setCell ⟨w.heap.size+1+1,0,none⟩ (.slice L' wd.log.length ln')).setCell ⟨w.heap.size+1+1,1,none⟩ (.int .i64 wd.safe)).setCell ⟨w.heap.size+1+1,2,none⟩ (.bool wd.up)):=(((HE.out.trans (HB.out.mono HE.out.size)).setCell ha2 _).setCell ha2 _).setCell ha2 _
 have hx4:=(setx (v:=.bool wd.up) (o:=2) nx).trans ((setx (v:=.int .i64 wd.safe) (o:=1) nx).trans ((setx (v:=.slice L' wd.log.length ln') (o:=0) nx).trans X1.out))
 have hy4:=(setx (v:=.bool wd.up) (o:=2) ny).trans ((setx (v:=.int .i64 wd.safe) (o:=1) ny).trans ((setx (v:=.slice L' wd.log.length ln') (o:=0) ny).trans Y1.out))
 have hz4:=set_at (i:=2) (v:=.bool wd.up) (set_at (i:=1) (v:=.int .i64 wd.safe) (set_at (i:=0) (v:=.slice L' wd.log.length ln') Z1.out))
 have ht4:=HT.out.keep (KeepT.box (gset (gset (gset_any w1 (w.heap.size+1+1) 0 (.slice L' wd.log.length ln')) 1 (.int .i64 wd.safe)) 2 (.bool wd.up)) Z1.out) (.inr (.inl rfl))
 simp only [List.setIfInBounds_toArray,List.set_cons_zero,List.set_cons_succ] at hz4
 generalize ((w1.setCell ⟨w.heap.size+1+1,0,none⟩ (.slice L' wd.log.length ln')).setCell ⟨w.heap.size+1+1,1,none⟩ (.int .i64 wd.safe)).setCell ⟨w.heap.size+1+1,2,none⟩ (.bool wd.up)=W4 at *
 have HC:=Lib.hid (toClientS_c C cc xs wd.cls W4 (HU0.out.ext hb4).crd (HU0.out.ext hb4).cls (by have:=HSM.out.2.1;omega) (fun c hc=>by have:=HSM.out.2.2.2.1 c hc;omega))
 have B4:=Lib.hid hb4;have X4:=Lib.hid hx4;have Y4:=Lib.hid hy4;have Z4:=Lib.hid hz4;have T4:=Lib.hid ht4
 clear hb4 hx4 hy4 hz4 ht4 X1 Y1 Z1 HT HB HX HY HZ HE HU c0 c1 c2 c3 c4 cf d0 d1 d2 d3 d4 df
 refine HC.out.mono ?_
 rintro e w2 ⟨g,n,zs,rfl,ht,ha,hb⟩
 have hb2:=B4.out.trans (hb.mono B4.out.size)
 have x1:=(hb.block _ (blk_lt X4.out)).trans X4.out
 have y1:=(hb.block _ (blk_lt Y4.out)).trans Y4.out
 have z1:=(hb.block _ (blk_lt Z4.out)).trans Z4.out
 have t1:=T4.out.ext hb
 have X1:=Lib.hid x1;have Y1:=Lib.hid y1;have Z1:=Lib.hid z1;have HT:=Lib.hid ht;have HA:=Lib.hid ha;have HL:=Lib.hid t1;have HB:=Lib.hid hb2
 obtain ⟨c0,c1,c2,c3,c4,cf⟩:=five_cells x1
 obtain ⟨d0,d1,d2,d3,d4,df⟩:=five_cells z1
 clear x1 y1 z1 ht ha hb t1 hb2 HC B4 X4 Y4 Z4 T4
 go_wp2_with fail
 have hb4:Ext w (w2.setCell ⟨w.heap.size+1+1,3,none⟩ (.slice (some ⟨g,0,none⟩) zs.length n)):=HB.out.setCell ha2 _
 have hx4:=(setx (v:=.slice (some ⟨g,0,none⟩) zs.length n) (o:=3) nx).trans X1.out
 have hy4:=(setx (v:=.slice (some ⟨g,0,none⟩) zs.length n) (o:=3) ny).trans Y1.out
 have hz4:=set_at (i:=3) (v:=.slice (some ⟨g,0,none⟩) zs.length n) Z1.out
 have hk:=KeepT.box (gset_any w2 (w.heap.size+1+1) 3 (.slice (some ⟨g,0,none⟩) zs.length n)) Z1.out
 have ht4:=HL.out.keep hk (.inr (.inl rfl))
 have hc4:=HT.out.keep hk (.inr (.inr (.inl rfl)))
 have ha4:All2 (RcOk _) zs wd.cls:=HA.out.imp fun _ _ h=>h.keep hk
 simp only [List.setIfInBounds_toArray,List.set_cons_zero,List.set_cons_succ] at hz4
 generalize w2.setCell ⟨w.heap.size+1+1,3,none⟩ (.slice (some ⟨g,0,none⟩) zs.length n)=W5 at *
 have HC:=Lib.hid (toLetterS_c N nc ys wd.nets W5 (HU0.out.ext hb4).nrd (HU0.out.ext hb4).nets (by have:=HSM.out.2.2.1;omega) (fun c hc=>by have:=HSM.out.2.2.2.2 c hc;omega))
 have B4:=Lib.hid hb4;have X4:=Lib.hid hx4;have Y4:=Lib.hid hy4;have Z4:=Lib.hid hz4;have T4:=Lib.hid ht4;have C4:=Lib.hid hc4;have A4:=Lib.hid ha4
 clear hb4 hx4 hy4 hz4 ht4 hc4 ha4 hk X1 Y1 Z1 HT HA HL HB c0 c1 c2 c3 c4 cf d0 d1 d2 d3 d4 df
 refine HC.out.mono ?_
 rintro e w3 ⟨g2,n2,ts,rfl,ht,ha,hb⟩
 have hb2:=B4.out.trans (hb.mono B4.out.size)
 have x1:=(hb.block _ (blk_lt X4.out)).trans X4.out
 have y1:=(hb.block _ (blk_lt Y4.out)).trans Y4.out
 have z1:=(hb.block _ (blk_lt Z4.out)).trans Z4.out
 have hwr:WR w3 wd L' ln' (some ⟨g,0,none⟩) n (some ⟨g2,0,none⟩) n2 zs ts:=⟨T4.out.ext hb,⟨C4.out.ext hb,A4.out.imp fun _ _ h=>h.ext hb⟩,ht,ha⟩
 have X1:=Lib.hid x1;have Y1:=Lib.hid y1;have Z1:=Lib.hid z1;have HR:=Lib.hid hwr;have HB:=Lib.hid hb2
 obtain ⟨c0,c1,c2,c3,c4,cf⟩:=five_cells x1
 obtain ⟨d0,d1,d2,d3,d4,df⟩:=five_cells z1
 obtain ⟨e0,e1,e2,e3,e4,ef⟩:=five_cells y1
 clear x1 y1 z1 ht ha hb hwr hb2 HC B4 X4 Y4 Z4 T4 C4 A4
 go_wp2_with fail
 have hz5:=set_at (i:=4) (v:=.slice (some ⟨g2,0,none⟩) ts.length n2) Z1.out
 have hk5:=KeepT.box (gset_any w3 (w.heap.size+1+1) 4 (.slice (some ⟨g2,0,none⟩) ts.length n2)) Z1.out
 have hb5:Ext w (w3.setCell ⟨w.heap.size+1+1,4,none⟩ (.slice (some ⟨g2,0,none⟩) ts.length n2)):=HB.out.setCell ha2 _
 have hy5:=(setx (v:=.slice (some ⟨g2,0,none⟩) ts.length n2) (o:=4) ny).trans Y1.out
 generalize w3.setCell ⟨w.heap.size+1+1,4,none⟩ (.slice (some ⟨g2,0,none⟩) ts.length n2)=W6 at *
 have hz:=set_at (i:=4) (v:=.slice (some ⟨g2,0,none⟩) ts.length n2) (set_at (i:=3) (v:=.slice (some ⟨g,0,none⟩) zs.length n) (set_at (i:=2) (v:=.bool wd.up) (set_at (i:=1) (v:=.int .i64 wd.safe) (set_at (i:=0) (v:=.slice L' wd.log.length ln') hy5))))
 simp only [List.setIfInBounds_toArray,List.set_cons_zero,List.set_cons_succ] at hz
 have hk:KeepT W6 (((((W6.setCell ⟨w.heap.size+1,0,none⟩ (.slice L' wd.log.length ln')).setCell ⟨w.heap.size+1,1,none⟩ (.int .i64 wd.safe)).setCell ⟨w.heap.size+1,2,none⟩ (.bool wd.up)).setCell ⟨w.heap.size+1,3,none⟩ (.slice (some ⟨g,0,none⟩) zs.length n)).setCell ⟨w.heap.size+1,4,none⟩ (.slice (some ⟨g2,0,none⟩) ts.length n2)):=KeepT.grown (gset (gset (gset (gset (gset_any _ _ _ _) _ _) _ _) _ _) _ _) hy5 (by decide) (by decide) (by decide) (by decide)
 obtain ⟨k0,k1,k2,k3,k4,kf⟩:=five_cells hz
 refine bodyPost_ret (v:=.agg (wA wd L' ln' (some ⟨g,0,none⟩) zs.length n (some ⟨g2,0,none⟩) ts.length n2)) ?_ rfl ?_
 ·simp [results,Tryz.f23,go_sem,k0,k1,k2,k3,k4]
 ·exact ⟨L',ln',some ⟨g,0,none⟩,n,some ⟨g2,0,none⟩,n2,zs,ts,rfl,(HR.out.keep hk5).keep hk,((((hb5.setCell ha1 _).setCell ha1 _).setCell ha1 _).setCell ha1 _).setCell ha1 _⟩
open Go.RowKit Go.Lib
theorem three_cells {W:World} {b:Nat} {v0 v1 v2:Value} {ty:TypeId} (h:W.heap[b]?=some (.cells #[v0,v1,v2] ty (0,0))) :
  W.cell? ⟨b,0,none⟩=some v0∧W.cell? ⟨b,1,none⟩=some v1∧W.cell? ⟨b,2,none⟩=some v2∧∀ o,W.frozen? ⟨b,o,none⟩=false:=by
 refine ⟨?_,?_,?_,fun o=>?_⟩ <;> simp [World.cell?,World.frozen?,h]
theorem eqClient_same (a:Client) (va vb:Value) (w:World) (ha:CV w a va) (hb:CV w a vb):Calls Tryz.prog 113 #[va,vb] w fun x w'=>x=.returned (.bool true)∧Ext w w':=
 (eqClient_c a a va vb w ha hb).mono fun _ _ ⟨h,k⟩=>⟨by rw [h,decide_eq_true rfl],k⟩
theorem eqEntryS_same (l:List Entry) (A:Option Addr) (c:Nat) (B:Option Addr) (d:Nat) (w:World) (hr:Rd w A c l) (hr2:Rd w B d l):Calls Tryz.prog 112 #[.slice A l.length c,.slice B l.length d] w fun x w'=>x=.returned (.bool true)∧Ext w w':=
 (eqEntryS_c A c l B d l w hr hr2).mono fun _ _ ⟨h,k⟩=>⟨by rw [h,decide_eq_true rfl],k⟩
set_option maxHeartbeats 400000 in
theorem eqServer_c (L:Option Addr) (ln:Nat) (M:Option Addr) (mn:Nat) (log:List Entry) (safe:Int) (up:Bool) (w:World) (hr:Rd w L ln log) (hr2:Rd w M mn log) :
  Calls Tryz.prog 64 #[.agg #[.slice L log.length ln,.int .i64 safe,.bool up],.agg #[.slice M log.length mn,.int .i64 safe,.bool up]] w fun x w'=>x=.returned (.bool true)∧Ext w w':=by
 have HE:Hid (Ext w ((w.alloc (.cells #[.slice L log.length ln,.int .i64 safe,.bool up] 58)).alloc (.cells #[.slice M log.length mn,.int .i64 safe,.bool up] 58))):=((Below.refl _ w).alloc (Nat.le_refl _) _).alloc (by simp) _
 have hX:=two_new w (.cells #[.slice L log.length ln,.int .i64 safe,.bool up] 58) (.cells #[.slice M log.length mn,.int .i64 safe,.bool up] 58)
 have HC:=Lib.hid (eqEntryS_same log L ln M mn _ (hr.ext HE.out) (hr2.ext HE.out))
 have hus:(up != up)=false:=by cases up <;> rfl
 have hss:(safe != safe)=false:=by simp
 clear hr hr2
 go_enter Tryz.func64,Tryz.ntmps64
 go_wp2_with fail
 refine HC.out.mono ?_
 rintro x w1 ⟨rfl,hb1⟩
 have HF1:=Lib.hid (HE.out.trans (hb1.mono HE.out.size))
 have hx1:=(hb1.block w.heap.size (blk_lt hX.1)).trans hX.1
 have hy1:=(hb1.block (w.heap.size+1) (blk_lt hX.2)).trans hX.2
 obtain ⟨c0,c1,c2,cf⟩:=three_cells hx1
 obtain ⟨d0,d1,d2,df⟩:=three_cells hy1
 clear hx1 hy1 hb1 HC
 go_wp2_with fail
 go_ret
 exact ⟨rfl,HF1.out⟩
set_option maxHeartbeats 400000 in
theorem eqLetter_c (m:Lt) (A:Option Addr) (an:Nat) (B:Option Addr) (bn:Nat) (w:World) (hr:Rd w A an m.list) (hr2:Rd w B bn m.list) :
  Calls Tryz.prog 114 #[.agg (cL m A an),.agg (cL m B bn)] w fun x w'=>x=.returned (.bool true)∧Ext w w':=by
 have HE:Hid (Ext w ((w.alloc (oL m A an)).alloc (oL m B bn))):=((Below.refl _ w).alloc (Nat.le_refl _) _).alloc (by simp) _
 have HC:=Lib.hid (eqEntryS_same m.list A an B bn _ (hr.ext HE.out) (hr2.ext HE.out))
 have h1:(m.dst != m.dst)=false:=by simp
 have h2:(m.frm != m.frm)=false:=by simp
 clear hr hr2
 go_enter Tryz.func114,Tryz.ntmps114
 go_wp2_with fail
 refine HC.out.mono ?_
 rintro x w1 ⟨rfl,hb1⟩
 have HF1:=Lib.hid (HE.out.trans (hb1.mono HE.out.size))
 clear hb1 HC
 go_wp2_with fail
 go_ret
 exact ⟨rfl,HF1.out⟩
set_option maxRecDepth 100000 in
set_option maxHeartbeats 2000000 in
theorem eqClientS_c (A:Option Addr) (c:Nat) (xs:List RC) (B:Option Addr) (d:Nat) (ys:List RC) (l:List Client) (w:World) (hr:Rd w A c xs) (hr2:Rd w B d ys) (h1:All2 (RcOk w) xs l) (h2:All2 (RcOk w) ys l) :
  Calls Tryz.prog 65 #[.slice A xs.length c,.slice B ys.length d] w fun x w'=>x=.returned (.bool true)∧Ext w w':=by
 have hm:xs.length≤maxLen:=Nat.le_trans hr.1 hr.2.1
 unfold maxLen at hm
 have hl:xs.length=ys.length:=h1.1.trans h2.1.symm
 have hl':((xs.length:Int) != ys.length)=false:=by simp;omega
 have HL:=Lib.hid hl;have HL1:=Lib.hid h1.1
 have HR:=Lib.hid hr;have HR2:=Lib.hid hr2;have H1:=Lib.hid h1;have H2:=Lib.hid h2
 clear hr hr2 h1 h2 hl
 go_enter Tryz.func65,Tryz.ntmps65
 go_wp2_with fail
 clear hl'
 go_loopg [5] xs.length (fun gk i wr=>∃ k:Nat,k≤xs.length∧Hid (gk=xs.length - k)∧i=.int .i64 k∧Hid (Ext w wr))
 case atStart=>exact ⟨0,Nat.zero_le _,rfl,rfl,Below.refl _ _⟩
 case round=>
  obtain ⟨k,hk,HK,rfl,HB⟩:=hrel
  by_cases hlt:k<xs.length
  ·have hlt2:k<ys.length:=by have:=HL.out;omega
   have hkl:k<l.length:=by have:=HL1.out;omega
   obtain ⟨b,off,rfl,hbl,c0,c1,c2,c3,c4,c5⟩:=rc_at (HR.out.ext HB.out) k hlt
   obtain ⟨b2,off2,rfl,hbl2,d0,d1,d2,d3,d4,d5⟩:=rc_at (HR2.out.ext HB.out) k hlt2
   have HBD:Hid (Ext wr wr.drew):=Below.drew (Below.refl _ _)
   obtain ⟨A1,n1,A2,n2,ex,g1,g2⟩:=H1.out.2 k hlt hkl
   obtain ⟨B1,m1,B2,m2,ey,g3,g4⟩:=H2.out.2 k hlt2 hkl
   rw [ex] at c0 c1 c2 c3 c4 c5
   rw [ey] at d0 d1 d2 d3 d4 d5
   have HC:=Lib.hid (eqClient_same l[k] (.agg (cC l[k] A1 n1 A2 n2)) (.agg (cC l[k] B1 m1 B2 m2)) wr.drew ⟨A1,n1,A2,n2,rfl,(g1.1.ext HB.out).ext HBD.out,(g2.1.ext HB.out).ext HBD.out⟩ ⟨B1,m1,B2,m2,rfl,(g3.1.ext HB.out).ext HBD.out,(g4.1.ext HB.out).ext HBD.out⟩)
   clear g1 g2 g3 g4
   have hcs:∀ w',Ext wr w'→w'.cell? ⟨b,off+k*6,none⟩=some _∧w'.cell? ⟨b,off+k*6+1,none⟩=some _∧w'.cell? ⟨b,off+k*6+2,none⟩=some _∧w'.cell? ⟨b,off+k*6+3,none⟩=some _∧w'.cell? ⟨b,off+k*6+4,none⟩=some _∧w'.cell? ⟨b,off+k*6+5,none⟩=some _∧w'.cell? ⟨b2,off2+k*6,none⟩=some _∧w'.cell? ⟨b2,off2+k*6+1,none⟩=some _∧w'.cell? ⟨b2,off2+k*6+2,none⟩=some _∧w'.cell? ⟨b2,off2+k*6+3,none⟩=some _∧w'.cell? ⟨b2,off2+k*6+4,none⟩=some _∧w'.cell? ⟨b2,off2+k*6+5,none⟩=some _:=fun w' h=>by
    obtain ⟨hc,-⟩:=bcell h
    exact ⟨(hc _ _ hbl).trans c0,(hc _ _ hbl).trans c1,(hc _ _ hbl).trans c2,(hc _ _ hbl).trans c3,(hc _ _ hbl).trans c4,(hc _ _ hbl).trans c5,(hc _ _ hbl2).trans d0,(hc _ _ hbl2).trans d1,(hc _ _ hbl2).trans d2,(hc _ _ hbl2).trans d3,(hc _ _ hbl2).trans d4,(hc _ _ hbl2).trans d5⟩
   have HCS:=Lib.hid hcs
   have hli:(k:Int)<xs.length:=by omega
   have hli2:(k:Int)<ys.length:=by omega
   clear c0 c1 c2 c3 c4 c5 d0 d1 d2 d3 d4 d5 ex ey hcs
   go_wp2_with fail
   refine wp_region_H (fun w'=>Ext wr w') (by kernel_rfl) ?_
   refine WH.ts [(0,17),(1,18),(2,19),(3,20),(4,21),(5,22),(6,23),(7,24)] HBD.out (by kernel_rfl) ?_
   iterate 8 (apply Th.cons rfl rfl;(focus (rintro w s;obtain ⟨c0,c1,c2,c3,c4,c5,d0,d1,d2,d3,d4,d5⟩:=HCS.out _ s;go_simp;try with_reducible rfl));try simp only [Act.put,List.setIfInBounds_toArray,List.set_cons_zero,List.set_cons_succ])
   apply Th.nil
   refine WH.one 8 (by kernel_rfl) rfl (fun K hK=>?_)
   have HKK:=Lib.hid hK;clear hK
   go_simp
   refine HC.out.mono ?_;rintro x w2 ⟨rfl,hb⟩
   have HB2:=Lib.hid (HBD.out.trans hb)
   refine HKK.out _ _ ⟨HB2.out,?_⟩
   clear HKK K hb HC
   try simp only [Act.put,List.setIfInBounds_toArray,List.set_cons_zero,List.set_cons_succ]
   refine WH.ts [(9,26)] HB2.out (by kernel_rfl) ?_
   apply Th.cons rfl rfl;(focus (rintro w s;go_simp;try with_reducible rfl));try simp only [Act.put,List.setIfInBounds_toArray,List.set_cons_zero,List.set_cons_succ]
   apply Th.nil
   refine WH.done (by kernel_rfl) ?_
   go_wp2_with fail
   go_roundg (xs.length - (k+1))
   case measure=>have:=HK.out;omega
   case rel=>exact ⟨k+1,by omega,rfl,by go_num,HB.out.trans (HB2.out.mono HB.out.size)⟩
  ·go_wp2_with fail
   go_ret
   exact ⟨rfl,HB.out⟩
set_option maxRecDepth 100000 in
set_option maxHeartbeats 2000000 in
theorem eqLetterS_c (A:Option Addr) (c:Nat) (xs:List RL) (B:Option Addr) (d:Nat) (ys:List RL) (l:List Lt) (w:World) (hr:Rd w A c xs) (hr2:Rd w B d ys) (h1:All2 (LtOk w) xs l) (h2:All2 (LtOk w) ys l) :
  Calls Tryz.prog 66 #[.slice A xs.length c,.slice B ys.length d] w fun x w'=>x=.returned (.bool true)∧Ext w w':=by
 have hm:xs.length≤maxLen:=Nat.le_trans hr.1 hr.2.1
 unfold maxLen at hm
 have hl:xs.length=ys.length:=h1.1.trans h2.1.symm
 have hl':((xs.length:Int) != ys.length)=false:=by simp;omega
 have HL:=Lib.hid hl;have HL1:=Lib.hid h1.1
 have HR:=Lib.hid hr;have HR2:=Lib.hid hr2;have H1:=Lib.hid h1;have H2:=Lib.hid h2
 clear hr hr2 h1 h2 hl
 go_enter Tryz.func66,Tryz.ntmps66
 go_wp2_with fail
 clear hl'
 go_loopg [5] xs.length (fun gk i wr=>∃ k:Nat,k≤xs.length∧Hid (gk=xs.length - k)∧i=.int .i64 k∧Hid (Ext w wr))
 case atStart=>exact ⟨0,Nat.zero_le _,rfl,rfl,Below.refl _ _⟩
 case round=>
  obtain ⟨k,hk,HK,rfl,HB⟩:=hrel
  by_cases hlt:k<xs.length
  ·have hlt2:k<ys.length:=by have:=HL.out;omega
   have hkl:k<l.length:=by have:=HL1.out;omega
   obtain ⟨b,off,rfl,hbl,c0,c1,c2⟩:=rl_at (HR.out.ext HB.out) k hlt
   obtain ⟨b2,off2,rfl,hbl2,d0,d1,d2⟩:=rl_at (HR2.out.ext HB.out) k hlt2
   have HBD:Hid (Ext wr wr.drew):=Below.drew (Below.refl _ _)
   obtain ⟨A1,n1,ex,g1⟩:=H1.out.2 k hlt hkl
   obtain ⟨B1,m1,ey,g3⟩:=H2.out.2 k hlt2 hkl
   rw [ex] at c0 c1 c2
   rw [ey] at d0 d1 d2
   have HC:=Lib.hid (eqLetter_c l[k] A1 n1 B1 m1 wr.drew ((g1.1.ext HB.out).ext HBD.out) ((g3.1.ext HB.out).ext HBD.out))
   clear g1 g3
   have hcs:∀ w',Ext wr w'→w'.cell? ⟨b,off+k*3,none⟩=some _∧w'.cell? ⟨b,off+k*3+1,none⟩=some _∧w'.cell? ⟨b,off+k*3+2,none⟩=some _∧w'.cell? ⟨b2,off2+k*3,none⟩=some _∧w'.cell? ⟨b2,off2+k*3+1,none⟩=some _∧w'.cell? ⟨b2,off2+k*3+2,none⟩=some _:=fun w' h=>by
    obtain ⟨hc,-⟩:=bcell h
    exact ⟨(hc _ _ hbl).trans c0,(hc _ _ hbl).trans c1,(hc _ _ hbl).trans c2,(hc _ _ hbl2).trans d0,(hc _ _ hbl2).trans d1,(hc _ _ hbl2).trans d2⟩
   have HCS:=Lib.hid hcs
   have hli:(k:Int)<xs.length:=by omega
   have hli2:(k:Int)<ys.length:=by omega
   clear c0 c1 c2 d0 d1 d2 ex ey hcs
   go_wp2_with fail
   refine wp_region_H (fun w'=>Ext wr w') (by kernel_rfl) ?_
   refine WH.ts [(0,17),(1,18),(2,19),(3,20),(4,21),(5,22),(6,23),(7,24)] HBD.out (by kernel_rfl) ?_
   iterate 8 (apply Th.cons rfl rfl;(focus (rintro w s;obtain ⟨c0,c1,c2,d0,d1,d2⟩:=HCS.out _ s;go_simp;try with_reducible rfl));try simp only [Act.put,List.setIfInBounds_toArray,List.set_cons_zero,List.set_cons_succ])
   apply Th.nil
   refine WH.one 8 (by kernel_rfl) rfl (fun K hK=>?_)
   have HKK:=Lib.hid hK;clear hK
   go_simp
   refine HC.out.mono ?_;rintro x w2 ⟨rfl,hb⟩
   have HB2:=Lib.hid (HBD.out.trans hb)
   refine HKK.out _ _ ⟨HB2.out,?_⟩
   clear HKK K hb HC
   try simp only [Act.put,List.setIfInBounds_toArray,List.set_cons_zero,List.set_cons_succ]
   refine WH.ts [(9,26)] HB2.out (by kernel_rfl) ?_
   apply Th.cons rfl rfl;(focus (rintro w s;go_simp;try with_reducible rfl));try simp only [Act.put,List.setIfInBounds_toArray,List.set_cons_zero,List.set_cons_succ]
   apply Th.nil
   refine WH.done (by kernel_rfl) ?_
   go_wp2_with fail
   go_roundg (xs.length - (k+1))
   case measure=>have:=HK.out;omega
   case rel=>exact ⟨k+1,by omega,rfl,by go_num,HB.out.trans (HB2.out.mono HB.out.size)⟩
  ·go_wp2_with fail
   go_ret
   exact ⟨rfl,HB.out⟩
set_option maxHeartbeats 1000000 in
theorem eqWorld_c (wd:Wd) (L:Option Addr) (ln:Nat) (C:Option Addr) (cc:Nat) (N:Option Addr) (nc:Nat) (xs:List RC) (ys:List RL) (L':Option Addr) (ln':Nat) (C':Option Addr) (cc':Nat) (N':Option Addr) (nc':Nat) (zs:List RC) (ts:List RL) (w:World) (h:WR w wd L ln C cc N nc xs ys) (h2:WR w wd L' ln' C' cc' N' nc' zs ts) :
  Calls Tryz.prog 25 #[.agg (wA wd L ln C xs.length cc N ys.length nc),.agg (wA wd L' ln' C' zs.length cc' N' ts.length nc')] w fun x w'=>x=.returned (.bool true)∧Ext w w':=by
 have HE:Hid (Ext w ((w.alloc (.cells (wA wd L ln C xs.length cc N ys.length nc) 62)).alloc (.cells (wA wd L' ln' C' zs.length cc' N' ts.length nc') 62))):=((Below.refl _ w).alloc (Nat.le_refl _) _).alloc (by simp) _
 have hX:=two_new w (.cells (wA wd L ln C xs.length cc N ys.length nc) 62) (.cells (wA wd L' ln' C' zs.length cc' N' ts.length nc') 62)
 have HR:=Lib.hid (h.ext HE.out);have HR2:=Lib.hid (h2.ext HE.out)
 have HC:=Lib.hid (eqServer_c L ln L' ln' wd.log wd.safe wd.up _ HR.out.log.1 HR2.out.log.1)
 clear h h2
 go_enter Tryz.func25,Tryz.ntmps25
 go_wp2_with fail
 generalize ((w.alloc (.cells (wA wd L ln C xs.length cc N ys.length nc) 62)).alloc (.cells (wA wd L' ln' C' zs.length cc' N' ts.length nc') 62))=W0 at *
 refine HC.out.mono ?_
 rintro x w1 ⟨rfl,hb1⟩
 have HF1:=Lib.hid (HE.out.trans (hb1.mono HE.out.size))
 have hx1:=(hb1.block w.heap.size (blk_lt hX.1)).trans hX.1
 have hy1:=(hb1.block (w.heap.size+1) (blk_lt hX.2)).trans hX.2
 have hr:=HR.out.ext hb1;have hr2:=HR2.out.ext hb1
 have HC2:=Lib.hid (eqClientS_c C cc xs C' cc' zs wd.cls w1 hr.cls.rd.1 hr2.cls.rd.1 hr.cls.cls hr2.cls.cls)
 have HRb:=Lib.hid hr;have HRb2:=Lib.hid hr2
 obtain ⟨c0,c1,c2,c3,c4,cf⟩:=five_cells hx1
 obtain ⟨d0,d1,d2,d3,d4,df⟩:=five_cells hy1
 have HXa:=Lib.hid hx1;have HXb:=Lib.hid hy1
 clear hx1 hy1 hb1 HC hr hr2 HR HR2 HE
 go_wp2_with fail
 refine HC2.out.mono ?_
 rintro x w2 ⟨rfl,hb1⟩
 have HF2:=Lib.hid (HF1.out.trans (hb1.mono HF1.out.size))
 have hx1:=(hb1.block w.heap.size (blk_lt HXa.out)).trans HXa.out
 have hy1:=(hb1.block (w.heap.size+1) (blk_lt HXb.out)).trans HXb.out
 have hr:=HRb.out.ext hb1;have hr2:=HRb2.out.ext hb1
 have HC3:=Lib.hid (eqLetterS_c N nc ys N' nc' ts wd.nets w2 hr.nrd.1 hr2.nrd.1 hr.nets hr2.nets)
 clear c0 c1 c2 c3 c4 cf d0 d1 d2 d3 d4 df
 obtain ⟨c0,c1,c2,c3,c4,cf⟩:=five_cells hx1
 obtain ⟨d0,d1,d2,d3,d4,df⟩:=five_cells hy1
 clear hx1 hy1 hb1 HC2 hr hr2 HRb HRb2 HXa HXb hX
 go_wp2_with fail
 refine HC3.out.mono ?_
 rintro x w3 ⟨rfl,hb1⟩
 have HF3:=Lib.hid (HF2.out.trans (hb1.mono HF2.out.size))
 clear HC3 hb1
 go_wp2_with fail
 go_ret
 exact ⟨rfl,HF3.out⟩
open Go.RowKit Go.Lib
structure WI (w:Wd):Prop where
 num:WNum w
 log:∀ e∈w.log,OpW e.op
 cls:∀ c∈w.cls,(i64 c.who∧i64 c.seen∧i64 c.done∧i64 c.made)∧(∀ r∈c.base,i64 r.id)∧(∀ e∈c.wait,OpW e.op)
 nets:∀ m∈w.nets,∀ e∈m.list,OpW e.op
theorem WI.ww {w:Wd} (h:WI w) (hs:Small w 1048576):WW w:=
 ⟨h.num,h.log,fun c hc=>⟨(h.cls c hc).1,(h.cls c hc).2.1,(h.cls c hc).2.2,by have:=hs.2.2.2.1 c hc;omega⟩,fun m hm=>⟨h.nets m hm,by have:=hs.2.2.2.2 m hm;omega⟩⟩
theorem Small.more {w:Wd} (h:Small w 1048576):Small w 2000000:=
 ⟨by have:=h.1;omega,by have:=h.2.1;omega,by have:=h.2.2.1;omega,fun c hc=>by have:=h.2.2.2.1 c hc;omega,fun m hm=>by have:=h.2.2.2.2 m hm;omega⟩
set_option maxRecDepth 100000 in
set_option maxHeartbeats 2000000 in
theorem exactWorldOk_walk (wd:Wd) (L:Option Addr) (ln:Nat) (C:Option Addr) (cc:Nat) (N:Option Addr) (nc:Nat) (xs:List RC) (ys:List RL) (w:World) (ht:Tab w) (h:WU w wd L ln C cc N nc xs ys) (hi:WI wd) :
  Calls Tryz.prog 5 #[.agg (wA wd L ln C xs.length cc N ys.length nc)] w fun x w'=>x=.returned (.bool true)∧Ext w w':=by
 have hpos:=ht.pos
 have hx:=World.alloc_heap_new w (.cells (wA wd L ln C xs.length cc N ys.length nc) 54)
 have hE0:Ext w (w.alloc (.cells (wA wd L ln C xs.length cc N ys.length nc) 54)):=(Below.refl _ w).alloc (Nat.le_refl _) _
 have HU:=Lib.hid (h.ext hE0);have HE:=Lib.hid hE0;have HT:=Lib.hid (ht.below hE0 hpos);have HI:=Lib.hid hi
 have hsz:=alloc_sz w (.cells (wA wd L ln C xs.length cc N ys.length nc) 54)
 have hcs:∀ w',Ext (w.alloc (.cells (wA wd L ln C xs.length cc N ys.length nc) 54)) w'→w'.cell? ⟨w.heap.size,0,none⟩=some (.slice L wd.log.length ln)∧w'.cell? ⟨w.heap.size,1,none⟩=some (.int .i64 wd.safe)∧w'.cell? ⟨w.heap.size,2,none⟩=some (.bool wd.up)∧w'.cell? ⟨w.heap.size,3,none⟩=some (.slice C xs.length cc)∧w'.cell? ⟨w.heap.size,4,none⟩=some (.slice N ys.length nc):=fun w' hb=>by
  obtain ⟨a0,a1,a2,a3,a4,_⟩:=five_cells ((hb.block w.heap.size (blk_lt hx)).trans hx)
  exact ⟨a0,a1,a2,a3,a4⟩
 have HS:=Lib.hid hcs;have HSZ:=Lib.hid hsz
 clear h ht hi hE0 hx hcs hsz
 go_enter Tryz.func5,Tryz.ntmps5
 go_wp2_with fail
 generalize (w.alloc (.cells (wA wd L ln C xs.length cc N ys.length nc) 54))=W at *
 have HC:=Lib.hid (szWorld_c wd L ln C cc N nc xs ys 1048576 W HU.out (by omega) (by omega))
 refine HC.out.mono ?_
 rintro e w1 ⟨s,rfl,s1,s2,s3,hb1⟩
 have HB1:=Lib.hid hb1
 clear hb1 HC
 by_cases hs:s<0
 ·clear s3
  go_wp2_with fail
  go_ret
  exact ⟨rfl,HE.out.trans (HB1.out.mono HE.out.size)⟩
 have HSM:=Lib.hid (s3 (by omega))
 have HWW:=Lib.hid (HI.out.ww HSM.out)
 have HC:=Lib.hid (toWorld_c wd L ln C cc N nc xs ys w1 (HU.out.ext HB1.out) HSM.out.more)
 obtain ⟨b0,b1,b2,b3,b4⟩:=HS.out _ HB1.out
 clear s3 s1 s2
 go_wp2_with fail
 refine HC.out.mono ?_
 rintro e w2 ⟨L1,ln1,C1,cc1,N1,nc1,zs,ts,rfl,hr,hb⟩
 have HB2:=Lib.hid (HB1.out.trans (hb.mono HB1.out.size))
 have HC2:=Lib.hid (worldOk_s wd L1 ln1 C1 cc1 N1 nc1 zs ts w2 hr HWW.out)
 clear hr hb HC b0 b1 b2 b3 b4
 go_wp2_with fail
 refine HC2.out.mono ?_
 rintro e w3 ⟨rfl,hb⟩
 have HB3:=Lib.hid (HB2.out.trans (hb.mono HB2.out.size))
 have HC:=Lib.hid (toWorld_c wd L ln C cc N nc xs ys w3 (HU.out.ext HB3.out) HSM.out.more)
 obtain ⟨b0,b1,b2,b3,b4⟩:=HS.out _ HB3.out
 clear hb HC2
 go_wp2_with fail
 refine HC.out.mono ?_
 rintro e w4 ⟨L2,ln2,C2,cc2,N2,nc2,us,vs,rfl,hr,hb⟩
 have HB4:=Lib.hid (HB3.out.trans (hb.mono HB3.out.size))
 have HR4:=Lib.hid hr
 clear hr hb HC b0 b1 b2 b3 b4
 have hx5:=World.alloc_heap_new w4 (.cells (wA wd L2 ln2 C2 us.length cc2 N2 vs.length nc2) 62)
 have hE5:Ext w4 (w4.alloc (.cells (wA wd L2 ln2 C2 us.length cc2 N2 vs.length nc2) 62)):=(Below.refl _ w4).alloc (Nat.le_refl _) _
 have hcs5:∀ w',Ext (w4.alloc (.cells (wA wd L2 ln2 C2 us.length cc2 N2 vs.length nc2) 62)) w'→w'.cell? ⟨w4.heap.size,0,none⟩=some (.slice L2 wd.log.length ln2)∧w'.cell? ⟨w4.heap.size,1,none⟩=some (.int .i64 wd.safe)∧w'.cell? ⟨w4.heap.size,2,none⟩=some (.bool wd.up)∧w'.cell? ⟨w4.heap.size,3,none⟩=some (.slice C2 us.length cc2)∧w'.cell? ⟨w4.heap.size,4,none⟩=some (.slice N2 vs.length nc2):=fun w' hb=>by
  obtain ⟨a0,a1,a2,a3,a4,_⟩:=five_cells ((hb.block w4.heap.size (blk_lt hx5)).trans hx5)
  exact ⟨a0,a1,a2,a3,a4⟩
 have HS5:=Lib.hid hcs5
 have HB5:=Lib.hid (HB4.out.trans (hE5.mono HB4.out.size))
 have HR5:=Lib.hid (HR4.out.ext hE5)
 have HC:=Lib.hid (worldOk_c wd L2 ln2 C2 cc2 N2 nc2 us vs (w4.alloc (.cells (wA wd L2 ln2 C2 us.length cc2 N2 vs.length nc2) 62)) (HT.out.below HB5.out (by rw [HSZ.out];omega)) HR5.out HWW.out.num)
 clear hx5 hE5 hcs5 HR4
 go_wp2_with fail
 generalize (w4.alloc (.cells (wA wd L2 ln2 C2 us.length cc2 N2 vs.length nc2) 62))=W5 at *
 refine HC.out.mono ?_
 rintro e w6 ⟨rfl,hb⟩
 have HB6:=Lib.hid (HB5.out.trans (hb.mono HB5.out.size));have HX6:=Lib.hid hb
 have HR6:=Lib.hid (HR5.out.ext hb)
 have hne:(worldOk wd != worldOk wd)=false:=by simp
 have HBD:Hid (Ext w6 w6.drew):=Below.drew (Below.refl _ _)
 have HCT:Hid (∀ w',Ext w6 w'→(w'.cell? ⟨w.heap.size,0,none⟩=some (.slice L wd.log.length ln)∧w'.cell? ⟨w.heap.size,1,none⟩=some (.int .i64 wd.safe)∧w'.cell? ⟨w.heap.size,2,none⟩=some (.bool wd.up)∧w'.cell? ⟨w.heap.size,3,none⟩=some (.slice C xs.length cc)∧w'.cell? ⟨w.heap.size,4,none⟩=some (.slice N ys.length nc))∧(w'.cell? ⟨w4.heap.size,0,none⟩=some (.slice L2 wd.log.length ln2)∧w'.cell? ⟨w4.heap.size,1,none⟩=some (.int .i64 wd.safe)∧w'.cell? ⟨w4.heap.size,2,none⟩=some (.bool wd.up)∧w'.cell? ⟨w4.heap.size,3,none⟩=some (.slice C2 us.length cc2)∧w'.cell? ⟨w4.heap.size,4,none⟩=some (.slice N2 vs.length nc2))):=
  fun w' hb=>⟨HS.out w' (HB6.out.trans (hb.mono HB6.out.size)),HS5.out w' (HX6.out.trans (hb.mono HX6.out.size))⟩
 clear hb HC HR5 HS5 HS HX6
 go_wp2_with fail
 refine wp_region_H (fun w'=>Ext w6 w') (by kernel_rfl) ?_
 refine WH.ts [(0,22),(1,23)] HBD.out (by kernel_rfl) ?_
 iterate 2 (apply Th.cons rfl rfl;(focus (rintro w s;obtain ⟨⟨a0,a1,a2,a3,a4⟩,d0,d1,d2,d3,d4⟩:=HCT.out _ s;go_simp;try with_reducible rfl));try simp only [Act.put,List.setIfInBounds_toArray,List.set_cons_zero,List.set_cons_succ])
 apply Th.nil
 have HC:=Lib.hid (toWorld_c wd L ln C cc N nc xs ys w6.drew (HU.out.ext (HB6.out.trans (HBD.out.mono HB6.out.size))) HSM.out.more)
 refine WH.one 2 (by kernel_rfl) rfl (fun K hK=>?_)
 have HKK:=Lib.hid hK;clear hK
 go_simp
 refine HC.out.mono ?_;rintro x w7 ⟨L3,ln3,C3,cc3,N3,nc3,ps,qs,rfl,hr,hb⟩
 have HB7:=Lib.hid (HBD.out.trans (hb.mono HBD.out.size))
 have HC3:=Lib.hid (eqWorld_c wd L2 ln2 C2 cc2 N2 nc2 us vs L3 ln3 C3 cc3 N3 nc3 ps qs w7 (HR6.out.ext HB7.out) hr)
 refine HKK.out _ _ ⟨HB7.out,?_⟩
 clear HKK K hb hr HC
 try simp only [Act.put,List.setIfInBounds_toArray,List.set_cons_zero,List.set_cons_succ]
 refine WH.one 3 (by kernel_rfl) rfl (fun K hK=>?_)
 have HKK:=Lib.hid hK;clear hK
 go_simp
 refine HC3.out.mono ?_;rintro x w8 ⟨rfl,hb⟩
 have HB8:=Lib.hid (HB7.out.trans (hb.mono HB7.out.size))
 refine HKK.out _ _ ⟨HB8.out,?_⟩
 clear HKK K hb HC3
 try simp only [Act.put,List.setIfInBounds_toArray,List.set_cons_zero,List.set_cons_succ]
 refine WH.ts [(4,26)] HB8.out (by kernel_rfl) ?_
 apply Th.cons rfl rfl;(focus (rintro w s;go_simp;try with_reducible rfl));try simp only [Act.put,List.setIfInBounds_toArray,List.set_cons_zero,List.set_cons_succ]
 apply Th.nil
 refine WH.done (by kernel_rfl) ?_
 go_wp2_with fail
 go_ret
 exact ⟨rfl,HE.out.trans ((HB6.out.trans (HB8.out.mono HB6.out.size)).mono HE.out.size)⟩
open Go.RowKit Go.ChangeShapes Go.WideShapes Go.ChangeAt
section
variable {H:Type} {enc:TypeId × Value→H} {W:World} {base:Nat} {sp:Nat→Bool} {hd:Bool}
set_option maxRecDepth 100000 in
theorem in_flat {α:Type} [Flat α] {t e:TypeId} {v:Value} {fuel:Nat} {x:DataW H × List MemPlace} (ht:Tryz.prog.underlying t=some (.slice e)) (hce:Tryz.prog.cellsOf e=Flat.sz α) (ok:α→Prop)
  (hE:∀ n cs y,DataW.trod enc Tryz.prog W 0 sp hd n e cs=some y→∃ r:α,cs=Flat.enc r∧Flat.okE r∧ok r)
  (h:DataW.trod enc Tryz.prog W 0 sp hd fuel t [v]=some x) :
  ∃ (A:Option Addr) (n:Nat) (l:List α),v=.slice A l.length n∧Rd W A n l∧∀ r∈l,ok r:=by
 rcases Go.Deep.open_slice ht h with ⟨e0,_⟩ | ⟨a,len',cap',m,n,D,Pl,e0,_,hl,hm,hmm,_,hx⟩
 ·simp only [List.cons.injEq,and_true] at e0
  subst e0
  exact ⟨none,0,[],rfl,Rd.nil W,by simp⟩
 ·simp only [List.cons.injEq,and_true] at e0
  subst e0
  by_cases h0:len'=0
  ·subst h0
   exact ⟨some a,cap',[],rfl,⟨Nat.zero_le _,hm,fun h=>absurd h (by simp),by simp⟩,by simp⟩
  have hlm:len'≤m:=by rw [hmm];split <;> omega
  have hpos:=Flat.pos (α:=α)
  obtain ⟨b,off,spot⟩:=a
  have hs:spot=none:=by
   obtain ⟨cs',h1,_⟩:=hx 0 (by omega)
   rw [hce] at h1
   have h3:=(World.cells?_some h1).2.2 0 hpos
   have hl9:=(World.cells?_some h1).2.1
   rw [List.getElem?_eq_getElem (by omega)] at h3
   have:=World.cell?_spot h3
   simpa [Addr.add] using this
  subst hs
  have key:∀ i,i<len'→∃ r:α,(∀ j,j<Flat.sz α→W.cell? ⟨b,off+(i*Flat.sz α+j),none⟩=(Flat.enc r)[j]?)∧Flat.okE r∧ok r:=by
   intro i hi
   obtain ⟨cs',h1,h2⟩:=hx i (by omega)
   obtain ⟨r,rfl,hr1,hr2⟩:=hE _ _ _ h2
   refine ⟨r,fun j hj=>?_,hr1,hr2⟩
   rw [hce] at h1
   have h3:=(World.cells?_some h1).2.2 j hj
   rw [←h3]
   have hadd:∀ (o k:Nat),(⟨b,o,none⟩:Addr).add k=⟨b,o+k,none⟩:=by intro o k;unfold Addr.add;split <;> simp_all
   rw [hadd,hadd,Nat.add_assoc]
  have key':∀ i:Fin len',∃ r:α,(∀ j,j<Flat.sz α→W.cell? ⟨b,off+(i.1*Flat.sz α+j),none⟩=(Flat.enc r)[j]?)∧Flat.okE r∧ok r:=fun i=>key i.1 i.2
  have hR:=Classical.skolem.1 key'
  obtain ⟨R,hR⟩:=hR
  have hlen:(List.ofFn R).length=len':=List.length_ofFn
  refine ⟨some ⟨b,off,none⟩,cap',List.ofFn R,by rw [hlen],⟨by rw [hlen];exact hl,hm,fun _=>⟨b,off,rfl,fun j v hv=>?_⟩,fun r hr=>?_⟩,fun r hr=>?_⟩
  ·have hjl:j<(flat (List.ofFn R)).length:=(List.getElem?_eq_some_iff.1 hv).1
   rw [flat_length,hlen] at hjl
   have hmd:j % Flat.sz α<Flat.sz α:=Nat.mod_lt _ hpos
   have hdv:j / Flat.sz α<len':=Nat.div_lt_of_lt_mul (by rw [Nat.mul_comm];exact hjl)
   have he:j=j / Flat.sz α*Flat.sz α+j % Flat.sz α:=by rw [Nat.mul_comm];exact (Nat.div_add_mod _ _).symm
   have h1:=flat_at (List.ofFn R) (j / Flat.sz α) (by rw [hlen];exact hdv) (j % Flat.sz α) hmd
   rw [←he,hv,List.getElem_ofFn] at h1
   have h2:=(hR ⟨j / Flat.sz α,hdv⟩).1 (j % Flat.sz α) hmd
   rw [←h1] at h2
   rw [he];exact h2
  ·obtain ⟨i,rfl⟩:=List.mem_ofFn.1 hr
   exact (hR i).2.1
  ·obtain ⟨i,rfl⟩:=List.mem_ofFn.1 hr
   exact (hR i).2.2
theorem all2_of {α β:Type} {R:α→β→Prop} {p:β→Prop} : ∀ {xs:List α},(∀ x∈xs,∃ y,R x y∧p y)→∃ ys:List β,All2 R xs ys∧∀ y∈ys,p y
 |[],_=>⟨[],All2.nil,by simp⟩
 |x::xs,h=>by
  obtain ⟨y,hy,hp⟩:=h x (by simp)
  obtain ⟨ys,h1,h2⟩:=all2_of (xs:=xs) (fun x hx=>h x (by simp [hx]))
  exact ⟨y::ys,by simpa using (All2.one hy).append h1,fun z hz=>by
   rcases List.mem_cons.1 hz with rfl | hz
   ·exact hp
   ·exact h2 z hz⟩
theorem cellsServer:Tryz.prog.cellsOf 50=3:=by kernel_rfl
theorem cellsLetter:Tryz.prog.cellsOf 158=3:=by kernel_rfl
theorem cellsWorld:Tryz.prog.cellsOf 54=5:=by kernel_rfl
theorem cellsClients:Tryz.prog.cellsOf 51=1:=by kernel_rfl
theorem cellsLetters:Tryz.prog.cellsOf 52=1:=by kernel_rfl
theorem cellsBool:Tryz.prog.cellsOf 4=1:=by kernel_rfl
set_option maxRecDepth 100000 in
theorem client_in {fuel:Nat} {cs:List Value} {y:DataW H × List MemPlace} (h:DataW.trod enc Tryz.prog W 0 sp hd fuel 155 cs=some y) :
  ∃ r:RC,cs=Flat.enc r∧Flat.okE r∧∃ c,RcU W r c∧(i64 c.who∧i64 c.seen∧i64 c.done∧i64 c.made)∧(∀ r∈c.base,i64 r.id)∧(∀ e∈c.wait,OpW e.op):=by
 obtain ⟨y0,y1,y2,y3,y4,y5,n,hl,h0,h1,h2,h3,h4,h5⟩:=trod_struct6 Tryz.underlying155 h
 rw [cellsClient] at hl
 match cs,hl with
 |[a,b,c,d,e,f],_=>
  simp only [cellsInt,cellsRows,cellsEntries,List.drop,List.take] at h0 h1 h2 h3 h4 h5
  obtain ⟨z0,rfl,w0⟩:=cell_int Tryz.underlying3 h0
  obtain ⟨z1,rfl,w1⟩:=cell_int Tryz.underlying3 h1
  obtain ⟨z4,rfl,w4⟩:=cell_int Tryz.underlying3 h4
  obtain ⟨z5,rfl,w5⟩:=cell_int Tryz.underlying3 h5
  obtain ⟨A1,n1,l1,rfl,hr1,hi1⟩:=in_flat Tryz.underlying153 cellsRow _ (fun _ _ _=>row_in) h2
  obtain ⟨A2,n2,l2,rfl,hr2,hi2⟩:=in_flat Tryz.underlying48 cellsEntry _ (fun _ _ _=>ent_in) h3
  exact ⟨⟨z0,z1,A1,l1.length,n1,A2,l2.length,n2,z4,z5⟩,rfl,trivial,⟨z0,z1,l1,l2,z4,z5⟩,⟨A1,n1,A2,n2,rfl,hr1,hr2⟩,⟨w0,w1,w4,w5⟩,fun r hr=>(hi1 r hr).1,fun e he=>(hi2 e he).2.2.2⟩
set_option maxRecDepth 100000 in
theorem letter_in {fuel:Nat} {cs:List Value} {y:DataW H × List MemPlace} (h:DataW.trod enc Tryz.prog W 0 sp hd fuel 158 cs=some y) :
  ∃ r:RL,cs=Flat.enc r∧Flat.okE r∧∃ m,LtU W r m∧(i64 m.frm∧i64 m.dst)∧∀ e∈m.list,OpW e.op:=by
 obtain ⟨y0,y1,y2,n,_,hl,h0,h1,h2⟩:=Go.Deep.trod_struct3 Tryz.underlying158 h
 rw [cellsLetter] at hl
 match cs,hl with
 |[a,b,c],_=>
  simp only [cellsInt,cellsEntries,List.drop,List.take] at h0 h1 h2
  obtain ⟨z0,rfl,w0⟩:=cell_int Tryz.underlying3 h0
  obtain ⟨z1,rfl,w1⟩:=cell_int Tryz.underlying3 h1
  obtain ⟨A2,n2,l2,rfl,hr2,hi2⟩:=in_flat Tryz.underlying48 cellsEntry _ (fun _ _ _=>ent_in) h2
  exact ⟨⟨z0,z1,A2,l2.length,n2⟩,rfl,trivial,⟨z0,z1,l2⟩,⟨A2,n2,rfl,hr2⟩,⟨w1,w0⟩,fun e he=>(hi2 e he).2.2.2⟩
set_option maxRecDepth 100000 in
theorem arg_world {v:Value} {d:DataW H} {p:List MemPlace} (hv:Value.okWide Tryz.prog W .any base 54 v) (h:DataW.Trod enc Tryz.prog W 0 sp hd 54 v d p) :
  ∃ (wd:Wd) (L:Option Addr) (ln:Nat) (C:Option Addr) (cc:Nat) (N:Option Addr) (nc:Nat) (xs:List RC) (ys:List RL),v=.agg (wA wd L ln C xs.length cc N ys.length nc)∧WU W wd L ln C cc N nc xs ys∧WI wd:=by
 obtain ⟨fuel,h⟩:=h
 unfold Value.okWide at hv
 rw [Tryz.underlying54] at hv
 obtain ⟨cs,rfl,hsz,-⟩:=hv
 obtain ⟨y0,y1,y2,n,_,hl,h0,h1,h2⟩:=Go.Deep.trod_struct3 Tryz.underlying54 h
 obtain ⟨cs⟩:=cs
 rw [cellsWorld] at hsz
 simp only [Value.cells] at h0 h1 h2
 match cs,hsz with
 |[a,b,c,d,e],_=>
  simp only [cellsServer,cellsClients,cellsLetters,List.drop,List.take] at h0 h1 h2
  obtain ⟨y3,y4,y5,n2,_,hl2,h3,h4,h5⟩:=Go.Deep.trod_struct3 Tryz.underlying50 h0
  simp only [cellsInt,cellsEntries,cellsBool,List.drop,List.take] at h3 h4 h5
  obtain ⟨z1,rfl,w1⟩:=cell_int Tryz.underlying3 h4
  obtain ⟨up,e9,_⟩:=DataW.trod_bool Tryz.underlying4 h5
  obtain rfl:=List.cons.inj e9 |>.1
  obtain ⟨L,ln,l1,rfl,hr1,hi1⟩:=in_flat Tryz.underlying48 cellsEntry _ (fun _ _ _=>ent_in) h3
  obtain ⟨C,cc,xs,rfl,hr2,hi2⟩:=in_flat Tryz.underlying51 cellsClient _ (fun _ _ _=>client_in) h1
  obtain ⟨N,nc,ys,rfl,hr3,hi3⟩:=in_flat Tryz.underlying52 cellsLetter _ (fun _ _ _=>letter_in) h2
  obtain ⟨cls,hc1,hc2⟩:=all2_of hi2
  obtain ⟨nets,hn1,hn2⟩:=all2_of hi3
  exact ⟨⟨l1,z1,up,cls,nets⟩,L,ln,C,cc,N,nc,xs,ys,rfl,⟨hr1,hr2,hc1,hr3,hn1⟩,⟨w1,fun m hm=>(hn2 m hm).1⟩,fun e he=>(hi1 e he).2.2.2,hc2,fun m hm=>(hn2 m hm).2⟩
end
end Go.Proofs.YtecmcjfdaipfcaaGreatDoor
