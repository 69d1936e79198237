/- Walk of the reference: something happens. -/
import Derived.Test.YtecmcjfdaipfcaaGreatDoorZAS
namespace Go.Proofs.YtecmcjfdaipfcaaGreatDoor
open Go.RowKit Go.Lib
set_option linter.unusedVariables false
set_option linter.unusedSimpArgs false
theorem who22_s (wd:Wd) (e:Ev) (base:Nat) (L:Option Addr) (ln:Nat) (C:Option Addr) (cc:Nat) (N:Option Addr) (nc:Nat) (xs:List RC) (ys:List RL) (w:World) (hp:WP w base wd L ln C cc N nc xs ys) (hb:base≤w.heap.size) (hw:WInv wd) (ho:OpW e.op) (hs:e.op.text.size≤maxLen) (hk:e.kind=1∨e.kind=2∨e.kind=4) :
  Calls Tryz.prog 153 #[.agg (cW wd L ln C xs cc N ys nc),.agg (cV e)] w (StepP w base C N):=by
 by_cases hn:1≤e.who∧e.who≤3
 ·obtain ⟨i,hi⟩:∃ i:Nat,i=(e.who - 1).toNat:=⟨_,rfl⟩
  have hd:e.who=(i:Int)+1:=by omega
  have hxl:=hp.cls.1
  have h3:=hw.three
  obtain ⟨g,rfl⟩:=hp.cli.at0w (by omega)
  rcases hk with hk | hk | hk
  ·exact who22_do wd e base L ln g cc N nc xs ys w hp hb hw i hd (by omega) hk ho hs
  ·exact who22_send wd e base L ln g cc N nc xs ys w hp hb hw i hd (by omega) hk
  ·exact who22_news wd e base L ln g cc N nc xs ys w hp hb hw i hd (by omega) wd.up rfl hk
 ·exact who22_no wd e base L ln C cc N nc xs ys w hp hb hw hn
theorem netW_same (w:Wd) (k n:Int):(netW w k n).safe=w.safe∧(netW w k n).up=w.up:=by
 unfold netW
 split
 ·split
  ·split
   ·exact ⟨(putW_same w _).2.1,(putW_same w _).2.2⟩
   ·split
    ·exact ⟨(bringW_same _ _).1,(bringW_same _ _).2.1⟩
    ·exact ⟨rfl,rfl⟩
  ·exact ⟨rfl,rfl⟩
 ·exact ⟨rfl,rfl⟩
theorem net22_p (wd:Wd) (e:Ev) (base:Nat) (L:Option Addr) (ln:Nat) (C:Option Addr) (cc:Nat) (N:Option Addr) (nc:Nat) (xs:List RC) (ys:List RL) (w:World) (hp:WP w base wd L ln C cc N nc xs ys) (hb:base≤w.heap.size) (hw:WInv wd) :
  Calls Tryz.prog 155 #[.agg (cW wd L ln C xs cc N ys nc),.agg (cV e)] w (StepP w base C N):=(net22_s wd e base L ln C cc N nc xs ys w hp hb hw).mono fun x w' ⟨L',ln',xs',N',nc',ys',hx,h1,h2,h3⟩=>
 ⟨netW wd e.kind e.n,L',ln',C,cc,N',nc',xs',ys',by rw [(netW_same wd e.kind e.n).1,(netW_same wd e.kind e.n).2];exact hx,netW_ok hw _ _,h1,h2,fun k h=>h.elim (fun h=>.inl (.inl h)) (fun h=>(h3 k (.inr h)).imp (fun h=>h.elim (fun h=>by cases h) .inr) id)⟩
set_option maxRecDepth 100000 in
set_option maxHeartbeats 4000000 in
theorem do22_who (wd:Wd) (e:Ev) (base:Nat) (L:Option Addr) (ln:Nat) (C:Option Addr) (cc:Nat) (N:Option Addr) (nc:Nat) (xs:List RC) (ys:List RL) (w:World) (hp:WP w base wd L ln C cc N nc xs ys) (hb:base≤w.heap.size) (hw:WInv wd) (ho:OpW e.op) (hs:e.op.text.size≤maxLen) (hk:e.kind=1∨e.kind=2∨e.kind=4) :
  Calls Tryz.prog 141 #[.agg (cW wd L ln C xs cc N ys nc),.agg (cV e)] w (StepP w base C N):=by
 have h3:=three_all w (oW wd L ln C xs cc N ys nc) (oV e) oW0
 have hE3:Ext w (((w.alloc (oW wd L ln C xs cc N ys nc)).alloc (oV e)).alloc oW0):=ext3 _ _ _ _
 have hz3:(((w.alloc (oW wd L ln C xs cc N ys nc)).alloc (oV e)).alloc oW0).heap.size=w.heap.size+3:=by simp only [alloc_sz]
 have HX1:=Lib.hid h3.1;have HX2:=Lib.hid h3.2.1;have HX3:=Lib.hid h3.2.2;have HE3:=Lib.hid hE3
 have HP:=Lib.hid (hp.ext hE3);have HW:=Lib.hid hw
 have hCN:∀ k,OwnB C N k→k<w.heap.size:=fun k hk=>by
  rcases hk with hk | hk
  ·exact (hp.cli.blk k (by rw [ob_map];exact hk)).2
  ·exact (hp.let_.blk k (by rw [ob_map];exact hk)).2
 obtain ⟨b0,b1,b2,b3,b4,bf⟩:=five_cells h3.1
 obtain ⟨e0,e1,e2,e3,e4,e5,e6,e7,ef⟩:=eight_cells h3.2.1
 obtain ⟨d0,d1,d2,d3,d4,df⟩:=five_cells h3.2.2
 clear h3 hE3 hp hw
 have HK:=Lib.hid hk
 rcases hk with hk | hk | hk
 all_goals
  first | (have q1:(e.kind == 1)=true:=by simp [hk]) | (have q1:(e.kind == 1)=false:=by simp [hk])
  first | (have q2:(e.kind == 2)=true:=by simp [hk]) | (have q2:(e.kind == 2)=false:=by simp [hk])
  first | (have q3:(e.kind == 3)=true:=by simp [hk]) | (have q3:(e.kind == 3)=false:=by simp [hk])
  first | (have q4:(e.kind == 4)=true:=by simp [hk]) | (have q4:(e.kind == 4)=false:=by simp [hk])
  first | (have q5:(e.kind == 5)=true:=by simp [hk]) | (have q5:(e.kind == 5)=false:=by simp [hk])
  first | (have q6:(e.kind == 6)=true:=by simp [hk]) | (have q6:(e.kind == 6)=false:=by simp [hk])
  first | (have q7:(e.kind == 7)=true:=by simp [hk]) | (have q7:(e.kind == 7)=false:=by simp [hk])
  first | (have q8:(e.kind == 8)=true:=by simp [hk]) | (have q8:(e.kind == 8)=false:=by simp [hk])
  first | (have q9:(e.kind == 9)=true:=by simp [hk]) | (have q9:(e.kind == 9)=false:=by simp [hk])
  first | (have q10:(e.kind == 10)=true:=by simp [hk]) | (have q10:(e.kind == 10)=false:=by simp [hk])
  clear hk
  go_enter Tryz.func141,Tryz.ntmps141
  go_upto_region 2 with fail
  generalize (((w.alloc (oW wd L ln C xs cc N ys nc)).alloc (oV e)).alloc oW0)=W3 at *
  go_wp2_with fail
  refine (who22_s wd e base L ln C cc N nc xs ys W3 HP.out (by omega) HW.out ho hs (by have:=HK.out;omega)).mono ?_
  rintro r w5 ⟨wd',L',ln',C',cc',N',nc',xs',ys',rfl,hi5,hp5,hT5,hO5⟩
  have hzx:w5.heap[w.heap.size+1+1]?=some (.cells cW0 62 (0,0)):=(hT5.block _ (by omega) (fun h=>by have:=hCN _ h;omega)).trans HX3.out
  have hT6:=(Turn.ext (S:=OwnB C N) HE3.out).then hT5 (fun i hi=>.inl hi)
  have HO:Hid (∀ k,OwnB C' N' k→OwnB C N k∨w.heap.size≤k):=fun k h=>(hO5 k h).imp id (fun h=>by omega)
  have HI:=Lib.hid hi5
  clear b0 b1 b2 b3 b4 bf e0 e1 e2 e3 e4 e5 e6 e7 ef d0 d1 d2 d3 d4 df hO5 hi5 hCN
  have hz:=put5_at (.slice L' wd'.log.length ln') (.int .i64 wd'.safe) (.bool wd'.up) (.slice C' xs'.length cc') (.slice N' ys'.length nc') hzx
  have hk:KeepT w5 (put5 w5 (w.heap.size+1+1) (.slice L' wd'.log.length ln') (.int .i64 wd'.safe) (.bool wd'.up) (.slice C' xs'.length cc') (.slice N' ys'.length nc')):=KeepT.grown (gset (gset (gset (gset (gset_any _ _ _ _) _ _) _ _) _ _) _ _) hzx (by decide) (by decide) (by decide) (by decide)
  have hwR:w.heap.size≤w.heap.size+1+1:=by omega
  have hT:Turn (OwnB C N) w (put5 w5 (w.heap.size+1+1) (.slice L' wd'.log.length ln') (.int .i64 wd'.safe) (.bool wd'.up) (.slice C' xs'.length cc') (.slice N' ys'.length nc')):=(((((hT6).setNew hwR 0 _).setNew hwR 1 _).setNew hwR 2 _).setNew hwR 3 _).setNew hwR 4 _
  have HZ9:=Lib.hid hz;have HP9:=Lib.hid ((hp5).keep hk);have HT9:=Lib.hid hT
  clear hz hk hT hp5 hT5 hT6
  obtain ⟨d0,d1,d2,d3,d4,df⟩:=five_cells hzx
  go_wp2_with fail
  obtain ⟨k0,k1,k2,k3,k4,kf⟩:=five_cells HZ9.out
  refine bodyPost_ret (v:=.agg (cW wd' L' ln' C' xs' cc' N' ys' nc')) ?_ rfl ?_
  ·simp [results,Tryz.f141,go_sem,k0,k1,k2,k3,k4]
  ·exact ⟨wd',L',ln',C',cc',N',nc',xs',ys',rfl,HI.out,HP9.out,HT9.out,HO.out⟩
set_option maxRecDepth 100000 in
set_option maxHeartbeats 4000000 in
theorem do22_net (wd:Wd) (e:Ev) (base:Nat) (L:Option Addr) (ln:Nat) (C:Option Addr) (cc:Nat) (N:Option Addr) (nc:Nat) (xs:List RC) (ys:List RL) (w:World) (hp:WP w base wd L ln C cc N nc xs ys) (hb:base≤w.heap.size) (hw:WInv wd) (hk:e.kind=8∨e.kind=9∨e.kind=10) :
  Calls Tryz.prog 141 #[.agg (cW wd L ln C xs cc N ys nc),.agg (cV e)] w (StepP w base C N):=by
 have h3:=three_all w (oW wd L ln C xs cc N ys nc) (oV e) oW0
 have hE3:Ext w (((w.alloc (oW wd L ln C xs cc N ys nc)).alloc (oV e)).alloc oW0):=ext3 _ _ _ _
 have hz3:(((w.alloc (oW wd L ln C xs cc N ys nc)).alloc (oV e)).alloc oW0).heap.size=w.heap.size+3:=by simp only [alloc_sz]
 have HX1:=Lib.hid h3.1;have HX2:=Lib.hid h3.2.1;have HX3:=Lib.hid h3.2.2;have HE3:=Lib.hid hE3
 have HP:=Lib.hid (hp.ext hE3);have HW:=Lib.hid hw
 have hCN:∀ k,OwnB C N k→k<w.heap.size:=fun k hk=>by
  rcases hk with hk | hk
  ·exact (hp.cli.blk k (by rw [ob_map];exact hk)).2
  ·exact (hp.let_.blk k (by rw [ob_map];exact hk)).2
 obtain ⟨b0,b1,b2,b3,b4,bf⟩:=five_cells h3.1
 obtain ⟨e0,e1,e2,e3,e4,e5,e6,e7,ef⟩:=eight_cells h3.2.1
 obtain ⟨d0,d1,d2,d3,d4,df⟩:=five_cells h3.2.2
 clear h3 hE3 hp hw
 have HK:=Lib.hid hk
 rcases hk with hk | hk | hk
 all_goals
  first | (have q1:(e.kind == 1)=true:=by simp [hk]) | (have q1:(e.kind == 1)=false:=by simp [hk])
  first | (have q2:(e.kind == 2)=true:=by simp [hk]) | (have q2:(e.kind == 2)=false:=by simp [hk])
  first | (have q3:(e.kind == 3)=true:=by simp [hk]) | (have q3:(e.kind == 3)=false:=by simp [hk])
  first | (have q4:(e.kind == 4)=true:=by simp [hk]) | (have q4:(e.kind == 4)=false:=by simp [hk])
  first | (have q5:(e.kind == 5)=true:=by simp [hk]) | (have q5:(e.kind == 5)=false:=by simp [hk])
  first | (have q6:(e.kind == 6)=true:=by simp [hk]) | (have q6:(e.kind == 6)=false:=by simp [hk])
  first | (have q7:(e.kind == 7)=true:=by simp [hk]) | (have q7:(e.kind == 7)=false:=by simp [hk])
  first | (have q8:(e.kind == 8)=true:=by simp [hk]) | (have q8:(e.kind == 8)=false:=by simp [hk])
  first | (have q9:(e.kind == 9)=true:=by simp [hk]) | (have q9:(e.kind == 9)=false:=by simp [hk])
  first | (have q10:(e.kind == 10)=true:=by simp [hk]) | (have q10:(e.kind == 10)=false:=by simp [hk])
  clear hk
  go_enter Tryz.func141,Tryz.ntmps141
  go_upto_region 2 with fail
  generalize (((w.alloc (oW wd L ln C xs cc N ys nc)).alloc (oV e)).alloc oW0)=W3 at *
  go_wp2_with fail
  refine (net22_p wd e base L ln C cc N nc xs ys W3 HP.out (by omega) HW.out).mono ?_
  rintro r w5 ⟨wd',L',ln',C',cc',N',nc',xs',ys',rfl,hi5,hp5,hT5,hO5⟩
  have hzx:w5.heap[w.heap.size+1+1]?=some (.cells cW0 62 (0,0)):=(hT5.block _ (by omega) (fun h=>by have:=hCN _ h;omega)).trans HX3.out
  have hT6:=(Turn.ext (S:=OwnB C N) HE3.out).then hT5 (fun i hi=>.inl hi)
  have HO:Hid (∀ k,OwnB C' N' k→OwnB C N k∨w.heap.size≤k):=fun k h=>(hO5 k h).imp id (fun h=>by omega)
  have HI:=Lib.hid hi5
  clear b0 b1 b2 b3 b4 bf e0 e1 e2 e3 e4 e5 e6 e7 ef d0 d1 d2 d3 d4 df hO5 hi5 hCN
  have hz:=put5_at (.slice L' wd'.log.length ln') (.int .i64 wd'.safe) (.bool wd'.up) (.slice C' xs'.length cc') (.slice N' ys'.length nc') hzx
  have hk:KeepT w5 (put5 w5 (w.heap.size+1+1) (.slice L' wd'.log.length ln') (.int .i64 wd'.safe) (.bool wd'.up) (.slice C' xs'.length cc') (.slice N' ys'.length nc')):=KeepT.grown (gset (gset (gset (gset (gset_any _ _ _ _) _ _) _ _) _ _) _ _) hzx (by decide) (by decide) (by decide) (by decide)
  have hwR:w.heap.size≤w.heap.size+1+1:=by omega
  have hT:Turn (OwnB C N) w (put5 w5 (w.heap.size+1+1) (.slice L' wd'.log.length ln') (.int .i64 wd'.safe) (.bool wd'.up) (.slice C' xs'.length cc') (.slice N' ys'.length nc')):=(((((hT6).setNew hwR 0 _).setNew hwR 1 _).setNew hwR 2 _).setNew hwR 3 _).setNew hwR 4 _
  have HZ9:=Lib.hid hz;have HP9:=Lib.hid ((hp5).keep hk);have HT9:=Lib.hid hT
  clear hz hk hT hp5 hT5 hT6
  obtain ⟨d0,d1,d2,d3,d4,df⟩:=five_cells hzx
  go_wp2_with fail
  obtain ⟨k0,k1,k2,k3,k4,kf⟩:=five_cells HZ9.out
  refine bodyPost_ret (v:=.agg (cW wd' L' ln' C' xs' cc' N' ys' nc')) ?_ rfl ?_
  ·simp [results,Tryz.f141,go_sem,k0,k1,k2,k3,k4]
  ·exact ⟨wd',L',ln',C',cc',N',nc',xs',ys',rfl,HI.out,HP9.out,HT9.out,HO.out⟩
set_option maxRecDepth 100000 in
set_option maxHeartbeats 2000000 in
theorem do22_sync (wd:Wd) (e:Ev) (base:Nat) (L:Option Addr) (ln:Nat) (C:Option Addr) (cc:Nat) (N:Option Addr) (nc:Nat) (xs:List RC) (ys:List RL) (w:World) (hp:WP w base wd L ln C cc N nc xs ys) (hb:base≤w.heap.size) (hw:WInv wd) (hk:e.kind=3) (hu:wd.up=true) :
  Calls Tryz.prog 141 #[.agg (cW wd L ln C xs cc N ys nc),.agg (cV e)] w (StepP w base C N):=by
 have h3:=three_all w (oW wd L ln C xs cc N ys nc) (oV e) oW0
 have hE3:Ext w (((w.alloc (oW wd L ln C xs cc N ys nc)).alloc (oV e)).alloc oW0):=ext3 _ _ _ _
 have hz3:(((w.alloc (oW wd L ln C xs cc N ys nc)).alloc (oV e)).alloc oW0).heap.size=w.heap.size+3:=by simp only [alloc_sz]
 have HX1:=Lib.hid h3.1;have HX2:=Lib.hid h3.2.1;have HX3:=Lib.hid h3.2.2;have HE3:=Lib.hid hE3
 have HP:=Lib.hid (hp.ext hE3);have HW:=Lib.hid hw
 have hCN:∀ k,OwnB C N k→k<w.heap.size:=fun k hk=>by
  rcases hk with hk | hk
  ·exact (hp.cli.blk k (by rw [ob_map];exact hk)).2
  ·exact (hp.let_.blk k (by rw [ob_map];exact hk)).2
 obtain ⟨b0,b1,b2,b3,b4,bf⟩:=five_cells h3.1
 obtain ⟨e0,e1,e2,e3,e4,e5,e6,e7,ef⟩:=eight_cells h3.2.1
 obtain ⟨d0,d1,d2,d3,d4,df⟩:=five_cells h3.2.2
 clear h3 hE3 hp hw
 have q1:(e.kind == 1)=false:=by simp [hk]
 have q2:(e.kind == 2)=false:=by simp [hk]
 have q3:(e.kind == 3)=true:=by simp [hk]
 have q4:(e.kind == 4)=false:=by simp [hk]
 have q5:(e.kind == 5)=false:=by simp [hk]
 have q6:(e.kind == 6)=false:=by simp [hk]
 have q7:(e.kind == 7)=false:=by simp [hk]
 have q8:(e.kind == 8)=false:=by simp [hk]
 have q9:(e.kind == 9)=false:=by simp [hk]
 have q10:(e.kind == 10)=false:=by simp [hk]
 have HU:=Lib.hid hu
 clear hk hu
 go_enter Tryz.func141,Tryz.ntmps141
 go_upto_region 2 with fail
 generalize (((w.alloc (oW wd L ln C xs cc N ys nc)).alloc (oV e)).alloc oW0)=W3 at *
 rw [HU.out] at b2
 have hbx:=set_at (i:=1) (v:=(.int .i64 (wd.log.length:Int))) HX1.out
 have hzx:(W3.setCell ⟨w.heap.size,1,none⟩ (.int .i64 (wd.log.length:Int))).heap[w.heap.size+1+1]?=some (.cells cW0 62 (0,0)):=(setx (by omega)).trans HX3.out
 have hk9:KeepT W3 (W3.setCell ⟨w.heap.size,1,none⟩ (.int .i64 (wd.log.length:Int))):=KeepT.grown (gset_any W3 w.heap.size 1 _) HX1.out (by decide) (by decide) (by decide) (by decide)
 have hpq:=HP.out.keep hk9
 have hp9:WP (W3.setCell ⟨w.heap.size,1,none⟩ (.int .i64 (wd.log.length:Int))) base { wd with safe:=wd.log.length } L ln C cc N nc xs ys:=⟨hpq.log,hpq.cli,hpq.let_,hpq.cls,hpq.nets⟩
 have hT9:Turn (OwnB C N) w (W3.setCell ⟨w.heap.size,1,none⟩ (.int .i64 (wd.log.length:Int))):=(Turn.ext (S:=OwnB C N) HE3.out).setNew (Nat.le_refl _) 1 _
 have HBX:=Lib.hid hbx;have HZX:=Lib.hid hzx;have HPX:=Lib.hid hp9;have HTX:=Lib.hid hT9
 clear hbx hzx hk9 hpq hp9 hT9
 go_upto_region 19 with fail
 clear b0 b1 b2 b3 b4 bf d0 d1 d2 d3 d4 df e0 e1 e2 e3 e4 e5 e6 e7 ef
 have hs3:=HTX.out.size
 generalize (W3.setCell ⟨w.heap.size,1,none⟩ (.int .i64 (wd.log.length:Int)))=W4 at *
 have hz:=put5_at (.slice L wd.log.length ln) (.int .i64 (wd.log.length:Int)) (.bool wd.up) (.slice C xs.length cc) (.slice N ys.length nc) HZX.out
 have hk:KeepT W4 (put5 W4 (w.heap.size+1+1) (.slice L wd.log.length ln) (.int .i64 (wd.log.length:Int)) (.bool wd.up) (.slice C xs.length cc) (.slice N ys.length nc)):=KeepT.grown (gset (gset (gset (gset (gset_any _ _ _ _) _ _) _ _) _ _) _ _) HZX.out (by decide) (by decide) (by decide) (by decide)
 have hwR:w.heap.size≤w.heap.size+1+1:=by omega
 have hT:Turn (OwnB C N) w (put5 W4 (w.heap.size+1+1) (.slice L wd.log.length ln) (.int .i64 (wd.log.length:Int)) (.bool wd.up) (.slice C xs.length cc) (.slice N ys.length nc)):=(((((HTX.out).setNew hwR 0 _).setNew hwR 1 _).setNew hwR 2 _).setNew hwR 3 _).setNew hwR 4 _
 have HZ9:=Lib.hid hz;have HP9:=Lib.hid ((HPX.out).keep hk);have HT9:=Lib.hid hT
 clear hz hk hT
 obtain ⟨b0,b1,b2,b3,b4,bf⟩:=five_cells HBX.out
 obtain ⟨d0,d1,d2,d3,d4,df⟩:=five_cells HZX.out
 go_wp2_with fail
 obtain ⟨k0,k1,k2,k3,k4,kf⟩:=five_cells HZ9.out
 refine bodyPost_ret (v:=.agg #[.slice L wd.log.length ln,.int .i64 (wd.log.length:Int),.bool wd.up,.slice C xs.length cc,.slice N ys.length nc]) ?_ rfl ?_
 ·simp [results,Tryz.f141,go_sem,k0,k1,k2,k3,k4]
 ·exact ⟨{ wd with safe:=wd.log.length },L,ln,C,cc,N,nc,xs,ys,rfl,(⟨HW.out.log,HW.out.len,by show (0:Int)≤wd.log.length;omega,by show (wd.log.length:Int)≤wd.log.length;omega,HW.out.three,HW.out.cls,HW.out.net,HW.out.nets⟩:WInv { wd with safe:=wd.log.length }),HP9.out,HT9.out,fun k h=>.inl h⟩
set_option maxRecDepth 100000 in
set_option maxHeartbeats 2000000 in
theorem do22_sync0 (wd:Wd) (e:Ev) (base:Nat) (L:Option Addr) (ln:Nat) (C:Option Addr) (cc:Nat) (N:Option Addr) (nc:Nat) (xs:List RC) (ys:List RL) (w:World) (hp:WP w base wd L ln C cc N nc xs ys) (hb:base≤w.heap.size) (hw:WInv wd) (hk:e.kind=3) (hu:wd.up=false) :
  Calls Tryz.prog 141 #[.agg (cW wd L ln C xs cc N ys nc),.agg (cV e)] w (StepP w base C N):=by
 have h3:=three_all w (oW wd L ln C xs cc N ys nc) (oV e) oW0
 have hE3:Ext w (((w.alloc (oW wd L ln C xs cc N ys nc)).alloc (oV e)).alloc oW0):=ext3 _ _ _ _
 have hz3:(((w.alloc (oW wd L ln C xs cc N ys nc)).alloc (oV e)).alloc oW0).heap.size=w.heap.size+3:=by simp only [alloc_sz]
 have HX1:=Lib.hid h3.1;have HX2:=Lib.hid h3.2.1;have HX3:=Lib.hid h3.2.2;have HE3:=Lib.hid hE3
 have HP:=Lib.hid (hp.ext hE3);have HW:=Lib.hid hw
 have hCN:∀ k,OwnB C N k→k<w.heap.size:=fun k hk=>by
  rcases hk with hk | hk
  ·exact (hp.cli.blk k (by rw [ob_map];exact hk)).2
  ·exact (hp.let_.blk k (by rw [ob_map];exact hk)).2
 obtain ⟨b0,b1,b2,b3,b4,bf⟩:=five_cells h3.1
 obtain ⟨e0,e1,e2,e3,e4,e5,e6,e7,ef⟩:=eight_cells h3.2.1
 obtain ⟨d0,d1,d2,d3,d4,df⟩:=five_cells h3.2.2
 clear h3 hE3 hp hw
 have q1:(e.kind == 1)=false:=by simp [hk]
 have q2:(e.kind == 2)=false:=by simp [hk]
 have q3:(e.kind == 3)=true:=by simp [hk]
 have q4:(e.kind == 4)=false:=by simp [hk]
 have q5:(e.kind == 5)=false:=by simp [hk]
 have q6:(e.kind == 6)=false:=by simp [hk]
 have q7:(e.kind == 7)=false:=by simp [hk]
 have q8:(e.kind == 8)=false:=by simp [hk]
 have q9:(e.kind == 9)=false:=by simp [hk]
 have q10:(e.kind == 10)=false:=by simp [hk]
 have HU:=Lib.hid hu
 clear hk hu
 go_enter Tryz.func141,Tryz.ntmps141
 go_upto_region 2 with fail
 generalize (((w.alloc (oW wd L ln C xs cc N ys nc)).alloc (oV e)).alloc oW0)=W3 at *
 rw [HU.out] at b2
 go_upto_region 19 with fail
 clear b0 b1 b2 b3 b4 bf d0 d1 d2 d3 d4 df e0 e1 e2 e3 e4 e5 e6 e7 ef
 have hz:=put5_at (.slice L wd.log.length ln) (.int .i64 wd.safe) (.bool wd.up) (.slice C xs.length cc) (.slice N ys.length nc) HX3.out
 have hk:KeepT W3 (put5 W3 (w.heap.size+1+1) (.slice L wd.log.length ln) (.int .i64 wd.safe) (.bool wd.up) (.slice C xs.length cc) (.slice N ys.length nc)):=KeepT.grown (gset (gset (gset (gset (gset_any _ _ _ _) _ _) _ _) _ _) _ _) HX3.out (by decide) (by decide) (by decide) (by decide)
 have hwR:w.heap.size≤w.heap.size+1+1:=by omega
 have hT:Turn (OwnB C N) w (put5 W3 (w.heap.size+1+1) (.slice L wd.log.length ln) (.int .i64 wd.safe) (.bool wd.up) (.slice C xs.length cc) (.slice N ys.length nc)):=((((((Turn.ext HE3.out)).setNew hwR 0 _).setNew hwR 1 _).setNew hwR 2 _).setNew hwR 3 _).setNew hwR 4 _
 have HZ9:=Lib.hid hz;have HP9:=Lib.hid ((HP.out).keep hk);have HT9:=Lib.hid hT
 clear hz hk hT
 obtain ⟨b0,b1,b2,b3,b4,bf⟩:=five_cells HX1.out
 obtain ⟨d0,d1,d2,d3,d4,df⟩:=five_cells HX3.out
 go_wp2_with fail
 obtain ⟨k0,k1,k2,k3,k4,kf⟩:=five_cells HZ9.out
 refine bodyPost_ret (v:=.agg (cW wd L ln C xs cc N ys nc)) ?_ rfl ?_
 ·simp [results,Tryz.f141,go_sem,k0,k1,k2,k3,k4]
 ·exact ⟨wd,L,ln,C,cc,N,nc,xs,ys,rfl,HW.out,HP9.out,HT9.out,fun k h=>.inl h⟩
set_option maxRecDepth 100000 in
set_option maxHeartbeats 2000000 in
theorem do22_fall0 (wd:Wd) (e:Ev) (base:Nat) (L:Option Addr) (ln:Nat) (C:Option Addr) (cc:Nat) (N:Option Addr) (nc:Nat) (xs:List RC) (ys:List RL) (w:World) (hp:WP w base wd L ln C cc N nc xs ys) (hb:base≤w.heap.size) (hw:WInv wd) (hk:e.kind=5) (hn:¬(0≤e.n∧e.n≤40)) :
  Calls Tryz.prog 141 #[.agg (cW wd L ln C xs cc N ys nc),.agg (cV e)] w (StepP w base C N):=by
 have h3:=three_all w (oW wd L ln C xs cc N ys nc) (oV e) oW0
 have hE3:Ext w (((w.alloc (oW wd L ln C xs cc N ys nc)).alloc (oV e)).alloc oW0):=ext3 _ _ _ _
 have hz3:(((w.alloc (oW wd L ln C xs cc N ys nc)).alloc (oV e)).alloc oW0).heap.size=w.heap.size+3:=by simp only [alloc_sz]
 have HX1:=Lib.hid h3.1;have HX2:=Lib.hid h3.2.1;have HX3:=Lib.hid h3.2.2;have HE3:=Lib.hid hE3
 have HP:=Lib.hid (hp.ext hE3);have HW:=Lib.hid hw
 have hCN:∀ k,OwnB C N k→k<w.heap.size:=fun k hk=>by
  rcases hk with hk | hk
  ·exact (hp.cli.blk k (by rw [ob_map];exact hk)).2
  ·exact (hp.let_.blk k (by rw [ob_map];exact hk)).2
 obtain ⟨b0,b1,b2,b3,b4,bf⟩:=five_cells h3.1
 obtain ⟨e0,e1,e2,e3,e4,e5,e6,e7,ef⟩:=eight_cells h3.2.1
 obtain ⟨d0,d1,d2,d3,d4,df⟩:=five_cells h3.2.2
 clear h3 hE3 hp hw
 have q1:(e.kind == 1)=false:=by simp [hk]
 have q2:(e.kind == 2)=false:=by simp [hk]
 have q3:(e.kind == 3)=false:=by simp [hk]
 have q4:(e.kind == 4)=false:=by simp [hk]
 have q5:(e.kind == 5)=true:=by simp [hk]
 have q6:(e.kind == 6)=false:=by simp [hk]
 have q7:(e.kind == 7)=false:=by simp [hk]
 have q8:(e.kind == 8)=false:=by simp [hk]
 have q9:(e.kind == 9)=false:=by simp [hk]
 have q10:(e.kind == 10)=false:=by simp [hk]
 have HI2:Hid (inR e.n 0 40=false):=by show _=_;unfold inR;simpa using hn
 clear hk hn
 go_enter Tryz.func141,Tryz.ntmps141
 go_upto_region 2 with fail
 generalize (((w.alloc (oW wd L ln C xs cc N ys nc)).alloc (oV e)).alloc oW0)=W3 at *
 go_wp2_with fail
 refine (in_c _ _ _ _).mono ?_
 rintro r w' ⟨rfl,hw'⟩
 rw [HI2.out,hw']
 clear hw'
 go_upto_region 19 with fail
 clear b0 b1 b2 b3 b4 bf d0 d1 d2 d3 d4 df e0 e1 e2 e3 e4 e5 e6 e7 ef
 have hz:=put5_at (.slice L wd.log.length ln) (.int .i64 wd.safe) (.bool wd.up) (.slice C xs.length cc) (.slice N ys.length nc) HX3.out
 have hk:KeepT W3 (put5 W3 (w.heap.size+1+1) (.slice L wd.log.length ln) (.int .i64 wd.safe) (.bool wd.up) (.slice C xs.length cc) (.slice N ys.length nc)):=KeepT.grown (gset (gset (gset (gset (gset_any _ _ _ _) _ _) _ _) _ _) _ _) HX3.out (by decide) (by decide) (by decide) (by decide)
 have hwR:w.heap.size≤w.heap.size+1+1:=by omega
 have hT:Turn (OwnB C N) w (put5 W3 (w.heap.size+1+1) (.slice L wd.log.length ln) (.int .i64 wd.safe) (.bool wd.up) (.slice C xs.length cc) (.slice N ys.length nc)):=((((((Turn.ext HE3.out)).setNew hwR 0 _).setNew hwR 1 _).setNew hwR 2 _).setNew hwR 3 _).setNew hwR 4 _
 have HZ9:=Lib.hid hz;have HP9:=Lib.hid ((HP.out).keep hk);have HT9:=Lib.hid hT
 clear hz hk hT
 obtain ⟨b0,b1,b2,b3,b4,bf⟩:=five_cells HX1.out
 obtain ⟨d0,d1,d2,d3,d4,df⟩:=five_cells HX3.out
 go_wp2_with fail
 obtain ⟨k0,k1,k2,k3,k4,kf⟩:=five_cells HZ9.out
 refine bodyPost_ret (v:=.agg (cW wd L ln C xs cc N ys nc)) ?_ rfl ?_
 ·simp [results,Tryz.f141,go_sem,k0,k1,k2,k3,k4]
 ·exact ⟨wd,L,ln,C,cc,N,nc,xs,ys,rfl,HW.out,HP9.out,HT9.out,fun k h=>.inl h⟩
set_option maxRecDepth 100000 in
set_option maxHeartbeats 2000000 in
theorem do22_k6 (wd:Wd) (e:Ev) (base:Nat) (L:Option Addr) (ln:Nat) (C:Option Addr) (cc:Nat) (N:Option Addr) (nc:Nat) (xs:List RC) (ys:List RL) (w:World) (hp:WP w base wd L ln C cc N nc xs ys) (hb:base≤w.heap.size) (hw:WInv wd) (hk:e.kind=6) :
  Calls Tryz.prog 141 #[.agg (cW wd L ln C xs cc N ys nc),.agg (cV e)] w (StepP w base C N):=by
 have h3:=three_all w (oW wd L ln C xs cc N ys nc) (oV e) oW0
 have hE3:Ext w (((w.alloc (oW wd L ln C xs cc N ys nc)).alloc (oV e)).alloc oW0):=ext3 _ _ _ _
 have hz3:(((w.alloc (oW wd L ln C xs cc N ys nc)).alloc (oV e)).alloc oW0).heap.size=w.heap.size+3:=by simp only [alloc_sz]
 have HX1:=Lib.hid h3.1;have HX2:=Lib.hid h3.2.1;have HX3:=Lib.hid h3.2.2;have HE3:=Lib.hid hE3
 have HP:=Lib.hid (hp.ext hE3);have HW:=Lib.hid hw
 have hCN:∀ k,OwnB C N k→k<w.heap.size:=fun k hk=>by
  rcases hk with hk | hk
  ·exact (hp.cli.blk k (by rw [ob_map];exact hk)).2
  ·exact (hp.let_.blk k (by rw [ob_map];exact hk)).2
 obtain ⟨b0,b1,b2,b3,b4,bf⟩:=five_cells h3.1
 obtain ⟨e0,e1,e2,e3,e4,e5,e6,e7,ef⟩:=eight_cells h3.2.1
 obtain ⟨d0,d1,d2,d3,d4,df⟩:=five_cells h3.2.2
 clear h3 hE3 hp hw
 have q1:(e.kind == 1)=false:=by simp [hk]
 have q2:(e.kind == 2)=false:=by simp [hk]
 have q3:(e.kind == 3)=false:=by simp [hk]
 have q4:(e.kind == 4)=false:=by simp [hk]
 have q5:(e.kind == 5)=false:=by simp [hk]
 have q6:(e.kind == 6)=true:=by simp [hk]
 have q7:(e.kind == 7)=false:=by simp [hk]
 have q8:(e.kind == 8)=false:=by simp [hk]
 have q9:(e.kind == 9)=false:=by simp [hk]
 have q10:(e.kind == 10)=false:=by simp [hk]
 clear hk
 go_enter Tryz.func141,Tryz.ntmps141
 go_upto_region 2 with fail
 generalize (((w.alloc (oW wd L ln C xs cc N ys nc)).alloc (oV e)).alloc oW0)=W3 at *
 have hbx:=set_at (i:=2) (v:=(.bool false)) HX1.out
 have hzx:(W3.setCell ⟨w.heap.size,2,none⟩ (.bool false)).heap[w.heap.size+1+1]?=some (.cells cW0 62 (0,0)):=(setx (by omega)).trans HX3.out
 have hk9:KeepT W3 (W3.setCell ⟨w.heap.size,2,none⟩ (.bool false)):=KeepT.grown (gset_any W3 w.heap.size 2 _) HX1.out (by decide) (by decide) (by decide) (by decide)
 have hpq:=HP.out.keep hk9
 have hp9:WP (W3.setCell ⟨w.heap.size,2,none⟩ (.bool false)) base { wd with up:=false } L ln C cc N nc xs ys:=⟨hpq.log,hpq.cli,hpq.let_,hpq.cls,hpq.nets⟩
 have hT9:Turn (OwnB C N) w (W3.setCell ⟨w.heap.size,2,none⟩ (.bool false)):=(Turn.ext (S:=OwnB C N) HE3.out).setNew (Nat.le_refl _) 2 _
 have HBX:=Lib.hid hbx;have HZX:=Lib.hid hzx;have HPX:=Lib.hid hp9;have HTX:=Lib.hid hT9
 clear hbx hzx hk9 hpq hp9 hT9
 go_upto_region 19 with fail
 clear b0 b1 b2 b3 b4 bf d0 d1 d2 d3 d4 df e0 e1 e2 e3 e4 e5 e6 e7 ef
 have hs3:=HTX.out.size
 generalize (W3.setCell ⟨w.heap.size,2,none⟩ (.bool false))=W4 at *
 have hz:=put5_at (.slice L wd.log.length ln) (.int .i64 wd.safe) (.bool false) (.slice C xs.length cc) (.slice N ys.length nc) HZX.out
 have hk:KeepT W4 (put5 W4 (w.heap.size+1+1) (.slice L wd.log.length ln) (.int .i64 wd.safe) (.bool false) (.slice C xs.length cc) (.slice N ys.length nc)):=KeepT.grown (gset (gset (gset (gset (gset_any _ _ _ _) _ _) _ _) _ _) _ _) HZX.out (by decide) (by decide) (by decide) (by decide)
 have hwR:w.heap.size≤w.heap.size+1+1:=by omega
 have hT:Turn (OwnB C N) w (put5 W4 (w.heap.size+1+1) (.slice L wd.log.length ln) (.int .i64 wd.safe) (.bool false) (.slice C xs.length cc) (.slice N ys.length nc)):=(((((HTX.out).setNew hwR 0 _).setNew hwR 1 _).setNew hwR 2 _).setNew hwR 3 _).setNew hwR 4 _
 have HZ9:=Lib.hid hz;have HP9:=Lib.hid ((HPX.out).keep hk);have HT9:=Lib.hid hT
 clear hz hk hT
 obtain ⟨b0,b1,b2,b3,b4,bf⟩:=five_cells HBX.out
 obtain ⟨d0,d1,d2,d3,d4,df⟩:=five_cells HZX.out
 go_wp2_with fail
 obtain ⟨k0,k1,k2,k3,k4,kf⟩:=five_cells HZ9.out
 refine bodyPost_ret (v:=.agg #[.slice L wd.log.length ln,.int .i64 wd.safe,.bool false,.slice C xs.length cc,.slice N ys.length nc]) ?_ rfl ?_
 ·simp [results,Tryz.f141,go_sem,k0,k1,k2,k3,k4]
 ·exact ⟨{ wd with up:=false },L,ln,C,cc,N,nc,xs,ys,rfl,⟨HW.out.log,HW.out.len,HW.out.safe0,HW.out.safe1,HW.out.three,HW.out.cls,HW.out.net,HW.out.nets⟩,HP9.out,HT9.out,fun k h=>.inl h⟩
set_option maxRecDepth 100000 in
set_option maxHeartbeats 2000000 in
theorem do22_k7 (wd:Wd) (e:Ev) (base:Nat) (L:Option Addr) (ln:Nat) (C:Option Addr) (cc:Nat) (N:Option Addr) (nc:Nat) (xs:List RC) (ys:List RL) (w:World) (hp:WP w base wd L ln C cc N nc xs ys) (hb:base≤w.heap.size) (hw:WInv wd) (hk:e.kind=7) :
  Calls Tryz.prog 141 #[.agg (cW wd L ln C xs cc N ys nc),.agg (cV e)] w (StepP w base C N):=by
 have h3:=three_all w (oW wd L ln C xs cc N ys nc) (oV e) oW0
 have hE3:Ext w (((w.alloc (oW wd L ln C xs cc N ys nc)).alloc (oV e)).alloc oW0):=ext3 _ _ _ _
 have hz3:(((w.alloc (oW wd L ln C xs cc N ys nc)).alloc (oV e)).alloc oW0).heap.size=w.heap.size+3:=by simp only [alloc_sz]
 have HX1:=Lib.hid h3.1;have HX2:=Lib.hid h3.2.1;have HX3:=Lib.hid h3.2.2;have HE3:=Lib.hid hE3
 have HP:=Lib.hid (hp.ext hE3);have HW:=Lib.hid hw
 have hCN:∀ k,OwnB C N k→k<w.heap.size:=fun k hk=>by
  rcases hk with hk | hk
  ·exact (hp.cli.blk k (by rw [ob_map];exact hk)).2
  ·exact (hp.let_.blk k (by rw [ob_map];exact hk)).2
 obtain ⟨b0,b1,b2,b3,b4,bf⟩:=five_cells h3.1
 obtain ⟨e0,e1,e2,e3,e4,e5,e6,e7,ef⟩:=eight_cells h3.2.1
 obtain ⟨d0,d1,d2,d3,d4,df⟩:=five_cells h3.2.2
 clear h3 hE3 hp hw
 have q1:(e.kind == 1)=false:=by simp [hk]
 have q2:(e.kind == 2)=false:=by simp [hk]
 have q3:(e.kind == 3)=false:=by simp [hk]
 have q4:(e.kind == 4)=false:=by simp [hk]
 have q5:(e.kind == 5)=false:=by simp [hk]
 have q6:(e.kind == 6)=false:=by simp [hk]
 have q7:(e.kind == 7)=true:=by simp [hk]
 have q8:(e.kind == 8)=false:=by simp [hk]
 have q9:(e.kind == 9)=false:=by simp [hk]
 have q10:(e.kind == 10)=false:=by simp [hk]
 clear hk
 go_enter Tryz.func141,Tryz.ntmps141
 go_upto_region 2 with fail
 generalize (((w.alloc (oW wd L ln C xs cc N ys nc)).alloc (oV e)).alloc oW0)=W3 at *
 have hbx:=set_at (i:=2) (v:=(.bool true)) HX1.out
 have hzx:(W3.setCell ⟨w.heap.size,2,none⟩ (.bool true)).heap[w.heap.size+1+1]?=some (.cells cW0 62 (0,0)):=(setx (by omega)).trans HX3.out
 have hk9:KeepT W3 (W3.setCell ⟨w.heap.size,2,none⟩ (.bool true)):=KeepT.grown (gset_any W3 w.heap.size 2 _) HX1.out (by decide) (by decide) (by decide) (by decide)
 have hpq:=HP.out.keep hk9
 have hp9:WP (W3.setCell ⟨w.heap.size,2,none⟩ (.bool true)) base { wd with up:=true } L ln C cc N nc xs ys:=⟨hpq.log,hpq.cli,hpq.let_,hpq.cls,hpq.nets⟩
 have hT9:Turn (OwnB C N) w (W3.setCell ⟨w.heap.size,2,none⟩ (.bool true)):=(Turn.ext (S:=OwnB C N) HE3.out).setNew (Nat.le_refl _) 2 _
 have HBX:=Lib.hid hbx;have HZX:=Lib.hid hzx;have HPX:=Lib.hid hp9;have HTX:=Lib.hid hT9
 clear hbx hzx hk9 hpq hp9 hT9
 go_upto_region 19 with fail
 clear b0 b1 b2 b3 b4 bf d0 d1 d2 d3 d4 df e0 e1 e2 e3 e4 e5 e6 e7 ef
 have hs3:=HTX.out.size
 generalize (W3.setCell ⟨w.heap.size,2,none⟩ (.bool true))=W4 at *
 have hz:=put5_at (.slice L wd.log.length ln) (.int .i64 wd.safe) (.bool true) (.slice C xs.length cc) (.slice N ys.length nc) HZX.out
 have hk:KeepT W4 (put5 W4 (w.heap.size+1+1) (.slice L wd.log.length ln) (.int .i64 wd.safe) (.bool true) (.slice C xs.length cc) (.slice N ys.length nc)):=KeepT.grown (gset (gset (gset (gset (gset_any _ _ _ _) _ _) _ _) _ _) _ _) HZX.out (by decide) (by decide) (by decide) (by decide)
 have hwR:w.heap.size≤w.heap.size+1+1:=by omega
 have hT:Turn (OwnB C N) w (put5 W4 (w.heap.size+1+1) (.slice L wd.log.length ln) (.int .i64 wd.safe) (.bool true) (.slice C xs.length cc) (.slice N ys.length nc)):=(((((HTX.out).setNew hwR 0 _).setNew hwR 1 _).setNew hwR 2 _).setNew hwR 3 _).setNew hwR 4 _
 have HZ9:=Lib.hid hz;have HP9:=Lib.hid ((HPX.out).keep hk);have HT9:=Lib.hid hT
 clear hz hk hT
 obtain ⟨b0,b1,b2,b3,b4,bf⟩:=five_cells HBX.out
 obtain ⟨d0,d1,d2,d3,d4,df⟩:=five_cells HZX.out
 go_wp2_with fail
 obtain ⟨k0,k1,k2,k3,k4,kf⟩:=five_cells HZ9.out
 refine bodyPost_ret (v:=.agg #[.slice L wd.log.length ln,.int .i64 wd.safe,.bool true,.slice C xs.length cc,.slice N ys.length nc]) ?_ rfl ?_
 ·simp [results,Tryz.f141,go_sem,k0,k1,k2,k3,k4]
 ·exact ⟨{ wd with up:=true },L,ln,C,cc,N,nc,xs,ys,rfl,⟨HW.out.log,HW.out.len,HW.out.safe0,HW.out.safe1,HW.out.three,HW.out.cls,HW.out.net,HW.out.nets⟩,HP9.out,HT9.out,fun k h=>.inl h⟩
set_option maxRecDepth 100000 in
set_option maxHeartbeats 2000000 in
theorem do22_else (wd:Wd) (e:Ev) (base:Nat) (L:Option Addr) (ln:Nat) (C:Option Addr) (cc:Nat) (N:Option Addr) (nc:Nat) (xs:List RC) (ys:List RL) (w:World) (hp:WP w base wd L ln C cc N nc xs ys) (hb:base≤w.heap.size) (hw:WInv wd) (hk:∀ j:Int,1≤j→j≤10→e.kind≠j) :
  Calls Tryz.prog 141 #[.agg (cW wd L ln C xs cc N ys nc),.agg (cV e)] w (StepP w base C N):=by
 have h3:=three_all w (oW wd L ln C xs cc N ys nc) (oV e) oW0
 have hE3:Ext w (((w.alloc (oW wd L ln C xs cc N ys nc)).alloc (oV e)).alloc oW0):=ext3 _ _ _ _
 have hz3:(((w.alloc (oW wd L ln C xs cc N ys nc)).alloc (oV e)).alloc oW0).heap.size=w.heap.size+3:=by simp only [alloc_sz]
 have HX1:=Lib.hid h3.1;have HX2:=Lib.hid h3.2.1;have HX3:=Lib.hid h3.2.2;have HE3:=Lib.hid hE3
 have HP:=Lib.hid (hp.ext hE3);have HW:=Lib.hid hw
 have hCN:∀ k,OwnB C N k→k<w.heap.size:=fun k hk=>by
  rcases hk with hk | hk
  ·exact (hp.cli.blk k (by rw [ob_map];exact hk)).2
  ·exact (hp.let_.blk k (by rw [ob_map];exact hk)).2
 obtain ⟨b0,b1,b2,b3,b4,bf⟩:=five_cells h3.1
 obtain ⟨e0,e1,e2,e3,e4,e5,e6,e7,ef⟩:=eight_cells h3.2.1
 obtain ⟨d0,d1,d2,d3,d4,df⟩:=five_cells h3.2.2
 clear h3 hE3 hp hw
 have q1:(e.kind == 1)=false:=by simpa using hk 1 (by omega) (by omega)
 have q2:(e.kind == 2)=false:=by simpa using hk 2 (by omega) (by omega)
 have q3:(e.kind == 3)=false:=by simpa using hk 3 (by omega) (by omega)
 have q4:(e.kind == 4)=false:=by simpa using hk 4 (by omega) (by omega)
 have q5:(e.kind == 5)=false:=by simpa using hk 5 (by omega) (by omega)
 have q6:(e.kind == 6)=false:=by simpa using hk 6 (by omega) (by omega)
 have q7:(e.kind == 7)=false:=by simpa using hk 7 (by omega) (by omega)
 have q8:(e.kind == 8)=false:=by simpa using hk 8 (by omega) (by omega)
 have q9:(e.kind == 9)=false:=by simpa using hk 9 (by omega) (by omega)
 have q10:(e.kind == 10)=false:=by simpa using hk 10 (by omega) (by omega)
 clear hk
 go_enter Tryz.func141,Tryz.ntmps141
 go_upto_region 2 with fail
 generalize (((w.alloc (oW wd L ln C xs cc N ys nc)).alloc (oV e)).alloc oW0)=W3 at *
 go_upto_region 19 with fail
 clear b0 b1 b2 b3 b4 bf d0 d1 d2 d3 d4 df e0 e1 e2 e3 e4 e5 e6 e7 ef
 have hz:=put5_at (.slice L wd.log.length ln) (.int .i64 wd.safe) (.bool wd.up) (.slice C xs.length cc) (.slice N ys.length nc) HX3.out
 have hk:KeepT W3 (put5 W3 (w.heap.size+1+1) (.slice L wd.log.length ln) (.int .i64 wd.safe) (.bool wd.up) (.slice C xs.length cc) (.slice N ys.length nc)):=KeepT.grown (gset (gset (gset (gset (gset_any _ _ _ _) _ _) _ _) _ _) _ _) HX3.out (by decide) (by decide) (by decide) (by decide)
 have hwR:w.heap.size≤w.heap.size+1+1:=by omega
 have hT:Turn (OwnB C N) w (put5 W3 (w.heap.size+1+1) (.slice L wd.log.length ln) (.int .i64 wd.safe) (.bool wd.up) (.slice C xs.length cc) (.slice N ys.length nc)):=((((((Turn.ext HE3.out)).setNew hwR 0 _).setNew hwR 1 _).setNew hwR 2 _).setNew hwR 3 _).setNew hwR 4 _
 have HZ9:=Lib.hid hz;have HP9:=Lib.hid ((HP.out).keep hk);have HT9:=Lib.hid hT
 clear hz hk hT
 obtain ⟨b0,b1,b2,b3,b4,bf⟩:=five_cells HX1.out
 obtain ⟨d0,d1,d2,d3,d4,df⟩:=five_cells HX3.out
 go_wp2_with fail
 obtain ⟨k0,k1,k2,k3,k4,kf⟩:=five_cells HZ9.out
 refine bodyPost_ret (v:=.agg (cW wd L ln C xs cc N ys nc)) ?_ rfl ?_
 ·simp [results,Tryz.f141,go_sem,k0,k1,k2,k3,k4]
 ·exact ⟨wd,L,ln,C,cc,N,nc,xs,ys,rfl,HW.out,HP9.out,HT9.out,fun k h=>.inl h⟩
set_option maxRecDepth 100000 in
set_option maxHeartbeats 2000000 in
theorem do22_fall (wd:Wd) (e:Ev) (base:Nat) (L:Option Addr) (ln:Nat) (C:Option Addr) (cc:Nat) (N:Option Addr) (nc:Nat) (xs:List RC) (ys:List RL) (w:World) (hp:WP w base wd L ln C cc N nc xs ys) (hb:base≤w.heap.size) (hw:WInv wd) (hk:e.kind=5) (hn:0≤e.n∧e.n≤40) :
  Calls Tryz.prog 141 #[.agg (cW wd L ln C xs cc N ys nc),.agg (cV e)] w (StepP w base C N):=by
 have h3:=three_all w (oW wd L ln C xs cc N ys nc) (oV e) oW0
 have hE3:Ext w (((w.alloc (oW wd L ln C xs cc N ys nc)).alloc (oV e)).alloc oW0):=ext3 _ _ _ _
 have hz3:(((w.alloc (oW wd L ln C xs cc N ys nc)).alloc (oV e)).alloc oW0).heap.size=w.heap.size+3:=by simp only [alloc_sz]
 have HX1:=Lib.hid h3.1;have HX2:=Lib.hid h3.2.1;have HX3:=Lib.hid h3.2.2;have HE3:=Lib.hid hE3
 have HP:=Lib.hid (hp.ext hE3);have HW:=Lib.hid hw
 have hCN:∀ k,OwnB C N k→k<w.heap.size:=fun k hk=>by
  rcases hk with hk | hk
  ·exact (hp.cli.blk k (by rw [ob_map];exact hk)).2
  ·exact (hp.let_.blk k (by rw [ob_map];exact hk)).2
 obtain ⟨b0,b1,b2,b3,b4,bf⟩:=five_cells h3.1
 obtain ⟨e0,e1,e2,e3,e4,e5,e6,e7,ef⟩:=eight_cells h3.2.1
 obtain ⟨d0,d1,d2,d3,d4,df⟩:=five_cells h3.2.2
 clear h3 hE3 hp hw
 have q1:(e.kind == 1)=false:=by simp [hk]
 have q2:(e.kind == 2)=false:=by simp [hk]
 have q3:(e.kind == 3)=false:=by simp [hk]
 have q4:(e.kind == 4)=false:=by simp [hk]
 have q5:(e.kind == 5)=true:=by simp [hk]
 have q6:(e.kind == 6)=false:=by simp [hk]
 have q7:(e.kind == 7)=false:=by simp [hk]
 have q8:(e.kind == 8)=false:=by simp [hk]
 have q9:(e.kind == 9)=false:=by simp [hk]
 have q10:(e.kind == 10)=false:=by simp [hk]
 have HI2:Hid (inR e.n 0 40=true):=by show _=_;unfold inR;simpa using hn
 have h0:=HW.out.safe0;have h1:=HW.out.safe1;have hl:=HW.out.len
 have HFK:Hid (WInv { wd with log:=wd.log.take (min (wd.log.length:Int) (wd.safe+e.n)).toNat }):=set_log_ok HW.out (fun x hx=>HW.out.log x (List.mem_of_mem_take hx)) (by rw [List.length_take];omega) (by rw [List.length_take];omega)
 have HC:=Lib.hid (fall_s L ln wd.log wd.safe wd.up e.n _ HP.out.log (by omega) h0 (by omega) hn.1 (by omega))
 generalize wd.log.take (min (wd.log.length:Int) (wd.safe+e.n)).toNat=lf at *
 clear hk hn h0 h1 hl
 go_enter Tryz.func141,Tryz.ntmps141
 go_upto_region 2 with fail
 generalize (((w.alloc (oW wd L ln C xs cc N ys nc)).alloc (oV e)).alloc oW0)=W3 at *
 go_wp2_with fail
 refine (in_c _ _ _ _).mono ?_
 rintro r w' ⟨rfl,hw'⟩
 rw [HI2.out,hw']
 clear hw'
 go_wp2_with fail
 refine HC.out.mono ?_
 rintro r w5 ⟨L',n',rfl,hq,hb5⟩
 have hbx:=(hb5.block _ (blk_lt HX1.out)).trans HX1.out
 have hbz:=(hb5.block _ (blk_lt HX3.out)).trans HX3.out
 have hk9:KeepT w5 (((w5.setCell ⟨w.heap.size,0,none⟩ (.slice L' lf.length n')).setCell ⟨w.heap.size,1,none⟩ (.int .i64 wd.safe)).setCell ⟨w.heap.size,2,none⟩ (.bool wd.up)):=KeepT.grown (gset (gset (gset_any _ _ _ _) _ _) _ _) hbx (by decide) (by decide) (by decide) (by decide)
 have hpq:=HP.out.ext hb5
 have hp9:WP (((w5.setCell ⟨w.heap.size,0,none⟩ (.slice L' lf.length n')).setCell ⟨w.heap.size,1,none⟩ (.int .i64 wd.safe)).setCell ⟨w.heap.size,2,none⟩ (.bool wd.up)) base { wd with log:=lf } L' n' C cc N nc xs ys:=⟨hq.keep hk9 (.inr (.inl rfl)),(hpq.keep hk9).cli,(hpq.keep hk9).let_,(hpq.keep hk9).cls,(hpq.keep hk9).nets⟩
 have hT9:Turn (OwnB C N) w (((w5.setCell ⟨w.heap.size,0,none⟩ (.slice L' lf.length n')).setCell ⟨w.heap.size,1,none⟩ (.int .i64 wd.safe)).setCell ⟨w.heap.size,2,none⟩ (.bool wd.up)):=((((Turn.ext (S:=OwnB C N) (HE3.out.trans (hb5.mono HE3.out.size))).setNew (Nat.le_refl _) 0 _)).setNew (Nat.le_refl _) 1 _).setNew (Nat.le_refl _) 2 _
 have HBX:Hid ((((w5.setCell ⟨w.heap.size,0,none⟩ (.slice L' lf.length n')).setCell ⟨w.heap.size,1,none⟩ (.int .i64 wd.safe)).setCell ⟨w.heap.size,2,none⟩ (.bool wd.up)).heap[w.heap.size]?=some (.cells #[.slice L' lf.length n',.int .i64 wd.safe,.bool wd.up,.slice C xs.length cc,.slice N ys.length nc] 62 (0,0))):=set_at (set_at (set_at hbx))
 have HZX:Hid ((((w5.setCell ⟨w.heap.size,0,none⟩ (.slice L' lf.length n')).setCell ⟨w.heap.size,1,none⟩ (.int .i64 wd.safe)).setCell ⟨w.heap.size,2,none⟩ (.bool wd.up)).heap[w.heap.size+1+1]?=some (.cells cW0 62 (0,0))):=(setx (by omega)).trans ((setx (by omega)).trans ((setx (by omega)).trans hbz))
 have HPX:=Lib.hid hp9;have HTX:=Lib.hid hT9
 clear b0 b1 b2 b3 b4 bf d0 d1 d2 d3 d4 df e0 e1 e2 e3 e4 e5 e6 e7 ef
 obtain ⟨b0,b1,b2,b3,b4,bf⟩:=five_cells hbx
 clear hbx hbz hk9 hpq hp9 hT9 hq hb5 HC
 go_upto_region 19 with fail
 clear b0 b1 b2 b3 b4 bf
 have hs3:=HTX.out.size
 generalize (((w5.setCell ⟨w.heap.size,0,none⟩ (.slice L' lf.length n')).setCell ⟨w.heap.size,1,none⟩ (.int .i64 wd.safe)).setCell ⟨w.heap.size,2,none⟩ (.bool wd.up))=W4 at *
 have hz:=put5_at (.slice L' lf.length n') (.int .i64 wd.safe) (.bool wd.up) (.slice C xs.length cc) (.slice N ys.length nc) HZX.out
 have hk:KeepT W4 (put5 W4 (w.heap.size+1+1) (.slice L' lf.length n') (.int .i64 wd.safe) (.bool wd.up) (.slice C xs.length cc) (.slice N ys.length nc)):=KeepT.grown (gset (gset (gset (gset (gset_any _ _ _ _) _ _) _ _) _ _) _ _) HZX.out (by decide) (by decide) (by decide) (by decide)
 have hwR:w.heap.size≤w.heap.size+1+1:=by omega
 have hT:Turn (OwnB C N) w (put5 W4 (w.heap.size+1+1) (.slice L' lf.length n') (.int .i64 wd.safe) (.bool wd.up) (.slice C xs.length cc) (.slice N ys.length nc)):=(((((HTX.out).setNew hwR 0 _).setNew hwR 1 _).setNew hwR 2 _).setNew hwR 3 _).setNew hwR 4 _
 have HZ9:=Lib.hid hz;have HP9:=Lib.hid ((HPX.out).keep hk);have HT9:=Lib.hid hT
 clear hz hk hT
 obtain ⟨b0,b1,b2,b3,b4,bf⟩:=five_cells HBX.out
 obtain ⟨d0,d1,d2,d3,d4,df⟩:=five_cells HZX.out
 go_wp2_with fail
 obtain ⟨k0,k1,k2,k3,k4,kf⟩:=five_cells HZ9.out
 refine bodyPost_ret (v:=.agg #[.slice L' lf.length n',.int .i64 wd.safe,.bool wd.up,.slice C xs.length cc,.slice N ys.length nc]) ?_ rfl ?_
 ·simp [results,Tryz.f141,go_sem,k0,k1,k2,k3,k4]
 ·exact ⟨{ wd with log:=lf },L',n',C,cc,N,nc,xs,ys,rfl,HFK.out,HP9.out,HT9.out,fun k h=>.inl h⟩
theorem do22_s (wd:Wd) (e:Ev) (base:Nat) (L:Option Addr) (ln:Nat) (C:Option Addr) (cc:Nat) (N:Option Addr) (nc:Nat) (xs:List RC) (ys:List RL) (w:World) (hp:WP w base wd L ln C cc N nc xs ys) (hb:base≤w.heap.size) (hw:WInv wd) (ho:OpW e.op) (hs:e.op.text.size≤maxLen) :
  Calls Tryz.prog 141 #[.agg (cW wd L ln C xs cc N ys nc),.agg (cV e)] w (StepP w base C N):=by
 by_cases h1:e.kind=1
 ·exact do22_who wd e base L ln C cc N nc xs ys w hp hb hw ho hs (.inl h1)
 by_cases h2:e.kind=2
 ·exact do22_who wd e base L ln C cc N nc xs ys w hp hb hw ho hs (.inr (.inl h2))
 by_cases h3:e.kind=3
 ·by_cases hu:wd.up=true
  ·exact do22_sync wd e base L ln C cc N nc xs ys w hp hb hw h3 hu
  ·exact do22_sync0 wd e base L ln C cc N nc xs ys w hp hb hw h3 (by simpa using hu)
 by_cases h4:e.kind=4
 ·exact do22_who wd e base L ln C cc N nc xs ys w hp hb hw ho hs (.inr (.inr h4))
 by_cases h5:e.kind=5
 ·by_cases hn:0≤e.n∧e.n≤40
  ·exact do22_fall wd e base L ln C cc N nc xs ys w hp hb hw h5 hn
  ·exact do22_fall0 wd e base L ln C cc N nc xs ys w hp hb hw h5 hn
 by_cases h6:e.kind=6
 ·exact do22_k6 wd e base L ln C cc N nc xs ys w hp hb hw h6
 by_cases h7:e.kind=7
 ·exact do22_k7 wd e base L ln C cc N nc xs ys w hp hb hw h7
 by_cases h8:e.kind=8
 ·exact do22_net wd e base L ln C cc N nc xs ys w hp hb hw (.inl h8)
 by_cases h9:e.kind=9
 ·exact do22_net wd e base L ln C cc N nc xs ys w hp hb hw (.inr (.inl h9))
 by_cases h10:e.kind=10
 ·exact do22_net wd e base L ln C cc N nc xs ys w hp hb hw (.inr (.inr h10))
 ·exact do22_else wd e base L ln C cc N nc xs ys w hp hb hw (fun j h1 h2 h=>by omega)
end Go.Proofs.YtecmcjfdaipfcaaGreatDoor
