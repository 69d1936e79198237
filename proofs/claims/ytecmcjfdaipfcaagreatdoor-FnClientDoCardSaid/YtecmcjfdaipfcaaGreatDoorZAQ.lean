/- Walk of the reference: a letter is brought to somebody. .. Walk of the reference: something is done with a letter under way. -/
import Derived.Test.YtecmcjfdaipfcaaGreatDoorZAP
namespace Go.Proofs.YtecmcjfdaipfcaaGreatDoor
open Go.RowKit Go.Lib
set_option linter.unusedVariables false
set_option linter.unusedSimpArgs false
theorem Own.at0w {α:Type} [Flat α] {e:TypeId} {w:World} {base n c:Nat} {A:Option Addr} {l:List α} (h:Own e w base (.slice A n c) l) (hn:0<n):∃ g,A=some ⟨g,0,none⟩:=by
 rcases h.1.2 with ⟨h9,h8⟩ | ⟨g,cap,cur,h9,_⟩
 ·simp only [Value.slice.injEq] at h9;omega
 ·simp only [Value.slice.injEq] at h9;exact ⟨g,h9.1⟩
theorem Own.frzw {α:Type} [Flat α] {e:TypeId} {w:World} {base g n cap:Nat} {L:List α} (h:Own e w base (.slice (some ⟨g,0,none⟩) n cap) L):∀ o,w.frozen? ⟨g,o,none⟩=false:=by
 rcases h.1.2 with ⟨h9,_⟩ | ⟨g9,cap9,cur9,h9,_,h8,_⟩
 ·cases h9
 ·simp only [Value.slice.injEq,Option.some.injEq,Addr.mk.injEq,and_true] at h9
  obtain ⟨h91,-⟩:=h9
  subst h91
  intro o
  simp [World.frozen?,h8]
theorem own_put_rc {w:World} {base g cap n:Nat} {L:List RC} (h:Own 26 w base (.slice (some ⟨g,0,none⟩) n cap) L) (hn:L.length=n) (k:Nat) (hk:k<n) (x:RC) :
  Own 26 ((((((w.setCell ⟨g,k*6,none⟩ (.int .i64 x.who)).setCell ⟨g,k*6+1,none⟩ (.int .i64 x.seen)).setCell ⟨g,k*6+2,none⟩ (.slice x.b x.bl x.bn)).setCell ⟨g,k*6+3,none⟩ (.slice x.q x.ql x.qn)).setCell ⟨g,k*6+4,none⟩ (.int .i64 x.done)).setCell ⟨g,k*6+5,none⟩ (.int .i64 x.made)) base (.slice (some ⟨g,0,none⟩) n cap) (L.set k x):=by
 subst hn
 have e0:=(Own.store h k hk ⟨x.who,L[k].seen,L[k].b,L[k].bl,L[k].bn,L[k].q,L[k].ql,L[k].qn,L[k].done,L[k].made⟩ trivial 0 (.int .i64 x.who) (by decide) rfl).1
 have e1:=(Own.store (l:=L.set k ⟨x.who,L[k].seen,L[k].b,L[k].bl,L[k].bn,L[k].q,L[k].ql,L[k].qn,L[k].done,L[k].made⟩) (by rw [List.length_set] at *;exact e0) k (by rw [List.length_set];exact hk) ⟨x.who,x.seen,L[k].b,L[k].bl,L[k].bn,L[k].q,L[k].ql,L[k].qn,L[k].done,L[k].made⟩ trivial 1 (.int .i64 x.seen) (by decide) (by rw [List.getElem_set_self];rfl)).1
 rw [List.set_set] at e1
 have e2:=(Own.store (l:=L.set k ⟨x.who,x.seen,L[k].b,L[k].bl,L[k].bn,L[k].q,L[k].ql,L[k].qn,L[k].done,L[k].made⟩) (by rw [List.length_set] at *;exact e1) k (by rw [List.length_set];exact hk) ⟨x.who,x.seen,x.b,x.bl,x.bn,L[k].q,L[k].ql,L[k].qn,L[k].done,L[k].made⟩ trivial 2 (.slice x.b x.bl x.bn) (by decide) (by rw [List.getElem_set_self];rfl)).1
 rw [List.set_set] at e2
 have e3:=(Own.store (l:=L.set k ⟨x.who,x.seen,x.b,x.bl,x.bn,L[k].q,L[k].ql,L[k].qn,L[k].done,L[k].made⟩) (by rw [List.length_set] at *;exact e2) k (by rw [List.length_set];exact hk) ⟨x.who,x.seen,x.b,x.bl,x.bn,x.q,x.ql,x.qn,L[k].done,L[k].made⟩ trivial 3 (.slice x.q x.ql x.qn) (by decide) (by rw [List.getElem_set_self];rfl)).1
 rw [List.set_set] at e3
 have e4:=(Own.store (l:=L.set k ⟨x.who,x.seen,x.b,x.bl,x.bn,x.q,x.ql,x.qn,L[k].done,L[k].made⟩) (by rw [List.length_set] at *;exact e3) k (by rw [List.length_set];exact hk) ⟨x.who,x.seen,x.b,x.bl,x.bn,x.q,x.ql,x.qn,x.done,L[k].made⟩ trivial 4 (.int .i64 x.done) (by decide) (by rw [List.getElem_set_self];rfl)).1
 rw [List.set_set] at e4
 have e5:=(Own.store (l:=L.set k ⟨x.who,x.seen,x.b,x.bl,x.bn,x.q,x.ql,x.qn,x.done,L[k].made⟩) (by rw [List.length_set] at *;exact e4) k (by rw [List.length_set];exact hk) ⟨x.who,x.seen,x.b,x.bl,x.bn,x.q,x.ql,x.qn,x.done,x.made⟩ trivial 5 (.int .i64 x.made) (by decide) (by rw [List.getElem_set_self];rfl)).1
 rw [List.set_set] at e5
 rw [List.length_set] at e5
 exact e5
theorem WP.put {W W':World} {base:Nat} {w:Wd} {L N:Option Addr} {ln g cc nc:Nat} {xs:List RC} {ys:List RL} (h:WP W base w L ln (some ⟨g,0,none⟩) cc N nc xs ys) (hT:Turn (fun k=>k=g) W W') (i:Nat) (x:RC) (c:Client) (ho:Own 26 W' base (.slice (some ⟨g,0,none⟩) xs.length cc) (xs.set i x)) (hx:RcOk W' x c) :
  WP W' base { w with cls:=w.cls.set i c } L ln (some ⟨g,0,none⟩) cc N nc (xs.set i x) ys:=by
 obtain ⟨cs,m,hg⟩:=h.cli.ty g rfl
 have hn:∀ (e:TypeId),e≠26→∀ k,k=g→∀ cs' m',W.heap[k]?≠some (.cells cs' e m'):=by
  rintro e he k rfl cs' m' h2
  rw [hg] at h2
  injection h2 with h2;injection h2 with _ h2
  exact he h2.symm
 refine ⟨h.log.turn hT (hn _ (by decide)),by rw [List.length_set];exact ho,h.let_.turn hT (fun k hk e0=>?_),?_,h.nets.imp (fun x m hl=>?_)⟩
 ·obtain ⟨c2,m2,h2⟩:=h.let_.ty k hk
  exact hn _ (by decide) k e0 _ _ h2
 ·refine (h.cls.imp (fun x c hl=>?_)).set i hx
  obtain ⟨b,bn,q,qn,rfl,r1,r2⟩:=hl
  exact ⟨b,bn,q,qn,rfl,r1.turn hT (hn _ (by decide)),r2.turn hT (hn _ (by decide))⟩
 ·obtain ⟨a,n,rfl,r1⟩:=hl
  exact ⟨a,n,rfl,r1.turn hT (hn _ (by decide))⟩
theorem no_late {b:Bool} (h:b=false) (h':b=true):False:=by rw [h] at h';cases h'
theorem CT.raw2 {W:World} {c:Client} {v:Value} (h:CT W c v):∃ x:RC,v=.agg (cR x)∧RcOk W x c:=by
 obtain ⟨A1,n1,A2,n2,rfl,h1,h2⟩:=h
 exact ⟨⟨c.who,c.seen,A1,c.base.length,n1,A2,c.wait.length,n2,c.done,c.made⟩,rfl,A1,n1,A2,n2,rfl,h1,h2⟩
def BcP (w:World) (base:Nat) (wd:Wd) (i:Nat) (c:Client) (L:Option Addr) (ln g cc:Nat) (N:Option Addr) (nc:Nat) (xs:List RC) (ys:List RL) (wx:World):Prop:=
 ∃ x:RC,wx.heap[w.heap.size]?=some (.cells #[.slice L wd.log.length ln,.int .i64 wd.safe,.bool wd.up,.slice (some ⟨g,0,none⟩) xs.length cc,.slice N ys.length nc] 62 (0,0))∧wx.heap[w.heap.size+1+1]?=some (.cells #[.slice none 0 0,.int .i64 0,.bool false,.slice none 0 0,.slice none 0 0] 62 (0,0))∧WP wx base { wd with cls:=wd.cls.set i c } L ln (some ⟨g,0,none⟩) cc N nc (xs.set i x) ys∧Turn (fun k=>k=g) w wx
set_option maxRecDepth 100000 in
set_option maxHeartbeats 4000000 in
theorem bring1g_s (wd:Wd) (m:Lt) (base:Nat) (L:Option Addr) (ln:Nat) (g cc:Nat) (N:Option Addr) (nc:Nat) (xs:List RC) (ys:List RL) (A:Option Addr) (an:Nat) (w:World) (hp:WP w base wd L ln (some ⟨g,0,none⟩) cc N nc xs ys) (hm:RdT 35 w A an m.list) (hb:base≤w.heap.size) (i:Nat) (hd:m.dst=(i:Int)+1) (hi:i<xs.length) (hi2:i<wd.cls.length) (hx3:xs.length≤3) (hok:clientOk wd.cls[i]=true) (hm0:LInv m) :
  Calls Tryz.prog 160 #[.agg #[.slice L wd.log.length ln,.int .i64 wd.safe,.bool wd.up,.slice (some ⟨g,0,none⟩) xs.length cc,.slice N ys.length nc],.agg (cL m A an)] w fun x w'=>∃ xs':List RC,x=.returned (.agg #[.slice L wd.log.length ln,.int .i64 wd.safe,.bool wd.up,.slice (some ⟨g,0,none⟩) xs'.length cc,.slice N ys.length nc])∧WP w' base { wd with cls:=wd.cls.set i (hearS wd.cls[i] m.frm m.list).1 } L ln (some ⟨g,0,none⟩) cc N nc xs' ys∧Turn (OwnB (some ⟨g,0,none⟩) none) w w':=by
 have h3:=three_all w (.cells #[.slice L wd.log.length ln,.int .i64 wd.safe,.bool wd.up,.slice (some ⟨g,0,none⟩) xs.length cc,.slice N ys.length nc] 62) (oL m A an) oW0
 have hE3:Ext w (((w.alloc (.cells #[.slice L wd.log.length ln,.int .i64 wd.safe,.bool wd.up,.slice (some ⟨g,0,none⟩) xs.length cc,.slice N ys.length nc] 62)).alloc (oL m A an)).alloc oW0):=ext3 _ _ _ _
 have hz3:(((w.alloc (.cells #[.slice L wd.log.length ln,.int .i64 wd.safe,.bool wd.up,.slice (some ⟨g,0,none⟩) xs.length cc,.slice N ys.length nc] 62)).alloc (oL m A an)).alloc oW0).heap.size=w.heap.size+3:=by simp only [alloc_sz]
 have HX1:=Lib.hid h3.1;have HX2:=Lib.hid h3.2.1;have HX3:=Lib.hid h3.2.2;have HE3:=Lib.hid hE3
 have HP:=Lib.hid (hp.ext hE3);have HM:=Lib.hid (hm.ext hE3)
 have hgw:g<w.heap.size:=by
  obtain ⟨cs,mm,hg9⟩:=hp.cli.ty g rfl
  exact blk_lt hg9
 obtain ⟨c0,c1,c2,cf⟩:=tri_cells h3.2.1
 have h0':(m.dst == 0)=false:=by simp;omega
 have HD:=Lib.hid hd
 clear h3 hE3 hp hm hd
 go_enter Tryz.func160,Tryz.ntmps160
 go_upto_region 4 with fail
 clear c0 c1 c2 cf
 generalize (((w.alloc (.cells #[.slice L wd.log.length ln,.int .i64 wd.safe,.bool wd.up,.slice (some ⟨g,0,none⟩) xs.length cc,.slice N ys.length nc] 62)).alloc (oL m A an)).alloc oW0)=W3 at *
 obtain ⟨b0,b1,b2,b3,b4,bf⟩:=five_cells HX1.out
 obtain ⟨c0,c1,c2,cf⟩:=tri_cells HX2.out
 obtain ⟨g',off',e9,hbg,x0,x1,x2,x3,x4,x5⟩:=rc_at HP.out.cli.rdT.1 i hi
 injection e9 with e9;injection e9 with e91 e92;subst e91;subst e92
 simp only [Nat.zero_add] at x0 x1 x2 x3 x4 x5
 have hct:=HP.out.ct i hi hi2
 have hw1:IntKind.i64.wrap (m.dst - 1)=(i:Int):=by have:=HD.out;rw [IntKind.wrap_i64];omega
 have hil:(i:Int)<xs.length:=by omega
 obtain ⟨hm1,hm2,hm3,hm4,hm5⟩:=hm0
 have HC:=Lib.hid (hear_s wd.cls[i] _ m.frm A an m.list W3.drew (hct.ext ((Below.refl _ _).drew)) (HM.out.1.ext ((Below.refl _ _).drew)) hok hm2.1 hm2.2 hm3 (by omega))
 have hfz:=HP.out.cli.frzw
 have hs1:=blk_lt HX1.out;have hs2:=blk_lt HX2.out
 have HS:Hid (W3.drew.cell? ⟨w.heap.size,3,none⟩=some (.slice (some ⟨g,0,none⟩) xs.length cc)∧W3.drew.cell? ⟨w.heap.size+1,0,none⟩=some (.int .i64 m.dst)∧W3.drew.cell? ⟨w.heap.size+1,1,none⟩=some (.int .i64 m.frm)∧W3.drew.cell? ⟨w.heap.size+1,2,none⟩=some (.slice A m.list.length an)∧W3.drew.cell? ⟨g,i*6,none⟩=some (.int .i64 xs[i].who)∧W3.drew.cell? ⟨g,i*6+1,none⟩=some (.int .i64 xs[i].seen)∧W3.drew.cell? ⟨g,i*6+2,none⟩=some (.slice xs[i].b xs[i].bl xs[i].bn)∧W3.drew.cell? ⟨g,i*6+3,none⟩=some (.slice xs[i].q xs[i].ql xs[i].qn)∧W3.drew.cell? ⟨g,i*6+4,none⟩=some (.int .i64 xs[i].done)∧W3.drew.cell? ⟨g,i*6+5,none⟩=some (.int .i64 xs[i].made)):=Lib.hid ⟨b3,c0,c1,c2,x0,x1,x2,x3,x4,x5⟩
 clear b0 b1 b2 b3 b4 bf c0 c1 c2 cf x0 x1 x2 x3 x4 x5
 have fin:∀ (w5:World) (x:RC),RcOk w5 x (hearS wd.cls[i] m.frm m.list).1→Ext W3.drew w5→BcP w base wd i (hearS wd.cls[i] m.frm m.list).1 L ln g cc N nc xs ys ((((((w5.setCell ⟨g,i*6,none⟩ (.int .i64 x.who)).setCell ⟨g,i*6+1,none⟩ (.int .i64 x.seen)).setCell ⟨g,i*6+2,none⟩ (.slice x.b x.bl x.bn)).setCell ⟨g,i*6+3,none⟩ (.slice x.q x.ql x.qn)).setCell ⟨g,i*6+4,none⟩ (.int .i64 x.done)).setCell ⟨g,i*6+5,none⟩ (.int .i64 x.made)):=fun w5 x hx hb5=>by
  have hE5:Ext W3 w5:=((Below.refl _ _).drew).trans hb5
  have hp5:=HP.out.ext hE5
  have ho:=own_put_rc hp5.cli rfl i hi x
  have hg5:w5.grownBy ((((((w5.setCell ⟨g,i*6,none⟩ (.int .i64 x.who)).setCell ⟨g,i*6+1,none⟩ (.int .i64 x.seen)).setCell ⟨g,i*6+2,none⟩ (.slice x.b x.bl x.bn)).setCell ⟨g,i*6+3,none⟩ (.slice x.q x.ql x.qn)).setCell ⟨g,i*6+4,none⟩ (.int .i64 x.done)).setCell ⟨g,i*6+5,none⟩ (.int .i64 x.made)) (some g):=gset (gset (gset (gset (gset (gset_any _ _ _ _) _ _) _ _) _ _) _ _) _ _
  have hT5:Turn (fun k=>k=g) w5 ((((((w5.setCell ⟨g,i*6,none⟩ (.int .i64 x.who)).setCell ⟨g,i*6+1,none⟩ (.int .i64 x.seen)).setCell ⟨g,i*6+2,none⟩ (.slice x.b x.bl x.bn)).setCell ⟨g,i*6+3,none⟩ (.slice x.q x.ql x.qn)).setCell ⟨g,i*6+4,none⟩ (.int .i64 x.done)).setCell ⟨g,i*6+5,none⟩ (.int .i64 x.made)):=Turn.grown hg5 (fun k hk=>by injection hk with hk;exact hk.symm)
  have hx5:RcOk ((((((w5.setCell ⟨g,i*6,none⟩ (.int .i64 x.who)).setCell ⟨g,i*6+1,none⟩ (.int .i64 x.seen)).setCell ⟨g,i*6+2,none⟩ (.slice x.b x.bl x.bn)).setCell ⟨g,i*6+3,none⟩ (.slice x.q x.ql x.qn)).setCell ⟨g,i*6+4,none⟩ (.int .i64 x.done)).setCell ⟨g,i*6+5,none⟩ (.int .i64 x.made)) x (hearS wd.cls[i] m.frm m.list).1:=by
   obtain ⟨cs,mm,hg9⟩:=hp5.cli.ty g rfl
   obtain ⟨b,bn,q,qn,rfl,r1,r2⟩:=hx
   have hn:∀ (e:TypeId),e≠26→∀ k,k=g→∀ cs' m',w5.heap[k]?≠some (.cells cs' e m'):=by
    rintro e he k rfl cs' m' h2
    rw [hg9] at h2
    injection h2 with h2;injection h2 with _ h2
    exact he h2.symm
   exact ⟨b,bn,q,qn,rfl,r1.turn hT5 (hn _ (by decide)),r2.turn hT5 (hn _ (by decide))⟩
  refine ⟨x,(hg5.block _ (blk_lt ((hE5.block _ hs1).trans HX1.out)) (by intro e;injection e with e;omega)).trans ((hE5.block _ hs1).trans HX1.out),(hg5.block _ (blk_lt ((hE5.block _ (blk_lt HX3.out)).trans HX3.out)) (by intro e;injection e with e;omega)).trans ((hE5.block _ (blk_lt HX3.out)).trans HX3.out),hp5.put hT5 i x _ ho hx5,(Turn.ext (HE3.out.trans (hE5.mono HE3.out.size))).then hT5 (fun k hk=>.inl hk)⟩
 have FIN:=Lib.hid fin
 clear fin
 go_cut [20] (fun s wx=>BcP w base wd i (hearS wd.cls[i] m.frm m.list).1 L ln g cc N nc xs ys wx)
 case first=>
  refine wp_region_B (fun w'=>w'.cell? ⟨w.heap.size,3,none⟩=some (.slice (some ⟨g,0,none⟩) xs.length cc)∧w'.cell? ⟨w.heap.size+1,0,none⟩=some (.int .i64 m.dst)∧w'.cell? ⟨w.heap.size+1,1,none⟩=some (.int .i64 m.frm)∧w'.cell? ⟨w.heap.size+1,2,none⟩=some (.slice A m.list.length an)∧w'.cell? ⟨g,i*6,none⟩=some (.int .i64 xs[i].who)∧w'.cell? ⟨g,i*6+1,none⟩=some (.int .i64 xs[i].seen)∧w'.cell? ⟨g,i*6+2,none⟩=some (.slice xs[i].b xs[i].bl xs[i].bn)∧w'.cell? ⟨g,i*6+3,none⟩=some (.slice xs[i].q xs[i].ql xs[i].qn)∧w'.cell? ⟨g,i*6+4,none⟩=some (.int .i64 xs[i].done)∧w'.cell? ⟨g,i*6+5,none⟩=some (.int .i64 xs[i].made)) 21 (by kernel_rfl) ?_
  refine WB.take (i:=0) (v:=?_) rfl (by kernel_rfl) (by kernel_rfl) (by kernel_rfl) (by kernel_rfl) (fun _ _ _ h=>h) HS.out (Or.inl ⟨by rfl,?_⟩) ?_
  rotate_left
  ·(rintro w ⟨s0,s1,s2,s3,y0,y1,y2,y3,y4,y5⟩;go_simp;try with_reducible rfl)
  try simp only [Act.put,List.setIfInBounds_toArray,List.set_cons_zero,List.set_cons_succ]
  refine WB.take (i:=1) (v:=?_) rfl (by kernel_rfl) (by kernel_rfl) (by kernel_rfl) (by kernel_rfl) (fun _ _ _ h=>h) HS.out (Or.inl ⟨by rfl,?_⟩) ?_
  rotate_left
  ·(rintro w ⟨s0,s1,s2,s3,y0,y1,y2,y3,y4,y5⟩;go_simp;try with_reducible rfl)
  try simp only [Act.put,List.setIfInBounds_toArray,List.set_cons_zero,List.set_cons_succ]
  refine WB.take (i:=2) (v:=?_) rfl (by kernel_rfl) (by kernel_rfl) (by kernel_rfl) (by kernel_rfl) (fun _ _ _ h=>h) HS.out (Or.inl ⟨by rfl,?_⟩) ?_
  rotate_left
  ·(rintro w ⟨s0,s1,s2,s3,y0,y1,y2,y3,y4,y5⟩;go_simp;try with_reducible rfl)
  try simp only [Act.put,List.setIfInBounds_toArray,List.set_cons_zero,List.set_cons_succ]
  refine WB.take (i:=3) (v:=?_) rfl (by kernel_rfl) (by kernel_rfl) (by kernel_rfl) (by kernel_rfl) (fun _ _ _ h=>h) HS.out (Or.inl ⟨by rfl,?_⟩) ?_
  rotate_left
  ·(rintro w ⟨s0,s1,s2,s3,y0,y1,y2,y3,y4,y5⟩;go_simp;try with_reducible rfl)
  try simp only [Act.put,List.setIfInBounds_toArray,List.set_cons_zero,List.set_cons_succ]
  refine WB.take (i:=4) (v:=?_) rfl (by kernel_rfl) (by kernel_rfl) (by kernel_rfl) (by kernel_rfl) (fun _ _ _ h=>h) HS.out (Or.inl ⟨by rfl,?_⟩) ?_
  rotate_left
  ·(rintro w ⟨s0,s1,s2,s3,y0,y1,y2,y3,y4,y5⟩;go_simp;try with_reducible rfl)
  try simp only [Act.put,List.setIfInBounds_toArray,List.set_cons_zero,List.set_cons_succ]
  refine WB.take (i:=5) (v:=?_) rfl (by kernel_rfl) (by kernel_rfl) (by kernel_rfl) (by kernel_rfl) (fun _ _ _ h=>h) HS.out (Or.inl ⟨by rfl,?_⟩) ?_
  rotate_left
  ·(rintro w ⟨s0,s1,s2,s3,y0,y1,y2,y3,y4,y5⟩;go_simp;try with_reducible rfl)
  try simp only [Act.put,List.setIfInBounds_toArray,List.set_cons_zero,List.set_cons_succ]
  refine WB.take (i:=6) (v:=?_) rfl (by kernel_rfl) (by kernel_rfl) (by kernel_rfl) (by kernel_rfl) (fun _ _ _ h=>h) HS.out (Or.inl ⟨by rfl,?_⟩) ?_
  rotate_left
  ·(rintro w ⟨s0,s1,s2,s3,y0,y1,y2,y3,y4,y5⟩;go_simp;try with_reducible rfl)
  try simp only [Act.put,List.setIfInBounds_toArray,List.set_cons_zero,List.set_cons_succ]
  refine WB.take (i:=7) (v:=?_) rfl (by kernel_rfl) (by kernel_rfl) (by kernel_rfl) (by kernel_rfl) (fun _ _ _ h=>h) HS.out (Or.inl ⟨by rfl,?_⟩) ?_
  rotate_left
  ·(rintro w ⟨s0,s1,s2,s3,y0,y1,y2,y3,y4,y5⟩;go_simp;try with_reducible rfl)
  try simp only [Act.put,List.setIfInBounds_toArray,List.set_cons_zero,List.set_cons_succ]
  refine WB.take (i:=8) (v:=?_) rfl (by kernel_rfl) (by kernel_rfl) (by kernel_rfl) (by kernel_rfl) (fun _ _ _ h=>h) HS.out (Or.inl ⟨by rfl,?_⟩) ?_
  rotate_left
  ·(rintro w ⟨s0,s1,s2,s3,y0,y1,y2,y3,y4,y5⟩;go_simp;try with_reducible rfl)
  try simp only [Act.put,List.setIfInBounds_toArray,List.set_cons_zero,List.set_cons_succ]
  refine WB.take (i:=9) (v:=?_) rfl (by kernel_rfl) (by kernel_rfl) (by kernel_rfl) (by kernel_rfl) (fun _ _ _ h=>h) HS.out (Or.inl ⟨by rfl,?_⟩) ?_
  rotate_left
  ·(rintro w ⟨s0,s1,s2,s3,y0,y1,y2,y3,y4,y5⟩;go_simp;try with_reducible rfl)
  try simp only [Act.put,List.setIfInBounds_toArray,List.set_cons_zero,List.set_cons_succ]
  refine WB.take (i:=10) (v:=?_) rfl (by kernel_rfl) (by kernel_rfl) (by kernel_rfl) (by kernel_rfl) (fun _ _ _ h=>h) HS.out (Or.inl ⟨by rfl,?_⟩) ?_
  rotate_left
  ·(rintro w ⟨s0,s1,s2,s3,y0,y1,y2,y3,y4,y5⟩;go_simp;try with_reducible rfl)
  try simp only [Act.put,List.setIfInBounds_toArray,List.set_cons_zero,List.set_cons_succ]
  refine WB.take (i:=11) (v:=?_) rfl (by kernel_rfl) (by kernel_rfl) (by kernel_rfl) (by kernel_rfl) (fun _ _ _ h=>h) HS.out (Or.inl ⟨by rfl,?_⟩) ?_
  rotate_left
  ·(rintro w ⟨s0,s1,s2,s3,y0,y1,y2,y3,y4,y5⟩;go_simp;try with_reducible rfl)
  try simp only [Act.put,List.setIfInBounds_toArray,List.set_cons_zero,List.set_cons_succ]
  refine WB.take (i:=12) (v:=?_) rfl (by kernel_rfl) (by kernel_rfl) (by kernel_rfl) (by kernel_rfl) (fun _ _ _ h=>h) HS.out (Or.inl ⟨by rfl,?_⟩) ?_
  rotate_left
  ·(rintro w ⟨s0,s1,s2,s3,y0,y1,y2,y3,y4,y5⟩;go_simp;try with_reducible rfl)
  try simp only [Act.put,List.setIfInBounds_toArray,List.set_cons_zero,List.set_cons_succ]
  refine WB.take (i:=13) (v:=?_) rfl (by kernel_rfl) (by kernel_rfl) (by kernel_rfl) (by kernel_rfl) (fun _ _ _ h=>h) HS.out (Or.inl ⟨by rfl,?_⟩) ?_
  rotate_left
  ·(rintro w ⟨s0,s1,s2,s3,y0,y1,y2,y3,y4,y5⟩;go_simp;try with_reducible rfl)
  try simp only [Act.put,List.setIfInBounds_toArray,List.set_cons_zero,List.set_cons_succ]
  refine WB.take (i:=14) (v:=?_) rfl (by kernel_rfl) (by kernel_rfl) (by kernel_rfl) (by kernel_rfl) (fun _ _ _ h=>h) HS.out (Or.inl ⟨by rfl,?_⟩) ?_
  rotate_left
  ·(rintro w ⟨s0,s1,s2,s3,y0,y1,y2,y3,y4,y5⟩;go_simp;try with_reducible rfl)
  try simp only [Act.put,List.setIfInBounds_toArray,List.set_cons_zero,List.set_cons_succ]
  refine WB.take (i:=15) (v:=?_) rfl (by kernel_rfl) (by kernel_rfl) (by kernel_rfl) (by kernel_rfl) (fun _ _ _ h=>h) HS.out (Or.inl ⟨by rfl,?_⟩) ?_
  rotate_left
  ·(rintro w ⟨s0,s1,s2,s3,y0,y1,y2,y3,y4,y5⟩;go_simp;try with_reducible rfl)
  try simp only [Act.put,List.setIfInBounds_toArray,List.set_cons_zero,List.set_cons_succ]
  refine WB.one (i:=16) (by kernel_rfl) rfl (fun K hK=>?_)
  have HK:=Lib.hid hK
  clear hK
  go_simp
  refine HC.out.mono ?_
  rintro r w5 ⟨v5,rfl,hct5,hb5⟩
  obtain ⟨x,rfl,hx⟩:=hct5.raw2
  have q0:=(HS.out).1
  have q1:=(HS.out).2.1
  have q2:=(HS.out).2.2.1
  have q3:=(HS.out).2.2.2.1
  have q4:=(HS.out).2.2.2.2.1
  have q5:=(HS.out).2.2.2.2.2.1
  have q6:=(HS.out).2.2.2.2.2.2.1
  have q7:=(HS.out).2.2.2.2.2.2.2.1
  have q8:=(HS.out).2.2.2.2.2.2.2.2.1
  have q9:=(HS.out).2.2.2.2.2.2.2.2.2
  have HS5:Hid (w5.cell? ⟨w.heap.size,3,none⟩=some (.slice (some ⟨g,0,none⟩) xs.length cc)∧w5.cell? ⟨w.heap.size+1,0,none⟩=some (.int .i64 m.dst)∧w5.cell? ⟨w.heap.size+1,1,none⟩=some (.int .i64 m.frm)∧w5.cell? ⟨w.heap.size+1,2,none⟩=some (.slice A m.list.length an)∧w5.cell? ⟨g,i*6,none⟩=some (.int .i64 xs[i].who)∧w5.cell? ⟨g,i*6+1,none⟩=some (.int .i64 xs[i].seen)∧w5.cell? ⟨g,i*6+2,none⟩=some (.slice xs[i].b xs[i].bl xs[i].bn)∧w5.cell? ⟨g,i*6+3,none⟩=some (.slice xs[i].q xs[i].ql xs[i].qn)∧w5.cell? ⟨g,i*6+4,none⟩=some (.int .i64 xs[i].done)∧w5.cell? ⟨g,i*6+5,none⟩=some (.int .i64 xs[i].made)):=Lib.hid ⟨(hb5.cell (p:=⟨w.heap.size,3,none⟩) (by first | exact hs1 | exact hs2)).trans q0,(hb5.cell (p:=⟨w.heap.size+1,0,none⟩) (by first | exact hs1 | exact hs2)).trans q1,(hb5.cell (p:=⟨w.heap.size+1,1,none⟩) (by first | exact hs1 | exact hs2)).trans q2,(hb5.cell (p:=⟨w.heap.size+1,2,none⟩) (by first | exact hs1 | exact hs2)).trans q3,(hb5.cell (p:=⟨g,i*6,none⟩) hbg).trans q4,(hb5.cell (p:=⟨g,i*6+1,none⟩) hbg).trans q5,(hb5.cell (p:=⟨g,i*6+2,none⟩) hbg).trans q6,(hb5.cell (p:=⟨g,i*6+3,none⟩) hbg).trans q7,(hb5.cell (p:=⟨g,i*6+4,none⟩) hbg).trans q8,(hb5.cell (p:=⟨g,i*6+5,none⟩) hbg).trans q9⟩
  have HX:=Lib.hid hx;have HB5:=Lib.hid hb5
  clear q0 q1 q2 q3 q4 q5 q6 q7 q8 q9 hx hct5
  have hf5:∀ o,w5.frozen? ⟨g,o,none⟩=false:=fun o=>(hb5.frozen (p:=⟨g,o,none⟩) hbg).trans (hfz o)
  clear hfz hb5
  refine HK.out _ _ ⟨fun _=>HS5.out,?_⟩
  clear HK K HS
  refine WB.takeP (i:=17) (v:=?_) rfl (by kernel_rfl) (by kernel_rfl) (by kernel_rfl) (by kernel_rfl) (fun _ _ _ h=>h) HS5.out (Or.inl ⟨by rfl,?_⟩) ?_
  rotate_left
  ·(rintro w -;go_simp;try with_reducible rfl)
  try simp only [Act.put,List.setIfInBounds_toArray,List.set_cons_zero,List.set_cons_succ]
  refine WB.takeP (i:=18) (v:=?_) rfl (by kernel_rfl) (by kernel_rfl) (by kernel_rfl) (by kernel_rfl) (fun _ _ _ h=>h) HS5.out (Or.inl ⟨by rfl,?_⟩) ?_
  rotate_left
  ·(rintro w -;go_simp;try with_reducible rfl)
  try simp only [Act.put,List.setIfInBounds_toArray,List.set_cons_zero,List.set_cons_succ]
  refine WB.takeP (i:=19) (v:=?_) rfl (by kernel_rfl) (by kernel_rfl) (by kernel_rfl) (by kernel_rfl) (fun _ _ _ h=>h) HS5.out (Or.inl ⟨by rfl,?_⟩) ?_
  rotate_left
  ·(rintro w -;go_simp;try with_reducible rfl)
  try simp only [Act.put,List.setIfInBounds_toArray,List.set_cons_zero,List.set_cons_succ]
  refine WB.takeP (i:=20) (v:=?_) rfl (by kernel_rfl) (by kernel_rfl) (by kernel_rfl) (by kernel_rfl) (fun _ _ _ h=>h) HS5.out (Or.inl ⟨by rfl,?_⟩) ?_
  rotate_left
  ·(rintro w -;go_simp;try with_reducible rfl)
  try simp only [Act.put,List.setIfInBounds_toArray,List.set_cons_zero,List.set_cons_succ]
  refine WB.one (i:=21) (by kernel_rfl) rfl (fun K hK=>?_)
  have HK:=Lib.hid hK
  clear hK
  have q0:=(HS5.out).1
  have q1:=(HS5.out).2.1
  have q2:=(HS5.out).2.2.1
  have q3:=(HS5.out).2.2.2.1
  have q4:=(HS5.out).2.2.2.2.1
  have q5:=(HS5.out).2.2.2.2.2.1
  have q6:=(HS5.out).2.2.2.2.2.2.1
  have q7:=(HS5.out).2.2.2.2.2.2.2.1
  have q8:=(HS5.out).2.2.2.2.2.2.2.2.1
  have q9:=(HS5.out).2.2.2.2.2.2.2.2.2
  clear HS5
  go_simp
  refine HK.out _ _ ⟨fun h=>(no_late h (by kernel_rfl)).elim,?_⟩
  clear HK K
  refine WB.done (by kernel_rfl) ?_
  go_wp2_with fail
  go_meet
  exact FIN.out _ _ HX.out HB5.out
 case rest=>
  obtain ⟨x,hbx,hzx,hp9,hT9⟩:=hcut
  clear hfz HS HC FIN
  obtain ⟨b0,b1,b2,b3,b4,bf⟩:=five_cells hbx
  obtain ⟨d0,d1,d2,d3,d4,df⟩:=five_cells hzx
  have hz:=put5_at (.slice L wd.log.length ln) (.int .i64 wd.safe) (.bool wd.up) (.slice (some ⟨g,0,none⟩) xs.length cc) (.slice N ys.length nc) hzx
  have hk:KeepT wc (put5 wc (w.heap.size+1+1) (.slice L wd.log.length ln) (.int .i64 wd.safe) (.bool wd.up) (.slice (some ⟨g,0,none⟩) xs.length cc) (.slice N ys.length nc)):=KeepT.grown (gset (gset (gset (gset (gset_any _ _ _ _) _ _) _ _) _ _) _ _) hzx (by decide) (by decide) (by decide) (by decide)
  have hwR:w.heap.size≤w.heap.size+1+1:=by omega
  have hT:Turn (OwnB (some ⟨g,0,none⟩) none) w (put5 wc (w.heap.size+1+1) (.slice L wd.log.length ln) (.int .i64 wd.safe) (.bool wd.up) (.slice (some ⟨g,0,none⟩) xs.length cc) (.slice N ys.length nc)):=(((((hT9.mono (fun k hk=>.inl (by rw [hk];rfl))).setNew hwR 0 _).setNew hwR 1 _).setNew hwR 2 _).setNew hwR 3 _).setNew hwR 4 _
  have HZ:=Lib.hid hz;have HP9:=Lib.hid (hp9.keep hk);have HT:=Lib.hid hT
  clear hz hk hT hp9 hT9
  go_wp2_with fail
  obtain ⟨k0,k1,k2,k3,k4,kf⟩:=five_cells HZ.out
  refine bodyPost_ret (v:=.agg #[.slice L wd.log.length ln,.int .i64 wd.safe,.bool wd.up,.slice (some ⟨g,0,none⟩) xs.length cc,.slice N ys.length nc]) ?_ rfl ?_
  ·simp [results,Tryz.f160,go_sem,k0,k1,k2,k3,k4]
  ·exact ⟨xs.set i x,by rw [List.length_set],HP9.out,HT.out⟩
open Go.RowKit Go.Lib
def bringW (w:Wd) (m:Lt):Wd:=
 if m.dst=0 then (match m.list[0]? with | some e=>{ w with log:=(srvS w.log w.up e).1 } | none=>w)
 else (match w.cls[(m.dst - 1).toNat]? with | some c=>{ w with cls:=w.cls.set (m.dst - 1).toNat (hearS c m.frm m.list).1 } | none=>w)
theorem set_cls_ok {w:Wd} (h:WInv w) (i:Nat) {c:Client} (hc:clientOk c=true):WInv { w with cls:=w.cls.set i c }:=
 ⟨h.log,h.len,h.safe0,h.safe1,by show (w.cls.set i c).length=3;rw [List.length_set];exact h.three,fun x hx=>by
  rcases List.mem_or_eq_of_mem_set hx with h1 | h1
  ·exact h.cls x h1
  ·rw [h1];exact hc,h.net,h.nets⟩
theorem set_log_ok {w:Wd} (h:WInv w) {l:List Entry} (h1:∀ e∈l,entryOk e=true) (h2:l.length≤40) (h3:w.safe≤l.length):WInv { w with log:=l }:=
 ⟨h1,h2,h.safe0,h3,h.three,h.cls,h.net,h.nets⟩
theorem bringW_ok {w:Wd} {m:Lt} (h:WInv w) (hm:LInv m):WInv (bringW w m):=by
 unfold bringW
 split
 ·split
  ·rename_i e he
   have h9:=srvS_ok (up:=w.up) h.len h.log (hm.2.2.1 e (List.mem_of_getElem? he))
   have hs:=h.safe1
   exact set_log_ok h h9.2.2 h9.1 (by omega)
  ·exact h
 ·split
  ·rename_i c hc
   exact set_cls_ok h _ (hearS_ok (h.cls c (List.mem_of_getElem? hc)) hm.2.1.1 hm.2.2.1)
  ·exact h
theorem bringW_same (w:Wd) (m:Lt):(bringW w m).safe=w.safe∧(bringW w m).up=w.up∧(bringW w m).nets=w.nets:=by
 unfold bringW
 split <;> split <;> exact ⟨rfl,rfl,rfl⟩
theorem bring_s (wd:Wd) (m:Lt) (base:Nat) (L:Option Addr) (ln:Nat) (C:Option Addr) (cc:Nat) (N:Option Addr) (nc:Nat) (xs:List RC) (ys:List RL) (A:Option Addr) (an:Nat) (w:World) (hp:WP w base wd L ln C cc N nc xs ys) (hm:RdT 35 w A an m.list) (hb:base≤w.heap.size) (hw:WInv wd) (hm0:LInv m) :
  Calls Tryz.prog 160 #[.agg (cW wd L ln C xs cc N ys nc),.agg (cL m A an)] w
   fun x w'=>∃ (L':Option Addr) (ln':Nat) (xs':List RC),x=.returned (.agg #[.slice L' (bringW wd m).log.length ln',.int .i64 wd.safe,.bool wd.up,.slice C xs'.length cc,.slice N ys.length nc])∧WP w' base (bringW wd m) L' ln' C cc N nc xs' ys∧Turn (OwnB C none) w w':=by
 have hlen:=hw.len
 by_cases hd:m.dst=0
 ·have hl0:=hm0.2.2.2.2 hd
  have hw0:bringW wd m={ wd with log:=(srvS wd.log wd.up (m.list[0]'hl0)).1 }:=by
   unfold bringW;rw [if_pos hd,List.getElem?_eq_getElem hl0]
  refine (bring0_s wd m base L ln C cc N nc xs ys A an w hp hm hb hd hl0 hlen).mono ?_
  rintro x w' ⟨L',n',rfl,h1,h2⟩
  rw [hw0]
  exact ⟨L',n',xs,rfl,h1,Turn.ext h2⟩
 ·have hr:=hm0.1
  obtain ⟨i,hi⟩:∃ i:Nat,i=(m.dst - 1).toNat:=⟨_,rfl⟩
  have hdi:m.dst=(i:Int)+1:=by omega
  have h3:=hw.three
  have hi2:i<wd.cls.length:=by omega
  have hlx:=hp.cls.1
  obtain ⟨g,rfl⟩:=hp.cli.at0w (by omega)
  have hw0:bringW wd m={ wd with cls:=wd.cls.set i (hearS wd.cls[i] m.frm m.list).1 }:=by
   unfold bringW;rw [if_neg hd,←hi,List.getElem?_eq_getElem hi2]
  refine (bring1g_s wd m base L ln g cc N nc xs ys A an w hp hm hb i hdi (by omega) hi2 (by omega) (hw.cls _ (List.getElem_mem hi2)) hm0).mono ?_
  rintro x w' ⟨xs',rfl,h1,h2⟩
  rw [hw0]
  exact ⟨L,ln,xs',rfl,h1,h2⟩
open Go.RowKit Go.Lib
structure Ev where
 kind:Int
 who:Int
 n:Int
 op:Op
abbrev cV (e:Ev):Array Value:=#[.int .i64 e.kind,.int .i64 e.who,.int .i64 e.n,.int .i64 e.op.kind,.int .i64 e.op.id,.int .i64 e.op.up,.int .i64 e.op.pos,.string e.op.text]
abbrev oV (e:Ev):Obj:=.cells #[.int .i64 e.kind,.int .i64 e.who,.int .i64 e.n,.int .i64 e.op.kind,.int .i64 e.op.id,.int .i64 e.op.up,.int .i64 e.op.pos,.string e.op.text] 201
theorem eight_cells {W:World} {b:Nat} {v0 v1 v2 v3 v4 v5 v6 v7:Value} {ty:TypeId} (h:W.heap[b]?=some (.cells #[v0,v1,v2,v3,v4,v5,v6,v7] ty (0,0))) :
  W.cell? ⟨b,0,none⟩=some v0∧W.cell? ⟨b,1,none⟩=some v1∧W.cell? ⟨b,2,none⟩=some v2∧W.cell? ⟨b,3,none⟩=some v3∧W.cell? ⟨b,4,none⟩=some v4∧W.cell? ⟨b,5,none⟩=some v5∧W.cell? ⟨b,6,none⟩=some v6∧W.cell? ⟨b,7,none⟩=some v7∧∀ o,W.frozen? ⟨b,o,none⟩=false:=by
 refine ⟨?_,?_,?_,?_,?_,?_,?_,?_,fun o=>?_⟩ <;> simp [World.cell?,World.frozen?,h]
def cutW (w:Wd) (k:Nat):Wd:={ w with nets:=w.nets.take k++w.nets.drop (k+1) }
def netW (w:Wd) (kind n:Int):Wd:=
 if 0≤n then (match w.nets[n.toNat]? with
  |some m=>if kind=10 then putW w m else if kind=8 then bringW (cutW w n.toNat) m else cutW w n.toNat
  |none=>w)
 else w
theorem cutW_ok {w:Wd} (h:WInv w) (k:Nat):WInv (cutW w k):=
 ⟨h.log,h.len,h.safe0,h.safe1,h.three,h.cls,by show (w.nets.take k++w.nets.drop (k+1)).length≤12;have:=h.net;rw [List.length_append,List.length_take,List.length_drop];omega,fun m hm=>by
  rcases List.mem_append.1 hm with h1 | h1
  ·exact h.nets m (List.mem_of_mem_take h1)
  ·exact h.nets m (List.mem_of_mem_drop h1)⟩
theorem netW_ok {w:Wd} (h:WInv w) (kind n:Int):WInv (netW w kind n):=by
 unfold netW
 split
 ·split
  ·rename_i m hm
   have hmm:=h.nets m (List.mem_of_getElem? hm)
   split
   ·exact putW_ok h hmm
   ·split
    ·exact bringW_ok (cutW_ok h _) hmm
    ·exact cutW_ok h _
  ·exact h
 ·exact h
theorem netW_out {w:Wd} {kind n:Int} (h:¬(0≤n∧n≤(w.nets.length:Int) - 1)):netW w kind n=w:=by
 unfold netW
 split
 ·rw [List.getElem?_eq_none (by omega)]
 ·rfl
theorem netW_in {w:Wd} {kind n:Int} {k:Nat} (hk:n=k) (hl:k<w.nets.length):netW w kind n=if kind=10 then putW w w.nets[k] else if kind=8 then bringW (cutW w k) w.nets[k] else cutW w k:=by
 unfold netW
 rw [if_pos (by omega),hk,Int.toNat_natCast,List.getElem?_eq_getElem hl]
set_option maxRecDepth 100000 in
set_option maxHeartbeats 2000000 in
theorem net22_no (wd:Wd) (e:Ev) (base:Nat) (L:Option Addr) (ln:Nat) (C:Option Addr) (cc:Nat) (N:Option Addr) (nc:Nat) (xs:List RC) (ys:List RL) (w:World) (hp:WP w base wd L ln C cc N nc xs ys) (hb:base≤w.heap.size) (hw:WInv wd) (hn:¬(0≤e.n∧e.n≤(ys.length:Int) - 1)) :
  Calls Tryz.prog 155 #[.agg (cW wd L ln C xs cc N ys nc),.agg (cV e)] w fun x w'=>∃ (L':Option Addr) (ln':Nat) (xs':List RC) (N':Option Addr) (nc':Nat) (ys':List RL),x=.returned (.agg #[.slice L' (netW wd e.kind e.n).log.length ln',.int .i64 wd.safe,.bool wd.up,.slice C xs'.length cc,.slice N' ys'.length nc'])∧WP w' base (netW wd e.kind e.n) L' ln' C cc N' nc' xs' ys'∧Turn (OwnB C N) w w'∧∀ k,OwnB none N' k→OwnB none N k∨w.heap.size≤k:=by
 have h3:=three_all w (oW wd L ln C xs cc N ys nc) (oV e) oW0
 have hE3:Ext w (((w.alloc (oW wd L ln C xs cc N ys nc)).alloc (oV e)).alloc oW0):=ext3 _ _ _ _
 have hz3:(((w.alloc (oW wd L ln C xs cc N ys nc)).alloc (oV e)).alloc oW0).heap.size=w.heap.size+3:=by simp only [alloc_sz]
 have HX1:=Lib.hid h3.1;have HX2:=Lib.hid h3.2.1;have HX3:=Lib.hid h3.2.2;have HE3:=Lib.hid hE3
 have HP:=Lib.hid (hp.ext hE3);have HW:=Lib.hid hw
 have hny:ys.length≤12:=by have:=hp.nets.1;have:=hw.net;omega
 have hnl:ys.length=wd.nets.length:=hp.nets.1
 have HNL:=Lib.hid hnl
 obtain ⟨b0,b1,b2,b3,b4,bf⟩:=five_cells h3.1
 obtain ⟨e0,e1,e2,e3,e4,e5,e6,e7,ef⟩:=eight_cells h3.2.1
 obtain ⟨d0,d1,d2,d3,d4,df⟩:=five_cells h3.2.2
 have hpw:=hp
 clear h3 hE3 hp hw hnl
 have HN:Hid (netW wd e.kind e.n=wd):=by show _=_;exact netW_out (by rw [←HNL.out];exact hn)
 have HIN:Hid (inR e.n 0 ((ys.length:Int) - 1)=false):=by show _=_;unfold inR;simpa using hn
 have hE4:Ext w (((w.alloc (oW wd L ln C xs cc N ys nc)).alloc (oV e)).alloc (oW wd L ln C xs cc N ys nc)):=ext3 _ _ _ _
 have HZ:=Lib.hid (three_all w (oW wd L ln C xs cc N ys nc) (oV e) (oW wd L ln C xs cc N ys nc)).2.2;have HE4:=Lib.hid hE4
 have HPW:=Lib.hid (hpw.ext hE4)
 clear hE4 hn hpw
 go_enter Tryz.func155,Tryz.ntmps155
 go_wp2_with fail
 refine (in_c _ _ _ _).mono ?_
 rintro r w' ⟨rfl,hw'⟩
 rw [HIN.out]
 subst hw'
 go_wp2_with fail
 obtain ⟨k0,k1,k2,k3,k4,kf⟩:=five_cells HZ.out
 refine bodyPost_ret (v:=.agg (cW wd L ln C xs cc N ys nc)) ?_ rfl ?_
 ·simp [results,Tryz.f155,go_sem]
 ·rw [HN.out]
  exact ⟨L,ln,xs,N,nc,ys,rfl,HPW.out,Turn.ext HE4.out,fun k h=>.inl h⟩
set_option maxRecDepth 100000 in
set_option maxHeartbeats 4000000 in
theorem net22_twice (wd:Wd) (kind who:Int) (k:Nat) (op:Op) (base:Nat) (L:Option Addr) (ln:Nat) (C:Option Addr) (cc gn nc:Nat) (xs:List RC) (ys:List RL) (w:World) (hp:WP w base wd L ln C cc (some ⟨gn,0,none⟩) nc xs ys) (hb:base≤w.heap.size) (hw:WInv wd) (hkl:k<ys.length) (h10:kind=10) :
  Calls Tryz.prog 155 #[.agg (cW wd L ln C xs cc (some ⟨gn,0,none⟩) ys nc),.agg #[.int .i64 kind,.int .i64 who,.int .i64 (k:Int),.int .i64 op.kind,.int .i64 op.id,.int .i64 op.up,.int .i64 op.pos,.string op.text]] w fun x w'=>∃ (L':Option Addr) (ln':Nat) (xs':List RC) (N':Option Addr) (nc':Nat) (ys':List RL),x=.returned (.agg #[.slice L' (netW wd kind k).log.length ln',.int .i64 wd.safe,.bool wd.up,.slice C xs'.length cc,.slice N' ys'.length nc'])∧WP w' base (netW wd kind k) L' ln' C cc N' nc' xs' ys'∧Turn (OwnB C (some ⟨gn,0,none⟩)) w w'∧∀ k,OwnB none N' k→OwnB none (some ⟨gn,0,none⟩) k∨w.heap.size≤k:=by
 have h3:=three_all w (oW wd L ln C xs cc (some ⟨gn,0,none⟩) ys nc) (.cells #[.int .i64 kind,.int .i64 who,.int .i64 (k:Int),.int .i64 op.kind,.int .i64 op.id,.int .i64 op.up,.int .i64 op.pos,.string op.text] 201) oW0
 have hE3:Ext w (((w.alloc (oW wd L ln C xs cc (some ⟨gn,0,none⟩) ys nc)).alloc (.cells #[.int .i64 kind,.int .i64 who,.int .i64 (k:Int),.int .i64 op.kind,.int .i64 op.id,.int .i64 op.up,.int .i64 op.pos,.string op.text] 201)).alloc oW0):=ext3 _ _ _ _
 have hz3:(((w.alloc (oW wd L ln C xs cc (some ⟨gn,0,none⟩) ys nc)).alloc (.cells #[.int .i64 kind,.int .i64 who,.int .i64 (k:Int),.int .i64 op.kind,.int .i64 op.id,.int .i64 op.up,.int .i64 op.pos,.string op.text] 201)).alloc oW0).heap.size=w.heap.size+3:=by simp only [alloc_sz]
 have HX1:=Lib.hid h3.1;have HX2:=Lib.hid h3.2.1;have HX3:=Lib.hid h3.2.2;have HE3:=Lib.hid hE3
 have HP:=Lib.hid (hp.ext hE3);have HW:=Lib.hid hw
 have hny:ys.length≤12:=by have:=hp.nets.1;have:=hw.net;omega
 have hnl:ys.length=wd.nets.length:=hp.nets.1
 have HNL:=Lib.hid hnl
 obtain ⟨b0,b1,b2,b3,b4,bf⟩:=five_cells h3.1
 obtain ⟨e0,e1,e2,e3,e4,e5,e6,e7,ef⟩:=eight_cells h3.2.1
 obtain ⟨d0,d1,d2,d3,d4,df⟩:=five_cells h3.2.2
 have hkl2:k<wd.nets.length:=by omega
 have HIN:Hid (inR (k:Int) 0 ((ys.length:Int) - 1)=true):=by show _=_;unfold inR;rw [decide_eq_true_eq];omega
 obtain ⟨yb,yo,he9,hby,y0,y1,y2⟩:=rl_at HP.out.let_.rdT.1 k hkl
 injection he9 with he9;injection he9 with he91 he92;subst he91;subst he92
 simp only [Nat.zero_add] at y0 y1 y2
 have hki:(k:Int)<ys.length:=by omega
 have hgn:gn<w.heap.size:=by
  obtain ⟨cs,mm,hg9⟩:=hp.let_.ty gn rfl
  exact blk_lt hg9
 obtain ⟨ya,yn,hyk,hyr⟩:=HP.out.nets.2 k hkl hkl2
 rw [hyk] at y0 y1 y2
 dsimp only at y0 y1 y2
 have HYR:=Lib.hid hyr
 have HMI:=Lib.hid (hw.nets _ (List.getElem_mem hkl2))
 have HNW:=Lib.hid (netW_in (w:=wd) (kind:=kind) (n:=k) (k:=k) rfl hkl2)
 have hfr:=hp.let_.frzw
 generalize wd.nets[k]=m at *
 clear h3 hE3 hp hw hnl hyk hyr
 have HN:Hid (netW wd kind k=putW wd m):=by show _=_;rw [HNW.out,if_pos h10]
 have h10':(kind == 10)=true:=by simp [h10]
 have HPU:Hid ((putW wd m).log=wd.log):=by show _=_;unfold putW;split <;> rfl
 clear h10 hfr
 go_enter Tryz.func155,Tryz.ntmps155
 go_wp2_with fail
 refine (in_c _ _ _ _).mono ?_
 rintro r w' ⟨rfl,hw'⟩
 rw [HIN.out]
 subst hw'
 clear b0 b1 b2 b3 b4 bf
 generalize (((w.alloc (oW wd L ln C xs cc (some ⟨gn,0,none⟩) ys nc)).alloc (.cells #[.int .i64 kind,.int .i64 who,.int .i64 (k:Int),.int .i64 op.kind,.int .i64 op.id,.int .i64 op.up,.int .i64 op.pos,.string op.text] 201)).alloc oW0)=W3 at *
 obtain ⟨b0,b1,b2,b3,b4,bf⟩:=five_cells HX1.out
 go_wp2_with fail
 have hE4:Ext W3 (W3.alloc (oL m ya yn)):=(Below.refl _ _).alloc (Nat.le_refl _) _
 refine (put22_s wd m base L ln C cc (some ⟨gn,0,none⟩) nc xs ys ya yn _ (HP.out.ext hE4) (HYR.out.ext hE4) (by rw [alloc_sz];omega)).mono ?_
 rintro r w5 ⟨N',nc',ys',rfl,hp5,hT5,hN5⟩
 have hT6:=((Turn.ext (S:=OwnB C (some ⟨gn,0,none⟩)) (HE3.out.trans (hE4.mono HE3.out.size))).then (S':=OwnB none (some ⟨gn,0,none⟩)) hT5 (fun i hi=>.inl (hi.elim (fun h=>by cases h) .inr)))
 have hzx:w5.heap[w.heap.size+1+1]?=some (.cells cW0 62 (0,0)):=(hT5.block _ (by rw [alloc_sz];omega) (fun hs=>by rcases hs with hs | hs;cases hs;simp only [Option.map_some,Option.some.injEq] at hs;omega)).trans ((hE4.block _ (blk_lt HX3.out)).trans HX3.out)
 have hz:=put5_at (.slice L wd.log.length ln) (.int .i64 wd.safe) (.bool wd.up) (.slice C xs.length cc) (.slice N' ys'.length nc') hzx
 have hk:KeepT w5 (put5 w5 (w.heap.size+1+1) (.slice L wd.log.length ln) (.int .i64 wd.safe) (.bool wd.up) (.slice C xs.length cc) (.slice N' ys'.length nc')):=KeepT.grown (gset (gset (gset (gset (gset_any _ _ _ _) _ _) _ _) _ _) _ _) hzx (by decide) (by decide) (by decide) (by decide)
 have hwR:w.heap.size≤w.heap.size+1+1:=by omega
 have hT:Turn (OwnB C (some ⟨gn,0,none⟩)) w (put5 w5 (w.heap.size+1+1) (.slice L wd.log.length ln) (.int .i64 wd.safe) (.bool wd.up) (.slice C xs.length cc) (.slice N' ys'.length nc')):=((((hT6.setNew hwR 0 _).setNew hwR 1 _).setNew hwR 2 _).setNew hwR 3 _).setNew hwR 4 _
 have hOB:∀ k,OwnB none N' k→OwnB none (some ⟨gn,0,none⟩) k∨w.heap.size≤k:=fun k h=>(hN5 k h).imp id (fun h=>by rw [alloc_sz] at h;omega)
 obtain ⟨d0,d1,d2,d3,d4,df⟩:=five_cells hzx
 have HZ:=Lib.hid hz;have HP9:=Lib.hid (hp5.keep hk);have HT:=Lib.hid hT;have HOB:=Lib.hid hOB
 clear hz hk hT hp5 hT5 hT6 hN5 hOB hE4
 go_wp2_with fail
 obtain ⟨k0,k1,k2,k3,k4,kf⟩:=five_cells HZ.out
 refine bodyPost_ret (v:=.agg (cW wd L ln C xs cc N' ys' nc')) ?_ rfl ?_
 ·simp [results,Tryz.f155,go_sem,k0,k1,k2,k3,k4]
 ·rw [HN.out,HPU.out]
  exact ⟨L,ln,xs,N',nc',ys',rfl,HP9.out,HT.out,HOB.out⟩
set_option maxRecDepth 100000 in
set_option maxHeartbeats 4000000 in
theorem net22_del (wd:Wd) (kind who:Int) (k:Nat) (op:Op) (base:Nat) (L:Option Addr) (ln:Nat) (C:Option Addr) (cc gn nc:Nat) (xs:List RC) (ys:List RL) (w:World) (hp:WP w base wd L ln C cc (some ⟨gn,0,none⟩) nc xs ys) (hb:base≤w.heap.size) (hw:WInv wd) (hkl:k<ys.length) (h10:kind≠10) :
  Calls Tryz.prog 155 #[.agg (cW wd L ln C xs cc (some ⟨gn,0,none⟩) ys nc),.agg #[.int .i64 kind,.int .i64 who,.int .i64 (k:Int),.int .i64 op.kind,.int .i64 op.id,.int .i64 op.up,.int .i64 op.pos,.string op.text]] w fun x w'=>∃ (L':Option Addr) (ln':Nat) (xs':List RC) (N':Option Addr) (nc':Nat) (ys':List RL),x=.returned (.agg #[.slice L' (netW wd kind k).log.length ln',.int .i64 wd.safe,.bool wd.up,.slice C xs'.length cc,.slice N' ys'.length nc'])∧WP w' base (netW wd kind k) L' ln' C cc N' nc' xs' ys'∧Turn (OwnB C (some ⟨gn,0,none⟩)) w w'∧∀ k,OwnB none N' k→OwnB none (some ⟨gn,0,none⟩) k∨w.heap.size≤k:=by
 have h3:=three_all w (oW wd L ln C xs cc (some ⟨gn,0,none⟩) ys nc) (.cells #[.int .i64 kind,.int .i64 who,.int .i64 (k:Int),.int .i64 op.kind,.int .i64 op.id,.int .i64 op.up,.int .i64 op.pos,.string op.text] 201) oW0
 have hE3:Ext w (((w.alloc (oW wd L ln C xs cc (some ⟨gn,0,none⟩) ys nc)).alloc (.cells #[.int .i64 kind,.int .i64 who,.int .i64 (k:Int),.int .i64 op.kind,.int .i64 op.id,.int .i64 op.up,.int .i64 op.pos,.string op.text] 201)).alloc oW0):=ext3 _ _ _ _
 have hz3:(((w.alloc (oW wd L ln C xs cc (some ⟨gn,0,none⟩) ys nc)).alloc (.cells #[.int .i64 kind,.int .i64 who,.int .i64 (k:Int),.int .i64 op.kind,.int .i64 op.id,.int .i64 op.up,.int .i64 op.pos,.string op.text] 201)).alloc oW0).heap.size=w.heap.size+3:=by simp only [alloc_sz]
 have HX1:=Lib.hid h3.1;have HX2:=Lib.hid h3.2.1;have HX3:=Lib.hid h3.2.2;have HE3:=Lib.hid hE3
 have HP:=Lib.hid (hp.ext hE3);have HW:=Lib.hid hw
 have hny:ys.length≤12:=by have:=hp.nets.1;have:=hw.net;omega
 have hnl:ys.length=wd.nets.length:=hp.nets.1
 have HNL:=Lib.hid hnl
 obtain ⟨b0,b1,b2,b3,b4,bf⟩:=five_cells h3.1
 obtain ⟨e0,e1,e2,e3,e4,e5,e6,e7,ef⟩:=eight_cells h3.2.1
 obtain ⟨d0,d1,d2,d3,d4,df⟩:=five_cells h3.2.2
 have hkl2:k<wd.nets.length:=by omega
 have HIN:Hid (inR (k:Int) 0 ((ys.length:Int) - 1)=true):=by show _=_;unfold inR;rw [decide_eq_true_eq];omega
 obtain ⟨yb,yo,he9,hby,y0,y1,y2⟩:=rl_at HP.out.let_.rdT.1 k hkl
 injection he9 with he9;injection he9 with he91 he92;subst he91;subst he92
 simp only [Nat.zero_add] at y0 y1 y2
 have hki:(k:Int)<ys.length:=by omega
 have hgn:gn<w.heap.size:=by
  obtain ⟨cs,mm,hg9⟩:=hp.let_.ty gn rfl
  exact blk_lt hg9
 obtain ⟨ya,yn,hyk,hyr⟩:=HP.out.nets.2 k hkl hkl2
 rw [hyk] at y0 y1 y2
 dsimp only at y0 y1 y2
 have HYR:=Lib.hid hyr
 have HMI:=Lib.hid (hw.nets _ (List.getElem_mem hkl2))
 have HNW:=Lib.hid (netW_in (w:=wd) (kind:=kind) (n:=k) (k:=k) rfl hkl2)
 have hfr:=hp.let_.frzw
 generalize wd.nets[k]=m at *
 clear h3 hE3 hp hw hnl hyk hyr
 have HN:Hid (netW wd kind k=if kind=8 then bringW (cutW wd k) m else cutW wd k):=by show _=_;rw [HNW.out,if_neg h10]
 have h10':(kind == 10)=false:=by simp [h10]
 clear h10
 go_enter Tryz.func155,Tryz.ntmps155
 go_wp2_with fail
 refine (in_c _ _ _ _).mono ?_
 rintro r w' ⟨rfl,hw'⟩
 rw [HIN.out]
 subst hw'
 clear b0 b1 b2 b3 b4 bf
 generalize (((w.alloc (oW wd L ln C xs cc (some ⟨gn,0,none⟩) ys nc)).alloc (.cells #[.int .i64 kind,.int .i64 who,.int .i64 (k:Int),.int .i64 op.kind,.int .i64 op.id,.int .i64 op.up,.int .i64 op.pos,.string op.text] 201)).alloc oW0)=W3 at *
 obtain ⟨b0,b1,b2,b3,b4,bf⟩:=five_cells HX1.out
 go_upto_region 6 with fail
 have hE4:Ext W3 (W3.alloc (oL m ya yn)):=(Below.refl _ _).alloc (Nat.le_refl _) _
 have HX4:=Lib.hid (World.alloc_heap_new W3 (oL m ya yn))
 have hz4:(W3.alloc (oL m ya yn)).heap.size=w.heap.size+4:=by rw [alloc_sz,hz3]
 have HE4:=Lib.hid hE4
 clear hE4 b0 b1 b2 b3 b4 bf
 generalize (W3.alloc (oL m ya yn))=W4 at *
 have hs1:w.heap.size<W4.heap.size:=by omega
 obtain ⟨b0,b1,b2,b3,b4,bf⟩:=five_cells ((HE4.out.block _ (blk_lt HX1.out)).trans HX1.out)
 obtain ⟨f0,f1,f2,f3,f4,f5,f6,f7,ff⟩:=eight_cells ((HE4.out.block _ (blk_lt HX2.out)).trans HX2.out)
 have HS:Hid (W4.drew.cell? ⟨w.heap.size,4,none⟩=some (.slice (some ⟨gn,0,none⟩) ys.length nc)∧W4.drew.cell? ⟨w.heap.size+1,2,none⟩=some (.int .i64 (k:Int))):=Lib.hid ⟨b4,f2⟩
 have hsl1:=fun (W:World)=>run_head el_let (some ⟨gn,0,none⟩) ys.length nc k (by have:=HP.out.let_.rdT.1.1;omega) W
 have hsl2:∀ W:World,(Instr.slice 60 (.slice (some ⟨gn,0,none⟩) ys.length nc) (some (.int .i64 ((k:Int)+1))) none none).run Tryz.prog W=.ok (.slice (fromA (some ⟨gn,0,none⟩) nc (k+1) 3) (ys.length - (k+1)) (nc - (k+1))) W:=fun W=>by
  have:=run_cut el_let (some ⟨gn,0,none⟩) ys.length nc (k+1) (by omega) W
  rwa [Int.natCast_add] at this
 have hE5:Ext W4 (W4.alloc (.cells #[] 104)).drew:=((Below.refl _ _).alloc (Nat.le_refl _) _).drew
 have o0:Own 104 (W4.alloc (.cells #[] 104)).drew W4.heap.size (.slice (some ⟨w.heap.size+4,0,none⟩) 0 0) ([]:List RL):=by
  have h:=own_made (e:=104) (α:=RL) W4 W4.heap.size (Nat.le_refl _)
  rw [hz4] at h ⊢
  exact h.below (Below.refl _ _).drew
 have hpr:=(HP.out.ext HE4.out).let_.rdT.1
 obtain ⟨v1,w1,h1,o1,g1⟩:=app_at el_let o0 ((hpr.ext hE5).head k) (by simp;omega) hE5.size
 rw [show (ys.take k).length=k by simp;omega] at h1
 rw [List.nil_append] at o1
 have hE6:Ext W4 w1:=o0.over hE5 g1 (Nat.le_refl _) hE5.size
 obtain ⟨v2,w2,h2,o2,g2⟩:=app_at el_let o1 ((hpr.ext hE6).from_ (k+1) (by omega)) (by simp;omega) hE6.size
 rw [show (ys.drop (k+1)).length=ys.length - (k+1) by simp] at h2
 have hE7:Ext W4 w2:=o1.over hE6 g2 (Nat.le_refl _) hE6.size
 have hnw:=((HP.out.nets.take k).append (HP.out.nets.drop (k+1)))
 generalize hys2:ys.take k++ys.drop (k+1)=ys2 at *
 obtain ⟨N',nc',hv2,-⟩:=o2.rd
 subst hv2
 have hs2:w.heap.size+1<W4.heap.size:=by omega
 have HS5:Hid ((W4.alloc (.cells #[] 104)).drew.cell? ⟨w.heap.size,4,none⟩=some (.slice (some ⟨gn,0,none⟩) ys.length nc)∧(W4.alloc (.cells #[] 104)).drew.cell? ⟨w.heap.size+1,2,none⟩=some (.int .i64 (k:Int))):=Lib.hid ⟨(hE5.cell (p:=⟨w.heap.size,4,none⟩) hs1).trans b4,(hE5.cell (p:=⟨w.heap.size+1,2,none⟩) hs2).trans f2⟩
 have HS6:Hid (w1.cell? ⟨w.heap.size,4,none⟩=some (.slice (some ⟨gn,0,none⟩) ys.length nc)∧w1.cell? ⟨w.heap.size+1,2,none⟩=some (.int .i64 (k:Int))):=Lib.hid ⟨(hE6.cell (p:=⟨w.heap.size,4,none⟩) hs1).trans b4,(hE6.cell (p:=⟨w.heap.size+1,2,none⟩) hs2).trans f2⟩
 have HS7:Hid (w2.cell? ⟨w.heap.size,4,none⟩=some (.slice (some ⟨gn,0,none⟩) ys.length nc)∧w2.cell? ⟨w.heap.size+1,2,none⟩=some (.int .i64 (k:Int))):=Lib.hid ⟨(hE7.cell (p:=⟨w.heap.size,4,none⟩) hs1).trans b4,(hE7.cell (p:=⟨w.heap.size+1,2,none⟩) hs2).trans f2⟩
 have hbx:=(hE7.block _ hs1).trans ((HE4.out.block _ (blk_lt HX1.out)).trans HX1.out)
 have hf7:=fun o=>(hE7.frozen (p:=⟨w.heap.size,o,none⟩) hs1).trans (bf o)
 have hp7:WP w2 base (cutW wd k) L ln C cc N' nc' xs ys2:=by
  have hq:=(HP.out.ext HE4.out).ext hE7
  refine ⟨hq.log,hq.cli,o2.lower (by omega),hq.cls,?_⟩
  rw [←hys2]
  exact ((hq.nets.take k).append (hq.nets.drop (k+1)))
 have hk7:KeepT w2 (w2.setCell ⟨w.heap.size,4,none⟩ (.slice N' ys2.length nc')):=KeepT.grown (gset_any w2 w.heap.size 4 _) hbx (by decide) (by decide) (by decide) (by decide)
 have HP7:=Lib.hid (hp7.keep hk7)
 have HX7:=Lib.hid (set_at (i:=4) (v:=.slice N' ys2.length nc') hbx)
 have HZ7:Hid ((w2.setCell ⟨w.heap.size,4,none⟩ (.slice N' ys2.length nc')).heap[w.heap.size+1+1]?=some (.cells cW0 62 (0,0))):=(setx (by omega)).trans ((hE7.block _ (by omega)).trans ((HE4.out.block _ (blk_lt HX3.out)).trans HX3.out))
 have HV7:Hid ((w2.setCell ⟨w.heap.size,4,none⟩ (.slice N' ys2.length nc')).heap[w.heap.size+1]?=some (.cells #[.int .i64 kind,.int .i64 who,.int .i64 (k:Int),.int .i64 op.kind,.int .i64 op.id,.int .i64 op.up,.int .i64 op.pos,.string op.text] 201 (0,0))):=(setx (by omega)).trans ((hE7.block _ (by omega)).trans ((HE4.out.block _ (blk_lt HX2.out)).trans HX2.out))
 have HL7:Hid ((w2.setCell ⟨w.heap.size,4,none⟩ (.slice N' ys2.length nc')).heap[w.heap.size+3]?=some (.cells (cL m ya yn) 104 (0,0))):=by
  have h:=HX4.out
  rw [hz3] at h
  exact (setx (by omega)).trans ((hE7.block _ (by omega)).trans h)
 have HM7:Hid (RdT 35 (w2.setCell ⟨w.heap.size,4,none⟩ (.slice N' ys2.length nc')) ya yn m.list):=((HYR.out.ext HE4.out).ext hE7).keep hk7 (.inr (.inl rfl))
 have HT7:Hid (Turn (OwnB C (some ⟨gn,0,none⟩)) w (w2.setCell ⟨w.heap.size,4,none⟩ (.slice N' ys2.length nc'))):=(Turn.ext ((HE3.out.trans (HE4.out.mono HE3.out.size)).trans (hE7.mono (by omega)))).setNew (Nat.le_refl _) 4 _
 have HN7:Hid (∀ j,OwnB none N' j→w.heap.size≤j):=fun j hj=>by
  rcases hj with hj | hj
  ·cases hj
  ·have:=(o2.blk j (by rw [ob_map];exact hj)).1
   omega
 have H1:=Lib.hid h1;have H2:=Lib.hid h2
 clear h1 h2 o0 o1 o2 g1 g2 hE5 hE6 hE7 hbx hk7 hp7 hpr hnw hys2
 have hw1:IntKind.i64.wrap ((k:Int)+1)=(k:Int)+1:=by rw [IntKind.wrap_i64];omega
 refine wp_region_B (fun w'=>w'.cell? ⟨w.heap.size,4,none⟩=some (.slice (some ⟨gn,0,none⟩) ys.length nc)∧w'.cell? ⟨w.heap.size+1,2,none⟩=some (.int .i64 (k:Int))) 15 (by kernel_rfl) ?_
 refine WB.take (i:=1) (v:=?_) rfl (by kernel_rfl) (by kernel_rfl) (by kernel_rfl) (by kernel_rfl) (fun _ _ _ h=>h) HS.out (Or.inl ⟨by rfl,?_⟩) ?_
 rotate_left
 ·(rintro w ⟨s0,s1⟩;go_simp;try with_reducible rfl)
 try simp only [Act.put,List.setIfInBounds_toArray,List.set_cons_zero,List.set_cons_succ]
 refine WB.take (i:=2) (v:=?_) rfl (by kernel_rfl) (by kernel_rfl) (by kernel_rfl) (by kernel_rfl) (fun _ _ _ h=>h) HS.out (Or.inl ⟨by rfl,?_⟩) ?_
 rotate_left
 ·(rintro w ⟨s0,s1⟩;go_simp;try with_reducible rfl)
 try simp only [Act.put,List.setIfInBounds_toArray,List.set_cons_zero,List.set_cons_succ]
 refine WB.take (i:=3) (v:=?_) rfl (by kernel_rfl) (by kernel_rfl) (by kernel_rfl) (by kernel_rfl) (fun _ _ _ h=>h) HS.out (Or.inl ⟨by rfl,?_⟩) ?_
 rotate_left
 ·(rintro w ⟨s0,s1⟩;go_simp;try with_reducible rfl)
 try simp only [Act.put,List.setIfInBounds_toArray,List.set_cons_zero,List.set_cons_succ]
 refine WB.take (i:=4) (v:=?_) rfl (by kernel_rfl) (by kernel_rfl) (by kernel_rfl) (by kernel_rfl) (fun _ _ _ h=>h) HS.out (Or.inl ⟨by rfl,?_⟩) ?_
 rotate_left
 ·(rintro w ⟨s0,s1⟩;go_simp;try with_reducible rfl)
 try simp only [Act.put,List.setIfInBounds_toArray,List.set_cons_zero,List.set_cons_succ]
 refine WB.takeP (i:=5) (v:=?_) rfl (by kernel_rfl) (by kernel_rfl) (by kernel_rfl) (by kernel_rfl) (fun _ _ _ h=>h) HS.out (Or.inl ⟨by rfl,?_⟩) ?_
 rotate_left
 ·(rintro w -;go_simp;try with_reducible rfl)
 try simp only [Act.put,List.setIfInBounds_toArray,List.set_cons_zero,List.set_cons_succ]
 refine WB.take (i:=7) (v:=?_) rfl (by kernel_rfl) (by kernel_rfl) (by kernel_rfl) (by kernel_rfl) (fun _ _ _ h=>h) HS.out (Or.inl ⟨by rfl,?_⟩) ?_
 rotate_left
 ·(rintro w ⟨s0,s1⟩;go_simp;try with_reducible rfl)
 try simp only [Act.put,List.setIfInBounds_toArray,List.set_cons_zero,List.set_cons_succ]
 refine WB.take (i:=8) (v:=?_) rfl (by kernel_rfl) (by kernel_rfl) (by kernel_rfl) (by kernel_rfl) (fun _ _ _ h=>h) HS.out (Or.inl ⟨by rfl,?_⟩) ?_
 rotate_left
 ·(rintro w ⟨s0,s1⟩;go_simp;try with_reducible rfl)
 try simp only [Act.put,List.setIfInBounds_toArray,List.set_cons_zero,List.set_cons_succ]
 refine WB.take (i:=9) (v:=?_) rfl (by kernel_rfl) (by kernel_rfl) (by kernel_rfl) (by kernel_rfl) (fun _ _ _ h=>h) HS.out (Or.inl ⟨by rfl,?_⟩) ?_
 rotate_left
 ·(rintro w ⟨s0,s1⟩;go_simp;try with_reducible rfl)
 try simp only [Act.put,List.setIfInBounds_toArray,List.set_cons_zero,List.set_cons_succ]
 refine WB.take (i:=10) (v:=?_) rfl (by kernel_rfl) (by kernel_rfl) (by kernel_rfl) (by kernel_rfl) (fun _ _ _ h=>h) HS.out (Or.inl ⟨by rfl,?_⟩) ?_
 rotate_left
 ·(rintro w ⟨s0,s1⟩;go_simp;try with_reducible rfl)
 try simp only [Act.put,List.setIfInBounds_toArray,List.set_cons_zero,List.set_cons_succ]
 refine WB.takeP (i:=11) (v:=?_) rfl (by kernel_rfl) (by kernel_rfl) (by kernel_rfl) (by kernel_rfl) (fun _ _ _ h=>h) HS.out (Or.inl ⟨by rfl,?_⟩) ?_
 rotate_left
 ·(rintro w -;go_simp;try with_reducible rfl)
 try simp only [Act.put,List.setIfInBounds_toArray,List.set_cons_zero,List.set_cons_succ]
 refine WB.takeP (i:=12) (v:=?_) rfl (by kernel_rfl) (by kernel_rfl) (by kernel_rfl) (by kernel_rfl) (fun _ _ _ h=>h) HS.out (Or.inl ⟨by rfl,?_⟩) ?_
 rotate_left
 ·(rintro w -;go_simp;try with_reducible rfl)
 try simp only [Act.put,List.setIfInBounds_toArray,List.set_cons_zero,List.set_cons_succ]
 refine WB.one (i:=0) (by kernel_rfl) rfl (fun K hK=>?_)
 have HK:=Lib.hid hK
 clear hK
 go_simp
 refine HK.out _ _ ⟨fun _=>HS5.out,?_⟩
 clear HK K
 refine WB.one (i:=6) (by kernel_rfl) rfl (fun K hK=>?_)
 refine step_append_run rfl _ _ _ rfl rfl rfl H1.out ?_
 refine hK _ _ ⟨fun _=>HS6.out,?_⟩
 clear hK K
 try simp only [Act.put,List.setIfInBounds_toArray,List.set_cons_zero,List.set_cons_succ]
 refine WB.one (i:=13) (by kernel_rfl) rfl (fun K hK=>?_)
 refine step_append_run rfl _ _ _ rfl rfl rfl H2.out ?_
 refine hK _ _ ⟨fun _=>HS7.out,?_⟩
 clear hK K
 try simp only [Act.put,List.setIfInBounds_toArray,List.set_cons_zero,List.set_cons_succ]
 refine WB.takeP (i:=14) (v:=?_) rfl (by kernel_rfl) (by kernel_rfl) (by kernel_rfl) (by kernel_rfl) (fun _ _ _ h=>h) HS7.out (Or.inl ⟨by rfl,?_⟩) ?_
 rotate_left
 ·(rintro w -;go_simp;try with_reducible rfl)
 try simp only [Act.put,List.setIfInBounds_toArray,List.set_cons_zero,List.set_cons_succ]
 refine WB.one (i:=15) (by kernel_rfl) rfl (fun K hK=>?_)
 have HK:=Lib.hid hK
 clear hK
 obtain ⟨q0,q1⟩:=HS7.out
 go_simp
 refine HK.out _ _ ⟨fun h=>(no_late h (by kernel_rfl)).elim,?_⟩
 clear HK K q0 q1 HS HS5 HS6 HS7 hf7
 refine WB.done (by kernel_rfl) ?_
 generalize (w2.setCell ⟨w.heap.size,4,none⟩ (.slice N' ys2.length nc'))=W7 at *
 clear b0 b1 b2 b3 b4 bf f0 f1 f2 f3 f4 f5 f6 f7 ff e0 e1 e2 e3 e4 e5 e6 e7 ef d0 d1 d2 d3 d4 df y0 y1 y2 hsl1 hsl2 hw1 hs1 hs2
 have hz7:=HT7.out.size
 have hl7:=blk_lt HL7.out
 obtain ⟨b0,b1,b2,b3,b4,bf⟩:=five_cells HX7.out
 obtain ⟨f0,f1,f2,f3,f4,f5,f6,f7,ff⟩:=eight_cells HV7.out
 obtain ⟨d0,d1,d2,d3,d4,df⟩:=five_cells HZ7.out
 obtain ⟨c0,c1,c2,cf⟩:=tri_cells HL7.out
 by_cases h8:kind=8
 ·have HN8:Hid (netW wd kind k=bringW (cutW wd k) m):=by show _=_;rw [HN.out,if_pos h8]
  have h8':(kind == 8)=true:=by simp [h8]
  clear h8 HN
  go_wp2_with fail
  refine (bring_s (cutW wd k) m base L ln C cc N' nc' xs ys2 ya yn W7 HP7.out HM7.out (by omega) (cutW_ok HW.out k) HMI.out).mono ?_
  rintro r w5 ⟨L',ln',xs',rfl,hp5,hT5⟩
  rw [show (cutW wd k).safe=wd.safe from rfl,show (cutW wd k).up=wd.up from rfl]
  have hCb:∀ j,OwnB C none j→j≠w.heap.size+1+1:=fun j hj=>by
   rcases hj with hj | hj
   ·have:=(HP7.out.cli.blk j (by rw [ob_map];exact hj)).1
    obtain ⟨cs,mm,h9⟩:=HP7.out.cli.ty j (by rw [ob_map];exact hj)
    rintro rfl
    have h8:=HZ7.out
    rw [h9] at h8
    injection h8 with h8;injection h8 with _ h8
    exact absurd h8 (by decide)
   ·cases hj
  have hzx:w5.heap[w.heap.size+1+1]?=some (.cells cW0 62 (0,0)):=(hT5.block _ (by omega) (fun hs=>hCb _ hs rfl)).trans HZ7.out
  have hT6:=HT7.out.then hT5 (fun i hi=>.inl (hi.elim .inl (fun h=>by cases h)))
  have hz:=put5_at (.slice L' (bringW (cutW wd k) m).log.length ln') (.int .i64 wd.safe) (.bool wd.up) (.slice C xs'.length cc) (.slice N' ys2.length nc') hzx
  have hk:KeepT w5 (put5 w5 (w.heap.size+1+1) (.slice L' (bringW (cutW wd k) m).log.length ln') (.int .i64 wd.safe) (.bool wd.up) (.slice C xs'.length cc) (.slice N' ys2.length nc')):=KeepT.grown (gset (gset (gset (gset (gset_any _ _ _ _) _ _) _ _) _ _) _ _) hzx (by decide) (by decide) (by decide) (by decide)
  have hwR:w.heap.size≤w.heap.size+1+1:=by omega
  have hT:Turn (OwnB C (some ⟨gn,0,none⟩)) w (put5 w5 (w.heap.size+1+1) (.slice L' (bringW (cutW wd k) m).log.length ln') (.int .i64 wd.safe) (.bool wd.up) (.slice C xs'.length cc) (.slice N' ys2.length nc')):=((((hT6.setNew hwR 0 _).setNew hwR 1 _).setNew hwR 2 _).setNew hwR 3 _).setNew hwR 4 _
  have HZ:=Lib.hid hz;have HP9:=Lib.hid (hp5.keep hk);have HT:=Lib.hid hT
  clear hz hk hT hp5 hT5 hT6 hCb b0 b1 b2 b3 b4 bf f0 f1 f2 f3 f4 f5 f6 f7 ff d0 d1 d2 d3 d4 df c0 c1 c2 cf
  obtain ⟨d0,d1,d2,d3,d4,df⟩:=five_cells hzx
  clear hzx
  go_wp2_with fail
  obtain ⟨k0,k1,k2,k3,k4,kf⟩:=five_cells HZ.out
  refine bodyPost_ret (v:=.agg #[.slice L' (bringW (cutW wd k) m).log.length ln',.int .i64 wd.safe,.bool wd.up,.slice C xs'.length cc,.slice N' ys2.length nc']) ?_ rfl ?_
  ·simp [results,Tryz.f155,go_sem,k0,k1,k2,k3,k4]
  ·rw [HN8.out]
   exact ⟨L',ln',xs',N',nc',ys2,rfl,HP9.out,HT.out,fun j hj=>.inr (HN7.out j hj)⟩
 ·have HN8:Hid (netW wd kind k=cutW wd k):=by show _=_;rw [HN.out,if_neg h8]
  have h8':(kind == 8)=false:=by simp [h8]
  have hz:=put5_at (.slice L wd.log.length ln) (.int .i64 wd.safe) (.bool wd.up) (.slice C xs.length cc) (.slice N' ys2.length nc') HZ7.out
  have hk:KeepT W7 (put5 W7 (w.heap.size+1+1) (.slice L wd.log.length ln) (.int .i64 wd.safe) (.bool wd.up) (.slice C xs.length cc) (.slice N' ys2.length nc')):=KeepT.grown (gset (gset (gset (gset (gset_any _ _ _ _) _ _) _ _) _ _) _ _) HZ7.out (by decide) (by decide) (by decide) (by decide)
  have hwR:w.heap.size≤w.heap.size+1+1:=by omega
  have hT:Turn (OwnB C (some ⟨gn,0,none⟩)) w (put5 W7 (w.heap.size+1+1) (.slice L wd.log.length ln) (.int .i64 wd.safe) (.bool wd.up) (.slice C xs.length cc) (.slice N' ys2.length nc')):=((((HT7.out.setNew hwR 0 _).setNew hwR 1 _).setNew hwR 2 _).setNew hwR 3 _).setNew hwR 4 _
  have HZ:=Lib.hid hz;have HP9:=Lib.hid (HP7.out.keep hk);have HT:=Lib.hid hT
  clear h8 HN hz hk hT
  go_wp2_with fail
  obtain ⟨k0,k1,k2,k3,k4,kf⟩:=five_cells HZ.out
  refine bodyPost_ret (v:=.agg (cW wd L ln C xs cc N' ys2 nc')) ?_ rfl ?_
  ·simp [results,Tryz.f155,go_sem,k0,k1,k2,k3,k4]
  ·rw [HN8.out]
   exact ⟨L,ln,xs,N',nc',ys2,rfl,HP9.out,HT.out,fun j hj=>.inr (HN7.out j hj)⟩
theorem net22_s (wd:Wd) (e:Ev) (base:Nat) (L:Option Addr) (ln:Nat) (C:Option Addr) (cc:Nat) (N:Option Addr) (nc:Nat) (xs:List RC) (ys:List RL) (w:World) (hp:WP w base wd L ln C cc N nc xs ys) (hb:base≤w.heap.size) (hw:WInv wd) :
  Calls Tryz.prog 155 #[.agg (cW wd L ln C xs cc N ys nc),.agg (cV e)] w fun x w'=>∃ (L':Option Addr) (ln':Nat) (xs':List RC) (N':Option Addr) (nc':Nat) (ys':List RL),x=.returned (.agg #[.slice L' (netW wd e.kind e.n).log.length ln',.int .i64 wd.safe,.bool wd.up,.slice C xs'.length cc,.slice N' ys'.length nc'])∧WP w' base (netW wd e.kind e.n) L' ln' C cc N' nc' xs' ys'∧Turn (OwnB C N) w w'∧∀ k,OwnB none N' k→OwnB none N k∨w.heap.size≤k:=by
 by_cases hn:0≤e.n∧e.n≤(ys.length:Int) - 1
 ·obtain ⟨kind,who,n,op⟩:=e
  dsimp only at hn
  obtain ⟨k,rfl⟩:∃ k:Nat,n=k:=⟨n.toNat,by omega⟩
  have hkl:k<ys.length:=by omega
  obtain ⟨gn,rfl⟩:=hp.let_.at0w (by omega)
  by_cases h10:kind=10
  ·exact net22_twice wd kind who k op base L ln C cc gn nc xs ys w hp hb hw hkl h10
  ·exact net22_del wd kind who k op base L ln C cc gn nc xs ys w hp hb hw hkl h10
 ·exact net22_no wd e base L ln C cc N nc xs ys w hp hb hw hn
end Go.Proofs.YtecmcjfdaipfcaaGreatDoor
