/- Walk of the reference: a world anew. -/
import Derived.Test.YtecmcjfdaipfcaaGreatDoorZAT
import Derived.Test.YtecmcjfdaipfcaaGreatDoorZAK
namespace Go.Proofs.YtecmcjfdaipfcaaGreatDoor
open Go.RowKit Go.Lib
set_option linter.unusedVariables false
set_option linter.unusedSimpArgs false
def RcO (W:World) (base:Nat) (x:RC) (c:Client):Prop:=∃ b bn q qn,x=⟨c.who,c.seen,b,c.base.length,bn,q,c.wait.length,qn,c.done,c.made⟩∧Own 46 W base (.slice b c.base.length bn) c.base∧Own 35 W base (.slice q c.wait.length qn) c.wait
theorem RcO.ok {W:World} {base:Nat} {x:RC} {c:Client} (h:RcO W base x c):RcOk W x c:=by
 obtain ⟨b,bn,q,qn,rfl,r1,r2⟩:=h
 exact ⟨b,bn,q,qn,rfl,r1.rdT,r2.rdT⟩
theorem RcO.ext {W W':World} {base:Nat} {x:RC} {c:Client} (h:RcO W base x c) (hb:Ext W W'):RcO W' base x c:=by
 obtain ⟨b,bn,q,qn,rfl,r1,r2⟩:=h
 exact ⟨b,bn,q,qn,rfl,r1.below hb,r2.below hb⟩
theorem RcO.keep {W W':World} {base:Nat} {x:RC} {c:Client} (h:RcO W base x c) (hk:KeepT W W'):RcO W' base x c:=by
 obtain ⟨b,bn,q,qn,rfl,r1,r2⟩:=h
 exact ⟨b,bn,q,qn,rfl,r1.keep hk (.inl rfl),r2.keep hk (.inr (.inl rfl))⟩
theorem RcO.lower {W:World} {base base':Nat} {x:RC} {c:Client} (h:RcO W base x c) (hb:base'≤base):RcO W base' x c:=by
 obtain ⟨b,bn,q,qn,rfl,r1,r2⟩:=h
 exact ⟨b,bn,q,qn,rfl,r1.lower hb,r2.lower hb⟩
theorem RcO.grownO {β:Type} [Flat β] {e':TypeId} {W W':World} {base base':Nat} {v:Value} {xs:List β} {x:RC} {c:Client} (h:RcO W base x c) (hg:W.grownBy W' v.ownBlock) (ho:Own e' W base' v xs) (h1:e'≠46) (h2:e'≠35):RcO W' base x c:=by
 obtain ⟨b,bn,q,qn,rfl,r1,r2⟩:=h
 exact ⟨b,bn,q,qn,rfl,r1.grownO hg ho h1,r2.grownO hg ho h2⟩
theorem RcO.set {W:World} {base:Nat} {x:RC} {c:Client} (h:RcO W base x c) {b:Nat} {cs:Array Value} {ty:TypeId} {m:Nat × Nat} (hb:W.heap[b]?=some (.cells cs ty m)) (h1:ty≠46) (h2:ty≠35) (i:Nat) (v:Value):RcO (W.setCell ⟨b,i,none⟩ v) base x c:=by
 obtain ⟨b',bn,q,qn,rfl,r1,r2⟩:=h
 exact ⟨b',bn,q,qn,rfl,own_put r1 hb h1 i v,own_put r2 hb h2 i v⟩
theorem CO.rcO {W:World} {base:Nat} {c:Client} {v:Value} (h:CO W base c v):∃ x:RC,v=.agg #[.int .i64 x.who,.int .i64 x.seen,.slice x.b x.bl x.bn,.slice x.q x.ql x.qn,.int .i64 x.done,.int .i64 x.made]∧RcO W base x c:=by
 obtain ⟨A1,n1,A2,n2,rfl,h1,h2⟩:=h
 exact ⟨⟨c.who,c.seen,A1,c.base.length,n1,A2,c.wait.length,n2,c.done,c.made⟩,rfl,A1,n1,A2,n2,rfl,h1,h2⟩
def WVc (W:World) (base:Nat) (w:Wd) (v:Value):Prop:=
 ∃ L ln C cc N nc xs ys,v=.agg #[.slice L w.log.length ln,.int .i64 w.safe,.bool w.up,.slice C xs.length cc,.slice N ys.length nc]∧WP W base w L ln C cc N nc xs ys∧All2 (RcO W base) xs w.cls
set_option maxRecDepth 100000 in
set_option maxHeartbeats 4000000 in
theorem copy22_s (wd:Wd) (base:Nat) (L:Option Addr) (ln:Nat) (C:Option Addr) (cc:Nat) (N:Option Addr) (nc:Nat) (xs:List RC) (ys:List RL) (w:World) (hp:WP w base wd L ln C cc N nc xs ys) (hw:WInv wd) :
  Calls Tryz.prog 142 #[.agg #[.slice L wd.log.length ln,.int .i64 wd.safe,.bool wd.up,.slice C xs.length cc,.slice N ys.length nc]] w fun x w'=>∃ v,x=.returned v∧WVc w' w.heap.size wd v∧Ext w w':=by
 have h2:=two_new w (.cells #[.slice L wd.log.length ln,.int .i64 wd.safe,.bool wd.up,.slice C xs.length cc,.slice N ys.length nc] 62) oW0
 have hE2:Ext w ((w.alloc (.cells #[.slice L wd.log.length ln,.int .i64 wd.safe,.bool wd.up,.slice C xs.length cc,.slice N ys.length nc] 62)).alloc oW0):=((Below.refl _ w).alloc (Nat.le_refl _) _).alloc (by rw [alloc_sz];omega) _
 have hz2:((w.alloc (.cells #[.slice L wd.log.length ln,.int .i64 wd.safe,.bool wd.up,.slice C xs.length cc,.slice N ys.length nc] 62)).alloc oW0).heap.size=w.heap.size+2:=by rw [alloc_sz,alloc_sz]
 have HX1:=Lib.hid h2.1;have HX2:=Lib.hid h2.2;have HE2:=Lib.hid hE2
 have HP:=Lib.hid hp;have HW:=Lib.hid hw
 have hxl:xs.length≤3:=by have:=hp.cls.1;have:=hw.three;omega
 have hyl:ys.length≤12:=by have:=hp.nets.1;have:=hw.net;omega
 obtain ⟨b0,b1,b2,b3,b4,bf⟩:=five_cells h2.1
 clear h2 hE2 hp hw
 go_enter Tryz.func142,Tryz.ntmps142
 go_wp2_with fail
 clear b0 b1 b2 b3 b4 bf
 generalize ((w.alloc (.cells #[.slice L wd.log.length ln,.int .i64 wd.safe,.bool wd.up,.slice C xs.length cc,.slice N ys.length nc] 62)).alloc oW0)=Wb at *
 have hlen:=HW.out.len
 refine (scopy_s L ln wd.log wd.safe wd.up Wb (HP.out.log.ext HE2.out) (by omega)).mono ?_
 rintro r w1 ⟨L',n',rfl,hq1,hb1⟩
 have hs1:=hb1.size
 have HE1:=Lib.hid (HE2.out.trans (hb1.mono HE2.out.size))
 have HY1:=Lib.hid ((hb1.block _ (blk_lt HX1.out)).trans HX1.out);have HY2:=Lib.hid ((hb1.block _ (blk_lt HX2.out)).trans HX2.out)
 have HQ1:=Lib.hid hq1
 clear hq1 hb1
 go_wp2_with fail
 have h2:=two_new w1 (.cells #[] 104) (.cells #[.slice L' wd.log.length n',.int .i64 wd.safe,.bool wd.up,.slice none 0 0,.slice (some ⟨w1.heap.size,0,none⟩) 0 0] 62)
 have hE3:Ext w1 ((w1.alloc (.cells #[] 104)).alloc (.cells #[.slice L' wd.log.length n',.int .i64 wd.safe,.bool wd.up,.slice none 0 0,.slice (some ⟨w1.heap.size,0,none⟩) 0 0] 62)):=((Below.refl _ w1).alloc (Nat.le_refl _) _).alloc (by rw [alloc_sz];omega) _
 have hln:Own 104 ((w1.alloc (.cells #[] 104)).alloc (.cells #[.slice L' wd.log.length n',.int .i64 wd.safe,.bool wd.up,.slice none 0 0,.slice (some ⟨w1.heap.size,0,none⟩) 0 0] 62)) w.heap.size (.slice (some ⟨w1.heap.size,0,none⟩) 0 0) ([]:List RL):=(own_made (e:=104) (α:=RL) w1 w.heap.size (by omega)).below ((Below.refl _ _).alloc (Nat.le_refl _) _)
 have hs1':=HE1.out.size
 have HB3:=Lib.hid h2.2;have HE3:=Lib.hid (HE1.out.trans (hE3.mono hs1'));have HN3:=Lib.hid hln;have HL3:=Lib.hid (HQ1.out.ext hE3)
 have HZ3:=Lib.hid ((hE3.block _ (blk_lt HY2.out)).trans HY2.out);have HW3:=Lib.hid ((hE3.block _ (blk_lt HY1.out)).trans HY1.out)
 clear h2 hE3 hln
 generalize ((w1.alloc (.cells #[] 104)).alloc (.cells #[.slice L' wd.log.length n',.int .i64 wd.safe,.bool wd.up,.slice none 0 0,.slice (some ⟨w1.heap.size,0,none⟩) 0 0] 62))=W3 at *
 go_loopg [4] xs.length (fun gk i wr=>∃ (k:Nat) (zs:List RC) (C2:Option Addr) (c2:Nat),k≤xs.length∧Hid (gk=xs.length - k)∧i=.int .i64 k∧Hid (zs.length=k)∧Hid (wr.heap[w1.heap.size+1]?=some (.cells #[.slice L' wd.log.length n',.int .i64 wd.safe,.bool wd.up,.slice C2 zs.length c2,.slice (some ⟨w1.heap.size,0,none⟩) 0 0] 62 (0,0)))∧Hid (Own 26 wr w.heap.size (.slice C2 zs.length c2) zs)∧Hid (Own 104 wr w.heap.size (.slice (some ⟨w1.heap.size,0,none⟩) 0 0) ([]:List RL))∧Hid (All2 (RcO wr w.heap.size) zs (wd.cls.take k))∧Hid (RdT 35 wr L' n' wd.log)∧Hid (wr.heap[w.heap.size+1]?=some (.cells cW0 62 (0,0)))∧Hid (Ext w wr)∧Hid (wr.heap[w.heap.size]?=some (.cells #[.slice L wd.log.length ln,.int .i64 wd.safe,.bool wd.up,.slice C xs.length cc,.slice N ys.length nc] 62 (0,0))))
 case atStart=>exact ⟨0,[],none,0,by omega,rfl,rfl,rfl,HB3.out,Own.nil _ _ _,HN3.out,All2.nil,HL3.out,HZ3.out,HE3.out,HW3.out⟩
 case round=>
  obtain ⟨k,zs,C2,c2,hk,HK,rfl,HZL,HB,HO,HN,HA,HQ,HZ,HE,HWB⟩:=hrel
  obtain ⟨b0,b1,b2,b3,b4,bf⟩:=five_cells HWB.out
  by_cases hlt:k<xs.length
  ·obtain ⟨b,off,rfl,hbl,x0,x1,x2,x3,x4,x5⟩:=rc_at (HP.out.cli.rdT.1.ext HE.out) k hlt
   obtain ⟨o0,o1,o2,o3,o4,of⟩:=five_cells HB.out
   have hk2:k<wd.cls.length:=by have:=HP.out.cls.1;omega
   have hli:(k:Int)<xs.length:=by omega
   have hs0:=blk_lt HWB.out;have hs1:=blk_lt HB.out
   have hcl:=clientOk_parts (HW.out.cls _ (List.getElem_mem hk2))
   have hbl2:=treeOk_len hcl.2.2.2.1
   have hwl2:=hcl.2.2.2.2.2.2.1;have hdn:=hcl.2.2.2.2.1
   have HC:=Lib.hid (copy_s wd.cls[k] (.agg #[.int .i64 xs[k].who,.int .i64 xs[k].seen,.slice xs[k].b xs[k].bl xs[k].bn,.slice xs[k].q xs[k].ql xs[k].qn,.int .i64 xs[k].done,.int .i64 xs[k].made]) wr.drew (((HP.out.ext HE.out).ct k hlt hk2).ext ((Below.refl _ _).drew)).cv (by omega) (by omega))
   have HS:Hid (wr.drew.cell? ⟨w1.heap.size+1,3,none⟩=some (.slice C2 zs.length c2)∧wr.drew.cell? ⟨w.heap.size,3,none⟩=some (.slice (some ⟨b,off,none⟩) xs.length cc)∧wr.drew.cell? ⟨b,off+k*6,none⟩=some (.int .i64 xs[k].who)∧wr.drew.cell? ⟨b,off+k*6+1,none⟩=some (.int .i64 xs[k].seen)∧wr.drew.cell? ⟨b,off+k*6+2,none⟩=some (.slice xs[k].b xs[k].bl xs[k].bn)∧wr.drew.cell? ⟨b,off+k*6+3,none⟩=some (.slice xs[k].q xs[k].ql xs[k].qn)∧wr.drew.cell? ⟨b,off+k*6+4,none⟩=some (.int .i64 xs[k].done)∧wr.drew.cell? ⟨b,off+k*6+5,none⟩=some (.int .i64 xs[k].made)):=Lib.hid ⟨o3,b3,x0,x1,x2,x3,x4,x5⟩
   clear hcl hbl2 hwl2 hdn
   go_upto_region 5 with fail
   clear o0 o1 o2 o3 o4 of b0 b1 b2 b3 b4 bf x0 x1 x2 x3 x4 x5
   refine wp_region_B (fun w'=>w'.cell? ⟨w1.heap.size+1,3,none⟩=some (.slice C2 zs.length c2)∧w'.cell? ⟨w.heap.size,3,none⟩=some (.slice (some ⟨b,off,none⟩) xs.length cc)∧w'.cell? ⟨b,off+k*6,none⟩=some (.int .i64 xs[k].who)∧w'.cell? ⟨b,off+k*6+1,none⟩=some (.int .i64 xs[k].seen)∧w'.cell? ⟨b,off+k*6+2,none⟩=some (.slice xs[k].b xs[k].bl xs[k].bn)∧w'.cell? ⟨b,off+k*6+3,none⟩=some (.slice xs[k].q xs[k].ql xs[k].qn)∧w'.cell? ⟨b,off+k*6+4,none⟩=some (.int .i64 xs[k].done)∧w'.cell? ⟨b,off+k*6+5,none⟩=some (.int .i64 xs[k].made)) 11 (by kernel_rfl) ?_
   refine WB.take (i:=0) (v:=?_) rfl (by kernel_rfl) (by kernel_rfl) (by kernel_rfl) (by kernel_rfl) (fun _ _ _ h=>h) HS.out (Or.inl ⟨by rfl,?_⟩) ?_
   rotate_left
   ·(rintro w ⟨s0,s1,s2,s3,s4,s5,s6,s7⟩;go_simp;try with_reducible rfl)
   try simp only [Act.put,List.setIfInBounds_toArray,List.set_cons_zero,List.set_cons_succ]
   refine WB.take (i:=1) (v:=?_) rfl (by kernel_rfl) (by kernel_rfl) (by kernel_rfl) (by kernel_rfl) (fun _ _ _ h=>h) HS.out (Or.inl ⟨by rfl,?_⟩) ?_
   rotate_left
   ·(rintro w ⟨s0,s1,s2,s3,s4,s5,s6,s7⟩;go_simp;try with_reducible rfl)
   try simp only [Act.put,List.setIfInBounds_toArray,List.set_cons_zero,List.set_cons_succ]
   refine WB.take (i:=2) (v:=?_) rfl (by kernel_rfl) (by kernel_rfl) (by kernel_rfl) (by kernel_rfl) (fun _ _ _ h=>h) HS.out (Or.inl ⟨by rfl,?_⟩) ?_
   rotate_left
   ·(rintro w ⟨s0,s1,s2,s3,s4,s5,s6,s7⟩;go_simp;try with_reducible rfl)
   try simp only [Act.put,List.setIfInBounds_toArray,List.set_cons_zero,List.set_cons_succ]
   refine WB.take (i:=3) (v:=?_) rfl (by kernel_rfl) (by kernel_rfl) (by kernel_rfl) (by kernel_rfl) (fun _ _ _ h=>h) HS.out (Or.inl ⟨by rfl,?_⟩) ?_
   rotate_left
   ·(rintro w ⟨s0,s1,s2,s3,s4,s5,s6,s7⟩;go_simp;try with_reducible rfl)
   try simp only [Act.put,List.setIfInBounds_toArray,List.set_cons_zero,List.set_cons_succ]
   refine WB.take (i:=4) (v:=?_) rfl (by kernel_rfl) (by kernel_rfl) (by kernel_rfl) (by kernel_rfl) (fun _ _ _ h=>h) HS.out (Or.inl ⟨by rfl,?_⟩) ?_
   rotate_left
   ·(rintro w ⟨s0,s1,s2,s3,s4,s5,s6,s7⟩;go_simp;try with_reducible rfl)
   try simp only [Act.put,List.setIfInBounds_toArray,List.set_cons_zero,List.set_cons_succ]
   refine WB.take (i:=5) (v:=?_) rfl (by kernel_rfl) (by kernel_rfl) (by kernel_rfl) (by kernel_rfl) (fun _ _ _ h=>h) HS.out (Or.inl ⟨by rfl,?_⟩) ?_
   rotate_left
   ·(rintro w ⟨s0,s1,s2,s3,s4,s5,s6,s7⟩;go_simp;try with_reducible rfl)
   try simp only [Act.put,List.setIfInBounds_toArray,List.set_cons_zero,List.set_cons_succ]
   refine WB.take (i:=6) (v:=?_) rfl (by kernel_rfl) (by kernel_rfl) (by kernel_rfl) (by kernel_rfl) (fun _ _ _ h=>h) HS.out (Or.inl ⟨by rfl,?_⟩) ?_
   rotate_left
   ·(rintro w ⟨s0,s1,s2,s3,s4,s5,s6,s7⟩;go_simp;try with_reducible rfl)
   try simp only [Act.put,List.setIfInBounds_toArray,List.set_cons_zero,List.set_cons_succ]
   refine WB.one (i:=7) (by kernel_rfl) rfl (fun K hK=>?_)
   have HKK:=Lib.hid hK
   clear hK
   go_simp
   refine HC.out.mono ?_
   rintro r w5 ⟨v5,rfl,hco5,hb5⟩
   obtain ⟨x,rfl,hx⟩:=hco5.rcO
   have hE5:Ext wr w5:=((Below.refl _ _).drew).trans hb5
   have hs5:=hE5.size
   have hE6:Ext wr (w5.alloc (.cells #[.int .i64 x.who,.int .i64 x.seen,.slice x.b x.bl x.bn,.slice x.q x.ql x.qn,.int .i64 x.done,.int .i64 x.made] 26)):=hE5.alloc hs5 _
   obtain ⟨q0,q1,q2,q3,q4,q5,q6,q7⟩:=HS.out
   have HS5:Hid (w5.cell? ⟨w1.heap.size+1,3,none⟩=some (.slice C2 zs.length c2)∧w5.cell? ⟨w.heap.size,3,none⟩=some (.slice (some ⟨b,off,none⟩) xs.length cc)∧w5.cell? ⟨b,off+k*6,none⟩=some (.int .i64 xs[k].who)∧w5.cell? ⟨b,off+k*6+1,none⟩=some (.int .i64 xs[k].seen)∧w5.cell? ⟨b,off+k*6+2,none⟩=some (.slice xs[k].b xs[k].bl xs[k].bn)∧w5.cell? ⟨b,off+k*6+3,none⟩=some (.slice xs[k].q xs[k].ql xs[k].qn)∧w5.cell? ⟨b,off+k*6+4,none⟩=some (.int .i64 xs[k].done)∧w5.cell? ⟨b,off+k*6+5,none⟩=some (.int .i64 xs[k].made)):=Lib.hid ⟨(hb5.cell (p:=⟨w1.heap.size+1,3,none⟩) hs1).trans q0,(hb5.cell (p:=⟨w.heap.size,3,none⟩) hs0).trans q1,(hb5.cell (p:=⟨b,off+k*6,none⟩) hbl).trans q2,(hb5.cell (p:=⟨b,off+k*6+1,none⟩) hbl).trans q3,(hb5.cell (p:=⟨b,off+k*6+2,none⟩) hbl).trans q4,(hb5.cell (p:=⟨b,off+k*6+3,none⟩) hbl).trans q5,(hb5.cell (p:=⟨b,off+k*6+4,none⟩) hbl).trans q6,(hb5.cell (p:=⟨b,off+k*6+5,none⟩) hbl).trans q7⟩
   have HS6:Hid ((w5.alloc (.cells #[.int .i64 x.who,.int .i64 x.seen,.slice x.b x.bl x.bn,.slice x.q x.ql x.qn,.int .i64 x.done,.int .i64 x.made] 26)).cell? ⟨w1.heap.size+1,3,none⟩=some (.slice C2 zs.length c2)∧(w5.alloc (.cells #[.int .i64 x.who,.int .i64 x.seen,.slice x.b x.bl x.bn,.slice x.q x.ql x.qn,.int .i64 x.done,.int .i64 x.made] 26)).cell? ⟨w.heap.size,3,none⟩=some (.slice (some ⟨b,off,none⟩) xs.length cc)∧(w5.alloc (.cells #[.int .i64 x.who,.int .i64 x.seen,.slice x.b x.bl x.bn,.slice x.q x.ql x.qn,.int .i64 x.done,.int .i64 x.made] 26)).cell? ⟨b,off+k*6,none⟩=some (.int .i64 xs[k].who)∧(w5.alloc (.cells #[.int .i64 x.who,.int .i64 x.seen,.slice x.b x.bl x.bn,.slice x.q x.ql x.qn,.int .i64 x.done,.int .i64 x.made] 26)).cell? ⟨b,off+k*6+1,none⟩=some (.int .i64 xs[k].seen)∧(w5.alloc (.cells #[.int .i64 x.who,.int .i64 x.seen,.slice x.b x.bl x.bn,.slice x.q x.ql x.qn,.int .i64 x.done,.int .i64 x.made] 26)).cell? ⟨b,off+k*6+2,none⟩=some (.slice xs[k].b xs[k].bl xs[k].bn)∧(w5.alloc (.cells #[.int .i64 x.who,.int .i64 x.seen,.slice x.b x.bl x.bn,.slice x.q x.ql x.qn,.int .i64 x.done,.int .i64 x.made] 26)).cell? ⟨b,off+k*6+3,none⟩=some (.slice xs[k].q xs[k].ql xs[k].qn)∧(w5.alloc (.cells #[.int .i64 x.who,.int .i64 x.seen,.slice x.b x.bl x.bn,.slice x.q x.ql x.qn,.int .i64 x.done,.int .i64 x.made] 26)).cell? ⟨b,off+k*6+4,none⟩=some (.int .i64 xs[k].done)∧(w5.alloc (.cells #[.int .i64 x.who,.int .i64 x.seen,.slice x.b x.bl x.bn,.slice x.q x.ql x.qn,.int .i64 x.done,.int .i64 x.made] 26)).cell? ⟨b,off+k*6+5,none⟩=some (.int .i64 xs[k].made)):=Lib.hid ⟨(hE6.cell (p:=⟨w1.heap.size+1,3,none⟩) hs1).trans q0,(hE6.cell (p:=⟨w.heap.size,3,none⟩) hs0).trans q1,(hE6.cell (p:=⟨b,off+k*6,none⟩) hbl).trans q2,(hE6.cell (p:=⟨b,off+k*6+1,none⟩) hbl).trans q3,(hE6.cell (p:=⟨b,off+k*6+2,none⟩) hbl).trans q4,(hE6.cell (p:=⟨b,off+k*6+3,none⟩) hbl).trans q5,(hE6.cell (p:=⟨b,off+k*6+4,none⟩) hbl).trans q6,(hE6.cell (p:=⟨b,off+k*6+5,none⟩) hbl).trans q7⟩
   clear q0 q1 q2 q3 q4 q5 q6 q7 hco5
   have hew:=HE.out.size
   have hown:=HO.out.below hE5
   obtain ⟨v7,w7,hrun,ho7,hg7⟩:=app_one el_cli hown x trivial (by have:=HZL.out;omega) (by omega) #[.int .i64 x.who,.int .i64 x.seen,.slice x.b x.bl x.bn,.slice x.q x.ql x.qn,.int .i64 x.done,.int .i64 x.made] rfl
   obtain ⟨C3,c3,hv9,-⟩:=ho7.rd
   rw [List.length_append,List.length_singleton] at hv9
   subst hv9
   refine HKK.out _ _ ⟨fun _=>HS5.out,?_⟩
   clear HKK K HS HC
   try simp only [Act.put,List.setIfInBounds_toArray,List.set_cons_zero,List.set_cons_succ]
   refine WB.one (i:=8) (by kernel_rfl) rfl (fun K hK=>?_)
   have HKK:=Lib.hid hK
   clear hK
   go_simp
   refine HKK.out _ _ ⟨fun _=>HS6.out,?_⟩
   clear HKK K HS5
   try simp only [Act.put,List.setIfInBounds_toArray,List.set_cons_zero,List.set_cons_succ]
   have hE6a:Ext w5 (w5.alloc (.cells #[.int .i64 x.who,.int .i64 x.seen,.slice x.b x.bl x.bn,.slice x.q x.ql x.qn,.int .i64 x.done,.int .i64 x.made] 26)):=(Below.refl _ _).alloc (Nat.le_refl _) _
   have hoa:=hown.below hE6a
   have hbw:b<w.heap.size:=(HP.out.cli.blk b rfl).2
   have hob:=box_grown ((hE6.block _ hs1).trans HB.out) hg7 hoa (by decide)
   have hwb:=box_grown ((hE6.block _ hs0).trans HWB.out) hg7 hoa (by decide)
   have hzb:=box_grown ((hE6.block _ (blk_lt HZ.out)).trans HZ.out) hg7 hoa (by decide)
   have hbb:w7.heap[b]?=(w5.alloc (.cells #[.int .i64 x.who,.int .i64 x.seen,.slice x.b x.bl x.bn,.slice x.q x.ql x.qn,.int .i64 x.done,.int .i64 x.made] 26)).heap[b]?:=hg7.block b (by have:=hE6.size;omega) (fun e0=>by have:=(hoa.blk b e0.symm).1;omega)
   have HS7:Hid (w7.cell? ⟨w1.heap.size+1,3,none⟩=some (.slice C2 zs.length c2)∧w7.cell? ⟨w.heap.size,3,none⟩=some (.slice (some ⟨b,off,none⟩) xs.length cc)∧w7.cell? ⟨b,off+k*6,none⟩=some (.int .i64 xs[k].who)∧w7.cell? ⟨b,off+k*6+1,none⟩=some (.int .i64 xs[k].seen)∧w7.cell? ⟨b,off+k*6+2,none⟩=some (.slice xs[k].b xs[k].bl xs[k].bn)∧w7.cell? ⟨b,off+k*6+3,none⟩=some (.slice xs[k].q xs[k].ql xs[k].qn)∧w7.cell? ⟨b,off+k*6+4,none⟩=some (.int .i64 xs[k].done)∧w7.cell? ⟨b,off+k*6+5,none⟩=some (.int .i64 xs[k].made)):=by
    obtain ⟨q0,q1,q2,q3,q4,q5,q6,q7⟩:=HS6.out
    obtain ⟨r0,r1,r2,r3,r4,rf⟩:=five_cells hob
    obtain ⟨t0,t1,t2,t3,t4,tf⟩:=five_cells hwb
    exact ⟨r3,t3,(World.cell?_of_block hbb).trans q2,(World.cell?_of_block hbb).trans q3,(World.cell?_of_block hbb).trans q4,(World.cell?_of_block hbb).trans q5,(World.cell?_of_block hbb).trans q6,(World.cell?_of_block hbb).trans q7⟩
   have hE7:Ext w w7:=hown.over_one (HE.out.trans (hE5.mono hew)) hg7 (Nat.le_refl _) (by omega)
   have HO7:=Lib.hid (own_put ho7 hob (by decide) 3 (.slice C3 (zs.length+1) c3))
   have HN7:=Lib.hid (own_put ((HN.out.below hE6).grownO hg7 hoa (by decide)) hob (by decide) 3 (.slice C3 (zs.length+1) c3))
   have HQ7:=Lib.hid (((HQ.out.ext hE6).grownO hg7 hoa (by decide)).set hob (by decide) 3 (.slice C3 (zs.length+1) c3))
   have HA7:Hid (All2 (RcO (w7.setCell ⟨w1.heap.size+1,3,none⟩ (.slice C3 (zs.length+1) c3)) w.heap.size) (zs++[x]) (wd.cls.take (k+1))):=by
    rw [List.take_succ_eq_append_getElem hk2]
    exact (HA.out.imp (fun x c h=>((h.ext hE6).grownO hg7 hoa (by decide) (by decide)).set hob (by decide) (by decide) 3 _)).append (All2.one ((((hx.ext hE6a).grownO hg7 hoa (by decide) (by decide)).set hob (by decide) (by decide) 3 _).lower (by show w.heap.size≤wr.heap.size;omega)))
   have HB7:=Lib.hid (set_at (i:=3) (v:=.slice C3 (zs.length+1) c3) hob)
   have HZ7:Hid ((w7.setCell ⟨w1.heap.size+1,3,none⟩ (.slice C3 (zs.length+1) c3)).heap[w.heap.size+1]?=some (.cells cW0 62 (0,0))):=(setx (by omega)).trans hzb
   have hw7:(w7.setCell ⟨w1.heap.size+1,3,none⟩ (.slice C3 (zs.length+1) c3)).heap[w.heap.size]?=_:=(setx (by omega)).trans hwb
   have HW7:=Lib.hid hw7
   have HE7:Hid (Ext w (w7.setCell ⟨w1.heap.size+1,3,none⟩ (.slice C3 (zs.length+1) c3))):=hE7.setCell (p:=⟨w1.heap.size+1,3,none⟩) (by show w.heap.size≤w1.heap.size+1;omega) _
   have HRUN:=Lib.hid hrun
   obtain ⟨r0,r1,r2,r3,r4,rf⟩:=five_cells hob
   clear hw7 hrun ho7 hg7 hoa hown hE5 hE6 hE6a hE7 hob hwb hzb hbb hb5 hx
   refine WB.one (i:=9) (by kernel_rfl) rfl (fun K hK=>?_)
   refine step_append_run rfl _ _ _ rfl rfl rfl HRUN.out ?_
   refine hK _ _ ⟨fun _=>HS7.out,?_⟩
   clear hK K HS6 HRUN
   try simp only [Act.put,List.setIfInBounds_toArray,List.set_cons_zero,List.set_cons_succ]
   refine WB.takeP (i:=10) (v:=?_) rfl (by kernel_rfl) (by kernel_rfl) (by kernel_rfl) (by kernel_rfl) (fun _ _ _ h=>h) HS7.out (Or.inl ⟨by rfl,?_⟩) ?_
   rotate_left
   ·(rintro w -;go_simp;try with_reducible rfl)
   try simp only [Act.put,List.setIfInBounds_toArray,List.set_cons_zero,List.set_cons_succ]
   refine WB.one (i:=11) (by kernel_rfl) rfl (fun K hK=>?_)
   have HKK:=Lib.hid hK
   clear hK
   go_simp
   refine HKK.out _ _ ⟨fun h=>(no_late h (by kernel_rfl)).elim,?_⟩
   clear HKK K HS7 r0 r1 r2 r3 r4 rf
   refine WB.done (by kernel_rfl) ?_
   go_wp2_with fail
   have hzl:(zs++[x]).length=zs.length+1:=by simp
   have HZL9:=Lib.hid hzl
   clear hzl
   go_roundg (xs.length - (k+1))
   case measure=>have:=HK.out;omega
   case rel=>exact ⟨k+1,zs++[x],C3,c3,by omega,rfl,by go_num,by show _=_;rw [HZL9.out,HZL.out],by rw [HZL9.out];exact HB7.out,by rw [HZL9.out];exact HO7.out,HN7.out,HA7.out,HQ7.out,HZ7.out,HE7.out,HW7.out⟩
  ·have hkl:k=xs.length:=by omega
   have HZX:Hid (zs.length=xs.length):=by show _=_;rw [HZL.out,hkl]
   have hA:=HA.out
   rw [List.take_of_length_le (by have:=HP.out.cls.1;omega)] at hA
   have HA2:=Lib.hid hA
   have hli:¬((k:Int)<xs.length):=by omega
   clear hA HA HK HZL hk hkl
   go_wp2_with fail
   clear hli b0 b1 b2 b3 b4 bf hlt
   obtain ⟨wo,rfl⟩:∃ wo:World,wo=wr:=⟨_,rfl⟩
   go_loopg [5] ys.length (fun gk i wr=>∃ (k:Nat) (us:List RL) (N2:Option Addr) (m2:Nat),k≤ys.length∧Hid (gk=ys.length - k)∧i=.int .i64 k∧Hid (us.length=k)∧Hid (wr.heap[w1.heap.size+1]?=some (.cells #[.slice L' wd.log.length n',.int .i64 wd.safe,.bool wd.up,.slice C2 zs.length c2,.slice N2 us.length m2] 62 (0,0)))∧Hid (Own 26 wr w.heap.size (.slice C2 zs.length c2) zs)∧Hid (Own 104 wr w.heap.size (.slice N2 us.length m2) us)∧Hid (All2 (RcO wr w.heap.size) zs wd.cls)∧Hid (All2 (LtOk wr) us (wd.nets.take k))∧Hid (RdT 35 wr L' n' wd.log)∧Hid (wr.heap[w.heap.size+1]?=some (.cells cW0 62 (0,0)))∧Hid (Ext w wr)∧Hid (wr.heap[w.heap.size]?=some (.cells #[.slice L wd.log.length ln,.int .i64 wd.safe,.bool wd.up,.slice C xs.length cc,.slice N ys.length nc] 62 (0,0))))
   case atStart=>exact ⟨0,[],_,0,by omega,rfl,rfl,rfl,HB.out,HO.out,HN.out,HA2.out,All2.nil,HQ.out,HZ.out,HE.out,HWB.out⟩
   case round=>
    clear HB HO HN HA2 HQ HZ HE HWB
    obtain ⟨k,us,N2,m2,hk,HK,rfl,HUL,HB,HO,HN,HA,HM,HQ,HZ,HE,HWB⟩:=hrel
    obtain ⟨b0,b1,b2,b3,b4,bf⟩:=five_cells HWB.out
    by_cases hlt:k<ys.length
    ·have hk2:k<wd.nets.length:=by have:=HP.out.nets.1;omega
     obtain ⟨b,off,hNe,hbl,y0,y1,y2⟩:=rl_at (HP.out.let_.rdT.1.ext HE.out) k hlt
     obtain ⟨ya,yn,hyk,hyr⟩:=HP.out.nets.2 k hlt hk2
     rw [hyk] at y0 y1 y2
     dsimp only at y0 y1 y2
     have HYR:=Lib.hid (hyr.ext HE.out)
     have hml:=(HW.out.nets _ (List.getElem_mem hk2)).2.2.2.1
     have HTK:=Lib.hid (List.take_succ_eq_append_getElem hk2)
     generalize wd.nets[k]=m at *
     clear hyk hyr
     have hNs:(Value.slice N ys.length nc)=.slice (some ⟨b,off,none⟩) ys.length nc:=by rw [hNe]
     rw [hNe] at b4
     have HNE:=Lib.hid hNe
     clear hNe hNs
     have hli:(k:Int)<ys.length:=by omega
     have hs1:=blk_lt HB.out;have hs0:=blk_lt HWB.out
     have hew:=HE.out.size
     have hE4:Ext wr (wr.alloc (oL m ya yn)):=(Below.refl _ _).alloc (Nat.le_refl _) _
     have hm4:=World.alloc_heap_new wr (oL m ya yn)
     have hz4:=alloc_sz wr (oL m ya yn)
     have hE5:Ext wr ((wr.alloc (oL m ya yn)).alloc (.cells #[] 35)):=hE4.alloc (by omega) _
     obtain ⟨v6,w6,h6,o6,g6⟩:=app_at el_ent (own_made (e:=35) (α:=Entry) (wr.alloc (oL m ya yn)) (wr.alloc (oL m ya yn)).heap.size (Nat.le_refl _)) (HYR.out.1.ext hE5) (by simp;omega) (by have:=alloc_sz (wr.alloc (oL m ya yn)) (.cells #[] 35);omega)
     rw [List.nil_append] at o6
     obtain ⟨A6,n6,hv6,-⟩:=o6.rd
     subst hv6
     have hE6:Ext wr w6:=(own_made (e:=35) (α:=Entry) (wr.alloc (oL m ya yn)) (wr.alloc (oL m ya yn)).heap.size (Nat.le_refl _)).over hE5 g6 (by omega) hE5.size
     have hm6:w6.heap[wr.heap.size]?=some (.cells (cL m ya yn) 104 (0,0)):=(g6.block _ (by have:=alloc_sz (wr.alloc (oL m ya yn)) (.cells #[] 35);omega) (fun e=>by simp only [Value.ownBlock,Option.some.injEq] at e;omega)).trans ((Below.heap_alloc (wr.alloc (oL m ya yn)) _ wr.heap.size (by omega)).trans hm4)
     have hm7:(w6.setCell ⟨wr.heap.size,2,none⟩ (.slice A6 m.list.length n6)).heap[wr.heap.size]?=some (.cells (cL m A6 n6) 104 (0,0)):=set_at hm6
     have hE7:Ext wr (w6.setCell ⟨wr.heap.size,2,none⟩ (.slice A6 m.list.length n6)):=hE6.setCell (p:=⟨wr.heap.size,2,none⟩) (Nat.le_refl _) _
     have hr7:RdT 35 (w6.setCell ⟨wr.heap.size,2,none⟩ (.slice A6 m.list.length n6)) A6 n6 m.list:=o6.rdT.set hm6 (by decide) 2 _
     have hE8:Ext wr ((w6.setCell ⟨wr.heap.size,2,none⟩ (.slice A6 m.list.length n6)).alloc (oL m A6 n6)):=hE7.alloc hE7.size _
     have hown:=HN.out.below hE7
     obtain ⟨v9,w9,h9,o9,g9⟩:=app_one el_let hown (⟨m.dst,m.frm,A6,m.list.length,n6⟩:RL) trivial (by have:=HUL.out;omega) (by have:=hE7.size;omega) (cL m A6 n6) rfl
     obtain ⟨N3,m3,hv9,-⟩:=o9.rd
     rw [List.length_append,List.length_singleton] at hv9
     subst hv9
     have hoa:=HN.out.below hE8
     have hob:=box_grown ((hE8.block _ hs1).trans HB.out) g9 hoa (by decide)
     have hwb:=box_grown ((hE8.block _ hs0).trans HWB.out) g9 hoa (by decide)
     have hzb:=box_grown ((hE8.block _ (blk_lt HZ.out)).trans HZ.out) g9 hoa (by decide)
     have hE9:Ext w w9:=hown.over_one (HE.out.trans (hE7.mono hew)) g9 (Nat.le_refl _) (by have:=hE7.size;omega)
     have HE9:Hid (Ext w (w9.setCell ⟨w1.heap.size+1,4,none⟩ (.slice N3 (us.length+1) m3))):=hE9.setCell (p:=⟨w1.heap.size+1,4,none⟩) (by show w.heap.size≤w1.heap.size+1;omega) _
     have HO9:=Lib.hid (own_put ((HO.out.below hE8).grownO g9 hoa (by decide)) hob (by decide) 4 (.slice N3 (us.length+1) m3))
     have HN9:=Lib.hid (own_put o9 hob (by decide) 4 (.slice N3 (us.length+1) m3))
     have HQ9:=Lib.hid (((HQ.out.ext hE8).grownO g9 hoa (by decide)).set hob (by decide) 4 (.slice N3 (us.length+1) m3))
     have HA9:Hid (All2 (RcO (w9.setCell ⟨w1.heap.size+1,4,none⟩ (.slice N3 (us.length+1) m3)) w.heap.size) zs wd.cls):=HA.out.imp (fun x c h=>((h.ext hE8).grownO g9 hoa (by decide) (by decide)).set hob (by decide) (by decide) 4 _)
     have hk9:KeepT w9 (w9.setCell ⟨w1.heap.size+1,4,none⟩ (.slice N3 (us.length+1) m3)):=KeepT.grown (gset_any w9 (w1.heap.size+1) 4 _) hob (by decide) (by decide) (by decide) (by decide)
     have HM9:Hid (All2 (LtOk (w9.setCell ⟨w1.heap.size+1,4,none⟩ (.slice N3 (us.length+1) m3))) (us++[⟨m.dst,m.frm,A6,m.list.length,n6⟩]) (wd.nets.take (k+1))):=by
      rw [HTK.out]
      exact ((HM.out.imp (fun x c h=>(h.ext hE8).grownO g9 hoa (by decide))).append (All2.one ⟨A6,n6,rfl,(hr7.ext ((Below.refl _ _).alloc (Nat.le_refl _) _)).grownO g9 hoa (by decide)⟩)).imp (fun x c h=>h.keep hk9)
     have HB9:=Lib.hid (set_at (i:=4) (v:=.slice N3 (us.length+1) m3) hob)
     have HZ9:Hid ((w9.setCell ⟨w1.heap.size+1,4,none⟩ (.slice N3 (us.length+1) m3)).heap[w.heap.size+1]?=some (.cells cW0 62 (0,0))):=(setx (by omega)).trans hzb
     have hw9:(w9.setCell ⟨w1.heap.size+1,4,none⟩ (.slice N3 (us.length+1) m3)).heap[w.heap.size]?=_:=(setx (by omega)).trans hwb
     have HW9:=Lib.hid hw9
     rw [hz4] at h6
     rw [show (w6.setCell ⟨wr.heap.size,2,none⟩ (.slice A6 m.list.length n6)).heap.size=w6.heap.size by simp] at h9
     have H6:=Lib.hid h6;have H9:=Lib.hid h9;have HM7:=Lib.hid hm7;have HM6:=Lib.hid hm6
     have HOB7:=Lib.hid ((hE7.block _ hs1).trans HB.out);have HOB9:=Lib.hid hob
     clear h6 h9 hm7 hm6 hm4 hE4 hE5 hE6 hE7 hE8 hE9 hown hoa hob hwb hzb hk9 hw9 hr7 o6 o9 g6 g9
     obtain ⟨p0,p1,p2,pf⟩:=tri_cells HM6.out
     go_upto_region 11 with (at_builtin;refine wpList_append_run rfl _ _ _ rfl rfl rfl H6.out ?_)
     clear p0 p1 p2 pf b0 b1 b2 b3 b4 bf y0 y1 y2
     obtain ⟨p0,p1,p2,pf⟩:=tri_cells HM7.out
     obtain ⟨o0,o1,o2,o3,o4,of⟩:=five_cells HOB7.out
     obtain ⟨r0,r1,r2,r3,r4,rf⟩:=five_cells HOB9.out
     go_wp2_with (at_builtin;refine wpList_append_run rfl _ _ _ rfl rfl rfl H9.out ?_)
     have hul:(us++[(⟨m.dst,m.frm,A6,m.list.length,n6⟩:RL)]).length=us.length+1:=by simp
     have HUL9:=Lib.hid hul
     have hNE:=HNE.out
     clear hul p0 p1 p2 pf o0 o1 o2 o3 o4 of r0 r1 r2 r3 r4 rf
     go_roundg (ys.length - (k+1))
     case measure=>have:=HK.out;omega
     case rel=>exact ⟨k+1,us++[⟨m.dst,m.frm,A6,m.list.length,n6⟩],N3,m3,by omega,rfl,by go_num,by show _=_;rw [HUL9.out,HUL.out],by rw [HUL9.out];exact HB9.out,HO9.out,by rw [HUL9.out];exact HN9.out,HA9,HM9,HQ9.out,HZ9,HE9,HW9.out⟩
    ·have hkl:k=ys.length:=by omega
     have hA:=HM.out
     rw [List.take_of_length_le (by have:=HP.out.nets.1;omega)] at hA
     have HM2:=Lib.hid hA
     have hli:¬((k:Int)<ys.length):=by omega
     clear hA HM HK hkl
     have hz:=put5_at (.slice L' wd.log.length n') (.int .i64 wd.safe) (.bool wd.up) (.slice C2 zs.length c2) (.slice N2 us.length m2) HZ.out
     have hwR:w.heap.size≤w.heap.size+1:=by omega
     have hk9:KeepT wr (put5 wr (w.heap.size+1) (.slice L' wd.log.length n') (.int .i64 wd.safe) (.bool wd.up) (.slice C2 zs.length c2) (.slice N2 us.length m2)):=KeepT.grown (gset (gset (gset (gset (gset_any _ _ _ _) _ _) _ _) _ _) _ _) HZ.out (by decide) (by decide) (by decide) (by decide)
     have hE:Ext w (put5 wr (w.heap.size+1) (.slice L' wd.log.length n') (.int .i64 wd.safe) (.bool wd.up) (.slice C2 zs.length c2) (.slice N2 us.length m2)):=((((HE.out.setCell (p:=⟨w.heap.size+1,0,none⟩) hwR _).setCell (p:=⟨w.heap.size+1,1,none⟩) hwR _).setCell (p:=⟨w.heap.size+1,2,none⟩) hwR _).setCell (p:=⟨w.heap.size+1,3,none⟩) hwR _).setCell (p:=⟨w.heap.size+1,4,none⟩) hwR _
     have hp9:WP wr w.heap.size wd L' n' C2 c2 N2 m2 zs us:=⟨HQ.out,HO.out,HN.out,HA.out.imp (fun x c h=>h.ok),HM2.out⟩
     have HZ9:=Lib.hid hz;have HP9:=Lib.hid (hp9.keep hk9);have HE9:=Lib.hid hE;have HC9:Hid (All2 (RcO (put5 wr (w.heap.size+1) (.slice L' wd.log.length n') (.int .i64 wd.safe) (.bool wd.up) (.slice C2 zs.length c2) (.slice N2 us.length m2)) w.heap.size) zs wd.cls):=HA.out.imp (fun x c h=>h.keep hk9)
     clear hz hk9 hE hp9
     obtain ⟨o0,o1,o2,o3,o4,of⟩:=five_cells HB.out
     obtain ⟨d0,d1,d2,d3,d4,df⟩:=five_cells HZ.out
     go_wp2_with fail
     obtain ⟨k0,k1,k2,k3,k4,kf⟩:=five_cells HZ9.out
     refine bodyPost_ret (v:=.agg #[.slice L' wd.log.length n',.int .i64 wd.safe,.bool wd.up,.slice C2 zs.length c2,.slice N2 us.length m2]) ?_ rfl ?_
     ·simp [results,Tryz.f142,go_sem,k0,k1,k2,k3,k4]
     ·exact ⟨_,rfl,⟨L',n',C2,c2,N2,m2,zs,us,rfl,HP9.out,HC9.out⟩,HE9.out⟩
end Go.Proofs.YtecmcjfdaipfcaaGreatDoor
