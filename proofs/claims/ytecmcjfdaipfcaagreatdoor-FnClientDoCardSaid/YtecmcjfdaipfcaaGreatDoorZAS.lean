/- Walk of the reference: somebody is told the news. .. Walk of the reference: somebody sends what waits. -/
import Derived.Test.YtecmcjfdaipfcaaGreatDoorZAR
import Derived.Deep.DeepCutAuto
import Derived.Deep.CutBlock
namespace Go.Proofs.YtecmcjfdaipfcaaGreatDoor
open Go.RowKit Go.Lib
set_option linter.unusedVariables false
set_option linter.unusedSimpArgs false
theorem news_ok {w:Wd} (h:WInv w) {who n:Int} (h1:1≤who) (h2:who≤3) (h3:0≤n) (h4:n≤w.safe) {m:List Entry} (hm:∀ e∈m,e∈w.log) (hl:m.length≤w.log.length):LInv ⟨who,n,m⟩:=
 ⟨⟨by show 0≤who;omega,h2⟩,⟨h3,by show n≤40;have:=h.safe1;have:=h.len;omega⟩,fun e he=>h.log e (hm e he),by show m.length≤40;have:=h.len;omega,fun h0=>by have:who=0:=h0;omega⟩
theorem putW_same (w:Wd) (m:Lt):(putW w m).log=w.log∧(putW w m).safe=w.safe∧(putW w m).up=w.up:=by
 unfold putW;split <;> exact ⟨rfl,rfl,rfl⟩
set_option maxRecDepth 100000 in
set_option maxHeartbeats 4000000 in
theorem who22_news (wd:Wd) (e:Ev) (base:Nat) (L:Option Addr) (ln:Nat) (g cc:Nat) (N:Option Addr) (nc:Nat) (xs:List RC) (ys:List RL) (w:World) (hp:WP w base wd L ln (some ⟨g,0,none⟩) cc N nc xs ys) (hb:base≤w.heap.size) (hw:WInv wd) (i:Nat) (hd:e.who=(i:Int)+1) (hi:i<3) (up:Bool) (hu:wd.up=up) (h4:e.kind=4) :
  Calls Tryz.prog 153 #[.agg #[.slice L wd.log.length ln,.int .i64 wd.safe,.bool up,.slice (some ⟨g,0,none⟩) xs.length cc,.slice N ys.length nc],.agg (cV e)] w (StepP w base (some ⟨g,0,none⟩) N):=by
 have h3:=three_all w (.cells #[.slice L wd.log.length ln,.int .i64 wd.safe,.bool up,.slice (some ⟨g,0,none⟩) xs.length cc,.slice N ys.length nc] 62) (oV e) oW0
 have hE3:Ext w (((w.alloc (.cells #[.slice L wd.log.length ln,.int .i64 wd.safe,.bool up,.slice (some ⟨g,0,none⟩) xs.length cc,.slice N ys.length nc] 62)).alloc (oV e)).alloc oW0):=ext3 _ _ _ _
 have hz3:(((w.alloc (.cells #[.slice L wd.log.length ln,.int .i64 wd.safe,.bool up,.slice (some ⟨g,0,none⟩) xs.length cc,.slice N ys.length nc] 62)).alloc (oV e)).alloc oW0).heap.size=w.heap.size+3:=by simp only [alloc_sz]
 have HX1:=Lib.hid h3.1;have HX2:=Lib.hid h3.2.1;have HX3:=Lib.hid h3.2.2;have HE3:=Lib.hid hE3
 have HP:=Lib.hid (hp.ext hE3);have HW:=Lib.hid hw
 have hxl:xs.length=3:=by have:=hp.cls.1;have:=hw.three;omega
 have hi1:i<xs.length:=by omega
 have hi2:i<wd.cls.length:=by have:=hw.three;omega
 have hny:ys.length≤12:=by have:=hp.nets.1;have:=hw.net;omega
 have hgw:g<w.heap.size:=by
  obtain ⟨cs,mm,hg9⟩:=hp.cli.ty g rfl
  exact blk_lt hg9
 obtain ⟨xb,xo,he9,hbx,x0,x1,x2,x3,x4,x5⟩:=rc_at HP.out.cli.rdT.1 i hi1
 injection he9 with he9;injection he9 with he91 he92;subst he91;subst he92
 simp only [Nat.zero_add] at x0 x1 x2 x3 x4 x5
 have HXL:=Lib.hid hxl
 have hil:(i:Int)<xs.length:=by omega
 have hw1:IntKind.i64.wrap (e.who - 1)=(i:Int):=by rw [IntKind.wrap_i64];omega
 have HIN:Hid (inR e.who 1 3=true):=by show _=_;unfold inR;rw [decide_eq_true_eq];omega
 have HD:=Lib.hid hd
 have HCT:=Lib.hid (HP.out.ct i hi1 hi2)
 have HCO:=Lib.hid (hw.cls _ (List.getElem_mem hi2))
 have hfz:=HP.out.cli.frzw
 obtain ⟨b0,b1,b2,b3,b4,bf⟩:=five_cells h3.1
 obtain ⟨e0,e1,e2,e3,e4,e5,e6,e7,ef⟩:=eight_cells h3.2.1
 obtain ⟨d0,d1,d2,d3,d4,df⟩:=five_cells h3.2.2
 have hpw:=hp
 clear h3 hE3 hp hw hxl hd
 have h1':(e.kind == 1)=false:=by simp [h4]
 have h2':(e.kind == 2)=false:=by simp [h4]
 have h4':(e.kind == 4)=true:=by simp [h4]
 have HU:=Lib.hid hu
 have hNw:∀ b,N.map Addr.block=some b→b<w.heap.size:=fun b h=>by
  obtain ⟨cs,mm,h9⟩:=hpw.let_.ty b (by rw [ob_map];exact h)
  exact blk_lt h9
 clear h4 hu hpw
 go_enter Tryz.func153,Tryz.ntmps153
 go_wp2_with fail
 refine (in_c _ _ _ _).mono ?_
 rintro r w' ⟨rfl,hw'⟩
 rw [HIN.out]
 subst hw'
 generalize (((w.alloc (.cells #[.slice L wd.log.length ln,.int .i64 wd.safe,.bool up,.slice (some ⟨g,0,none⟩) xs.length cc,.slice N ys.length nc] 62)).alloc (oV e)).alloc oW0)=W3 at *
 cases up with
 |false=>
  go_upto_region 15 with fail
  have hE4:Ext W3 (W3.alloc (oR xs[i])):=(Below.refl _ _).alloc (Nat.le_refl _) _
  have HX4:=Lib.hid (World.alloc_heap_new W3 (oR xs[i]))
  have hz4:(W3.alloc (oR xs[i])).heap.size=w.heap.size+4:=by rw [alloc_sz,hz3]
  rw [hz3] at HX4
  have HE4:=Lib.hid hE4
  clear hE4 b0 b1 b2 b3 b4 bf e0 e1 e2 e3 e4 e5 e6 e7 ef d0 d1 d2 d3 d4 df x0 x1 x2 x3 x4 x5
  generalize (W3.alloc (oR xs[i]))=W4 at *
  have hs1:w.heap.size<W4.heap.size:=by omega
  have hs2:w.heap.size+1<W4.heap.size:=by omega
  have hs4:w.heap.size+3<W4.heap.size:=by omega
  have HY1:=Lib.hid ((HE4.out.block _ (blk_lt HX1.out)).trans HX1.out)
  have HY2:=Lib.hid ((HE4.out.block _ (blk_lt HX2.out)).trans HX2.out)
  have HY3:=Lib.hid ((HE4.out.block _ (blk_lt HX3.out)).trans HX3.out)
  have HP4:=Lib.hid (HP.out.ext HE4.out)
  have HE:=Lib.hid (HE3.out.trans (HE4.out.mono HE3.out.size))
  have hz:=put5_at (.slice L wd.log.length ln) (.int .i64 wd.safe) (.bool false) (.slice (some ⟨g,0,none⟩) xs.length cc) (.slice N ys.length nc) HY3.out
  have hk:KeepT W4 (put5 W4 (w.heap.size+1+1) (.slice L wd.log.length ln) (.int .i64 wd.safe) (.bool false) (.slice (some ⟨g,0,none⟩) xs.length cc) (.slice N ys.length nc)):=KeepT.grown (gset (gset (gset (gset (gset_any _ _ _ _) _ _) _ _) _ _) _ _) HY3.out (by decide) (by decide) (by decide) (by decide)
  have hwR:w.heap.size≤w.heap.size+1+1:=by omega
  have hT:Turn (OwnB (some ⟨g,0,none⟩) N) w (put5 W4 (w.heap.size+1+1) (.slice L wd.log.length ln) (.int .i64 wd.safe) (.bool false) (.slice (some ⟨g,0,none⟩) xs.length cc) (.slice N ys.length nc)):=((((((Turn.ext HE.out)).setNew hwR 0 _).setNew hwR 1 _).setNew hwR 2 _).setNew hwR 3 _).setNew hwR 4 _
  have HZ9:=Lib.hid hz;have HP9:=Lib.hid ((HP4.out).keep hk);have HT9:=Lib.hid hT
  clear hz hk hT
  obtain ⟨b0,b1,b2,b3,b4,bf⟩:=five_cells HY1.out
  obtain ⟨d0,d1,d2,d3,d4,df⟩:=five_cells HY3.out
  go_wp2_with fail
  obtain ⟨k0,k1,k2,k3,k4,kf⟩:=five_cells HZ9.out
  refine bodyPost_ret (v:=.agg #[.slice L wd.log.length ln,.int .i64 wd.safe,.bool false,.slice (some ⟨g,0,none⟩) xs.length cc,.slice N ys.length nc]) ?_ rfl ?_
  ·simp [results,Tryz.f153,go_sem,k0,k1,k2,k3,k4]
  ·exact ⟨wd,L,ln,_,cc,N,nc,xs,ys,by rw [HU.out],HW.out,HP9.out,HT9.out,fun k h=>.inl h⟩
 |true=>
  by_cases hin:0≤e.n∧e.n≤wd.safe
  ·have HI2:Hid (inR e.n 0 wd.safe=true):=by show _=_;unfold inR;simpa using hin
   have HIN9:=Lib.hid hin
   clear hin
   go_wp2_with fail
   refine (in_c _ _ _ _).mono ?_
   rintro r w' ⟨rfl,hw'⟩
   rw [HI2.out]
   subst hw'
   have hE4:Ext W3 (W3.alloc (oR xs[i])):=(Below.refl _ _).alloc (Nat.le_refl _) _
   have HX4:=Lib.hid (World.alloc_heap_new W3 (oR xs[i]))
   have hz4:(W3.alloc (oR xs[i])).heap.size=w.heap.size+4:=by rw [alloc_sz,hz3]
   rw [hz3] at HX4
   have HE4:=Lib.hid hE4
   clear hE4 b0 b1 b2 b3 b4 bf e0 e1 e2 e3 e4 e5 e6 e7 ef d0 d1 d2 d3 d4 df x0 x1 x2 x3 x4 x5
   generalize (W3.alloc (oR xs[i]))=W4 at *
   have hs1:w.heap.size<W4.heap.size:=by omega
   have hs2:w.heap.size+1<W4.heap.size:=by omega
   have hs4:w.heap.size+3<W4.heap.size:=by omega
   have HY1:=Lib.hid ((HE4.out.block _ (blk_lt HX1.out)).trans HX1.out)
   have HY2:=Lib.hid ((HE4.out.block _ (blk_lt HX2.out)).trans HX2.out)
   have HY3:=Lib.hid ((HE4.out.block _ (blk_lt HX3.out)).trans HX3.out)
   have HP4:=Lib.hid (HP.out.ext HE4.out)
   have HE:=Lib.hid (HE3.out.trans (HE4.out.mono HE3.out.size))
   obtain ⟨b0,b1,b2,b3,b4,bf⟩:=five_cells HY1.out
   obtain ⟨f0,f1,f2,f3,f4,f5,f6,f7,ff⟩:=eight_cells HY2.out
   have HS:Hid (W4.drew.cell? ⟨w.heap.size,0,none⟩=some (.slice L wd.log.length ln)∧W4.drew.cell? ⟨w.heap.size,1,none⟩=some (.int .i64 wd.safe)∧W4.drew.cell? ⟨w.heap.size,2,none⟩=some (.bool true)∧W4.drew.cell? ⟨w.heap.size,3,none⟩=some (.slice (some ⟨g,0,none⟩) xs.length cc)∧W4.drew.cell? ⟨w.heap.size,4,none⟩=some (.slice N ys.length nc)∧W4.drew.cell? ⟨w.heap.size+1,1,none⟩=some (.int .i64 e.who)∧W4.drew.cell? ⟨w.heap.size+1,2,none⟩=some (.int .i64 e.n)):=Lib.hid ⟨b0,b1,b2,b3,b4,f1,f2⟩
   have hlen:=HW.out.len
   have HC:=Lib.hid (news_s L ln wd.log wd.safe true e.n W4.drew (HP4.out.log.ext ((Below.refl _ _).drew)) HW.out.log (by omega) HW.out.safe0 HW.out.safe1)
   clear b0 b1 b2 b3 b4 bf f0 f1 f2 f3 f4 f5 f6 f7 ff
   go_upto_region 14 with fail
   refine wp_region_B (fun w'=>w'.cell? ⟨w.heap.size,0,none⟩=some (.slice L wd.log.length ln)∧w'.cell? ⟨w.heap.size,1,none⟩=some (.int .i64 wd.safe)∧w'.cell? ⟨w.heap.size,2,none⟩=some (.bool true)∧w'.cell? ⟨w.heap.size,3,none⟩=some (.slice (some ⟨g,0,none⟩) xs.length cc)∧w'.cell? ⟨w.heap.size,4,none⟩=some (.slice N ys.length nc)∧w'.cell? ⟨w.heap.size+1,1,none⟩=some (.int .i64 e.who)∧w'.cell? ⟨w.heap.size+1,2,none⟩=some (.int .i64 e.n)) 12 (by kernel_rfl) ?_
   refine WB.take (i:=0) (v:=?_) rfl (by kernel_rfl) (by kernel_rfl) (by kernel_rfl) (by kernel_rfl) (fun _ _ _ h=>h) HS.out (Or.inl ⟨by rfl,?_⟩) ?_
   rotate_left
   ·(rintro w ⟨s0,s1,s2,s3,s4,s5,s6⟩;go_simp;try with_reducible rfl)
   try simp only [Act.put,List.setIfInBounds_toArray,List.set_cons_zero,List.set_cons_succ]
   refine WB.take (i:=1) (v:=?_) rfl (by kernel_rfl) (by kernel_rfl) (by kernel_rfl) (by kernel_rfl) (fun _ _ _ h=>h) HS.out (Or.inl ⟨by rfl,?_⟩) ?_
   rotate_left
   ·(rintro w ⟨s0,s1,s2,s3,s4,s5,s6⟩;go_simp;try with_reducible rfl)
   try simp only [Act.put,List.setIfInBounds_toArray,List.set_cons_zero,List.set_cons_succ]
   refine WB.take (i:=2) (v:=?_) rfl (by kernel_rfl) (by kernel_rfl) (by kernel_rfl) (by kernel_rfl) (fun _ _ _ h=>h) HS.out (Or.inl ⟨by rfl,?_⟩) ?_
   rotate_left
   ·(rintro w ⟨s0,s1,s2,s3,s4,s5,s6⟩;go_simp;try with_reducible rfl)
   try simp only [Act.put,List.setIfInBounds_toArray,List.set_cons_zero,List.set_cons_succ]
   refine WB.take (i:=3) (v:=?_) rfl (by kernel_rfl) (by kernel_rfl) (by kernel_rfl) (by kernel_rfl) (fun _ _ _ h=>h) HS.out (Or.inl ⟨by rfl,?_⟩) ?_
   rotate_left
   ·(rintro w ⟨s0,s1,s2,s3,s4,s5,s6⟩;go_simp;try with_reducible rfl)
   try simp only [Act.put,List.setIfInBounds_toArray,List.set_cons_zero,List.set_cons_succ]
   refine WB.take (i:=4) (v:=?_) rfl (by kernel_rfl) (by kernel_rfl) (by kernel_rfl) (by kernel_rfl) (fun _ _ _ h=>h) HS.out (Or.inl ⟨by rfl,?_⟩) ?_
   rotate_left
   ·(rintro w ⟨s0,s1,s2,s3,s4,s5,s6⟩;go_simp;try with_reducible rfl)
   try simp only [Act.put,List.setIfInBounds_toArray,List.set_cons_zero,List.set_cons_succ]
   refine WB.take (i:=5) (v:=?_) rfl (by kernel_rfl) (by kernel_rfl) (by kernel_rfl) (by kernel_rfl) (fun _ _ _ h=>h) HS.out (Or.inl ⟨by rfl,?_⟩) ?_
   rotate_left
   ·(rintro w ⟨s0,s1,s2,s3,s4,s5,s6⟩;go_simp;try with_reducible rfl)
   try simp only [Act.put,List.setIfInBounds_toArray,List.set_cons_zero,List.set_cons_succ]
   refine WB.take (i:=6) (v:=?_) rfl (by kernel_rfl) (by kernel_rfl) (by kernel_rfl) (by kernel_rfl) (fun _ _ _ h=>h) HS.out (Or.inl ⟨by rfl,?_⟩) ?_
   rotate_left
   ·(rintro w ⟨s0,s1,s2,s3,s4,s5,s6⟩;go_simp;try with_reducible rfl)
   try simp only [Act.put,List.setIfInBounds_toArray,List.set_cons_zero,List.set_cons_succ]
   refine WB.take (i:=7) (v:=?_) rfl (by kernel_rfl) (by kernel_rfl) (by kernel_rfl) (by kernel_rfl) (fun _ _ _ h=>h) HS.out (Or.inl ⟨by rfl,?_⟩) ?_
   rotate_left
   ·(rintro w ⟨s0,s1,s2,s3,s4,s5,s6⟩;go_simp;try with_reducible rfl)
   try simp only [Act.put,List.setIfInBounds_toArray,List.set_cons_zero,List.set_cons_succ]
   refine WB.take (i:=8) (v:=?_) rfl (by kernel_rfl) (by kernel_rfl) (by kernel_rfl) (by kernel_rfl) (fun _ _ _ h=>h) HS.out (Or.inl ⟨by rfl,?_⟩) ?_
   rotate_left
   ·(rintro w ⟨s0,s1,s2,s3,s4,s5,s6⟩;go_simp;try with_reducible rfl)
   try simp only [Act.put,List.setIfInBounds_toArray,List.set_cons_zero,List.set_cons_succ]
   refine WB.one (i:=9) (by kernel_rfl) rfl (fun K hK=>?_)
   have HK:=Lib.hid hK
   clear hK
   go_simp
   refine HC.out.mono ?_
   rintro r w5 ⟨A,an,m,rfl,hm5,hmem,hml,hb5⟩
   have hE5:Ext W4 w5:=((Below.refl _ _).drew).trans hb5
   obtain ⟨q0,q1,q2,q3,q4,q5,q6⟩:=HS.out
   have HS5:Hid (w5.cell? ⟨w.heap.size,0,none⟩=some (.slice L wd.log.length ln)∧w5.cell? ⟨w.heap.size,1,none⟩=some (.int .i64 wd.safe)∧w5.cell? ⟨w.heap.size,2,none⟩=some (.bool true)∧w5.cell? ⟨w.heap.size,3,none⟩=some (.slice (some ⟨g,0,none⟩) xs.length cc)∧w5.cell? ⟨w.heap.size,4,none⟩=some (.slice N ys.length nc)∧w5.cell? ⟨w.heap.size+1,1,none⟩=some (.int .i64 e.who)∧w5.cell? ⟨w.heap.size+1,2,none⟩=some (.int .i64 e.n)):=Lib.hid ⟨(hb5.cell (p:=⟨w.heap.size,0,none⟩) hs1).trans q0,(hb5.cell (p:=⟨w.heap.size,1,none⟩) hs1).trans q1,(hb5.cell (p:=⟨w.heap.size,2,none⟩) hs1).trans q2,(hb5.cell (p:=⟨w.heap.size,3,none⟩) hs1).trans q3,(hb5.cell (p:=⟨w.heap.size,4,none⟩) hs1).trans q4,(hb5.cell (p:=⟨w.heap.size+1,1,none⟩) hs2).trans q5,(hb5.cell (p:=⟨w.heap.size+1,2,none⟩) hs2).trans q6⟩
   clear q0 q1 q2 q3 q4 q5 q6
   refine HK.out _ _ ⟨fun _=>HS5.out,?_⟩
   clear HK K HS HC
   refine WB.takeP (i:=10) (v:=?_) rfl (by kernel_rfl) (by kernel_rfl) (by kernel_rfl) (by kernel_rfl) (fun _ _ _ h=>h) HS5.out (Or.inl ⟨by rfl,?_⟩) ?_
   rotate_left
   ·(rintro w -;go_simp;try with_reducible rfl)
   try simp only [Act.put,List.setIfInBounds_toArray,List.set_cons_zero,List.set_cons_succ]
   have hP:=put22_s wd (⟨e.who,e.n,m⟩:Lt) base L ln (some ⟨g,0,none⟩) cc N nc xs ys A an w5 (HP4.out.ext hE5) hm5 (by have:=hE5.size;omega)
   rw [HU.out] at hP
   try dsimp only at hP
   have HPT:=Lib.hid hP
   have HLI:=Lib.hid (news_ok HW.out (who:=e.who) (n:=e.n) (by have:=HD.out;omega) (by have:=HD.out;omega) HIN9.out.1 HIN9.out.2 hmem hml)
   have HE5:=Lib.hid hE5
   clear hP hb5 hm5 hmem hml hE5
   refine WB.one (i:=11) (by kernel_rfl) rfl (fun K hK=>?_)
   have HK:=Lib.hid hK
   clear hK
   go_simp
   refine HPT.out.mono ?_
   rintro r w6 ⟨N',nc',ys',rfl,hp6,hT6,hN6⟩
   have hs5:=HE5.out.size
   have hlx:∀ b,b<w.heap.size+3→w.heap.size≤b→¬OwnB none N b:=fun b h1 h2 h=>by
    rcases h with h | h
    ·cases h
    ·obtain ⟨cs,mm,h9⟩:=HP.out.let_.ty b (by rw [ob_map];exact h)
     have:=hNw b h
     omega
   have hbx:w6.heap[w.heap.size]?=w5.heap[w.heap.size]?:=hT6.block _ (by omega) (hlx _ (by omega) (by omega))
   have hby:w6.heap[w.heap.size+1]?=w5.heap[w.heap.size+1]?:=hT6.block _ (by omega) (hlx _ (by omega) (by omega))
   have hbz:w6.heap[w.heap.size+1+1]?=w5.heap[w.heap.size+1+1]?:=hT6.block _ (by omega) (hlx _ (by omega) (by omega))
   obtain ⟨q0,q1,q2,q3,q4,q5,q6⟩:=HS5.out
   have HS6:Hid (w6.cell? ⟨w.heap.size,0,none⟩=some (.slice L wd.log.length ln)∧w6.cell? ⟨w.heap.size,1,none⟩=some (.int .i64 wd.safe)∧w6.cell? ⟨w.heap.size,2,none⟩=some (.bool true)∧w6.cell? ⟨w.heap.size,3,none⟩=some (.slice (some ⟨g,0,none⟩) xs.length cc)∧w6.cell? ⟨w.heap.size,4,none⟩=some (.slice N ys.length nc)∧w6.cell? ⟨w.heap.size+1,1,none⟩=some (.int .i64 e.who)∧w6.cell? ⟨w.heap.size+1,2,none⟩=some (.int .i64 e.n)):=Lib.hid ⟨(World.cell?_of_block hbx).trans q0,(World.cell?_of_block hbx).trans q1,(World.cell?_of_block hbx).trans q2,(World.cell?_of_block hbx).trans q3,(World.cell?_of_block hbx).trans q4,(World.cell?_of_block hby).trans q5,(World.cell?_of_block hby).trans q6⟩
   clear q0 q1 q2 q3 q4 q5 q6
   have hzx:=hbz.trans ((HE5.out.block _ (blk_lt HY3.out)).trans HY3.out)
   refine HK.out _ _ ⟨fun _=>HS6.out,?_⟩
   clear HK K HS5 HPT
   try simp only [Act.put,List.setIfInBounds_toArray,List.set_cons_zero,List.set_cons_succ]
   have hz:=put5_at (.slice L wd.log.length ln) (.int .i64 wd.safe) (.bool true) (.slice (some ⟨g,0,none⟩) xs.length cc) (.slice N' ys'.length nc') hzx
   have hk:KeepT w6 (put5 w6 (w.heap.size+1+1) (.slice L wd.log.length ln) (.int .i64 wd.safe) (.bool true) (.slice (some ⟨g,0,none⟩) xs.length cc) (.slice N' ys'.length nc')):=KeepT.grown (gset (gset (gset (gset (gset_any _ _ _ _) _ _) _ _) _ _) _ _) hzx (by decide) (by decide) (by decide) (by decide)
   have hwR:w.heap.size≤w.heap.size+1+1:=by omega
   have hT7:Turn (OwnB (some ⟨g,0,none⟩) N) w w6:=(Turn.ext (HE.out.trans (HE5.out.mono (by omega)))).then (S':=OwnB none N) hT6 (fun i hi=>.inl (hi.elim (fun h=>by cases h) .inr))
   have hT:Turn (OwnB (some ⟨g,0,none⟩) N) w (put5 w6 (w.heap.size+1+1) (.slice L wd.log.length ln) (.int .i64 wd.safe) (.bool true) (.slice (some ⟨g,0,none⟩) xs.length cc) (.slice N' ys'.length nc')):=((((hT7.setNew hwR 0 _).setNew hwR 1 _).setNew hwR 2 _).setNew hwR 3 _).setNew hwR 4 _
   have HZ9:=Lib.hid hz;have HP9:=Lib.hid (hp6.keep hk);have HT9:=Lib.hid hT
   have HN9:Hid (∀ k,OwnB none N' k→OwnB none N k∨w.heap.size≤k):=fun k h=>(hN6 k h).imp id (fun h=>by omega)
   obtain ⟨d0,d1,d2,d3,d4,df⟩:=five_cells hzx
   clear hz hk hT hT7 hT6 hN6 hp6 hbx hby hbz hlx hNw
   refine WB.one (i:=12) (by kernel_rfl) rfl (fun K hK=>?_)
   have HK:=Lib.hid hK
   clear hK
   go_simp
   refine HK.out _ _ ⟨fun h=>(no_late h (by kernel_rfl)).elim,?_⟩
   clear HK K d0 d1 d2 d3 d4 df hzx HS6
   refine WB.done (by kernel_rfl) ?_
   go_wp2_with fail
   obtain ⟨k0,k1,k2,k3,k4,kf⟩:=five_cells HZ9.out
   refine bodyPost_ret (v:=.agg #[.slice L wd.log.length ln,.int .i64 wd.safe,.bool true,.slice (some ⟨g,0,none⟩) xs.length cc,.slice N' ys'.length nc']) ?_ rfl ?_
   ·simp [results,Tryz.f153,go_sem,k0,k1,k2,k3,k4]
   ·exact ⟨putW wd ⟨e.who,e.n,m⟩,L,ln,_,cc,N',nc',xs,ys',by rw [(putW_same wd _).1,(putW_same wd _).2.1,(putW_same wd _).2.2,HU.out],putW_ok HW.out HLI.out,HP9.out,HT9.out,fun k h=>h.elim (fun h=>.inl (.inl h)) (fun h=>(HN9.out k (.inr h)).imp (fun h=>h.elim (fun h=>by cases h) .inr) id)⟩
  ·have HI2:Hid (inR e.n 0 wd.safe=false):=by show _=_;unfold inR;simpa using hin
   clear hin
   go_wp2_with fail
   refine (in_c _ _ _ _).mono ?_
   rintro r w' ⟨rfl,hw'⟩
   rw [HI2.out]
   subst hw'
   go_upto_region 15 with fail
   have hE4:Ext W3 (W3.alloc (oR xs[i])):=(Below.refl _ _).alloc (Nat.le_refl _) _
   have HX4:=Lib.hid (World.alloc_heap_new W3 (oR xs[i]))
   have hz4:(W3.alloc (oR xs[i])).heap.size=w.heap.size+4:=by rw [alloc_sz,hz3]
   rw [hz3] at HX4
   have HE4:=Lib.hid hE4
   clear hE4 b0 b1 b2 b3 b4 bf e0 e1 e2 e3 e4 e5 e6 e7 ef d0 d1 d2 d3 d4 df x0 x1 x2 x3 x4 x5
   generalize (W3.alloc (oR xs[i]))=W4 at *
   have hs1:w.heap.size<W4.heap.size:=by omega
   have hs2:w.heap.size+1<W4.heap.size:=by omega
   have hs4:w.heap.size+3<W4.heap.size:=by omega
   have HY1:=Lib.hid ((HE4.out.block _ (blk_lt HX1.out)).trans HX1.out)
   have HY2:=Lib.hid ((HE4.out.block _ (blk_lt HX2.out)).trans HX2.out)
   have HY3:=Lib.hid ((HE4.out.block _ (blk_lt HX3.out)).trans HX3.out)
   have HP4:=Lib.hid (HP.out.ext HE4.out)
   have HE:=Lib.hid (HE3.out.trans (HE4.out.mono HE3.out.size))
   have hz:=put5_at (.slice L wd.log.length ln) (.int .i64 wd.safe) (.bool true) (.slice (some ⟨g,0,none⟩) xs.length cc) (.slice N ys.length nc) HY3.out
   have hk:KeepT W4 (put5 W4 (w.heap.size+1+1) (.slice L wd.log.length ln) (.int .i64 wd.safe) (.bool true) (.slice (some ⟨g,0,none⟩) xs.length cc) (.slice N ys.length nc)):=KeepT.grown (gset (gset (gset (gset (gset_any _ _ _ _) _ _) _ _) _ _) _ _) HY3.out (by decide) (by decide) (by decide) (by decide)
   have hwR:w.heap.size≤w.heap.size+1+1:=by omega
   have hT:Turn (OwnB (some ⟨g,0,none⟩) N) w (put5 W4 (w.heap.size+1+1) (.slice L wd.log.length ln) (.int .i64 wd.safe) (.bool true) (.slice (some ⟨g,0,none⟩) xs.length cc) (.slice N ys.length nc)):=((((((Turn.ext HE.out)).setNew hwR 0 _).setNew hwR 1 _).setNew hwR 2 _).setNew hwR 3 _).setNew hwR 4 _
   have HZ9:=Lib.hid hz;have HP9:=Lib.hid ((HP4.out).keep hk);have HT9:=Lib.hid hT
   clear hz hk hT
   obtain ⟨b0,b1,b2,b3,b4,bf⟩:=five_cells HY1.out
   obtain ⟨d0,d1,d2,d3,d4,df⟩:=five_cells HY3.out
   go_wp2_with fail
   obtain ⟨k0,k1,k2,k3,k4,kf⟩:=five_cells HZ9.out
   refine bodyPost_ret (v:=.agg #[.slice L wd.log.length ln,.int .i64 wd.safe,.bool true,.slice (some ⟨g,0,none⟩) xs.length cc,.slice N ys.length nc]) ?_ rfl ?_
   ·simp [results,Tryz.f153,go_sem,k0,k1,k2,k3,k4]
   ·exact ⟨wd,L,ln,_,cc,N,nc,xs,ys,by rw [HU.out],HW.out,HP9.out,HT9.out,fun k h=>.inl h⟩
open Go.RowKit Go.Lib
theorem Turn.box {S:Nat→Prop} {W W':World} (hT:Turn S W W') {e:TypeId} (hS:∀ k,S k→∃ cs m,W.heap[k]?=some (.cells cs e m)) {b:Nat} {cs:Array Value} {ty:TypeId} {m:Nat × Nat} (hb:W.heap[b]?=some (.cells cs ty m)) (hne:ty≠e):W'.heap[b]?=some (.cells cs ty m):=
 (hT.block b (blk_lt hb) (fun h=>by
  obtain ⟨c2,m2,h2⟩:=hS b h
  rw [hb] at h2
  injection h2 with h2;injection h2 with _ h2
  exact hne h2)).trans hb
theorem RdT.turnT {α:Type} [Flat α] {S:Nat→Prop} {W W':World} {e e':TypeId} {A:Option Addr} {c:Nat} {l:List α} (h:RdT e' W A c l) (hT:Turn S W W') (hS:∀ k,S k→∃ cs m,W.heap[k]?=some (.cells cs e m)) (hne:e'≠e):RdT e' W' A c l:=
 h.turn hT (fun k hk cs m h1=>by
  obtain ⟨c2,m2,h2⟩:=hS k hk
  rw [h1] at h2
  injection h2 with h2;injection h2 with _ h2
  exact hne h2)
theorem Own.tyN {W:World} {base:Nat} {N:Option Addr} {n nc:Nat} {ys:List RL} (h:Own 104 W base (.slice N n nc) ys):∀ k,OwnB none N k→∃ cs m,W.heap[k]?=some (.cells cs 104 m):=fun k hk=>by
 rcases hk with hk | hk
 ·cases hk
 ·exact h.ty k (by rw [ob_map];exact hk)
theorem rdT_box (w:World) (x:Entry) (hx:Flat.okE x) (cs:Array Value) (hc:cs.toList=Flat.enc x):RdT 35 (w.alloc (.cells cs 35)) (some ⟨w.heap.size,0,none⟩) 1 [x]:=
 ⟨rd_box w x hx cs hc 35,fun _ bb off e0=>by
  injection e0 with e0;injection e0 with e1 _
  subst e1
  exact ⟨_,_,World.alloc_heap_new w _⟩⟩
theorem putW_nets (w:Wd) (nt:List Lt) (m:Lt):putW { w with nets:=nt } m={ w with nets:=if nt.length<12 then nt++[m] else nt }:=by
 unfold putW;dsimp only;split <;> rfl
theorem waitOk_ent' {c:Client} (h:clientOk c=true) {e:Entry} (he:e∈c.wait):entryOk e=true:=by
 obtain ⟨k,hk,rfl⟩:=List.getElem_of_mem he
 have:=waitOk_at (clientOk_parts h).2.2.2.2.2.2.2.2.2 k hk
 unfold waitAt at this
 simp only [Bool.and_eq_true] at this
 exact this.1.1.1
theorem own_ok {e:Entry} (h:entryOk e=true):LInv ⟨0,0,[e]⟩:=
 ⟨⟨by show (0:Int)≤0;omega,by show (0:Int)≤3;omega⟩,⟨by show (0:Int)≤0;omega,by show (0:Int)≤40;omega⟩,fun x hx=>by rw [List.mem_singleton.1 hx];exact h,by simp,fun _=>by simp⟩
set_option maxRecDepth 100000 in
set_option maxHeartbeats 4000000 in
theorem who22_send (wd:Wd) (e:Ev) (base:Nat) (L:Option Addr) (ln:Nat) (g cc:Nat) (N:Option Addr) (nc:Nat) (xs:List RC) (ys:List RL) (w:World) (hp:WP w base wd L ln (some ⟨g,0,none⟩) cc N nc xs ys) (hb:base≤w.heap.size) (hw:WInv wd) (i:Nat) (hd:e.who=(i:Int)+1) (hi:i<3) (h2:e.kind=2) :
  Calls Tryz.prog 153 #[.agg (cW wd L ln (some ⟨g,0,none⟩) xs cc N ys nc),.agg (cV e)] w (StepP w base (some ⟨g,0,none⟩) N):=by
 have h3:=three_all w (oW wd L ln (some ⟨g,0,none⟩) xs cc N ys nc) (oV e) oW0
 have hE3:Ext w (((w.alloc (oW wd L ln (some ⟨g,0,none⟩) xs cc N ys nc)).alloc (oV e)).alloc oW0):=ext3 _ _ _ _
 have hz3:(((w.alloc (oW wd L ln (some ⟨g,0,none⟩) xs cc N ys nc)).alloc (oV e)).alloc oW0).heap.size=w.heap.size+3:=by simp only [alloc_sz]
 have HX1:=Lib.hid h3.1;have HX2:=Lib.hid h3.2.1;have HX3:=Lib.hid h3.2.2;have HE3:=Lib.hid hE3
 have HP:=Lib.hid (hp.ext hE3);have HW:=Lib.hid hw
 have hxl:xs.length=3:=by have:=hp.cls.1;have:=hw.three;omega
 have hi1:i<xs.length:=by omega
 have hi2:i<wd.cls.length:=by have:=hw.three;omega
 have hny:ys.length≤12:=by have:=hp.nets.1;have:=hw.net;omega
 have hgw:g<w.heap.size:=by
  obtain ⟨cs,mm,hg9⟩:=hp.cli.ty g rfl
  exact blk_lt hg9
 obtain ⟨xb,xo,he9,hbx,x0,x1,x2,x3,x4,x5⟩:=rc_at HP.out.cli.rdT.1 i hi1
 injection he9 with he9;injection he9 with he91 he92;subst he91;subst he92
 simp only [Nat.zero_add] at x0 x1 x2 x3 x4 x5
 obtain ⟨cb,cbn,q,qn,hxi,hr1,hr2⟩:=HP.out.cls.2 i hi1 hi2
 rw [hxi] at x0 x1 x2 x3 x4 x5
 dsimp only at x0 x1 x2 x3 x4 x5
 have HCO:=Lib.hid (hw.cls _ (List.getElem_mem hi2))
 have HR2:=Lib.hid hr2
 generalize wd.cls[i]=c at *
 clear hxi hr1 hr2
 have hil:(i:Int)<xs.length:=by omega
 have hw1:IntKind.i64.wrap (e.who - 1)=(i:Int):=by rw [IntKind.wrap_i64];omega
 have HIN:Hid (inR e.who 1 3=true):=by show _=_;unfold inR;rw [decide_eq_true_eq];omega
 have HD:=Lib.hid hd
 obtain ⟨b0,b1,b2,b3,b4,bf⟩:=five_cells h3.1
 obtain ⟨e0,e1,e2,e3,e4,e5,e6,e7,ef⟩:=eight_cells h3.2.1
 obtain ⟨d0,d1,d2,d3,d4,df⟩:=five_cells h3.2.2
 clear h3 hE3 hp hw hd hxl
 have h1':(e.kind == 1)=false:=by simp [h2]
 have h2':(e.kind == 2)=true:=by simp [h2]
 clear h2
 go_enter Tryz.func153,Tryz.ntmps153
 go_wp2_with fail
 refine (in_c _ _ _ _).mono ?_
 rintro r w' ⟨rfl,hw'⟩
 rw [HIN.out]
 subst hw'
 generalize (((w.alloc (oW wd L ln (some ⟨g,0,none⟩) xs cc N ys nc)).alloc (oV e)).alloc oW0)=W3 at *
 go_wp2_with fail
 have hE4:Ext W3 (W3.alloc (oC c cb cbn q qn)):=(Below.refl _ _).alloc (Nat.le_refl _) _
 have HX4:=Lib.hid (World.alloc_heap_new W3 (oC c cb cbn q qn))
 have hz4:(W3.alloc (oC c cb cbn q qn)).heap.size=w.heap.size+4:=by rw [alloc_sz,hz3]
 rw [hz3] at HX4
 have HE4:=Lib.hid hE4
 clear hE4 b0 b1 b2 b3 b4 bf e0 e1 e2 e3 e4 e5 e6 e7 ef d0 d1 d2 d3 d4 df x0 x1 x2 x3 x4 x5
 generalize (W3.alloc (oC c cb cbn q qn))=W4 at *
 have hs1:w.heap.size<W4.heap.size:=by omega
 have hs2:w.heap.size+1<W4.heap.size:=by omega
 have hs4:w.heap.size+3<W4.heap.size:=by omega
 have HY1:=Lib.hid ((HE4.out.block _ (blk_lt HX1.out)).trans HX1.out)
 have HY2:=Lib.hid ((HE4.out.block _ (blk_lt HX2.out)).trans HX2.out)
 have HY3:=Lib.hid ((HE4.out.block _ (blk_lt HX3.out)).trans HX3.out)
 have HP4:=Lib.hid (HP.out.ext HE4.out)
 have HE:=Lib.hid (HE3.out.trans (HE4.out.mono HE3.out.size))
 have HRE:=Lib.hid (HR2.out.ext HE4.out)
 clear hs1 hs2 hs4
 go_loopg [6] c.wait.length (fun gk i wr=>∃ (k:Nat) (nt:List Lt) (N1:Option Addr) (m1:Nat) (zs:List RL),k≤c.wait.length∧Hid (gk=c.wait.length - k)∧i=.int .i64 k∧Hid (WInv { wd with nets:=nt })∧Hid (wr.heap[w.heap.size]?=some (.cells (cW wd L ln (some ⟨g,0,none⟩) xs cc N1 zs m1) 62 (0,0)))∧Hid (wr.heap[w.heap.size+1+1]?=some (.cells cW0 62 (0,0)))∧Hid (wr.heap[w.heap.size+3]?=some (.cells (cC c cb cbn q qn) 26 (0,0)))∧Hid (WP wr base { wd with nets:=nt } L ln (some ⟨g,0,none⟩) cc N1 m1 xs zs)∧Hid (RdT 35 wr q qn c.wait)∧Hid (Turn (OwnB (some ⟨g,0,none⟩) N) w wr)∧Hid (∀ j,OwnB none N1 j→OwnB none N j∨w.heap.size≤j))
 case atStart=>exact ⟨0,wd.nets,N,nc,ys,Nat.zero_le _,rfl,rfl,HW.out,HY1.out,HY3.out,HX4.out,HP4.out,HRE.out,Turn.ext HE.out,fun j h=>.inl h⟩
 case round=>
  obtain ⟨k,nt,N1,m1,zs,hk,HGK,rfl,HI,HB,HZ,HX,HPR,HQ,HT,HN1⟩:=hrel
  obtain ⟨b0,b1,b2,b3,b4,bf⟩:=five_cells HB.out
  obtain ⟨c0,c1,c2,c3,c4,c5,cf⟩:=six_cells HX.out
  have hwl:=(clientOk_parts HCO.out).2.2.2.2.2.2.1
  have hwd:=(clientOk_parts HCO.out).2.2.2.2.1
  by_cases hlt:k<c.wait.length
  ·obtain ⟨b,off,rfl,hbl,e0,e1,e2,e3,e4,e5,e6⟩:=ent_at HQ.out.1 k hlt
   have HEE:=Lib.hid (waitOk_ent' HCO.out (List.getElem_mem hlt));have HOE:=Lib.hid (HQ.out.1.okAt k hlt)
   generalize c.wait[k]=ee at *
   have hli:(k:Int)<c.wait.length:=by omega
   have hs1:=blk_lt HB.out
   have hs4:=blk_lt HX.out
   have hEA:Ext wr (wr.alloc (oN ee)).drew:=((Below.refl _ _).alloc (Nat.le_refl _) _).drew
   have HS:Hid (wr.drew.cell? ⟨w.heap.size,0,none⟩=some (.slice L wd.log.length ln)∧wr.drew.cell? ⟨w.heap.size,1,none⟩=some (.int .i64 wd.safe)∧wr.drew.cell? ⟨w.heap.size,2,none⟩=some (.bool wd.up)∧wr.drew.cell? ⟨w.heap.size,3,none⟩=some (.slice (some ⟨g,0,none⟩) xs.length cc)∧wr.drew.cell? ⟨w.heap.size,4,none⟩=some (.slice N1 zs.length m1)∧wr.drew.cell? ⟨w.heap.size+3,3,none⟩=some (.slice (some ⟨b,off,none⟩) c.wait.length qn)∧wr.drew.cell? ⟨b,off+k*7,none⟩=some (.int .i64 ee.who)∧wr.drew.cell? ⟨b,off+k*7+1,none⟩=some (.int .i64 ee.seq)∧wr.drew.cell? ⟨b,off+k*7+2,none⟩=some (.int .i64 ee.op.kind)∧wr.drew.cell? ⟨b,off+k*7+3,none⟩=some (.int .i64 ee.op.id)∧wr.drew.cell? ⟨b,off+k*7+4,none⟩=some (.int .i64 ee.op.up)∧wr.drew.cell? ⟨b,off+k*7+5,none⟩=some (.int .i64 ee.op.pos)∧wr.drew.cell? ⟨b,off+k*7+6,none⟩=some (.string ee.op.text)):=Lib.hid ⟨b0,b1,b2,b3,b4,c3,e0,e1,e2,e3,e4,e5,e6⟩
   have HS5:Hid ((wr.alloc (oN ee)).drew.cell? ⟨w.heap.size,0,none⟩=some (.slice L wd.log.length ln)∧(wr.alloc (oN ee)).drew.cell? ⟨w.heap.size,1,none⟩=some (.int .i64 wd.safe)∧(wr.alloc (oN ee)).drew.cell? ⟨w.heap.size,2,none⟩=some (.bool wd.up)∧(wr.alloc (oN ee)).drew.cell? ⟨w.heap.size,3,none⟩=some (.slice (some ⟨g,0,none⟩) xs.length cc)∧(wr.alloc (oN ee)).drew.cell? ⟨w.heap.size,4,none⟩=some (.slice N1 zs.length m1)∧(wr.alloc (oN ee)).drew.cell? ⟨w.heap.size+3,3,none⟩=some (.slice (some ⟨b,off,none⟩) c.wait.length qn)∧(wr.alloc (oN ee)).drew.cell? ⟨b,off+k*7,none⟩=some (.int .i64 ee.who)∧(wr.alloc (oN ee)).drew.cell? ⟨b,off+k*7+1,none⟩=some (.int .i64 ee.seq)∧(wr.alloc (oN ee)).drew.cell? ⟨b,off+k*7+2,none⟩=some (.int .i64 ee.op.kind)∧(wr.alloc (oN ee)).drew.cell? ⟨b,off+k*7+3,none⟩=some (.int .i64 ee.op.id)∧(wr.alloc (oN ee)).drew.cell? ⟨b,off+k*7+4,none⟩=some (.int .i64 ee.op.up)∧(wr.alloc (oN ee)).drew.cell? ⟨b,off+k*7+5,none⟩=some (.int .i64 ee.op.pos)∧(wr.alloc (oN ee)).drew.cell? ⟨b,off+k*7+6,none⟩=some (.string ee.op.text)):=Lib.hid ⟨(hEA.cell (p:=⟨w.heap.size,0,none⟩) hs1).trans b0,(hEA.cell (p:=⟨w.heap.size,1,none⟩) hs1).trans b1,(hEA.cell (p:=⟨w.heap.size,2,none⟩) hs1).trans b2,(hEA.cell (p:=⟨w.heap.size,3,none⟩) hs1).trans b3,(hEA.cell (p:=⟨w.heap.size,4,none⟩) hs1).trans b4,(hEA.cell (p:=⟨w.heap.size+3,3,none⟩) hs4).trans c3,(hEA.cell (p:=⟨b,off+k*7,none⟩) hbl).trans e0,(hEA.cell (p:=⟨b,off+k*7+1,none⟩) hbl).trans e1,(hEA.cell (p:=⟨b,off+k*7+2,none⟩) hbl).trans e2,(hEA.cell (p:=⟨b,off+k*7+3,none⟩) hbl).trans e3,(hEA.cell (p:=⟨b,off+k*7+4,none⟩) hbl).trans e4,(hEA.cell (p:=⟨b,off+k*7+5,none⟩) hbl).trans e5,(hEA.cell (p:=⟨b,off+k*7+6,none⟩) hbl).trans e6⟩
   have hszr:=HT.out.size
   have hbs:base≤(wr.alloc (oN ee)).drew.heap.size:=by have:=hEA.size;omega
   have hP:=put22_s { wd with nets:=nt } (⟨0,0,[ee]⟩:Lt) base L ln (some ⟨g,0,none⟩) cc N1 m1 xs zs (some ⟨wr.heap.size,0,none⟩) 1 ((wr.alloc (oN ee)).drew) (HPR.out.ext hEA) ((rdT_box wr ee HOE.out (cN ee) rfl).ext (Below.refl _ _).drew) hbs
   rw [putW_nets] at hP
   dsimp only [List.length_cons,List.length_nil] at hP
   have HPT:=Lib.hid hP;have HEA:=Lib.hid hEA
   clear hP hEA b0 b1 b2 b4 bf c0 c1 c2 c4 c5 e0 e1 e2 e3 e4 e5 e6
   go_upto_region 11 with fail
   clear b3 c3 cf
   refine wp_region_B (fun w'=>w'.cell? ⟨w.heap.size,0,none⟩=some (.slice L wd.log.length ln)∧w'.cell? ⟨w.heap.size,1,none⟩=some (.int .i64 wd.safe)∧w'.cell? ⟨w.heap.size,2,none⟩=some (.bool wd.up)∧w'.cell? ⟨w.heap.size,3,none⟩=some (.slice (some ⟨g,0,none⟩) xs.length cc)∧w'.cell? ⟨w.heap.size,4,none⟩=some (.slice N1 zs.length m1)∧w'.cell? ⟨w.heap.size+3,3,none⟩=some (.slice (some ⟨b,off,none⟩) c.wait.length qn)∧w'.cell? ⟨b,off+k*7,none⟩=some (.int .i64 ee.who)∧w'.cell? ⟨b,off+k*7+1,none⟩=some (.int .i64 ee.seq)∧w'.cell? ⟨b,off+k*7+2,none⟩=some (.int .i64 ee.op.kind)∧w'.cell? ⟨b,off+k*7+3,none⟩=some (.int .i64 ee.op.id)∧w'.cell? ⟨b,off+k*7+4,none⟩=some (.int .i64 ee.op.up)∧w'.cell? ⟨b,off+k*7+5,none⟩=some (.int .i64 ee.op.pos)∧w'.cell? ⟨b,off+k*7+6,none⟩=some (.string ee.op.text)) 9 (by kernel_rfl) ?_
   refine WB.take (i:=0) (v:=?_) rfl (by kernel_rfl) (by kernel_rfl) (by kernel_rfl) (by kernel_rfl) (fun _ _ _ h=>h) HS.out (Or.inl ⟨by rfl,?_⟩) ?_
   rotate_left
   ·(rintro w ⟨s0,s1,s2,s3,s4,s5,s6,s7,s8,s9,s10,s11,s12⟩;go_simp;try with_reducible rfl)
   try simp only [Act.put,List.setIfInBounds_toArray,List.set_cons_zero,List.set_cons_succ]
   refine WB.take (i:=1) (v:=?_) rfl (by kernel_rfl) (by kernel_rfl) (by kernel_rfl) (by kernel_rfl) (fun _ _ _ h=>h) HS.out (Or.inl ⟨by rfl,?_⟩) ?_
   rotate_left
   ·(rintro w ⟨s0,s1,s2,s3,s4,s5,s6,s7,s8,s9,s10,s11,s12⟩;go_simp;try with_reducible rfl)
   try simp only [Act.put,List.setIfInBounds_toArray,List.set_cons_zero,List.set_cons_succ]
   refine WB.take (i:=2) (v:=?_) rfl (by kernel_rfl) (by kernel_rfl) (by kernel_rfl) (by kernel_rfl) (fun _ _ _ h=>h) HS.out (Or.inl ⟨by rfl,?_⟩) ?_
   rotate_left
   ·(rintro w ⟨s0,s1,s2,s3,s4,s5,s6,s7,s8,s9,s10,s11,s12⟩;go_simp;try with_reducible rfl)
   try simp only [Act.put,List.setIfInBounds_toArray,List.set_cons_zero,List.set_cons_succ]
   refine WB.take (i:=3) (v:=?_) rfl (by kernel_rfl) (by kernel_rfl) (by kernel_rfl) (by kernel_rfl) (fun _ _ _ h=>h) HS.out (Or.inl ⟨by rfl,?_⟩) ?_
   rotate_left
   ·(rintro w ⟨s0,s1,s2,s3,s4,s5,s6,s7,s8,s9,s10,s11,s12⟩;go_simp;try with_reducible rfl)
   try simp only [Act.put,List.setIfInBounds_toArray,List.set_cons_zero,List.set_cons_succ]
   refine WB.take (i:=4) (v:=?_) rfl (by kernel_rfl) (by kernel_rfl) (by kernel_rfl) (by kernel_rfl) (fun _ _ _ h=>h) HS.out (Or.inl ⟨by rfl,?_⟩) ?_
   rotate_left
   ·(rintro w ⟨s0,s1,s2,s3,s4,s5,s6,s7,s8,s9,s10,s11,s12⟩;go_simp;try with_reducible rfl)
   try simp only [Act.put,List.setIfInBounds_toArray,List.set_cons_zero,List.set_cons_succ]
   refine WB.take (i:=5) (v:=?_) rfl (by kernel_rfl) (by kernel_rfl) (by kernel_rfl) (by kernel_rfl) (fun _ _ _ h=>h) HS.out (Or.inl ⟨by rfl,?_⟩) ?_
   rotate_left
   ·(rintro w ⟨s0,s1,s2,s3,s4,s5,s6,s7,s8,s9,s10,s11,s12⟩;go_simp;try with_reducible rfl)
   try simp only [Act.put,List.setIfInBounds_toArray,List.set_cons_zero,List.set_cons_succ]
   refine WB.one (i:=6) (by kernel_rfl) rfl (fun K hK=>?_)
   have HK:=Lib.hid hK
   clear hK
   go_simp
   refine HK.out _ _ ⟨fun _=>HS5.out,?_⟩
   clear HK K HS
   refine WB.takeP (i:=7) (v:=?_) rfl (by kernel_rfl) (by kernel_rfl) (by kernel_rfl) (by kernel_rfl) (fun _ _ _ h=>h) HS5.out (Or.inl ⟨by rfl,?_⟩) ?_
   rotate_left
   ·(rintro w -;go_simp;try with_reducible rfl)
   try simp only [Act.put,List.setIfInBounds_toArray,List.set_cons_zero,List.set_cons_succ]
   refine WB.one (i:=8) (by kernel_rfl) rfl (fun K hK=>?_)
   have HK:=Lib.hid hK
   clear hK
   go_simp
   refine HPT.out.mono ?_
   rintro r w6 ⟨N',nc',ys',rfl,hp6,hT6,hN6⟩
   have hty:=((HPR.out.ext HEA.out).let_).tyN
   have hbx:=hT6.box hty ((HEA.out.block _ hs1).trans HB.out) (by decide)
   have hbz:=hT6.box hty ((HEA.out.block _ (blk_lt HZ.out)).trans HZ.out) (by decide)
   have hbc:=hT6.box hty ((HEA.out.block _ (blk_lt HX.out)).trans HX.out) (by decide)
   have hq6:=(HQ.out.ext HEA.out).turnT hT6 hty (by decide)
   have hxs:=put5_at (.slice L wd.log.length ln) (.int .i64 wd.safe) (.bool wd.up) (.slice (some ⟨g,0,none⟩) xs.length cc) (.slice N' ys'.length nc') hbx
   have hk:KeepT w6 (put5 w6 w.heap.size (.slice L wd.log.length ln) (.int .i64 wd.safe) (.bool wd.up) (.slice (some ⟨g,0,none⟩) xs.length cc) (.slice N' ys'.length nc')):=KeepT.grown (gset (gset (gset (gset (gset_any _ _ _ _) _ _) _ _) _ _) _ _) hbx (by decide) (by decide) (by decide) (by decide)
   have hg:w6.grownBy (put5 w6 w.heap.size (.slice L wd.log.length ln) (.int .i64 wd.safe) (.bool wd.up) (.slice (some ⟨g,0,none⟩) xs.length cc) (.slice N' ys'.length nc')) (some w.heap.size):=gset (gset (gset (gset (gset_any _ _ _ _) _ _) _ _) _ _) _ _
   have hT7:Turn (OwnB (some ⟨g,0,none⟩) N) w w6:=(HT.out.thenE HEA.out).then (S':=OwnB none N1) hT6 (fun i hi=>(HN1.out i hi).imp (fun h=>h.elim (fun h=>by cases h) .inr) id)
   have hT:Turn (OwnB (some ⟨g,0,none⟩) N) w (put5 w6 w.heap.size (.slice L wd.log.length ln) (.int .i64 wd.safe) (.bool wd.up) (.slice (some ⟨g,0,none⟩) xs.length cc) (.slice N' ys'.length nc')):=hT7.then (S':=fun k=>k=w.heap.size) (Turn.grown hg (fun k hk=>by injection hk with hk;exact hk.symm)) (fun k hk=>.inr (by omega))
   have HXS:=Lib.hid hxs
   have HZ6:=Lib.hid ((hg.block _ (blk_lt hbz) (by intro e;injection e with e;omega)).trans hbz)
   have HC6:=Lib.hid ((hg.block _ (blk_lt hbc) (by intro e;injection e with e;omega)).trans hbc)
   have HP6:=Lib.hid (hp6.keep hk);have HQ6:=Lib.hid (hq6.keep hk (.inr (.inl rfl)));have HT6:=Lib.hid hT
   have HN6:Hid (∀ j,OwnB none N' j→OwnB none N j∨w.heap.size≤j):=fun j h=>by
    rcases hN6 j h with h9 | h9
    ·exact HN1.out j h9
    ·exact .inr (by have:=HEA.out.size;omega)
   have HI6:Hid (WInv { wd with nets:=if nt.length<12 then nt++[⟨0,0,[ee]⟩] else nt }):=by
    have h:=putW_ok HI.out (own_ok HEE.out)
    rw [putW_nets] at h
    exact h
   have HS6:Hid (w6.cell? ⟨w.heap.size,0,none⟩=some (.slice L wd.log.length ln)∧w6.cell? ⟨w.heap.size,1,none⟩=some (.int .i64 wd.safe)∧w6.cell? ⟨w.heap.size,2,none⟩=some (.bool wd.up)∧w6.cell? ⟨w.heap.size,3,none⟩=some (.slice (some ⟨g,0,none⟩) xs.length cc)∧w6.cell? ⟨w.heap.size,4,none⟩=some (.slice N1 zs.length m1)∧w6.cell? ⟨w.heap.size+3,3,none⟩=some (.slice (some ⟨b,off,none⟩) c.wait.length qn)∧w6.cell? ⟨b,off+k*7,none⟩=some (.int .i64 ee.who)∧w6.cell? ⟨b,off+k*7+1,none⟩=some (.int .i64 ee.seq)∧w6.cell? ⟨b,off+k*7+2,none⟩=some (.int .i64 ee.op.kind)∧w6.cell? ⟨b,off+k*7+3,none⟩=some (.int .i64 ee.op.id)∧w6.cell? ⟨b,off+k*7+4,none⟩=some (.int .i64 ee.op.up)∧w6.cell? ⟨b,off+k*7+5,none⟩=some (.int .i64 ee.op.pos)∧w6.cell? ⟨b,off+k*7+6,none⟩=some (.string ee.op.text)):=by
    obtain ⟨q0,q1,q2,q3,q4,q5,q6,q7,q8,q9,q10,q11,q12⟩:=HS5.out
    obtain ⟨r0,r1,r2,r3,r4,rf⟩:=five_cells hbx
    obtain ⟨t0,t1,t2,t3,t4,t5,tf⟩:=six_cells hbc
    have hbq:=hT6.block b (by have:=HEA.out.size;omega) (fun h=>by
     obtain ⟨c2,m2,h2⟩:=hty b h
     obtain ⟨c3,m3,h3⟩:=(HQ.out.ext HEA.out).2 (by omega) b off rfl
     rw [h3] at h2
     injection h2 with h2;injection h2 with _ h2
     exact absurd h2 (by decide))
    exact ⟨r0,r1,r2,r3,r4,t3,(World.cell?_of_block hbq).trans q6,(World.cell?_of_block hbq).trans q7,(World.cell?_of_block hbq).trans q8,(World.cell?_of_block hbq).trans q9,(World.cell?_of_block hbq).trans q10,(World.cell?_of_block hbq).trans q11,(World.cell?_of_block hbq).trans q12⟩
   obtain ⟨r0,r1,r2,r3,r4,rf⟩:=five_cells hbx
   clear hbx hbz hbc hq6 hk hg hT7 hT hxs hp6 hT6 hN6 hty
   refine HK.out _ _ ⟨fun _=>HS6.out,?_⟩
   clear HK K HS5 HPT HS6
   try simp only [Act.put,List.setIfInBounds_toArray,List.set_cons_zero,List.set_cons_succ]
   refine WB.one (i:=9) (by kernel_rfl) rfl (fun K hK=>?_)
   have HK:=Lib.hid hK
   clear hK
   go_simp
   refine HK.out _ _ ⟨fun h=>(no_late h (by kernel_rfl)).elim,?_⟩
   clear HK K r0 r1 r2 r3 r4 rf
   refine WB.done (by kernel_rfl) ?_
   go_wp2_with fail
   go_roundg (c.wait.length - (k+1))
   case measure=>have:=HGK.out;omega
   case rel=>exact ⟨k+1,_,N',nc',ys',by omega,rfl,by go_num,HI6,HXS.out,HZ6.out,HC6.out,HP6.out,HQ6.out,HT6.out,HN6⟩
  ·have hli:¬((k:Int)<c.wait.length):=by omega
   clear b0 b1 b2 b3 b4 bf
   have hz:=put5_at (.slice L wd.log.length ln) (.int .i64 wd.safe) (.bool wd.up) (.slice (some ⟨g,0,none⟩) xs.length cc) (.slice N1 zs.length m1) HZ.out
   have hk:KeepT wr (put5 wr (w.heap.size+1+1) (.slice L wd.log.length ln) (.int .i64 wd.safe) (.bool wd.up) (.slice (some ⟨g,0,none⟩) xs.length cc) (.slice N1 zs.length m1)):=KeepT.grown (gset (gset (gset (gset (gset_any _ _ _ _) _ _) _ _) _ _) _ _) HZ.out (by decide) (by decide) (by decide) (by decide)
   have hwR:w.heap.size≤w.heap.size+1+1:=by omega
   have hT:Turn (OwnB (some ⟨g,0,none⟩) N) w (put5 wr (w.heap.size+1+1) (.slice L wd.log.length ln) (.int .i64 wd.safe) (.bool wd.up) (.slice (some ⟨g,0,none⟩) xs.length cc) (.slice N1 zs.length m1)):=(((((HT.out).setNew hwR 0 _).setNew hwR 1 _).setNew hwR 2 _).setNew hwR 3 _).setNew hwR 4 _
   have HZ9:=Lib.hid hz;have HP9:=Lib.hid ((HPR.out).keep hk);have HT9:=Lib.hid hT
   clear hz hk hT
   obtain ⟨b0,b1,b2,b3,b4,bf⟩:=five_cells HB.out
   obtain ⟨d0,d1,d2,d3,d4,df⟩:=five_cells HZ.out
   go_wp2_with fail
   obtain ⟨k0,k1,k2,k3,k4,kf⟩:=five_cells HZ9.out
   refine bodyPost_ret (v:=.agg (cW wd L ln (some ⟨g,0,none⟩) xs cc N1 zs m1)) ?_ rfl ?_
   ·simp [results,Tryz.f153,go_sem,k0,k1,k2,k3,k4]
   ·exact ⟨{ wd with nets:=nt },L,ln,_,cc,N1,m1,xs,zs,rfl,HI.out,HP9.out,HT9.out,fun k h=>h.elim (fun h=>.inl (.inl h)) (fun h=>(HN1.out k (.inr h)).imp (fun h=>h.elim (fun h=>by cases h) .inr) id)⟩
end Go.Proofs.YtecmcjfdaipfcaaGreatDoor
