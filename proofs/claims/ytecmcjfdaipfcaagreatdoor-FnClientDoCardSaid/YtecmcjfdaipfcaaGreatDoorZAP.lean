/- Walk of the reference: a new world. .. Helpers for walks of laws over clients. -/
import Derived.Test.YtecmcjfdaipfcaaGreatDoorZAO
import Derived.Deep.DeepCutAuto
import Derived.Deep.CutBlock
import Derived.Deep.RegionWith
import Derived.OrdersHeld
import Derived.Test.YtecmcjfdaipfcaaGreatDoorZAH
import Derived.Test.YtecmcjfdaipfcaaGreatDoorZAI
namespace Go.Proofs.YtecmcjfdaipfcaaGreatDoor
open Go.RowKit Go.Lib
set_option linter.unusedVariables false
theorem RdT.grownO {α β:Type} [Flat α] [Flat β] {e e':TypeId} {W W':World} {A:Option Addr} {c base:Nat} {l:List α} {v:Value} {xs:List β} (h:RdT e W A c l) (hg:W.grownBy W' v.ownBlock) (ho:Own e' W base v xs) (hne:e'≠e):RdT e W' A c l:=
 h.blk fun _ bb _ cs m _ h1=>hg.block bb (blk_lt h1) (fun e0=>by
  obtain ⟨cs',m',h2⟩:=ho.ty bb e0.symm
  rw [h1] at h2
  injection h2 with h2;injection h2 with _ h2
  exact hne h2.symm)
theorem RcOk.grownO {β:Type} [Flat β] {e':TypeId} {W W':World} {base:Nat} {v:Value} {xs:List β} {x:RC} {c:Client} (h:RcOk W x c) (hg:W.grownBy W' v.ownBlock) (ho:Own e' W base v xs) (h1:e'≠46) (h2:e'≠35):RcOk W' x c:=by
 obtain ⟨b,bn,q,qn,rfl,r1,r2⟩:=h
 exact ⟨b,bn,q,qn,rfl,r1.grownO hg ho h1,r2.grownO hg ho h2⟩
theorem LtOk.grownO {β:Type} [Flat β] {e':TypeId} {W W':World} {base:Nat} {v:Value} {xs:List β} {x:RL} {m:Lt} (h:LtOk W x m) (hg:W.grownBy W' v.ownBlock) (ho:Own e' W base v xs) (h2:e'≠35):LtOk W' x m:=by
 obtain ⟨a,n,rfl,r1⟩:=h
 exact ⟨a,n,rfl,r1.grownO hg ho h2⟩
theorem RcOk.ext {W W':World} {x:RC} {c:Client} (h:RcOk W x c) (hb:Ext W W'):RcOk W' x c:=h.keep (KeepT.ext hb)
theorem LtOk.ext {W W':World} {x:RL} {m:Lt} (h:LtOk W x m) (hb:Ext W W'):LtOk W' x m:=h.keep (KeepT.ext hb)
theorem CT.raw {W:World} {c:Client} {v:Value} (h:CT W c v):∃ x:RC,v=.agg (Flat.enc x).toArray∧RcOk W x c:=by
 obtain ⟨A1,n1,A2,n2,rfl,h1,h2⟩:=h
 exact ⟨⟨c.who,c.seen,A1,c.base.length,n1,A2,c.wait.length,n2,c.done,c.made⟩,rfl,A1,n1,A2,n2,rfl,h1,h2⟩
theorem Own.grownO {α β:Type} [Flat α] [Flat β] {e e':TypeId} {W W':World} {base base':Nat} {v v':Value} {l:List α} {xs:List β} (h:Own e W base v l) (hg:W.grownBy W' v'.ownBlock) (ho:Own e' W base' v' xs) (hne:e'≠e):Own e W' base v l:=by
 refine h.grown hg ?_
 cases hv:v.ownBlock with
 |none=>exact .inl rfl
 |some k=>
  refine .inr (fun eq=>?_)
  obtain ⟨c1,m1,h1⟩:=h.ty k hv
  obtain ⟨c2,m2,h2⟩:=ho.ty k eq.symm
  rw [h1] at h2
  injection h2 with h2;injection h2 with _ h2
  exact hne h2.symm
theorem RcOk.set {W:World} {x:RC} {c:Client} {b:Nat} {cs:Array Value} {ty:TypeId} {m:Nat × Nat} (h:RcOk W x c) (hb:W.heap[b]?=some (.cells cs ty m)) (h1:ty≠46) (h2:ty≠35) (i:Nat) (v:Value):RcOk (W.setCell ⟨b,i,none⟩ v) x c:=by
 obtain ⟨a,bn,q,qn,rfl,r1,r2⟩:=h
 exact ⟨a,bn,q,qn,rfl,r1.set hb h1 i v,r2.set hb h2 i v⟩
def clisNew (k:Nat):List Client:=(List.range k).map fun (i:Nat)=>(⟨(i:Int)+1,0,treeNew,[],0,0⟩:Client)
theorem clisNew_succ (k:Nat):clisNew (k+1)=clisNew k++[⟨(k:Int)+1,0,treeNew,[],0,0⟩]:=by
 unfold clisNew;rw [List.range_succ,List.map_append];rfl
set_option maxRecDepth 100000 in
set_option maxHeartbeats 2000000 in
theorem worldNew_s (w:World) :
  Calls Tryz.prog 139 #[] w fun x w'=>∃ v,x=.returned v∧WV w' w.heap.size ⟨[],0,true,clisNew 3,[]⟩ v∧Ext w w':=by
 have hx:=World.alloc_heap_new w oW0
 have hE:Ext w (w.alloc oW0):=(Below.refl _ w).alloc (Nat.le_refl _) _
 have HX:=Lib.hid hx;have HE:=Lib.hid hE
 clear hx hE
 go_enter Tryz.func139,Tryz.ntmps139
 go_wp2_with fail
 generalize (w.alloc oW0)=W at *
 refine (serverNew_s W).mono ?_
 rintro x w1 ⟨L,ln,rfl,hl,hb1⟩
 have HE1:=Lib.hid (HE.out.trans (hb1.mono HE.out.size));have HX1:=Lib.hid ((hb1.block w.heap.size (blk_lt HX.out)).trans HX.out);have HL:=Lib.hid hl
 have hs1:=HE1.out.size
 clear hl hb1
 go_wp2_with fail
 have h2:=two_new w1 (.cells #[] 104) (.cells #[.slice L 0 ln,.int .i64 0,.bool true,.slice none 0 0,(.slice (some ⟨w1.heap.size,0,none⟩) 0 0)] 62)
 have hE3:Ext w1 ((w1.alloc (.cells #[] 104)).alloc (.cells #[.slice L 0 ln,.int .i64 0,.bool true,.slice none 0 0,(.slice (some ⟨w1.heap.size,0,none⟩) 0 0)] 62)):=((Below.refl _ w1).alloc (Nat.le_refl _) _).alloc (by rw [alloc_sz];omega) _
 have hln:Own 104 ((w1.alloc (.cells #[] 104)).alloc (.cells #[.slice L 0 ln,.int .i64 0,.bool true,.slice none 0 0,(.slice (some ⟨w1.heap.size,0,none⟩) 0 0)] 62)) w.heap.size (.slice (some ⟨w1.heap.size,0,none⟩) 0 0) ([]:List RL):=(own_made (e:=104) (α:=RL) w1 w.heap.size hs1).below ((Below.refl _ _).alloc (Nat.le_refl _) _)
 have HB3:=Lib.hid h2.2;have HE3:=Lib.hid (HE1.out.trans (hE3.mono hs1));have HN3:=Lib.hid hln;have HL3:=Lib.hid (HL.out.ext hE3)
 have HZ3:=Lib.hid ((hE3.block w.heap.size (blk_lt HX1.out)).trans HX1.out)
 clear h2 hE3 hln
 generalize ((w1.alloc (.cells #[] 104)).alloc (.cells #[.slice L 0 ln,.int .i64 0,.bool true,.slice none 0 0,(.slice (some ⟨w1.heap.size,0,none⟩) 0 0)] 62))=W3 at *
 go_loopg [2] 3 (fun gk i wr=>∃ (k:Nat) (xs:List RC) (C:Option Addr) (cc:Nat),k≤3∧Hid (gk=3 - k)∧i=.int .i64 ((k:Int)+1)∧Hid (xs.length=k)∧Hid (wr.heap[w1.heap.size+1]?=some (.cells #[.slice L 0 ln,.int .i64 0,.bool true,.slice C xs.length cc,(.slice (some ⟨w1.heap.size,0,none⟩) 0 0)] 62 (0,0)))∧Hid (Own 26 wr w.heap.size (.slice C xs.length cc) xs)∧Hid (Own 104 wr w.heap.size (.slice (some ⟨w1.heap.size,0,none⟩) 0 0) ([]:List RL))∧Hid (All2 (RcOk wr) xs (clisNew k))∧Hid (RdT 35 wr L ln ([]:List Entry))∧Hid (wr.heap[w.heap.size]?=some (.cells cW0 62 (0,0)))∧Hid (Ext w wr))
 case atStart=>exact ⟨0,[],none,0,by omega,rfl,rfl,rfl,HB3.out,Own.nil _ _ _,HN3.out,All2.nil,HL3.out,HZ3.out,HE3.out⟩
 case round=>
  obtain ⟨k,xs,C,cc,hk,HK,rfl,HXL,HB,HO,HN,HA,HQ,HZ,HW⟩:=hrel
  by_cases hlt:k<3
  ·have hle:(k:Int)+1≤3:=by omega
   have HC:=Lib.hid (clientNewS_s ((k:Int)+1) wr ⟨by omega,by omega⟩)
   go_wp2_with fail
   refine HC.out.mono ?_
   rintro x w5 ⟨v5,rfl,⟨A1,n1,A2,n2,rfl,r1,r2⟩,hb5⟩
   have hs5:=hb5.size
   have hltb:=blk_lt HB.out
   have hs1':=HW.out.size
   have hE6:Ext w5 (w5.alloc (.cells #[.int .i64 ((k:Int)+1),.int .i64 0,.slice A1 treeNew.length n1,.slice A2 0 n2,.int .i64 0,.int .i64 0] 26)):=(Below.refl _ w5).alloc (Nat.le_refl _) _
   have hsz6:=alloc_sz w5 (.cells #[.int .i64 ((k:Int)+1),.int .i64 0,.slice A1 treeNew.length n1,.slice A2 0 n2,.int .i64 0,.int .i64 0] 26)
   have hx6:=World.alloc_heap_new w5 (.cells #[.int .i64 ((k:Int)+1),.int .i64 0,.slice A1 treeNew.length n1,.slice A2 0 n2,.int .i64 0,.int .i64 0] 26)
   have hE56:Ext wr (w5.alloc (.cells #[.int .i64 ((k:Int)+1),.int .i64 0,.slice A1 treeNew.length n1,.slice A2 0 n2,.int .i64 0,.int .i64 0] 26)):=hb5.trans (hE6.mono hs5)
   have HX6:=Lib.hid hx6;have HE56:=Lib.hid hE56;have HR1:=Lib.hid (r1.ext hE6);have HR2:=Lib.hid (r2.ext hE6)
   have hbo5:=(hb5.block _ hltb).trans HB.out
   obtain ⟨d0,d1,d2,d3,d4,df⟩:=five_cells hbo5
   clear hE6 hx6 hE56 r1 r2 hb5 HC hbo5
   go_upto_region 6 with fail
   clear d0 d1 d2 d3 d4 df
   generalize (w5.alloc (.cells #[.int .i64 ((k:Int)+1),.int .i64 0,.slice A1 treeNew.length n1,.slice A2 0 n2,.int .i64 0,.int .i64 0] 26))=W6 at *
   have hbo:=(HE56.out.block _ hltb).trans HB.out
   obtain ⟨b0,b1,b2,b3,b4,bf⟩:=five_cells hbo
   obtain ⟨c0,c1,c2,c3,c4,c5,cf⟩:=six_cells HX6.out
   have hown:=HO.out.below HE56.out
   have hlt0:w.heap.size≤W6.heap.size:=by omega
   obtain ⟨v7,w7,hrun,ho7,hg7⟩:=app_one el_cli hown (⟨(k:Int)+1,0,A1,treeNew.length,n1,A2,0,n2,0,0⟩:RC) trivial (by have:=HXL.out;omega) hlt0 #[.int .i64 ((k:Int)+1),.int .i64 0,.slice A1 treeNew.length n1,.slice A2 0 n2,.int .i64 0,.int .i64 0] rfl
   obtain ⟨C',cc',hv9,-⟩:=ho7.rd
   rw [List.length_append,List.length_singleton] at hv9
   subst hv9
   have hw7:=hg7.block (w1.heap.size+1) (by rw [alloc_sz];have:=blk_lt hbo;omega) (fun e0=>by
    obtain ⟨cs',m',h2⟩:=hown.ty _ e0.symm
    rw [hbo] at h2
    injection h2 with h2;injection h2 with _ h2
    exact absurd h2 (by decide))
   have hbo7:=hw7.trans ((Below.heap_alloc W6 _ (w1.heap.size+1) (blk_lt hbo)).trans hbo)
   obtain ⟨e0,e1,e2,e3,e4,ef⟩:=five_cells hbo7
   have HBO7:=Lib.hid hbo7
   clear hw7 hbo7
   have HB6:=Lib.hid hbo;have HRUN:=Lib.hid hrun;have HO7:=Lib.hid ho7;have HG7:=Lib.hid hg7;have HOW:=Lib.hid hown
   have HSZ6:=Lib.hid hsz6
   clear hown ho7 hg7 hbo hsz6
   go_wp2_with (at_builtin;refine wpList_append_run rfl _ _ _ rfl rfl rfl hrun ?_)
   go_roundg (3 - (k+1))
   case measure=>have:=HK.out;omega
   case rel=>
    have hEa:Ext W6 (W6.alloc (.cells #[.int .i64 ((k:Int)+1),.int .i64 0,.slice A1 treeNew.length n1,.slice A2 0 n2,.int .i64 0,.int .i64 0] 26)):=(Below.refl _ _).alloc (Nat.le_refl _) _
    have hoa:=HOW.out.below hEa
    have hall:All2 (RcOk (w7.setCell ⟨w1.heap.size+1,3,none⟩ (.slice C' (xs.length+1) cc'))) (xs++[⟨(k:Int)+1,0,A1,treeNew.length,n1,A2,0,n2,0,0⟩]) (clisNew (k+1)):=by
     rw [clisNew_succ]
     refine (HA.out.imp (fun x c h=>((((h.ext HE56.out).ext hEa).grownO HG7.out hoa (by decide) (by decide)).set HBO7.out (by decide) (by decide) 3 _))).append (All2.one ⟨A1,n1,A2,n2,rfl,?_,?_⟩)
     ·exact ((HR1.out.ext hEa).grownO HG7.out hoa (by decide)).set HBO7.out (by decide) 3 _
     ·exact ((HR2.out.ext hEa).grownO HG7.out hoa (by decide)).set HBO7.out (by decide) 3 _
    have hne0:w.heap.size≠w1.heap.size+1:=by omega
    have hz6:=(hEa.block _ (blk_lt ((HE56.out.block _ (blk_lt HZ.out)).trans HZ.out))).trans ((HE56.out.block _ (blk_lt HZ.out)).trans HZ.out)
    have hz7:=(HG7.out.block w.heap.size (blk_lt hz6) (fun e9=>by
     obtain ⟨c2,m2,h2⟩:=hoa.ty _ e9.symm
     rw [hz6] at h2
     injection h2 with h2;injection h2 with _ h2
     exact absurd h2 (by decide))).trans hz6
    have hxl:(xs++[(⟨(k:Int)+1,0,A1,treeNew.length,n1,A2,0,n2,0,0⟩:RC)]).length=xs.length+1:=by simp
    have hEw:Ext w W6:=HW.out.trans (HE56.out.mono HW.out.size)
    refine ⟨k+1,xs++[⟨(k:Int)+1,0,A1,treeNew.length,n1,A2,0,n2,0,0⟩],C',cc',by omega,rfl,by go_num,?_,?_,?_,?_,Lib.hid hall,?_,(setx hne0).trans hz7,?_⟩
    ·show _=_;rw [hxl,HXL.out]
    ·show _=_;rw [hxl];exact set_at HBO7.out
    ·show Own _ _ _ _ _;rw [hxl];exact own_put HO7.out HBO7.out (by decide) 3 _
    ·exact own_put (((HN.out.below HE56.out).below hEa).grownO HG7.out hoa (by decide)) HBO7.out (by decide) 3 _
    ·exact (((HQ.out.ext HE56.out).ext hEa).grownO HG7.out hoa (by decide)).set HBO7.out (by decide) 3 _
    ·exact (hoa.over (hEw.alloc hEw.size _) HG7.out (Nat.le_refl _) (by rw [alloc_sz];have:=hEw.size;omega)).setCell (p:=⟨w1.heap.size+1,3,none⟩) (show w.heap.size≤w1.heap.size+1 by omega) _
  ·have hk3:k=3:=by omega
   subst hk3
   have hli:¬((3:Int)+1≤3):=by omega
   obtain ⟨b0,b1,b2,b3,b4,bf⟩:=five_cells HB.out
   obtain ⟨d0,d1,d2,d3,d4,df⟩:=five_cells HZ.out
   have hz:=put5_at (.slice L 0 ln) (.int .i64 0) (.bool true) (.slice C xs.length cc) (.slice (some ⟨w1.heap.size,0,none⟩) 0 0) HZ.out
   have hk:KeepT wr (put5 wr w.heap.size (.slice L 0 ln) (.int .i64 0) (.bool true) (.slice C xs.length cc) (.slice (some ⟨w1.heap.size,0,none⟩) 0 0)):=KeepT.grown (gset (gset (gset (gset (gset_any _ _ _ _) _ _) _ _) _ _) _ _) HZ.out (by decide) (by decide) (by decide) (by decide)
   have hp:WP wr w.heap.size ⟨[],0,true,clisNew 3,[]⟩ L ln C cc (some ⟨w1.heap.size,0,none⟩) 0 xs []:=⟨HQ.out,HO.out,HN.out,HA.out,All2.nil⟩
   have hE9:Ext w (put5 wr w.heap.size (.slice L 0 ln) (.int .i64 0) (.bool true) (.slice C xs.length cc) (.slice (some ⟨w1.heap.size,0,none⟩) 0 0)):=((((HW.out.setCell (Nat.le_refl _) _).setCell (Nat.le_refl _) _).setCell (Nat.le_refl _) _).setCell (Nat.le_refl _) _).setCell (Nat.le_refl _) _
   have HZ9:=Lib.hid hz;have HP9:=Lib.hid (hp.keep hk);have HE9:=Lib.hid hE9
   clear hz hk hp hE9
   go_wp2_with fail
   obtain ⟨k0,k1,k2,k3,k4,kf⟩:=five_cells HZ9.out
   refine bodyPost_ret (v:=.agg #[.slice L 0 ln,.int .i64 0,.bool true,.slice C xs.length cc,.slice (some ⟨w1.heap.size,0,none⟩) 0 0]) ?_ rfl ?_
   ·simp [results,Tryz.f139,go_sem,k0,k1,k2,k3,k4]
   ·exact ⟨_,rfl,⟨_,_,_,_,_,_,_,_,rfl,HP9.out⟩,HE9.out⟩
open Go.RowKit Go.Lib
def OwnB (C N:Option Addr) (k:Nat):Prop:=C.map Addr.block=some k∨N.map Addr.block=some k
theorem ob_map (A:Option Addr) (n c:Nat):(Value.slice A n c).ownBlock=A.map Addr.block:=by cases A <;> rfl
theorem Turn.setNew {S:Nat→Prop} {w W:World} (h:Turn S w W) {b:Nat} (hb:w.heap.size≤b) (i:Nat) (v:Value):Turn S w (W.setCell ⟨b,i,none⟩ v):=
 h.then (S':=fun k=>k=b) (Turn.grown (gset_any W b i v) (fun k hk=>by injection hk with hk;exact hk.symm)) (fun k hk=>.inr (by rw [hk];exact hb))
def putW (w:Wd) (m:Lt):Wd:=if w.nets.length<12 then { w with nets:=w.nets++[m] } else w
theorem putW_ok {w:Wd} {m:Lt} (h:WInv w) (hm:LInv m):WInv (putW w m):=by
 unfold putW
 split
 ·rename_i hl
  exact ⟨h.log,h.len,h.safe0,h.safe1,h.three,h.cls,by show (w.nets++[m]).length≤12;rw [List.length_append,List.length_singleton];omega,fun x hx=>by
   rcases List.mem_append.1 hx with h1 | h1
   ·exact h.nets x h1
   ·rw [List.mem_singleton.1 h1];exact hm⟩
 ·exact h
theorem app_one_b {α:Type} [Flat α] {e s:TypeId} (E:El α e s) {w:World} {base:Nat} {v:Value} {l:List α} (h0:Own e w base v l) (x:α) (hx:Flat.okE x) (hl:l.length<1000000) (hb:base≤w.heap.size) (cs:Array Value) (hc:cs.toList=Flat.enc x) :
  ∃ v' w',(Builtin.append_ #[s,s] s #[v,.slice (some ⟨w.heap.size,0,none⟩) 1 1]).run Tryz.prog (w.alloc (.cells cs e))=.ok v' w'∧Own e w' base v' (l++[x])∧(w.alloc (.cells cs e)).grownBy w' v.ownBlock∧(v'.ownBlock=v.ownBlock∨∀ k,v'.ownBlock=some k→w.heap.size≤k):=by
 have h:=h0.below ((Below.refl _ _).alloc (Nat.le_refl _) (.cells cs e))
 have hr:=rd_box w x hx cs hc e
 obtain ⟨i,z,hi,hz,hs,hby,hzs⟩:=E.info
 have hn:∀ j u,(flat [x])[j]?=some u→(w.alloc (.cells cs e)).cell? ((⟨w.heap.size,0,none⟩:Addr).add j)=some u:=by
  intro j u hj
  obtain ⟨b,off,h,hc⟩:=hr.2.2.1 (by simp)
  cases h
  have e1:(⟨w.heap.size,0,none⟩:Addr).add j=⟨w.heap.size,0+j,none⟩:=by unfold Addr.add;split <;> simp_all
  rw [e1]
  exact hc j u hj
 have hbb:(l.length+1)*i.bytes≤1000000*200:=Nat.mul_le_mul (by omega) hby
 obtain ⟨v',w',hrun,hown,hgrow,-,hblk⟩:=run_append_own_at (P:=Tryz.prog) (w:=w.alloc (.cells cs e)) base s s e i z (Flat.sz α) i.bytes E.und hi hz hs rfl hzs Flat.pos v l.length (flat l) h.1 ⟨w.heap.size,0,none⟩ 1 1 (flat [x]) (by rw [flat_length];simp) hn (flat_one_cell [x]) (by unfold maxLen;omega) (by omega) (by rw [alloc_sz];omega)
 refine ⟨v',w',hrun,⟨?_,?_⟩,hgrow,?_⟩
 ·rw [List.length_append,flat_append];exact hown
 ·intro y hy
  rcases List.mem_append.1 hy with h1 | h1
  ·exact h0.2 y h1
  ·rw [List.mem_singleton.1 h1];exact hx
 ·rcases hblk with h1 | h1
  ·exact .inl h1
  ·refine .inr fun k hk=>?_
   rw [h1] at hk
   injection hk with hk
   rw [alloc_sz] at hk
   omega
theorem box_grown {β:Type} [Flat β] {e':TypeId} {W W':World} {base b:Nat} {v:Value} {xs:List β} {cs:Array Value} {ty:TypeId} {m:Nat × Nat} (h:W.heap[b]?=some (.cells cs ty m)) (hg:W.grownBy W' v.ownBlock) (ho:Own e' W base v xs) (hne:e'≠ty):W'.heap[b]?=some (.cells cs ty m):=
 (hg.block b (blk_lt h) (fun e0=>by
  obtain ⟨c2,m2,h2⟩:=ho.ty b e0.symm
  rw [h] at h2
  injection h2 with h2;injection h2 with _ h2
  exact hne h2.symm)).trans h
set_option maxRecDepth 100000 in
set_option maxHeartbeats 2000000 in
theorem put22_s (wd:Wd) (m:Lt) (base:Nat) (L:Option Addr) (ln:Nat) (C:Option Addr) (cc:Nat) (N:Option Addr) (nc:Nat) (xs:List RC) (ys:List RL) (A:Option Addr) (an:Nat) (w:World) (hp:WP w base wd L ln C cc N nc xs ys) (hm:RdT 35 w A an m.list) (hb:base≤w.heap.size) :
  Calls Tryz.prog 158 #[.agg #[.slice L wd.log.length ln,.int .i64 wd.safe,.bool wd.up,.slice C xs.length cc,.slice N ys.length nc],.agg (cL m A an)] w fun x w'=>∃ (N':Option Addr) (nc':Nat) (ys':List RL),x=.returned (.agg #[.slice L wd.log.length ln,.int .i64 wd.safe,.bool wd.up,.slice C xs.length cc,.slice N' ys'.length nc'])∧WP w' base (putW wd m) L ln C cc N' nc' xs ys'∧Turn (OwnB none N) w w'∧∀ k,OwnB none N' k→OwnB none N k∨w.heap.size≤k:=by
 have h3:=three_all w (.cells #[.slice L wd.log.length ln,.int .i64 wd.safe,.bool wd.up,.slice C xs.length cc,.slice N ys.length nc] 62) (oL m A an) oW0
 have hE3:Ext w (((w.alloc (.cells #[.slice L wd.log.length ln,.int .i64 wd.safe,.bool wd.up,.slice C xs.length cc,.slice N ys.length nc] 62)).alloc (oL m A an)).alloc oW0):=ext3 _ _ _ _
 have hz3:(((w.alloc (.cells #[.slice L wd.log.length ln,.int .i64 wd.safe,.bool wd.up,.slice C xs.length cc,.slice N ys.length nc] 62)).alloc (oL m A an)).alloc oW0).heap.size=w.heap.size+3:=by simp only [alloc_sz]
 have HLEN:=Lib.hid hp.nets.1
 have HX1:=Lib.hid h3.1;have HX2:=Lib.hid h3.2.1;have HX3:=Lib.hid h3.2.2;have HE3:=Lib.hid hE3
 have HP:=Lib.hid (hp.ext hE3);have HM:=Lib.hid (hm.ext hE3)
 obtain ⟨b0,b1,b2,b3,b4,bf⟩:=five_cells h3.1
 have HPW:=Lib.hid hp
 clear h3 hE3 hp hm
 go_enter Tryz.func158,Tryz.ntmps158
 by_cases hl:ys.length<12
 ·have HW9:Hid (putW wd m={ wd with nets:=wd.nets++[m] }):=by show _=_;unfold putW;rw [if_pos (by have:=HLEN.out;omega)]
  have hl':(ys.length:Int)<12:=by omega
  go_upto_region 2 with fail
  clear b0 b1 b2 b3 b4 bf
  generalize (((w.alloc (.cells #[.slice L wd.log.length ln,.int .i64 wd.safe,.bool wd.up,.slice C xs.length cc,.slice N ys.length nc] 62)).alloc (oL m A an)).alloc oW0)=W3 at *
  obtain ⟨b0,b1,b2,b3,b4,bf⟩:=five_cells HX1.out
  obtain ⟨c0,c1,c2,cf⟩:=tri_cells HX2.out
  have hown:=HP.out.let_
  have hlt0:base≤W3.heap.size:=by omega
  obtain ⟨v7,w7,hrun,ho7,hg7,hbk7⟩:=app_one_b el_let hown (⟨m.dst,m.frm,A,m.list.length,an⟩:RL) trivial (by omega) hlt0 (cL m A an) rfl
  obtain ⟨N',nc',hv9,-⟩:=ho7.rd
  rw [List.length_append,List.length_singleton] at hv9
  subst hv9
  have hEa:Ext W3 (W3.alloc (oL m A an)):=(Below.refl _ _).alloc (Nat.le_refl _) _
  have hoa:=hown.below hEa
  have hx1:=box_grown ((hEa.block _ (blk_lt HX1.out)).trans HX1.out) hg7 hoa (by decide)
  have hx3:=box_grown ((hEa.block _ (blk_lt HX3.out)).trans HX3.out) hg7 hoa (by decide)
  obtain ⟨f0,f1,f2,f3,f4,ff⟩:=five_cells hx1
  obtain ⟨g0,g1,g2,g3,g4,gf⟩:=five_cells hx3
  have HO7:=Lib.hid ho7;have HG7:=Lib.hid hg7;have HOA:=Lib.hid hoa;have HY1:=Lib.hid hx1;have HY3:=Lib.hid hx3;have HSZ:=Lib.hid hz3
  clear hown ho7 hg7 hoa hx1 hx3 hz3 hEa
  go_wp2_with (at_builtin;refine wpList_append_run rfl _ _ _ rfl rfl rfl hrun ?_)
  have hzz:=(setx (w:=w7) (o:=4) (v:=.slice N' (ys.length+1) nc') (b:=w.heap.size) (b':=w.heap.size+1+1) (by omega)).trans HY3.out
  have hz:=put5_at (.slice L wd.log.length ln) (.int .i64 wd.safe) (.bool wd.up) (.slice C xs.length cc) (.slice N' (ys.length+1) nc') hzz
  have HZ:=Lib.hid hz
  clear hz
  obtain ⟨k0,k1,k2,k3,k4,kf⟩:=five_cells HZ.out
  refine bodyPost_ret (v:=.agg #[.slice L wd.log.length ln,.int .i64 wd.safe,.bool wd.up,.slice C xs.length cc,.slice N' (ys.length+1) nc']) ?_ rfl ?_
  ·simp [results,Tryz.f158,go_sem,k0,k1,k2,k3,k4]
  ·have hEa:Ext W3 (W3.alloc (oL m A an)):=(Below.refl _ _).alloc (Nat.le_refl _) _
   have hk:KeepT w7 (put5 (w7.setCell ⟨w.heap.size,4,none⟩ (.slice N' (ys.length+1) nc')) (w.heap.size+1+1) (.slice L wd.log.length ln) (.int .i64 wd.safe) (.bool wd.up) (.slice C xs.length cc) (.slice N' (ys.length+1) nc')):=(KeepT.grown (gset_any w7 w.heap.size 4 _) HY1.out (by decide) (by decide) (by decide) (by decide)).trans (KeepT.grown (gset (gset (gset (gset (gset_any _ _ _ _) _ _) _ _) _ _) _ _) hzz (by decide) (by decide) (by decide) (by decide))
   have hyl:(ys++[(⟨m.dst,m.frm,A,m.list.length,an⟩:RL)]).length=ys.length+1:=by simp
   have hp7:WP w7 base { wd with nets:=wd.nets++[m] } L ln C cc N' nc' xs (ys++[⟨m.dst,m.frm,A,m.list.length,an⟩]):=
    ⟨(HP.out.log.ext hEa).grownO HG7.out HOA.out (by decide),(HP.out.cli.below hEa).grownO HG7.out HOA.out (by decide),by rw [hyl];exact HO7.out,
     HP.out.cls.imp (fun _ _ h=>(h.ext hEa).grownO HG7.out HOA.out (by decide) (by decide)),
     (HP.out.nets.imp (fun _ _ h=>(h.ext hEa).grownO HG7.out HOA.out (by decide))).append (All2.one ⟨A,an,rfl,(HM.out.ext hEa).grownO HG7.out HOA.out (by decide)⟩)⟩
   have hT7:Turn (OwnB none N) w w7:=((Turn.ext HE3.out).thenE hEa).then (S':=OwnB none N) (Turn.grown HG7.out (fun k hk=>.inr (by rw [←ob_map N ys.length nc];exact hk))) (fun i hi=>.inl hi)
   have hwR:w.heap.size≤w.heap.size+1+1:=by omega
   refine ⟨N',nc',ys++[⟨m.dst,m.frm,A,m.list.length,an⟩],by rw [hyl],by rw [HW9.out];exact hp7.keep hk,((((((hT7.setNew (Nat.le_refl _) 4 _).setNew hwR 0 _).setNew hwR 1 _).setNew hwR 2 _).setNew hwR 3 _).setNew hwR 4 _),fun k h9=>?_⟩
   rcases h9 with h9 | h9
   ·exact .inl (.inl h9)
   ·rw [←ob_map N' (ys.length+1) nc'] at h9
    rcases hbk7 with h8 | h8
    ·rw [h8,ob_map] at h9;exact .inl (.inr h9)
    ·have:=h8 k h9
     have hs:=HE3.out.size
     exact .inr (by omega)
 ·have HW9:Hid (putW wd m=wd):=by show _=_;unfold putW;rw [if_neg (by have:=HLEN.out;omega)]
  have hl':¬((ys.length:Int)<12):=by omega
  have hE4:Ext w (((w.alloc (.cells #[.slice L wd.log.length ln,.int .i64 wd.safe,.bool wd.up,.slice C xs.length cc,.slice N ys.length nc] 62)).alloc (oL m A an)).alloc (.cells #[.slice L wd.log.length ln,.int .i64 wd.safe,.bool wd.up,.slice C xs.length cc,.slice N ys.length nc] 62)):=ext3 _ _ _ _
  have HZ:=Lib.hid (three_all w (.cells #[.slice L wd.log.length ln,.int .i64 wd.safe,.bool wd.up,.slice C xs.length cc,.slice N ys.length nc] 62) (oL m A an) (.cells #[.slice L wd.log.length ln,.int .i64 wd.safe,.bool wd.up,.slice C xs.length cc,.slice N ys.length nc] 62)).2.2;have HE4:=Lib.hid hE4
  clear hE4
  go_wp2_with fail
  obtain ⟨k0,k1,k2,k3,k4,kf⟩:=five_cells HZ.out
  refine bodyPost_ret (v:=.agg #[.slice L wd.log.length ln,.int .i64 wd.safe,.bool wd.up,.slice C xs.length cc,.slice N ys.length nc]) ?_ rfl ?_
  ·simp [results,Tryz.f158,go_sem]
  ·exact ⟨N,nc,ys,rfl,by rw [HW9.out];exact HPW.out.ext HE4.out,Turn.ext HE4.out,fun k h=>.inl h⟩
open Go.RowKit Go.Lib
def BrP (w:World) (base:Nat) (wd:Wd) (e:Entry) (C:Option Addr) (cc:Nat) (N:Option Addr) (nc:Nat) (xs:List RC) (ys:List RL) (wx:World):Prop:=
 ∃ L' n',wx.heap[w.heap.size]?=some (.cells #[.slice L' (srvS wd.log wd.up e).1.length n',.int .i64 wd.safe,.bool wd.up,.slice C xs.length cc,.slice N ys.length nc] 62 (0,0))∧wx.heap[w.heap.size+1+1]?=some (.cells #[.slice none 0 0,.int .i64 0,.bool false,.slice none 0 0,.slice none 0 0] 62 (0,0))∧WP wx base { wd with log:=(srvS wd.log wd.up e).1 } L' n' C cc N nc xs ys∧Ext w wx
set_option maxRecDepth 100000 in
set_option maxHeartbeats 4000000 in
theorem bring0_s (wd:Wd) (m:Lt) (base:Nat) (L:Option Addr) (ln:Nat) (C:Option Addr) (cc:Nat) (N:Option Addr) (nc:Nat) (xs:List RC) (ys:List RL) (A:Option Addr) (an:Nat) (w:World) (hp:WP w base wd L ln C cc N nc xs ys) (hm:RdT 35 w A an m.list) (hb:base≤w.heap.size) (h0:m.dst=0) (hl0:0<m.list.length) (hll:wd.log.length≤40) :
  Calls Tryz.prog 160 #[.agg (cW wd L ln C xs cc N ys nc),.agg (cL m A an)] w fun x w'=>∃ (L':Option Addr) (n':Nat),x=.returned (.agg #[.slice L' (srvS wd.log wd.up (m.list[0]'hl0)).1.length n',.int .i64 wd.safe,.bool wd.up,.slice C xs.length cc,.slice N ys.length nc])∧WP w' base { wd with log:=(srvS wd.log wd.up (m.list[0]'hl0)).1 } L' n' C cc N nc xs ys∧Ext w w':=by
 have h3:=three_all w (oW wd L ln C xs cc N ys nc) (oL m A an) oW0
 have hE3:Ext w (((w.alloc (oW wd L ln C xs cc N ys nc)).alloc (oL m A an)).alloc oW0):=ext3 _ _ _ _
 have hz3:(((w.alloc (oW wd L ln C xs cc N ys nc)).alloc (oL m A an)).alloc oW0).heap.size=w.heap.size+3:=by simp only [alloc_sz]
 have HX1:=Lib.hid h3.1;have HX2:=Lib.hid h3.2.1;have HX3:=Lib.hid h3.2.2;have HE3:=Lib.hid hE3
 have HP:=Lib.hid (hp.ext hE3);have HM:=Lib.hid (hm.ext hE3)
 obtain ⟨c0,c1,c2,cf⟩:=tri_cells h3.2.1
 have h0':(m.dst == 0)=true:=by simp [h0]
 have HD:=Lib.hid h0
 clear h3 hE3 hp hm h0
 go_enter Tryz.func160,Tryz.ntmps160
 go_upto_region 2 with fail
 clear c0 c1 c2 cf
 generalize (((w.alloc (oW wd L ln C xs cc N ys nc)).alloc (oL m A an)).alloc oW0)=W3 at *
 obtain ⟨b0,b1,b2,b3,b4,bf⟩:=five_cells HX1.out
 obtain ⟨c0,c1,c2,cf⟩:=tri_cells HX2.out
 obtain ⟨b,off,rfl,hbl,e0,e1,e2,e3,e4,e5,e6⟩:=ent_at HM.out.1 0 hl0
 simp only [Nat.zero_mul,Nat.add_zero] at e0 e1 e2 e3 e4 e5 e6
 have hoe:=HM.out.1.okAt 0 hl0
 have HC:=Lib.hid (hear13_s L ln wd.log wd.safe wd.up (m.list[0]'hl0) W3.drew (HP.out.log.ext ((Below.refl _ _).drew)) hoe (by omega))
 have hli:(0:Int)<m.list.length:=by omega
 have hx1:=blk_lt HX1.out
 have fin:∀ (w5:World) (L':Option Addr) (n':Nat),RdT 35 w5 L' n' (srvS wd.log wd.up (m.list[0]'hl0)).1→Ext W3.drew w5→BrP w base wd (m.list[0]'hl0) C cc N nc xs ys (((w5.setCell ⟨w.heap.size,0,none⟩ (.slice L' (srvS wd.log wd.up (m.list[0]'hl0)).1.length n')).setCell ⟨w.heap.size,1,none⟩ (.int .i64 wd.safe)).setCell ⟨w.heap.size,2,none⟩ (.bool wd.up)):=fun w5 L' n' hq hb5=>by
  have hE5:Ext W3 w5:=((Below.refl _ _).drew).trans hb5
  have hbx:=(hE5.block _ hx1).trans HX1.out
  have hk:KeepT w5 (((w5.setCell ⟨w.heap.size,0,none⟩ (.slice L' (srvS wd.log wd.up (m.list[0]'hl0)).1.length n')).setCell ⟨w.heap.size,1,none⟩ (.int .i64 wd.safe)).setCell ⟨w.heap.size,2,none⟩ (.bool wd.up)):=KeepT.grown (gset (gset (gset_any _ _ _ _) _ _) _ _) hbx (by decide) (by decide) (by decide) (by decide)
  have hp5:=HP.out.ext hE5
  have hp6:WP w5 base { wd with log:=(srvS wd.log wd.up (m.list[0]'hl0)).1 } L' n' C cc N nc xs ys:=⟨hq,hp5.cli,hp5.let_,hp5.cls,hp5.nets⟩
  exact ⟨L',n',set_at (set_at (set_at hbx)),(setx (by omega)).trans ((setx (by omega)).trans ((setx (by omega)).trans ((hE5.block _ (blk_lt HX3.out)).trans HX3.out))),hp6.keep hk,(((HE3.out.trans (hE5.mono HE3.out.size)).setCell (p:=⟨w.heap.size,0,none⟩) (Nat.le_refl _) _).setCell (p:=⟨w.heap.size,1,none⟩) (Nat.le_refl _) _).setCell (p:=⟨w.heap.size,2,none⟩) (Nat.le_refl _) _⟩
 have FIN:=Lib.hid fin
 clear fin
 go_cut [8] (fun s wx=>BrP w base wd (m.list[0]'hl0) C cc N nc xs ys wx)
 case first=>
  go_region_with (go_at_call 161;refine HC.out.mono ?_;rintro r w5 ⟨L',n',rfl,hq,hb5⟩;obtain ⟨f0,f1,f2,f3,f4,ff⟩:=five_cells ((hb5.block _ hx1).trans HX1.out);have HQ:=Lib.hid hq;have HB5:=Lib.hid hb5;clear hq hb5)
  all_goals
   go_wp2_with fail
   go_meet
   exact FIN.out _ _ _ HQ.out HB5.out
 case rest=>
  obtain ⟨L',n',hbx,hzx,hp9,hE9⟩:=hcut
  clear b0 b1 b2 b3 b4 bf c0 c1 c2 cf e0 e1 e2 e3 e4 e5 e6
  obtain ⟨b0,b1,b2,b3,b4,bf⟩:=five_cells hbx
  obtain ⟨d0,d1,d2,d3,d4,df⟩:=five_cells hzx
  have hz:=put5_at (.slice L' (srvS wd.log wd.up (m.list[0]'hl0)).1.length n') (.int .i64 wd.safe) (.bool wd.up) (.slice C xs.length cc) (.slice N ys.length nc) hzx
  have hk:KeepT wc (put5 wc (w.heap.size+1+1) (.slice L' (srvS wd.log wd.up (m.list[0]'hl0)).1.length n') (.int .i64 wd.safe) (.bool wd.up) (.slice C xs.length cc) (.slice N ys.length nc)):=KeepT.grown (gset (gset (gset (gset (gset_any _ _ _ _) _ _) _ _) _ _) _ _) hzx (by decide) (by decide) (by decide) (by decide)
  have hwR:w.heap.size≤w.heap.size+1+1:=by omega
  have hE:Ext w (put5 wc (w.heap.size+1+1) (.slice L' (srvS wd.log wd.up (m.list[0]'hl0)).1.length n') (.int .i64 wd.safe) (.bool wd.up) (.slice C xs.length cc) (.slice N ys.length nc)):=((((hE9.setCell (p:=⟨w.heap.size+1+1,0,none⟩) hwR _).setCell (p:=⟨w.heap.size+1+1,1,none⟩) hwR _).setCell (p:=⟨w.heap.size+1+1,2,none⟩) hwR _).setCell (p:=⟨w.heap.size+1+1,3,none⟩) hwR _).setCell (p:=⟨w.heap.size+1+1,4,none⟩) hwR _
  have HZ:=Lib.hid hz;have HP9:=Lib.hid (hp9.keep hk);have HE:=Lib.hid hE
  clear hz hk hE hp9 hE9 FIN HC
  go_wp2_with fail
  obtain ⟨k0,k1,k2,k3,k4,kf⟩:=five_cells HZ.out
  refine bodyPost_ret (v:=.agg #[.slice L' (srvS wd.log wd.up (m.list[0]'hl0)).1.length n',.int .i64 wd.safe,.bool wd.up,.slice C xs.length cc,.slice N ys.length nc]) ?_ rfl ?_
  ·simp [results,Tryz.f160,go_sem,k0,k1,k2,k3,k4]
  ·exact ⟨L',n',rfl,HP9.out,HE.out⟩
open Go Go.RowKit Go.Lib
section
variable {P:Program} {ops:Array Oper} {Q:Exit→Act→World→Prop} {md:Region.Mode} {S:World→Prop} {n:Nat}
def WB (P:Program) (md:Region.Mode) (ops:Array Oper) (Q:Exit→Act→World→Prop) (S:World→Prop) (n:Nat):Nat→Array Bool→Act→World→Prop
 |0,l,a,w=>Region.ready md ops l=[]∧Q .normal a w
 |k+1,l,a,w=>(Region.ready md ops l=[]→Q .normal a w)∧∀ i∈Region.ready md ops l,wpOp P ops Q i (fun a' w'=>((l.setIfInBounds i true).getD n true=false→S w')∧WB P md ops Q S n k (l.setIfInBounds i true) a' w') a w
theorem WB.any:∀ (k:Nat) (l:Array Bool) (a:Act) (w:World),WB P md ops Q S n k l a w→wpAny P md ops Q k l a w
 |0,_,_,_,h=>h
 |k+1,_,_,_,h=>⟨h.1,fun i hi=>wpOp_mono (fun a' w' h'=>WB.any k _ a' w' h'.2) (h.2 i hi)⟩
def waitB (md:Region.Mode) (ops:Array Oper) (n i:Nat):Bool:=
 match ops[n]? with
 |some oj=>oj.after.any (fun e=>Region.binds md e&&e.on == i)
 |none=>false
theorem waitB_spec {i j:Nat} (h:waitB md ops n i=true) (oj:Oper) (hj:ops[j]?=some oj) (hno:∀ e∈oj.after,Region.binds md e=true→e.on≠i):j≠n:=by
 rintro rfl
 unfold waitB at h
 rw [hj] at h
 obtain ⟨e,he,hb⟩:=Array.any_eq_true'.1 h
 simp only [Bool.and_eq_true,beq_iff_eq] at hb
 exact hno e he hb.1 hb.2
theorem WB.first {i:Nat} {oi:Oper} {v:Value} (hi:ops[i]?=some oi) (hsel:∀ (j:Nat) (o:Oper) cs b,ops[j]?=some o→o.op≠.select cs b)
  (hQ:∀ c a w,Q (.panic c) (a.put oi.dst v) w→Q (.panic c) a w) (hne:n≠i) (hl:waitB md ops n i=true∨∀ w,S w) :
  ∀ (k:Nat) (l:Array Bool) (a:Act) (w:World),
   (∀ j oj,ops[j]?=some oj→j≠i→l.getD j true=false→(∀ e∈oj.after,Region.binds md e=true→e.on≠i)→oi.apart ops oj=true) →
   i∈Region.ready md ops l→YieldsIf P ops S oi v a→l.getD n true=false∨(∀ w,S w)→S w →
   WB P md ops Q S n k (l.setIfInBounds i true) (a.put oi.dst v) w→WB P md ops Q S n (k+1) l a w:=by
 intro k
 induction k with
 |zero=>
  intro l a w _ hr hy hn hS H
  refine ⟨fun h=>(by rw [h] at hr;cases hr),fun j hj=>?_⟩
  by_cases hji:j=i
  ·subst hji;exact hy.wpOp hi hS ⟨fun _=>hS,H⟩
  ·have:=ready_mono hj hji
   rw [H.1] at this
   cases this
 |succ k ih=>
  intro l a w hfree hr hy hn hS H
  refine ⟨fun h=>(by rw [h] at hr;cases hr),fun j hj=>?_⟩
  by_cases hji:j=i
  ·subst hji;exact hy.wpOp hi hS ⟨fun _=>hS,H⟩
  ·obtain ⟨hju,oj,hoj,hall⟩:=mem_ready.1 hj
   have hnot:∀ e∈oj.after,Region.binds md e=true→e.on≠i:=by
    intro e he hb heq
    have h1:=hall e he hb
    have h0:=(mem_ready.1 hr).1
    rw [heq] at h1
    rcases Nat.lt_or_ge i l.size with h' | h'
    ·simp [h'] at h0 h1;rw [h0] at h1;cases h1
    ·simp [Array.getElem?_eq_none h'] at h1
   have hSj:∀ w',(((l.setIfInBounds i true).setIfInBounds j true).getD n true=false→S w')→S w':=fun w' h=>by
    rcases hl with h9 | h9
    ·rcases hn with hn | hn
     ·exact h (by rw [getD_set_ne true (Ne.symm (waitB_spec h9 oj hoj hnot).symm),getD_set_ne true (Ne.symm hne)];exact hn)
     ·exact hn w'
    ·exact h9 w'
   have hnj:(l.setIfInBounds j true).getD n true=false∨∀ w,S w:=by
    rcases hl with h9 | h9
    ·rcases hn with hn | hn
     ·exact .inl (by rw [getD_set_ne true (Ne.symm (waitB_spec h9 oj hoj hnot).symm)];exact hn)
     ·exact .inr hn
    ·exact .inr h9
   refine wpOp_mono (fun a' w' h3=>⟨fun _=>hSj w' h3.2.1,ih (l.setIfInBounds j true) a' w' (fun m om hm hmi hun hno=>?_) (ready_mono hr (Ne.symm hji)) h3.1 hnj (hSj w' h3.2.1) ?_⟩)
    (wpOp_putIf hoj (hfree j oj hoj hji hju hnot) (fun cs b=>hsel i oi cs b hi) (fun cs b=>hsel j oj cs b hoj) hQ hy (H.2 j (ready_mono hj hji)))
   ·refine hfree m om hm hmi ?_ hno
    by_cases hjm:j=m
    ·subst hjm;exact hju
    ·rw [getD_set_ne true hjm] at hun;exact hun
   ·rw [Array.setIfInBounds_comm _ _ hji]
    exact h3.2.2
theorem WB.firstP {i:Nat} {oi:Oper} {v:Value} (hi:ops[i]?=some oi) (hsel:∀ (j:Nat) (o:Oper) cs b,ops[j]?=some o→o.op≠.select cs b)
  (hQ:∀ c a w,Q (.panic c) (a.put oi.dst v) w→Q (.panic c) a w) (hne:n≠i) :
  ∀ (k:Nat) (l:Array Bool) (a:Act) (w:World),
   (∀ j oj,ops[j]?=some oj→j≠i→l.getD j true=false→(∀ e∈oj.after,Region.binds md e=true→e.on≠i)→oi.apart ops oj=true) →
   i∈Region.ready md ops l→YieldsIf P ops (fun _=>True) oi v a→(l.getD n true=false→S w) →
   WB P md ops Q S n k (l.setIfInBounds i true) (a.put oi.dst v) w→WB P md ops Q S n (k+1) l a w:=by
 intro k
 induction k with
 |zero=>
  intro l a w _ hr hy hS H
  refine ⟨fun h=>(by rw [h] at hr;cases hr),fun j hj=>?_⟩
  by_cases hji:j=i
  ·subst hji;exact hy.wpOp hi trivial ⟨fun h=>hS (by rw [getD_set_ne true (Ne.symm hne)] at h;exact h),H⟩
  ·have:=ready_mono hj hji
   rw [H.1] at this
   cases this
 |succ k ih=>
  intro l a w hfree hr hy hS H
  refine ⟨fun h=>(by rw [h] at hr;cases hr),fun j hj=>?_⟩
  by_cases hji:j=i
  ·subst hji;exact hy.wpOp hi trivial ⟨fun h=>hS (by rw [getD_set_ne true (Ne.symm hne)] at h;exact h),H⟩
  ·obtain ⟨hju,oj,hoj,hall⟩:=mem_ready.1 hj
   have hnot:∀ e∈oj.after,Region.binds md e=true→e.on≠i:=by
    intro e he hb heq
    have h1:=hall e he hb
    have h0:=(mem_ready.1 hr).1
    rw [heq] at h1
    rcases Nat.lt_or_ge i l.size with h' | h'
    ·simp [h'] at h0 h1;rw [h0] at h1;cases h1
    ·simp [Array.getElem?_eq_none h'] at h1
   have hSj:∀ w',(((l.setIfInBounds i true).setIfInBounds j true).getD n true=false→S w')→(l.setIfInBounds j true).getD n true=false→S w':=fun w' h h9=>by
    refine h ?_
    rw [←Array.setIfInBounds_comm _ _ hji,getD_set_ne true (Ne.symm hne)]
    exact h9
   refine wpOp_mono (fun a' w' h3=>⟨hSj w' h3.2.1,ih (l.setIfInBounds j true) a' w' (fun m om hm hmi hun hno=>?_) (ready_mono hr (Ne.symm hji)) h3.1 (hSj w' h3.2.1) ?_⟩)
    (wpOp_putIf hoj (hfree j oj hoj hji hju hnot) (fun cs b=>hsel i oi cs b hi) (fun cs b=>hsel j oj cs b hoj) hQ hy (H.2 j (ready_mono hj hji)))
   ·refine hfree m om hm hmi ?_ hno
    by_cases hjm:j=m
    ·subst hjm;exact hju
    ·rw [getD_set_ne true hjm] at hun;exact hun
   ·rw [Array.setIfInBounds_comm _ _ hji]
    exact h3.2.2
theorem WB.take {i:Nat} {oi:Oper} {v:Value} {k:Nat} {l:Array Bool} {a:Act} {w:World} (hi:ops[i]?=some oi)
  (hs:Region.noSelect ops=true) (hf:Region.free md ops l i=true) (hr:(Region.ready md ops l).contains i=true) (hl:(waitB md ops n i&&(n != i&&!(l.getD n true)))=true)
  (hQ:∀ c a w,Q (.panic c) (a.put oi.dst v) w→Q (.panic c) a w) (hS:S w) (hy:YieldsIf P ops S oi v a)
  (h:WB P md ops Q S n k (l.setIfInBounds i true) (a.put oi.dst v) w):WB P md ops Q S n (k+1) l a w:=by
 simp only [Bool.and_eq_true,bne_iff_ne,Bool.not_eq_true'] at hl
 exact WB.first hi (Region.noSelect_spec hs) hQ hl.2.1 (.inl hl.1) k l a w (Region.free_spec hi hf) (by simpa using hr) hy (.inl hl.2.2) hS h
theorem WB.takeP {i:Nat} {oi:Oper} {v:Value} {k:Nat} {l:Array Bool} {a:Act} {w:World} (hi:ops[i]?=some oi)
  (hs:Region.noSelect ops=true) (hf:Region.free md ops l i=true) (hr:(Region.ready md ops l).contains i=true) (hl:(n != i)=true)
  (hQ:∀ c a w,Q (.panic c) (a.put oi.dst v) w→Q (.panic c) a w) (hS:S w) (hy:YieldsIf P ops (fun _=>True) oi v a)
  (h:WB P md ops Q S n k (l.setIfInBounds i true) (a.put oi.dst v) w):WB P md ops Q S n (k+1) l a w:=
 WB.firstP hi (Region.noSelect_spec hs) hQ (by simpa using hl) k l a w (Region.free_spec hi hf) (by simpa using hr) hy (fun _=>hS) h
theorem WB.one {i:Nat} {o:Oper} {k:Nat} {l:Array Bool} {a:Act} {w:World} (hr:Region.ready md ops l=[i]) (ho:ops[i]?=some o)
  (h:∀ K':Act→World→Prop,(∀ a w,((l.setIfInBounds i true).getD n true=false→S w)∧WB P md ops Q S n k (l.setIfInBounds i true) a w→K' a w)→if Region.wanted o (yielded ops a.tmps)=true then Oper.wp P o a w K' Q else K' (a.put o.dst undef) w) :
  WB P md ops Q S n (k+1) l a w:=
by
 refine ⟨fun h0=>?_,fun j hj=>?_⟩
 ·rw [hr] at h0;cases h0
 ·rw [hr] at hj
  obtain rfl:j=i:=by simpa using hj
  exact wpOp_step ho h
theorem WB.two {i j:Nat} {oi oj:Oper} {k:Nat} {l:Array Bool} {a:Act} {w:World} (hr:Region.ready md ops l=[i,j]) (hoi:ops[i]?=some oi) (hoj:ops[j]?=some oj)
  (h1:∀ K':Act→World→Prop,(∀ a w,((l.setIfInBounds i true).getD n true=false→S w)∧WB P md ops Q S n k (l.setIfInBounds i true) a w→K' a w)→if Region.wanted oi (yielded ops a.tmps)=true then Oper.wp P oi a w K' Q else K' (a.put oi.dst undef) w)
  (h2:∀ K':Act→World→Prop,(∀ a w,((l.setIfInBounds j true).getD n true=false→S w)∧WB P md ops Q S n k (l.setIfInBounds j true) a w→K' a w)→if Region.wanted oj (yielded ops a.tmps)=true then Oper.wp P oj a w K' Q else K' (a.put oj.dst undef) w) :
  WB P md ops Q S n (k+1) l a w:=by
 refine ⟨fun h0=>?_,fun m hm=>?_⟩
 ·rw [hr] at h0;cases h0
 ·rw [hr] at hm
  rcases List.mem_cons.1 hm with h9 | h9
  ·subst h9;exact wpOp_step hoi h1
  ·obtain rfl:m=j:=by simpa using h9
   exact wpOp_step hoj h2
theorem WB.done {k:Nat} {l:Array Bool} {a:Act} {w:World} (hr:Region.ready md ops l=[]) (h:Q .normal a w):WB P md ops Q S n k l a w:=by
 cases k with
 |zero=>exact ⟨hr,h⟩
 |succ k=>exact ⟨fun _=>h,fun i hi=>by rw [hr] at hi;cases hi⟩
theorem WB.of_any {k:Nat} {l:Array Bool} {a:Act} {w:World} (hn:l.getD n true=true) (h:wpAny P md ops Q k l a w):WB P md ops Q S n k l a w:=by
 induction k generalizing l a w with
 |zero=>exact h
 |succ k ih=>
  refine ⟨h.1,fun i hi=>wpOp_mono (fun a' w' h'=>?_) (h.2 i hi)⟩
  have h9:(l.setIfInBounds i true).getD n true=true:=by
   by_cases hin:i=n
   ·subst hin
    by_cases hs:i<l.size
    ·simp [hs]
    ·simp [hs]
   ·rw [getD_set_ne true hin];exact hn
  exact ⟨fun h0=>(by rw [h9] at h0;cases h0),ih h9 h'⟩
theorem wp_region_B (S:World→Prop) (n:Nat) {id:Nat} {a:Act} {w:World} (hm:P.follows .mixedOrders=true)
  (h:WB P .any ops Q S n ops.size (Array.replicate ops.size false) a w.drew):(Code.region id ops true).wp P Q a w:=
 wp_region_any hm (WB.any _ _ _ _ h)
end
open Go.RowKit
theorem row_ext {a b:Row} (h1:a.id=b.id) (h2:a.depth=b.depth) (h3:a.text.toList=b.text.toList):a=b:=by
 obtain ⟨i1,d1,t1⟩:=a
 obtain ⟨i2,d2,t2⟩:=b
 simp only at h1 h2 h3
 have h8:=toList_inj h3
 subst h1 h2 h8;rfl
theorem neq_row (a b:Row) (W:World):(binOp .neq 46 (.agg #[.int .i64 a.id,.int .i64 a.depth,.string a.text]) (.agg #[.int .i64 b.id,.int .i64 b.depth,.string b.text])).run Tryz.prog W=.ok (.bool (!decide (a=b))) W:=by
 have u1:=Tryz.underlying46
 by_cases h:a=b
 ·subst h
  go_simp
 ·rw [decide_eq_false h]
  go_simp
  by_cases e1:a.id=b.id
  ·by_cases e2:a.depth=b.depth
   ·have e7:¬a.text.toList=b.text.toList:=fun e7=>h (row_ext e1 e2 e7)
    simp [e1,e2,e7]
   ·simp [e1,e2]
  ·simp [e1]
set_option maxRecDepth 100000 in
set_option maxHeartbeats 1000000 in
theorem lpRows_c (A:Option Addr) (c:Nat) (a:List Row) (A':Option Addr) (c':Nat) (b:List Row) (w:World) (hr:Rd w A c a) (hr':Rd w A' c' b) :
  Calls Tryz.prog 11 #[.slice A a.length c,.slice A' b.length c'] w fun e w'=>e=.returned (.bool (decide (a=b)))∧∃ n,w'=w.drewN n:=by
 have hm:a.length≤maxLen:=Nat.le_trans hr.1 hr.2.1
 unfold maxLen at hm
 have HR:=Lib.hid hr;have HR':=Lib.hid hr'
 clear hr hr'
 by_cases hl:a.length=b.length
 ·have hl':((a.length:Int) != b.length)=false:=by simp [hl]
  have HL:=Lib.hid hl
  have hml:b.length≤9223372036854775807:=by omega
  clear hl
  go_enter Tryz.func11,Tryz.ntmps11
  go_wp2_with fail
  go_loopg [5] a.length (fun gk i wr=>∃ (k n:Nat),wr=w.drewN n∧k≤a.length∧Hid (gk=a.length - k)∧i=.int .i64 k∧Hid (∀ j (h:j<a.length) (h':j<b.length),j<k→a[j]=b[j]))
  case atStart=>exact ⟨0,0,rfl,Nat.zero_le _,rfl,rfl,fun j _ _ h=>by omega⟩
  case round=>
   obtain ⟨k,n,rfl,hk,HK,rfl,HA⟩:=hrel
   by_cases hlt:k<a.length
   ·have hltb:k<b.length:=by have:=HL.out;omega
    obtain ⟨b1,o1,rfl,-,c0,c1,c2⟩:=row_at HR.out k hlt
    obtain ⟨b2,o2,rfl,-,d0,d1,d2⟩:=row_at HR'.out k hltb
    have hlt':(k:Int)<a.length:=by omega
    have hltb':(k:Int)<b.length:=by omega
    have hq:=neq_row a[k] b[k]
    by_cases he:a[k]=b[k]
    ·rw [decide_eq_true he] at hq
     have HN:Hid (∀ j (h:j<a.length) (h':j<b.length),j<k+1→a[j]=b[j]):=fun j h h' hj=>by
      by_cases e:j=k
      ·subst e;exact he
      ·exact HA.out j h h' (by omega)
     clear he
     go_wp2_with fail
     go_quiet (fail)
     go_wp2_with fail
     go_roundg (a.length - (k+1))
     case measure=>have:=HK.out;omega
     case rel=>exact ⟨k+1,_,rfl,by omega,rfl,by go_num,HN.out⟩
    ·rw [decide_eq_false he] at hq
     have HX:Hid (decide (a=b)=false):=by show _=_;rw [decide_eq_false];intro e;subst e;exact he rfl
     clear he
     go_wp2_with fail
     go_quiet (fail)
     go_wp2_with fail
     go_ret
     exact ⟨by rw [HX.out];rfl,_,by rw [World.drewN_drewN]⟩
   ·have HX:Hid (decide (a=b)=true):=by
     show _=_
     rw [decide_eq_true]
     exact List.ext_getElem HL.out (fun j h h'=>HA.out j h h' (by omega))
    go_wp2_with fail
    go_ret
    exact ⟨by rw [HX.out];rfl,_,rfl⟩
 ·have hl':((a.length:Int) != b.length)=true:=by simp;omega
  have HX:Hid (decide (a=b)=false):=by show _=_;rw [decide_eq_false];intro e;exact hl (by rw [e])
  clear hl
  go_enter Tryz.func11,Tryz.ntmps11
  go_wp2_with fail
  go_ret
  exact ⟨by rw [HX.out];rfl,0,rfl⟩
set_option maxRecDepth 100000 in
set_option maxHeartbeats 1000000 in
theorem lpLog_c (A:Option Addr) (c:Nat) (a:List Entry) (A':Option Addr) (c':Nat) (b:List Entry) (w:World) (hr:Rd w A c a) (hr':Rd w A' c' b) :
  Calls Tryz.prog 20 #[.slice A a.length c,.slice A' b.length c'] w fun e w'=>e=.returned (.bool (decide (a=b)))∧∃ n,w'=w.drewN n:=by
 have hm:a.length≤maxLen:=Nat.le_trans hr.1 hr.2.1
 unfold maxLen at hm
 have HR:=Lib.hid hr;have HR':=Lib.hid hr'
 clear hr hr'
 by_cases hl:a.length=b.length
 ·have hl':((a.length:Int) != b.length)=false:=by simp [hl]
  have HL:=Lib.hid hl
  have hml:b.length≤9223372036854775807:=by omega
  clear hl
  go_enter Tryz.func20,Tryz.ntmps20
  go_wp2_with fail
  go_loopg [5] a.length (fun gk i wr=>∃ (k n:Nat),wr=w.drewN n∧k≤a.length∧Hid (gk=a.length - k)∧i=.int .i64 k∧Hid (∀ j (h:j<a.length) (h':j<b.length),j<k→a[j]=b[j]))
  case atStart=>exact ⟨0,0,rfl,Nat.zero_le _,rfl,rfl,fun j _ _ h=>by omega⟩
  case round=>
   obtain ⟨k,n,rfl,hk,HK,rfl,HA⟩:=hrel
   by_cases hlt:k<a.length
   ·have hltb:k<b.length:=by have:=HL.out;omega
    obtain ⟨b1,o1,rfl,-,c0,c1,c2,c3,c4,c5,c6⟩:=ent_at HR.out k hlt
    obtain ⟨b2,o2,rfl,-,d0,d1,d2,d3,d4,d5,d6⟩:=ent_at HR'.out k hltb
    have hlt':(k:Int)<a.length:=by omega
    have hltb':(k:Int)<b.length:=by omega
    have hq:=neq_ent a[k] b[k]
    by_cases he:a[k]=b[k]
    ·rw [decide_eq_true he] at hq
     have HN:Hid (∀ j (h:j<a.length) (h':j<b.length),j<k+1→a[j]=b[j]):=fun j h h' hj=>by
      by_cases e:j=k
      ·subst e;exact he
      ·exact HA.out j h h' (by omega)
     clear he
     go_wp2_with fail
     go_quiet (fail)
     go_wp2_with fail
     go_roundg (a.length - (k+1))
     case measure=>have:=HK.out;omega
     case rel=>exact ⟨k+1,_,rfl,by omega,rfl,by go_num,HN.out⟩
    ·rw [decide_eq_false he] at hq
     have HX:Hid (decide (a=b)=false):=by show _=_;rw [decide_eq_false];intro e;subst e;exact he rfl
     clear he
     go_wp2_with fail
     go_quiet (fail)
     go_wp2_with fail
     go_ret
     exact ⟨by rw [HX.out];rfl,_,by rw [World.drewN_drewN]⟩
   ·have HX:Hid (decide (a=b)=true):=by
     show _=_
     rw [decide_eq_true]
     exact List.ext_getElem HL.out (fun j h h'=>HA.out j h h' (by omega))
    go_wp2_with fail
    go_ret
    exact ⟨by rw [HX.out];rfl,_,rfl⟩
 ·have hl':((a.length:Int) != b.length)=true:=by simp;omega
  have HX:Hid (decide (a=b)=false):=by show _=_;rw [decide_eq_false];intro e;exact hl (by rw [e])
  clear hl
  go_enter Tryz.func20,Tryz.ntmps20
  go_wp2_with fail
  go_ret
  exact ⟨by rw [HX.out];rfl,0,rfl⟩
open Go.RowKit
def clientEq (c d:Client):Bool:=decide (c.who=d.who)&&(decide (c.seen=d.seen)&&(decide (c.base=d.base)&&(decide (c.wait=d.wait)&&(decide (c.done=d.done)&&decide (c.made=d.made)))))
theorem clientEq_refl (c:Client):clientEq c c=true:=by simp [clientEq]
theorem clientEq_iff (c d:Client):clientEq c d=true↔c=d:=by
 obtain ⟨a1,a2,a3,a4,a5,a6⟩:=c
 obtain ⟨b1,b2,b3,b4,b5,b6⟩:=d
 simp [clientEq]
set_option maxRecDepth 100000 in
set_option maxHeartbeats 4000000 in
theorem lpClient_c (c d:Client) (v v':Value) (w:World) (h:CV w c v) (h':CV w d v') :
  Calls Tryz.prog 9 #[v,v'] w fun e w'=>e=.returned (.bool (clientEq c d))∧Ext w w':=by
 obtain ⟨A1,n1,A2,n2,rfl,h1,h2⟩:=h
 obtain ⟨B1,m1,B2,m2,rfl,g1,g2⟩:=h'
 have hX:=two_new w (oC c A1 n1 A2 n2) (oC d B1 m1 B2 m2)
 have hE0:Ext w ((w.alloc (oC c A1 n1 A2 n2)).alloc (oC d B1 m1 B2 m2)):=((Below.refl _ w).alloc (Nat.le_refl _) _).alloc (by rw [alloc_sz];omega) _
 have HRW:=Lib.hid (fun W=>lpRows_c A1 n1 c.base B1 m1 d.base W)
 have HLW:=Lib.hid (fun W=>lpLog_c A2 n2 c.wait B2 m2 d.wait W)
 have HE0:=Lib.hid hE0;have HX:=Lib.hid hX
 have H1:=Lib.hid h1;have H2:=Lib.hid h2;have G1:=Lib.hid g1;have G2:=Lib.hid g2
 have HK:Hid (clientEq c d=(decide (c.who=d.who)&&(decide (c.seen=d.seen)&&(decide (c.base=d.base)&&(decide (c.wait=d.wait)&&(decide (c.done=d.done)&&decide (c.made=d.made))))))):=rfl
 clear hX hE0 h1 h2 g1 g2
 by_cases k0:c.who=d.who
 rotate_left
 ·rw [decide_eq_false k0] at HK
  have kb0:(c.who == d.who)=false:=by simp [k0]
  have HK:Hid (clientEq c d=false):=by show _=_;rw [HK.out];simp
  clear k0
  go_enter Tryz.func9,Tryz.ntmps9
  go_wp2_with fail
  go_ret
  exact ⟨by rw [HK.out];rfl,HE0.out⟩
 rw [decide_eq_true k0] at HK
 have kb0:(c.who == d.who)=true:=by simp [k0]
 clear k0
 by_cases k1:c.seen=d.seen
 rotate_left
 ·rw [decide_eq_false k1] at HK
  have kb1:(c.seen == d.seen)=false:=by simp [k1]
  have HK:Hid (clientEq c d=false):=by show _=_;rw [HK.out];simp
  clear k1
  go_enter Tryz.func9,Tryz.ntmps9
  go_wp2_with fail
  go_ret
  exact ⟨by rw [HK.out];rfl,HE0.out⟩
 rw [decide_eq_true k1] at HK
 have kb1:(c.seen == d.seen)=true:=by simp [k1]
 clear k1
 by_cases k2:c.base=d.base
 rotate_left
 ·rw [decide_eq_false k2] at HK
  simp only [decide_eq_false k2] at HRW
  have HK:Hid (clientEq c d=false):=by show _=_;rw [HK.out];simp
  clear k2
  go_enter Tryz.func9,Tryz.ntmps9
  go_wp2_with fail
  refine (HRW.out _ (H1.out.ext HE0.out) (G1.out.ext HE0.out)).mono ?_;rintro e w1 ⟨rfl,q1,hw1⟩
  have hE1:Ext w w1:=by rw [hw1];exact Ext.drewN HE0.out _
  have hc1:=six_cells (W:=w1) (by rw [hw1];exact HX.out.1)
  have hd1:=six_cells (W:=w1) (by rw [hw1];exact HX.out.2)
  obtain ⟨c0,c1,c2,c3,c4,c5,cf⟩:=hc1
  obtain ⟨d0,d1,d2,d3,d4,d5,df⟩:=hd1
  have HE1:=Lib.hid hE1;have HX1:=Lib.hid (show w1.heap[w.heap.size]?=some (.cells (cC c A1 n1 A2 n2) 26 (0,0))∧w1.heap[w.heap.size+1]?=some (.cells (cC d B1 m1 B2 m2) 26 (0,0)) by rw [hw1];exact HX.out)
  clear hw1 hE1
  go_wp2_with fail
  go_ret
  exact ⟨by rw [HK.out];rfl,HE1.out⟩
 rw [decide_eq_true k2] at HK
 simp only [decide_eq_true k2] at HRW
 clear k2
 by_cases k3:c.wait=d.wait
 rotate_left
 ·rw [decide_eq_false k3] at HK
  simp only [decide_eq_false k3] at HLW
  have HK:Hid (clientEq c d=false):=by show _=_;rw [HK.out];simp
  clear k3
  go_enter Tryz.func9,Tryz.ntmps9
  go_wp2_with fail
  refine (HRW.out _ (H1.out.ext HE0.out) (G1.out.ext HE0.out)).mono ?_;rintro e w1 ⟨rfl,q1,hw1⟩
  have hE1:Ext w w1:=by rw [hw1];exact Ext.drewN HE0.out _
  have hc1:=six_cells (W:=w1) (by rw [hw1];exact HX.out.1)
  have hd1:=six_cells (W:=w1) (by rw [hw1];exact HX.out.2)
  obtain ⟨c0,c1,c2,c3,c4,c5,cf⟩:=hc1
  obtain ⟨d0,d1,d2,d3,d4,d5,df⟩:=hd1
  have HE1:=Lib.hid hE1;have HX1:=Lib.hid (show w1.heap[w.heap.size]?=some (.cells (cC c A1 n1 A2 n2) 26 (0,0))∧w1.heap[w.heap.size+1]?=some (.cells (cC d B1 m1 B2 m2) 26 (0,0)) by rw [hw1];exact HX.out)
  clear hw1 hE1
  go_wp2_with fail
  refine (HLW.out _ (H2.out.ext HE1.out) (G2.out.ext HE1.out)).mono ?_;rintro e w2 ⟨rfl,q2,hw2⟩
  have hE2:Ext w w2:=by rw [hw2];exact Ext.drewN HE1.out _
  have hc2:=six_cells (W:=w2) (by rw [hw2];exact HX1.out.1)
  have hd2:=six_cells (W:=w2) (by rw [hw2];exact HX1.out.2)
  clear c0 c1 c2 c3 c4 c5 cf d0 d1 d2 d3 d4 d5 df
  obtain ⟨c0,c1,c2,c3,c4,c5,cf⟩:=hc2
  obtain ⟨d0,d1,d2,d3,d4,d5,df⟩:=hd2
  have HE2:=Lib.hid hE2
  clear hw2 hE2
  go_wp2_with fail
  go_ret
  exact ⟨by rw [HK.out];rfl,HE2.out⟩
 rw [decide_eq_true k3] at HK
 simp only [decide_eq_true k3] at HLW
 clear k3
 by_cases k4:c.done=d.done
 rotate_left
 ·rw [decide_eq_false k4] at HK
  have kb4:(c.done == d.done)=false:=by simp [k4]
  have HK:Hid (clientEq c d=false):=by show _=_;rw [HK.out];simp
  clear k4
  go_enter Tryz.func9,Tryz.ntmps9
  go_wp2_with fail
  refine (HRW.out _ (H1.out.ext HE0.out) (G1.out.ext HE0.out)).mono ?_;rintro e w1 ⟨rfl,q1,hw1⟩
  have hE1:Ext w w1:=by rw [hw1];exact Ext.drewN HE0.out _
  have hc1:=six_cells (W:=w1) (by rw [hw1];exact HX.out.1)
  have hd1:=six_cells (W:=w1) (by rw [hw1];exact HX.out.2)
  obtain ⟨c0,c1,c2,c3,c4,c5,cf⟩:=hc1
  obtain ⟨d0,d1,d2,d3,d4,d5,df⟩:=hd1
  have HE1:=Lib.hid hE1;have HX1:=Lib.hid (show w1.heap[w.heap.size]?=some (.cells (cC c A1 n1 A2 n2) 26 (0,0))∧w1.heap[w.heap.size+1]?=some (.cells (cC d B1 m1 B2 m2) 26 (0,0)) by rw [hw1];exact HX.out)
  clear hw1 hE1
  go_wp2_with fail
  refine (HLW.out _ (H2.out.ext HE1.out) (G2.out.ext HE1.out)).mono ?_;rintro e w2 ⟨rfl,q2,hw2⟩
  have hE2:Ext w w2:=by rw [hw2];exact Ext.drewN HE1.out _
  have hc2:=six_cells (W:=w2) (by rw [hw2];exact HX1.out.1)
  have hd2:=six_cells (W:=w2) (by rw [hw2];exact HX1.out.2)
  clear c0 c1 c2 c3 c4 c5 cf d0 d1 d2 d3 d4 d5 df
  obtain ⟨c0,c1,c2,c3,c4,c5,cf⟩:=hc2
  obtain ⟨d0,d1,d2,d3,d4,d5,df⟩:=hd2
  have HE2:=Lib.hid hE2
  clear hw2 hE2
  go_wp2_with fail
  go_ret
  exact ⟨by rw [HK.out];rfl,HE2.out⟩
 rw [decide_eq_true k4] at HK
 have kb4:(c.done == d.done)=true:=by simp [k4]
 clear k4
 by_cases k5:c.made=d.made
 rotate_left
 ·rw [decide_eq_false k5] at HK
  have kb5:(c.made == d.made)=false:=by simp [k5]
  have HK:Hid (clientEq c d=false):=by show _=_;rw [HK.out];simp
  clear k5
  go_enter Tryz.func9,Tryz.ntmps9
  go_wp2_with fail
  refine (HRW.out _ (H1.out.ext HE0.out) (G1.out.ext HE0.out)).mono ?_;rintro e w1 ⟨rfl,q1,hw1⟩
  have hE1:Ext w w1:=by rw [hw1];exact Ext.drewN HE0.out _
  have hc1:=six_cells (W:=w1) (by rw [hw1];exact HX.out.1)
  have hd1:=six_cells (W:=w1) (by rw [hw1];exact HX.out.2)
  obtain ⟨c0,c1,c2,c3,c4,c5,cf⟩:=hc1
  obtain ⟨d0,d1,d2,d3,d4,d5,df⟩:=hd1
  have HE1:=Lib.hid hE1;have HX1:=Lib.hid (show w1.heap[w.heap.size]?=some (.cells (cC c A1 n1 A2 n2) 26 (0,0))∧w1.heap[w.heap.size+1]?=some (.cells (cC d B1 m1 B2 m2) 26 (0,0)) by rw [hw1];exact HX.out)
  clear hw1 hE1
  go_wp2_with fail
  refine (HLW.out _ (H2.out.ext HE1.out) (G2.out.ext HE1.out)).mono ?_;rintro e w2 ⟨rfl,q2,hw2⟩
  have hE2:Ext w w2:=by rw [hw2];exact Ext.drewN HE1.out _
  have hc2:=six_cells (W:=w2) (by rw [hw2];exact HX1.out.1)
  have hd2:=six_cells (W:=w2) (by rw [hw2];exact HX1.out.2)
  clear c0 c1 c2 c3 c4 c5 cf d0 d1 d2 d3 d4 d5 df
  obtain ⟨c0,c1,c2,c3,c4,c5,cf⟩:=hc2
  obtain ⟨d0,d1,d2,d3,d4,d5,df⟩:=hd2
  have HE2:=Lib.hid hE2
  clear hw2 hE2
  go_wp2_with fail
  go_ret
  exact ⟨by rw [HK.out];rfl,HE2.out⟩
 rw [decide_eq_true k5] at HK
 have kb5:(c.made == d.made)=true:=by simp [k5]
 clear k5
 have HK:Hid (clientEq c d=true):=by show _=_;rw [HK.out];rfl
 go_enter Tryz.func9,Tryz.ntmps9
 go_wp2_with fail
 refine (HRW.out _ (H1.out.ext HE0.out) (G1.out.ext HE0.out)).mono ?_;rintro e w1 ⟨rfl,q1,hw1⟩
 have hE1:Ext w w1:=by rw [hw1];exact Ext.drewN HE0.out _
 have hc1:=six_cells (W:=w1) (by rw [hw1];exact HX.out.1)
 have hd1:=six_cells (W:=w1) (by rw [hw1];exact HX.out.2)
 obtain ⟨c0,c1,c2,c3,c4,c5,cf⟩:=hc1
 obtain ⟨d0,d1,d2,d3,d4,d5,df⟩:=hd1
 have HE1:=Lib.hid hE1;have HX1:=Lib.hid (show w1.heap[w.heap.size]?=some (.cells (cC c A1 n1 A2 n2) 26 (0,0))∧w1.heap[w.heap.size+1]?=some (.cells (cC d B1 m1 B2 m2) 26 (0,0)) by rw [hw1];exact HX.out)
 clear hw1 hE1
 go_wp2_with fail
 refine (HLW.out _ (H2.out.ext HE1.out) (G2.out.ext HE1.out)).mono ?_;rintro e w2 ⟨rfl,q2,hw2⟩
 have hE2:Ext w w2:=by rw [hw2];exact Ext.drewN HE1.out _
 have hc2:=six_cells (W:=w2) (by rw [hw2];exact HX1.out.1)
 have hd2:=six_cells (W:=w2) (by rw [hw2];exact HX1.out.2)
 clear c0 c1 c2 c3 c4 c5 cf d0 d1 d2 d3 d4 d5 df
 obtain ⟨c0,c1,c2,c3,c4,c5,cf⟩:=hc2
 obtain ⟨d0,d1,d2,d3,d4,d5,df⟩:=hd2
 have HE2:=Lib.hid hE2
 clear hw2 hE2
 go_wp2_with fail
 go_ret
 exact ⟨by rw [HK.out];rfl,HE2.out⟩
open Go.RowKit Go.Lib
theorem clientEq_self (c:Client):clientEq c c=true:=by unfold clientEq;simp
section
variable {P:Program} {ops:Array Oper} {Q:Exit→Act→World→Prop} {md:Region.Mode} {S:World→Prop} {n:Nat}
theorem WB.takeD {i:Nat} {d:Option Nat} {oi:Oper} {v:Value} {k:Nat} {l:Array Bool} {a:Act} {w:World} (hi:ops[i]?=some oi) (hd:oi.dst=d)
  (hs:Region.noSelect ops=true) (hf:Region.free md ops l i=true) (hr:(Region.ready md ops l).contains i=true) (hl:(waitB md ops n i&&(n != i&&!(l.getD n true)))=true)
  (hQ:∀ c a w,Q (.panic c) (a.put oi.dst v) w→Q (.panic c) a w) (hS:S w) (hy:YieldsIf P ops S oi v a)
  (h:WB P md ops Q S n k (l.setIfInBounds i true) (a.put d v) w):WB P md ops Q S n (k+1) l a w:=by
 subst hd;exact WB.take hi hs hf hr hl hQ hS hy h
theorem WB.takePD {i:Nat} {d:Option Nat} {oi:Oper} {v:Value} {k:Nat} {l:Array Bool} {a:Act} {w:World} (hi:ops[i]?=some oi) (hd:oi.dst=d)
  (hs:Region.noSelect ops=true) (hf:Region.free md ops l i=true) (hr:(Region.ready md ops l).contains i=true) (hl:(n != i)=true)
  (hQ:∀ c a w,Q (.panic c) (a.put oi.dst v) w→Q (.panic c) a w) (hS:S w) (hy:YieldsIf P ops (fun _=>True) oi v a)
  (h:WB P md ops Q S n k (l.setIfInBounds i true) (a.put d v) w):WB P md ops Q S n (k+1) l a w:=by
 subst hd;exact WB.takeP hi hs hf hr hl hQ hS hy h
end
end Go.Proofs.YtecmcjfdaipfcaaGreatDoor
