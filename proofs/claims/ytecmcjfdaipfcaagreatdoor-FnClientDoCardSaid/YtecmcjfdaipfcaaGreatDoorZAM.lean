/- Walks of the reference: the log. .. Walks of the reference's draws: a number of a row, a text. -/
import Derived.Test.YtecmcjfdaipfcaaGreatDoorZAL
import Derived.Test.YtecmcjfdaipfcaaGreatDoorZAJ
import Derived.BigRegion
import Derived.Deep.RegionLaw
import Derived.Laws.StructEq
import Derived.Test.YtecmcjfdaipfcaaGreatDoorZAI
import Derived.Test.YtecmcjfdaipfcaaGreatDoorZAA
import Derived.Deep.QuietTactic
import Derived.BigQuiet
import Derived.Laws.Bits64
namespace Go.Proofs.YtecmcjfdaipfcaaGreatDoor
open Go.RowKit Go.Lib
set_option linter.unusedVariables false
theorem eq_ent (a b:Entry) (W:World):(binOp .eql 35 (.agg (cN a)) (.agg (cN b))).run Tryz.prog W=.ok (.bool (decide (a=b))) W:=by
 have u1:=Tryz.underlying35
 have u2:=Tryz.underlying28
 by_cases h:a=b
 ·subst h
  go_simp
 ·rw [decide_eq_false h]
  go_simp
  by_cases e1:a.who=b.who
  ·by_cases e2:a.seq=b.seq
   ·by_cases e3:a.op.kind=b.op.kind
    ·by_cases e4:a.op.id=b.op.id
     ·by_cases e5:a.op.up=b.op.up
      ·by_cases e6:a.op.pos=b.op.pos
       ·have e7:¬a.op.text.toList=b.op.text.toList:=fun e7=>h (ent_ext e1 e2 e3 e4 e5 e6 e7)
        simp [e1,e2,e3,e4,e5,e6,e7]
       ·simp [e1,e2,e3,e4,e5,e6]
      ·simp [e1,e2,e3,e4,e5]
     ·simp [e1,e2,e3,e4]
    ·simp [e1,e2,e3]
   ·simp [e1,e2]
  ·simp [e1]
set_option maxRecDepth 100000 in
set_option maxHeartbeats 2000000 in
theorem has_s (A:Option Addr) (c:Nat) (l:List Entry) (e:Entry) (w:World) (hr:Rd w A c l) :
  Calls Tryz.prog 101 #[.slice A l.length c,.agg (cN e)] w fun x w'=>x=.returned (.bool (decide (e∈l)))∧Ext w w':=by
 have hm:l.length≤maxLen:=Nat.le_trans hr.1 hr.2.1
 unfold maxLen at hm
 have HR:=Lib.hid hr
 have HE0:Hid (Ext w (w.alloc (oN e))):=(Below.refl _ w).alloc (Nat.le_refl _) _
 have HX0:=Lib.hid (World.alloc_heap_new w (oN e))
 clear hr
 go_enter Tryz.func101,Tryz.ntmps101
 go_wp2_with fail
 generalize (w.alloc (oN e))=W0 at *
 go_loopg [5] l.length (fun gk i wr=>∃ k:Nat,k≤l.length∧Hid (gk=l.length - k)∧i=.int .i64 k∧Hid (∀ j (hj:j<l.length),j<k→l[j]≠e)∧Hid (Ext W0 wr))
 case atStart=>exact ⟨0,Nat.zero_le _,rfl,rfl,fun j _ h=>by omega,Below.refl _ _⟩
 case round=>
  obtain ⟨k,hk,HK,rfl,HG,HB⟩:=hrel
  have hB2:=HE0.out.trans (HB.out.mono HE0.out.size)
  have HB2:=Lib.hid hB2
  by_cases hlt:k<l.length
  ·obtain ⟨b,off,rfl,hbl,c0,c1,c2,c3,c4,c5,c6⟩:=ent_at (HR.out.ext hB2) k hlt
   obtain ⟨d0,d1,d2,d3,d4,d5,d6,df⟩:=seven_cells ((HB.out.block w.heap.size (blk_lt HX0.out)).trans HX0.out)
   have hli:(k:Int)<l.length:=by omega
   have heq:=eq_ent l[k] e
   clear hB2
   by_cases he:l[k]=e
   ·have HY:Hid (decide (e∈l)=true):=by show _=_;rw [decide_eq_true_eq,←he];exact List.getElem_mem hlt
    rw [decide_eq_true he] at heq
    clear he
    go_wp2_with fail
    go_region
    go_wp2_with fail
    go_ret
    exact ⟨by rw [HY.out];rfl,Below.drew HB2.out⟩
   ·have HNE:=Lib.hid he
    rw [decide_eq_false he] at heq
    clear he
    go_wp2_with fail
    go_region
    go_wp2_with fail
    go_roundg (l.length - (k+1))
    case measure=>have:=HK.out;omega
    case rel=>
     refine ⟨k+1,by omega,rfl,by go_num,Lib.hid (fun j hj hjk=>?_),Below.drew HB.out⟩
     rcases Nat.lt_or_eq_of_le (Nat.le_of_lt_succ hjk) with h | h
     ·exact HG.out j hj h
     ·subst h;exact HNE.out
  ·have HN:Hid (decide (e∈l)=false):=by
    show _=_
    rw [decide_eq_false_iff_not]
    intro h
    obtain ⟨j,hj,h9⟩:=List.getElem_of_mem h
    exact HG.out j hj (by omega) h9
   have hli:¬((k:Int)<l.length):=by omega
   clear hB2
   go_wp2_with fail
   go_ret
   exact ⟨by rw [HN.out];rfl,HB2.out⟩
structure TwoApp {α:Type} [Flat α] (e s:TypeId) (W:World) (A:Option Addr) (c:Nat) (l:List α) (x:α) (cs:Array Value):Prop where
 a:∃ v1 w1 v w',(Builtin.append_ #[s,s] s #[.slice (some ⟨W.heap.size,0,none⟩) 0 0,.slice A l.length c]).run Tryz.prog (W.alloc (.cells #[] e)).drew=.ok v1 w1∧(Builtin.append_ #[s,s] s #[v1,.slice (some ⟨w1.heap.size,0,none⟩) 1 1]).run Tryz.prog (w1.alloc (.cells cs e))=.ok v w'∧Own e w' W.heap.size v (l++[x])∧Ext W w'∧Ext W w1
 b:∃ v1 w1 v w',(Builtin.append_ #[s,s] s #[.slice (some ⟨W.heap.size,0,none⟩) 0 0,.slice A l.length c]).run Tryz.prog ((W.alloc (.cells #[] e)).alloc (.cells cs e)).drew=.ok v1 w1∧(Builtin.append_ #[s,s] s #[v1,.slice (some ⟨W.heap.size+1,0,none⟩) 1 1]).run Tryz.prog w1=.ok v w'∧Own e w' W.heap.size v (l++[x])∧Ext W w'
 c:∃ v1 w1 v w',(Builtin.append_ #[s,s] s #[.slice (some ⟨W.heap.size+1,0,none⟩) 0 0,.slice A l.length c]).run Tryz.prog ((W.alloc (.cells cs e)).alloc (.cells #[] e)).drew=.ok v1 w1∧(Builtin.append_ #[s,s] s #[v1,.slice (some ⟨W.heap.size,0,none⟩) 1 1]).run Tryz.prog w1=.ok v w'∧Own e w' W.heap.size v (l++[x])∧Ext W w'
theorem two_app {α:Type} [Flat α] {e s:TypeId} (E:El α e s) (W:World) (A:Option Addr) (c:Nat) (l:List α) (x:α) (cs:Array Value) (hr:Rd W A c l) (hx:Flat.okE x) (hc:cs.toList=Flat.enc x) (hl:l.length<1000000):TwoApp e s W A c l x cs:=by
 have hd:Ext W W.drew:=(Below.refl _ W).drew
 refine ⟨?_,?_,?_⟩
 ·have hEa:Ext W (W.alloc (.cells #[] e)).drew:=((Below.refl _ W).alloc (Nat.le_refl _) _).drew
  obtain ⟨v1,w1,h1,o1,g1⟩:=app_at E ((own_made (e:=e) (α:=α) W W.heap.size (Nat.le_refl _)).below (Below.refl _ _).drew) (hr.ext hEa) (by simp;omega) (by show W.heap.size≤(W.alloc (.cells #[] e)).heap.size;rw [alloc_sz];omega)
  rw [List.nil_append] at o1
  have hE1:Ext W w1:=ext_grown hEa g1 (by show W.heap.size≤(W.alloc (.cells #[] e)).heap.size;rw [alloc_sz];omega) (fun k hk=>by simp only [Value.ownBlock,Option.some.injEq] at hk;omega)
  obtain ⟨v,w',h2,o2,g2⟩:=app_one E o1 x hx hl hE1.size cs hc
  exact ⟨v1,w1,v,w',h1,h2,o2,o1.over_one hE1 g2 (Nat.le_refl _) hE1.size,hE1⟩
 ·have hEb:Ext W ((W.alloc (.cells #[] e)).alloc (.cells cs e)).drew:=(((Below.refl _ W).alloc (Nat.le_refl _) _).alloc (by rw [alloc_sz];omega) _).drew
  have hsz:((W.alloc (.cells #[] e)).alloc (.cells cs e)).drew.heap.size=W.heap.size+2:=by show ((W.alloc (.cells #[] e)).alloc (.cells cs e)).heap.size=_;rw [alloc_sz,alloc_sz]
  have hbx:Rd ((W.alloc (.cells #[] e)).alloc (.cells cs e)).drew (some ⟨W.heap.size+1,0,none⟩) 1 [x]:=by
   have h:=rd_box (W.alloc (.cells #[] e)) x hx cs hc e
   rw [alloc_sz] at h
   exact h.ext (Below.refl _ _).drew
  have o0:Own e ((W.alloc (.cells #[] e)).alloc (.cells cs e)).drew W.heap.size (.slice (some ⟨W.heap.size,0,none⟩) 0 0) ([]:List α):=(own_made (e:=e) (α:=α) W W.heap.size (Nat.le_refl _)).below (((Below.refl _ _).alloc (Nat.le_refl _) _).drew)
  obtain ⟨v1,w1,h1,o1,g1⟩:=app_at E o0 (hr.ext hEb) (by simp;omega) (by omega)
  rw [List.nil_append] at o1
  have hE1:Ext W w1:=ext_grown hEb g1 (by omega) (fun k hk=>by simp only [Value.ownBlock,Option.some.injEq] at hk;omega)
  have hb1:=hbx.grown g1 (fun b off e=>by injection e with e;injection e with e1 _;simp only [Value.ownBlock,ne_eq,Option.some.injEq];omega)
  have h2:=app_at E o1 hb1 (by simp;omega) hE1.size
  rw [List.length_singleton] at h2
  obtain ⟨v,w',h2,o2,g2⟩:=h2
  exact ⟨v1,w1,v,w',h1,h2,o2,o1.over hE1 g2 (Nat.le_refl _) hE1.size⟩
 ·have hEc:Ext W ((W.alloc (.cells cs e)).alloc (.cells #[] e)).drew:=(((Below.refl _ W).alloc (Nat.le_refl _) _).alloc (by rw [alloc_sz];omega) _).drew
  have hsz:((W.alloc (.cells cs e)).alloc (.cells #[] e)).drew.heap.size=W.heap.size+2:=by show ((W.alloc (.cells cs e)).alloc (.cells #[] e)).heap.size=_;rw [alloc_sz,alloc_sz]
  have hbx:Rd ((W.alloc (.cells cs e)).alloc (.cells #[] e)).drew (some ⟨W.heap.size,0,none⟩) 1 [x]:=(rd_box W x hx cs hc e).ext (((Below.refl _ _).alloc (Nat.le_refl _) _).drew)
  have o0:Own e ((W.alloc (.cells cs e)).alloc (.cells #[] e)).drew W.heap.size (.slice (some ⟨W.heap.size+1,0,none⟩) 0 0) ([]:List α):=by
   have h:=own_made (e:=e) (α:=α) (W.alloc (.cells cs e)) W.heap.size (by rw [alloc_sz];omega)
   rw [alloc_sz] at h
   exact h.below (Below.refl _ _).drew
  obtain ⟨v1,w1,h1,o1,g1⟩:=app_at E o0 (hr.ext hEc) (by simp;omega) (by omega)
  rw [List.nil_append] at o1
  have hE1:Ext W w1:=ext_grown hEc g1 (by omega) (fun k hk=>by simp only [Value.ownBlock,Option.some.injEq] at hk;omega)
  have hb1:=hbx.grown g1 (fun b off e=>by injection e with e;injection e with e1 _;simp only [Value.ownBlock,ne_eq,Option.some.injEq];omega)
  have h2:=app_at E o1 hb1 (by simp;omega) hE1.size
  rw [List.length_singleton] at h2
  obtain ⟨v,w',h2,o2,g2⟩:=h2
  exact ⟨v1,w1,v,w',h1,h2,o2,o1.over hE1 g2 (Nat.le_refl _) hE1.size⟩
theorem at_world {P:Program} {o:Oper} {a:Act} {K:Act→World→Prop} {Q:Exit→Act→World→Prop} {E c:Prop} [Decidable c] (w:World) (h:if c then Oper.wp P o a w K Q else E):if c then Oper.wp P o a w K Q else E:=h
def addS (l:List Entry) (e:Entry):List Entry × Int:=if e∈l then (l,0) else if e.seq≠cntW l e.who+1∨40≤l.length then (l,-1) else (l++[e],1)
set_option maxRecDepth 100000 in
set_option maxHeartbeats 4000000 in
theorem add_s (A:Option Addr) (c:Nat) (l:List Entry) (e:Entry) (w:World) (hr:RdT 35 w A c l) (he:e.op.text.size≤maxLen) (hl:l.length≤1000) :
  Calls Tryz.prog 163 #[.slice A l.length c,.agg (cN e)] w fun x w'=>∃ A' c',x=.returned (.tuple #[.slice A' (addS l e).1.length c',.int .i64 (addS l e).2])∧RdT 35 w' A' c' (addS l e).1∧Ext w w':=by
 have HR:=Lib.hid hr
 have HE0:Hid (Ext w (w.alloc (oN e))):=(Below.refl _ w).alloc (Nat.le_refl _) _
 have HX0:=Lib.hid (World.alloc_heap_new w (oN e))
 have hcl:cntW l e.who≤l.length:=cntW_le l e.who
 clear hr
 go_enter Tryz.func163,Tryz.ntmps163
 go_wp2_with fail
 generalize (w.alloc (oN e))=W0 at *
 refine (seq_s A c l e.who W0 (HR.out.1.ext HE0.out)).mono ?_
 rintro x w1 ⟨rfl,hw1⟩
 rw [hw1];clear hw1
 obtain ⟨d0,d1,d2,d3,d4,d5,d6,df⟩:=seven_cells HX0.out
 go_wp2_with fail
 refine (has_s A c l e W0 (HR.out.1.ext HE0.out)).mono ?_
 rintro x w2 ⟨rfl,hb2⟩
 have HE2:=Lib.hid (HE0.out.trans (hb2.mono HE0.out.size))
 have HX2:=Lib.hid ((hb2.block w.heap.size (blk_lt HX0.out)).trans HX0.out)
 clear hb2 d0 d1 d2 d3 d4 d5 d6 df
 obtain ⟨d0,d1,d2,d3,d4,d5,d6,df⟩:=seven_cells HX2.out
 by_cases hmem:e∈l
 ·have HRES:Hid (addS l e=(l,0)):=by show _=_;unfold addS;rw [if_pos hmem]
  rw [decide_eq_true hmem]
  clear hmem
  go_wp2_with fail
  go_ret2
  exact ⟨A,c,by rw [HRES.out];rfl,by rw [HRES.out];exact HR.out.ext HE2.out,HE2.out⟩
 rw [decide_eq_false hmem]
 have HM:=Lib.hid hmem
 clear hmem
 by_cases hseq:e.seq=cntW l e.who+1
 ·have hs':(e.seq != (cntW l e.who:Int)+1)=false:=by simp [hseq]
  have HSQ:=Lib.hid hseq
  clear hseq
  by_cases hlen:40≤l.length
  ·have HRES:Hid (addS l e=(l,-1)):=by show _=_;unfold addS;rw [if_neg HM.out,if_pos (.inr hlen)]
   have hlen':(40:Int)≤l.length:=by omega
   go_wp2_with fail
   go_ret2
   exact ⟨A,c,by rw [HRES.out];rfl,by rw [HRES.out];exact HR.out.ext HE2.out,HE2.out⟩
  ·have HRES:Hid (addS l e=(l++[e],1)):=by show _=_;unfold addS;rw [if_neg HM.out,if_neg (fun h=>h.elim (fun h=>h HSQ.out) hlen)]
   have hlen':¬((40:Int)≤l.length):=by omega
   have hTA:=two_app el_ent w2 A c l e (cN e) (HR.out.1.ext HE2.out) he rfl (by omega)
   obtain ⟨v1,w3,v,w',ra1,ra2,ra3,ra4,ra5⟩:=hTA.a
   obtain ⟨z0,z1,z2,z3,z4,z5,z6,zf⟩:=seven_cells ((ra5.block w.heap.size (blk_lt HX2.out)).trans HX2.out)
   have hltw:=blk_lt HX2.out
   obtain ⟨x1,y3,x,y',rb1,rb2,rb3,rb4⟩:=hTA.b
   obtain ⟨p1,q3,p,q',rc1,rc2,rc3,rc4⟩:=hTA.c
   have fin:∀ (z:Value) (W:World),Own 35 W w2.heap.size z (l++[e])→Ext w2 W→∃ A' c',Ending.returned (.tuple #[z,.int .i64 1])=Ending.returned (.tuple #[.slice A' (addS l e).1.length c',.int .i64 (addS l e).2])∧RdT 35 W A' c' (addS l e).1∧Ext w W:=fun z W ho hb=>by
    obtain ⟨A',c',rfl,hr⟩:=ho.rd
    exact ⟨A',c',by rw [HRES.out],by rw [HRES.out];exact ho.rdT,HE2.out.trans (hb.mono HE2.out.size)⟩
   have FIN:=Lib.hid fin;have RA3:=Lib.hid ra3;have RA4:=Lib.hid ra4;have RB3:=Lib.hid rb3;have RB4:=Lib.hid rb4;have RC3:=Lib.hid rc3;have RC4:=Lib.hid rc4
   clear hTA fin ra3 ra4 ra5 rb3 rb4 rc3 rc4
   go_wp2_with fail
   go_region_law (first
    |((with_reducible refine at_world ((w2.alloc (.cells #[] 35)).drew) ?_);refine step_append_run rfl _ _ _ rfl rfl rfl ra1 ?_)
    |((with_reducible refine at_world (w3.alloc (oN e)) ?_);refine step_append_run rfl _ _ _ rfl rfl rfl ra2 ?_)
    |((with_reducible refine at_world (((w2.alloc (.cells #[] 35)).alloc (oN e)).drew) ?_);refine step_append_run rfl _ _ _ rfl rfl rfl rb1 ?_)
    |((with_reducible refine at_world y3 ?_);refine step_append_run rfl _ _ _ rfl rfl rfl rb2 ?_)
    |((with_reducible refine at_world (((w2.alloc (oN e)).alloc (.cells #[] 35)).drew) ?_);refine step_append_run rfl _ _ _ rfl rfl rfl rc1 ?_)
    |((with_reducible refine at_world q3 ?_);refine step_append_run rfl _ _ _ rfl rfl rfl rc2 ?_))
   all_goals
    go_wp2_with fail
    go_ret2
    first
     |(clear RB3 RB4 RC3 RC4 rb2 rc2 y' q';exact FIN.out _ _ RA3.out RA4.out)
     |(clear RA3 RA4 RC3 RC4 ra2 rc2 w' q';exact FIN.out _ _ RB3.out RB4.out)
     |(clear RA3 RA4 RB3 RB4 ra2 rb2 w' y';exact FIN.out _ _ RC3.out RC4.out)
 ·have hs':(e.seq != (cntW l e.who:Int)+1)=true:=by simp [hseq]
  have HRES:Hid (addS l e=(l,-1)):=by show _=_;unfold addS;rw [if_neg HM.out,if_pos (.inl hseq)]
  clear hseq
  go_wp2_with fail
  go_ret2
  exact ⟨A,c,by rw [HRES.out];rfl,by rw [HRES.out];exact HR.out.ext HE2.out,HE2.out⟩
open Go.RowKit Go.Lib
theorem tri_cells {W:World} {b:Nat} {v0 v1 v2:Value} {ty:TypeId} (h:W.heap[b]?=some (.cells #[v0,v1,v2] ty (0,0))) :
  W.cell? ⟨b,0,none⟩=some v0∧W.cell? ⟨b,1,none⟩=some v1∧W.cell? ⟨b,2,none⟩=some v2∧∀ o,W.frozen? ⟨b,o,none⟩=false:=by
 refine ⟨by simp [World.cell?,h],by simp [World.cell?,h],by simp [World.cell?,h],fun o=>by simp [World.frozen?,h]⟩
theorem tri_set {W:World} {b:Nat} {a0 a1 a2 v0 v1 v2:Value} {ty:TypeId} (h:W.heap[b]?=some (.cells #[a0,a1,a2] ty (0,0))) :
  (((W.setCell ⟨b,0,none⟩ v0).setCell ⟨b,1,none⟩ v1).setCell ⟨b,2,none⟩ v2).heap[b]?=some (.cells #[v0,v1,v2] ty (0,0)):=set_at (v:=v2) (i:=2) (set_at (v:=v1) (i:=1) (set_at (v:=v0) (i:=0) h))
set_option maxRecDepth 100000 in
set_option maxHeartbeats 2000000 in
theorem scopy_s (L:Option Addr) (ln:Nat) (l:List Entry) (safe:Int) (up:Bool) (w:World) (hr:RdT 35 w L ln l) (hl:l.length≤1000) :
  Calls Tryz.prog 156 #[.agg #[.slice L l.length ln,.int .i64 safe,.bool up]] w fun x w'=>∃ L' n',x=.returned (.agg #[.slice L' l.length n',.int .i64 safe,.bool up])∧RdT 35 w' L' n' l∧Ext w w':=by
 have hr0:Rd w L ln l:=hr.1
 have hX:=two_new w (.cells #[.slice L l.length ln,.int .i64 safe,.bool up] 58) (.cells #[.slice none 0 0,.int .i64 0,.bool false] 58)
 have hE0:Ext w ((w.alloc (.cells #[.slice L l.length ln,.int .i64 safe,.bool up] 58)).alloc (.cells #[.slice none 0 0,.int .i64 0,.bool false] 58)):=((Below.refl _ w).alloc (Nat.le_refl _) _).alloc (by rw [alloc_sz];omega) _
 have hs0:((w.alloc (.cells #[.slice L l.length ln,.int .i64 safe,.bool up] 58)).alloc (.cells #[.slice none 0 0,.int .i64 0,.bool false] 58)).heap.size=w.heap.size+2:=by rw [alloc_sz,alloc_sz]
 obtain ⟨v3,w3,hrun,hown3,hg3⟩:=app_at el_ent (own_made (e:=35) (α:=Entry) ((w.alloc (.cells #[.slice L l.length ln,.int .i64 safe,.bool up] 58)).alloc (.cells #[.slice none 0 0,.int .i64 0,.bool false] 58)) (w.heap.size+2) (by omega)) ((hr0.ext hE0).alloc (.cells #[] 35)) (by simp;omega) (by rw [alloc_sz];omega)
 have hs3:=hg3.size
 rw [alloc_sz,hs0] at hs3
 have hE3:=ext_grown (hE0.alloc (by omega) (.cells #[] 35)) hg3 (by rw [alloc_sz];omega) (fun k hk=>by simp only [Value.ownBlock,Option.some.injEq] at hk;omega)
 have hx3:=(hg3.block w.heap.size (by rw [alloc_sz];omega) (fun e=>by simp only [Value.ownBlock,Option.some.injEq] at e;omega)).trans ((Below.heap_alloc _ (.cells #[] 35) w.heap.size (by omega)).trans hX.1)
 have hy3:=(hg3.block (w.heap.size+1) (by rw [alloc_sz];omega) (fun e=>by simp only [Value.ownBlock,Option.some.injEq] at e;omega)).trans ((Below.heap_alloc _ (.cells #[] 35) (w.heap.size+1) (by omega)).trans hX.2)
 rw [List.nil_append] at hown3
 obtain ⟨A3,n3,hv3,hr3⟩:=hown3.rd
 skip
 subst hv3
 have HO3:=Lib.hid hown3;have HE3:=Lib.hid hE3;have HX3:=Lib.hid hx3;have HY3:=Lib.hid hy3
 simp only [alloc_sz] at hrun
 obtain ⟨c0,c1,c2,cf⟩:=tri_cells hx3
 obtain ⟨d0,d1,d2,df⟩:=tri_cells hX.1
 have hlt1:w.heap.size<w3.heap.size:=by omega
 have hlt2:w.heap.size+1<w3.heap.size:=by omega
 obtain ⟨e0,e1,e2,ef⟩:=tri_cells hy3
 clear hX hE0 hs0 hr0 hown3 hr3 hg3 hE3 hx3 hy3
 go_enter Tryz.func156,Tryz.ntmps156
 go_wp2_with (at_builtin;refine wpList_append_run rfl _ _ _ rfl rfl rfl hrun ?_)
 have hz:=tri_set (v0:=.slice A3 l.length n3) (v1:=.int .i64 safe) (v2:=.bool up) ((setx (o:=0) (v:=.slice A3 l.length n3) (b:=w.heap.size) (by omega)).trans HY3.out)
 obtain ⟨k0,k1,k2,kf⟩:=tri_cells hz
 refine bodyPost_ret (v:=.agg #[.slice A3 l.length n3,.int .i64 safe,.bool up]) ?_ rfl ?_
 ·simp [results,Tryz.f156,go_sem,k0,k1,k2]
 ·refine ⟨A3,n3,rfl,?_,?_⟩
  ·exact (((HO3.out.rdT.set HX3.out (by decide) _ _).set ((setx (by omega)).trans HY3.out) (by decide) _ _).set (set_at ((setx (by omega)).trans HY3.out)) (by decide) _ _).set (set_at (set_at ((setx (by omega)).trans HY3.out))) (by decide) _ _
  ·exact (((HE3.out.setCell (Nat.le_refl _) _).setCell (Nat.le_succ _) _).setCell (Nat.le_succ _) _).setCell (Nat.le_succ _) _
set_option maxRecDepth 100000 in
set_option maxHeartbeats 2000000 in
theorem fall_s (L:Option Addr) (ln:Nat) (l:List Entry) (safe:Int) (up:Bool) (left:Int) (w:World) (hr:RdT 35 w L ln l) (hl:l.length≤1000) (h0:0≤safe) (h1:safe≤100) (h2:0≤left) (h3:left≤100) :
  Calls Tryz.prog 154 #[.agg #[.slice L l.length ln,.int .i64 safe,.bool up],.int .i64 left] w fun x w'=>∃ L' n',x=.returned (.agg #[.slice L' (l.take (min (l.length:Int) (safe+left)).toNat).length n',.int .i64 safe,.bool up])∧RdT 35 w' L' n' (l.take (min (l.length:Int) (safe+left)).toNat)∧Ext w w':=by
 have hr0:Rd w L ln l:=hr.1
 have hX:=two_new w (.cells #[.slice L l.length ln,.int .i64 safe,.bool up] 58) (.cells #[.slice none 0 0,.int .i64 0,.bool false] 58)
 have hE0:Ext w ((w.alloc (.cells #[.slice L l.length ln,.int .i64 safe,.bool up] 58)).alloc (.cells #[.slice none 0 0,.int .i64 0,.bool false] 58)):=((Below.refl _ w).alloc (Nat.le_refl _) _).alloc (by rw [alloc_sz];omega) _
 have hs0:((w.alloc (.cells #[.slice L l.length ln,.int .i64 safe,.bool up] 58)).alloc (.cells #[.slice none 0 0,.int .i64 0,.bool false] 58)).heap.size=w.heap.size+2:=by rw [alloc_sz,alloc_sz]
 obtain ⟨k,hk⟩:∃ k:Nat,k=(min (l.length:Int) (safe+left)).toNat:=⟨_,rfl⟩
 have hmin:min (l.length:Int) (safe+left)=(k:Int):=by omega
 have hkl:k≤l.length:=by omega
 have hsl:=fun (W:World)=>run_head el_ent L l.length ln k (by have:=hr0.1;omega) W
 have hszr:Flat.sz Entry=7:=rfl
 have hrh:=(hr0.ext hE0).head k
 simp only [hszr] at hsl hrh
 generalize fromA L ln 0 7=L7 at hsl hrh
 have hlk:(l.take k).length=k:=by rw [List.length_take];omega
 rw [←hk]
 obtain ⟨T,hT⟩:∃ T,T=l.take k:=⟨_,rfl⟩
 rw [←hT] at hrh hlk ⊢
 obtain ⟨v3,w3,hrun,hown3,hg3⟩:=app_at el_ent (own_made (e:=35) (α:=Entry) ((w.alloc (.cells #[.slice L l.length ln,.int .i64 safe,.bool up] 58)).alloc (.cells #[.slice none 0 0,.int .i64 0,.bool false] 58)) (w.heap.size+2) (by omega)) (hrh.alloc (.cells #[] 35)) (by simp;omega) (by rw [alloc_sz];omega)
 rw [hlk] at hrun
 rw [hlk]
 clear hT hk
 have hs3:=hg3.size
 rw [alloc_sz,hs0] at hs3
 have hE3:=ext_grown (hE0.alloc (by omega) (.cells #[] 35)) hg3 (by rw [alloc_sz];omega) (fun k hk=>by simp only [Value.ownBlock,Option.some.injEq] at hk;omega)
 have hx3:=(hg3.block w.heap.size (by rw [alloc_sz];omega) (fun e=>by simp only [Value.ownBlock,Option.some.injEq] at e;omega)).trans ((Below.heap_alloc _ (.cells #[] 35) w.heap.size (by omega)).trans hX.1)
 have hy3:=(hg3.block (w.heap.size+1) (by rw [alloc_sz];omega) (fun e=>by simp only [Value.ownBlock,Option.some.injEq] at e;omega)).trans ((Below.heap_alloc _ (.cells #[] 35) (w.heap.size+1) (by omega)).trans hX.2)
 rw [List.nil_append] at hown3
 obtain ⟨A3,n3,hv3,hr3⟩:=hown3.rd
 rw [hlk] at hv3
 subst hv3
 have HO3:=Lib.hid hown3;have HE3:=Lib.hid hE3;have HX3:=Lib.hid hx3;have HY3:=Lib.hid hy3
 simp only [alloc_sz] at hrun
 obtain ⟨c0,c1,c2,cf⟩:=tri_cells hx3
 obtain ⟨d0,d1,d2,df⟩:=tri_cells hX.1
 have hlt1:w.heap.size<w3.heap.size:=by omega
 have hlt2:w.heap.size+1<w3.heap.size:=by omega
 obtain ⟨e0,e1,e2,ef⟩:=tri_cells hy3
 clear hX hE0 hs0 hr0 hown3 hr3 hg3 hE3 hx3 hy3
 go_enter Tryz.func154,Tryz.ntmps154
 go_wp2_with (at_builtin;refine wpList_append_run rfl _ _ _ rfl rfl rfl hrun ?_)
 have hz:=tri_set (v0:=.slice A3 k n3) (v1:=.int .i64 safe) (v2:=.bool up) ((setx (o:=0) (v:=.slice A3 k n3) (b:=w.heap.size) (by omega)).trans HY3.out)
 obtain ⟨k0,k1,k2,kf⟩:=tri_cells hz
 refine bodyPost_ret (v:=.agg #[.slice A3 k n3,.int .i64 safe,.bool up]) ?_ rfl ?_
 ·simp [results,Tryz.f154,go_sem,k0,k1,k2]
 ·refine ⟨A3,n3,rfl,?_,?_⟩
  ·exact (((HO3.out.rdT.set HX3.out (by decide) _ _).set ((setx (by omega)).trans HY3.out) (by decide) _ _).set (set_at ((setx (by omega)).trans HY3.out)) (by decide) _ _).set (set_at (set_at ((setx (by omega)).trans HY3.out))) (by decide) _ _
  ·exact (((HE3.out.setCell (Nat.le_refl _) _).setCell (Nat.le_succ _) _).setCell (Nat.le_succ _) _).setCell (Nat.le_succ _) _
open Go.RowKit Go.Lib
def srvS (l:List Entry) (up:Bool) (e:Entry):List Entry × Bool:=if up=true∧(addS l e).2=1 then ((addS l e).1,true) else (l,false)
theorem srvS_ok {l:List Entry} {up:Bool} {e:Entry} (hl:l.length≤40) (hall:∀ x∈l,entryOk x=true) (he:entryOk e=true):(srvS l up e).1.length≤40∧l.length≤(srvS l up e).1.length∧∀ x∈(srvS l up e).1,entryOk x=true:=by
 unfold srvS
 split
 ·rename_i h
  unfold addS at h ⊢
  split
  ·exact ⟨hl,Nat.le_refl _,hall⟩
  ·split
   ·exact ⟨hl,Nat.le_refl _,hall⟩
   ·rename_i h1 h2
    refine ⟨?_,?_,?_⟩
    ·rw [List.length_append,List.length_singleton];omega
    ·rw [List.length_append];omega
    ·intro x hx
     rcases List.mem_append.1 hx with h3 | h3
     ·exact hall x h3
     ·rw [List.mem_singleton.1 h3];exact he
 ·exact ⟨hl,Nat.le_refl _,hall⟩
set_option maxRecDepth 100000 in
set_option maxHeartbeats 4000000 in
theorem hear13_s (L:Option Addr) (ln:Nat) (l:List Entry) (safe:Int) (up:Bool) (e:Entry) (w:World) (hr:RdT 35 w L ln l) (he:e.op.text.size≤maxLen) (hl:l.length≤1000) :
  Calls Tryz.prog 161 #[.agg #[.slice L l.length ln,.int .i64 safe,.bool up],.agg (cN e)] w fun x w'=>∃ L' n',x=.returned (.tuple #[.agg #[.slice L' (srvS l up e).1.length n',.int .i64 safe,.bool up],.bool (srvS l up e).2])∧RdT 35 w' L' n' (srvS l up e).1∧Ext w w':=by
 have h3:=three_all w (.cells #[.slice L l.length ln,.int .i64 safe,.bool up] 58) (oN e) (.cells #[.slice none 0 0,.int .i64 0,.bool false] 58)
 have hE3:Ext w (((w.alloc (.cells #[.slice L l.length ln,.int .i64 safe,.bool up] 58)).alloc (oN e)).alloc (.cells #[.slice none 0 0,.int .i64 0,.bool false] 58)):=ext3 _ _ _ _
 have hz3:(((w.alloc (.cells #[.slice L l.length ln,.int .i64 safe,.bool up] 58)).alloc (oN e)).alloc (.cells #[.slice none 0 0,.int .i64 0,.bool false] 58)).heap.size=w.heap.size+3:=by simp only [alloc_sz]
 have HX1:=Lib.hid h3.1;have HX2:=Lib.hid h3.2.1;have HX3:=Lib.hid h3.2.2
 have HR:=Lib.hid (hr.ext hE3);have HE3:=Lib.hid hE3
 have HAD:=Lib.hid (add_s L ln l e (((w.alloc (.cells #[.slice L l.length ln,.int .i64 safe,.bool up] 58)).alloc (oN e)).alloc (.cells #[.slice none 0 0,.int .i64 0,.bool false] 58)) (hr.ext hE3) he hl)
 clear h3 hE3 hr
 go_enter Tryz.func161,Tryz.ntmps161
 go_wp2_with fail
 generalize (((w.alloc (.cells #[.slice L l.length ln,.int .i64 safe,.bool up] 58)).alloc (oN e)).alloc (.cells #[.slice none 0 0,.int .i64 0,.bool false] 58))=W3 at *
 refine HAD.out.mono ?_
 rintro x w4 ⟨L',n',rfl,hq,hb4⟩
 have hx1:=(hb4.block w.heap.size (by omega)).trans HX1.out
 have hx3:=(hb4.block (w.heap.size+1+1) (by omega)).trans HX3.out
 have hlt3:=blk_lt hx3
 obtain ⟨c0,c1,c2,cf⟩:=tri_cells hx1
 obtain ⟨d0,d1,d2,df⟩:=tri_cells hx3
 have HB4:=Lib.hid hb4;have HX1':=Lib.hid hx1;have HX3':=Lib.hid hx3;have HQ4:=Lib.hid hq
 have HE4:=Lib.hid (HE3.out.trans (hb4.mono HE3.out.size))
 clear hb4 hx1 hx3 hq HAD
 cases up
 ·have HRES:Hid (srvS l false e=(l,false)):=by show _=_;unfold srvS;rw [if_neg (fun h=>by cases h.1)]
  have hz:=tri_set (v0:=.slice L l.length ln) (v1:=.int .i64 safe) (v2:=.bool false) (HX3'.out)
  have HZ:=Lib.hid hz
  have HQ:=Lib.hid ((((HR.out.ext HB4.out).set (HX3'.out) (by decide) 0 (.slice L l.length ln)).set (set_at (HX3'.out)) (by decide) 1 (.int .i64 safe)).set (set_at (set_at (HX3'.out))) (by decide) 2 (.bool false))
  have HE:=Lib.hid ((((HE4.out).setCell (p:=⟨w.heap.size+1+1,0,none⟩) (show w.heap.size≤w.heap.size+1+1 by omega) (.slice L l.length ln)).setCell (p:=⟨w.heap.size+1+1,1,none⟩) (show w.heap.size≤w.heap.size+1+1 by omega) (.int .i64 safe)).setCell (p:=⟨w.heap.size+1+1,2,none⟩) (show w.heap.size≤w.heap.size+1+1 by omega) (.bool false))
  clear hz
  go_wp2_with fail
  obtain ⟨k0,k1,k2,kf⟩:=tri_cells HZ.out
  refine bodyPost_ret (v:=.tuple #[.agg #[.slice L l.length ln,.int .i64 safe,.bool false],.bool false]) ?_ rfl ?_
  ·simp [results,Tryz.f161,go_sem,k0,k1,k2]
  ·exact ⟨L,ln,by rw [HRES.out],by rw [HRES.out];exact HQ.out,HE.out⟩
 ·by_cases hn:(addS l e).2=1
  ·have HRES:Hid (srvS l true e=((addS l e).1,true)):=by show _=_;unfold srvS;rw [if_pos ⟨rfl,hn⟩]
   have hn':((addS l e).2 != 1)=false:=by simp [hn]
   clear hn
   have hx5:=(setx (w:=w4) (o:=0) (v:=.slice L' (addS l e).1.length n') (b:=w.heap.size) (b':=w.heap.size+1+1) (by omega)).trans HX3'.out
   have HX5:=Lib.hid hx5
   clear hx5
   have hz:=tri_set (v0:=.slice L' (addS l e).1.length n') (v1:=.int .i64 safe) (v2:=.bool true) (HX5.out)
   have HZ:=Lib.hid hz
   have HQ:=Lib.hid ((((HQ4.out.set HX1'.out (by decide) 0 (.slice L' (addS l e).1.length n')).set (HX5.out) (by decide) 0 (.slice L' (addS l e).1.length n')).set (set_at (HX5.out)) (by decide) 1 (.int .i64 safe)).set (set_at (set_at (HX5.out))) (by decide) 2 (.bool true))
   have HE:=Lib.hid ((((HE4.out.setCell (p:=⟨w.heap.size,0,none⟩) (Nat.le_refl _) (.slice L' (addS l e).1.length n')).setCell (p:=⟨w.heap.size+1+1,0,none⟩) (show w.heap.size≤w.heap.size+1+1 by omega) (.slice L' (addS l e).1.length n')).setCell (p:=⟨w.heap.size+1+1,1,none⟩) (show w.heap.size≤w.heap.size+1+1 by omega) (.int .i64 safe)).setCell (p:=⟨w.heap.size+1+1,2,none⟩) (show w.heap.size≤w.heap.size+1+1 by omega) (.bool true))
   clear hz
   go_wp2_with fail
   obtain ⟨k0,k1,k2,kf⟩:=tri_cells HZ.out
   refine bodyPost_ret (v:=.tuple #[.agg #[.slice L' (addS l e).1.length n',.int .i64 safe,.bool true],.bool true]) ?_ rfl ?_
   ·simp [results,Tryz.f161,go_sem,k0,k1,k2]
   ·exact ⟨L',n',by rw [HRES.out],by rw [HRES.out];exact HQ.out,HE.out⟩
  ·have HRES:Hid (srvS l true e=(l,false)):=by show _=_;unfold srvS;rw [if_neg (fun h=>hn h.2)]
   have hn':((addS l e).2 != 1)=true:=by simp [hn]
   clear hn
   have hz:=tri_set (v0:=.slice L l.length ln) (v1:=.int .i64 safe) (v2:=.bool true) (HX3'.out)
   have HZ:=Lib.hid hz
   have HQ:=Lib.hid ((((HR.out.ext HB4.out).set (HX3'.out) (by decide) 0 (.slice L l.length ln)).set (set_at (HX3'.out)) (by decide) 1 (.int .i64 safe)).set (set_at (set_at (HX3'.out))) (by decide) 2 (.bool true))
   have HE:=Lib.hid ((((HE4.out).setCell (p:=⟨w.heap.size+1+1,0,none⟩) (show w.heap.size≤w.heap.size+1+1 by omega) (.slice L l.length ln)).setCell (p:=⟨w.heap.size+1+1,1,none⟩) (show w.heap.size≤w.heap.size+1+1 by omega) (.int .i64 safe)).setCell (p:=⟨w.heap.size+1+1,2,none⟩) (show w.heap.size≤w.heap.size+1+1 by omega) (.bool true))
   clear hz
   go_wp2_with fail
   obtain ⟨k0,k1,k2,kf⟩:=tri_cells HZ.out
   refine bodyPost_ret (v:=.tuple #[.agg #[.slice L l.length ln,.int .i64 safe,.bool true],.bool false]) ?_ rfl ?_
   ·simp [results,Tryz.f161,go_sem,k0,k1,k2]
   ·exact ⟨L,ln,by rw [HRES.out],by rw [HRES.out];exact HQ.out,HE.out⟩
open Go.RowKit
instance:Flat UInt8:=⟨fun x=>[.int .u8 x.toNat],1,fun _=>rfl,fun _ u hu=>by simp at hu;subst hu;rfl,by omega,fun _=>True⟩
theorem byte_at {w:World} {A:Option Addr} {c:Nat} {l:List UInt8} (h:Rd w A c l) (k:Nat) (hk:k<l.length) :
  ∃ b off,A=some ⟨b,off,none⟩∧b<w.heap.size∧w.cell? ⟨b,off+k,none⟩=some (.int .u8 l[k].toNat):=by
 obtain ⟨b,off,rfl,hb,hc⟩:=h.at_ k hk
 have h0:=hc 0 _ rfl
 exact ⟨b,off,rfl,hb,by
  have e:off+(k*1+0)=off+k:=by omega
  rw [←e];exact h0⟩
theorem str_at {w:World} {A:Option Addr} {c:Nat} {l:List ByteArray} (h:Rd w A c l) (k:Nat) (hk:k<l.length) :
  ∃ b off,A=some ⟨b,off,none⟩∧b<w.heap.size∧w.cell? ⟨b,off+k,none⟩=some (.string l[k]):=by
 obtain ⟨b,off,rfl,hb,hc⟩:=h.at_ k hk
 have h0:=hc 0 _ rfl
 exact ⟨b,off,rfl,hb,by
  have e:off+(k*1+0)=off+k:=by omega
  rw [←e];exact h0⟩
def Rdr (w:World) (r p:Nat):Prop:=
 ∃ (A:Option Addr) (c:Nat) (bs:List UInt8),w.heap[r]?=some (.cells #[.slice A bs.length c,.int .i64 p] 114 (0,0))∧Rd w A c bs∧bs.length≤2000∧∀ b off,A=some ⟨b,off,none⟩→b<r
theorem Rdr.lt {w:World} {r p:Nat} (h:Rdr w r p):r<w.heap.size:=by
 obtain ⟨A,c,bs,h1,_⟩:=h;exact blk_lt h1
theorem Rdr.ext {w w':World} {r p:Nat} (h:Rdr w r p) (hb:Ext w w'):Rdr w' r p:=by
 obtain ⟨A,c,bs,h1,h2,h3⟩:=h
 exact ⟨A,c,bs,(hb.block r (blk_lt h1)).trans h1,h2.ext hb,h3⟩
theorem two_cells {W:World} {b:Nat} {v0 v1:Value} {ty:TypeId} (h:W.heap[b]?=some (.cells #[v0,v1] ty (0,0))) :
  W.cell? ⟨b,0,none⟩=some v0∧W.cell? ⟨b,1,none⟩=some v1∧∀ o,W.frozen? ⟨b,o,none⟩=false:=by
 refine ⟨by simp [World.cell?,h],by simp [World.cell?,h],fun o=>by simp [World.frozen?,h]⟩
def PickP (r p:Nat) (n:Int) (w:World) (e:Ending) (w':World):Prop:=
 ∃ v:Int,e=.returned (.int .i64 v)∧0≤v∧(1≤n→v<n)∧(n<1→v=0)∧Rdr w' r (p+1)∧w.grownBy w' (some r)
theorem xor_i64 (X:Nat) (hX:X<4611686018427387904):∃ Y:Nat,bits .xor .i64 (X:Int) ((X:Int) / 64)=(Y:Int)∧Y<4611686018427387904:=by
 have d:((X:Int) / 64)=((X / 64:Nat):Int):=by omega
 have hb:X / 64<4611686018427387904:=by omega
 have hx:X ^^^ (X / 64)<2 ^ 62:=Nat.xor_lt_two_pow (by omega) (by omega)
 have h1:(BitVec.ofInt 64 (X:Int)).toNat=X:=by
  rw [BitVec.ofInt_natCast,BitVec.toNat_ofNat];exact Nat.mod_eq_of_lt (by omega)
 have h2:(BitVec.ofInt 64 ((X / 64:Nat):Int)).toNat=X / 64:=by
  rw [BitVec.ofInt_natCast,BitVec.toNat_ofNat];exact Nat.mod_eq_of_lt (by omega)
 refine ⟨X ^^^ (X / 64),?_,by omega⟩
 rw [d]
 show IntKind.i64.wrap ((BitVec.ofInt 64 (X:Int) ^^^ BitVec.ofInt 64 ((X / 64:Nat):Int)).toNat:Int)=_
 rw [BitVec.toNat_xor,h1,h2,IntKind.wrap_i64]
 omega
set_option maxRecDepth 100000 in
set_option maxHeartbeats 4000000 in
theorem pick_c (r p:Nat) (n:Int) (w:World) (h:Rdr w r p) (hp:p<1000000000) (hn:i64 n) :
  Calls Tryz.prog 28 #[.pointer (some ⟨r,0,none⟩),.int .i64 n] w (PickP r p n w):=by
 obtain ⟨A,c,bs,hbk,hrd,hl,hlow⟩:=h
 obtain ⟨hn0,hn1⟩:=hn
 obtain ⟨c0,c1,cf⟩:=two_cells hbk
 have hset:(w.setCell ⟨r,1,none⟩ (.int .i64 ((p:Int)+1))).heap[r]?=some (.cells #[.slice A bs.length c,.int .i64 ((p:Int)+1)] 114 (0,0)):=set_at hbk
 obtain ⟨d0,d1,df⟩:=two_cells hset
 have hg:w.grownBy (w.setCell ⟨r,1,none⟩ (.int .i64 ((p:Int)+1))) (some r):=gset_any w r 1 _
 have hrd2:Rd (w.setCell ⟨r,1,none⟩ (.int .i64 ((p:Int)+1))) A c bs:=hrd.grown hg (fun b off e h=>by have:=hlow b off e;injection h with h;omega)
 have hR2:Rdr (w.setCell ⟨r,1,none⟩ (.int .i64 ((p:Int)+1))) r (p+1):=⟨A,c,bs,by rw [hset];rfl,hrd2,hl,hlow⟩
 generalize hW:w.setCell ⟨r,1,none⟩ (.int .i64 ((p:Int)+1))=W at hset d0 d1 df hg hrd2 hR2
 have HW:=Lib.hid hW;have HG:=Lib.hid hg;have HR2:=Lib.hid hR2;have HRD:=Lib.hid hrd2
 have hne:r<w.heap.size:=blk_lt hbk
 clear hset hg hrd2 hR2 hrd hW hbk
 have hp1:(p:Int)+1≤1000000000:=by omega
 by_cases h1:n<1
 ·have FIN:Hid (PickP r p n w (.returned (.int .i64 0)) W):=⟨0,rfl,Int.le_refl _,fun h=>by omega,fun _=>rfl,HR2.out,HG.out⟩
  go_enter Tryz.func28,Tryz.ntmps28
  go_wp2_with fail
  rw [HW.out]
  go_ret
  exact FIN.out
 have FIN:Hid (∀ v:Int,0≤v→v<n→PickP r p n w (.returned (.int .i64 v)) W):=fun v h0 h2=>⟨v,rfl,h0,fun _=>h2,fun h=>by omega,HR2.out,HG.out⟩
 have FIN0:Hid (PickP r p n w (.returned (.int .i64 0)) W):=FIN.out 0 (Int.le_refl _) (by omega)
 by_cases hb0:bs.length=0
 ·have hb0':((bs.length:Int) == 0)=true:=by simp [hb0]
  have HB:=Lib.hid hb0
  clear hb0
  go_enter Tryz.func28,Tryz.ntmps28
  go_wp2_with fail
  rw [HW.out]
  go_ret
  exact FIN0.out
 have hb0':((bs.length:Int) == 0)=false:=beq_eq_false_iff_ne.2 (by omega)
 by_cases hpl:p<bs.length
 ·obtain ⟨b,off,rfl,hbl,x0⟩:=byte_at HRD.out p hpl
  have hbr:=hlow b off rfl
  have hub:(bs[p].toNat:Int)<256:=by have:=bs[p].toNat_lt;omega
  have y0:w.cell? ⟨b,off+p,none⟩=some (.int .u8 bs[p].toNat):=by
   have:=(cell_blk (HG.out.block b (by omega) (fun e=>Nat.ne_of_lt hbr (Option.some.inj e))) (off+p)).symm.trans x0
   exact this
  have hm0:0≤(bs[p].toNat:Int) % n:=Int.emod_nonneg _ (by omega)
  have hm1:(bs[p].toNat:Int) % n<n:=Int.emod_lt_of_pos _ (by omega)
  clear hlow x0
  go_enter Tryz.func28,Tryz.ntmps28
  go_wp2_with fail
  rw [HW.out]
  go_ret
  exact FIN.out _ hm0 hm1
 ·have hpos:0<bs.length:=by omega
  have hi1:p % bs.length<bs.length:=Nat.mod_lt _ hpos
  have hi2:(p*7+3) % bs.length<bs.length:=Nat.mod_lt _ hpos
  obtain ⟨b,off,rfl,hbl,x0⟩:=byte_at HRD.out _ hi1
  obtain ⟨b',off',e',hbl',x1⟩:=byte_at HRD.out _ hi2
  cases e'
  have hbr:=hlow b off rfl
  clear hlow
  go_enter Tryz.func28,Tryz.ntmps28
  go_wp2_with fail
  rw [HW.out]
  generalize hb1:bs[p % bs.length].toNat=B1 at x0
  generalize hb2:bs[(p*7+3) % bs.length].toNat=B2 at x1
  have hub1:B1<256:=by rw [←hb1];exact UInt8.toNat_lt _
  have hub2:B2<256:=by rw [←hb2];exact UInt8.toNat_lt _
  clear hb1 hb2
  generalize hl9:bs.length=N at *
  have hdv:p / N≤p:=Nat.div_le_self _ _
  have g1:IntKind.i64.wrap (B1:Int)=B1:=by rw [IntKind.wrap_i64];omega
  have g2:IntKind.i64.wrap (B2:Int)=B2:=by rw [IntKind.wrap_i64];omega
  have g3:IntKind.i64.wrap ((B1:Int)*131)=(B1:Int)*131:=by rw [IntKind.wrap_i64];omega
  have g4:IntKind.i64.wrap ((B2:Int)*1117)=(B2:Int)*1117:=by rw [IntKind.wrap_i64];omega
  have g5:IntKind.i64.wrap ((B1:Int)*131+(B2:Int)*1117)=(B1:Int)*131+(B2:Int)*1117:=by rw [IntKind.wrap_i64];omega
  have g6:IntKind.i64.wrap ((p:Int)*7)=(p:Int)*7:=by rw [IntKind.wrap_i64];omega
  have g7:IntKind.i64.wrap ((p:Int)*7+3)=(p:Int)*7+3:=by rw [IntKind.wrap_i64];omega
  have g8:IntKind.i64.wrap ((p:Int)*29)=(p:Int)*29:=by rw [IntKind.wrap_i64];omega
  have g9:IntKind.i64.wrap ((B1:Int)*131+(B2:Int)*1117+(p:Int)*29)=(B1:Int)*131+(B2:Int)*1117+(p:Int)*29:=by rw [IntKind.wrap_i64];omega
  have hN0:(0:Int)<N:=by omega
  have t1:(p:Int).tmod N=(p:Int) % N:=Int.tmod_eq_emod_of_nonneg (by omega)
  have t2:((p:Int)*7+3).tmod N=((p:Int)*7+3) % N:=Int.tmod_eq_emod_of_nonneg (by omega)
  have m0:0≤(p:Int) % N:=Int.emod_nonneg _ (by omega)
  have m1:(p:Int) % N<N:=Int.emod_lt_of_pos _ hN0
  have m2:((p:Int) % N).toNat=p % N:=by rw [show (p:Int) % N=((p % N:Nat):Int) from rfl];rfl
  have m3:0≤((p:Int)*7+3) % N:=Int.emod_nonneg _ (by omega)
  have m4:((p:Int)*7+3) % N<N:=Int.emod_lt_of_pos _ hN0
  have m5:(((p:Int)*7+3) % N).toNat=(p*7+3) % N:=by rw [show ((p:Int)*7+3) % N=(((p*7+3) % N:Nat):Int) from rfl];rfl
  have t3:(p:Int).tdiv N=((p / N:Nat):Int):=by rw [Int.tdiv_eq_ediv_of_nonneg (by omega)];rfl
  generalize hD:p / N=D at t3 hdv
  have g10:IntKind.i64.wrap ((D:Int)*53)=(D:Int)*53:=by rw [IntKind.wrap_i64];omega
  have g11:IntKind.i64.wrap ((B1:Int)*131+(B2:Int)*1117+(p:Int)*29+(D:Int)*53)=(B1:Int)*131+(B2:Int)*1117+(p:Int)*29+(D:Int)*53:=by rw [IntKind.wrap_i64];omega
  clear hi1 hi2
  go_quiet (fail)
  have hXb:0≤(B1:Int)*131+(B2:Int)*1117+(p:Int)*29+(D:Int)*53∧(B1:Int)*131+(B2:Int)*1117+(p:Int)*29+(D:Int)*53<1000000000000:=by omega
  generalize (B1:Int)*131+(B2:Int)*1117+(p:Int)*29+(D:Int)*53=XI at *
  obtain ⟨X,rfl⟩:∃ X:Nat,XI=X:=⟨XI.toNat,by omega⟩
  obtain ⟨hX0,hX1⟩:=hXb
  obtain ⟨Y,hY,hYb⟩:=xor_i64 X (by omega)
  have hy0:0≤(Y:Int) % n:=Int.emod_nonneg _ (by omega)
  have hy1:(Y:Int) % n<n:=Int.emod_lt_of_pos _ (by omega)
  have HF:Hid (PickP r p n w (.returned (.int .i64 ((Y:Int) % n))) (W.drewN nq)):=⟨_,rfl,hy0,fun _=>hy1,fun h=>by omega,HR2.out,⟨HG.out.os,HG.out.tape,HG.out.output,HG.out.size,HG.out.block⟩⟩
  clear g1 g2 g3 g4 g5 g6 g7 g8 g9 g10 g11 t1 t2 t3 m0 m1 m2 m3 m4 m5 hy0 hy1
  go_wp2_with fail
  go_ret
  exact HF.out
theorem gtrans {w w1 w2:World} {row:Option Nat} (h:w.grownBy w1 row) (k:w1.grownBy w2 row):w.grownBy w2 row:=
 ⟨k.os.trans h.os,k.tape.trans h.tape,k.output.trans h.output,Nat.le_trans h.size k.size,fun i hi hne=>(k.block i (Nat.lt_of_lt_of_le hi h.size) hne).trans (h.block i hi hne)⟩
theorem gext {w w':World} {row:Option Nat} (h:Ext w w'):w.grownBy w' row:=⟨h.os,h.tape,h.output,h.size,fun i hi _=>h.block i hi⟩
def OfP (r p:Nat) (ss:List ByteArray) (w:World) (e:Ending) (w':World):Prop:=∃ s,s∈ss∧e=.returned (.string s)∧Rdr w' r (p+1)∧w.grownBy w' (some r)
set_option maxRecDepth 100000 in
set_option maxHeartbeats 1000000 in
theorem of_c (r p:Nat) (A:Option Addr) (c:Nat) (ss:List ByteArray) (w:World) (h:Rdr w r p) (hp:p<1000000000) (hr:Rd w A c ss) (h0:0<ss.length) (hl:ss.length≤1000) (hA:∀ b off,A=some ⟨b,off,none⟩→b≠r) :
  Calls Tryz.prog 117 #[.pointer (some ⟨r,0,none⟩),.slice A ss.length c] w (OfP r p ss w):=by
 have HP:=Lib.hid (pick_c r p ss.length w h hp ⟨by omega,by omega⟩)
 have HR:=Lib.hid hr;have HA:=Lib.hid hA
 clear hr hA h
 go_enter Tryz.func117,Tryz.ntmps117
 go_wp2_with fail
 refine HP.out.mono ?_
 rintro e w1 ⟨v,rfl,hv0,hv1,-,hr1,hg1⟩
 have hvl:=hv1 (by omega)
 obtain ⟨k,rfl⟩:∃ k:Nat,v=k:=⟨v.toNat,by omega⟩
 have hk:k<ss.length:=by omega
 have hR1:=HR.out.grown hg1 (fun b off e h=>HA.out b off e (Option.some.inj h))
 obtain ⟨b,off,rfl,hbl,x0⟩:=str_at hR1 k hk
 have HF:Hid (OfP r p ss w (.returned (.string ss[k])) w1):=⟨_,List.getElem_mem hk,rfl,hr1,hg1⟩
 clear hv1 hr1 hg1 hR1 HP
 go_wp2_with fail
 go_ret
 exact HF.out
open Go.RowKit
theorem rd_new {α:Type} [Flat α] (w:World) (l:List α) (cs:Array Value) (ty:TypeId) (h:cs.toList=flat l) (hl:l.length≤1000) (hok:∀ x∈l,Flat.okE x):Rd (w.alloc (.cells cs ty)) (some ⟨w.heap.size,0,none⟩) l.length l:=by
 refine ⟨Nat.le_refl _,by unfold maxLen;omega,fun _=>⟨w.heap.size,0,rfl,fun j v hv=>?_⟩,hok⟩
 rw [←h,Array.getElem?_toList] at hv
 have h9:=World.alloc_heap_new w (.cells cs ty)
 unfold World.cell?
 simp only [h9,Nat.zero_add]
 exact hv
def letters:List ByteArray:=[⟨#[97]⟩,⟨#[98]⟩,⟨#[99]⟩,⟨#[100]⟩]
def spoilt:List ByteArray:=[⟨#[101]⟩,⟨#[32]⟩,⟨#[97,97,97,97]⟩,⟨#[39]⟩]
theorem letters_ok:∀ x∈letters,x.size=1:=by intro x hx;simp only [letters,List.mem_cons,List.not_mem_nil,or_false] at hx;rcases hx with rfl | rfl | rfl | rfl <;> rfl
theorem spoilt_ok:∀ x∈spoilt,x.size≤4:=by intro x hx;simp only [spoilt,List.mem_cons,List.not_mem_nil,or_false] at hx;rcases hx with rfl | rfl | rfl | rfl <;> decide
theorem small_ok {l:List ByteArray} (h:∀ x∈l,x.size≤4):∀ x∈l,Flat.okE x:=fun x hx=>Nat.le_trans (h x hx) (by decide)
def IdP (r p:Nat) (w:World) (e:Ending) (w':World):Prop:=∃ v:Int,e=.returned (.int .i64 v)∧isMade v=true∧Rdr w' r (p+2)∧w.grownBy w' (some r)
set_option maxRecDepth 100000 in
theorem id_d (r p:Nat) (w:World) (h:Rdr w r p) (hp:p<999999000) :
  Calls Tryz.prog 68 #[.pointer (some ⟨r,0,none⟩)] w (IdP r p w):=by
 have HP:=Lib.hid (pick_c r p 3 w h (by omega) ⟨by omega,by omega⟩)
 clear h
 go_enter Tryz.func68,Tryz.ntmps68
 go_wp2_with fail
 refine HP.out.mono ?_
 rintro e w1 ⟨v,rfl,hv0,hv1,-,hr1,hg1⟩
 have hvl:=hv1 (by omega)
 have HP2:=Lib.hid (pick_c r (p+1) 4 w1 hr1 (by omega) ⟨by omega,by omega⟩)
 have HG1:=Lib.hid hg1
 clear hv1 hr1 hg1 HP
 go_wp2_with fail
 refine HP2.out.mono ?_
 rintro e w2 ⟨u,rfl,hu0,hu1,-,hr2,hg2⟩
 have hul:=hu1 (by omega)
 have HF:Hid (IdP r p w (.returned (.int .i64 (10*(1+v)+1+u))) w2):=⟨_,rfl,by rw [isMade_iff];omega,hr2,gtrans HG1.out hg2⟩
 clear hu1 hr2 hg2 HP2
 go_wp2_with fail
 go_ret
 exact HF.out
def TextP (r p:Nat) (w:World) (e:Ending) (w':World):Prop:=∃ (s:ByteArray) (p':Nat),e=.returned (.string s)∧s.size≤7∧p≤p'∧p'≤p+6∧Rdr w' r p'∧w.grownBy w' (some r)
set_option maxRecDepth 100000 in
set_option maxHeartbeats 1000000 in
theorem text_d (r p:Nat) (w:World) (h:Rdr w r p) (hp:p<999999000) :
  Calls Tryz.prog 69 #[.pointer (some ⟨r,0,none⟩)] w (TextP r p w):=by
 have HP:=Lib.hid (pick_c r p 4 w h (by omega) ⟨by omega,by omega⟩)
 clear h
 go_enter Tryz.func69,Tryz.ntmps69
 go_wp2_with fail
 refine HP.out.mono ?_
 rintro e w1 ⟨v,rfl,hv0,hv1,-,hr1,hg1⟩
 have hvl:=hv1 (by omega)
 obtain ⟨m0,rfl⟩:∃ k:Nat,v=k:=⟨v.toNat,by omega⟩
 have HR1:=Lib.hid hr1;have HG1:=Lib.hid hg1
 clear hv1 hr1 hg1 HP
 go_wp2_with fail
 go_loopg [3,4] m0 (fun gk s n wr=>∃ (m q:Nat) (t:ByteArray),Hid (gk=m)∧n=.int .i64 m∧s=.string t∧m≤3∧t.size≤3 - m∧p+1≤q∧q≤p+4 - m∧Hid (Rdr wr r q)∧Hid (w.grownBy wr (some r)))
 case atStart=>exact ⟨m0,p+1,⟨#[]⟩,rfl,rfl,rfl,by omega,by simp [ByteArray.size],by omega,by omega,HR1.out,HG1.out⟩
 case round=>
  obtain ⟨m,q,t,HK,rfl,rfl,hm,ht,hq0,hq1,HR,HG⟩:=hrel
  by_cases hm0:0<m
  ·have hnew:=rd_new (α:=ByteArray) wr letters #[.string ⟨#[97]⟩,.string ⟨#[98]⟩,.string ⟨#[99]⟩,.string ⟨#[100]⟩] 9 rfl (by decide) (small_ok (fun x hx=>by rw [letters_ok x hx];omega))
   have hO:=of_c r q (some ⟨wr.heap.size,0,none⟩) 4 letters _ (HR.out.ext ((Below.refl _ _).alloc (Nat.le_refl _) _)) (by omega) hnew (by decide) (by decide) (fun b off e=>by injection e with e;injection e with e;have:=HR.out.lt;omega)
   have HO:=Lib.hid hO
   clear hnew hO
   go_wp2_with fail
   refine HO.out.mono ?_
   rintro e w2 ⟨s,hs,rfl,hr2,hg2⟩
   have hs1:=letters_ok s hs
   have HR2:=Lib.hid hr2;have HG2:=Lib.hid (gtrans (HG.out) (gtrans (galloc (grown_refl wr (some r)) _) hg2))
   clear hr2 hg2 hs HO
   go_wp2_with fail
   go_roundg (m - 1)
   case measure=>have:=HK.out;omega
   case rel=>
    refine ⟨m - 1,q+1,t++s,rfl,?_,rfl,by omega,by rw [ByteArray.size_append];omega,by omega,by omega,HR2.out,HG2.out⟩
    rw [show ((m:Int) - 1)=((m - 1:Nat):Int) by omega]
  ·have HP3:=Lib.hid (pick_c r q 40 wr HR.out (by omega) ⟨by omega,by omega⟩)
   have hmz:¬(0:Int)<m:=by omega
   go_wp2_with fail
   refine HP3.out.mono ?_
   rintro e w3 ⟨v,rfl,hv0,hv1,-,hr3,hg3⟩
   have HG3:=Lib.hid (gtrans HG.out hg3)
   by_cases hv:v=0
   ·have hv':(v == 0)=true:=by simp [hv]
    have hnew:=rd_new (α:=ByteArray) w3 spoilt #[.string ⟨#[101]⟩,.string ⟨#[32]⟩,.string ⟨#[97,97,97,97]⟩,.string ⟨#[39]⟩] 9 rfl (by decide) (small_ok spoilt_ok)
    have HO:=Lib.hid (of_c r (q+1) (some ⟨w3.heap.size,0,none⟩) 4 spoilt _ (hr3.ext ((Below.refl _ _).alloc (Nat.le_refl _) _)) (by omega) hnew (by decide) (by decide) (fun b off e=>by injection e with e;injection e with e;have:=hr3.lt;omega))
    clear hv hv1 hnew hr3 hg3
    go_wp2_with fail
    refine HO.out.mono ?_
    rintro e w4 ⟨s,hs,rfl,hr4,hg4⟩
    have hs1:=spoilt_ok s hs
    have HF:Hid (TextP r p w (.returned (.string (t++s))) w4):=⟨_,q+2,rfl,by rw [ByteArray.size_append];omega,by omega,by omega,hr4,gtrans HG3.out (gtrans (galloc (grown_refl w3 (some r)) _) hg4)⟩
    clear hr4 hg4 hs HO
    go_wp2_with fail
    go_ret
    exact HF.out
   ·have hv':(v == 0)=false:=by simp [hv]
    have HF:Hid (TextP r p w (.returned (.string t)) w3):=⟨_,q+1,rfl,by omega,by omega,by omega,hr3,HG3.out⟩
    clear hv hv1 hr3 hg3
    go_wp2_with fail
    go_ret
    exact HF.out
end Go.Proofs.YtecmcjfdaipfcaaGreatDoor
