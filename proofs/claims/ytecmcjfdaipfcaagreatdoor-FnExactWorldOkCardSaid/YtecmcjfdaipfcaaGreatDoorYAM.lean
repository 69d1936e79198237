/- Walk of the reference: ClientHear. .. Worlds that are ok, plainly; an outline's text tells the outline. -/
import Derived.Test.YtecmcjfdaipfcaaGreatDoorYAL
import Derived.Test.YtecmcjfdaipfcaaGreatDoorYAK
import Derived.BigRegion
import Derived.Deep.RegionLaw
import Derived.Laws.StructEq
namespace Go.Proofs.YtecmcjfdaipfcaaGreatDoor
open Go.RowKit Go.Lib
set_option linter.unusedVariables false
theorem hearL_ok (who:Int):∀ (l:List Entry) (q:List Entry) (t:List Row) (d n:Int) (q':List Entry) (t':List Row) (d' n':Int),hearL who l q t d n=some (q',t',d',n')→treeOk t=true→(∀ e∈l,opOk e.op=true)→treeOk t'=true∧q'.length≤q.length:=by
 intro l
 induction l with
 |nil=>
  intro q t d n q' t' d' n' h ht _
  simp only [hearL,Option.some.injEq,Prod.mk.injEq] at h
  obtain ⟨rfl,rfl,_,_⟩:=h
  exact ⟨ht,Nat.le_refl _⟩
 |cons e l ih=>
  intro q t d n q' t' d' n' h ht hl
  have ho:=hl e List.mem_cons_self
  have htn:treeOk (opDo t e.op)=true:=by
   have hod:opDo t e.op=doL t e.op:=by unfold opDo;rw [ht,ho];rfl
   rw [hod];exact treeOk_do t _ ht ho
  have hl':∀ x∈l,opOk x.op=true:=fun x hx=>hl x (List.mem_cons_of_mem _ hx)
  unfold hearL at h
  split at h
  ·cases q with
   |nil=>simp at h
   |cons e0 q0=>
    simp only at h
    split at h
    ·obtain ⟨h1,h2⟩:=ih _ _ _ _ _ _ _ _ h htn hl'
     exact ⟨h1,by simp only [List.length_cons];omega⟩
    ·cases h
  ·exact ih _ _ _ _ _ _ _ _ h htn hl'
theorem hearS_len (c:Client) (frm:Int) (l:List Entry) (hok:clientOk c=true) (hall:∀ x∈l,entryOk x=true):(hearS c frm l).1.base.length≤1000∧(hearS c frm l).1.wait.length≤40:=by
 obtain ⟨hw9,hs0,hs40,htr,hd0,hd1,hwl,hm0,hm1,hwt⟩:=clientOk_parts hok
 have h0:c.base.length≤1000∧c.wait.length≤40:=⟨treeOk_len htr,by omega⟩
 unfold hearS
 split
 ·exact h0
 ·cases hh:hearL c.who (l.drop (c.seen - frm).toNat) c.wait c.base c.done c.seen with
  |none=>exact h0
  |some p=>
   obtain ⟨q,t,d,n⟩:=p
   obtain ⟨h1,h2⟩:=hearL_ok _ _ _ _ _ _ _ _ _ _ hh htr (fun e he=>entryOk_op (hall e (List.mem_of_mem_drop he)))
   exact ⟨treeOk_len h1,by show q.length≤40;omega⟩
theorem clientHear_S (c:Client) (frm:Int) (l:List Entry) (hok:clientOk c=true) (h0:0≤frm) (h1:frm≤40) (hall:∀ x∈l,entryOk x=true):clientHear c frm l=hearS c frm l:=by
 have:l.all entryOk=true:=List.all_eq_true.2 hall
 unfold clientHear hearS
 rw [if_neg (by rw [hok];simp;omega),if_neg (by rw [this];simp)]
 have hd:l.drop (min (c.seen - frm) l.length).toNat=l.drop (c.seen - frm).toNat:=by
  by_cases h:(c.seen - frm)≤l.length
  ·rw [Int.min_eq_left h]
  ·rw [Int.min_eq_right (by omega),List.drop_of_length_le (by omega),List.drop_of_length_le (by omega)]
 rw [hd]
 rfl
open Go.RowKit Go.Lib
theorem clientOk_of {c:Client} (h1:isWho c.who=true) (h2:0≤c.seen) (h3:c.seen≤40) (h4:treeOk c.base=true) (h5:0≤c.done) (h6:c.done≤c.seen) (h7:(c.wait.length:Int)≤40 - c.done) (h8:0≤c.made) (h9:c.made≤6) (h10:waitOk c=true):clientOk c=true:=by
 simp only [clientOk,Bool.and_eq_true,decide_eq_true_eq]
 exact ⟨⟨⟨⟨⟨⟨h1,h2,h3⟩,h4⟩,h5,h6⟩,h7⟩,h8,h9⟩,h10⟩
def newEnt (c:Client) (o:Op):Entry:=⟨c.who,c.done+c.wait.length+1,o⟩
def doS (c:Client) (o:Op):Client × Bool:=
 if entryOk (newEnt c o)=true∧(o.kind=1→o.id=rowMade c.who (c.made+1)) then
  (⟨c.who,c.seen,c.base,c.wait++[newEnt c o],c.done,if o.kind=1 then c.made+1 else c.made⟩,true)
 else (c,false)
theorem entryOk_parts {e:Entry} (h:entryOk e=true):isWho e.who=true∧1≤e.seq∧e.seq≤40∧opOk e.op=true:=by
 unfold entryOk at h
 simp only [Bool.and_eq_true,decide_eq_true_eq] at h
 exact ⟨h.1.1.1,h.1.1.2.1,h.1.1.2.2,h.1.2⟩
theorem opOk_made {o:Op} (h:opOk o=true):isMade o.id=true:=by
 unfold opOk at h
 rw [Bool.and_eq_true] at h
 exact h.1
theorem rowMade_le {who n:Int} (h:isMade (rowMade who n)=true):1≤n∧n≤6∧rowMade who n=10*who+n:=by
 unfold rowMade at h ⊢
 split
 ·rename_i h1;exact ⟨h1.2.2.1,h1.2.2.2,rfl⟩
 ·rename_i h1;rw [if_neg h1] at h;simp [isMade] at h
theorem doS_ok {c:Client} {o:Op} (h:clientOk c=true):clientOk (doS c o).1=true:=by
 unfold doS
 split
 rotate_left
 ·exact h
 rename_i hc
 obtain ⟨he,hm⟩:=hc
 obtain ⟨hw9,hs0,hs40,htr,hd0,hd1,hwl,hm0,hm1,hwt⟩:=clientOk_parts h
 obtain ⟨e1,e2,e3,e4⟩:=entryOk_parts he
 have hseq:(newEnt c o).seq=c.done+c.wait.length+1:=rfl
 have hop:(newEnt c o).op=o:=rfl
 rw [hop] at e4
 have hmk:o.kind=1→c.made+1≤6∧o.id=10*c.who+(c.made+1):=fun hk=>by
  have h1:=hm hk
  have h2:=opOk_made e4
  rw [h1] at h2
  obtain ⟨-,h3,h4⟩:=rowMade_le h2
  exact ⟨h3,by rw [h1,h4]⟩
 refine clientOk_of hw9 hs0 hs40 htr hd0 hd1 ?_ ?_ ?_ ?_
 ·show (((c.wait++[newEnt c o]).length:Nat):Int)≤40 - c.done
  rw [List.length_append,List.length_singleton];omega
 ·show 0≤(if o.kind=1 then c.made+1 else c.made)
  split <;> omega
 ·show (if o.kind=1 then c.made+1 else c.made)≤6
  split
  ·rename_i hk;exact (hmk hk).1
  ·exact hm1
 ·refine waitOk_true _ fun k hk=>?_
  have hk':k<(c.wait++[newEnt c o]).length:=hk
  show waitAt _ k (c.wait++[newEnt c o])[k]=true
  rw [List.length_append,List.length_singleton] at hk'
  by_cases hlt:k<c.wait.length
  ·rw [List.getElem_append_left hlt]
   have h1:=waitOk_at hwt k hlt
   unfold waitAt at h1 ⊢
   simp only [Bool.and_eq_true,Bool.not_eq_true',Bool.and_eq_false_iff,decide_eq_true_eq,decide_eq_false_iff_not] at h1 ⊢
   obtain ⟨⟨⟨a1,a2⟩,a3⟩,a4⟩:=h1
   refine ⟨⟨⟨a1,a2⟩,a3⟩,?_⟩
   rcases a4 with a4 | a4
   ·exact .inl a4
   ·refine .inr ?_
    split <;> omega
  ·have hkl:k=c.wait.length:=by omega
   subst hkl
   rw [List.getElem_append_right (Nat.le_refl _)]
   simp only [Nat.sub_self,List.getElem_cons_zero]
   unfold waitAt
   simp only [Bool.and_eq_true,Bool.not_eq_true',Bool.and_eq_false_iff,decide_eq_true_eq,decide_eq_false_iff_not]
   refine ⟨⟨⟨he,rfl⟩,hseq⟩,?_⟩
   rw [hop]
   by_cases hk:o.kind=1
   ·refine .inr ?_
    rw [if_pos hk]
    have:=(hmk hk).2
    omega
   ·exact .inl hk
theorem hearL_inv (who made:Int):∀ (l:List Entry) (q:List Entry) (t:List Row) (d n:Int) (q':List Entry) (t':List Row) (d' n':Int),hearL who l q t d n=some (q',t',d',n')→treeOk t=true→(∀ e∈l,entryOk e=true)→0≤d→d≤n →
  (∀ k (hk:k<q.length),waitAt ⟨who,0,[],[],d,made⟩ k q[k]=true) →
  treeOk t'=true∧0≤d'∧d'≤n'∧n'=n+l.length∧(q'.length:Int)+d'=q.length+d∧∀ k (hk:k<q'.length),waitAt ⟨who,0,[],[],d',made⟩ k q'[k]=true:=by
 intro l
 induction l with
 |nil=>
  intro q t d n q' t' d' n' h ht _ hd hn hw
  simp only [hearL,Option.some.injEq,Prod.mk.injEq] at h
  obtain ⟨rfl,rfl,rfl,rfl⟩:=h
  exact ⟨ht,hd,hn,by simp,rfl,hw⟩
 |cons e l ih=>
  intro q t d n q' t' d' n' h ht hl hd hn hw
  have ho:=entryOk_op (hl e List.mem_cons_self)
  have htn:treeOk (opDo t e.op)=true:=by
   have hod:opDo t e.op=doL t e.op:=by unfold opDo;rw [ht,ho];rfl
   rw [hod];exact treeOk_do t _ ht ho
  have hl':∀ x∈l,entryOk x=true:=fun x hx=>hl x (List.mem_cons_of_mem _ hx)
  unfold hearL at h
  split at h
  ·cases q with
   |nil=>simp at h
   |cons e0 q0=>
    simp only at h
    split at h
    ·have hw':∀ k (hk:k<q0.length),waitAt ⟨who,0,[],[],d+1,made⟩ k q0[k]=true:=fun k hk=>by
      have h1:=hw (k+1) (by simp only [List.length_cons];omega)
      rw [List.getElem_cons_succ] at h1
      unfold waitAt at h1 ⊢
      simp only [Bool.and_eq_true,decide_eq_true_eq] at h1 ⊢
      obtain ⟨⟨⟨a1,a2⟩,a3⟩,a4⟩:=h1
      refine ⟨⟨⟨a1,a2⟩,by omega⟩,a4⟩
     obtain ⟨b1,b2,b3,b4,b5,b6⟩:=ih _ _ _ _ _ _ _ _ h htn hl' (by omega) (by omega) hw'
     refine ⟨b1,b2,b3,?_,?_,b6⟩
     ·rw [b4];simp only [List.length_cons];omega
     ·simp only [List.length_cons];omega
    ·cases h
  ·obtain ⟨b1,b2,b3,b4,b5,b6⟩:=ih _ _ _ _ _ _ _ _ h htn hl' hd (by omega) hw
   refine ⟨b1,b2,b3,?_,b5,b6⟩
   rw [b4];simp only [List.length_cons];omega
theorem hearS_ok {c:Client} {frm:Int} {l:List Entry} (h:clientOk c=true) (h0:0≤frm) (hall:∀ e∈l,entryOk e=true):clientOk (hearS c frm l).1=true:=by
 obtain ⟨hw9,hs0,hs40,htr,hd0,hd1,hwl,hm0,hm1,hwt⟩:=clientOk_parts h
 unfold hearS
 split
 ·exact h
 ·rename_i hf
  cases hh:hearL c.who (l.drop (c.seen - frm).toNat) c.wait c.base c.done c.seen with
  |none=>exact h
  |some p=>
   obtain ⟨q,t,d,n⟩:=p
   obtain ⟨b1,b2,b3,b4,b5,b6⟩:=hearL_inv c.who c.made _ _ _ _ _ _ _ _ _ hh htr (fun e he=>hall e (List.mem_of_mem_drop he)) hd0 hd1 (fun k hk=>waitOk_at hwt k hk)
   rw [List.length_drop] at b4
   refine clientOk_of hw9 (by show 0≤n;omega) (by show n≤40;omega) b1 b2 b3 (by show (q.length:Int)≤40 - d;omega) hm0 hm1 (waitOk_true _ fun k hk=>b6 k hk)
open Go.RowKit Go.Lib
theorem eq_ent (a b:Entry) (W:World):(binOp .eql 35 (.agg (cN a)) (.agg (cN b))).run Tryz.prog W=.ok (.bool (decide (a=b))) W:=by
 have u1:=Tryz.underlying35
 have u2:=Tryz.underlying28
 by_cases h:a=b
 ·subst h
  go_simp
 ·rw [decide_eq_false h]
  go_simp
  by_cases e1:a.who=b.who
  ·by_cases e2:a.seq=b.seq
   ·by_cases e3:a.op.kind=b.op.kind
    ·by_cases e4:a.op.id=b.op.id
     ·by_cases e5:a.op.up=b.op.up
      ·by_cases e6:a.op.pos=b.op.pos
       ·have e7:¬a.op.text.toList=b.op.text.toList:=fun e7=>h (ent_ext e1 e2 e3 e4 e5 e6 e7)
        simp [e1,e2,e3,e4,e5,e6,e7]
       ·simp [e1,e2,e3,e4,e5,e6]
      ·simp [e1,e2,e3,e4,e5]
     ·simp [e1,e2,e3,e4]
    ·simp [e1,e2,e3]
   ·simp [e1,e2]
  ·simp [e1]
set_option maxRecDepth 100000 in
set_option maxHeartbeats 2000000 in
theorem has_s (A:Option Addr) (c:Nat) (l:List Entry) (e:Entry) (w:World) (hr:Rd w A c l) :
  Calls Tryz.prog 101 #[.slice A l.length c,.agg (cN e)] w fun x w'=>x=.returned (.bool (decide (e∈l)))∧Ext w w':=by
 have hm:l.length≤maxLen:=Nat.le_trans hr.1 hr.2.1
 unfold maxLen at hm
 have HR:=Lib.hid hr
 have HE0:Hid (Ext w (w.alloc (oN e))):=(Below.refl _ w).alloc (Nat.le_refl _) _
 have HX0:=Lib.hid (World.alloc_heap_new w (oN e))
 clear hr
 go_enter Tryz.func101,Tryz.ntmps101
 go_wp2_with fail
 generalize (w.alloc (oN e))=W0 at *
 go_loopg [5] l.length (fun gk i wr=>∃ k:Nat,k≤l.length∧Hid (gk=l.length - k)∧i=.int .i64 k∧Hid (∀ j (hj:j<l.length),j<k→l[j]≠e)∧Hid (Ext W0 wr))
 case atStart=>exact ⟨0,Nat.zero_le _,rfl,rfl,fun j _ h=>by omega,Below.refl _ _⟩
 case round=>
  obtain ⟨k,hk,HK,rfl,HG,HB⟩:=hrel
  have hB2:=HE0.out.trans (HB.out.mono HE0.out.size)
  have HB2:=Lib.hid hB2
  by_cases hlt:k<l.length
  ·obtain ⟨b,off,rfl,hbl,c0,c1,c2,c3,c4,c5,c6⟩:=ent_at (HR.out.ext hB2) k hlt
   obtain ⟨d0,d1,d2,d3,d4,d5,d6,df⟩:=seven_cells ((HB.out.block w.heap.size (blk_lt HX0.out)).trans HX0.out)
   have hli:(k:Int)<l.length:=by omega
   have heq:=eq_ent l[k] e
   clear hB2
   by_cases he:l[k]=e
   ·have HY:Hid (decide (e∈l)=true):=by show _=_;rw [decide_eq_true_eq,←he];exact List.getElem_mem hlt
    rw [decide_eq_true he] at heq
    clear he
    go_wp2_with fail
    go_region
    go_wp2_with fail
    go_ret
    exact ⟨by rw [HY.out];rfl,Below.drew HB2.out⟩
   ·have HNE:=Lib.hid he
    rw [decide_eq_false he] at heq
    clear he
    go_wp2_with fail
    go_region
    go_wp2_with fail
    go_roundg (l.length - (k+1))
    case measure=>have:=HK.out;omega
    case rel=>
     refine ⟨k+1,by omega,rfl,by go_num,Lib.hid (fun j hj hjk=>?_),Below.drew HB.out⟩
     rcases Nat.lt_or_eq_of_le (Nat.le_of_lt_succ hjk) with h | h
     ·exact HG.out j hj h
     ·subst h;exact HNE.out
  ·have HN:Hid (decide (e∈l)=false):=by
    show _=_
    rw [decide_eq_false_iff_not]
    intro h
    obtain ⟨j,hj,h9⟩:=List.getElem_of_mem h
    exact HG.out j hj (by omega) h9
   have hli:¬((k:Int)<l.length):=by omega
   clear hB2
   go_wp2_with fail
   go_ret
   exact ⟨by rw [HN.out];rfl,HB2.out⟩
structure TwoApp {α:Type} [Flat α] (e s:TypeId) (W:World) (A:Option Addr) (c:Nat) (l:List α) (x:α) (cs:Array Value):Prop where
 a:∃ v1 w1 v w',(Builtin.append_ #[s,s] s #[.slice (some ⟨W.heap.size,0,none⟩) 0 0,.slice A l.length c]).run Tryz.prog (W.alloc (.cells #[] e)).drew=.ok v1 w1∧(Builtin.append_ #[s,s] s #[v1,.slice (some ⟨w1.heap.size,0,none⟩) 1 1]).run Tryz.prog (w1.alloc (.cells cs e))=.ok v w'∧Own e w' W.heap.size v (l++[x])∧Ext W w'∧Ext W w1
 b:∃ v1 w1 v w',(Builtin.append_ #[s,s] s #[.slice (some ⟨W.heap.size,0,none⟩) 0 0,.slice A l.length c]).run Tryz.prog ((W.alloc (.cells #[] e)).alloc (.cells cs e)).drew=.ok v1 w1∧(Builtin.append_ #[s,s] s #[v1,.slice (some ⟨W.heap.size+1,0,none⟩) 1 1]).run Tryz.prog w1=.ok v w'∧Own e w' W.heap.size v (l++[x])∧Ext W w'
 c:∃ v1 w1 v w',(Builtin.append_ #[s,s] s #[.slice (some ⟨W.heap.size+1,0,none⟩) 0 0,.slice A l.length c]).run Tryz.prog ((W.alloc (.cells cs e)).alloc (.cells #[] e)).drew=.ok v1 w1∧(Builtin.append_ #[s,s] s #[v1,.slice (some ⟨W.heap.size,0,none⟩) 1 1]).run Tryz.prog w1=.ok v w'∧Own e w' W.heap.size v (l++[x])∧Ext W w'
theorem two_app {α:Type} [Flat α] {e s:TypeId} (E:El α e s) (W:World) (A:Option Addr) (c:Nat) (l:List α) (x:α) (cs:Array Value) (hr:Rd W A c l) (hx:Flat.okE x) (hc:cs.toList=Flat.enc x) (hl:l.length<1000000):TwoApp e s W A c l x cs:=by
 have hd:Ext W W.drew:=(Below.refl _ W).drew
 refine ⟨?_,?_,?_⟩
 ·have hEa:Ext W (W.alloc (.cells #[] e)).drew:=((Below.refl _ W).alloc (Nat.le_refl _) _).drew
  obtain ⟨v1,w1,h1,o1,g1⟩:=app_at E ((own_made (e:=e) (α:=α) W W.heap.size (Nat.le_refl _)).below (Below.refl _ _).drew) (hr.ext hEa) (by simp;omega) (by show W.heap.size≤(W.alloc (.cells #[] e)).heap.size;rw [alloc_sz];omega)
  rw [List.nil_append] at o1
  have hE1:Ext W w1:=ext_grown hEa g1 (by show W.heap.size≤(W.alloc (.cells #[] e)).heap.size;rw [alloc_sz];omega) (fun k hk=>by simp only [Value.ownBlock,Option.some.injEq] at hk;omega)
  obtain ⟨v,w',h2,o2,g2⟩:=app_one E o1 x hx hl hE1.size cs hc
  exact ⟨v1,w1,v,w',h1,h2,o2,o1.over_one hE1 g2 (Nat.le_refl _) hE1.size,hE1⟩
 ·have hEb:Ext W ((W.alloc (.cells #[] e)).alloc (.cells cs e)).drew:=(((Below.refl _ W).alloc (Nat.le_refl _) _).alloc (by rw [alloc_sz];omega) _).drew
  have hsz:((W.alloc (.cells #[] e)).alloc (.cells cs e)).drew.heap.size=W.heap.size+2:=by show ((W.alloc (.cells #[] e)).alloc (.cells cs e)).heap.size=_;rw [alloc_sz,alloc_sz]
  have hbx:Rd ((W.alloc (.cells #[] e)).alloc (.cells cs e)).drew (some ⟨W.heap.size+1,0,none⟩) 1 [x]:=by
   have h:=rd_box (W.alloc (.cells #[] e)) x hx cs hc e
   rw [alloc_sz] at h
   exact h.ext (Below.refl _ _).drew
  have o0:Own e ((W.alloc (.cells #[] e)).alloc (.cells cs e)).drew W.heap.size (.slice (some ⟨W.heap.size,0,none⟩) 0 0) ([]:List α):=(own_made (e:=e) (α:=α) W W.heap.size (Nat.le_refl _)).below (((Below.refl _ _).alloc (Nat.le_refl _) _).drew)
  obtain ⟨v1,w1,h1,o1,g1⟩:=app_at E o0 (hr.ext hEb) (by simp;omega) (by omega)
  rw [List.nil_append] at o1
  have hE1:Ext W w1:=ext_grown hEb g1 (by omega) (fun k hk=>by simp only [Value.ownBlock,Option.some.injEq] at hk;omega)
  have hb1:=hbx.grown g1 (fun b off e=>by injection e with e;injection e with e1 _;simp only [Value.ownBlock,ne_eq,Option.some.injEq];omega)
  have h2:=app_at E o1 hb1 (by simp;omega) hE1.size
  rw [List.length_singleton] at h2
  obtain ⟨v,w',h2,o2,g2⟩:=h2
  exact ⟨v1,w1,v,w',h1,h2,o2,o1.over hE1 g2 (Nat.le_refl _) hE1.size⟩
 ·have hEc:Ext W ((W.alloc (.cells cs e)).alloc (.cells #[] e)).drew:=(((Below.refl _ W).alloc (Nat.le_refl _) _).alloc (by rw [alloc_sz];omega) _).drew
  have hsz:((W.alloc (.cells cs e)).alloc (.cells #[] e)).drew.heap.size=W.heap.size+2:=by show ((W.alloc (.cells cs e)).alloc (.cells #[] e)).heap.size=_;rw [alloc_sz,alloc_sz]
  have hbx:Rd ((W.alloc (.cells cs e)).alloc (.cells #[] e)).drew (some ⟨W.heap.size,0,none⟩) 1 [x]:=(rd_box W x hx cs hc e).ext (((Below.refl _ _).alloc (Nat.le_refl _) _).drew)
  have o0:Own e ((W.alloc (.cells cs e)).alloc (.cells #[] e)).drew W.heap.size (.slice (some ⟨W.heap.size+1,0,none⟩) 0 0) ([]:List α):=by
   have h:=own_made (e:=e) (α:=α) (W.alloc (.cells cs e)) W.heap.size (by rw [alloc_sz];omega)
   rw [alloc_sz] at h
   exact h.below (Below.refl _ _).drew
  obtain ⟨v1,w1,h1,o1,g1⟩:=app_at E o0 (hr.ext hEc) (by simp;omega) (by omega)
  rw [List.nil_append] at o1
  have hE1:Ext W w1:=ext_grown hEc g1 (by omega) (fun k hk=>by simp only [Value.ownBlock,Option.some.injEq] at hk;omega)
  have hb1:=hbx.grown g1 (fun b off e=>by injection e with e;injection e with e1 _;simp only [Value.ownBlock,ne_eq,Option.some.injEq];omega)
  have h2:=app_at E o1 hb1 (by simp;omega) hE1.size
  rw [List.length_singleton] at h2
  obtain ⟨v,w',h2,o2,g2⟩:=h2
  exact ⟨v1,w1,v,w',h1,h2,o2,o1.over hE1 g2 (Nat.le_refl _) hE1.size⟩
theorem at_world {P:Program} {o:Oper} {a:Act} {K:Act→World→Prop} {Q:Exit→Act→World→Prop} {E c:Prop} [Decidable c] (w:World) (h:if c then Oper.wp P o a w K Q else E):if c then Oper.wp P o a w K Q else E:=h
def addS (l:List Entry) (e:Entry):List Entry × Int:=if e∈l then (l,0) else if e.seq≠cntW l e.who+1∨40≤l.length then (l,-1) else (l++[e],1)
set_option maxRecDepth 100000 in
set_option maxHeartbeats 4000000 in
theorem add_s (A:Option Addr) (c:Nat) (l:List Entry) (e:Entry) (w:World) (hr:RdT 35 w A c l) (he:e.op.text.size≤maxLen) (hl:l.length≤1000) :
  Calls Tryz.prog 163 #[.slice A l.length c,.agg (cN e)] w fun x w'=>∃ A' c',x=.returned (.tuple #[.slice A' (addS l e).1.length c',.int .i64 (addS l e).2])∧RdT 35 w' A' c' (addS l e).1∧Ext w w':=by
 have HR:=Lib.hid hr
 have HE0:Hid (Ext w (w.alloc (oN e))):=(Below.refl _ w).alloc (Nat.le_refl _) _
 have HX0:=Lib.hid (World.alloc_heap_new w (oN e))
 have hcl:cntW l e.who≤l.length:=cntW_le l e.who
 clear hr
 go_enter Tryz.func163,Tryz.ntmps163
 go_wp2_with fail
 generalize (w.alloc (oN e))=W0 at *
 refine (seq_s A c l e.who W0 (HR.out.1.ext HE0.out)).mono ?_
 rintro x w1 ⟨rfl,hw1⟩
 rw [hw1];clear hw1
 obtain ⟨d0,d1,d2,d3,d4,d5,d6,df⟩:=seven_cells HX0.out
 go_wp2_with fail
 refine (has_s A c l e W0 (HR.out.1.ext HE0.out)).mono ?_
 rintro x w2 ⟨rfl,hb2⟩
 have HE2:=Lib.hid (HE0.out.trans (hb2.mono HE0.out.size))
 have HX2:=Lib.hid ((hb2.block w.heap.size (blk_lt HX0.out)).trans HX0.out)
 clear hb2 d0 d1 d2 d3 d4 d5 d6 df
 obtain ⟨d0,d1,d2,d3,d4,d5,d6,df⟩:=seven_cells HX2.out
 by_cases hmem:e∈l
 ·have HRES:Hid (addS l e=(l,0)):=by show _=_;unfold addS;rw [if_pos hmem]
  rw [decide_eq_true hmem]
  clear hmem
  go_wp2_with fail
  go_ret2
  exact ⟨A,c,by rw [HRES.out];rfl,by rw [HRES.out];exact HR.out.ext HE2.out,HE2.out⟩
 rw [decide_eq_false hmem]
 have HM:=Lib.hid hmem
 clear hmem
 by_cases hseq:e.seq=cntW l e.who+1
 ·have hs':(e.seq != (cntW l e.who:Int)+1)=false:=by simp [hseq]
  have HSQ:=Lib.hid hseq
  clear hseq
  by_cases hlen:40≤l.length
  ·have HRES:Hid (addS l e=(l,-1)):=by show _=_;unfold addS;rw [if_neg HM.out,if_pos (.inr hlen)]
   have hlen':(40:Int)≤l.length:=by omega
   go_wp2_with fail
   go_ret2
   exact ⟨A,c,by rw [HRES.out];rfl,by rw [HRES.out];exact HR.out.ext HE2.out,HE2.out⟩
  ·have HRES:Hid (addS l e=(l++[e],1)):=by show _=_;unfold addS;rw [if_neg HM.out,if_neg (fun h=>h.elim (fun h=>h HSQ.out) hlen)]
   have hlen':¬((40:Int)≤l.length):=by omega
   have hTA:=two_app el_ent w2 A c l e (cN e) (HR.out.1.ext HE2.out) he rfl (by omega)
   obtain ⟨v1,w3,v,w',ra1,ra2,ra3,ra4,ra5⟩:=hTA.a
   obtain ⟨z0,z1,z2,z3,z4,z5,z6,zf⟩:=seven_cells ((ra5.block w.heap.size (blk_lt HX2.out)).trans HX2.out)
   have hltw:=blk_lt HX2.out
   obtain ⟨x1,y3,x,y',rb1,rb2,rb3,rb4⟩:=hTA.b
   obtain ⟨p1,q3,p,q',rc1,rc2,rc3,rc4⟩:=hTA.c
   have fin:∀ (z:Value) (W:World),Own 35 W w2.heap.size z (l++[e])→Ext w2 W→∃ A' c',Ending.returned (.tuple #[z,.int .i64 1])=Ending.returned (.tuple #[.slice A' (addS l e).1.length c',.int .i64 (addS l e).2])∧RdT 35 W A' c' (addS l e).1∧Ext w W:=fun z W ho hb=>by
    obtain ⟨A',c',rfl,hr⟩:=ho.rd
    exact ⟨A',c',by rw [HRES.out],by rw [HRES.out];exact ho.rdT,HE2.out.trans (hb.mono HE2.out.size)⟩
   have FIN:=Lib.hid fin;have RA3:=Lib.hid ra3;have RA4:=Lib.hid ra4;have RB3:=Lib.hid rb3;have RB4:=Lib.hid rb4;have RC3:=Lib.hid rc3;have RC4:=Lib.hid rc4
   clear hTA fin ra3 ra4 ra5 rb3 rb4 rc3 rc4
   go_wp2_with fail
   go_region_law (first
    |((with_reducible refine at_world ((w2.alloc (.cells #[] 35)).drew) ?_);refine step_append_run rfl _ _ _ rfl rfl rfl ra1 ?_)
    |((with_reducible refine at_world (w3.alloc (oN e)) ?_);refine step_append_run rfl _ _ _ rfl rfl rfl ra2 ?_)
    |((with_reducible refine at_world (((w2.alloc (.cells #[] 35)).alloc (oN e)).drew) ?_);refine step_append_run rfl _ _ _ rfl rfl rfl rb1 ?_)
    |((with_reducible refine at_world y3 ?_);refine step_append_run rfl _ _ _ rfl rfl rfl rb2 ?_)
    |((with_reducible refine at_world (((w2.alloc (oN e)).alloc (.cells #[] 35)).drew) ?_);refine step_append_run rfl _ _ _ rfl rfl rfl rc1 ?_)
    |((with_reducible refine at_world q3 ?_);refine step_append_run rfl _ _ _ rfl rfl rfl rc2 ?_))
   all_goals
    go_wp2_with fail
    go_ret2
    first
     |(clear RB3 RB4 RC3 RC4 rb2 rc2 y' q';exact FIN.out _ _ RA3.out RA4.out)
     |(clear RA3 RA4 RC3 RC4 ra2 rc2 w' q';exact FIN.out _ _ RB3.out RB4.out)
     |(clear RA3 RA4 RB3 RB4 ra2 rb2 w' y';exact FIN.out _ _ RC3.out RC4.out)
 ·have hs':(e.seq != (cntW l e.who:Int)+1)=true:=by simp [hseq]
  have HRES:Hid (addS l e=(l,-1)):=by show _=_;unfold addS;rw [if_neg HM.out,if_pos (.inl hseq)]
  clear hseq
  go_wp2_with fail
  go_ret2
  exact ⟨A,c,by rw [HRES.out];rfl,by rw [HRES.out];exact HR.out.ext HE2.out,HE2.out⟩
open Go.RowKit Go.Lib
theorem tri_cells {W:World} {b:Nat} {v0 v1 v2:Value} {ty:TypeId} (h:W.heap[b]?=some (.cells #[v0,v1,v2] ty (0,0))) :
  W.cell? ⟨b,0,none⟩=some v0∧W.cell? ⟨b,1,none⟩=some v1∧W.cell? ⟨b,2,none⟩=some v2∧∀ o,W.frozen? ⟨b,o,none⟩=false:=by
 refine ⟨by simp [World.cell?,h],by simp [World.cell?,h],by simp [World.cell?,h],fun o=>by simp [World.frozen?,h]⟩
theorem tri_set {W:World} {b:Nat} {a0 a1 a2 v0 v1 v2:Value} {ty:TypeId} (h:W.heap[b]?=some (.cells #[a0,a1,a2] ty (0,0))) :
  (((W.setCell ⟨b,0,none⟩ v0).setCell ⟨b,1,none⟩ v1).setCell ⟨b,2,none⟩ v2).heap[b]?=some (.cells #[v0,v1,v2] ty (0,0)):=set_at (v:=v2) (i:=2) (set_at (v:=v1) (i:=1) (set_at (v:=v0) (i:=0) h))
set_option maxRecDepth 100000 in
set_option maxHeartbeats 2000000 in
theorem scopy_s (L:Option Addr) (ln:Nat) (l:List Entry) (safe:Int) (up:Bool) (w:World) (hr:RdT 35 w L ln l) (hl:l.length≤1000) :
  Calls Tryz.prog 156 #[.agg #[.slice L l.length ln,.int .i64 safe,.bool up]] w fun x w'=>∃ L' n',x=.returned (.agg #[.slice L' l.length n',.int .i64 safe,.bool up])∧RdT 35 w' L' n' l∧Ext w w':=by
 have hr0:Rd w L ln l:=hr.1
 have hX:=two_new w (.cells #[.slice L l.length ln,.int .i64 safe,.bool up] 58) (.cells #[.slice none 0 0,.int .i64 0,.bool false] 58)
 have hE0:Ext w ((w.alloc (.cells #[.slice L l.length ln,.int .i64 safe,.bool up] 58)).alloc (.cells #[.slice none 0 0,.int .i64 0,.bool false] 58)):=((Below.refl _ w).alloc (Nat.le_refl _) _).alloc (by rw [alloc_sz];omega) _
 have hs0:((w.alloc (.cells #[.slice L l.length ln,.int .i64 safe,.bool up] 58)).alloc (.cells #[.slice none 0 0,.int .i64 0,.bool false] 58)).heap.size=w.heap.size+2:=by rw [alloc_sz,alloc_sz]
 obtain ⟨v3,w3,hrun,hown3,hg3⟩:=app_at el_ent (own_made (e:=35) (α:=Entry) ((w.alloc (.cells #[.slice L l.length ln,.int .i64 safe,.bool up] 58)).alloc (.cells #[.slice none 0 0,.int .i64 0,.bool false] 58)) (w.heap.size+2) (by omega)) ((hr0.ext hE0).alloc (.cells #[] 35)) (by simp;omega) (by rw [alloc_sz];omega)
 have hs3:=hg3.size
 rw [alloc_sz,hs0] at hs3
 have hE3:=ext_grown (hE0.alloc (by omega) (.cells #[] 35)) hg3 (by rw [alloc_sz];omega) (fun k hk=>by simp only [Value.ownBlock,Option.some.injEq] at hk;omega)
 have hx3:=(hg3.block w.heap.size (by rw [alloc_sz];omega) (fun e=>by simp only [Value.ownBlock,Option.some.injEq] at e;omega)).trans ((Below.heap_alloc _ (.cells #[] 35) w.heap.size (by omega)).trans hX.1)
 have hy3:=(hg3.block (w.heap.size+1) (by rw [alloc_sz];omega) (fun e=>by simp only [Value.ownBlock,Option.some.injEq] at e;omega)).trans ((Below.heap_alloc _ (.cells #[] 35) (w.heap.size+1) (by omega)).trans hX.2)
 rw [List.nil_append] at hown3
 obtain ⟨A3,n3,hv3,hr3⟩:=hown3.rd
 skip
 subst hv3
 have HO3:=Lib.hid hown3;have HE3:=Lib.hid hE3;have HX3:=Lib.hid hx3;have HY3:=Lib.hid hy3
 simp only [alloc_sz] at hrun
 obtain ⟨c0,c1,c2,cf⟩:=tri_cells hx3
 obtain ⟨d0,d1,d2,df⟩:=tri_cells hX.1
 have hlt1:w.heap.size<w3.heap.size:=by omega
 have hlt2:w.heap.size+1<w3.heap.size:=by omega
 obtain ⟨e0,e1,e2,ef⟩:=tri_cells hy3
 clear hX hE0 hs0 hr0 hown3 hr3 hg3 hE3 hx3 hy3
 go_enter Tryz.func156,Tryz.ntmps156
 go_wp2_with (at_builtin;refine wpList_append_run rfl _ _ _ rfl rfl rfl hrun ?_)
 have hz:=tri_set (v0:=.slice A3 l.length n3) (v1:=.int .i64 safe) (v2:=.bool up) ((setx (o:=0) (v:=.slice A3 l.length n3) (b:=w.heap.size) (by omega)).trans HY3.out)
 obtain ⟨k0,k1,k2,kf⟩:=tri_cells hz
 refine bodyPost_ret (v:=.agg #[.slice A3 l.length n3,.int .i64 safe,.bool up]) ?_ rfl ?_
 ·simp [results,Tryz.f156,go_sem,k0,k1,k2]
 ·refine ⟨A3,n3,rfl,?_,?_⟩
  ·exact (((HO3.out.rdT.set HX3.out (by decide) _ _).set ((setx (by omega)).trans HY3.out) (by decide) _ _).set (set_at ((setx (by omega)).trans HY3.out)) (by decide) _ _).set (set_at (set_at ((setx (by omega)).trans HY3.out))) (by decide) _ _
  ·exact (((HE3.out.setCell (Nat.le_refl _) _).setCell (Nat.le_succ _) _).setCell (Nat.le_succ _) _).setCell (Nat.le_succ _) _
set_option maxRecDepth 100000 in
set_option maxHeartbeats 2000000 in
theorem fall_s (L:Option Addr) (ln:Nat) (l:List Entry) (safe:Int) (up:Bool) (left:Int) (w:World) (hr:RdT 35 w L ln l) (hl:l.length≤1000) (h0:0≤safe) (h1:safe≤100) (h2:0≤left) (h3:left≤100) :
  Calls Tryz.prog 154 #[.agg #[.slice L l.length ln,.int .i64 safe,.bool up],.int .i64 left] w fun x w'=>∃ L' n',x=.returned (.agg #[.slice L' (l.take (min (l.length:Int) (safe+left)).toNat).length n',.int .i64 safe,.bool up])∧RdT 35 w' L' n' (l.take (min (l.length:Int) (safe+left)).toNat)∧Ext w w':=by
 have hr0:Rd w L ln l:=hr.1
 have hX:=two_new w (.cells #[.slice L l.length ln,.int .i64 safe,.bool up] 58) (.cells #[.slice none 0 0,.int .i64 0,.bool false] 58)
 have hE0:Ext w ((w.alloc (.cells #[.slice L l.length ln,.int .i64 safe,.bool up] 58)).alloc (.cells #[.slice none 0 0,.int .i64 0,.bool false] 58)):=((Below.refl _ w).alloc (Nat.le_refl _) _).alloc (by rw [alloc_sz];omega) _
 have hs0:((w.alloc (.cells #[.slice L l.length ln,.int .i64 safe,.bool up] 58)).alloc (.cells #[.slice none 0 0,.int .i64 0,.bool false] 58)).heap.size=w.heap.size+2:=by rw [alloc_sz,alloc_sz]
 obtain ⟨k,hk⟩:∃ k:Nat,k=(min (l.length:Int) (safe+left)).toNat:=⟨_,rfl⟩
 have hmin:min (l.length:Int) (safe+left)=(k:Int):=by omega
 have hkl:k≤l.length:=by omega
 have hsl:=fun (W:World)=>run_head el_ent L l.length ln k (by have:=hr0.1;omega) W
 have hszr:Flat.sz Entry=7:=rfl
 have hrh:=(hr0.ext hE0).head k
 simp only [hszr] at hsl hrh
 generalize fromA L ln 0 7=L7 at hsl hrh
 have hlk:(l.take k).length=k:=by rw [List.length_take];omega
 rw [←hk]
 obtain ⟨T,hT⟩:∃ T,T=l.take k:=⟨_,rfl⟩
 rw [←hT] at hrh hlk ⊢
 obtain ⟨v3,w3,hrun,hown3,hg3⟩:=app_at el_ent (own_made (e:=35) (α:=Entry) ((w.alloc (.cells #[.slice L l.length ln,.int .i64 safe,.bool up] 58)).alloc (.cells #[.slice none 0 0,.int .i64 0,.bool false] 58)) (w.heap.size+2) (by omega)) (hrh.alloc (.cells #[] 35)) (by simp;omega) (by rw [alloc_sz];omega)
 rw [hlk] at hrun
 rw [hlk]
 clear hT hk
 have hs3:=hg3.size
 rw [alloc_sz,hs0] at hs3
 have hE3:=ext_grown (hE0.alloc (by omega) (.cells #[] 35)) hg3 (by rw [alloc_sz];omega) (fun k hk=>by simp only [Value.ownBlock,Option.some.injEq] at hk;omega)
 have hx3:=(hg3.block w.heap.size (by rw [alloc_sz];omega) (fun e=>by simp only [Value.ownBlock,Option.some.injEq] at e;omega)).trans ((Below.heap_alloc _ (.cells #[] 35) w.heap.size (by omega)).trans hX.1)
 have hy3:=(hg3.block (w.heap.size+1) (by rw [alloc_sz];omega) (fun e=>by simp only [Value.ownBlock,Option.some.injEq] at e;omega)).trans ((Below.heap_alloc _ (.cells #[] 35) (w.heap.size+1) (by omega)).trans hX.2)
 rw [List.nil_append] at hown3
 obtain ⟨A3,n3,hv3,hr3⟩:=hown3.rd
 rw [hlk] at hv3
 subst hv3
 have HO3:=Lib.hid hown3;have HE3:=Lib.hid hE3;have HX3:=Lib.hid hx3;have HY3:=Lib.hid hy3
 simp only [alloc_sz] at hrun
 obtain ⟨c0,c1,c2,cf⟩:=tri_cells hx3
 obtain ⟨d0,d1,d2,df⟩:=tri_cells hX.1
 have hlt1:w.heap.size<w3.heap.size:=by omega
 have hlt2:w.heap.size+1<w3.heap.size:=by omega
 obtain ⟨e0,e1,e2,ef⟩:=tri_cells hy3
 clear hX hE0 hs0 hr0 hown3 hr3 hg3 hE3 hx3 hy3
 go_enter Tryz.func154,Tryz.ntmps154
 go_wp2_with (at_builtin;refine wpList_append_run rfl _ _ _ rfl rfl rfl hrun ?_)
 have hz:=tri_set (v0:=.slice A3 k n3) (v1:=.int .i64 safe) (v2:=.bool up) ((setx (o:=0) (v:=.slice A3 k n3) (b:=w.heap.size) (by omega)).trans HY3.out)
 obtain ⟨k0,k1,k2,kf⟩:=tri_cells hz
 refine bodyPost_ret (v:=.agg #[.slice A3 k n3,.int .i64 safe,.bool up]) ?_ rfl ?_
 ·simp [results,Tryz.f154,go_sem,k0,k1,k2]
 ·refine ⟨A3,n3,rfl,?_,?_⟩
  ·exact (((HO3.out.rdT.set HX3.out (by decide) _ _).set ((setx (by omega)).trans HY3.out) (by decide) _ _).set (set_at ((setx (by omega)).trans HY3.out)) (by decide) _ _).set (set_at (set_at ((setx (by omega)).trans HY3.out))) (by decide) _ _
  ·exact (((HE3.out.setCell (Nat.le_refl _) _).setCell (Nat.le_succ _) _).setCell (Nat.le_succ _) _).setCell (Nat.le_succ _) _
open Go.RowKit Go.Lib
structure RC where
 who:Int
 seen:Int
 b:Option Addr
 bl:Nat
 bn:Nat
 q:Option Addr
 ql:Nat
 qn:Nat
 done:Int
 made:Int
structure RL where
 dst:Int
 frm:Int
 a:Option Addr
 n:Nat
 c:Nat
instance:Flat RC:=⟨fun x=>[.int .i64 x.who,.int .i64 x.seen,.slice x.b x.bl x.bn,.slice x.q x.ql x.qn,.int .i64 x.done,.int .i64 x.made],6,fun _=>rfl,fun _ u hu=>by simp at hu;rcases hu with rfl | rfl | rfl | rfl | rfl | rfl <;> rfl,by omega,fun _=>True⟩
instance:Flat RL:=⟨fun x=>[.int .i64 x.dst,.int .i64 x.frm,.slice x.a x.n x.c],3,fun _=>rfl,fun _ u hu=>by simp at hu;rcases hu with rfl | rfl | rfl <;> rfl,by omega,fun _=>True⟩
theorem cli_info:∃ i:TypeInfo,Tryz.prog.info? 26=some i∧i.zero=some (.agg cC0)∧i.size=6∧i.bytes=80:=info_parts (by kernel_rfl)
theorem let_info:∃ i:TypeInfo,Tryz.prog.info? 104=some i∧i.zero=some (.agg #[.int .i64 0,.int .i64 0,.slice none 0 0])∧i.size=3∧i.bytes=40:=info_parts (by kernel_rfl)
theorem el_cli:El RC 26 59:=⟨by kernel_rfl,info_of cli_info (by decide) rfl rfl⟩
theorem el_let:El RL 104 60:=⟨by kernel_rfl,info_of let_info (by decide) rfl rfl⟩
theorem rc_at {w:World} {A:Option Addr} {c:Nat} {l:List RC} (h:Rd w A c l) (k:Nat) (hk:k<l.length) :
  ∃ b off,A=some ⟨b,off,none⟩∧b<w.heap.size∧w.cell? ⟨b,off+k*6,none⟩=some (.int .i64 l[k].who)∧w.cell? ⟨b,off+k*6+1,none⟩=some (.int .i64 l[k].seen)∧w.cell? ⟨b,off+k*6+2,none⟩=some (.slice l[k].b l[k].bl l[k].bn) ∧
   w.cell? ⟨b,off+k*6+3,none⟩=some (.slice l[k].q l[k].ql l[k].qn)∧w.cell? ⟨b,off+k*6+4,none⟩=some (.int .i64 l[k].done)∧w.cell? ⟨b,off+k*6+5,none⟩=some (.int .i64 l[k].made):=by
 obtain ⟨b,off,rfl,hb,hc⟩:=h.at_ k hk
 exact ⟨b,off,rfl,hb,hc 0 _ rfl,hc 1 _ rfl,hc 2 _ rfl,hc 3 _ rfl,hc 4 _ rfl,hc 5 _ rfl⟩
theorem rl_at {w:World} {A:Option Addr} {c:Nat} {l:List RL} (h:Rd w A c l) (k:Nat) (hk:k<l.length) :
  ∃ b off,A=some ⟨b,off,none⟩∧b<w.heap.size∧w.cell? ⟨b,off+k*3,none⟩=some (.int .i64 l[k].dst)∧w.cell? ⟨b,off+k*3+1,none⟩=some (.int .i64 l[k].frm)∧w.cell? ⟨b,off+k*3+2,none⟩=some (.slice l[k].a l[k].n l[k].c):=by
 obtain ⟨b,off,rfl,hb,hc⟩:=h.at_ k hk
 exact ⟨b,off,rfl,hb,hc 0 _ rfl,hc 1 _ rfl,hc 2 _ rfl⟩
/-! ### lists side by side -/
def All2 {α β:Type} (P:α→β→Prop) (xs:List α) (cs:List β):Prop:=xs.length=cs.length∧∀ (i:Nat) (h:i<xs.length) (h':i<cs.length),P xs[i] cs[i]
section
variable {α β:Type} {P Q:α→β→Prop} {xs ys:List α} {cs ds:List β}
theorem All2.imp (h:All2 P xs cs) (hi:∀ x c,P x c→Q x c):All2 Q xs cs:=⟨h.1,fun i h1 h2=>hi _ _ (h.2 i h1 h2)⟩
theorem All2.nil:All2 P [] []:=⟨rfl,fun i h _=>by simp at h⟩
theorem All2.append (h:All2 P xs cs) (k:All2 P ys ds):All2 P (xs++ys) (cs++ds):=by
 refine ⟨by rw [List.length_append,List.length_append,h.1,k.1],fun i h1 h2=>?_⟩
 by_cases hi:i<xs.length
 ·rw [List.getElem_append_left hi,List.getElem_append_left (by rw [←h.1];exact hi)]
  exact h.2 i _ _
 ·rw [List.getElem_append_right (by omega),List.getElem_append_right (by rw [←h.1];omega)]
  have:=k.2 (i - xs.length) (by rw [List.length_append] at h1;omega) (by rw [List.length_append,←h.1] at h2;omega)
  simpa only [h.1] using this
theorem All2.one {x:α} {c:β} (h:P x c):All2 P [x] [c]:=⟨rfl,fun i h1 _=>by
 have:i=0:=by simpa using h1
 subst this;exact h⟩
theorem All2.set (h:All2 P xs cs) (k:Nat) {x:α} {c:β} (hx:P x c):All2 P (xs.set k x) (cs.set k c):=by
 refine ⟨by rw [List.length_set,List.length_set,h.1],fun i h1 h2=>?_⟩
 rw [List.length_set] at h1 h2
 by_cases hi:k=i
 ·subst hi;rw [List.getElem_set_self,List.getElem_set_self];exact hx
 ·rw [List.getElem_set_ne hi,List.getElem_set_ne hi];exact h.2 i h1 h2
theorem All2.take (h:All2 P xs cs) (k:Nat):All2 P (xs.take k) (cs.take k):=by
 refine ⟨by rw [List.length_take,List.length_take,h.1],fun i h1 h2=>?_⟩
 rw [List.getElem_take,List.getElem_take];exact h.2 i _ _
theorem All2.drop (h:All2 P xs cs) (k:Nat):All2 P (xs.drop k) (cs.drop k):=by
 refine ⟨by rw [List.length_drop,List.length_drop,h.1],fun i h1 h2=>?_⟩
 rw [List.getElem_drop,List.getElem_drop];exact h.2 _ _ _
end
/-! ### what stays -/
structure Turn (S:Nat→Prop) (w w':World):Prop where
 os:w'.os=w.os
 tape:w'.tape=w.tape
 output:w'.output=w.output
 size:w.heap.size≤w'.heap.size
 block:∀ k,k<w.heap.size→¬S k→w'.heap[k]?=w.heap[k]?
theorem Turn.refl (S:Nat→Prop) (w:World):Turn S w w:=⟨rfl,rfl,rfl,Nat.le_refl _,fun _ _ _=>rfl⟩
theorem Turn.ext {S:Nat→Prop} {w w':World} (h:Ext w w'):Turn S w w':=⟨h.os,h.tape,h.output,h.size,fun k hk _=>h.block k hk⟩
theorem Turn.then {S S':Nat→Prop} {a b c:World} (h:Turn S a b) (k:Turn S' b c) (hs:∀ i,S' i→S i∨a.heap.size≤i):Turn S a c:=
 ⟨k.os.trans h.os,k.tape.trans h.tape,k.output.trans h.output,Nat.le_trans h.size k.size,fun i hi hn=>(k.block i (Nat.lt_of_lt_of_le hi h.size) (fun e=>by rcases hs i e with h1 | h1;exact hn h1;omega)).trans (h.block i hi hn)⟩
theorem Turn.thenE {S:Nat→Prop} {a b c:World} (h:Turn S a b) (k:Ext b c):Turn S a c:=h.then (S':=S) (Turn.ext k) (fun i hi=>.inl hi)
theorem Turn.grown {S:Nat→Prop} {w w':World} {row:Option Nat} (h:w.grownBy w' row) (hr:∀ k,row=some k→S k):Turn S w w':=
 ⟨h.os,h.tape,h.output,h.size,fun k hk hn=>h.block k hk (fun e=>hn (hr k e.symm))⟩
theorem Turn.below {S:Nat→Prop} {B:Nat} {w0 w w':World} (h:Turn S w w') (h0:Below B w0 w) (hS:∀ k,S k→B≤k) (hs:B≤w.heap.size):Below B w0 w':=
 ⟨h.os.trans h0.os,h.tape.trans h0.tape,h.output.trans h0.output,Nat.le_trans h0.size h.size,fun k hk=>(h.block k (by omega) (fun e=>by have:=hS k e;omega)).trans (h0.block k hk)⟩
theorem Turn.mono {S S':Nat→Prop} {w w':World} (h:Turn S w w') (hs:∀ k,S k→S' k):Turn S' w w':=⟨h.os,h.tape,h.output,h.size,fun k hk hn=>h.block k hk (fun e=>hn (hs k e))⟩
def KeepT (w w':World):Prop:=∀ (k:Nat) (cs:Array Value) (ty:TypeId) (m:Nat × Nat),w.heap[k]?=some (.cells cs ty m)→(ty=46∨ty=35∨ty=26∨ty=104)→w'.heap[k]?=some (.cells cs ty m)
theorem KeepT.ext {w w':World} (h:Ext w w'):KeepT w w':=fun k cs ty m hk _=>(h.block k (blk_lt hk)).trans hk
theorem KeepT.trans {a b c:World} (h:KeepT a b) (k:KeepT b c):KeepT a c:=fun i cs ty m hi ht=>k i cs ty m (h i cs ty m hi ht) ht
theorem KeepT.grown {w w':World} {r:Nat} {cs0:Array Value} {ty0:TypeId} {m0:Nat × Nat} (h:w.grownBy w' (some r)) (hr:w.heap[r]?=some (.cells cs0 ty0 m0)) (h1:ty0≠46) (h2:ty0≠35) (h3:ty0≠26) (h4:ty0≠104):KeepT w w':=by
 intro k cs ty m hk ht
 refine (h.block k (blk_lt hk) (fun e=>?_)).trans hk
 injection e with e
 subst e
 rw [hr] at hk
 injection hk with hk;injection hk with _ hk
 subst hk
 rcases ht with h | h | h | h
 ·exact h1 h
 ·exact h2 h
 ·exact h3 h
 ·exact h4 h
section
variable {α:Type} [Flat α] {e:TypeId} {w w':World} {A:Option Addr} {c:Nat} {l:List α}
theorem RdT.blk (h:RdT e w A c l) (hb:0<l.length→∀ bb off cs m,A=some ⟨bb,off,none⟩→w.heap[bb]?=some (.cells cs e m)→w'.heap[bb]?=w.heap[bb]?):RdT e w' A c l:=by
 refine ⟨⟨h.1.1,h.1.2.1,fun h0=>?_,h.1.2.2.2⟩,fun h0 bb off e0=>?_⟩
 ·obtain ⟨bb,off,rfl,hh⟩:=h.1.2.2.1 h0
  obtain ⟨cs,m,h1⟩:=h.2 h0 bb off rfl
  exact ⟨bb,off,rfl,fun j v hv=>(World.cell?_of_block (hb h0 bb off cs m rfl h1)).trans (hh j v hv)⟩
 ·obtain ⟨cs,m,h1⟩:=h.2 h0 bb off e0
  exact ⟨cs,m,(hb h0 bb off cs m e0 h1).trans h1⟩
theorem RdT.keep (h:RdT e w A c l) (hk:KeepT w w') (he:e=46∨e=35∨e=26∨e=104):RdT e w' A c l:=
 h.blk fun _ bb _ cs m _ h1=>(hk bb cs e m h1 he).trans h1.symm
theorem RdT.turn {S:Nat→Prop} (h:RdT e w A c l) (ht:Turn S w w') (hs:∀ k,S k→∀ cs m,w.heap[k]?≠some (.cells cs e m)):RdT e w' A c l:=
 h.blk fun _ bb _ cs m _ h1=>ht.block bb (blk_lt h1) (fun e0=>hs bb e0 cs m h1)
theorem Own.keep {base:Nat} {v:Value} (h:Own e w base v l) (hk:KeepT w w') (he:e=46∨e=35∨e=26∨e=104):Own e w' base v l:=by
 refine ⟨⟨h.1.1,?_⟩,h.2⟩
 rcases h.1.2 with h1 | ⟨g,cap,cur,h1,h2,h3,h4⟩
 ·exact .inl h1
 ·exact .inr ⟨g,cap,cur,h1,h2,hk g _ _ _ h3 he,h4⟩
theorem Own.turn {S:Nat→Prop} {base:Nat} {v:Value} (h:Own e w base v l) (ht:Turn S w w') (hs:∀ k,v.ownBlock=some k→¬S k):Own e w' base v l:=by
 refine ⟨⟨h.1.1,?_⟩,h.2⟩
 rcases h.1.2 with h1 | ⟨g,cap,cur,h1,h2,h3,h4⟩
 ·exact .inl h1
 ·exact .inr ⟨g,cap,cur,h1,h2,(ht.block g (blk_lt h3) (hs g (by rw [h1];rfl))).trans h3,h4⟩
theorem Own.ty {base:Nat} {v:Value} (h:Own e w base v l) (k:Nat) (hk:v.ownBlock=some k):∃ cs m,w.heap[k]?=some (.cells cs e m):=by
 rcases h.1.2 with ⟨rfl,_⟩ | ⟨g,cap,cur,rfl,_,h3,_⟩
 ·cases hk
 ·simp only [Value.ownBlock,Option.some.injEq] at hk
  subst hk;exact ⟨_,_,h3⟩
end
/-! ### worlds -/
structure Lt where
 dst:Int
 frm:Int
 list:List Entry
structure Wd where
 log:List Entry
 safe:Int
 up:Bool
 cls:List Client
 nets:List Lt
abbrev cR (x:RC):Array Value:=#[.int .i64 x.who,.int .i64 x.seen,.slice x.b x.bl x.bn,.slice x.q x.ql x.qn,.int .i64 x.done,.int .i64 x.made]
abbrev oR (x:RC):Obj:=.cells #[.int .i64 x.who,.int .i64 x.seen,.slice x.b x.bl x.bn,.slice x.q x.ql x.qn,.int .i64 x.done,.int .i64 x.made] 26
abbrev cL (m:Lt) (A:Option Addr) (n:Nat):Array Value:=#[.int .i64 m.dst,.int .i64 m.frm,.slice A m.list.length n]
abbrev oL (m:Lt) (A:Option Addr) (n:Nat):Obj:=.cells #[.int .i64 m.dst,.int .i64 m.frm,.slice A m.list.length n] 104
abbrev cW (w:Wd) (L:Option Addr) (l:Nat) (C:Option Addr) (x:List RC) (c:Nat) (N:Option Addr) (y:List RL) (n:Nat):Array Value:=#[.slice L w.log.length l,.int .i64 w.safe,.bool w.up,.slice C x.length c,.slice N y.length n]
abbrev oW (w:Wd) (L:Option Addr) (l:Nat) (C:Option Addr) (x:List RC) (c:Nat) (N:Option Addr) (y:List RL) (n:Nat):Obj:=.cells #[.slice L w.log.length l,.int .i64 w.safe,.bool w.up,.slice C x.length c,.slice N y.length n] 62
abbrev cW0:Array Value:=#[.slice none 0 0,.int .i64 0,.bool false,.slice none 0 0,.slice none 0 0]
abbrev oW0:Obj:=.cells #[.slice none 0 0,.int .i64 0,.bool false,.slice none 0 0,.slice none 0 0] 62
def RcOk (W:World) (x:RC) (c:Client):Prop:=∃ b bn q qn,x=⟨c.who,c.seen,b,c.base.length,bn,q,c.wait.length,qn,c.done,c.made⟩∧RdT 46 W b bn c.base∧RdT 35 W q qn c.wait
def LtOk (W:World) (x:RL) (m:Lt):Prop:=∃ a n,x=⟨m.dst,m.frm,a,m.list.length,n⟩∧RdT 35 W a n m.list
structure WP (W:World) (base:Nat) (w:Wd) (L:Option Addr) (ln:Nat) (C:Option Addr) (cc:Nat) (N:Option Addr) (nc:Nat) (xs:List RC) (ys:List RL):Prop where
 log:RdT 35 W L ln w.log
 cli:Own 26 W base (.slice C xs.length cc) xs
 let_:Own 104 W base (.slice N ys.length nc) ys
 cls:All2 (RcOk W) xs w.cls
 nets:All2 (LtOk W) ys w.nets
def WV (W:World) (base:Nat) (w:Wd) (v:Value):Prop:=
 ∃ L ln C cc N nc xs ys,v=.agg #[.slice L w.log.length ln,.int .i64 w.safe,.bool w.up,.slice C xs.length cc,.slice N ys.length nc]∧WP W base w L ln C cc N nc xs ys
theorem RcOk.keep {W W':World} {x:RC} {c:Client} (h:RcOk W x c) (hk:KeepT W W'):RcOk W' x c:=by
 obtain ⟨b,bn,q,qn,rfl,h1,h2⟩:=h
 exact ⟨b,bn,q,qn,rfl,h1.keep hk (.inl rfl),h2.keep hk (.inr (.inl rfl))⟩
theorem LtOk.keep {W W':World} {x:RL} {m:Lt} (h:LtOk W x m) (hk:KeepT W W'):LtOk W' x m:=by
 obtain ⟨a,n,rfl,h1⟩:=h
 exact ⟨a,n,rfl,h1.keep hk (.inr (.inl rfl))⟩
theorem WP.keep {W W':World} {base:Nat} {w:Wd} {L C N:Option Addr} {ln cc nc:Nat} {xs:List RC} {ys:List RL} (h:WP W base w L ln C cc N nc xs ys) (hk:KeepT W W'):WP W' base w L ln C cc N nc xs ys:=
 ⟨h.log.keep hk (.inr (.inl rfl)),h.cli.keep hk (.inr (.inr (.inl rfl))),h.let_.keep hk (.inr (.inr (.inr rfl))),h.cls.imp (fun _ _ h=>h.keep hk),h.nets.imp (fun _ _ h=>h.keep hk)⟩
theorem WV.keep {W W':World} {base:Nat} {w:Wd} {v:Value} (h:WV W base w v) (hk:KeepT W W'):WV W' base w v:=by
 obtain ⟨L,ln,C,cc,N,nc,xs,ys,rfl,hp⟩:=h
 exact ⟨L,ln,C,cc,N,nc,xs,ys,rfl,hp.keep hk⟩
theorem WP.ext {W W':World} {base:Nat} {w:Wd} {L C N:Option Addr} {ln cc nc:Nat} {xs:List RC} {ys:List RL} (h:WP W base w L ln C cc N nc xs ys) (hb:Ext W W'):WP W' base w L ln C cc N nc xs ys:=h.keep (KeepT.ext hb)
theorem WV.ext {W W':World} {base:Nat} {w:Wd} {v:Value} (h:WV W base w v) (hb:Ext W W'):WV W' base w v:=h.keep (KeepT.ext hb)
theorem WP.ct {W:World} {base:Nat} {w:Wd} {L C N:Option Addr} {ln cc nc:Nat} {xs:List RC} {ys:List RL} (h:WP W base w L ln C cc N nc xs ys) (k:Nat) (hk:k<xs.length) (hk':k<w.cls.length) :
  CT W w.cls[k] (.agg (cR xs[k])):=by
 obtain ⟨b,bn,q,qn,e,h1,h2⟩:=h.cls.2 k hk hk'
 rw [e]
 exact ⟨b,bn,q,qn,rfl,h1,h2⟩
/-! ### what is kept of a world -/
def LInv (m:Lt):Prop:=(0≤m.dst∧m.dst≤3)∧(0≤m.frm∧m.frm≤40)∧(∀ e∈m.list,entryOk e=true)∧m.list.length≤40∧(m.dst=0→0<m.list.length)
structure WInv (w:Wd):Prop where
 log:∀ e∈w.log,entryOk e=true
 len:w.log.length≤40
 safe0:0≤w.safe
 safe1:w.safe≤w.log.length
 three:w.cls.length=3
 cls:∀ c∈w.cls,clientOk c=true
 net:w.nets.length≤12
 nets:∀ m∈w.nets,LInv m
open Go.RowKit Go.Lib
/-! ### an outline's text -/
def decL (n:Nat):List UInt8:=if n<10 then [UInt8.ofNat (48+n)] else [UInt8.ofNat (48+n / 10),UInt8.ofNat (48+n % 10)]
def undec (l:List UInt8):Nat:=l.foldl (fun a c=>10*a+(c.toNat - 48)) 0
theorem undec_dec:∀ n,n<37→undec (decL n)=n:=by decide
def digit (c:UInt8):Bool:=decide (48≤c.toNat∧c.toNat≤57)
theorem decL_digits:∀ n,n<37→(decL n).all digit=true:=by decide
theorem decL_head:∀ n,n<37→∃ c l,decL n=c::l∧(c == 46)=false:=fun n h=>by
 have:∀ n,n<37→(match decL n with | c::_=>!(c == 46) | []=>false)=true:=by decide
 have:=this n h
 split at this
 ·next c l e=>exact ⟨c,l,e,by simpa using this⟩
 ·cases this
def txt (r:Row):List UInt8:=r.text.data.toList
def tailB (r:Row):List UInt8:=if txt r=[] then [] else 32::txt r
def lineB (r:Row):List UInt8:=List.replicate r.depth.toNat 46++(decL r.id.toNat++(tailB r++[10]))
def textB (t:List Row):List UInt8:=t.flatMap lineB
theorem rowOk_parts {r:Row} (h:rowOk r=true):0≤r.depth∧0≤r.id∧r.id.toNat<37∧(txt r).all letter=true:=by
 unfold rowOk at h
 cases hr:isRoot r.id
 ·simp only [hr,Bool.false_eq_true,if_false,Bool.and_eq_true,decide_eq_true_eq] at h
  obtain ⟨⟨h1,h2⟩,h3⟩:=h
  rw [isMade_iff] at h1
  unfold textOk at h3
  rw [Bool.and_eq_true] at h3
  exact ⟨by omega,by omega,by omega,h3.2⟩
 ·simp only [hr,if_true,Bool.and_eq_true,decide_eq_true_eq] at h
  rw [isRoot_iff] at hr
  exact ⟨by omega,by omega,by omega,by unfold txt;rw [h.2];rfl⟩
theorem takeW {p:UInt8→Bool} (l:List UInt8) (x:UInt8) (r:List UInt8) (h:∀ c∈l,p c=true) (hx:p x=false):(l++x::r).takeWhile p=l∧(l++x::r).dropWhile p=x::r:=by
 rw [List.takeWhile_append_of_pos h,List.dropWhile_append_of_pos h]
 simp [hx]
def un46 (l:List UInt8):List UInt8:=l.dropWhile (fun c=>c == 46)
def undg (l:List UInt8):List UInt8:=(un46 l).dropWhile digit
theorem line_parse {r:Row} (h:rowOk r=true) (rest:List UInt8):(lineB r++rest).takeWhile (fun c=>c == 46)=List.replicate r.depth.toNat 46∧(un46 (lineB r++rest)).takeWhile digit=decL r.id.toNat ∧
  (undg (lineB r++rest)).takeWhile (fun c=>!(c == 10))=tailB r∧(undg (lineB r++rest)).dropWhile (fun c=>!(c == 10))=10::rest:=by
 obtain ⟨h1,h2,h3,h4⟩:=rowOk_parts h
 have e:lineB r++rest=List.replicate r.depth.toNat 46++(decL r.id.toNat++(tailB r++10::rest)):=by simp [lineB]
 obtain ⟨c,l,ec,hc⟩:=decL_head _ h3
 obtain ⟨a1,a2⟩:=takeW (p:=fun c=>c == 46) (List.replicate r.depth.toNat 46) c (l++(tailB r++10::rest)) (fun x hx=>by rw [(List.mem_replicate.1 hx).2];rfl) hc
 rw [←List.cons_append,←ec] at a1 a2
 have ht:∃ x y,tailB r++10::rest=x::y∧digit x=false:=by
  unfold tailB
  split
  ·exact ⟨_,_,rfl,by decide⟩
  ·exact ⟨_,_,rfl,by decide⟩
 obtain ⟨x,y,ex,hx⟩:=ht
 obtain ⟨b1,b2⟩:=takeW (p:=digit) (decL r.id.toNat) x y (List.all_eq_true.1 (decL_digits _ h3)) hx
 rw [←ex] at b1 b2
 have hl:∀ c∈tailB r,(!(c == 10))=true:=by
  unfold tailB
  split
  ·simp
  ·intro c hc
   rcases List.mem_cons.1 hc with rfl | hc
   ·rfl
   ·have:=List.all_eq_true.1 h4 c hc
    unfold letter at this
    rw [decide_eq_true_eq] at this
    simp only [Bool.not_eq_true',beq_eq_false_iff_ne,ne_eq]
    rintro rfl
    exact absurd this.1 (by decide)
 obtain ⟨d1,d2⟩:=takeW (p:=fun c=>!(c == 10)) (tailB r) 10 rest hl rfl
 unfold undg un46
 rw [e,a1,a2,b1,b2,d1,d2]
 exact ⟨rfl,rfl,rfl,rfl⟩
theorem row_same {a b:Row} (h1:a.id=b.id) (h2:a.depth=b.depth) (h3:txt a=txt b):a=b:=by
 obtain ⟨i,d,⟨⟨t⟩⟩⟩:=a
 obtain ⟨i',d',⟨⟨t'⟩⟩⟩:=b
 simp only [txt] at h1 h2 h3
 subst h1;subst h2;subst h3;rfl
theorem line_inj {a b:Row} (ha:rowOk a=true) (hb:rowOk b=true) {x y:List UInt8} (h:lineB a++x=lineB b++y):a=b∧x=y:=by
 obtain ⟨a1,a2,a3,a4⟩:=line_parse ha x
 obtain ⟨b1,b2,b3,b4⟩:=line_parse hb y
 rw [h] at a1 a2 a3 a4
 rw [a1] at b1;rw [a2] at b2;rw [a3] at b3;rw [a4] at b4
 have pa:=rowOk_parts ha;have pb:=rowOk_parts hb
 have e1:=congrArg List.length b1
 simp only [List.length_replicate] at e1
 have e2:=congrArg undec b2
 rw [undec_dec _ pa.2.2.1,undec_dec _ pb.2.2.1] at e2
 refine ⟨row_same (by omega) (by omega) ?_,(List.cons.inj b4).2⟩
 unfold tailB at b3
 split at b3 <;> split at b3
 ·next h1 h2=>rw [h1,h2]
 ·cases b3
 ·cases b3
 ·exact (List.cons.inj b3).2
theorem text_inj:∀ {a b:List Row},(∀ r∈a,rowOk r=true)→(∀ r∈b,rowOk r=true)→textB a=textB b→a=b
 |[],[],_,_,_=>rfl
 |[],b::bs,_,_,h=>by simp [textB,lineB] at h
 |a::xs,[],_,_,h=>by simp [textB,lineB] at h
 |a::xs,b::ys,ha,hb,h=>by
  simp only [textB,List.flatMap_cons] at h
  obtain ⟨rfl,e⟩:=line_inj (ha a (by simp)) (hb b (by simp)) h
  rw [text_inj (fun r hr=>ha r (by simp [hr])) (fun r hr=>hb r (by simp [hr])) e]
/-! ### worlds that are ok -/
def mine (l:List Entry) (who:Int):List Entry:=l.filter fun e=>decide (e.who=who)
def ownOf (log:List Entry) (c:Client):List Entry:=mine (log.take c.seen.toNat) c.who++c.wait
def madesOk (who:Int):Int→List Entry→Option Int
 |m,[]=>some m
 |m,e::l=>if e.op.kind=1 then (if e.op.id=rowMade who (m+1) then madesOk who (m+1) l else none) else madesOk who m l
def cliFits (log:List Entry) (safe who:Int) (c:Client):Bool:=
 clientOk c&&decide (c.who=who)&&decide (c.seen≤safe)&&decide (c.base=treeOf (log.take c.seen.toNat))&&decide (c.done=cntW (log.take c.seen.toNat) who) &&
  decide (madesOk who 0 (ownOf log c)=some c.made)&&(mine log who).all fun e=>decide (e∈ownOf log c)
def letFits (log:List Entry) (safe:Int) (cls:List Client) (m:Lt):Bool:=
 if m.dst=0 then match m.list with
  |[e]=>decide (m.frm=0)&&entryOk e&&(match cls[(e.who - 1).toNat]? with | some c=>decide (e∈ownOf log c) | none=>false)
  |_=>false
 else isWho m.dst&&decide (0≤m.frm∧m.frm≤safe)&&decide ((m.list.length:Int)≤safe - m.frm)&&decide (m.list=(log.drop m.frm.toNat).take m.list.length)
def cliAt (w:Wd) (i:Nat):Bool:=match w.cls[i]? with | some c=>cliFits w.log w.safe (i+1) c | none=>false
def worldOk (w:Wd):Bool:=
 logOk w.log&&decide (0≤w.safe∧w.safe≤w.log.length)&&decide (w.cls.length=3)&&decide (w.nets.length≤12)&&(List.range 3).all (cliAt w)&&w.nets.all (letFits w.log w.safe w.cls)
end Go.Proofs.YtecmcjfdaipfcaaGreatDoor
