/- The walk of laws.FnClientShow, over what is drawn. .. THE ROW AND THE CARD OF laws.FnHearOthers. -/
import Derived.Test.YtecmcjfdaipfcaaGreatDoorZAX
import Derived.Test.YtecmcjfdaipfcaaGreatDoorZAP
import Derived.Test.YtecmcjfdaipfcaaGreatDoorZAF
import Derived.Test.YtecmcjfdaipfcaaGreatDoorZAM
import Derived.Test.YtecmcjfdaipfcaaGreatDoorZAL
import Derived.Test.YtecmcjfdaipfcaaGreatDoorZAK
namespace Go.Proofs.YtecmcjfdaipfcaaGreatDoor
open Go.RowKit
set_option linter.unusedVariables false
def DShowP (w:World) (e:Ending) (w':World):Prop:=∃ (c:Client) (v:Value),e=.returned v∧CV w' c v∧CW c∧Ext w w'
def DrawsShow:Prop:=∀ (A:Option Addr) (n:Nat) (bs:List UInt8) (w:World),Rd w A n bs→(∀ b off,A=some ⟨b,off,none⟩→b<w.heap.size)→Calls Tryz.prog 15 #[.slice A bs.length n] w (DShowP w)
open Go.RowKit Go.Lib
set_option maxRecDepth 100000 in
set_option maxHeartbeats 1000000 in
theorem drawsShow:DrawsShow:=by
 intro A n bs w hr hA
 have hE1:Ext w (w.alloc oC0):=(Below.refl _ _).alloc (Nat.le_refl _) _
 have HZ0:=Lib.hid (World.alloc_heap_new w oC0);have HE0:=Lib.hid hE1
 have hz1:=alloc_sz w oC0
 have HO:=Lib.hid (open_d A n bs (w.alloc oC0) (hr.ext hE1) (fun b off e=>by have:=hA b off e;omega))
 clear hE1 hr hA
 go_enter Tryz.func15,Tryz.ntmps15
 go_wp2_with fail
 generalize (w.alloc oC0)=W0 at *
 refine HO.out.mono ?_
 rintro e w1 ⟨rfl,hr1,hb1⟩
 have hs1:=hb1.size
 have HC:=Lib.hid (client_d W0.heap.size 0 w1 hr1 (by omega))
 have HB1:=Lib.hid hb1
 clear hr1 hb1 HO
 rw [hz1] at HC
 go_wp2_with fail
 refine HC.out.mono ?_
 rintro e w2 ⟨c,v,p',rfl,hco,hcw,-,-,-,hg⟩
 have hE2:Ext w w2:=ext_grown (HE0.out.trans (HB1.out.mono (by omega))) hg (by omega) (fun k e=>by injection e with e;omega)
 have hz2:w2.heap[w.heap.size]?=some (.cells cC0 26 (0,0)):=(hg.block _ (blk_lt ((HB1.out.block _ (blk_lt HZ0.out)).trans HZ0.out)) (fun e=>by injection e with e;omega)).trans ((HB1.out.block _ (blk_lt HZ0.out)).trans HZ0.out)
 obtain ⟨b,bn,qq,qn,rfl,h1,h2⟩:=hco
 have hz3:=put6_at (.int .i64 c.who) (.int .i64 c.seen) (.slice b c.base.length bn) (.slice qq c.wait.length qn) (.int .i64 c.done) (.int .i64 c.made) hz2
 have hcv:CV (put6 w2 w.heap.size (.int .i64 c.who) (.int .i64 c.seen) (.slice b c.base.length bn) (.slice qq c.wait.length qn) (.int .i64 c.done) (.int .i64 c.made)) c (.agg (cC c b bn qq qn)):=⟨b,bn,qq,qn,rfl,(h1.rdT.put6 hz2 (by decide) _ _ _ _ _ _).1,(h2.rdT.put6 hz2 (by decide) _ _ _ _ _ _).1⟩
 have hE3:Ext w (put6 w2 w.heap.size (.int .i64 c.who) (.int .i64 c.seen) (.slice b c.base.length bn) (.slice qq c.wait.length qn) (.int .i64 c.done) (.int .i64 c.made)):=put6_below _ _ _ _ _ _ hE2 (Nat.le_refl _)
 have HF:Hid (DShowP w (.returned (.agg (cC c b bn qq qn))) (put6 w2 w.heap.size (.int .i64 c.who) (.int .i64 c.seen) (.slice b c.base.length bn) (.slice qq c.wait.length qn) (.int .i64 c.done) (.int .i64 c.made))):=⟨c,_,rfl,hcv,hcw,hE3⟩
 have HZ3:=Lib.hid hz3
 obtain ⟨d0,d1,d2,d3,d4,d5,df⟩:=six_cells hz2
 clear hz2 hz3 hcv hE2 hE3 hg h1 h2 hcw HC
 go_wp2_with fail
 obtain ⟨k0,k1,k2,k3,k4,k5,kf⟩:=six_cells HZ3.out
 refine bodyPost_ret (v:=.agg (cC c b bn qq qn)) ?_ rfl ?_
 ·simp [results,Tryz.f15,go_sem,k0,k1,k2,k3,k4,k5]
 ·exact HF.out
open Go.RowKit
theorem clientHear_of {c:Client} {frm:Int} {l q:List Entry} {t:List Row} {d n:Int} (hok:clientOk c=true) (h0:0≤frm) (h1:frm≤40) (hall:∀ e∈l,entryOk e=true) (hf:frm≤c.seen) (hl:frm+l.length≤40) (hh:hearL c.who (l.drop (c.seen - frm).toNat) c.wait c.base c.done c.seen=some (q,t,d,n)) :
  clientHear c frm l=(⟨c.who,n,t,q,d,c.made⟩,true):=by
 rw [clientHear_S c frm l hok h0 h1 hall]
 unfold hearS
 rw [if_neg (by omega),hh]
theorem hear_parts {c:Client} {frm:Int} {l:List Entry} (h:(clientHear c frm l).2=true) :
  (clientHear c frm l).1=⟨c.who,max c.seen (frm+l.length),runOps c.base (l.drop (c.seen - frm).toNat),c.wait.drop (ownN c.who (l.drop (c.seen - frm).toNat)),c.done+ownN c.who (l.drop (c.seen - frm).toNat),c.made⟩∧ownN c.who (l.drop (c.seen - frm).toNat)≤c.wait.length∧clientOk (clientHear c frm l).1=true:=by
 obtain ⟨hok,h0,h1,hall,hf,hl,q,t,d,n,hh,he⟩:=clientHear_true h
 obtain ⟨a1,a2,a3,a4,a5⟩:=hearL_some _ _ _ _ _ _ _ _ _ _ hh
 have hk:clientOk (clientHear c frm l).1=true:=by rw [clientHear_S c frm l hok h0 h1 hall];exact hearS_ok hok h0 hall
 refine ⟨?_,a2,hk⟩
 rw [he,a1,a3,a4,a5,List.length_drop]
 simp only [Client.mk.injEq,true_and,and_true]
 omega
theorem hear_twice {c:Client} {frm:Int} {l:List Entry} (h:(clientHear c frm l).2=true):clientHear (clientHear c frm l).1 frm l=((clientHear c frm l).1,true):=by
 obtain ⟨hp,-,hk⟩:=hear_parts h
 obtain ⟨hok,h0,h1,hall,hf,hl,_⟩:=clientHear_true h
 generalize hx:(clientHear c frm l).1=x at hp hk
 have hs:x.seen=max c.seen (frm+l.length):=by rw [hp]
 have hd:l.drop (x.seen - frm).toNat=[]:=List.drop_of_length_le (by omega)
 rw [clientHear_of (q:=x.wait) (t:=x.base) (d:=x.done) (n:=x.seen) hk h0 h1 hall (by omega) hl (by rw [hd];rfl)]
theorem hear_cut {c:Client} {frm:Int} {l:List Entry} (h:(clientHear c frm l).2=true) (k:Nat) (hkl:k≤l.length) :
  (clientHear c frm (l.take k)).2=true∧clientHear (clientHear c frm (l.take k)).1 (frm+k) (l.drop k)=clientHear c frm l:=by
 obtain ⟨hok,h0,h1,hall,hf,hl,q,t,d,n,hh,he⟩:=clientHear_true h
 have hlk:(l.take k).length=k:=by rw [List.length_take];omega
 have hld:(l.drop k).length=l.length - k:=List.length_drop
 have hs40:=(clientOk_parts hok).2.2.1
 have hall1:∀ e∈l.take k,entryOk e=true:=fun e he=>hall e (List.mem_of_mem_take he)
 have hall2:∀ e∈l.drop k,entryOk e=true:=fun e he=>hall e (List.mem_of_mem_drop he)
 obtain ⟨j,hj⟩:∃ j:Nat,j=(c.seen - frm).toNat:=⟨_,rfl⟩
 rw [←hj] at hh
 have hsplit:l.drop j=(l.take k).drop j++(l.drop k).drop (j - k):=by
  have h9:=List.drop_append (l₁:=l.take k) (l₂:=l.drop k) (i:=j)
  rw [List.take_append_drop,hlk] at h9
  exact h9
 rw [hsplit,hearL_append] at hh
 cases h1':hearL c.who ((l.take k).drop j) c.wait c.base c.done c.seen with
 |none=>rw [h1'] at hh;cases hh
 |some p=>
  obtain ⟨q1,t1,d1,n1⟩:=p
  rw [h1'] at hh
  simp only [Option.bind_some] at hh
  have e1:=clientHear_of (frm:=frm) (l:=l.take k) (q:=q1) (t:=t1) (d:=d1) (n:=n1) hok h0 h1 hall1 hf (by omega) (by rw [←hj];exact h1')
  have hk1:clientOk (clientHear c frm (l.take k)).1=true:=by rw [clientHear_S c frm (l.take k) hok h0 h1 hall1];exact hearS_ok hok h0 hall1
  rw [e1] at hk1 ⊢
  refine ⟨rfl,?_⟩
  have hn1:n1=c.seen+((l.take k).drop j).length:=(hearL_some _ _ _ _ _ _ _ _ _ _ h1').2.2.2.2
  rw [List.length_drop,hlk] at hn1
  rw [he]
  have hjn:(n1 - (frm+k)).toNat=j - k:=by omega
  exact clientHear_of (c:=⟨c.who,n1,t1,q1,d1,c.made⟩) hk1 (by omega) (by omega) hall2 (by show frm+k≤n1;omega) (by omega) (by show hearL c.who ((l.drop k).drop (n1 - (frm+k)).toNat) q1 t1 d1 n1=_;rw [hjn];exact hh)
open Go.RowKit
namespace T
theorem doT_sub (t:T) (h:Valid t) (o:Op) (ho:opOk o=true):∀ a∈ids (doT t o),a∈ids t∨(o.kind=1∧a=o.id):=by
 obtain ⟨hm,hk,htx,hpos⟩:=opOk_kind ho
 have hr3:=h.root 3 rfl
 have hroot:isRoot o.id=false:=made_not_root _ hm
 have hn:=near_ok t h.2.2 hr3.1 o.id o.up o.pos
 unfold doT
 rcases hk with hk | hk | hk
 ·rw [if_neg (by omega),if_pos hk]
  split
  ·exact fun a ha=>.inl ha
  ·have hpm:=put_perm t h.2.2 o.id o.text nil (near t o.id o.up o.pos) hn.1 (fun h0=>by
    obtain ⟨e,_,hu,_⟩:=hn.2 h0
    rw [e] at h0 ⊢
    exact up_mem t h.2.2 _ _ hu)
   intro a ha
   rw [hpm.mem_iff,List.mem_cons,List.mem_append] at ha
   rcases ha with ha | ha | ha
   ·exact .inr ⟨hk,ha⟩
   ·cases ha
   ·exact .inl ha
 ·rw [if_pos hk,setT_ids]
  exact fun a ha=>.inl ha
 ·rw [if_neg (by omega),if_neg (by omega),if_pos hk]
  cases hg:get o.id t with
  |none=>exact fun a ha=>.inl ha
  |some p=>
   obtain ⟨x,f⟩:=p
   simp only
   split
   ·exact fun a ha=>.inl ha
   ·rename_i hq
    obtain ⟨hndc,hsub,hback,hfwd⟩:=cut_facts t h.2.2 o.id x f hg
    have h3f:3∉ids f:=by
     intro h3
     obtain ⟨q,hq,_⟩:=under_in t h.2.2 o.id x f hg 3 h3
     rw [hr3.2] at hq;cases hq
    have hpm:=put_perm (cut o.id t) hndc o.id x f (near t o.id o.up o.pos) (by
     unfold near
     split
     ·rename_i hu
      exact hback o.up hu (fun e=>hq (.inl e)) (fun e=>hq (.inr e))
     ·exact hback 3 hr3.1 (fun e=>by rw [←e] at hroot;cases hroot) h3f) (fun h0=>by
     obtain ⟨e,hne,hu,hup⟩:=hn.2 h0
     rw [e] at h0 ⊢
     rw [hup] at hu
     exact hback o.pos (up_mem t h.2.2 _ _ hu) hne (fun hf=>hq ((under_step t h.2.2 o.id x f hg o.pos o.up hu).1 hf)))
    obtain ⟨g1,g2⟩:=get_sub o.id t x f hg
    intro a ha
    rw [hpm.mem_iff,List.mem_cons,List.mem_append] at ha
    rcases ha with ha | ha | ha
    ·rw [ha];exact .inl g1
    ·exact .inl (g2 a ha)
    ·exact .inl (hfwd a ha).1
end T
theorem doL_sub {t:List Row} {o:Op} (ht:treeOk t=true) (ho:opOk o=true):∀ a∈idsL (doL t o),a∈idsL t∨(o.kind=1∧a=o.id):=by
 have h3:idsL (doL t o)=T.ids (T.doT (T.build t) o):=by rw [doL_build t o ht ho];exact T.rows_ids 0 _
 rw [(idsL_build ht).1,h3]
 exact T.doT_sub (T.build t) (T.valid_build t ht).1 o ho
theorem runOps_sub (l:List Entry):∀ t:List Row,treeOk t=true→(∀ e∈l,opOk e.op=true)→∀ a∈idsL (runOps t l),a∈idsL t∨∃ e∈l,e.op.kind=1∧a=e.op.id:=by
 induction l with
 |nil=>intro t ht _ a ha;exact .inl ha
 |cons e l ih=>
  intro t ht hl a ha
  have ho:=hl e List.mem_cons_self
  have hod:opDo t e.op=doL t e.op:=by unfold opDo;rw [ht,ho];rfl
  have htn:treeOk (opDo t e.op)=true:=by rw [hod];exact treeOk_do t _ ht ho
  rcases ih (opDo t e.op) htn (fun x hx=>hl x (List.mem_cons_of_mem _ hx)) a ha with h1 | ⟨x,hx,hk,he⟩
  ·rw [hod] at h1
   rcases doL_sub ht ho a h1 with h2 | ⟨h2,h3⟩
   ·exact .inl h2
   ·exact .inr ⟨e,List.mem_cons_self,h2,h3⟩
  ·exact .inr ⟨x,List.mem_cons_of_mem _ hx,hk,he⟩
def otherWho (who:Int):Int:=who % 3+1
def otherL (who:Int) (kk:Nat):List Entry:=[⟨otherWho who,1,⟨3,10*who+1,2,0,⟨#[]⟩⟩⟩,⟨otherWho who,2,⟨2,11+(kk:Int),0,0,⟨#[98]⟩⟩⟩]
theorem otherL_ok {who:Int} {kk:Nat} (hw:1≤who∧who≤3) (hk:kk<3):(∀ e∈otherL who kk,entryOk e=true∧e.who≠who):=by
 have h:who=1∨who=2∨who=3:=by omega
 have hkk:kk=0∨kk=1∨kk=2:=by omega
 rcases h with rfl | rfl | rfl <;> rcases hkk with rfl | rfl | rfl <;> decide
theorem hear_others {c:Client} {kk:Nat} (hok:clientOk c=true) (hs:c.seen+2≤40) (hk:kk<3) :
  ∃ t,clientHear c c.seen (otherL c.who kk)=(⟨c.who,c.seen+2,t,c.wait,c.done,c.made⟩,true)∧clientOk ⟨c.who,c.seen+2,t,c.wait,c.done,c.made⟩=true∧∀ r∈showL c,r.id∈idsL (showL ⟨c.who,c.seen+2,t,c.wait,c.done,c.made⟩):=by
 obtain ⟨hw9,hs0,hs40,htr,hd0,hd1,hwl,hm0,hm1,hwt⟩:=clientOk_parts hok
 have hwho:1≤c.who∧c.who≤3:=by unfold isWho at hw9;simpa using hw9
 have hL:=otherL_ok hwho hk
 have hall:∀ e∈otherL c.who kk,entryOk e=true:=fun e he=>(hL e he).1
 have hh:hearL c.who ((otherL c.who kk).drop (c.seen - c.seen).toNat) c.wait c.base c.done c.seen=some (c.wait,runOps c.base (otherL c.who kk),c.done,c.seen+2):=by
  rw [show (c.seen - c.seen).toNat=0 by omega,List.drop_zero]
  have h1:=(hL _ (List.mem_cons_self)).2
  have h2:=(hL _ (List.mem_cons_of_mem _ List.mem_cons_self)).2
  unfold otherL at h1 h2 ⊢
  rw [hearL_cons,if_neg h1,hearL_cons,if_neg h2]
  simp only [hearL,runOps,List.foldl_cons,List.foldl_nil,Option.some.injEq,Prod.mk.injEq,true_and]
  omega
 have he:=clientHear_of hok hs0 hs40 hall (Int.le_refl _) (by unfold otherL;simp;omega) hh
 have hx:=hearS_ok (c:=c) (frm:=c.seen) (l:=otherL c.who kk) hok hs0 hall
 rw [←clientHear_S c c.seen _ hok hs0 hs40 hall,he] at hx
 refine ⟨_,he,hx,fun r hr=>?_⟩
 obtain ⟨p1,p2,p3,p4,p5⟩:=showL_ok hx
 have ho:∀ e∈c.wait,opOk e.op=true:=fun e he=>(entryOk_parts (waitOk_who hwt e he).1).2.2.2
 have hro:=runOps_ids (otherL c.who kk) c.base htr (fun e he=>(entryOk_parts (hall e he)).2.2.2)
 rw [(showL_ok hok).1] at hr
 rcases runOps_sub c.wait c.base htr ho r.id (List.mem_map.2 ⟨r,hr,rfl⟩) with h9 | ⟨e,he9,hk9,hi9⟩
 ·exact p3 _ (hro.2.1 _ h9)
 ·rw [hi9];exact p4 e he9 hk9
open Go.RowKit Go.Lib
set_option linter.unusedSimpArgs false
theorem rd_lit (w:World) (l:List Entry) (hx:∀ x∈l,Flat.okE x) (cs:Array Value) (hc:cs.toList=flat l) (n:Nat) (hn:l.length≤n) (hm:n≤maxLen) (ty:TypeId):Rd (w.alloc (.cells cs ty)) (some ⟨w.heap.size,0,none⟩) n l:=by
 refine ⟨hn,hm,fun _=>⟨w.heap.size,0,rfl,fun j v hv=>?_⟩,hx⟩
 rw [←hc] at hv
 rw [Array.getElem?_toList] at hv
 have h9:=World.alloc_heap_new w (.cells cs ty)
 unfold World.cell?
 simp only [h9,Nat.zero_add]
 exact hv
set_option maxRecDepth 100000 in
set_option maxHeartbeats 4000000 in
theorem hearOthers_walk (A:Option Addr) (n:Nat) (bs:List UInt8) (A':Option Addr) (n':Nat) (ms:List UInt8) (w:World) (ht:Tab w) (hr:Rd w A n bs) (hr':Rd w A' n' ms) (hA:∀ b off,A=some ⟨b,off,none⟩→b<w.heap.size) :
  Calls Tryz.prog 4 #[.slice A bs.length n,.slice A' ms.length n'] w fun e w'=>e=.returned (.bool true)∧Ext w w':=by
 have hm:bs.length≤maxLen:=Nat.le_trans hr.1 hr.2.1
 unfold maxLen at hm
 have hm':ms.length≤maxLen:=Nat.le_trans hr'.1 hr'.2.1
 unfold maxLen at hm'
 clear hr'
 have htp_0:=ht.pos
 have HT_0:=Lib.hid ht
 have HDR:=Lib.hid (drawsShow A n bs w hr hA)
 clear hr hA ht
 go_enter Tryz.func4,Tryz.ntmps4
 by_cases hlong:(1048576:Int)<bs.length
 ·go_wp2_with fail
  go_ret
  exact ⟨rfl,Below.refl _ _⟩
 by_cases hlong2:(1048576:Int)<ms.length
 ·go_wp2_with fail
  go_ret
  exact ⟨rfl,Below.refl _ _⟩
 go_wp2_with fail
 refine HDR.out.mono ?_
 rintro e w1 ⟨c,v,rfl,⟨A1,n1,A2,n2,rfl,h1,h2⟩,hcw,hb1⟩
 have hs_1:=hb1.size
 have HCW:=Lib.hid hcw
 have hE2:Ext w1 (w1.alloc (oC c A1 n1 A2 n2)):=(Below.refl _ _).alloc (Nat.le_refl _) _
 have HE_2:=Lib.hid (hb1.trans (hE2.mono hs_1));have hs_2:=HE_2.out.size
 have HT_2:=Lib.hid (HT_0.out.below HE_2.out htp_0);have htp_2:=HT_2.out.pos
 have HVC_2:Hid (CV (w1.alloc (oC c A1 n1 A2 n2)) c (.agg (cC c A1 n1 A2 n2))):=⟨A1,n1,A2,n2,rfl,h1.ext hE2,h2.ext hE2⟩
 have HBC_2:=Lib.hid (World.alloc_heap_new w1 (oC c A1 n1 A2 n2))
 have hz_2:=alloc_sz w1 (oC c A1 n1 A2 n2)
 clear hE2 h1 h2 hcw HDR hb1 HT_0
 go_wp2_with fail
 generalize (w1.alloc (oC c A1 n1 A2 n2))=w2 at *
 refine (clientShow_c c _ w2 HT_2.out HVC_2.out).mono ?_
 rintro e w3 ⟨v3,rfl,ho3,hb3⟩
 obtain ⟨G,gn,rfl,hr3⟩:=ho3.rd
 have HE_3:=Lib.hid (HE_2.out.trans ((hb3).mono HE_2.out.size));have hs_3:=HE_3.out.size
 have HT_3:=Lib.hid (HT_2.out.below hb3 htp_2);have htp_3:=HT_3.out.pos
 have HVC_3:=Lib.hid (HVC_2.out.ext hb3)
 have HBC_3:=Lib.hid (((hb3).block _ (blk_lt HBC_2.out)).trans HBC_2.out)
 clear HE_2 HT_2 HVC_2 HBC_2
 have HG_3:=Lib.hid hr3
 clear ho3 hr3 hb3
 obtain ⟨c00,c01,c02,c03,c04,c05,c0f⟩:=six_cells HBC_3.out
 go_wp2_with fail
 clear c00 c01 c02 c03 c04 c05 c0f
 refine (clientShow_s c _ w3 HVC_3.out HCW.out).mono ?_
 rintro e w4 ⟨v4,rfl,ho4,hb4⟩
 rw [←showL_showS] at ho4
 obtain ⟨S4,sn4,rfl,hr4⟩:=ho4.rd
 have HE_4:=Lib.hid (HE_3.out.trans ((hb4).mono HE_3.out.size));have hs_4:=HE_4.out.size
 have HT_4:=Lib.hid (HT_3.out.below hb4 htp_3);have htp_4:=HT_4.out.pos
 have HVC_4:=Lib.hid (HVC_3.out.ext hb4)
 have HBC_4:=Lib.hid (((hb4).block _ (blk_lt HBC_3.out)).trans HBC_3.out)
 have HG_4:=Lib.hid (HG_3.out.ext hb4)
 clear HE_3 HT_3 HVC_3 HBC_3 HG_3
 have hLP:=lpRows_c G gn (showL c) S4 sn4 (showL c) w4 HG_4.out hr4
 rw [show decide (showL c=showL c)=true by simp] at hLP
 have HLP:=Lib.hid hLP
 clear ho4 hr4 hb4 hLP
 obtain ⟨c00,c01,c02,c03,c04,c05,c0f⟩:=six_cells HBC_4.out
 go_wp2_with fail
 clear c00 c01 c02 c03 c04 c05 c0f
 refine HLP.out.mono ?_
 rintro e w5 ⟨rfl,m5,hm5⟩
 have hb5:Ext w4 w5:=by rw [hm5];exact Ext.drewN (Below.refl _ _) _
 clear hm5 HLP
 have HE_5:=Lib.hid (HE_4.out.trans ((hb5).mono HE_4.out.size));have hs_5:=HE_5.out.size
 have HT_5:=Lib.hid (HT_4.out.below hb5 htp_4);have htp_5:=HT_5.out.pos
 have HVC_5:=Lib.hid (HVC_4.out.ext hb5)
 have HBC_5:=Lib.hid (((hb5).block _ (blk_lt HBC_4.out)).trans HBC_4.out)
 have HG_5:=Lib.hid (HG_4.out.ext hb5)
 clear HE_4 HT_4 HVC_4 HBC_4 HG_4
 clear hb5
 obtain ⟨c00,c01,c02,c03,c04,c05,c0f⟩:=six_cells HBC_5.out
 go_wp2_with fail
 clear c00 c01 c02 c03 c04 c05 c0f
 refine (clientOk_s c _ w5 HVC_5.out HCW.out).mono ?_
 rintro e w6 ⟨rfl,hb6⟩
 have HE_6:=Lib.hid (HE_5.out.trans ((hb6).mono HE_5.out.size));have hs_6:=HE_6.out.size
 have HT_6:=Lib.hid (HT_5.out.below hb6 htp_5);have htp_6:=HT_6.out.pos
 have HVC_6:=Lib.hid (HVC_5.out.ext hb6)
 have HBC_6:=Lib.hid (((hb6).block _ (blk_lt HBC_5.out)).trans HBC_5.out)
 have HG_6:=Lib.hid (HG_5.out.ext hb6)
 clear HE_5 HT_5 HVC_5 HBC_5 HG_5
 clear hb6
 cases hok:clientOk c
 ·
  clear hok
  obtain ⟨c00,c01,c02,c03,c04,c05,c0f⟩:=six_cells HBC_6.out
  go_wp2_with fail
  clear c00 c01 c02 c03 c04 c05 c0f
  refine (clientShow_s c _ w6 HVC_6.out HCW.out).mono ?_
  rintro e w7 ⟨v7,rfl,ho7,hb7⟩
  rw [←showL_showS] at ho7
  obtain ⟨S7,sn7,rfl,hr7⟩:=ho7.rd
  have HE_7:=Lib.hid (HE_6.out.trans ((hb7).mono HE_6.out.size));have hs_7:=HE_7.out.size
  have HT_7:=Lib.hid (HT_6.out.below hb7 htp_6);have htp_7:=HT_7.out.pos
  have HVC_7:=Lib.hid (HVC_6.out.ext hb7)
  have HBC_7:=Lib.hid (((hb7).block _ (blk_lt HBC_6.out)).trans HBC_6.out)
  have HG_7:=Lib.hid (HG_6.out.ext hb7)
  clear HE_6 HT_6 HVC_6 HBC_6 HG_6
  have hLP:=lpRows_c G gn (showL c) S7 sn7 (showL c) w7 HG_7.out hr7
  rw [show decide (showL c=showL c)=true by simp] at hLP
  have HLP:=Lib.hid hLP
  clear ho7 hr7 hb7 hLP
  obtain ⟨c00,c01,c02,c03,c04,c05,c0f⟩:=six_cells HBC_7.out
  go_wp2_with fail
  clear c00 c01 c02 c03 c04 c05 c0f
  refine HLP.out.mono ?_
  rintro e w8 ⟨rfl,m8,hm8⟩
  have hb8:Ext w7 w8:=by rw [hm8];exact Ext.drewN (Below.refl _ _) _
  clear hm8 HLP
  have HE_8:=Lib.hid (HE_7.out.trans ((hb8).mono HE_7.out.size));have hs_8:=HE_8.out.size
  have HT_8:=Lib.hid (HT_7.out.below hb8 htp_7);have htp_8:=HT_8.out.pos
  have HVC_8:=Lib.hid (HVC_7.out.ext hb8)
  have HBC_8:=Lib.hid (((hb8).block _ (blk_lt HBC_7.out)).trans HBC_7.out)
  have HG_8:=Lib.hid (HG_7.out.ext hb8)
  clear HE_7 HT_7 HVC_7 HBC_7 HG_7
  clear hb8
  go_wp2_with fail
  go_ret
  exact ⟨rfl,HE_8.out⟩
 obtain ⟨hw9,hs0,hs40,-,hd0,hd1,hwl,-,-,-⟩:=clientOk_parts hok
 have hwho:1≤c.who∧c.who≤3:=by unfold isWho at hw9;simpa using hw9
 have hwn:IntKind.i64.wrap (c.seen+2)=c.seen+2:=by rw [IntKind.wrap_i64];omega
 by_cases h40:(40:Int)<c.seen+2
 ·
  clear hok
  obtain ⟨c00,c01,c02,c03,c04,c05,c0f⟩:=six_cells HBC_6.out
  go_wp2_with fail
  clear c00 c01 c02 c03 c04 c05 c0f
  refine (clientShow_s c _ w6 HVC_6.out HCW.out).mono ?_
  rintro e w7 ⟨v7,rfl,ho7,hb7⟩
  rw [←showL_showS] at ho7
  obtain ⟨S7,sn7,rfl,hr7⟩:=ho7.rd
  have HE_7:=Lib.hid (HE_6.out.trans ((hb7).mono HE_6.out.size));have hs_7:=HE_7.out.size
  have HT_7:=Lib.hid (HT_6.out.below hb7 htp_6);have htp_7:=HT_7.out.pos
  have HVC_7:=Lib.hid (HVC_6.out.ext hb7)
  have HBC_7:=Lib.hid (((hb7).block _ (blk_lt HBC_6.out)).trans HBC_6.out)
  have HG_7:=Lib.hid (HG_6.out.ext hb7)
  clear HE_6 HT_6 HVC_6 HBC_6 HG_6
  have hLP:=lpRows_c G gn (showL c) S7 sn7 (showL c) w7 HG_7.out hr7
  rw [show decide (showL c=showL c)=true by simp] at hLP
  have HLP:=Lib.hid hLP
  clear ho7 hr7 hb7 hLP
  obtain ⟨c00,c01,c02,c03,c04,c05,c0f⟩:=six_cells HBC_7.out
  go_wp2_with fail
  clear c00 c01 c02 c03 c04 c05 c0f
  refine HLP.out.mono ?_
  rintro e w8 ⟨rfl,m8,hm8⟩
  have hb8:Ext w7 w8:=by rw [hm8];exact Ext.drewN (Below.refl _ _) _
  clear hm8 HLP
  have HE_8:=Lib.hid (HE_7.out.trans ((hb8).mono HE_7.out.size));have hs_8:=HE_8.out.size
  have HT_8:=Lib.hid (HT_7.out.below hb8 htp_7);have htp_8:=HT_8.out.pos
  have HVC_8:=Lib.hid (HVC_7.out.ext hb8)
  have HBC_8:=Lib.hid (((hb8).block _ (blk_lt HBC_7.out)).trans HBC_7.out)
  have HG_8:=Lib.hid (HG_7.out.ext hb8)
  clear HE_7 HT_7 HVC_7 HBC_7 HG_7
  clear hb8
  go_wp2_with fail
  go_ret
  exact ⟨rfl,HE_8.out⟩
 obtain ⟨kk,hkk⟩:∃ kk,kk=ms.length % 3:=⟨_,rfl⟩
 have hk3:kk<3:=by rw [hkk];exact Nat.mod_lt _ (by decide)
 have hmd:(ms.length:Int) % 3=(kk:Int):=by rw [hkk,Int.natCast_emod];rfl
 have hmt:(ms.length:Int).tmod 3=(kk:Int):=by rw [Int.tmod_eq_emod_of_nonneg (by omega)];exact hmd
 have hwp:IntKind.i64.wrap (11+(kk:Int))=11+(kk:Int):=by rw [IntKind.wrap_i64];omega
 obtain ⟨q,hq⟩:∃ q,q=c.who % 3:=⟨_,rfl⟩
 have hq1:c.who % 3=q:=hq.symm
 have hq2:c.who.tmod 3=q:=by rw [Int.tmod_eq_emod_of_nonneg (by omega)];exact hq1
 have hqb:0≤q∧q≤2:=by omega
 have hwq:IntKind.i64.wrap (q+1)=q+1:=by rw [IntKind.wrap_i64];omega
 have hw10:IntKind.i64.wrap (10*c.who)=10*c.who:=by rw [IntKind.wrap_i64];omega
 have hw11:IntKind.i64.wrap (10*c.who+1)=10*c.who+1:=by rw [IntKind.wrap_i64];omega
 have hL2:(otherL c.who kk).length=2:=rfl
 have hLq:(flat (otherL c.who kk))=#[.int .i64 (q+1),.int .i64 1,.int .i64 3,.int .i64 (10*c.who+1),.int .i64 2,.int .i64 0,.string ⟨#[]⟩,.int .i64 (q+1),.int .i64 2,.int .i64 2,.int .i64 (11+(kk:Int)),.int .i64 0,.int .i64 0,.string ⟨#[98]⟩].toList:=by rw [hq];rfl
 obtain ⟨t,hhe,hxk,hsub⟩:=hear_others hok (by omega) hk3
 obtain ⟨x,hx⟩:∃ x:Client,x=⟨c.who,c.seen+2,t,c.wait,c.done,c.made⟩:=⟨_,rfl⟩
 rw [←hx] at hhe hxk hsub
 have HXH:=Lib.hid hhe;have HXK:=Lib.hid hxk;have HSUB:=Lib.hid hsub
 have HXW:=Lib.hid (show x.wait=c.wait by rw [hx]);have HXS:=Lib.hid (show x.seen=c.seen+2 by rw [hx])
 have hE7:Ext w6 (w6.alloc (.cells #[.int .i64 (q+1),.int .i64 1,.int .i64 3,.int .i64 (10*c.who+1),.int .i64 2,.int .i64 0,.string ⟨#[]⟩,.int .i64 (q+1),.int .i64 2,.int .i64 2,.int .i64 (11+(kk:Int)),.int .i64 0,.int .i64 0,.string ⟨#[98]⟩] 35)):=(Below.refl _ _).alloc (Nat.le_refl _) _
 have HRL_7:Hid (Rd (w6.alloc (.cells #[.int .i64 (q+1),.int .i64 1,.int .i64 3,.int .i64 (10*c.who+1),.int .i64 2,.int .i64 0,.string ⟨#[]⟩,.int .i64 (q+1),.int .i64 2,.int .i64 2,.int .i64 (11+(kk:Int)),.int .i64 0,.int .i64 0,.string ⟨#[98]⟩] 35)) (some ⟨w6.heap.size,0,none⟩) 2 (otherL c.who kk)):=rd_lit w6 (otherL c.who kk) (fun e he=>by
  rcases List.mem_cons.1 he with rfl | he
  ·show (0:Nat)≤_;omega
  ·rw [List.mem_singleton] at he;subst he;show (1:Nat)≤_;unfold maxLen;decide) #[.int .i64 (q+1),.int .i64 1,.int .i64 3,.int .i64 (10*c.who+1),.int .i64 2,.int .i64 0,.string ⟨#[]⟩,.int .i64 (q+1),.int .i64 2,.int .i64 2,.int .i64 (11+(kk:Int)),.int .i64 0,.int .i64 0,.string ⟨#[98]⟩] hLq.symm 2 (by rw [hL2];exact Nat.le_refl _) (by unfold maxLen;decide) 35
 clear hok hw9 hhe hxk hsub hx hq hLq hkk
 obtain ⟨c00,c01,c02,c03,c04,c05,c0f⟩:=six_cells HBC_6.out
 go_upto_region 9 with fail
 clear c00 c01 c02 c03 c04 c05 c0f
 have HE_7:=Lib.hid (HE_6.out.trans ((hE7).mono HE_6.out.size));have hs_7:=HE_7.out.size
 have HT_7:=Lib.hid (HT_6.out.below hE7 htp_6);have htp_7:=HT_7.out.pos
 have HVC_7:=Lib.hid (HVC_6.out.ext hE7)
 have HBC_7:=Lib.hid (((hE7).block _ (blk_lt HBC_6.out)).trans HBC_6.out)
 have HG_7:=Lib.hid (HG_6.out.ext hE7)
 clear HE_6 HT_6 HVC_6 HBC_6 HG_6
 generalize (w6.alloc (.cells #[.int .i64 (q+1),.int .i64 1,.int .i64 3,.int .i64 (10*c.who+1),.int .i64 2,.int .i64 0,.string ⟨#[]⟩,.int .i64 (q+1),.int .i64 2,.int .i64 2,.int .i64 (11+(kk:Int)),.int .i64 0,.int .i64 0,.string ⟨#[98]⟩] 35))=w7 at *
 clear hE7 hmd hmt hwp hq1 hq2 hwq hw10 hw11
 obtain ⟨c00,c01,c02,c03,c04,c05,c0f⟩:=six_cells HBC_7.out
 go_wp2_with fail
 clear c00 c01 c02 c03 c04 c05 c0f
 have hS:=clientHear_c c _ c.seen (some ⟨w6.heap.size,0,none⟩) 2 (otherL c.who kk) w7 HT_7.out HVC_7.out HRL_7.out
 rw [HXH.out] at hS
 refine hS.mono ?_
 clear hS
 rintro e w8 ⟨v8,rfl,co8,hb8⟩
 have HE_8:=Lib.hid (HE_7.out.trans ((hb8).mono HE_7.out.size));have hs_8:=HE_8.out.size
 have HT_8:=Lib.hid (HT_7.out.below hb8 htp_7);have htp_8:=HT_8.out.pos
 have HVC_8:=Lib.hid (HVC_7.out.ext hb8)
 have HBC_8:=Lib.hid (((hb8).block _ (blk_lt HBC_7.out)).trans HBC_7.out)
 have HG_8:=Lib.hid (HG_7.out.ext hb8)
 have HRL_8:=Lib.hid (HRL_7.out.ext hb8)
 clear HE_7 HT_7 HVC_7 HBC_7 HG_7 HRL_7
 obtain ⟨E1,j1,E2,j2,rfl,g1,g2⟩:=co8.cv
 have hE9:Ext w8 (w8.alloc (oC x E1 j1 E2 j2)):=(Below.refl _ _).alloc (Nat.le_refl _) _
 have HVX_9:Hid (CV (w8.alloc (oC x E1 j1 E2 j2)) x (.agg (cC x E1 j1 E2 j2))):=⟨E1,j1,E2,j2,rfl,g1.ext hE9,g2.ext hE9⟩
 have HBX_9:=Lib.hid (World.alloc_heap_new w8 (oC x E1 j1 E2 j2))
 have hz_9:=alloc_sz w8 (oC x E1 j1 E2 j2)
 have HE_9:=Lib.hid (HE_8.out.trans ((hE9).mono HE_8.out.size));have hs_9:=HE_9.out.size
 have HT_9:=Lib.hid (HT_8.out.below hE9 htp_8);have htp_9:=HT_9.out.pos
 have HVC_9:=Lib.hid (HVC_8.out.ext hE9)
 have HBC_9:=Lib.hid (((hE9).block _ (blk_lt HBC_8.out)).trans HBC_8.out)
 have HG_9:=Lib.hid (HG_8.out.ext hE9)
 have HRL_9:=Lib.hid (HRL_8.out.ext hE9)
 clear HE_8 HT_8 HVC_8 HBC_8 HG_8 HRL_8
 clear hE9 g1 g2
 clear hb8 co8
 obtain ⟨c00,c01,c02,c03,c04,c05,c0f⟩:=six_cells HBX_9.out
 go_wp2_with fail
 generalize (w8.alloc (oC x E1 j1 E2 j2))=w9 at *
 clear c00 c01 c02 c03 c04 c05 c0f
 refine (clientShow_c x _ w9 HT_9.out HVX_9.out).mono ?_
 rintro e wa ⟨va,rfl,hoa,hba⟩
 obtain ⟨Z,zn,rfl,hra⟩:=hoa.rd
 have HE_a:=Lib.hid (HE_9.out.trans ((hba).mono HE_9.out.size));have hs_a:=HE_a.out.size
 have HT_a:=Lib.hid (HT_9.out.below hba htp_9);have htp_a:=HT_a.out.pos
 have HVC_a:=Lib.hid (HVC_9.out.ext hba)
 have HBC_a:=Lib.hid (((hba).block _ (blk_lt HBC_9.out)).trans HBC_9.out)
 have HG_a:=Lib.hid (HG_9.out.ext hba)
 have HRL_a:=Lib.hid (HRL_9.out.ext hba)
 have HVX_a:=Lib.hid (HVX_9.out.ext hba)
 have HBX_a:=Lib.hid (((hba).block _ (blk_lt HBX_9.out)).trans HBX_9.out)
 clear HE_9 HT_9 HVC_9 HBC_9 HG_9 HRL_9 HVX_9 HBX_9
 have HZ_a:=Lib.hid hra
 clear hoa hra hba
 have hzl:(showL c).length≤maxLen:=Nat.le_trans HG_a.out.1 HG_a.out.2.1
 unfold maxLen at hzl
 go_wp2_with fail
 go_loopg [12] (showL c).length (fun gk i wr=>∃ k:Nat,k≤(showL c).length∧Hid (gk=(showL c).length - k)∧i=.int .i64 k∧Hid (Ext wa wr))
 case atStart=>exact ⟨0,Nat.zero_le _,rfl,rfl,Below.refl _ _⟩
 case round=>
  obtain ⟨k,hk,HK,rfl,HW⟩:=hrel
  obtain ⟨wb,rfl⟩:∃ wb:World,wb=wr:=⟨_,rfl⟩
  have HE_b:=Lib.hid (HE_a.out.trans ((HW.out).mono HE_a.out.size));have hs_b:=HE_b.out.size
  have HT_b:=Lib.hid (HT_a.out.below HW.out htp_a);have htp_b:=HT_b.out.pos
  have HVC_b:=Lib.hid (HVC_a.out.ext HW.out)
  have HBC_b:=Lib.hid (((HW.out).block _ (blk_lt HBC_a.out)).trans HBC_a.out)
  have HG_b:=Lib.hid (HG_a.out.ext HW.out)
  have HRL_b:=Lib.hid (HRL_a.out.ext HW.out)
  have HVX_b:=Lib.hid (HVX_a.out.ext HW.out)
  have HBX_b:=Lib.hid (((HW.out).block _ (blk_lt HBX_a.out)).trans HBX_a.out)
  have HZ_b:=Lib.hid (HZ_a.out.ext HW.out)
  clear HE_a HT_a HVC_a HBC_a HG_a HRL_a HVX_a HBX_a HZ_a
  by_cases hlt:k<(showL c).length
  ·
   obtain ⟨b,off,rfl,hbl2,e0,e1,e2⟩:=row_at HG_b.out k hlt
   have HAT:=Lib.hid (lpAt_c Z zn (showL x) (showL c)[k].id wb HZ_b.out)
   have hat:¬(atI (showL x) (showL c)[k].id<0):=by
    have:=atI_in (HSUB.out _ (List.getElem_mem hlt))
    omega
   have hli:(k:Int)<(showL c).length:=by omega
   have hwk:IntKind.i64.wrap ((k:Int)+1)=(k:Int)+1:=by rw [IntKind.wrap_i64];omega
   go_wp2_with fail
   refine HAT.out.mono ?_
   rintro e wc ⟨rfl,hwc⟩
   rw [hwc];clear hwc
   generalize atI (showL x) (showL c)[k].id=ai at *
   clear HAT e0 e1 e2
   go_wp2_with fail
   go_roundg ((showL c).length - (k+1))
   case measure=>have:=HK.out;omega
   case rel=>exact ⟨k+1,by omega,rfl,by go_num,HW.out⟩
  ·
   have hli:¬((k:Int)<(showL c).length):=by omega
   obtain ⟨hrx1,hrx2⟩:Hid (Rd wb E1 j1 x.base)∧Hid (Rd wb E2 j2 x.wait):=by
    obtain ⟨_,_,_,_,e9,g1,g2⟩:=HVX_b.out
    simp at e9
    obtain ⟨⟨rfl,rfl⟩,⟨rfl,rfl⟩⟩:=e9
    exact ⟨g1,g2⟩
   obtain ⟨hrc1,hrc2⟩:Hid (Rd wb A1 n1 c.base)∧Hid (Rd wb A2 n2 c.wait):=by
    obtain ⟨_,_,_,_,e9,g1,g2⟩:=HVC_b.out
    simp at e9
    obtain ⟨⟨rfl,rfl⟩,⟨rfl,rfl⟩⟩:=e9
    exact ⟨g1,g2⟩
   have hL:=lpLog_c E2 j2 x.wait A2 n2 c.wait wb hrx2.out hrc2.out
   rw [show decide (x.wait=c.wait)=true from decide_eq_true HXW.out] at hL
   have HLL:=Lib.hid hL
   clear hL hrx1 hrx2 hrc1 hrc2
   obtain ⟨c00,c01,c02,c03,c04,c05,c0f⟩:=six_cells HBC_b.out
   obtain ⟨c10,c11,c12,c13,c14,c15,c1f⟩:=six_cells HBX_b.out
   go_wp2_with fail
   clear c00 c01 c02 c03 c04 c05 c0f c10 c11 c12 c13 c14 c15 c1f
   refine HLL.out.mono ?_
   rintro e wd ⟨rfl,md,hmd⟩
   have hbd:Ext wb wd:=by rw [hmd];exact Ext.drewN (Below.refl _ _) _
   clear hmd HLL
   have HE_d:=Lib.hid (HE_b.out.trans ((hbd).mono HE_b.out.size));have hs_d:=HE_d.out.size
   have HT_d:=Lib.hid (HT_b.out.below hbd htp_b);have htp_d:=HT_d.out.pos
   have HVC_d:=Lib.hid (HVC_b.out.ext hbd)
   have HBC_d:=Lib.hid (((hbd).block _ (blk_lt HBC_b.out)).trans HBC_b.out)
   have HG_d:=Lib.hid (HG_b.out.ext hbd)
   have HRL_d:=Lib.hid (HRL_b.out.ext hbd)
   have HVX_d:=Lib.hid (HVX_b.out.ext hbd)
   have HBX_d:=Lib.hid (((hbd).block _ (blk_lt HBX_b.out)).trans HBX_b.out)
   have HZ_d:=Lib.hid (HZ_b.out.ext hbd)
   clear HE_b HT_b HVC_b HBC_b HG_b HRL_b HVX_b HBX_b HZ_b
   clear hbd
   obtain ⟨c00,c01,c02,c03,c04,c05,c0f⟩:=six_cells HBC_d.out
   obtain ⟨c10,c11,c12,c13,c14,c15,c1f⟩:=six_cells HBX_d.out
   have hxs:=HXS.out
   go_wp2_with fail
   go_ret
   exact ⟨rfl,HE_d.out⟩
end Go.Proofs.YtecmcjfdaipfcaaGreatDoor
namespace Go.Proofs.YtecmcjfdaipfcaaGreatDoor.fnHearOthers
open Go.RowKit Go.ChangeShapes Go.WideShapes Go.ChangeAt
set_option maxRecDepth 100000 in
theorem contract (H:Type) (enc:TypeId × Value→H) (W:World) (base:Nat) (args:Array Value) (ds gs:List (DataW H)) (before:List MemPlace)
  (hval:∀ (j:Nat) t v,Tryz.f4.params[j]?=some t→args[j]?=some v→Value.okWide Tryz.prog W .any base t v)
  (hW:DataW.Whole enc Tryz.prog Tryz.f4.params.toList Rows.fnHearOthersSpec.vars false W args.toList ds gs before) (hL:laidMetH Tryz.prog Rows.fnHearOthersRow.laid W) :
  Calls Tryz.prog 4 args W fun e W'=>∃ v,e=.returned v∧Rows.fnHearOthersSpec.post enc Tryz.prog Tryz.f4 false true false false W args v W':=by
 have hW':=hW
 obtain ⟨p,q,hA0,hV,rfl,hfz,hnd⟩:=hW
 have hA:DataW.TrodAll enc Tryz.prog W 0 (fun _=>true) true Tryz.f4.params.toList args.toList ds p:=hA0
 rw [Tryz.params4] at hA hval
 obtain ⟨v0,vs0,d0,ds0,p0,q0,hargs,rfl,rfl,h0,r0⟩:=trodAll_cons hA
 obtain ⟨v1,vs1,d1,ds1,p1,q1,rfl,rfl,rfl,h1,r1⟩:=trodAll_cons r0
 obtain ⟨rfl,rfl,rfl⟩:=trodAll_nil r1
 obtain rfl:args=#[v0,v1]:=by cases args;simp_all
 obtain ⟨g,tg,csg,fg,dg,pg,rfl,_⟩:=trodVars_one hV
 have lt0:∀ x∈p0,x.block<W.heap.size:=by obtain ⟨m,hm⟩:=h0;exact DataW.trod_lt m _ _ _ hm
 have lt1:∀ x∈p1,x.block<W.heap.size:=by obtain ⟨m,hm⟩:=h1;exact DataW.trod_lt m _ _ _ hm
 obtain ⟨A0,c0,bs0,rfl,hr0,ha0⟩:=arg_bytes (hval 0 22 v0 rfl rfl) h0
 obtain ⟨A1,c1,bs1,rfl,hr1,ha1⟩:=arg_bytes (hval 1 22 v1 rfl rfl) h1
 clear hA0
 refine (hearOthers_walk A0 c0 bs0 A1 c1 bs1 W (tab_of hL) hr0 hr1 ha0).mono fun e W' ⟨he,bel⟩=>?_
 subst he
 exact ⟨_,rfl,_,_,_,[],_,_,hW',trodAll_mk1 (shut_bool Tryz.underlying4 _),
  (trodAll_cons_mk (Below.trod laidOut (by kernel_rfl) (of_decide_eq_true (by kernel_rfl)) h0 bel lt0) (trodAll_cons_mk (Below.trod laidOut (by kernel_rfl) (of_decide_eq_true (by kernel_rfl)) h1 bel lt1) trodAll_mk0)),
  Below.trodVars laidOut bel (by kernel_rfl) hV,bel.frame _,fun h=>by cases h⟩
noncomputable def laidWorld (os:Os):World:=
 { World.holding Tryz.prog os ⟨#[],#[],[]⟩ with heap:=(World.holding Tryz.prog os ⟨#[],#[],[]⟩).heap.modify 0 fun
   |.cells _ t frozen=>.cells (owners.map (Value.int .i64)).toArray t frozen
   |o=>o }
theorem laid_met (os:Os):laidMet Tryz.prog Rows.fnHearOthersRow.laid ((laidWorld os).forCall (fun _ _=>0) ⟨#[],#[.slice none 0 0,.slice none 0 0],[]⟩).memory:=
 laidMet_of_run' 8 (by kernel_rfl) (by kernel_rfl)
theorem reads (os:Os) {H:Type} (enc:TypeId × Value→H):∃ gs places,DataW.whole enc Tryz.prog ((laidWorld os).forCall (fun _ _=>0) ⟨#[],#[.slice none 0 0,.slice none 0 0],[]⟩).memory Tryz.f4.params.toList Rows.fnHearOthersSpec.vars false #[Value.slice none 0 0,Value.slice none 0 0].toList 8=some ([.nil,.nil],gs,places):=
 ⟨[Rows.laid_loop_example_plashet_impl_rowOwners],MemPlace.row ⟨0,0,none⟩ 37,by kernel_rfl⟩
set_option maxRecDepth 100000 in
theorem lifted (os:Os) (started:os.Started) (H:Type) (enc:TypeId × Value→H) (F:Stop.Interp) :
  ReturnsInHanded {} Tryz.checked os 4 .any ((OpenSpec.ofChange Rows.fnHearOthersSpec).preRow enc Tryz.prog Tryz.f4 Rows.fnHearOthersRow.domain false Rows.fnHearOthersRow.laid) (((OpenSpec.ofChange Rows.fnHearOthersSpec).at F).post enc Tryz.prog Tryz.f4 false true false false):=by
 obtain ⟨gs,places,hx⟩:=reads os enc
 refine returnsInHanded_of_row (C:=Tryz.checked) (s:=OpenSpec.ofChange Rows.fnHearOthersSpec) own started (by kernel_rfl) Tryz.func4
  (witness_row_at (enc:=enc) (C:=Tryz.checked) false (laidWorld os) #[.slice none 0 0,.slice none 0 0] rfl (by kernel_rfl) (by kernel_rfl) (by kernel_rfl)
   (OpenSpec.preRow_of_cond 8 hx (by kernel_rfl) (fun k hk=>by cases hk) (by kernel_rfl) (laid_met os))) ?_
 intro W base args ds gs before hval hW _ _ _ hL _ _
 exact contract H enc W base args ds gs before hval hW hL
theorem said:Rows.FnHearOthersSaid:=
 OpenClaim.holds_of_cond 4 Tryz.f4 rfl rfl rfl rfl rfl rfl rfl ⟨rfl,rfl,rfl,rfl,rfl⟩ rfl rfl rfl rfl rfl (by kernel_rfl) Tryz.func4 (by kernel_rfl)
  (of_decide_eq_true (by kernel_rfl)) (by unfold Func.isWrapper;first | (rw [if_pos (by decide +kernel)];kernel_rfl) | (rw [if_neg (by decide +kernel)];exact ⟨rfl,rfl⟩))
  (fun os started H enc _ F=>by rw [OpenClaim.pre_eq_preRow];exact lifted os started H enc F)
theorem plain (f : FuncId) (fn : Func) (hf : Tryz.pinned.checked.prog.funcNamed "loop.example/plashet/laws.FnHearOthers" = some f) (hfn : Tryz.pinned.checked.prog.funcs[f]? = some fn) :
  true=Tryz.pinned.checked.prog.looks []∧∀ (j:Nat) t,fn.params[j]?=some t→Tryz.pinned.checked.prog.wantsStandIn t=false:=by
 obtain rfl : f = 4 := Option.some.inj ((show Tryz.prog.funcNamed "loop.example/plashet/laws.FnHearOthers" = some 4 by kernel_rfl).symm.trans hf) |>.symm
 obtain rfl:fn=Tryz.f4:=(Option.some.inj (Tryz.func4.symm.trans hfn)).symm
 refine ⟨by kernel_rfl,fun j t ht=>?_⟩
 rw [Tryz.params4] at ht
 obtain rfl:t=22:=by simpa using Array.mem_of_getElem? ht
 exact (show Tryz.prog.wantsStandIn 22=false by kernel_rfl)
theorem card:Rows.FnHearOthersCardSaid:=
 Claim7.holds_tied_plain_at .later [] _ _ _ _ said (fun _ h=>by cases h) (by kernel_rfl) (fun _ h=>by cases h) fnHearOthers_row_tie rfl ⟨rfl,rfl⟩ (by kernel_rfl) rfl plain (by kernel_rfl)
end Go.Proofs.YtecmcjfdaipfcaaGreatDoor.fnHearOthers
