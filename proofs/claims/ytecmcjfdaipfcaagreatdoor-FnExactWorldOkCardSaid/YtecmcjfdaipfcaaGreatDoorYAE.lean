/- The row ahead of a row. .. The list of a forest. -/
import Derived.Test.YtecmcjfdaipfcaaGreatDoorYAD
import Derived.Maps.AppendAt
import Derived.Test.YtecmcjfdaipfcaaGreatDoorYAA
import Derived.RangeFuncBox
namespace Go.Proofs.YtecmcjfdaipfcaaGreatDoor
open Go.RowKit Go.Shelf
set_option linter.unusedVariables false
attribute [local go_sem] Oper.semAt_some
namespace T
theorem prev_top (m:Int) (g:T):∀ (k:Nat) (pr:Option Int),(ids g).Nodup→(chain g)[k]?=some m→prevOf m pr g=some (if k=0 then pr else (chain g)[k - 1]?):=by
 induction g with
 |nil=>intro k pr _ h;simp [chain] at h
 |node i x f n ihf ihn=>
  intro k pr nd h
  simp only [ids,List.nodup_cons,List.nodup_append,List.mem_append,not_or] at nd
  obtain ⟨⟨n1,n2⟩,ndf,ndn,hdis⟩:=nd
  simp only [chain] at h ⊢
  cases k with
  |zero=>simp at h;subst h;simp [prevOf]
  |succ k=>
   rw [List.getElem?_cons_succ] at h
   have hm:=chain_sub n m (List.mem_of_getElem? h)
   have hne:¬i=m:=fun e=>n2 (by rw [e];exact hm)
   rw [prevOf,if_neg hne,prevOf_not m none f (fun hh=>hdis m hh m hm rfl),Option.none_or,ihn k (some i) ndn h]
   cases k with
   |zero=>simp
   |succ k=>simp
theorem prev_in (m u:Int) (y:ByteArray) (g:T) (t:T):∀ pr,(ids t).Nodup→get u t=some (y,g)→m∈chain g→prevOf m pr t=prevOf m none g:=by
 induction t with
 |nil=>intro _ _ h;simp [get] at h
 |node i x f n ihf ihn=>
  intro pr nd hg hm
  have hmm:=(get_sub u _ _ _ hg).2 m (chain_sub g m hm)
  simp only [ids,List.nodup_cons,List.nodup_append,List.mem_append,not_or] at nd
  obtain ⟨⟨n1,n2⟩,ndf,ndn,hdis⟩:=nd
  simp only [get] at hg
  split at hg
  ·simp only [Option.some.injEq,Prod.mk.injEq] at hg
   obtain ⟨rfl,rfl⟩:=hg
   have hmf:=chain_sub f m hm
   rw [prevOf,if_neg (fun e=>n1 (by rw [e];exact hmf)),prevOf_not m (some i) n (fun hh=>hdis m hmf m hh rfl),Option.or_none]
  ·rw [Option.or_eq_some_iff] at hg
   rcases hg with hg | ⟨_,hg⟩
   ·have hmf:=(get_sub u _ _ _ hg).2 m (chain_sub g m hm)
    rw [prevOf,if_neg (fun e=>n1 (by rw [e];exact hmf)),prevOf_not m (some i) n (fun hh=>hdis m hmf m hh rfl),Option.or_none,ihf none ndf hg hm]
   ·have hmn:=(get_sub u _ _ _ hg).2 m (chain_sub g m hm)
    rw [prevOf,if_neg (fun e=>n2 (by rw [e];exact hmn)),prevOf_not m none f (fun hh=>hdis m hh m hmn rfl),Option.none_or,ihn _ ndn hg hm]
end T
theorem T.chain_nodup (t:T) (nd:(T.ids t).Nodup):(T.chain t).Nodup:=by
 induction t with
 |nil=>exact List.nodup_nil
 |node i x f n ihf ihn=>
  simp only [T.ids,List.nodup_cons,List.nodup_append,List.mem_append,not_or] at nd
  simp only [T.chain,List.nodup_cons]
  exact ⟨fun h=>nd.1.2 (T.chain_sub n i h),ihn nd.2.2.1⟩
theorem one_cell {W:World} {b:Nat} {v:Value} {ty:TypeId} (h:W.heap[b]?=some (.cells #[v] ty (0,0))):W.cell? ⟨b,0,none⟩=some v∧W.frozen? ⟨b,0,none⟩=false:=⟨by simp [World.cell?,h],by simp [World.frozen?,h]⟩
theorem one_set {W:World} {b:Nat} {v u:Value} {ty:TypeId} (h:W.heap[b]?=some (.cells #[v] ty (0,0))):(W.setCell ⟨b,0,none⟩ u).heap[b]?=some (.cells #[u] ty (0,0)):=by
 unfold World.setCell
 simp only [Array.getElem?_modify,h];rfl
theorem Kept.setTurn {ts:List TypeId} {L:Nat→Prop} {W W':World} (h:Kept ts L W W') {b:Nat} {cs:Array Value} {ty:TypeId} {m:Nat × Nat} (ho:W'.heap[b]?=some (.cells cs ty m)) (ht:ty∈ts) (i:Nat) (v:Value):Kept ts L W (W'.setCell ⟨b,i,none⟩ v):=by
 have hs:∀ x:World,(x.setCell ⟨b,i,none⟩ v).os=x.os∧(x.setCell ⟨b,i,none⟩ v).tape=x.tape∧(x.setCell ⟨b,i,none⟩ v).output=x.output:=fun x=>by unfold World.setCell;split <;> exact ⟨rfl,rfl,rfl⟩
 refine h.trans ⟨(hs _).1,(hs _).2.1,(hs _).2.2,Nat.le_of_eq (setsz _ _ _).symm,fun k cs' ty' m' hk ht'=>(setx (fun e=>?_)).trans hk,fun k o hk hc _=>(setx (fun e=>?_)).trans hk⟩
 ·subst e;rw [hk] at ho;injection ho with ho;injection ho with _ ho;exact ht' (ho▸ht)
 ·subst e;rw [hk] at ho;injection ho with ho;rw [ho] at hc;cases hc
def prevAt (l:List Int) (k:Nat):Option Int:=if k=0 then none else l[k - 1]?
set_option maxRecDepth 100000 in
theorem ahead_c (g:Nat) (adr:Int→Nat) (t:T) (id u:Int) (w:World) (hf:Frs w g adr t) (hi:id∈T.ids t) (hu:T.upOf id none t=some (some u)) :
  Calls Tryz.prog 124 #[PP adr id] w fun e w'=>∃ q,T.prevOf id none t=some q∧e=.returned (upv adr q)∧Ext w w':=by
 obtain ⟨x,f,n,top,q,hg,hn,hq,-,hb,hsub⟩:=hf.info id hi
 rw [hu] at hq;injection hq with hq;subst hq
 obtain ⟨y,fu,hgu⟩:=T.get_some u t (by
  rcases T.up_get t hf.nd id u none hu with ⟨_,h⟩ | ⟨y',g',h,_⟩
  ·cases h
  ·exact (T.get_sub _ _ _ _ h).1)
 have hch:id∈T.chain fu:=by
  rcases T.up_get t hf.nd id u none hu with ⟨_,h⟩ | ⟨y',g',h,h2⟩
  ·cases h
  ·rw [hgu] at h;injection h with h;injection h with _ h;rw [h];exact h2
 have hum:=(T.get_sub _ _ _ _ hgu).1
 obtain ⟨xu,fu',nu,topu,qu,hgu',-,-,-,hbu,hsubu⟩:=hf.info u hum
 rw [hgu] at hgu';injection hgu' with hgu';injection hgu' with e1 e2;subst e1;subst e2
 obtain ⟨-,-,c2,-,-,-⟩:=cells_of hb
 simp only [upv] at c2
 have hpv:=T.prev_in id u y fu t none hf.nd hgu hch
 rw [hpv]
 have hlt:=blk_lt hb
 refine (callsIn_wide (n:=3)).1 ?_
 have HF:=Lib.hid hf;have HC:=Lib.hid hch;have HB:=Lib.hid hb;have HBU:=Lib.hid hbu;have HS:=Lib.hid hsubu
 have HND:Hid (T.ids fu).Nodup:=(T.get_nodup u y fu t hf.nd hgu).1
 clear hf hi hu hch hb hbu hsub hsubu hg hgu hpv hum
 refine callsIn_of_wp_marks Tryz.func124 rfl trivial ?_ rfl
 simp only [Tryz.ntmps124,List.size_toArray,List.length_cons,List.length_nil,Nat.reduceAdd,Nat.reduceSub,Array.replicate_succ,Array.replicate_zero,List.push_toArray,List.append_toArray,List.nil_append,List.cons_append]
 gi_wp2_with (refine ⟨trivial,?_⟩;gi_at_call 144;refine (callsIn_wide.2 (kids_c _ _)).mono ?_;rintro e w1 ⟨rfl,rfl⟩)
 obtain ⟨W0,hW0⟩:∃ W0,(((w.alloc (.cells #[PP adr id] 135)).alloc (.cells #[.pointer none] 135)).alloc (.cells #[.pointer (some ⟨adr u,0,none⟩)] 135))=W0:=⟨_,rfl⟩
 obtain ⟨p,hp⟩:∃ p,(T.chain fu)[p]?=some id:=List.mem_iff_getElem?.1 HC.out
 have hpl:p<(T.chain fu).length:=(List.getElem?_eq_some_iff.1 hp).1
 have hsz:W0.heap.size=w.heap.size+3:=by rw [←hW0,alloc_sz,alloc_sz,alloc_sz]
 have hB0:Ext w W0:=by rw [←hW0];exact (((Below.refl _ _).alloc (Nat.le_refl _) _).alloc (by rw [alloc_sz];omega) _).alloc (by rw [alloc_sz,alloc_sz];omega) _
 have hx0:W0.heap[w.heap.size]?=some (.cells #[PP adr id] 135 (0,0))∧W0.heap[w.heap.size+1]?=some (.cells #[nilp] 135 (0,0))∧W0.heap[w.heap.size+1+1]?=some (.cells #[PP adr u] 135 (0,0)):=by
  rw [←hW0]
  have e1:∀ (a:Array Obj) (x y z:Obj),((((a.push x).push y).push z)[a.size]?)=some x∧((((a.push x).push y).push z)[a.size+1]?)=some y∧((((a.push x).push y).push z)[a.size+1+1]?)=some z:=by
   intro a x y z
   refine ⟨?_,?_,?_⟩
   ·rw [Array.getElem?_push_lt (by simp;omega),Array.getElem_push_lt (by simp),Array.getElem_push_eq]
   ·rw [Array.getElem?_push_lt (by simp)]
    simp [Array.getElem_push]
   ·rw [show a.size+1+1=((a.push x).push y).size by simp,Array.getElem?_push_size]
  exact e1 _ _ _ _
 obtain ⟨hx1,hx2,hx3⟩:=hx0
 rw [hW0]
 have hbu0:=(hB0.block _ (blk_lt HBU.out)).trans HBU.out
 have hs0:T.Has (hpOf W0) adr false (PP adr u) fu:=T.has_same fu _ _ (fun j hj=>by
  obtain ⟨x1,x2,x3,x4,e⟩:=T.has_at fu _ _ HS.out j hj
  exact hB0.block _ (blk_lt e)) HS.out
 have hgat:=HF.out
 refine' wp_rangeX True [135] (fun _=>False) (gf:=157) (lb:=#[.pointer (some ⟨w.heap.size+1+1,0,none⟩)]) rfl (enters_of Tryz.func157 (by kernel_rfl) rfl)
  (kids1_s True [135] (by decide) adr (w.heap.size+1+1) u _ _ _ fu W0 hbu0 hs0 hx3) (fun _=>rfl) (fun _ h=>h.elim)
  (fun k W=>k≤p∧W.heap[w.heap.size]?=some (.cells #[PP adr id] 135 (0,0))∧W.heap[w.heap.size+1]?=some (.cells #[upv adr (prevAt (T.chain fu) k)] 135 (0,0))∧Ext w W)
  (fun c k W=>c=.exit 0∧W.heap[w.heap.size+1]?=some (.cells #[upv adr (prevAt (T.chain fu) p)] 135 (0,0))∧Ext w W)
  (fun k W W' h s=>⟨h.1,(s.low _ (by omega)).trans h.2.1,(s.low _ (by omega)).trans h.2.2.1,SFrom.below (ts:=[135]) (B:=W0.heap.size) (by omega) k W W' h.2.2.2 s⟩)
  (fun c k W W' h s=>⟨h.1,(s.low _ (by omega)).trans h.2.1,SFrom.below (ts:=[135]) (B:=W0.heap.size) (by omega) k W W' h.2.2 s⟩)
  (fun _ _ _ _=>trivial) ⟨Nat.zero_le _,hx1,hx2,hB0⟩ _ ?assign ?body ?done ?stop
 case assign=>
  intro l x W K hK
  gi_wp2
  exact hK
 case body=>
  rintro l k hk W hl ⟨hkp,b1,b2,hB⟩
  have hcd:(T.chain fu).Nodup:=T.chain_nodup fu HND.out
  have hkm:(T.chain fu)[k]∈T.chain fu:=List.getElem_mem hk
  have hblk:∀ j∈T.chain fu,∃ c,W.heap[adr j]?=some (.cells c 141 (0,0)):=fun j hj=>by
   obtain ⟨x1,x2,x3,x4,e⟩:=T.has_at fu _ _ HS.out j (T.chain_sub fu j hj)
   exact ⟨_,(hB.block _ (blk_lt e)).trans e⟩
  obtain ⟨c1,f1⟩:=one_cell b1
  obtain ⟨ca,hca⟩:=hblk _ hkm
  obtain ⟨cb,hcb⟩:=hblk id HC.out
  obtain ⟨cc2,f2⟩:=one_cell b2
  have hk1:(T.chain fu)[k]?=some (T.chain fu)[k]:=List.getElem?_eq_getElem hk
  have hxl:=blk_lt b2
  by_cases hkp':k=p
  ·have he:(T.chain fu)[k]=id:=by subst hkp';rw [hk1] at hp;exact Option.some.inj hp
   have B2:=Lib.hid b2;have BB:=Lib.hid hB;have KP:=Lib.hid hkp'
   rw [he]
   have q1:=eql_same ⟨adr id,0,none⟩
   clear hca hcb hblk b1 b2 hB hkp' hp hk1 cc2 f2 he hbu0 hs0 hgat hx1 hx2 hx3 hW0 hcd hkm hkp
   gi_wp2
   exact ⟨Kept.refl _,rfl,by rw [←KP.out];exact B2.out,BB.out⟩
  ·have hne:(T.chain fu)[k]≠id:=fun e=>hkp' (by
    exact (List.getElem?_inj hk hcd).1 (hk1.trans ((congrArg some e).trans hp.symm)))
   have hadr:adr (T.chain fu)[k]≠adr id:=fun e=>by
    obtain ⟨x1,x2,x3,x4,e1⟩:=T.has_at fu _ _ HS.out _ (T.chain_sub fu _ hkm)
    exact T.adr_ne (h:=hpOf w) HB.out e1 hne e
   have q1:=eql_other (W:=W) (a:=⟨adr (T.chain fu)[k],0,none⟩) (b:=⟨adr id,0,none⟩) (fun e=>hadr (by injection e)) hca hcb
   have B1:=Lib.hid b1;have B2:=Lib.hid b2;have BB:=Lib.hid hB;have KP:=Lib.hid hkp'
   clear hca hcb hblk b1 b2 hB hkp' hp hk1 hbu0 hs0 hgat hx1 hx2 hx3 hW0 hcd hkm hne hadr
   gi_wp2
   refine ⟨Kept.setTurn (Kept.refl _) B2.out (by simp) _ _,?_,(setx (by omega)).trans B1.out,?_,BB.out.setCell (by simp) _⟩
   ·have:=KP.out;omega
   ·rw [one_set B2.out,prevAt,if_neg (by omega),Nat.add_sub_cancel,List.getElem?_eq_getElem hk];rfl
 case done=>
  rintro D W hD ⟨hkp,-,-,-⟩ hK
  exact absurd hkp (by omega)
 case stop=>
  rintro D c k W hD ⟨rfl,b2,hB⟩ hK
  obtain ⟨cc2,f2⟩:=one_cell b2
  have BB:=Lib.hid hB
  clear b2 hB hbu0 hs0 hgat hx1 hx2 hx3 hW0
  gi_wp2
  refine ⟨by simp,.inl ⟨_,_,rfl,run_takeDeferred hK,?_⟩⟩
  refine ⟨_,results_tmp rfl _ _ _,_,T.prev_top id fu p none HND.out hp,rfl,?_⟩
  exact BB.out.trans (belowK_b (w:=w) (Nat.le_refl _) W D _ _ (by omega) hK rfl rfl)
open Go.RowKit Go.Shelf
attribute [local go_sem] Oper.semAt_some
namespace T
def tail:Nat→T→T
 |0,t=>t
 |_+1,nil=>nil
 |m+1,node _ _ _ n=>tail m n
theorem tail_succ (t:T):∀ (m:Nat) (hm:m<(chain t).length),∃ x g n,tail m t=node ((chain t)[m]) x g n∧tail (m+1) t=n:=by
 induction t with
 |nil=>intro m h;simp [chain] at h
 |node i x f n ihf ihn=>
  intro m hm
  cases m with
  |zero=>exact ⟨x,f,n,rfl,by cases n <;> rfl⟩
  |succ m=>
   simp only [chain,List.length_cons] at hm
   obtain ⟨x',g,n',e1,e2⟩:=ihn m (by omega)
   exact ⟨x',g,n',by simpa [tail,chain] using e1,by simpa [tail] using e2⟩
theorem tail_all (t:T):tail (chain t).length t=nil:=by
 induction t with
 |nil=>rfl
 |node i x f n ihf ihn=>exact ihn
theorem tail_has {h:HP} {adr:Int→Nat} {up:Value} (m:Nat):∀ t,Has h adr false up t→Has h adr false up (tail m t):=by
 induction m with
 |zero=>intro t h;exact h
 |succ m ih=>
  intro t h
  cases t with
  |nil=>trivial
  |node i x f n=>exact ih n h.2.2
def AllW (Q:Int→ByteArray→T→Prop):T→Prop
 |nil=>True
 |node i x f n=>Q i x f∧AllW Q n
theorem allW_tail {Q:Int→ByteArray→T→Prop} (m:Nat):∀ t,AllW Q t→AllW Q (tail m t):=by
 induction m with
 |zero=>intro t h;exact h
 |succ m ih=>
  intro t h
  cases t with
  |nil=>trivial
  |node i x f n=>exact ih n h.2
theorem tail_len (m:Nat):∀ t,(ids (tail m t)).length≤(ids t).length:=by
 induction m with
 |zero=>intro t;exact Nat.le_refl _
 |succ m ih=>
  intro t
  cases t with
  |nil=>exact Nat.le_refl _
  |node i x f n=>
   have:=ih n
   simp only [tail,ids,List.length_cons,List.length_append]
   omega
theorem rows_len (d:Int) (t:T):(rows d t).length=(ids t).length:=by rw [←rows_ids d t,List.length_map]
end T
theorem Kept.stab {ts:List TypeId} {L:Nat→Prop} {B:Nat} {W W1 W2:World} (h:Kept ts L W W1) (s:Stab B ts W1 W2) (hB:W.heap.size≤B):Kept ts L W W2:=
 ⟨s.os.trans h.os,s.tape.trans h.tape,s.output.trans h.output,Nat.le_trans h.size s.size,fun b cs ty m hb ht=>(s.low b (by have:=blk_lt hb;omega)).trans (h.cells b cs ty m hb ht),fun b o hb ho hL=>(s.low b (by have:=blk_lt hb;omega)).trans (h.rest b o hb ho hL)⟩
theorem three_new (w:World) (x y z:Obj):(((w.alloc x).alloc y).alloc z).heap[w.heap.size]?=some x∧(((w.alloc x).alloc y).alloc z).heap[w.heap.size+1]?=some y∧(((w.alloc x).alloc y).alloc z).heap[w.heap.size+1+1]?=some z:=by
 have e1:∀ (a:Array Obj) (x y z:Obj),((((a.push x).push y).push z)[a.size]?)=some x∧((((a.push x).push y).push z)[a.size+1]?)=some y∧((((a.push x).push y).push z)[a.size+1+1]?)=some z:=by
  intro a x y z
  refine ⟨?_,?_,?_⟩
  ·rw [Array.getElem?_push_lt (by simp;omega),Array.getElem_push_lt (by simp),Array.getElem_push_eq]
  ·rw [Array.getElem?_push_lt (by simp)]
   simp [Array.getElem_push]
  ·rw [show a.size+1+1=((a.push x).push y).size by simp,Array.getElem?_push_size]
 exact e1 _ _ _ _
def WalkOk (ts:List TypeId) (L:Nat→Prop) (l:Nat) (adr:Int→Nat) (J:Nat→World→Prop) (xs:List Row) (B:Nat) (i:Int) (x:ByteArray) (f:T):Prop:=
 ∀ (d:Int) (k:Nat) (rest:List Row) (W:World) (a1 a2 a4:Value),0≤d→d+(T.ids f).length≤1000→xs.drop k=⟨i,d,x⟩::(T.rows (d+1) f++rest)→W.heap[adr i]?=some (nodeO i a1 a2 (T.pt adr f) a4)→T.Has (hpOf W) adr false (PP adr i) f→J k W→B≤W.heap.size→(∀ b,L b→b<W.heap.size) →
  Calls Tryz.prog 126 #[PP adr i,.int .i64 d,.func (.yield l) #[] #[]] W fun e W'=>e=.returned (.bool true)∧J (k+1+(T.ids f).length) W'∧Kept ts L W W'
set_option maxRecDepth 100000 in
set_option maxHeartbeats 1000000 in
theorem walk_one (ts:List TypeId) (h110:141∉ts) (h3:3∉ts) (h127:184∉ts) (h4:4∉ts) (h104:135∉ts) (L:Nat→Prop) (l:Nat) (adr:Int→Nat) (J:Nat→World→Prop) (xs:List Row) (B:Nat) (hJ:SFrom B ts J)
  (hY:∀ (k:Nat) (hk:k<xs.length) (W1:World),J k W1→YieldAt Fence.wide 0 Tryz.prog l #[PP adr xs[k].id,.int .i64 xs[k].depth] W1 fun e W'=>e=.returned (.bool true)∧J (k+1) W'∧Kept ts L W1 W')
  (i:Int) (x:ByteArray) (f:T) (hall:T.AllW (WalkOk ts L l adr J xs B) f):WalkOk ts L l adr J xs B i x f:=by
 intro d k rest W a1 a2 a4 hd hd2 hxs hi hf hj hB hL
 have hk:k<xs.length:=by
  have:=congrArg List.length hxs
  simp only [List.length_drop,List.length_cons] at this
  omega
 have hxk:xs[k]=⟨i,d,x⟩∧xs.drop (k+1)=T.rows (d+1) f++rest:=by
  have:=List.drop_eq_getElem_cons hk
  rw [hxs] at this
  injection this with h1 h2
  exact ⟨h1.symm,h2.symm⟩
 obtain ⟨hxk,hxs1⟩:=hxk
 have hS3:Stab B ts W (((W.alloc (.cells #[.int .i64 d] 3)).alloc (.cells #[.func (.yield l) #[] #[]] 184)).alloc (.cells #[.bool false] 4)):=
  (((Stab.refl W).alloc hB _).alloc hB _).alloc hB _
 have hE3:Ext W (((W.alloc (.cells #[.int .i64 d] 3)).alloc (.cells #[.func (.yield l) #[] #[]] 184)).alloc (.cells #[.bool false] 4)):=
  (((Below.refl _ _).alloc (Nat.le_refl _) _).alloc (by rw [alloc_sz];omega) _).alloc (by rw [alloc_sz,alloc_sz];omega) _
 obtain ⟨hx1,hx2,hx3⟩:=three_new W (.cells #[.int .i64 d] 3) (.cells #[.func (.yield l) #[] #[]] 184) (.cells #[.bool false] 4)
 have hsz3:(((W.alloc (.cells #[.int .i64 d] 3)).alloc (.cells #[.func (.yield l) #[] #[]] 184)).alloc (.cells #[.bool false] 4)).heap.size=W.heap.size+3:=by rw [alloc_sz,alloc_sz,alloc_sz]
 obtain ⟨fn,tmps,assign,body,hy,hR⟩:=hY k hk _ (hJ k _ _ hj hS3)
 rw [hxk] at hy
 have H3:=Lib.hid (And.intro hE3 (And.intro hx1 (And.intro hx2 (And.intro hx3 hsz3))));have HI:=Lib.hid hi;have HF:=Lib.hid hf;have HX:=Lib.hid hxs1;have HJ:=Lib.hid hJ;have HALL:=Lib.hid hall;have HB:=Lib.hid hB;have HL:=Lib.hid hL;have HD:=Lib.hid hd2;have HK:=Lib.hid hk
 clear hE3 hx1 hx2 hx3 hi hf hxs1 hxk hxs hJ hall hB hS3 hj hY hL hsz3 hd2 hk
 refine (callsIn_wide (n:=3)).1 ?_
 refine callsIn_of_wp_marks Tryz.func126 rfl trivial ?_ rfl
 simp only [Tryz.ntmps126,List.size_toArray,List.length_cons,List.length_nil,Nat.reduceAdd,Nat.reduceSub,Array.replicate_succ,Array.replicate_zero,List.push_toArray,List.append_toArray,List.nil_append,List.cons_append]
 gi_wp2
 refine (roundIn_any hR).mono ?_
 rintro e W4 ⟨rfl,hJ4,hk4⟩
 obtain ⟨hE3,hx1,hx2,hx3,hsz3⟩:=H3.out
 have K4:Kept ts L W W4:=(Kept.of_ext hE3).trans hk4
 have b1:=hk4.cells _ _ _ _ hx1 h3
 have b2:=hk4.cells _ _ _ _ hx2 h127
 have b3:=hk4.cells _ _ _ _ hx3 h4
 have hi4:=K4.cells _ _ _ _ HI.out h110
 have hf4:=HF.out.kept K4 h110
 have hs4:=hk4.size
 rw [hsz3] at hs4
 have HJ4:=Lib.hid hJ4;have HK4:=Lib.hid K4
 clear hE3 hx1 hx2 hx3 hsz3 H3 hk4 hR hy hJ4 K4
 gi_wp2_with (refine ⟨trivial,?_⟩;gi_at_call 144;refine (callsIn_wide.2 (kids_c _ _)).mono ?_;rintro e w1 ⟨rfl,rfl⟩)
 obtain ⟨W5,hW5⟩:∃ W5,W4.alloc (.cells #[.pointer (some ⟨adr i,0,none⟩)] 135)=W5:=⟨_,rfl⟩
 have hsz5:W5.heap.size=W4.heap.size+1:=by rw [←hW5,alloc_sz]
 have hx5:W5.heap[W4.heap.size]?=some (.cells #[PP adr i] 135 (0,0)):=by rw [←hW5];exact World.alloc_heap_new _ _
 have hE5:Ext W4 W5:=by rw [←hW5];exact (Below.refl _ _).alloc (Nat.le_refl _) _
 rw [hW5]
 have hi5:=(hE5.block _ (blk_lt hi4)).trans hi4
 have hf5:T.Has (hpOf W5) adr false (PP adr i) f:=hf4.kept (Kept.of_ext hE5:Kept ts L W4 W5) h110
 have b1':=(hE5.block _ (blk_lt b1)).trans b1
 have b2':=(hE5.block _ (blk_lt b2)).trans b2
 have b3':=(hE5.block _ (blk_lt b3)).trans b3
 have hJ5:J (k+1) W5:=HJ.out _ _ _ HJ4.out (Stab.of_ext hE5 (by have:=HB.out;omega))
 have hK5:Kept ts L W W5:=HK4.out.trans (Kept.of_ext hE5)
 have hadr:∀ j∈T.ids f,adr j<W5.heap.size:=fun j hj=>by
  obtain ⟨x1,x2,x3,x4,e⟩:=T.has_at f _ _ hf5 j hj
  exact blk_lt e
 have HP:=Lib.hid (And.intro hx5 (And.intro hi5 (And.intro hf5 (And.intro b1' (And.intro b2' (And.intro b3' (And.intro hJ5 hK5)))))))
 have HAD:=Lib.hid hadr
 clear hx5 hi5 hf5 b1' b2' b3' hJ5 hK5 hadr b1 b2 b3 hi4 hf4 hE5 HJ4 HK4
 obtain ⟨hx5,hi5,hf5,b1,b2,b3,hJ5,hK5⟩:=HP.out
 refine' wp_rangeX False ts L (gf:=157) (lb:=#[.pointer (some ⟨W4.heap.size,0,none⟩)]) rfl (enters_of Tryz.func157 (by kernel_rfl) rfl)
  (kids1_s False ts h110 adr W4.heap.size i _ _ _ f W5 hi5 hf5 hx5) (fun _=>rfl) (fun b h=>by have:=HL.out b h;omega)
  (fun m V=>∃ k',Hid (k'+(T.ids (T.tail m f)).length=k+1+(T.ids f).length)∧Hid (xs.drop k'=T.rows (d+1) (T.tail m f)++rest)∧J k' V∧V.heap[W.heap.size]?=some (.cells #[.int .i64 d] 3 (0,0))∧V.heap[W.heap.size+1]?=some (.cells #[.func (.yield l) #[] #[]] 184 (0,0)) ∧
   V.heap[W.heap.size+1+1]?=some (.cells #[.bool false] 4 (0,0))∧T.Has (hpOf V) adr false (PP adr i) f∧Kept ts L W V)
  (fun _ _ _=>False)
  (fun m V V' h s=>by
   obtain ⟨k',e1,e2,e3,e4,e5,e6,e7,e8⟩:=h
   exact ⟨k',e1,e2,HJ.out _ _ _ e3 (s.mono (by have:=HB.out;omega)),(s.low _ (by omega)).trans e4,(s.low _ (by omega)).trans e5,(s.low _ (by omega)).trans e6,e7.stab s HAD.out,e8.stab s (by omega)⟩)
  (fun c k W W' h s=>h) (fun _ _ _ h=>h) ⟨k+1,rfl,HX.out,hJ5,b1,b2,b3,hf5,hK5⟩ _ ?assign ?body ?done ?stop
 case assign=>
  intro l x W K hK
  gi_wp2
  exact hK
 case body=>
  rintro lr m hm V hl ⟨k',e1,e2,e3,e4,e5,e6,e7,e8⟩
  obtain ⟨y,g,n,t1,t2⟩:=T.tail_succ f m hm
  rw [t1] at e1 e2
  have hT:=T.tail_has m f e7
  rw [t1] at hT
  have hA:=T.allW_tail m f HALL.out
  rw [t1] at hA
  have hlen:=T.tail_len m f
  rw [t1] at hlen
  simp only [T.ids,List.length_cons,List.length_append] at hlen
  have hd9:d+1+((T.ids g).length:Int)≤1000:=by have:=HD.out;omega
  have hd8:d≤1000:=by have:=HD.out;omega
  have e2':xs.drop k'=⟨(T.chain f)[m],d+1,y⟩::(T.rows (d+1+1) g++(T.rows (d+1) n++rest)):=by rw [e2.out];simp [T.rows]
  have hC:=Lib.hid (hA.1 (d+1) k' _ V _ _ _ (by omega) hd9 e2' hT.1 hT.2.1 e3 (by have:=HB.out;have:=e8.size;omega) (fun b hb=>by have:=HL.out b hb;have:=e8.size;omega))
  obtain ⟨c4,f4⟩:=one_cell e4
  obtain ⟨c5,f5⟩:=one_cell e5
  have H9:=Lib.hid (And.intro e4 (And.intro e5 (And.intro e6 (And.intro e7 e8))))
  have hdrop:xs.drop (k'+1+(T.ids g).length)=T.rows (d+1) n++rest:=by
   rw [Nat.add_assoc,←List.drop_drop,e2',Nat.add_comm 1,List.drop_succ_cons]
   rw [←T.rows_len (d+1+1) g,List.drop_left]
  have HDR:=Lib.hid hdrop
  have HE1:=Lib.hid e1.out
  have HM:=Lib.hid t2
  clear e1 e2 e3 e4 e5 e6 e7 e8 t1 t2 hT hA hlen hd9 e2' hdrop HP hx5 hi5 hf5 b1 b2 b3 hJ5 hK5 HAD HALL hW5
  gi_wp2_with (refine ⟨trivial,?_⟩;gi_at_call 126;refine (CallsIn.inRound lr (callsIn_wide.2 hC.out)).mono ?_;clear hC;rintro e V2 ⟨rfl,hj2,hk2⟩)
  obtain ⟨e4,e5,e6,e7,e8⟩:=H9.out
  refine ⟨hk2,k'+1+(T.ids g).length,?_,?_,hj2,hk2.cells _ _ _ _ e4 h3,hk2.cells _ _ _ _ e5 h127,hk2.cells _ _ _ _ e6 h4,e7.kept hk2 h110,e8.trans hk2⟩
  ·have:=HE1.out
   show _=_
   rw [HM.out]
   simp only [T.ids,List.length_cons,List.length_append] at this
   omega
  ·show _=_
   rw [HM.out];exact HDR.out
 case done=>
  rintro D V hD ⟨k',e1,e2,e3,e4,e5,e6,e7,e8⟩ hK
  obtain ⟨c6,f6⟩:=one_cell e6
  have hk9:k'=k+1+(T.ids f).length:=by
   have:=e1.out
   rw [T.tail_all] at this
   simpa [T.ids] using this
  have H9:=Lib.hid (And.intro e6 (And.intro e3 (And.intro e8 hk9)))
  clear e1 e2 e3 e4 e5 e6 e7 e8 hk9 HP hx5 hi5 hf5 b1 b2 b3 hJ5 hK5 HAD HALL hW5
  gi_wp2
  obtain ⟨e6,e3,e8,hk9⟩:=H9.out
  have hne:D≠W.heap.size+1+1:=by omega
  have hK':(V.setCell ⟨W.heap.size+1+1,0,none⟩ (.bool true)).heap[D]?=some (.deferred (some [])):=(setx hne).trans hK
  refine ⟨by simp,.inl ⟨_,_,rfl,run_takeDeferred hK',?_⟩⟩
  have hc5:((V.setCell ⟨W.heap.size+1+1,0,none⟩ (.bool true)).putObj D (.deferred none)).cell? ⟨W.heap.size+1+1,0,none⟩=some (.bool true):=by
   rw [cell_blk (World.putObj_heap_other (fun e=>hne e.symm))]
   exact (one_cell (one_set e6)).1
  have hS:Stab W.heap.size ts V ((V.setCell ⟨W.heap.size+1+1,0,none⟩ (.bool true)).putObj D (.deferred none)):=((Stab.refl V).setCell (by omega) e6 h4 _ _).put (by omega) hK' rfl _
  refine ⟨.bool true,?_,rfl,?_,?_⟩
  ·simp [results,Tryz.f126,go_sem,hc5]
  ·rw [←hk9]
   exact HJ.out _ _ _ e3 (hS.mono HB.out)
  ·exact (e8.setCell (by omega) _ _).putNew (.inl (by omega)) _
 case stop=>
  rintro D c k W hD h hK
  exact h.elim
open Go.RowKit Go.Shelf
attribute [local go_sem] Oper.semAt_some
namespace T
theorem top_chain (t:T):∀ i,Top i t→∀ m (hm:m<(chain t).length),(chain t)[m]=i+m:=by
 induction t with
 |nil=>intro i _ m hm;simp [chain] at hm
 |node j x f n ihf ihn=>
  intro i h m hm
  cases m with
  |zero=>simp [chain,h.1]
  |succ m=>
   simp only [chain,List.length_cons] at hm
   have:=ihn (i+1) h.2.2.2 m (by omega)
   simp only [chain,List.getElem_cons_succ]
   rw [this];omega
theorem has_top {h:HP} {adr:Int→Nat} (m:Nat):∀ t,Has h adr true nilp t→Has h adr true nilp (tail m t):=by
 induction m with
 |zero=>intro t h;exact h
 |succ m ih=>
  intro t h
  cases t with
  |nil=>trivial
  |node i x f n=>exact ih n h.2.2
end T
theorem Frs.kept {ts:List TypeId} {L:Nat→Prop} {W W':World} {g:Nat} {adr:Int→Nat} {t:T} (h:Frs W g adr t) (k:Kept ts L W W') (h1:141∉ts) (h2:138∉ts):Frs W' g adr t:=by
 obtain ⟨cs,hcs⟩:=rowIs_blk h.tab
 exact ⟨h.has.kept k h1,h.tab.of_block ((k.cells _ _ _ _ hcs h2).trans hcs.symm),h.nd,h.rng⟩
section
variable (ts:List TypeId) (h110:141∉ts) (h3:3∉ts) (h127:184∉ts) (h4:4∉ts) (h104:135∉ts)
include h110 h3 h127 h4 h104
theorem walk_all (L:Nat→Prop) (l:Nat) (adr:Int→Nat) (J:Nat→World→Prop) (xs:List Row) (B:Nat) (hJ:SFrom B ts J)
  (hY:∀ (k:Nat) (hk:k<xs.length) (W1:World),J k W1→YieldAt Fence.wide 0 Tryz.prog l #[PP adr xs[k].id,.int .i64 xs[k].depth] W1 fun e W'=>e=.returned (.bool true)∧J (k+1) W'∧Kept ts L W1 W') (t:T) :
  T.AllW (WalkOk ts L l adr J xs B) t:=by
 induction t with
 |nil=>trivial
 |node i x f n ihf ihn=>exact ⟨walk_one ts h110 h3 h127 h4 h104 L l adr J xs B hJ hY i x f ihf,ihn⟩
set_option maxRecDepth 100000 in
theorem all1_s (h107:138∉ts) (h73:88∉ts) (g:Nat) (adr:Int→Nat) (b:Nat) (t:T) (w:World) (hf:Frs w g adr t) (hv:T.Valid t) (hb:w.heap[b]?=some (.cells #[.pointer (some ⟨g,0,none⟩)] 88 (0,0))) (hlen:(T.ids t).length≤1000) :
  Seqs Tryz.prog False ts 125 #[.pointer (some ⟨b,0,none⟩)] (fun r:Row=>#[PP adr r.id,.int .i64 r.depth]) (T.rows 0 t) w:=by
 intro l L J Jx W hW hl hL hJ hJx hst hY h0
 have hY':∀ (k:Nat) (hk:k<(T.rows 0 t).length) (W1:World),J k W1→YieldAt Fence.wide 0 Tryz.prog l #[PP adr (T.rows 0 t)[k].id,.int .i64 (T.rows 0 t)[k].depth] W1 fun e W'=>e=.returned (.bool true)∧J (k+1) W'∧Kept ts L W1 W':=
  fun k hk W1 h=>(hY k hk W1 h).mono fun e W' h'=>h'.elim id (fun h2=>(hst _ _ h2.2).elim)
 have HALL:=Lib.hid (walk_all ts h110 h3 h127 h4 h104 L l adr J (T.rows 0 t) W.heap.size hJ hY' t)
 have hb0:=(hW.block b (blk_lt hb)).trans hb
 have H0:=Lib.hid (And.intro h0 (And.intro (hf.ext hW) hb0))
 have HV:=Lib.hid hv;have HLEN:=Lib.hid hlen;have HL:=Lib.hid hL
 have hch:=Lib.hid (T.top_chain t 1 hv.1)
 have hch3:=hv.2.1
 clear hY hY' hJ hJx hst h0 hf hb hb0 hv hW hlen hL
 refine (callsIn_wide (n:=3)).1 ?_
 refine callsIn_of_wp Tryz.func125 rfl trivial ?_ rfl
 simp only [Tryz.ntmps125,List.size_toArray,List.length_cons,List.length_nil,Nat.reduceAdd,Nat.reduceSub,Array.replicate_succ,Array.replicate_zero,List.push_toArray,List.append_toArray,List.nil_append,List.cons_append]
 gi_wp2
 gi_loopw [3] (fun v wr=>∃ (m k:Nat),m≤3∧v=.int .i64 (m+1)∧Hid (k+(T.ids (T.tail m t)).length=(T.ids t).length)∧Hid ((T.rows 0 t).drop k=T.rows 0 (T.tail m t))∧Hid (J k wr)∧Hid (Kept ts L W wr)) (fun v wr=>4 - (intOf v).toNat)
 case atStart=>exact ⟨0,0,by omega,rfl,by show _=_;simp [T.tail],by show _=_;simp [T.tail],H0.out.1,Kept.refl _⟩
 case round=>
  obtain ⟨m,k,hm,rfl,h1,h2,hj,hk⟩:=hrel
  by_cases hm3:m<3
  ·obtain ⟨y,g',n,t1,t2⟩:=T.tail_succ t m (by omega)
   have hcm:(T.chain t)[m]=(m:Int)+1:=(hch.out m (by omega)).trans (by omega)
   have hF:=H0.out.2.1.kept hk.out h110 h107
   have hb:=hk.out.cells _ _ _ _ H0.out.2.2 h73
   obtain ⟨cb,fb⟩:=one_cell hb
   have hT:=T.has_top m t hF.has
   rw [t1] at hT h1 h2
   have hA:=T.allW_tail m t HALL.out
   rw [t1] at hA
   have hln:=T.tail_len m t
   rw [t1] at hln
   simp only [T.ids,List.length_cons,List.length_append] at hln
   have hmem:(m:Int)+1∈T.ids t:=T.chain_sub t _ (by rw [←hcm];exact List.getElem_mem _)
   have hct:=hF.tab.cell (i:=m+1) (by omega)
   simp only [fst,show (((m+1:Nat)):Int)=(m:Int)+1 from by omega] at hct
   rw [if_pos hmem] at hct
   rw [hcm] at hT hA h2
   have e2':(T.rows 0 t).drop k=⟨(m:Int)+1,0,y⟩::(T.rows (0+1) g'++T.rows 0 n):=by rw [h2.out];simp [T.rows]
   have hC:=Lib.hid (hA.1 0 k _ wr _ _ _ (by omega) (by have:=HLEN.out;omega) e2' hT.1 hT.2.1 hj.out hk.out.size (fun b hb=>by have:=HL.out b hb;have:=hk.out.size;omega))
   have hdrop:(T.rows 0 t).drop (k+1+(T.ids g').length)=T.rows 0 n:=by
    rw [Nat.add_assoc,←List.drop_drop,e2',Nat.add_comm 1,List.drop_succ_cons]
    rw [←T.rows_len (0+1) g',List.drop_left]
   have HDR:=Lib.hid hdrop;have HE:=Lib.hid h1.out;have HK:=Lib.hid hk.out;have HT2:=Lib.hid t2
   clear hdrop h1 h2 hj hk t1 t2 hcm hF hb hT hA hln hmem e2' HALL
   gi_wp2_with (refine ⟨trivial,?_⟩;gi_at_call 126;refine (callsIn_wide.2 hC.out).mono ?_;clear hC;rintro e V2 ⟨rfl,hj2,hk2⟩;have HJ2:=Lib.hid hj2;have HK2:=Lib.hid hk2;clear hj2 hk2)
   go_roundw
   case rel=>
    refine ⟨m+1,k+1+(T.ids g').length,by omega,by go_num,?_,?_,HJ2.out,HK.out.trans HK2.out⟩
    ·show _=_
     have:=HE.out
     rw [HT2.out]
     simp only [T.ids,List.length_cons,List.length_append] at this
     omega
    ·show _=_
     rw [HT2.out];exact HDR.out
   case measure=>simp [intOf];omega
  ·have hm':m=3:=by omega
   subst hm'
   have hkl:k=(T.rows 0 t).length:=by
    have:=h1.out
    rw [←hch3,T.tail_all] at this
    rw [T.rows_len]
    simpa [T.ids] using this
   have HJ9:=Lib.hid hj.out
   clear h1 h2 hj hk HALL
   gi_wp2
   go_end0
   rw [←hkl]
   exact ⟨⟨_,rfl⟩,.inl HJ9.out⟩
end
theorem all_c (u:Option Addr) (w:World):Calls Tryz.prog 86 #[.pointer u] w fun e w'=>e=.returned (.func (.func 125) #[] #[.pointer (some ⟨w.heap.size,0,none⟩)])∧w'=w.alloc (.cells #[.pointer u] 88):=by
 go_enter Tryz.func86,Tryz.ntmps86
 go_wp2
 go_ret
 exact ⟨rfl,rfl⟩
open Go.RowKit Go.Shelf
attribute [local go_sem] Oper.semAt_some
theorem wpOpIn_round {l n:Nat} {P:Program} {ops:Array Oper} {Q:Exit→Act→World→Prop} (hnd:∀ (j:Nat) (o:Oper),ops[j]?=some o→∀ c,o.op≠.defer c) {i:Nat} {K:Act→World→Prop} {a:Act} {w:World}
  (h:wpOpIn Fence.wide n P ops Q i K a w):wpOpIn (Fence.wide.inRound l) n P ops Q i K a w:=by
 unfold wpOpIn at *
 split
 ·rename_i e;simp only [e] at h;exact h
 ·rename_i o e
  simp only [e] at h
  split
  ·rename_i hw
   simp only [hw,if_true] at h
   unfold Oper.wpIn at *
   rw [Oper.semAt_plain _ _ _ (hnd i o e)] at *
   exact h
  ·rename_i hw
   simp only [hw] at h
   exact h
theorem wpAnyIn_round {l n:Nat} {P:Program} {md:Region.Mode} {ops:Array Oper} {Q:Exit→Act→World→Prop} (hnd:∀ (j:Nat) (o:Oper),ops[j]?=some o→∀ c,o.op≠.defer c) :
  ∀ (fuel:Nat) (listed:Array Bool) (a:Act) (w:World),wpAnyIn Fence.wide n P md ops Q fuel listed a w→wpAnyIn (Fence.wide.inRound l) n P md ops Q fuel listed a w
 |0,_,_,_,h=>h
 |fuel+1,listed,a,w,h=>⟨h.1,fun i hi=>wpOpIn_mono (fun a' w' h'=>wpAnyIn_round hnd fuel _ a' w' h') (wpOpIn_round hnd (h.2 i hi))⟩
def noDefer (ops:Array Oper):Bool:=ops.all fun o=>match o.op with | .defer _=>false | _=>true
theorem noDefer_spec {ops:Array Oper} (h:noDefer ops=true) (j:Nat) (o:Oper) (hj:ops[j]?=some o) (c:Call):o.op≠.defer c:=by
 intro e
 have:=Array.all_eq_true.1 h j (Array.getElem?_eq_some_iff.1 hj).1
 obtain ⟨hl,hh⟩:=Array.getElem?_eq_some_iff.1 hj
 rw [hh,e] at this
 cases this
theorem region_round {l n id:Nat} {P:Program} {ops:Array Oper} {Q:Exit→Act→World→Prop} {a:Act} {w:World} (hm:P.follows .mixedOrders=true) (hnd:noDefer ops=true)
  (h:wpAnyIn Fence.wide n P .any ops Q ops.size (Array.replicate ops.size false) a w.drew):(Code.region id ops true).wpIn (Fence.wide.inRound l) n P Q a w:=
 wpIn_region_any hm (wpAnyIn_round (fun j o hj c=>noDefer_spec hnd j o hj c) _ _ _ _ h)
theorem anyIn_append {n:Nat} {P:Program} {md:Region.Mode} {ops:Array Oper} {Q:Exit→Act→World→Prop} {fuel:Nat} {listed:Array Bool} {a:Act} {w:World} (i:Nat) {o:Oper} (hi:ops[i]?=some o) (hr:Region.ready md ops listed=[i])
  (hw:Region.wanted o (yielded ops a.tmps)=true) (s x:Operand) (t:TypeId) (hop:o.op=Op.call { callee:=Callee.builtin Builtin.append,args:=#[s,x],argTypes:=#[t,t] }) {v sl v':Value} {w':World} (hs:a.eval s=v) (hx:a.eval x=sl)
  (hrun:(Builtin.append_ #[t,t] o.type #[v,sl]).run P w=.ok v' w') (hK:wpAnyIn Fence.wide n P md ops Q fuel (listed.setIfInBounds i true) (a.put o.dst v') w'):wpAnyIn Fence.wide n P md ops Q (fuel+1) listed a w:=by
 refine wpAnyIn_ready hr (by simp) (AllReadyIn.cons hi (fun K hK'=>?_) AllReadyIn.nil)
 rw [if_pos hw]
 unfold Oper.wpIn
 refine ⟨fun _ _=>trivial,?_⟩
 rw [Oper.semAt_plain _ _ _ (by rw [hop];intro c hc';cases hc')]
 simp [execOp,hop,resolve,invoke,builtin,hs,hx,hrun,Result.andThen]
 exact hK' _ _ hK
theorem Own.stab {α:Type} [Flat α] {ts:List TypeId} {B:Nat} {e:TypeId} {W W':World} {base:Nat} {v:Value} {l:List α} (h:Own e W base v l) (s:Stab B ts W W') (he:e∈ts):Own e W' base v l:=by
 refine ⟨⟨h.1.1,?_⟩,h.2⟩
 rcases h.1.2 with h1 | ⟨g,cap,cur,h1,h2,h3,h4⟩
 ·exact .inl h1
 ·exact .inr ⟨g,cap,cur,h1,h2,s.cells _ _ _ _ h3 he,h4⟩
theorem T.has_row {h:HP} {adr:Int→Nat} (t:T):∀ (d:Int) (top:Bool) (up:Value),T.Has h adr top up t→∀ r∈T.rows d t,∃ a b c,h (adr r.id)=some (nodeO r.id (.string r.text) a b c):=by
 induction t with
 |nil=>intro d top up _ r hr;simp [T.rows] at hr
 |node i x f n ihf ihn=>
  intro d top up ht r hr
  simp only [T.rows,List.mem_cons,List.mem_append] at hr
  rcases hr with rfl | hr | hr
  ·exact ⟨_,_,_,ht.1⟩
  ·exact ihf _ _ _ ht.2.1 r hr
  ·exact ihn _ _ _ ht.2.2 r hr
theorem treeOkF_all (l:List Row):∀ (seen:List Int) (R D:Int),treeOkF seen R D l=true→∀ r∈l,rowOk r=true:=by
 induction l with
 |nil=>intro _ _ _ _ r hr;cases hr
 |cons a l ih=>
  intro seen R D h r hr
  simp only [treeOkF,Bool.and_eq_true] at h
  rcases List.mem_cons.1 hr with rfl | hr
  ·exact h.1.1.1
  ·have h2:=h.2
   split at h2
   ·simp only [Bool.and_eq_true] at h2;exact ih _ _ _ h2.2 r hr
   ·exact ih _ _ _ h2 r hr
theorem rowOk_text {r:Row} (h:rowOk r=true):r.text.size≤4:=by
 unfold rowOk at h
 split at h
 ·simp only [Bool.and_eq_true,decide_eq_true_eq] at h;rw [h.2];exact Nat.zero_le _
 ·simp only [Bool.and_eq_true,textOk,decide_eq_true_eq] at h;omega
theorem Kept.grown {ts:List TypeId} {L:Nat→Prop} {W X Y:World} {row:Option Nat} (h:Kept ts L W X) (hg:X.grownBy Y row) (hr:∀ b,row=some b→∃ cs ty m,X.heap[b]?=some (Obj.cells cs ty m)∧ty∈ts):Kept ts L W Y:=by
 refine h.trans ⟨hg.os,hg.tape,hg.output,hg.size,fun b cs ty m hb ht=>?_,fun b o hb ho _=>?_⟩
 ·refine (hg.block b (blk_lt hb) (fun e=>?_)).trans hb
  obtain ⟨cs',ty',m',h1,h2⟩:=hr b e.symm
  rw [hb] at h1;injection h1 with h1;injection h1 with _ h1;exact ht (h1▸h2)
 ·refine (hg.block b (blk_lt hb) (fun e=>?_)).trans hb
  obtain ⟨cs',ty',m',h1,h2⟩:=hr b e.symm
  rw [hb] at h1;injection h1 with h1;rw [h1] at ho;cases ho
theorem row_info:∃ i:TypeInfo,Tryz.prog.info? 46=some i∧i.zero=some (.agg #[.int .i64 0,.int .i64 0,.string ⟨#[]⟩])∧i.size=3∧i.bytes=32:=info_parts (by kernel_rfl)
theorem und_rows:Tryz.prog.underlying 23=some (.slice 46):=by kernel_rfl
set_option maxRecDepth 100000 in
set_option maxHeartbeats 1000000 in
theorem rows_c (g:Nat) (adr:Int→Nat) (t:T) (w:World) (hf:Frs w g adr t) (hv:T.Valid t) (hlen:(T.ids t).length≤1000) :
  Calls Tryz.prog 44 #[.pointer (some ⟨g,0,none⟩)] w fun e w'=>∃ v,e=.returned v∧Own 46 w' w.heap.size v (T.rows 0 t)∧Ext w w':=by
 refine (callsIn_wide (n:=3)).1 ?_
 refine callsIn_of_wp_marks Tryz.func44 rfl trivial ?_ rfl
 simp only [Tryz.ntmps44,List.size_toArray,List.length_cons,List.length_nil,Nat.reduceAdd,Nat.reduceSub,Array.replicate_succ,Array.replicate_zero,List.push_toArray,List.append_toArray,List.nil_append,List.cons_append]
 gi_wp2_with (refine ⟨trivial,?_⟩;gi_at_call 86;refine (callsIn_wide.2 (all_c _ _)).mono ?_;rintro e w1 ⟨rfl,rfl⟩)
 obtain ⟨W0,hW0⟩:∃ W0,(((w.alloc (.cells #[] 46)).alloc (.cells #[.slice (some ⟨w.heap.size,0,none⟩) 0 0] 23)).alloc (.cells #[.pointer (some ⟨g,0,none⟩)] 88))=W0:=⟨_,rfl⟩
 have hsz:W0.heap.size=w.heap.size+3:=by rw [←hW0,alloc_sz,alloc_sz,alloc_sz]
 have hB0:Ext w W0:=by rw [←hW0];exact (((Below.refl _ _).alloc (Nat.le_refl _) _).alloc (by rw [alloc_sz];omega) _).alloc (by rw [alloc_sz,alloc_sz];omega) _
 obtain ⟨hx1,hx2,hx3⟩:=three_new w (.cells #[] 46) (.cells #[.slice (some ⟨w.heap.size,0,none⟩) 0 0] 23) (.cells #[.pointer (some ⟨g,0,none⟩)] 88)
 rw [hW0] at hx1 hx2 hx3 ⊢
 have hall:=treeOkF_all _ _ _ _ (T.treeOk_rows t hv)
 have hfl:=T.rows_len 0 t
 refine' wp_rangeX False [23,46] (fun _=>False) (gf:=125) (lb:=#[.pointer (some ⟨w.heap.size+1+1,0,none⟩)]) rfl (enters_of Tryz.func125 (by kernel_rfl) rfl)
  (all1_s [23,46] (by decide) (by decide) (by decide) (by decide) (by decide) (by decide) (by decide) g adr (w.heap.size+1+1) t W0 (hf.ext hB0) hv hx3 hlen) (fun _=>rfl) (fun _ h=>h.elim)
  (fun k W=>∃ v,Boxed W (w.heap.size+1) 23 v∧Own 46 W w.heap.size v ((T.rows 0 t).take k)∧Ext w W)
  (fun _ _ _=>False)
  (fun k W W' h s=>by
   obtain ⟨v,h1,h2,h3⟩:=h
   exact ⟨v,(s.low _ (by omega)).trans h1,h2.stab s (by simp),SFrom.below (ts:=[23,46]) (B:=W0.heap.size) (by omega) k W W' h3 s⟩)
  (fun c k W W' h s=>h) (fun _ _ _ h=>h)
  ⟨_,hx2,⟨⟨rfl,.inr ⟨w.heap.size,0,#[],rfl,Nat.le_refl _,hx1,Nat.le_refl _,by simp,rfl,rfl⟩⟩,by simp⟩,hB0⟩ _ ?assign ?body ?done ?stop
 case assign=>
  intro l x W K hK
  gi_wp2
  exact hK
 case body=>
  rintro l k hk W hl ⟨v,h1,h2,h3⟩
  obtain ⟨b1,b2,b3,hnode⟩:=T.has_row t 0 true nilp hf.has _ (List.getElem_mem hk)
  have hnW:W.heap[adr (T.rows 0 t)[k].id]?=_:=(h3.block _ (blk_lt hnode)).trans hnode
  obtain ⟨c0,c1,-,-,-,cf⟩:=cells_of hnW
  have cb:=h1.cell
  have cbf:=h1.frozen
  have hrow:=hall _ (List.getElem_mem hk)
  have hlt1:=h1.lt
  have hlt2:=blk_lt hnW
  have hK1:(T.rows 0 t).take (k+1)=(T.rows 0 t).take k++[(T.rows 0 t)[k]]:=List.take_succ_eq_append_getElem hk
  generalize hr:(T.rows 0 t)[k]=r at c0 c1 cf hrow hK1 hnW hnode hlt2
  have hk9:k<1000:=by omega
  have H:=Lib.hid (And.intro h1 (And.intro h2 (And.intro h3 (And.intro hrow (And.intro hk hK1)))))
  have HW:=Lib.hid h3.size
  have HALL:=Lib.hid hall
  clear hr h1 h2 h3 hrow hnode hnW hall hf hv hB0 hx1 hx2 hx3 hW0 hfl hk hK1 hlen
  gi_wp2
  obtain ⟨i0,hi0,hz0,hz1,hz2⟩:=row_info
  obtain ⟨h1,h2,h3,hrow,hk,hK1⟩:=H.out
  have hnewx:(W.drew.alloc (.cells #[.int .i64 r.id,.int .i64 r.depth,.string r.text] 46)).heap[W.heap.size]?=some (.cells #[.int .i64 r.id,.int .i64 r.depth,.string r.text] 46 (0,0)):=World.alloc_heap_new W.drew _
  have hkl:((T.rows 0 t).take k).length=k:=by rw [List.length_take];omega
  have hkl1:((T.rows 0 t).take (k+1)).length=k+1:=by rw [List.length_take];omega
  have hown0:W.ownsRow w.heap.size 46 3 v k (flat ((T.rows 0 t).take k)):=by have:=h2.1;rwa [hkl] at this
  have happ:=run_append_own_at (P:=Tryz.prog) (w:=W.drew.alloc (.cells #[.int .i64 r.id,.int .i64 r.depth,.string r.text] 46)) w.heap.size 23 23 46 i0 _ 3 32 und_rows hi0 hz0 hz1 hz2 rfl (by decide) v k _ ((hown0.drew).alloc _) ⟨W.heap.size,0,none⟩ 1 1 (rowE r) rfl (fun j u hj=>by
    have e1:(⟨W.heap.size,0,none⟩:Addr).add j=⟨W.heap.size,0+j,none⟩:=by unfold Addr.add;split <;> simp_all
    rw [e1,Nat.zero_add]
    unfold World.cell?
    simp only [hnewx]
    simpa [rowE] using hj) (fun u hu=>Flat.one r u hu) (by unfold maxLen;omega) (by omega) (by have:=HW.out;rw [alloc_sz];show w.heap.size≤W.heap.size+1;omega)
  obtain ⟨v',w1,hrun,hown,hgrow,-,hblk⟩:=happ
  obtain ⟨g',cap',rfl⟩:=ownsRow_succ hown
  obtain ⟨hv1,hv2,hr2,hk2,hb2⟩:=Boxed.appended (W:=W.drew) h1 (by decide) hown0.drew HW.out (by omega) hown hgrow
  have FIN:Hid ((Exit.inBlock 1 (postX [23,46] (fun _=>False) (fun k W=>∃ v,Boxed W (w.heap.size+1) 23 v∧Own 46 W w.heap.size v ((T.rows 0 t).take k)∧Ext w W) (fun _ _ _=>False) (k+1) W)) .normal { tmps:=#[],defers:=[] } (w1.setCell ⟨w.heap.size+1,0,none⟩ (.slice (some ⟨g',0,none⟩) (k+1) cap'))):=by
   refine ⟨?_,_,hv2,⟨?_,?_⟩,h3.trans ((Ext.drewN (Below.refl w.heap.size W) 1).trans hb2)⟩
   ·have hd:Kept [23,46] (fun _=>False) W (W.drew.alloc (.cells #[.int .i64 r.id,.int .i64 r.depth,.string r.text] 46)):=(Kept.of_ext (Ext.drewN (Below.refl _ W) 1)).alloc _
    refine (hd.grown hgrow (fun b hb=>?_)).setTurn hv1 (by simp) _ _
    rcases ((hown0.drew).alloc (.cells #[.int .i64 r.id,.int .i64 r.depth,.string r.text] 46)).2 with ⟨h9,_⟩ | ⟨g9,cap9,cur9,h9,_,h8,_⟩
    ·rw [h9] at hb;simp [Value.ownBlock] at hb
    ·rw [h9] at hb
     simp only [Value.ownBlock,Option.some.injEq] at hb
     subst hb
     exact ⟨_,_,_,h8,by simp⟩
   ·rw [hkl1,hK1,flat_append];exact hr2
   ·intro x hx
    have:=rowOk_text (HALL.out x (List.mem_of_mem_take hx))
    show x.text.size≤maxLen
    unfold maxLen;omega
  have hc1:=hv1.cell
  have hf1:=hv1.frozen
  clear h1 h2 h3 hrow hk hK1 hnewx hown hgrow hblk hown0 hkl hkl1 hv1 hv2 hr2 hk2 hb2 hi0 hz0 hz1 hz2 H
  refine region_round (by kernel_rfl) (by kernel_rfl) ?_
  refine wpAnyIn_take (i:=1) (v:=?_) rfl rfl (by kernel_rfl) (by kernel_rfl) (by kernel_rfl) (fun _ _ _ h=>h) ⟨Or.inl ⟨by rfl,?_⟩,fun _=>rfl⟩ ?_
  rotate_left
  ·(intro w;go_simp;try with_reducible rfl)
  refine wpAnyIn_take (i:=2) (v:=?_) rfl rfl (by kernel_rfl) (by kernel_rfl) (by kernel_rfl) (fun _ _ _ h=>h) ⟨Or.inl ⟨by rfl,?_⟩,fun _=>rfl⟩ ?_
  rotate_left
  ·(intro w;go_simp;try with_reducible rfl)
  refine wpAnyIn_take (i:=3) (v:=?_) rfl rfl (by kernel_rfl) (by kernel_rfl) (by kernel_rfl) (fun _ _ _ h=>h) ⟨Or.inl ⟨by rfl,?_⟩,fun _=>rfl⟩ ?_
  rotate_left
  ·(intro w;go_simp;try with_reducible rfl)
  refine wpAnyIn_take (i:=5) (v:=?_) rfl rfl (by kernel_rfl) (by kernel_rfl) (by kernel_rfl) (fun _ _ _ h=>h) ⟨Or.inl ⟨by rfl,?_⟩,fun _=>rfl⟩ ?_
  rotate_left
  ·(intro w;go_simp;try with_reducible rfl)
  refine wpAnyIn_take (i:=6) (v:=?_) rfl rfl (by kernel_rfl) (by kernel_rfl) (by kernel_rfl) (fun _ _ _ h=>h) ⟨Or.inl ⟨by rfl,?_⟩,fun _=>rfl⟩ ?_
  rotate_left
  ·(intro w;go_simp;try with_reducible rfl)
  refine wpAnyIn_take (i:=7) (v:=?_) rfl rfl (by kernel_rfl) (by kernel_rfl) (by kernel_rfl) (fun _ _ _ h=>h) ⟨Or.inl ⟨by rfl,?_⟩,fun _=>rfl⟩ ?_
  rotate_left
  ·(intro w;go_simp;try with_reducible rfl)
  refine wpAnyIn_take (i:=8) (v:=?_) rfl rfl (by kernel_rfl) (by kernel_rfl) (by kernel_rfl) (fun _ _ _ h=>h) ⟨Or.inl ⟨by rfl,?_⟩,fun _=>rfl⟩ ?_
  rotate_left
  ·(intro w;go_simp;try with_reducible rfl)
  refine wpAnyIn_ready (rs:=[0,4,9]) (by kernel_rfl) (by simp) ?_
  refine AllReadyIn.cons rfl (fun K hK=>?_) ?_
  ·go_simp
   refine hK _ _ ?_;clear hK K
   refine wpAnyIn_ready (rs:=[4,9]) (by kernel_rfl) (by simp) ?_
   refine AllReadyIn.cons rfl (fun K hK=>?_) ?_
   ·go_simp
    refine hK _ _ ?_;clear hK K
    refine wpAnyIn_ready (rs:=[9]) (by kernel_rfl) (by simp) ?_
    refine AllReadyIn.cons rfl (fun K hK=>?_) ?_
    ·go_simp
     refine hK _ _ ?_;clear hK K
     refine wpAnyIn_take (i:=10) (v:=?_) rfl rfl (by kernel_rfl) (by kernel_rfl) (by kernel_rfl) (fun _ _ _ h=>h) ⟨Or.inl ⟨by rfl,?_⟩,fun _=>rfl⟩ ?_
     rotate_left
     ·(intro w;go_simp;try with_reducible rfl)
     refine wpAnyIn_ready (rs:=[11]) (by kernel_rfl) (by simp) ?_
     refine AllReadyIn.cons rfl (fun K hK=>?_) ?_
     ·go_simp
      refine hK _ _ ?_;clear hK K
      refine anyIn_append 12 rfl (by kernel_rfl) (by rfl) _ _ _ rfl rfl rfl hrun ?_
      refine wpAnyIn_ready (rs:=[13]) (by kernel_rfl) (by simp) (AllReadyIn.cons rfl (fun K hK=>?_) AllReadyIn.nil)
      go_simp
      refine hK _ _ ?_;clear hK K
      refine wpAnyIn_done (by kernel_rfl) ?_ _
      exact FIN.out
     exact AllReadyIn.nil
    exact AllReadyIn.nil
   refine AllReadyIn.cons rfl (fun K hK=>?_) ?_
   ·go_simp
    refine hK _ _ ?_;clear hK K
    refine wpAnyIn_ready (rs:=[4]) (by kernel_rfl) (by simp) ?_
    refine AllReadyIn.cons rfl (fun K hK=>?_) ?_
    ·go_simp
     refine hK _ _ ?_;clear hK K
     refine wpAnyIn_take (i:=10) (v:=?_) rfl rfl (by kernel_rfl) (by kernel_rfl) (by kernel_rfl) (fun _ _ _ h=>h) ⟨Or.inl ⟨by rfl,?_⟩,fun _=>rfl⟩ ?_
     rotate_left
     ·(intro w;go_simp;try with_reducible rfl)
     refine wpAnyIn_ready (rs:=[11]) (by kernel_rfl) (by simp) ?_
     refine AllReadyIn.cons rfl (fun K hK=>?_) ?_
     ·go_simp
      refine hK _ _ ?_;clear hK K
      refine anyIn_append 12 rfl (by kernel_rfl) (by rfl) _ _ _ rfl rfl rfl hrun ?_
      refine wpAnyIn_ready (rs:=[13]) (by kernel_rfl) (by simp) (AllReadyIn.cons rfl (fun K hK=>?_) AllReadyIn.nil)
      go_simp
      refine hK _ _ ?_;clear hK K
      refine wpAnyIn_done (by kernel_rfl) ?_ _
      exact FIN.out
     exact AllReadyIn.nil
    exact AllReadyIn.nil
   exact AllReadyIn.nil
  refine AllReadyIn.cons rfl (fun K hK=>?_) ?_
  ·go_simp
   refine hK _ _ ?_;clear hK K
   refine wpAnyIn_ready (rs:=[0,9]) (by kernel_rfl) (by simp) ?_
   refine AllReadyIn.cons rfl (fun K hK=>?_) ?_
   ·go_simp
    refine hK _ _ ?_;clear hK K
    refine wpAnyIn_ready (rs:=[9]) (by kernel_rfl) (by simp) ?_
    refine AllReadyIn.cons rfl (fun K hK=>?_) ?_
    ·go_simp
     refine hK _ _ ?_;clear hK K
     refine wpAnyIn_take (i:=10) (v:=?_) rfl rfl (by kernel_rfl) (by kernel_rfl) (by kernel_rfl) (fun _ _ _ h=>h) ⟨Or.inl ⟨by rfl,?_⟩,fun _=>rfl⟩ ?_
     rotate_left
     ·(intro w;go_simp;try with_reducible rfl)
     refine wpAnyIn_ready (rs:=[11]) (by kernel_rfl) (by simp) ?_
     refine AllReadyIn.cons rfl (fun K hK=>?_) ?_
     ·go_simp
      refine hK _ _ ?_;clear hK K
      refine anyIn_append 12 rfl (by kernel_rfl) (by rfl) _ _ _ rfl rfl rfl hrun ?_
      refine wpAnyIn_ready (rs:=[13]) (by kernel_rfl) (by simp) (AllReadyIn.cons rfl (fun K hK=>?_) AllReadyIn.nil)
      go_simp
      refine hK _ _ ?_;clear hK K
      refine wpAnyIn_done (by kernel_rfl) ?_ _
      exact FIN.out
     exact AllReadyIn.nil
    exact AllReadyIn.nil
   refine AllReadyIn.cons rfl (fun K hK=>?_) ?_
   ·go_simp
    refine hK _ _ ?_;clear hK K
    refine wpAnyIn_take (i:=10) (v:=?_) rfl rfl (by kernel_rfl) (by kernel_rfl) (by kernel_rfl) (fun _ _ _ h=>h) ⟨Or.inl ⟨by rfl,?_⟩,fun _=>rfl⟩ ?_
    rotate_left
    ·(intro w;go_simp;try with_reducible rfl)
    refine wpAnyIn_ready (rs:=[0,11]) (by kernel_rfl) (by simp) ?_
    refine AllReadyIn.cons rfl (fun K hK=>?_) ?_
    ·go_simp
     refine hK _ _ ?_;clear hK K
     refine wpAnyIn_ready (rs:=[11]) (by kernel_rfl) (by simp) ?_
     refine AllReadyIn.cons rfl (fun K hK=>?_) ?_
     ·go_simp
      refine hK _ _ ?_;clear hK K
      refine anyIn_append 12 rfl (by kernel_rfl) (by rfl) _ _ _ rfl rfl rfl hrun ?_
      refine wpAnyIn_ready (rs:=[13]) (by kernel_rfl) (by simp) (AllReadyIn.cons rfl (fun K hK=>?_) AllReadyIn.nil)
      go_simp
      refine hK _ _ ?_;clear hK K
      refine wpAnyIn_done (by kernel_rfl) ?_ _
      exact FIN.out
     exact AllReadyIn.nil
    refine AllReadyIn.cons rfl (fun K hK=>?_) ?_
    ·go_simp
     refine hK _ _ ?_;clear hK K
     refine wpAnyIn_ready (rs:=[0]) (by kernel_rfl) (by simp) ?_
     refine AllReadyIn.cons rfl (fun K hK=>?_) ?_
     ·go_simp
      refine hK _ _ ?_;clear hK K
      refine anyIn_append 12 rfl (by kernel_rfl) (by rfl) _ _ _ rfl rfl rfl hrun ?_
      refine wpAnyIn_ready (rs:=[13]) (by kernel_rfl) (by simp) (AllReadyIn.cons rfl (fun K hK=>?_) AllReadyIn.nil)
      go_simp
      refine hK _ _ ?_;clear hK K
      refine wpAnyIn_done (by kernel_rfl) ?_ _
      exact FIN.out
     exact AllReadyIn.nil
    exact AllReadyIn.nil
   exact AllReadyIn.nil
  refine AllReadyIn.cons rfl (fun K hK=>?_) ?_
  ·go_simp
   refine hK _ _ ?_;clear hK K
   refine wpAnyIn_ready (rs:=[0,4]) (by kernel_rfl) (by simp) ?_
   refine AllReadyIn.cons rfl (fun K hK=>?_) ?_
   ·go_simp
    refine hK _ _ ?_;clear hK K
    refine wpAnyIn_ready (rs:=[4]) (by kernel_rfl) (by simp) ?_
    refine AllReadyIn.cons rfl (fun K hK=>?_) ?_
    ·go_simp
     refine hK _ _ ?_;clear hK K
     refine wpAnyIn_take (i:=10) (v:=?_) rfl rfl (by kernel_rfl) (by kernel_rfl) (by kernel_rfl) (fun _ _ _ h=>h) ⟨Or.inl ⟨by rfl,?_⟩,fun _=>rfl⟩ ?_
     rotate_left
     ·(intro w;go_simp;try with_reducible rfl)
     refine wpAnyIn_ready (rs:=[11]) (by kernel_rfl) (by simp) ?_
     refine AllReadyIn.cons rfl (fun K hK=>?_) ?_
     ·go_simp
      refine hK _ _ ?_;clear hK K
      refine anyIn_append 12 rfl (by kernel_rfl) (by rfl) _ _ _ rfl rfl rfl hrun ?_
      refine wpAnyIn_ready (rs:=[13]) (by kernel_rfl) (by simp) (AllReadyIn.cons rfl (fun K hK=>?_) AllReadyIn.nil)
      go_simp
      refine hK _ _ ?_;clear hK K
      refine wpAnyIn_done (by kernel_rfl) ?_ _
      exact FIN.out
     exact AllReadyIn.nil
    exact AllReadyIn.nil
   refine AllReadyIn.cons rfl (fun K hK=>?_) ?_
   ·go_simp
    refine hK _ _ ?_;clear hK K
    refine wpAnyIn_take (i:=10) (v:=?_) rfl rfl (by kernel_rfl) (by kernel_rfl) (by kernel_rfl) (fun _ _ _ h=>h) ⟨Or.inl ⟨by rfl,?_⟩,fun _=>rfl⟩ ?_
    rotate_left
    ·(intro w;go_simp;try with_reducible rfl)
    refine wpAnyIn_ready (rs:=[0,11]) (by kernel_rfl) (by simp) ?_
    refine AllReadyIn.cons rfl (fun K hK=>?_) ?_
    ·go_simp
     refine hK _ _ ?_;clear hK K
     refine wpAnyIn_ready (rs:=[11]) (by kernel_rfl) (by simp) ?_
     refine AllReadyIn.cons rfl (fun K hK=>?_) ?_
     ·go_simp
      refine hK _ _ ?_;clear hK K
      refine anyIn_append 12 rfl (by kernel_rfl) (by rfl) _ _ _ rfl rfl rfl hrun ?_
      refine wpAnyIn_ready (rs:=[13]) (by kernel_rfl) (by simp) (AllReadyIn.cons rfl (fun K hK=>?_) AllReadyIn.nil)
      go_simp
      refine hK _ _ ?_;clear hK K
      refine wpAnyIn_done (by kernel_rfl) ?_ _
      exact FIN.out
     exact AllReadyIn.nil
    refine AllReadyIn.cons rfl (fun K hK=>?_) ?_
    ·go_simp
     refine hK _ _ ?_;clear hK K
     refine wpAnyIn_ready (rs:=[0]) (by kernel_rfl) (by simp) ?_
     refine AllReadyIn.cons rfl (fun K hK=>?_) ?_
     ·go_simp
      refine hK _ _ ?_;clear hK K
      refine anyIn_append 12 rfl (by kernel_rfl) (by rfl) _ _ _ rfl rfl rfl hrun ?_
      refine wpAnyIn_ready (rs:=[13]) (by kernel_rfl) (by simp) (AllReadyIn.cons rfl (fun K hK=>?_) AllReadyIn.nil)
      go_simp
      refine hK _ _ ?_;clear hK K
      refine wpAnyIn_done (by kernel_rfl) ?_ _
      exact FIN.out
     exact AllReadyIn.nil
    exact AllReadyIn.nil
   exact AllReadyIn.nil
  exact AllReadyIn.nil
 case done=>
  rintro D W hD ⟨v,h1,h2,h3⟩ hK
  rw [List.take_length] at h2
  have cb:=h1.cell
  have H:=Lib.hid (And.intro h2 h3)
  clear h2 h3 hx1 hx2 hx3 hB0 hW0 hall hf hv
  gi_wp2
  refine ⟨by simp,.inl ⟨_,_,rfl,run_takeDeferred hK,?_⟩⟩
  refine ⟨_,results_tmp rfl _ _ _,_,rfl,⟨ownsRow_putObj H.out.1.1 _ hK rfl,H.out.1.2⟩,?_⟩
  exact H.out.2.trans (belowK_b (w:=w) (Nat.le_refl _) W D _ _ (by omega) hK rfl rfl)
 case stop=>
  rintro D c k W hD h hK
  exact h.elim
end Go.Proofs.YtecmcjfdaipfcaaGreatDoor
