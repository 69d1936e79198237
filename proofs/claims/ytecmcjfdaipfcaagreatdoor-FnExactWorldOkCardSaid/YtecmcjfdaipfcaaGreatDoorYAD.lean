/- The walk that plants a forest from a list of rows. .. The children of a row, one by one. -/
import Derived.Test.YtecmcjfdaipfcaaGreatDoorYAC
import Derived.RegionTactic
import Derived.RangeFuncNested
import Derived.RangeFuncBound
import Derived.RangeFuncCalls
import Derived.RangeFuncLeaves
import Derived.Shelf.Abstract
import Derived.Shelf.RegionOpen
import Derived.WalkKit
import Derived.OwnWalkIn
import Derived.TacticsInMore
import Derived.LoopNIn
import Derived.LoopIn
namespace Go.Proofs.YtecmcjfdaipfcaaGreatDoor
open Go.RowKit
set_option linter.unusedVariables false
namespace T
theorem spine_ids (t:T):∀ a∈spine t,a∈ids t:=by
 induction t with
 |nil=>simp [spine]
 |node i x f n ihf ihn=>
  intro a ha
  simp only [ids,List.mem_cons,List.mem_append]
  cases n with
  |nil=>
   simp only [spine,List.mem_cons] at ha
   rcases ha with h | h
   ·exact .inl h
   ·exact .inr (.inl (ihf a h))
  |node b c d e=>simp only [spine] at ha;exact .inr (.inr (ihn a ha))
theorem spine_mem (t:T) (d:Nat) (a:Int) (h:(spine t)[d]?=some a):a∈ids t:=spine_ids t a (List.mem_of_getElem? h)
theorem snoc_insN (id:Int) (tx:ByteArray) (t:T):∀ (d:Nat) (a:Int),(spine t)[d]?=some a→(ids t).Nodup→snoc id tx t d=insN a id tx nil t:=by
 induction t with
 |nil=>intro d a h;simp [spine] at h
 |node i x f n ihf ihn=>
  intro d a h nd
  simp only [ids,List.nodup_cons,List.nodup_append,List.mem_append,not_or] at nd
  obtain ⟨⟨n1,n2⟩,ndf,ndn,hdis⟩:=nd
  cases n with
  |nil=>
   simp only [spine] at h
   cases d with
   |zero=>simp at h;subst h;simp [snoc,insN]
   |succ d=>
    rw [List.getElem?_cons_succ] at h
    have hm:=spine_mem f d a h
    have hne:¬i=a:=fun e=>n1 (by rw [e];exact hm)
    simp only [snoc,insN]
    rw [if_neg hne,ihf d a h ndf]
  |node b c p e=>
   simp only [spine] at h
   have hm:=spine_mem (node b c p e) d a h
   have hne:¬i=a:=fun e=>n2 (by rw [e];exact hm)
   have hnf:a∉ids f:=fun h=>hdis a h a hm rfl
   simp only [snoc]
   rw [ihn d a h ndn]
   conv=>rhs;rw [insN]
   rw [if_neg hne,insN_not _ _ _ _ f hnf]
theorem snoc_insF (id:Int) (tx:ByteArray) (t:T):∀ (d:Nat) (a:Int),(spine t)[d]?=some a→d+1=(spine t).length→(ids t).Nodup→snoc id tx t (d+1)=insF a id tx nil t∧∃ x,get a t=some (x,nil):=by
 induction t with
 |nil=>intro d a h;simp [spine] at h
 |node i x f n ihf ihn=>
  intro d a h hl nd
  simp only [ids,List.nodup_cons,List.nodup_append,List.mem_append,not_or] at nd
  obtain ⟨⟨n1,n2⟩,ndf,ndn,hdis⟩:=nd
  cases n with
  |nil=>
   simp only [spine] at h
   simp only [spine,List.length_cons] at hl
   cases d with
   |zero=>
    have hf:=spine_nil f (by omega)
    subst hf
    simp at h
    subst h
    exact ⟨by simp [snoc,insF],x,by simp [get]⟩
   |succ d=>
    rw [List.getElem?_cons_succ] at h
    have hm:=spine_mem f d a h
    have hne:¬i=a:=fun e=>n1 (by rw [e];exact hm)
    obtain ⟨h1,y,h2⟩:=ihf d a h (by omega) ndf
    refine ⟨?_,y,?_⟩
    ·simp only [snoc,insF]
     rw [if_neg hne,h1]
    ·rw [get,if_neg hne,h2];rfl
  |node b c p e=>
   simp only [spine] at h hl
   have hm:=spine_mem (node b c p e) d a h
   have hne:¬i=a:=fun e=>n2 (by rw [e];exact hm)
   have hnf:a∉ids f:=fun h=>hdis a h a hm rfl
   obtain ⟨h1,y,h2⟩:=ihn d a h hl ndn
   refine ⟨?_,y,?_⟩
   ·simp only [snoc]
    rw [h1]
    conv=>rhs;rw [insF]
    rw [if_neg hne,insF_not _ _ _ _ f hnf]
   ·rw [get,if_neg hne,get_not _ f hnf,h2];rfl
theorem spine_up (t:T):∀ q,(ids t).Nodup→(∀ a,(spine t)[0]?=some a→upOf a q t=some q)∧∀ d a b,(spine t)[d+1]?=some a→(spine t)[d]?=some b→upOf a q t=some (some b):=by
 induction t with
 |nil=>intro q _;exact ⟨fun a h=>by simp [spine] at h,fun d a b h=>by simp [spine] at h⟩
 |node i x f n ihf ihn=>
  intro q nd
  simp only [ids,List.nodup_cons,List.nodup_append,List.mem_append,not_or] at nd
  obtain ⟨⟨n1,n2⟩,ndf,ndn,hdis⟩:=nd
  cases n with
  |nil=>
   simp only [spine]
   refine ⟨fun a h=>by simp at h;subst h;simp [upOf],fun d a b h hb=>?_⟩
   rw [List.getElem?_cons_succ] at h
   have hm:=spine_mem f d a h
   rw [upOf,if_neg (fun e=>n1 (by rw [e];exact hm))]
   obtain ⟨h0,h1⟩:=ihf (some i) ndf
   cases d with
   |zero=>simp at hb;subst hb;rw [h0 a h];rfl
   |succ d=>rw [List.getElem?_cons_succ] at hb;rw [h1 d a b h hb];rfl
  |node b' c p e=>
   obtain ⟨h0,h1⟩:=ihn q ndn
   have key:∀ d a,(spine (node b' c p e))[d]?=some a→upOf a q (node i x f (node b' c p e))=upOf a q (node b' c p e):=fun d a h=>by
    have hm:=spine_mem (node b' c p e) d a h
    conv=>lhs;rw [upOf]
    rw [if_neg (fun e=>n2 (by rw [e];exact hm)),upOf_not _ _ f (fun h=>hdis _ h _ hm rfl),Option.none_or]
   simp only [spine]
   exact ⟨fun a h=>(key 0 a h).trans (h0 a h),fun d a b h hb=>(key (d+1) a h).trans (h1 d a b h hb)⟩
section
variable {h:HP} {adr adr':Int→Nat}
theorem PP_adr {i:Int} (e:adr' i=adr i):PP adr' i=PP adr i:=congrArg (fun a=>Value.pointer (some ⟨a,0,none⟩)) e
theorem pt_adr (t:T) (e:∀ j∈ids t,adr' j=adr j):pt adr' t=pt adr t:=by
 cases t with
 |nil=>rfl
 |node i x f n=>exact PP_adr (e i (by simp [ids]))
theorem has_adr (t:T):∀ (top:Bool) (up:Value),(∀ j∈ids t,adr' j=adr j)→Has h adr top up t→Has h adr' top up t:=by
 induction t with
 |nil=>intros;trivial
 |node i x f n ihf ihn=>
  intro top up e ht
  obtain ⟨hb,hf,hn⟩:=ht
  have e0:=e i (by simp [ids])
  refine ⟨?_,?_,ihn _ _ (fun j hj=>e j (by simp [ids,hj])) hn⟩
  ·unfold nx at hb ⊢
   rw [e0,pt_adr f (fun j hj=>e j (by simp [ids,hj])),pt_adr n (fun j hj=>e j (by simp [ids,hj]))]
   exact hb
  ·have:=ihf false _ (fun j hj=>e j (by simp [ids,hj])) hf
   rw [show PP adr' i=PP adr i from PP_adr e0]
   exact this
theorem has_snoc_top (id:Int) (tx:ByteArray) (hb:h (adr id)=some (nodeO id (.string tx) nilp nilp nilp)) (t:T):Has h adr true nilp t→Has h adr true nilp (snoc id tx t 0):=by
 induction t with
 |nil=>intro _;exact ⟨hb,trivial,trivial⟩
 |node i x f n ihf ihn=>
  intro ht
  cases n with
  |nil=>exact ⟨ht.1,ht.2.1,hb,trivial,trivial⟩
  |node a b c e=>exact ⟨ht.1,ht.2.1,ihn ht.2.2⟩
end
end T
structure LastOk (adr:Int→Nat) (t:T) (lf:Nat→Value):Prop where
 one:∀ d,lf d=nilp∨∃ j∈T.ids t,lf d=PP adr j
 sp:∀ d a,(T.spine t)[d]?=some a→lf d=PP adr a
theorem LastOk.step {adr adr':Int→Nat} {t:T} {lf:Nat→Value} (h:LastOk adr t lf) (he:∀ j∈T.ids t,adr' j=adr j) (id:Int) (tx:ByteArray) (d:Nat) (hd:d≤(T.spine t).length) :
  LastOk adr' (T.snoc id tx t d) (fun j=>if j=d then PP adr' id else lf j):=by
 refine ⟨fun j=>?_,fun j a hj=>?_⟩
 ·by_cases e:j=d
  ·right;refine ⟨id,by rw [T.ids_snoc _ _ _ _ hd];simp,by simp [e]⟩
  ·rcases h.one j with h1 | ⟨a,ha,h1⟩
   ·left;simp [e,h1]
   ·right;refine ⟨a,by rw [T.ids_snoc _ _ _ _ hd];simp [ha],?_⟩
    rw [if_neg e,h1,T.PP_adr (he a ha)]
 ·rw [T.spine_snoc id tx t d hd] at hj
  by_cases e:j=d
  ·rw [List.getElem?_append_right (by simp;omega)] at hj
   rw [if_pos e]
   have e0:j - (List.take d (T.spine t)).length=0:=by simp;omega
   rw [e0] at hj
   simp at hj
   rw [hj]
  ·rw [if_neg e]
   have hlt:j<d:=by
    have:=(List.getElem?_eq_some_iff.1 hj).1
    simp at this;omega
   rw [List.getElem?_append_left (by simp;omega),List.getElem?_take,if_pos hlt] at hj
   rw [h.sp j a hj,T.PP_adr (he a (T.spine_mem t j a hj))]
open Go.RowKit
theorem Frs.other {w w':World} {g:Nat} {adr:Int→Nat} {t:T} (h:Frs w g adr t) (h1:∀ j∈T.ids t,w'.heap[adr j]?=w.heap[adr j]?) (h2:w'.heap[g]?=w.heap[g]?):Frs w' g adr t:=
 ⟨T.has_same t true nilp h1 h.has,h.tab.of_block h2,h.nd,h.rng⟩
theorem rowIs_blk {w:World} {b:Nat} {ty:TypeId} {n:Nat} {f:Nat→Value} (h:w.rowIs b ty n f):∃ cs,w.heap[b]?=some (.cells cs ty (0,0)):=by
 obtain ⟨cs,hcs,_⟩:=h
 exact ⟨cs,hcs⟩
theorem Frs.adr_ne {w:World} {g:Nat} {adr:Int→Nat} {t:T} (h:Frs w g adr t) {b:Nat} {ty:TypeId} {n:Nat} {f:Nat→Value} (hb:w.rowIs b ty n f) (hty:ty≠141):∀ j∈T.ids t,b≠adr j:=by
 intro j hj e
 obtain ⟨x,f',n',top,q,_,_,_,_,e',_⟩:=h.info j hj
 obtain ⟨cs,hcs⟩:=rowIs_blk hb
 rw [e,e'] at hcs
 injection hcs with hcs
 injection hcs with _ h2
 exact hty h2.symm
theorem Frs.adr_lt {w:World} {g:Nat} {adr:Int→Nat} {t:T} (h:Frs w g adr t) (j:Int) (hj:j∈T.ids t):adr j<w.heap.size:=by
 obtain ⟨x,f',n',top,q,_,_,_,_,e',_⟩:=h.info j hj
 exact (Array.getElem?_eq_some_iff.1 e').1
def adrPut (adr:Int→Nat) (id:Int) (n:Nat):Int→Nat:=fun j=>if j=id then n else adr j
theorem two_alloc (w:World) (o1 o2:Obj):(∀ b,b<w.heap.size→((w.alloc o1).alloc o2).drew.heap[b]?=w.heap[b]?)∧((w.alloc o1).alloc o2).drew.heap[w.heap.size]?=some o1∧((w.alloc o1).alloc o2).drew.heap[w.heap.size+1]?=some o2:=by
 have e:((w.alloc o1).alloc o2).drew.heap=(w.heap.push o1).push o2:=rfl
 rw [e]
 refine ⟨fun b hb=>?_,?_,?_⟩
 ·rw [Array.getElem?_push_lt (by simp;omega),Array.getElem_push_lt hb,Array.getElem?_eq_getElem hb]
 ·rw [Array.getElem?_push_lt (by simp),Array.getElem_push_eq]
 ·rw [show w.heap.size+1=(w.heap.push o1).size by simp,Array.getElem?_push_size]
theorem alloc_sz (w:World) (o:Obj):(w.alloc o).heap.size=w.heap.size+1:=Array.size_push _
theorem set_past {w:World} {o1 o2:Obj} {b i:Nat} {v:Value} (h:b<w.heap.size):((w.alloc o1).alloc o2).drew.setCell ⟨b,i,none⟩ v=(((w.setCell ⟨b,i,none⟩ v).alloc o1).alloc o2).drew:=by
 rw [World.setCell_drew,World.setCell_alloc_past _ _ _ _ (by simp only [World.alloc,Array.size_push];omega),World.setCell_alloc_past _ _ _ _ h]
theorem plant_new (w:World) (g:Nat) (adr:Int→Nat) (t:T) (id:Int) (tx:ByteArray) (o:Obj) (hF:Frs w g adr t) (hn:id∉T.ids t) (h1:1≤id) (h2:id<37) :
  Free (((w.setCell ⟨g,id.toNat,none⟩ (.pointer (some ⟨w.heap.size+1,0,none⟩))).alloc o).alloc (nodeO id (.string tx) nilp nilp nilp)).drew g (adrPut adr id (w.heap.size+1)) t id tx .nil ∧
  (((w.setCell ⟨g,id.toNat,none⟩ (.pointer (some ⟨w.heap.size+1,0,none⟩))).alloc o).alloc (nodeO id (.string tx) nilp nilp nilp)).drew.heap[w.heap.size+1]?=some (nodeO id (.string tx) nilp nilp nilp) ∧
  (((w.setCell ⟨g,id.toNat,none⟩ (.pointer (some ⟨w.heap.size+1,0,none⟩))).alloc o).alloc (nodeO id (.string tx) nilp nilp nilp)).drew.heap[w.heap.size]?=some o ∧
  ∀ b,b<w.heap.size→b≠g→(((w.setCell ⟨g,id.toNat,none⟩ (.pointer (some ⟨w.heap.size+1,0,none⟩))).alloc o).alloc (nodeO id (.string tx) nilp nilp nilp)).drew.heap[b]?=w.heap[b]?:=by
 have hsz:(w.setCell ⟨g,id.toNat,none⟩ (.pointer (some ⟨w.heap.size+1,0,none⟩))).heap.size=w.heap.size:=setsz _ _ _
 obtain ⟨hblk0,hrow,hself⟩:=two_alloc (w.setCell ⟨g,id.toNat,none⟩ (.pointer (some ⟨w.heap.size+1,0,none⟩))) o (nodeO id (.string tx) nilp nilp nilp)
 rw [hsz] at hblk0 hrow hself
 have hblk:=fun b (hb:b<w.heap.size) (hg:b≠g)=>(hblk0 b hb).trans (setx hg)
 have hself':adrPut adr id (w.heap.size+1) id=w.heap.size+1:=if_pos rfl
 have hsameA:∀ j∈T.ids t,adrPut adr id (w.heap.size+1) j=adr j:=fun j hj=>if_neg (fun e=>hn (by rw [←e];exact hj))
 have hgn:=hF.adr_ne hF.tab (by decide)
 refine ⟨⟨?_,⟨nilp,nilp,by rw [hself'];exact hself⟩,trivial,?_,?_,?_⟩,hself,hrow,hblk⟩
 ·refine T.has_adr t true nilp hsameA (T.has_same t true nilp (fun j hj=>hblk _ (hF.adr_lt j hj) (fun e=>hgn j hj e.symm)) hF.has)
 ·have h3:((w.setCell ⟨g,id.toNat,none⟩ (.pointer (some ⟨w.heap.size+1,0,none⟩))).alloc o |>.alloc (nodeO id (.string tx) nilp nilp nilp)).drew.rowIs g 138 37 (fun j=>if j=id.toNat then .pointer (some ⟨w.heap.size+1,0,none⟩) else fst adr t j):=
   (((hF.tab.set id.toNat _).alloc o).alloc _).drew
  refine h3.congr fun i hi=>?_
  by_cases e:i=id.toNat
  ·have e2:(i:Int)=id:=by omega
   rw [if_pos e,e2,if_pos List.mem_cons_self]
   show _=PP (adrPut adr id (w.heap.size+1)) id
   exact congrArg (fun a=>Value.pointer (some ⟨a,0,none⟩)) hself'.symm
  ·have e2:(i:Int)≠id:=by omega
   rw [if_neg e]
   unfold fst
   by_cases hm:(i:Int)∈T.ids t
   ·rw [if_pos hm,if_pos (by simp [T.ids,hm])]
    exact congrArg (fun a=>Value.pointer (some ⟨a,0,none⟩)) (hsameA i hm).symm
   ·rw [if_neg hm,if_neg (by simp [T.ids,hm,e2])]
 ·simpa [T.ids] using ⟨hn,hF.nd⟩
 ·intro i hi
  simp only [T.ids,List.nil_append,List.mem_cons] at hi
  rcases hi with rfl | hi
  ·exact ⟨h1,h2⟩
  ·exact hF.rng i hi
theorem Free.top {w:World} {g:Nat} {adr:Int→Nat} {t:T} {id:Int} {tx:ByteArray} (h:Free w g adr t id tx .nil) (hb:w.heap[adr id]?=some (nodeO id (.string tx) nilp nilp nilp)):Frs w g adr (T.snoc id tx t 0):=by
 have hi:=T.ids_snoc id tx t 0 (Nat.zero_le _)
 refine ⟨T.has_snoc_top id tx hb t h.has,h.tab.congr fun i _=>?_,?_,?_⟩
 ·unfold fst
  rw [hi]
  by_cases e:(i:Int)∈T.ids t <;> by_cases e2:(i:Int)=id <;> simp [T.ids,e,e2]
 ·have h3:=h.nd
  rw [hi]
  simp only [T.ids,List.nil_append] at h3
  exact (List.perm_append_singleton id (T.ids t)).nodup_iff.2 h3
 ·intro i hx
  rw [hi] at hx
  refine h.rng i ?_
  simp only [List.mem_append,List.mem_singleton] at hx
  simp only [T.ids,List.nil_append,List.mem_cons]
  exact hx.symm
theorem plant_facts (l:List Row) (h:treeOk l=true) (k:Nat) (hk:k<l.length):1≤l[k].id∧l[k].id<37∧0≤l[k].depth∧l[k].depth<19∧l[k].id∉T.ids (T.build (l.take k))∧l[k].depth.toNat≤(T.spine (T.build (l.take k))).length ∧
  T.build (l.take (k+1))=T.snoc l[k].id l[k].text (T.build (l.take k)) l[k].depth.toNat:=by
 obtain ⟨seen,roots,depth,p,hT,_⟩:=T.part_take l h k (Nat.le_of_lt hk)
 rw [List.drop_eq_getElem_cons hk] at hT
 obtain ⟨h1,h2,h3,_⟩:=T.part_step _ _ _ _ p _ _ hT
 simp only [treeOkF,Bool.and_eq_true] at hT
 obtain ⟨i1,i2,_,i4⟩:=rowOk_id hT.1.1.1
 refine ⟨i1,i2,h1,by omega,h3,h2,?_⟩
 rw [List.take_succ_eq_append_getElem hk,T.build_snoc]
theorem plant_fin {w wr w2:World} {B g lb:Nat} {adr:Int→Nat} {lf:Nat→Value} {t:T} {id:Int} {tx:ByteArray} {d:Nat} (HW:wr.rowIs lb 139 19 lf) (HA:LastOk adr t lf) (hd:d≤(T.spine t).length) (hid:id∉T.ids t)
  (HF2:Frs w2 g (adrPut adr id (wr.heap.size+1)) (T.snoc id tx t d)) (hlbk:w2.heap[lb]?=wr.heap[lb]?) (hlow:Low B g adr (T.ids t)) (hB:B≤wr.heap.size) (HB2:Below B w w2) (hlb:B≤lb) :
  Frs (w2.setCell ⟨lb,d,none⟩ (.pointer (some ⟨wr.heap.size+1,0,none⟩))) g (adrPut adr id (wr.heap.size+1)) (T.snoc id tx t d)∧Low B g (adrPut adr id (wr.heap.size+1)) (T.ids (T.snoc id tx t d)) ∧
  (w2.setCell ⟨lb,d,none⟩ (.pointer (some ⟨wr.heap.size+1,0,none⟩))).rowIs lb 139 19 (fun j=>if j=d then PP (adrPut adr id (wr.heap.size+1)) id else lf j) ∧
  LastOk (adrPut adr id (wr.heap.size+1)) (T.snoc id tx t d) (fun j=>if j=d then PP (adrPut adr id (wr.heap.size+1)) id else lf j)∧Below B w (w2.setCell ⟨lb,d,none⟩ (.pointer (some ⟨wr.heap.size+1,0,none⟩))):=by
 have hself':adrPut adr id (wr.heap.size+1) id=wr.heap.size+1:=if_pos rfl
 have hsameA:∀ j∈T.ids t,adrPut adr id (wr.heap.size+1) j=adr j:=fun j hj=>if_neg (fun e=>hid (by rw [←e];exact hj))
 have HW2:=HW.of_block hlbk
 have hl:=HF2.adr_ne HW2 (by decide)
 have hlg:lb≠g:=by
  obtain ⟨c1,e1⟩:=rowIs_blk HW2
  obtain ⟨c2,e2⟩:=rowIs_blk HF2.tab
  intro e
  rw [e,e2] at e1
  injection e1 with e1
  injection e1 with _ e1
  exact absurd e1 (by decide)
 refine ⟨HF2.other (fun j hj=>setx (fun e=>hl j hj e.symm)) (setx hlg.symm),⟨hlow.1,fun i hi=>?_⟩,(HW2.set d _).congr fun i _=>?_,HA.step hsameA id tx d hd,HB2.setCell hlb _⟩
 ·rw [T.ids_snoc id tx t d hd,List.mem_append,List.mem_singleton] at hi
  rcases hi with hi | rfl
  ·rw [hsameA i hi];exact hlow.2 i hi
  ·rw [hself'];omega
 ·by_cases e:i=d
  ·rw [if_pos e,if_pos e];exact congrArg (fun a=>Value.pointer (some ⟨a,0,none⟩)) hself'.symm
  ·rw [if_neg e,if_neg e]
theorem cell_blk {w w':World} {b:Nat} (h:w'.heap[b]?=w.heap[b]?) (o:Nat):w'.cell? ⟨b,o,none⟩=w.cell? ⟨b,o,none⟩:=by simp [World.cell?,h]
theorem frozen_blk {w w':World} {b:Nat} (h:w'.heap[b]?=w.heap[b]?) (o:Nat):w'.frozen? ⟨b,o,none⟩=w.frozen? ⟨b,o,none⟩:=by simp [World.frozen?,h]
theorem plant_attach {w wr W:World} {B g lb:Nat} {adr:Int→Nat} {lf:Nat→Value} {t:T} {id u:Int} {tx:ByteArray} {o:Obj} (p:Int) (t':T) (upp:Option Addr) (av:Value)
  (hF:Frs wr g adr t) (hW:wr.rowIs lb 139 19 lf) (hid:id∉T.ids t)
  (hN:Free W g (adrPut adr id (wr.heap.size+1)) t id tx .nil) (hrow:W.heap[wr.heap.size]?=some o) (hsame:∀ b,b<wr.heap.size→b≠g→W.heap[b]?=wr.heap[b]?) (hlow:Low B g adr (T.ids t)) (hB:B≤wr.heap.size)
  (hu:u∈T.ids t) (hup:PP adr u=.pointer upp) (hav:(p=0∧av=nilp)∨(p∈T.ids t∧av=PP adr p∧T.upOf p none t=some (some u))) (hput:T.put t id tx .nil (u,p)=t') (hlb:lb≠g) (hBW:Below B w W) :
  Calls Tryz.prog 82 #[.pointer (some ⟨wr.heap.size+1,0,none⟩),.pointer upp,av] W fun e w'=>e=.returned (.tuple #[])∧Frs w' g (adrPut adr id (wr.heap.size+1)) t'∧Below B w w'∧w'.heap[wr.heap.size]?=some o∧w'.heap[lb]?=wr.heap[lb]?∧W.heap.size=w'.heap.size:=by
 have hself':adrPut adr id (wr.heap.size+1) id=wr.heap.size+1:=if_pos rfl
 have hsameA:∀ j∈T.ids t,adrPut adr id (wr.heap.size+1) j=adr j:=fun j hj=>if_neg (fun e=>hid (by rw [←e];exact hj))
 have hl:=hF.adr_ne hW (by decide)
 have hA:=attach_frs B g (adrPut adr id (wr.heap.size+1)) t id tx .nil (u,p) W hN ⟨hlow.1,fun i hi=>by
   simp only [T.ids,List.nil_append,List.mem_cons] at hi
   rcases hi with rfl | hi
   ·rw [hself'];omega
   ·rw [hsameA i hi];exact hlow.2 i hi⟩ hu (fun hp=>by
    rcases hav with ⟨h,_⟩ | ⟨h1,h2,h3⟩
    ·exact absurd h (by simp at hp;omega)
    ·exact ⟨h1,h3⟩)
 have e1:PP (adrPut adr id (wr.heap.size+1)) id=.pointer (some ⟨wr.heap.size+1,0,none⟩):=congrArg (fun a=>Value.pointer (some ⟨a,0,none⟩)) hself'
 have e2:PP (adrPut adr id (wr.heap.size+1)) u=.pointer upp:=(T.PP_adr (hsameA u hu)).trans hup
 have e3:posv (adrPut adr id (wr.heap.size+1)) p=av:=by
  rcases hav with ⟨h,h2⟩ | ⟨h1,h2,h3⟩
  ·subst h;rw [h2];rfl
  ·rw [h2,posv,if_pos (by have:=(hF.rng p h1).1;omega)]
   exact T.PP_adr (hsameA p h1)
 simp only [e1,e2,e3,hput] at hA
 refine hA.mono ?_
 rintro e w' ⟨rfl,h1,h2,h3,h4⟩
 refine ⟨rfl,h1,hBW.trans h2,(h4 _ ?_).trans hrow,(h4 _ ?_).trans (hsame lb hW.lt hlb),h3.symm⟩
 ·intro j hj
  rcases List.mem_cons.1 hj with rfl | hj
  ·rw [hself'];omega
  ·rw [hsameA j hj];have:=hF.adr_lt j hj;omega
 ·intro j hj
  rcases List.mem_cons.1 hj with rfl | hj
  ·rw [hself'];have:=hW.lt;omega
  ·rw [hsameA j hj];exact hl j hj
set_option maxRecDepth 100000 in
set_option maxHeartbeats 2000000 in
theorem plant_c (A:Option Addr) (c:Nat) (l:List Row) (w:World) (ht:Tab w) (hr:Rd w A c l) (hok:treeOk l=true) :
  Calls Tryz.prog 42 #[.slice A l.length c] w fun e w'=>∃ (g:Nat) (adr:Int→Nat),e=.returned (.tuple #[.pointer (some ⟨g,0,none⟩),.bool true])∧Frs w' g adr (T.build l)∧Low w.heap.size g adr (T.ids (T.build l))∧Ext w w':=by
 have hm:l.length≤maxLen:=Nat.le_trans hr.1 hr.2.1
 unfold maxLen at hm
 have HP:=Lib.hid (plant_facts l hok)
 have HO:=treeOk_c A c l w ht hr
 rw [hok] at HO
 have HO:=Lib.hid HO
 have HR:=Lib.hid hr;have HT:=Lib.hid ht;clear hr ht hok
 go_enter Tryz.func42,Tryz.ntmps42
 go_wp2_with (go_at_call 46;refine HO.out.mono ?_;rintro e w1 ⟨rfl,hb⟩;have HB1:=Lib.hid hb;clear hb)
 clear HO
 go_loopg [18] l.length (fun gk i wr=>∃ (k:Nat) (adr:Int→Nat) (lf:Nat→Value),k≤l.length∧Hid (gk=l.length - k)∧i=.int .i64 k∧Hid (Frs wr w1.heap.size adr (T.build (l.take k)))∧Hid (Low w.heap.size w1.heap.size adr (T.ids (T.build (l.take k))))∧Hid (wr.rowIs (w1.heap.size+1) 139 19 lf)∧Hid (LastOk adr (T.build (l.take k)) lf)∧Hid (Below w.heap.size w wr))
 case atStart=>
  have hsz:=HB1.out.size
  have hsz2:((w1.alloc (.cells (List.replicate 37 nilp).toArray 138)).heap.size)=w1.heap.size+1:=alloc_sz _ _
  refine ⟨0,fun _=>0,fun _=>nilp,Nat.zero_le _,rfl,rfl,⟨trivial,?_,List.nodup_nil,by simp [T.build,T.ids]⟩,⟨hsz,by simp [T.build,T.ids]⟩,?_,⟨fun _=>.inl rfl,by simp [T.build,T.spine]⟩,?_⟩
  ·refine (World.rowIs_alloc w1 _ _ _ (fun i hi=>?_)).alloc _
   have hi':i<37:=hi
   exact rep_at 37 nilp i hi'
  ·rw [←hsz2]
   refine World.rowIs_alloc _ _ _ _ (fun i hi=>?_)
   have hi':i<19:=hi
   exact rep_at 19 nilp i hi'
  ·exact (HB1.out.alloc hsz _).alloc (Nat.le_trans hsz (by rw [alloc_sz];omega)) _
 case round=>
  obtain ⟨k,adr,lf,hk,HK,rfl,HF,HL,HW,HA,HB⟩:=hrel
  by_cases hlt:k<l.length
  ·obtain ⟨b,off,rfl,hbl,c0,c1,c2⟩:=row_at (HR.out.ext HB.out) k hlt
   have hgl:=HF.out.size
   have hll:=HW.out.lt
   obtain ⟨hrg1,hrg2,hd1,hd2,hfresh,hsp,hnext⟩:=HP.out k hlt
   have hgc:=HF.out.tab.cell (i:=l[k].id.toNat) (by omega)
   have hlc:=HW.out.cell (i:=l[k].depth.toNat) (by omega)
   have hfz:=HF.out.tab.frozen l[k].id.toNat
   have hlz:=HW.out.frozen l[k].depth.toNat
   have HN:=Lib.hid (plant_new wr w1.heap.size adr (T.build (l.take k)) l[k].id l[k].text (.cells #[.int .i64 l[k].id,.int .i64 l[k].depth,.string l[k].text] 46) HF.out hfresh hrg1 hrg2)
   have HI:=Lib.hid hfresh;have HS:=Lib.hid hsp;have HX:=Lib.hid hnext
   have hBs:=HB.out.size
   have HB1s:=Lib.hid HB1.out.size
   clear hfresh hsp hnext
   by_cases hd0:l[k].depth=0
   ·have hlc0:=HW.out.cell (i:=0) (by omega)
    have hlz0:=HW.out.frozen 0
    clear hlc hlz
    go_wp2
    go_region
    go_wp2
    go_roundg (l.length - (k+1))
    case measure=>have:=HK.out;omega
    case rel=>
     obtain ⟨n1,n2,n3,n4⟩:=HN.out
     rw [hd0] at n1 n2 n3 n4
     have hself':adrPut adr l[k].id (wr.heap.size+1) l[k].id=wr.heap.size+1:=if_pos rfl
     have f1:=n1.top (by rw [hself'];exact n2)
     have e0:l[k].depth.toNat=0:=by omega
     have HX':=HX.out
     rw [e0] at HX'
     have HB2:=(((HB.out.setCell (p:=⟨w1.heap.size,l[k].id.toNat,none⟩) HB1s.out (.pointer (some ⟨wr.heap.size+1,0,none⟩))).alloc (by rw [setsz];exact hBs) (.cells #[.int .i64 l[k].id,.int .i64 0,.string l[k].text] 46)).alloc (by simp [World.alloc];omega) (nodeO l[k].id (.string l[k].text) nilp nilp nilp)) |>.trans (Ext.drewN (Below.refl _ _) 1)
     obtain ⟨g1,g2,g3,g4,g5⟩:=plant_fin (d:=0) HW.out HA.out (Nat.zero_le _) HI.out f1 (n4 _ (by omega) (by omega)) HL.out (by omega) HB2 (by have:=HB1s.out;omega)
     rw [←HX'] at g1 g2 g4
     rw [set_past (by rw [setsz];exact hll)] at g1
     rw [set_past (by rw [setsz];exact hll)] at g3
     rw [set_past (by rw [setsz];exact hll)] at g5
     refine ⟨k+1,_,_,by omega,rfl,by go_num,?_,g2,?_,g4,?_⟩
     ·exact g1
     ·exact g3
     ·exact g5
   ·have hd0':0<l[k].depth:=by omega
    have hc1:=HW.out.cell (i:=(l[k].depth.toNat - 1)) (by omega)
    have hlt1:(l[k].depth.toNat - 1)<(T.spine (T.build (l.take k))).length:=by have:=HS.out;omega
    have hu:=List.getElem?_eq_getElem hlt1
    generalize (T.spine (T.build (l.take k)))[(l[k].depth.toNat - 1)]=u at hu
    rw [HA.out.sp _ _ hu] at hc1
    have HU:=Lib.hid hu
    have hah:(∃ a,lf l[k].depth.toNat=PP adr a∧a∈T.ids (T.build (l.take k))∧T.upOf a none (T.build (l.take k))=some (some u)∧T.insN a l[k].id l[k].text .nil (T.build (l.take k))=T.build (l.take (k+1))) ∨
      (T.insF u l[k].id l[k].text .nil (T.build (l.take k))=T.build (l.take (k+1))∧(lf l[k].depth.toNat=nilp∨∃ a,lf l[k].depth.toNat=PP adr a∧a∈T.ids (T.build (l.take k))∧T.upOf a none (T.build (l.take k))≠some (some u))):=by
     rw [HX.out]
     by_cases hlen:l[k].depth.toNat<(T.spine (T.build (l.take k))).length
     ·left
      have ha:=List.getElem?_eq_getElem hlen
      generalize (T.spine (T.build (l.take k)))[l[k].depth.toNat]=a at ha
      refine ⟨a,HA.out.sp _ _ ha,T.spine_mem _ _ _ ha,?_,(T.snoc_insN _ _ _ _ _ ha HF.out.nd).symm⟩
      refine (T.spine_up _ none HF.out.nd).2 (l[k].depth.toNat - 1) a u ?_ hu
      rw [show (l[k].depth.toNat - 1)+1=l[k].depth.toNat by omega];exact ha
     ·right
      obtain ⟨h1,x,h2⟩:=T.snoc_insF l[k].id l[k].text _ (l[k].depth.toNat - 1) u hu (by have:=HS.out;omega) HF.out.nd
      rw [show (l[k].depth.toNat - 1)+1=l[k].depth.toNat by omega] at h1
      refine ⟨h1.symm,?_⟩
      rcases HA.out.one l[k].depth.toNat with h | ⟨a,ha,h⟩
      ·exact .inl h
      ·refine .inr ⟨a,h,ha,fun hup=>?_⟩
       rcases T.up_get _ HF.out.nd a u none hup with ⟨_,h⟩ | ⟨y,g',h,hm⟩
       ·cases h
       ·rw [h2] at h;injection h with h;injection h with _ h;rw [←h] at hm;simp [T.chain] at hm
    have hum:=T.spine_mem _ _ _ hu
    have hBW:Below w.heap.size w _:=(((HB.out.setCell (p:=⟨w1.heap.size,l[k].id.toNat,none⟩) HB1s.out (.pointer (some ⟨wr.heap.size+1,0,none⟩))).alloc (by rw [setsz];exact hBs) (.cells #[.int .i64 l[k].id,.int .i64 l[k].depth,.string l[k].text] 46)).alloc (by simp [World.alloc];omega) (nodeO l[k].id (.string l[k].text) nilp nilp nilp)) |>.trans (Ext.drewN (Below.refl _ _) 1)
    have hatt:=fun (p:Int) (av:Value) hav hput=>plant_attach (w:=w) p (T.build (l.take (k+1))) (some ⟨adr u,0,none⟩) av HF.out HW.out HI.out HN.out.1 HN.out.2.2.1 HN.out.2.2.2 HL.out hBs hum rfl hav hput (by omega) hBW
    have hg0:=(HF.out.rng u hum).1
    rcases hah with ⟨a,e1,ha,hua,hput⟩ | ⟨hput,hah⟩
    ·have hb:=Lib.hid (hatt a (PP adr a) (.inr ⟨ha,rfl,hua⟩) (by rw [T.put,if_pos (show (0:Int)<(u,a).2 from (HF.out.rng a ha).1)];exact hput))
     have HC:=hb
     obtain ⟨xa,fa,na,topa,qa,-,-,hqa,-,hba,-⟩:=HF.out.info a ha
     rw [hua] at hqa;injection hqa with hqa;subst hqa
     obtain ⟨-,-,c2a,-,-,-⟩:=cells_of hba
     simp only [upv] at c2a
     have hal:=HF.out.adr_lt a ha
     have han:=HF.out.adr_ne HF.out.tab (by decide) a ha
     have q1:=neq_same ⟨adr u,0,none⟩
     rw [e1] at hlc
     clear hb hba hatt hBW hput hua ha hum hu
     go_wp2
     go_region
     go_wp2_with fail
     refine HC.out.mono ?_;rintro e w2 ⟨rfl,f2,b2,r2,l2,s2⟩
     have hr1:w2.cell? ⟨wr.heap.size,1,none⟩=some (.int .i64 l[k].depth):=by simp [World.cell?,r2]
     have hrl:=cell_blk l2 l[k].depth.toNat
     have hfl:=frozen_blk l2 l[k].depth.toNat
     rw [hlc] at hrl;rw [hlz] at hfl
     have F2:=Lib.hid f2;have B2:=Lib.hid b2;have L2:=Lib.hid l2
     clear f2 b2 r2 l2 hlc hlz hgc hfz c0 c1 c2 hc1 HC
     go_wp2
     go_roundg (l.length - (k+1))
     case measure=>have:=HK.out;omega
     case rel=>
      have hfin:=plant_fin HW.out HA.out HS.out HI.out (by rw [←HX.out];exact F2.out) L2.out HL.out (by omega) B2.out (by have:=HB1s.out;omega)
      rw [←HX.out] at hfin
      obtain ⟨g1,g2,g3,g4,g5⟩:=hfin
      exact ⟨k+1,_,_,by omega,rfl,by go_num,g1,g2,g3,g4,g5⟩
    ·rcases hah with e1 | ⟨a,e1,ha,hua⟩
     ·have HC:=Lib.hid (hatt 0 nilp (.inl ⟨rfl,rfl⟩) (by rw [T.put,if_neg (show ¬(0:Int)<(u,(0:Int)).2 from Int.lt_irrefl 0)];exact hput))
      rw [e1] at hlc
      clear hatt hBW hput hum hu
      go_wp2
      go_region
      go_wp2_with fail
      refine HC.out.mono ?_;rintro e w2 ⟨rfl,f2,b2,r2,l2,s2⟩
      have hr1:w2.cell? ⟨wr.heap.size,1,none⟩=some (.int .i64 l[k].depth):=by simp [World.cell?,r2]
      have hrl:=cell_blk l2 l[k].depth.toNat
      have hfl:=frozen_blk l2 l[k].depth.toNat
      rw [hlc] at hrl;rw [hlz] at hfl
      have F2:=Lib.hid f2;have B2:=Lib.hid b2;have L2:=Lib.hid l2
      clear f2 b2 r2 l2 hlc hlz hgc hfz c0 c1 c2 hc1 HC
      go_wp2
      go_roundg (l.length - (k+1))
      case measure=>have:=HK.out;omega
      case rel=>
       have hfin:=plant_fin HW.out HA.out HS.out HI.out (by rw [←HX.out];exact F2.out) L2.out HL.out (by omega) B2.out (by have:=HB1s.out;omega)
       rw [←HX.out] at hfin
       obtain ⟨g1,g2,g3,g4,g5⟩:=hfin
       exact ⟨k+1,_,_,by omega,rfl,by go_num,g1,g2,g3,g4,g5⟩
     ·have HC:=Lib.hid (hatt 0 nilp (.inl ⟨rfl,rfl⟩) (by rw [T.put,if_neg (show ¬(0:Int)<(u,(0:Int)).2 from Int.lt_irrefl 0)];exact hput))
      obtain ⟨xa,fa,na,topa,qa,-,-,hqa,-,hba,-⟩:=HF.out.info a ha
      obtain ⟨-,-,c2a,-,-,-⟩:=cells_of hba
      have hal:=HF.out.adr_lt a ha
      have han:=HF.out.adr_ne HF.out.tab (by decide) a ha
      rw [e1] at hlc
      cases qa with
      |none=>
       simp only [upv] at c2a
       have q1:=neq_nil ⟨adr u,0,none⟩
       clear hba hatt hBW hput hua ha hum hu hqa
       go_wp2
       go_region
       go_wp2_with fail
       refine HC.out.mono ?_;rintro e w2 ⟨rfl,f2,b2,r2,l2,s2⟩
       have hr1:w2.cell? ⟨wr.heap.size,1,none⟩=some (.int .i64 l[k].depth):=by simp [World.cell?,r2]
       have hrl:=cell_blk l2 l[k].depth.toNat
       have hfl:=frozen_blk l2 l[k].depth.toNat
       rw [hlc] at hrl;rw [hlz] at hfl
       have F2:=Lib.hid f2;have B2:=Lib.hid b2;have L2:=Lib.hid l2
       clear f2 b2 r2 l2 hlc hlz hgc hfz c0 c1 c2 hc1 HC
       go_wp2
       go_roundg (l.length - (k+1))
       case measure=>have:=HK.out;omega
       case rel=>
        have hfin:=plant_fin HW.out HA.out HS.out HI.out (by rw [←HX.out];exact F2.out) L2.out HL.out (by omega) B2.out (by have:=HB1s.out;omega)
        rw [←HX.out] at hfin
        obtain ⟨g1,g2,g3,g4,g5⟩:=hfin
        exact ⟨k+1,_,_,by omega,rfl,by go_num,g1,g2,g3,g4,g5⟩
      |some u2=>
       simp only [upv] at c2a
       have hu2:u2∈T.ids (T.build (l.take k)):=by
        rcases T.up_get _ HF.out.nd a u2 none hqa with ⟨_,h⟩ | ⟨y,g',h,_⟩
        ·cases h
        ·exact (T.get_sub _ _ _ _ h).1
       have hne:adr u2≠adr u:=HF.out.inj hu2 hum (fun e=>hua (by rw [hqa,e]))
       obtain ⟨x3,f3,n3,top3,q3,-,-,-,-,hb3,-⟩:=HF.out.info u2 hu2
       obtain ⟨x4,f4,n4,top4,q4,-,-,-,-,hb4,-⟩:=HF.out.info u hum
       have q1:=neq_other (W:=(((wr.setCell ⟨w1.heap.size,l[k].id.toNat,none⟩ (.pointer (some ⟨wr.heap.size+1,0,none⟩))).alloc (.cells #[.int .i64 l[k].id,.int .i64 l[k].depth,.string l[k].text] 46)).alloc (nodeO l[k].id (.string l[k].text) nilp nilp nilp)).drew) (a:=⟨adr u2,0,none⟩) (b:=⟨adr u,0,none⟩) (fun e=>hne (by injection e))
        ((HN.out.2.2.2 _ (HF.out.adr_lt u2 hu2) (fun e=>HF.out.adr_ne HF.out.tab (by decide) u2 hu2 e.symm)).trans hb3) ((HN.out.2.2.2 _ (HF.out.adr_lt u hum) (fun e=>HF.out.adr_ne HF.out.tab (by decide) u hum e.symm)).trans hb4)
       clear hba hatt hBW hput hua ha hum hu hqa hb3 hb4 hne hu2
       go_wp2
       go_region
       go_wp2_with fail
       refine HC.out.mono ?_;rintro e w2 ⟨rfl,f2,b2,r2,l2,s2⟩
       have hr1:w2.cell? ⟨wr.heap.size,1,none⟩=some (.int .i64 l[k].depth):=by simp [World.cell?,r2]
       have hrl:=cell_blk l2 l[k].depth.toNat
       have hfl:=frozen_blk l2 l[k].depth.toNat
       rw [hlc] at hrl;rw [hlz] at hfl
       have F2:=Lib.hid f2;have B2:=Lib.hid b2;have L2:=Lib.hid l2
       clear f2 b2 r2 l2 hlc hlz hgc hfz c0 c1 c2 hc1 HC
       go_wp2
       go_roundg (l.length - (k+1))
       case measure=>have:=HK.out;omega
       case rel=>
        have hfin:=plant_fin HW.out HA.out HS.out HI.out (by rw [←HX.out];exact F2.out) L2.out HL.out (by omega) B2.out (by have:=HB1s.out;omega)
        rw [←HX.out] at hfin
        obtain ⟨g1,g2,g3,g4,g5⟩:=hfin
        exact ⟨k+1,_,_,by omega,rfl,by go_num,g1,g2,g3,g4,g5⟩
  ·go_wp2
   go_ret2
   have hkl:k=l.length:=by omega
   subst hkl
   rw [List.take_length] at HF HL
   exact ⟨_,_,rfl,HF.out,HL.out,HB.out⟩
open Go.RowKit Go.Shelf
attribute [local go_sem] Oper.semAt_some
structure Kept (ts:List TypeId) (L:Nat→Prop) (W W':World):Prop where
 os:W'.os=W.os
 tape:W'.tape=W.tape
 output:W'.output=W.output
 size:W.heap.size≤W'.heap.size
 cells:∀ (b:Nat) (cs:Array Value) (ty:TypeId) (m:Nat × Nat),W.heap[b]?=some (Obj.cells cs ty m)→ty∉ts→W'.heap[b]?=some (Obj.cells cs ty m)
 rest:∀ (b:Nat) (o:Obj),W.heap[b]?=some o→o.isCells=false→¬L b→W'.heap[b]?=some o
structure Stab (B:Nat) (ts:List TypeId) (W W':World):Prop where
 os:W'.os=W.os
 tape:W'.tape=W.tape
 output:W'.output=W.output
 size:W.heap.size≤W'.heap.size
 low:∀ b,b<B→W'.heap[b]?=W.heap[b]?
 cells:∀ (b:Nat) (cs:Array Value) (ty:TypeId) (m:Nat × Nat),W.heap[b]?=some (Obj.cells cs ty m)→ty∈ts→W'.heap[b]?=some (Obj.cells cs ty m)
def SFrom (B:Nat) (ts:List TypeId) (I:Nat→World→Prop):Prop:=∀ k W W',I k W→Stab B ts W W'→I k W'
theorem blk_lt {W:World} {b:Nat} {o:Obj} (h:W.heap[b]?=some o):b<W.heap.size:=(Array.getElem?_eq_some_iff.1 h).1
section
variable {ts:List TypeId} {L:Nat→Prop} {W W' W'':World} {B:Nat}
theorem Kept.refl (W:World):Kept ts L W W:=⟨rfl,rfl,rfl,Nat.le_refl _,fun _ _ _ _ h _=>h,fun _ _ h _ _=>h⟩
theorem Kept.trans (h:Kept ts L W W') (k:Kept ts L W' W''):Kept ts L W W'':=
 ⟨k.os.trans h.os,k.tape.trans h.tape,k.output.trans h.output,Nat.le_trans h.size k.size,fun b cs ty m hb ht=>k.cells b cs ty m (h.cells b cs ty m hb ht) ht,fun b o hb ho hL=>k.rest b o (h.rest b o hb ho hL) ho hL⟩
theorem Kept.mono {L':Nat→Prop} (h:Kept ts L W W') (hL:∀ k,L k→L' k):Kept ts L' W W':=⟨h.os,h.tape,h.output,h.size,h.cells,fun b o hb ho hn=>h.rest b o hb ho (fun hl=>hn (hL b hl))⟩
theorem Kept.below (h:Kept ts L W W') (hb:Below W.heap.size W' W'') (hs:W'.heap.size≤W''.heap.size):Kept ts L W W'':=
 ⟨hb.os.trans h.os,hb.tape.trans h.tape,hb.output.trans h.output,Nat.le_trans h.size hs,fun b cs ty m hW ht=>(hb.block b (blk_lt hW)).trans (h.cells b cs ty m hW ht),fun b o hW ho hL=>(hb.block b (blk_lt hW)).trans (h.rest b o hW ho hL)⟩
theorem Kept.of_ext (h:Ext W W'):Kept ts L W W':=(Kept.refl W).below h h.size
theorem Kept.alloc (h:Kept ts L W W') (o:Obj):Kept ts L W (W'.alloc o):=h.trans (Kept.of_ext ((Below.refl _ _).alloc (Nat.le_refl _) o))
theorem Kept.setCell (h:Kept ts L W W') {b:Nat} (hb:W.heap.size≤b) (i:Nat) (v:Value):Kept ts L W (W'.setCell ⟨b,i,none⟩ v):=
 h.below ((Below.refl _ _).setCell hb v) (Nat.le_of_eq (setsz _ _ _).symm)
theorem Kept.putNew (h:Kept ts L W W') {b:Nat} (hb:W.heap.size≤b∨L b∧∃ o,W'.heap[b]?=some o∧o.isCells=false) (o':Obj):Kept ts L W (W'.putObj b o'):=by
 rcases hb with hb | ⟨hl,o,ho,hc⟩
 ·exact ⟨h.os,h.tape,h.output,by simpa using h.size,fun k cs ty m hW ht=>(World.putObj_heap_other (by have:=blk_lt hW;omega)).trans (h.cells k cs ty m hW ht),fun k o hW ho hL=>(World.putObj_heap_other (by have:=blk_lt hW;omega)).trans (h.rest k o hW ho hL)⟩
 ·exact ⟨h.os,h.tape,h.output,by simpa using h.size,
   fun k cs ty m hW ht=>(World.putObj_heap_other (fun e=>by subst e;rw [h.cells _ cs ty m hW ht] at ho;cases ho;cases hc)).trans (h.cells k cs ty m hW ht),
   fun k o hW ho hL=>(World.putObj_heap_other (fun e=>by subst e;exact hL hl)).trans (h.rest k o hW ho hL)⟩
theorem Kept.cell (h:Kept ts L W W') {b:Nat} {cs:Array Value} {ty:TypeId} {m:Nat × Nat} (hb:W.heap[b]?=some (Obj.cells cs ty m)) (ht:ty∉ts) (o:Nat):W'.cell? ⟨b,o,none⟩=W.cell? ⟨b,o,none⟩:=cell_blk ((h.cells b cs ty m hb ht).trans hb.symm) o
theorem Stab.refl (W:World):Stab B ts W W:=⟨rfl,rfl,rfl,Nat.le_refl _,fun _ _=>rfl,fun _ _ _ _ h _=>h⟩
theorem Stab.trans (h:Stab B ts W W') (k:Stab B ts W' W''):Stab B ts W W'':=
 ⟨k.os.trans h.os,k.tape.trans h.tape,k.output.trans h.output,Nat.le_trans h.size k.size,fun b hb=>(k.low b hb).trans (h.low b hb),fun b cs ty m hb ht=>k.cells b cs ty m (h.cells b cs ty m hb ht) ht⟩
theorem Stab.mono {B':Nat} (h:Stab B ts W W') (hB:B'≤B):Stab B' ts W W':=⟨h.os,h.tape,h.output,h.size,fun b hb=>h.low b (by omega),h.cells⟩
theorem Stab.of_ext (h:Ext W W') (hB:B≤W.heap.size):Stab B ts W W':=⟨h.os,h.tape,h.output,h.size,fun b hb=>h.block b (by omega),fun b cs ty m hb _=>(h.block b (blk_lt hb)).trans hb⟩
theorem Stab.alloc (h:Stab B ts W W') (hB:B≤W.heap.size) (o:Obj):Stab B ts W (W'.alloc o):=h.trans (Stab.of_ext ((Below.refl _ _).alloc (Nat.le_refl _) o) (Nat.le_trans hB h.size))
theorem Stab.put (h:Stab B ts W W') {b:Nat} (hB:B≤b) {o:Obj} (ho:W'.heap[b]?=some o) (hc:o.isCells=false) (o':Obj):Stab B ts W (W'.putObj b o'):=
 h.trans ⟨rfl,rfl,rfl,by simp,fun k hk=>World.putObj_heap_other (by omega),fun k cs ty m hk _=>(World.putObj_heap_other (fun e=>by subst e;rw [hk] at ho;cases ho;cases hc)).trans hk⟩
theorem Stab.setCell (h:Stab B ts W W') {b:Nat} (hB:B≤b) {cs:Array Value} {ty:TypeId} {m:Nat × Nat} (ho:W'.heap[b]?=some (Obj.cells cs ty m)) (ht:ty∉ts) (i:Nat) (v:Value):Stab B ts W (W'.setCell ⟨b,i,none⟩ v):=by
 have hs:∀ x:World,(x.setCell ⟨b,i,none⟩ v).os=x.os∧(x.setCell ⟨b,i,none⟩ v).tape=x.tape∧(x.setCell ⟨b,i,none⟩ v).output=x.output:=fun x=>by unfold World.setCell;split <;> exact ⟨rfl,rfl,rfl⟩
 refine h.trans ⟨(hs _).1,(hs _).2.1,(hs _).2.2,Nat.le_of_eq (setsz _ _ _).symm,fun k hk=>setx (by omega),fun k cs' ty' m' hk ht'=>(setx (fun e=>?_)).trans hk⟩
 subst e;rw [hk] at ho;injection ho with ho;injection ho with _ ho;exact ht (ho▸ht')
theorem SFrom.and {I I':Nat→World→Prop} (h:SFrom B ts I) (h':SFrom B ts I'):SFrom B ts (fun k W=>I k W∧I' k W):=fun k W W' hs hg=>⟨h k W W' hs.1 hg,h' k W W' hs.2 hg⟩
theorem SFrom.below {w0:World} {n0:Nat} (hB:n0≤B):SFrom B ts (fun _ W=>Below n0 w0 W):=fun k W W' h s=>⟨s.os.trans h.os,s.tape.trans h.tape,s.output.trans h.output,Nat.le_trans h.size s.size,fun b hb=>(s.low b (by omega)).trans (h.block b hb)⟩
end
theorem roundIn_any {n m:Nat} {P:Program} {l:Nat} {f:FuncId} {tmps:Array Value} {assign body:Code} {w:World} {R:Ending→World→Prop} (h:RoundIn Fence.wide m P l f tmps assign body w R):RoundIn Fence.wide n P l f tmps assign body w R:=⟨h.1,fun c cs _=>h.2 c cs (room_wide _)⟩
theorem yieldAt_any {n m:Nat} {P:Program} {l:Nat} {args:Array Value} {W:World} {R:Ending→World→Prop} (h:YieldAt Fence.wide m P l args W R):YieldAt Fence.wide n P l args W R:=by
 obtain ⟨fn,tmps,assign,body,hy,hR⟩:=h
 exact ⟨fn,tmps,assign,body,hy,roundIn_any hR⟩
def Seqs {α:Type} (P:Program) (st:Prop) (ts:List TypeId) (g:Nat) (lb:Array Value) (encs:α→Array Value) (xs:List α) (w:World):Prop:=
 ∀ (l:Nat) (L:Nat→Prop) (J Jx:Nat→World→Prop) (W:World),Ext w W→L l→(∀ k,L k→k<W.heap.size)→SFrom W.heap.size ts J→SFrom W.heap.size ts Jx→(∀ k W1,Jx k W1→st) →
  (∀ (k:Nat) (hk:k<xs.length) (W1:World),J k W1→YieldAt Fence.wide 0 P l (encs xs[k]) W1 fun e W'=>
   (e=.returned (.bool true)∧J (k+1) W'∧Kept ts L W1 W')∨(e=.returned (.bool false)∧Jx (k+1) W')) →
  J 0 W→Calls P g (#[.func (.yield l) #[] #[]]++lb) W fun e W'=>(∃ v,e=.returned v)∧(J xs.length W'∨∃ k,Jx k W')
def postX (ts:List TypeId) (L:Nat→Prop) (I:Nat→World→Prop) (Ix:Code→Nat→World→Prop) (k:Nat) (W:World):Exit→Act→World→Prop
 |.normal,_,W'=>Kept ts L W W'∧I k W'
 |.ret,_,W'=>Kept ts L W W'∧Ix .ret k W'
 |.exit id,_,W'=>Kept ts L W W'∧Ix (.exit id) k W'
 |.goto t,_,W'=>Kept ts L W W'∧Ix (.goto t) k W'
 |.panic _,_,_=>False
 |.outgrown,_,_=>False
theorem wp_rangeX {α:Type} {P:Program} {n:Nat} {g:Operand} {ps:Array Tmp} {assign body:Code} {Q:Exit→Act→World→Prop} {a:Act} {w:World} (st:Prop) (ts:List TypeId) (L:Nat→Prop)
  {gf:Nat} {lb:Array Value} (hg:a.eval g=.func (.func gf) #[] lb) (eg:∀ args w,(callFunc gf args).run P w=.ok (.enter gf args) w)
  {encs:α→Array Value} {xs:List α} (hseq:Seqs P st ts gf lb encs xs w) (hps:∀ x,(encs x).size=ps.size) (hL:∀ k,L k→k<w.heap.size)
  (I:Nat→World→Prop) (Ix:Code→Nat→World→Prop) (hI:SFrom w.heap.size ts I) (hIx:∀ c,SFrom w.heap.size ts (Ix c)) (hst:∀ c k W,Ix c k W→st) (h0:I 0 w) (a₁:α→Act)
  (hassign:∀ (l:Nat) (x:α) (W:World) (K:Act→World→Prop),K (a₁ x) W →
   assign.wpIn (Fence.wide.inRound l) 3 P (Exit.then K (fun _ _ _=>False)) { tmps:=(ps.zip (encs x)).foldl (fun t (p,v)=>t.setIfInBounds p v) a.tmps,defers:=[] } W)
  (hbody:∀ (l k:Nat) (hk:k<xs.length) (W:World),w.heap.size≤l→I k W→body.wpIn (Fence.wide.inRound l) 3 P (postX ts L I Ix (k+1) W) (a₁ xs[k]) W)
  (hdone:∀ (D:Nat) (W:World),w.heap.size≤D→I xs.length W→W.heap[D]?=some (.deferred (some []))→Q .normal { a with defers:={ target:=.collected D,args:=#[] }::a.defers } W)
  (hstop:∀ (D:Nat) (c:Code) (k:Nat) (W:World),w.heap.size≤D→Ix c k W→W.heap[D]?=some (.deferred (some []))→c.wpIn Fence.wide n P Q { a with defers:={ target:=.collected D,args:=#[] }::a.defers } W) :
  (Code.rangeFunc g ps assign body).wpIn Fence.wide n P Q a w:=by
 refine wpIn_rangeFunc ?_
 intro fn hfn
 show ∃ l mark w₁ d w₁' f args w₂,(Instr.enterLoop fn a.tmps ps assign body none).run P w=.ok (l,mark) w₁∧_
 obtain ⟨rec,hrec⟩:∃ rec:LoopState→Option Code→Loop,rec=fun st pe=>{ state:=st,pending:=pe,fn,tmps:=a.tmps,params:=ps,assign,body,defers:=w.heap.size }:=⟨_,rfl⟩
 obtain ⟨W1,hW1⟩:∃ W1,(w.alloc (.deferred (some []))).alloc (.loop (rec .ready none))=W1:=⟨_,rfl⟩
 have hsz:W1.heap.size=w.heap.size+2:=by rw [←hW1,alloc_sz,alloc_sz]
 have hL1:W1.heap[w.heap.size+1]?=some (.loop (rec .ready none)):=by
  rw [←hW1];have:=World.alloc_heap_new (w.alloc (.deferred (some []))) (.loop (rec .ready none));rwa [World.size_alloc] at this
 have hK1:W1.heap[w.heap.size]?=some (.deferred (some [])):=by
  rw [←hW1];exact (Below.heap_alloc _ _ _ (by simp)).trans (World.alloc_heap_new w _)
 have hs1:Stab w.heap.size ts w W1:=by rw [←hW1];exact ((Stab.refl w).alloc (Nat.le_refl _) _).alloc (Nat.le_refl _) _
 have hI1:I 0 W1:=hI 0 _ _ h0 hs1
 have hb1:Ext w W1:=by rw [←hW1];exact ((Below.refl _ w).alloc (Nat.le_refl _) _).alloc (by simp) _
 refine ⟨w.heap.size+1,[{ target:=.collected w.heap.size,args:=#[] }],W1,{ target:=.fn (.func gf) lb,args:=#[.func (.yield (w.heap.size+1)) #[] #[]] },W1,gf,
  #[.func (.yield (w.heap.size+1)) #[] #[]]++lb,W1,?_,?_,?_,?_,(fun h=>by cases h),?_⟩
 ·rw [←hW1,hrec];exact run_enterLoop_outer _ _ _ _ _
 ·simp only [resolve,hg]
  simp [go_sem]
 ·intro f' hf';exact trivial
 ·simp [invoke,go_sem,eg]
 ·have hlow:∀ {A B:World},Stab W1.heap.size ts A B→Stab w.heap.size ts A B:=fun h=>h.mono (by omega)
  refine (callsIn_wide (n:=n - 1)).2 ((hseq (w.heap.size+1) (fun k=>L k∨k=w.heap.size+1)
   (fun k W=>I k W∧W.heap[w.heap.size+1]?=some (.loop (rec .ready none))∧W.heap[w.heap.size]?=some (.deferred (some [])))
   (fun k W=>∃ c,Ix c k W∧W.heap[w.heap.size+1]?=some (.loop (rec .done (some c)))∧W.heap[w.heap.size]?=some (.deferred (some [])))
   W1 hb1 (.inr rfl) (fun k h=>by
    rcases h with h | h
    ·have:=hL k h;omega
    ·omega)
   (fun k A B hs hg'=>⟨hI k A B hs.1 (hlow hg'),(hg'.low _ (by omega)).trans hs.2.1,(hg'.low _ (by omega)).trans hs.2.2⟩)
   (fun k A B hs hg'=>by
    obtain ⟨c,hc,hl,hk⟩:=hs
    exact ⟨c,hIx c k A B hc (hlow hg'),(hg'.low _ (by omega)).trans hl,(hg'.low _ (by omega)).trans hk⟩)
   (fun k W2 ⟨c,hc,_⟩=>hst c k W2 hc)
   ?_ ⟨hI1,hL1,hK1⟩).mono ?_)
  ·-- one round
   rintro k hk W ⟨hi,hl,hkD⟩
   have hlt:w.heap.size+1<W.heap.size:=blk_lt hl
   have hy:=run_yield (P:=P) (args:=encs xs[k]) hl (by rw [hrec];exact hps xs[k])
   rw [hrec] at hy
   refine yieldAt_any ⟨fn,_,assign,body,hy,roundIn_of_wpIn (n:=3) hfn (hassign _ xs[k] W _ ?_)⟩
   clear hy
   refine ⟨_,run_beginRound hl (by rw [hrec]),?_⟩
   have hl2:(W.putObj (w.heap.size+1) (.loop { rec .ready none with state:=.busy })).heap[w.heap.size+1]?=some (.loop { rec .ready none with state:=.busy }):=World.putObj_heap_same hlt
   have hk2:(W.putObj (w.heap.size+1) (.loop { rec .ready none with state:=.busy })).heap[w.heap.size]?=some (.deferred (some [])):=(World.putObj_heap_other (by omega)).trans hkD
   have hi2:I k (W.putObj (w.heap.size+1) (.loop { rec .ready none with state:=.busy })):=hI k _ _ hi ((Stab.refl W).put (by omega) hl rfl _)
   have hw2:Kept ts (fun k=>L k∨k=w.heap.size+1) W (W.putObj (w.heap.size+1) (.loop { rec .ready none with state:=.busy })):=(Kept.refl W).putNew (.inr ⟨.inr rfl,_,hl,rfl⟩) _
   refine wpIn_mono (hbody _ k hk _ (by omega) hi2) ?_
   have fin:∀ (jump:Option Code) (W3:World),Kept ts L (W.putObj (w.heap.size+1) (.loop { rec .ready none with state:=.busy })) W3 →
     (Instr.endRound (w.heap.size+1) jump).run P W3=.ok (.bool jump.isNone) (W3.putObj (w.heap.size+1) (.loop (rec (if jump.isNone then .ready else .done) jump))) ∧
     W3.heap[w.heap.size+1]?=some (.loop { rec .ready none with state:=.busy }) ∧
     (W3.putObj (w.heap.size+1) (.loop (rec (if jump.isNone then .ready else .done) jump))).heap[w.heap.size+1]?=some (.loop (rec (if jump.isNone then .ready else .done) jump)) ∧
     (W3.putObj (w.heap.size+1) (.loop (rec (if jump.isNone then .ready else .done) jump))).heap[w.heap.size]?=some (.deferred (some [])):=fun jump W3 hk3=>by
    have hl3:=hk3.rest _ _ hl2 rfl (fun h=>by have:=hL _ h;omega)
    have:=run_endRound (P:=P) jump hl3
    rw [hrec] at this ⊢
    exact ⟨this,by rw [hrec] at hl3;exact hl3,World.putObj_heap_same (blk_lt hl3),(World.putObj_heap_other (by omega)).trans (hk3.rest _ _ hk2 rfl (fun h=>by have:=hL _ h;omega))⟩
   rintro e a3 W3 hp
   cases e with
   |normal=>
    obtain ⟨hk3,hi3⟩:=hp
    obtain ⟨hr,hl3,hl4,hk4⟩:=fin none W3 hk3
    exact ⟨_,_,hr,.inl ⟨rfl,⟨hI _ _ _ hi3 ((Stab.refl _).put (by omega) hl3 rfl _),hl4,hk4⟩,(hw2.trans (hk3.mono fun _=>.inl)).putNew (.inr ⟨.inr rfl,_,hl3,rfl⟩) _⟩⟩
   |ret=>
    obtain ⟨hk3,hi3⟩:=hp
    obtain ⟨hr,hl3,hl4,hk4⟩:=fin (some .ret) W3 hk3
    exact ⟨_,_,hr,.inr ⟨rfl,.ret,hIx _ _ _ _ hi3 ((Stab.refl _).put (by omega) hl3 rfl _),hl4,hk4⟩⟩
   |exit id=>
    obtain ⟨hk3,hi3⟩:=hp
    obtain ⟨hr,hl3,hl4,hk4⟩:=fin (some (.exit id)) W3 hk3
    exact ⟨_,_,hr,.inr ⟨rfl,.exit id,hIx _ _ _ _ hi3 ((Stab.refl _).put (by omega) hl3 rfl _),hl4,hk4⟩⟩
   |goto t=>
    obtain ⟨hk3,hi3⟩:=hp
    obtain ⟨hr,hl3,hl4,hk4⟩:=fin (some (.goto t)) W3 hk3
    exact ⟨_,_,hr,.inr ⟨rfl,.goto t,hIx _ _ _ _ hi3 ((Stab.refl _).put (by omega) hl3 rfl _),hl4,hk4⟩⟩
   |panic ch=>exact hp.elim
   |outgrown=>exact hp.elim
  ·-- behind the iterator
   rintro e W2 ⟨⟨v,rfl⟩,(⟨hi,hl,hk⟩ | ⟨k,c,hi,hl,hk⟩)⟩
   ·exact ⟨none,_,by have:=run_endLoop (P:=P) hl (by rw [hrec];simp);rw [hrec] at this;exact this,hdone _ _ (Nat.le_refl _) (hI _ _ _ hi ((Stab.refl _).put (by omega) hl rfl _)) ((World.putObj_heap_other (by omega)).trans hk)⟩
   ·exact ⟨some c,_,by have:=run_endLoop (P:=P) hl (by rw [hrec];simp);rw [hrec] at this;exact this,hstop _ c k _ (Nat.le_refl _) (hIx c _ _ _ hi ((Stab.refl _).put (by omega) hl rfl _)) ((World.putObj_heap_other (by omega)).trans hk)⟩
open Go.RowKit Go.Shelf
attribute [local go_sem] Oper.semAt_some
theorem T.Has.kept {ts:List TypeId} {L:Nat→Prop} {W W':World} {adr:Int→Nat} {top:Bool} {up:Value} {t:T} (h:T.Has (hpOf W) adr top up t) (k:Kept ts L W W') (hts:141∉ts):T.Has (hpOf W') adr top up t:=
 T.has_same t top up (fun j hj=>by
  obtain ⟨a,b,c,d,e⟩:=T.has_at t top up h j hj
  exact (k.cells _ _ _ _ e hts).trans e.symm) h
theorem T.Has.stab {ts:List TypeId} {B:Nat} {W W':World} {adr:Int→Nat} {top:Bool} {up:Value} {t:T} (h:T.Has (hpOf W) adr top up t) (k:Stab B ts W W') (hlt:∀ j∈T.ids t,adr j<B):T.Has (hpOf W') adr top up t:=
 T.has_same t top up (fun j hj=>k.low _ (hlt j hj)) h
theorem kids_c (u:Option Addr) (w:World):Calls Tryz.prog 144 #[.pointer u] w fun e w'=>e=.returned (.func (.func 157) #[] #[.pointer (some ⟨w.heap.size,0,none⟩)])∧w'=w.alloc (.cells #[.pointer u] 135):=by
 go_enter Tryz.func144,Tryz.ntmps144
 go_wp2
 go_ret
 exact ⟨rfl,rfl⟩
theorem kids1_s (st:Prop) (ts:List TypeId) (hts:141∉ts) (adr:Int→Nat) (b:Nat) (u:Int) (a1 a2 a4:Value) (f:T) (w:World) (hu:w.heap[adr u]?=some (nodeO u a1 a2 (T.pt adr f) a4)) (hf:T.Has (hpOf w) adr false (PP adr u) f)
  (hb:w.heap[b]?=some (.cells #[PP adr u] 135 (0,0))) :
  Seqs Tryz.prog st ts 157 #[.pointer (some ⟨b,0,none⟩)] (fun j:Int=>#[PP adr j]) (T.chain f) w:=by
 intro l L J Jx W hW hl hL hJ hJx hst hY h0
 have hb':W.cell? ⟨b,0,none⟩=some (PP adr u):=by
  rw [cell_blk (hW.block b (blk_lt hb))];simp [World.cell?,hb]
 have hu':=(hW.block _ (blk_lt hu)).trans hu
 obtain ⟨-,-,-,c3,-,-⟩:=cells_of hu'
 obtain ⟨fp,hfp⟩:=pt_pointer adr f
 have hf':T.Has (hpOf W) adr false (PP adr u) f:=T.has_same f _ _ (fun j hj=>by
  obtain ⟨x1,x2,x3,x4,e⟩:=T.has_at f _ _ hf j hj
  exact hW.block _ (blk_lt e)) hf
 rw [hfp] at c3
 have HY:=Lib.hid hY;have HF:=Lib.hid hf';have HP:=Lib.hid hfp;have H0:=Lib.hid h0
 clear hY hW hu hf hb hu' hf' hfp h0 hJ hJx hst
 refine (callsIn_wide (n:=3)).1 ?_
 refine callsIn_of_wp Tryz.func157 rfl trivial ?_ rfl
 simp only [Tryz.ntmps157,List.size_toArray,List.length_cons,List.length_nil,Nat.reduceAdd,Nat.reduceSub,Array.replicate_succ,Array.replicate_zero,List.push_toArray,List.append_toArray,List.nil_append,List.cons_append]
 gi_wp2
 let rel:Nat→Value→World→Prop:=fun n v wr=>∃ (k:Nat) (r:T),n=(T.chain f).length - k∧k≤(T.chain f).length∧T.chain r=(T.chain f).drop k∧v=T.pt adr r∧T.Has (hpOf wr) adr false (PP adr u) r∧J k wr
 gi_loopw [3] (fun v wr=>∃ n,Hid (rel n v wr)) (fun v wr=>leastOf (fun n=>rel n v wr))
 case atStart=>exact ⟨_,0,f,rfl,Nat.zero_le _,by simp,HP.out.symm,HF.out,H0.out⟩
 case round=>
  have hspec:=leastOf_spec (p:=fun n=>rel n u3 wr) hrel
  generalize hm:leastOf (fun n=>rel n u3 wr)=m at hspec
  obtain ⟨k,r,hn,hk,hch,hv,hr,hj⟩:=hspec.1
  have HM:=Lib.hid hm
  clear hspec hrel hm
  cases r with
  |nil=>
   have hkl:k=(T.chain f).length:=by
    have:=congrArg List.length hch
    simp only [T.chain,List.length_nil,List.length_drop] at this
    omega
   simp only [T.pt] at hv
   subst hv
   have HJ:=Lib.hid hj
   clear hr hch hn hj
   gi_wp2
   go_end0
   rw [←hkl]
   exact ⟨⟨_,rfl⟩,.inl HJ.out⟩
  |node i x g n=>
   simp only [T.pt] at hv
   subst hv
   simp only [T.chain] at hch
   have hlt:k<(T.chain f).length:=by
    have:=congrArg List.length hch
    simp only [List.length_cons,List.length_drop] at this
    omega
   have hi:(T.chain f)[k]=i:=by
    have:=List.drop_eq_getElem_cons hlt
    rw [←hch] at this
    injection this with h1 _
    exact h1.symm
   obtain ⟨hbl,hg,hnx⟩:=hr
   obtain ⟨fn,tmps,assign,body,hy,hR⟩:=HY.out k hlt wr hj
   rw [hi] at hy
   have HN:=Lib.hid hnx;have HB:=Lib.hid hbl;have HCH:=Lib.hid hch;have HNN:=Lib.hid hn
   have HLT:=Lib.hid hlt
   clear hnx hbl hg hch hn hi hj hlt HY
   gi_wp2
   refine (roundIn_any hR).mono ?_
   clear hR
   rintro e W3 (⟨rfl,hJ3,hk3⟩ | ⟨rfl,hJx3⟩)
   ·have hb3:=hk3.cells _ _ _ _ HB.out hts
    obtain ⟨-,-,-,-,c4,-⟩:=cells_of hb3
    obtain ⟨np,hnp⟩:=nx_pointer adr false n
    rw [hnp] at c4
    have HJ3:=Lib.hid hJ3;have HK3:=Lib.hid hk3;have HNP:=Lib.hid hnp
    clear hb3 hJ3 hk3 hnp
    gi_wp2
    go_roundw
    case rel=>
     exact ⟨_,k+1,n,rfl,HLT.out,by rw [List.drop_eq_getElem_cons HLT.out] at HCH;exact (List.cons.inj HCH.out).2,HNP.out.symm,HN.out.kept HK3.out hts,HJ3.out⟩
    case measure=>
     show leastOf (fun n'=>rel n' (.pointer np) W3)<leastOf (fun n=>rel n _ wr)
     rw [HM.out,HNN.out]
     refine Nat.lt_of_le_of_lt ((leastOf_spec (p:=fun n'=>rel n' (.pointer np) W3) ⟨(T.chain f).length - (k+1),k+1,n,rfl,HLT.out,by rw [List.drop_eq_getElem_cons HLT.out] at HCH;exact (List.cons.inj HCH.out).2,HNP.out.symm,HN.out.kept HK3.out hts,HJ3.out⟩).2 _ ⟨k+1,n,rfl,HLT.out,by rw [List.drop_eq_getElem_cons HLT.out] at HCH;exact (List.cons.inj HCH.out).2,HNP.out.symm,HN.out.kept HK3.out hts,HJ3.out⟩) ?_
     have:=HLT.out
     omega
   ·have HJ3:=Lib.hid hJx3
    clear hJx3
    gi_wp2
    refine bodyPost_ret (results_none rfl _ _ _) rfl ?_
    exact ⟨⟨_,rfl⟩,.inr ⟨k+1,HJ3.out⟩⟩
end Go.Proofs.YtecmcjfdaipfcaaGreatDoor
