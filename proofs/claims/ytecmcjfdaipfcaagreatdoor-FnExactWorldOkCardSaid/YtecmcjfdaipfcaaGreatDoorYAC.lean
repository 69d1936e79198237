/- Trees in memory: each row a block of five cells; what a turned pointer makes of the tree. .. Walks: what an outline is. -/
import Derived.Test.YtecmcjfdaipfcaaGreatDoorYAA
import Derived.Test.YtecmcjfdaipfcaaGreatDoorYAB
import Derived.Deep.OwnRows
import Derived.Deep.LoopGhost
import Derived.LaidEql
namespace Go.Proofs.YtecmcjfdaipfcaaGreatDoor
open Go.RowKit
set_option linter.unusedVariables false
abbrev nilp:Value:=.pointer none
abbrev PP (adr:Int→Nat) (id:Int):Value:=.pointer (some ⟨adr id,0,none⟩)
abbrev nodeO (id:Int) (a b c d:Value):Obj:=.cells #[.int .i64 id,a,b,c,d] 141 (0,0)
abbrev HP:=Nat→Option Obj
theorem nodeO_inj {i j:Int} {a b c d a' b' c' d':Value} (h:some (nodeO i a b c d)=some (nodeO j a' b' c' d')):i=j∧a=a'∧b=b'∧c=c'∧d=d':=by
 simp only [Option.some.injEq,Obj.cells.injEq,Array.mk.injEq,List.cons.injEq,Value.int.injEq,true_and,and_true] at h
 exact h
namespace T
def pt (adr:Int→Nat):T→Value
 |nil=>nilp
 |node id _ _ _=>PP adr id
def nx (adr:Int→Nat) (top:Bool) (n:T):Value:=if top then nilp else pt adr n
def Has (h:HP) (adr:Int→Nat) (top:Bool) (up:Value):T→Prop
 |nil=>True
 |node id tx f n=>h (adr id)=some (nodeO id (.string tx) up (pt adr f) (nx adr top n))∧Has h adr false (PP adr id) f∧Has h adr top up n
def prevOf (m:Int) (prev:Option Int):T→Option (Option Int)
 |nil=>none
 |node id _ f n=>if id=m then some prev else (prevOf m none f).or (prevOf m (some id) n)
def nextOf (m:Int):T→Option T
 |nil=>none
 |node id _ f n=>if id=m then some n else (nextOf m f).or (nextOf m n)
theorem prevOf_not (m:Int) (p:Option Int) (t:T) (h:m∉ids t):prevOf m p t=none:=by
 induction t generalizing p with
 |nil=>rfl
 |node i x f n ihf ihn=>
  simp only [ids,List.mem_cons,List.mem_append,not_or] at h
  rw [prevOf,if_neg (fun e=>h.1 e.symm),ihf _ h.2.1,ihn _ h.2.2];rfl
theorem nextOf_not (m:Int) (t:T) (h:m∉ids t):nextOf m t=none:=by
 induction t with
 |nil=>rfl
 |node i x f n ihf ihn=>
  simp only [ids,List.mem_cons,List.mem_append,not_or] at h
  rw [nextOf,if_neg (fun e=>h.1 e.symm),ihf h.2.1,ihn h.2.2];rfl
section
variable {h h':HP} {adr:Int→Nat}
theorem has_at (t:T):∀ (top:Bool) (up:Value),Has h adr top up t→∀ j∈ids t,∃ a b c d,h (adr j)=some (nodeO j a b c d):=by
 induction t with
 |nil=>simp [ids]
 |node i x f n ihf ihn=>
  intro top up ht j hj
  simp only [ids,List.mem_cons,List.mem_append] at hj
  rcases hj with rfl | hj | hj
  ·exact ⟨_,_,_,_,ht.1⟩
  ·exact ihf _ _ ht.2.1 j hj
  ·exact ihn _ _ ht.2.2 j hj
theorem has_same (t:T):∀ (top:Bool) (up:Value),(∀ j∈ids t,h' (adr j)=h (adr j))→Has h adr top up t→Has h' adr top up t:=by
 induction t with
 |nil=>intros;trivial
 |node i x f n ihf ihn=>
  intro top up hs ht
  exact ⟨(hs i (by simp [ids])).trans ht.1,ihf _ _ (fun j hj=>hs j (by simp [ids,hj])) ht.2.1,ihn _ _ (fun j hj=>hs j (by simp [ids,hj])) ht.2.2⟩
theorem adr_ne {u j:Int} {a b c d a' b' c' d':Value} (h1:h (adr u)=some (nodeO u a b c d)) (h2:h (adr j)=some (nodeO j a' b' c' d')) (hne:j≠u):adr j≠adr u:=by
 intro e
 rw [e,h1] at h2
 exact hne (nodeO_inj h2).1.symm
theorem has_other (t:T) (top:Bool) (up:Value) (ht:Has h adr top up t) {u id:Int} {a b c d a' b' c' d':Value} (h1:h (adr u)=some (nodeO u a b c d)) (h2:h (adr id)=some (nodeO id a' b' c' d'))
  (same:∀ b,b≠adr u→b≠adr id→h' b=h b) (hu:u∉ids t) (hid:id∉ids t):Has h' adr top up t:=by
 refine has_same t top up (fun j hj=>?_) ht
 obtain ⟨x1,x2,x3,x4,hx⟩:=has_at t top up ht j hj
 exact same _ (adr_ne h1 hx (fun e=>hu (e▸hj))) (adr_ne h2 hx (fun e=>hid (e▸hj)))
theorem pt_insF (u id:Int) (tx:ByteArray) (s t:T):pt adr (insF u id tx s t)=pt adr t:=by
 cases t with
 |nil=>rfl
 |node i x f n=>simp only [insF];split <;> rfl
theorem pt_insN (u id:Int) (tx:ByteArray) (s t:T):pt adr (insN u id tx s t)=pt adr t:=by
 cases t with
 |nil=>rfl
 |node i x f n=>simp only [insN];split <;> rfl
theorem pt_setT (u:Int) (tx:ByteArray) (t:T):pt adr (setT u tx t)=pt adr t:=by
 cases t with
 |nil=>rfl
 |node i x f n=>simp only [setT];split <;> rfl
theorem has_insF {u id:Int} {tx:ByteArray} {s:T} {fv x1 x2 x4 y1 y2 y3 y4:Value} (same:∀ b,b≠adr u→b≠adr id→h' b=h b)
  (hid:h (adr id)=some (nodeO id y1 y2 y3 y4)) (hnew:h' (adr id)=some (nodeO id (.string tx) (PP adr u) (pt adr s) fv)) (hs:Has h' adr false (PP adr id) s)
  (hu:h (adr u)=some (nodeO u x1 x2 fv x4)) (hu':h' (adr u)=some (nodeO u x1 x2 (PP adr id) x4)) (t:T) :
  ∀ (top:Bool) (up:Value),id∉ids t→(ids t).Nodup→Has h adr top up t→Has h' adr top up (insF u id tx s t):=by
 induction t with
 |nil=>intros;trivial
 |node i x f n ihf ihn=>
  intro top up hni nd ht
  simp only [ids,List.nodup_cons,List.nodup_append,List.mem_append,List.mem_cons,not_or] at nd hni
  obtain ⟨⟨n1,n2⟩,ndf,ndn,hdis⟩:=nd
  obtain ⟨hb,hf,hn⟩:=ht
  simp only [insF]
  by_cases he:i=u
  ·subst he
   rw [if_pos rfl]
   rw [hu] at hb
   obtain ⟨_,rfl,rfl,rfl,rfl⟩:=nodeO_inj hb
   refine ⟨hu',⟨hnew,hs,?_⟩,?_⟩
   ·exact has_other f false _ hf hu hid same n1 hni.2.1
   ·exact has_other n top _ hn hu hid same n2 hni.2.2
  ·rw [if_neg he]
   refine ⟨?_,ihf _ _ hni.2.1 ndf hf,ihn _ _ hni.2.2 ndn hn⟩
   rw [pt_insF,same _ (adr_ne hu hb he) (adr_ne hid hb (fun e=>hni.1 e.symm))]
   unfold nx
   rw [pt_insF]
   exact hb
theorem has_insN {u id:Int} {tx:ByteArray} {s:T} {nv x1 x2 x3 y1 y2 y3 y4:Value} (same:∀ b,b≠adr u→b≠adr id→h' b=h b)
  (hid:h (adr id)=some (nodeO id y1 y2 y3 y4)) (hnew:h' (adr id)=some (nodeO id (.string tx) x2 (pt adr s) nv)) (hs:Has h' adr false (PP adr id) s)
  (hu:h (adr u)=some (nodeO u x1 x2 x3 nv)) (hu':h' (adr u)=some (nodeO u x1 x2 x3 (PP adr id))) (t:T) :
  ∀ (top:Bool) (up:Value),(top=true→u∉chain t)→id∉ids t→(ids t).Nodup→Has h adr top up t→Has h' adr top up (insN u id tx s t):=by
 induction t with
 |nil=>intros;trivial
 |node i x f n ihf ihn=>
  intro top up htop hni nd ht
  simp only [ids,List.nodup_cons,List.nodup_append,List.mem_append,List.mem_cons,not_or] at nd hni
  obtain ⟨⟨n1,n2⟩,ndf,ndn,hdis⟩:=nd
  obtain ⟨hb,hf,hn⟩:=ht
  simp only [insN]
  by_cases he:i=u
  ·subst he
   rw [if_pos rfl]
   have ht0:top=false:=by
    cases top with
    |false=>rfl
    |true=>exact absurd (by simp [chain]) (htop rfl)
   subst ht0
   rw [hu] at hb
   obtain ⟨_,rfl,rfl,rfl,rfl⟩:=nodeO_inj hb
   refine ⟨hu',?_,hnew,hs,?_⟩
   ·exact has_other f false _ hf hu hid same n1 hni.2.1
   ·exact has_other n false _ hn hu hid same n2 hni.2.2
  ·rw [if_neg he]
   refine ⟨?_,ihf _ _ (by simp) hni.2.1 ndf hf,ihn _ _ (fun e hc=>htop e (by simp [chain,hc])) hni.2.2 ndn hn⟩
   rw [pt_insN,same _ (adr_ne hu hb he) (adr_ne hid hb (fun e=>hni.1 e.symm))]
   unfold nx
   rw [pt_insN]
   exact hb
theorem has_setT {u:Int} {tx:ByteArray} {x1 x2 x3 x4:Value} (same:∀ b,b≠adr u→h' b=h b)
  (hu:h (adr u)=some (nodeO u x1 x2 x3 x4)) (hu':h' (adr u)=some (nodeO u (.string tx) x2 x3 x4)) (t:T) :
  ∀ (top:Bool) (up:Value),(ids t).Nodup→Has h adr top up t→Has h' adr top up (setT u tx t):=by
 induction t with
 |nil=>intros;trivial
 |node i x f n ihf ihn=>
  intro top up nd ht
  simp only [ids,List.nodup_cons,List.nodup_append,List.mem_append,not_or] at nd
  obtain ⟨⟨n1,n2⟩,ndf,ndn,hdis⟩:=nd
  obtain ⟨hb,hf,hn⟩:=ht
  simp only [setT]
  by_cases he:i=u
  ·subst he
   rw [if_pos rfl]
   rw [hu] at hb
   obtain ⟨_,rfl,rfl,rfl,rfl⟩:=nodeO_inj hb
   exact ⟨hu',has_other f false _ hf hu hu (fun b h1 _=>same b h1) n1 n1,has_other n top _ hn hu hu (fun b h1 _=>same b h1) n2 n2⟩
  ·rw [if_neg he]
   refine ⟨?_,ihf _ _ ndf hf,ihn _ _ ndn hn⟩
   rw [pt_setT,same _ (adr_ne hu hb he)]
   unfold nx
   rw [pt_setT]
   exact hb
theorem prevOf_mem (m a:Int) (t:T):∀ p,prevOf m p t=some (some a)→a∈ids t∨p=some a:=by
 induction t with
 |nil=>simp [prevOf]
 |node i x f n ihf ihn=>
  intro p hp
  simp only [prevOf] at hp
  simp only [ids,List.mem_cons,List.mem_append]
  split at hp
  ·exact .inr (by simpa using hp)
  ·rw [Option.or_eq_some_iff] at hp
   rcases hp with hp | ⟨_,hp⟩
   ·rcases ihf none hp with h | h
    ·exact .inl (.inr (.inl h))
    ·cases h
   ·rcases ihn (some i) hp with h | h
    ·exact .inl (.inr (.inr h))
    ·injection h with h;exact .inl (.inl h.symm)
theorem has_cutN {a m:Int} {nv x1 x2 x3 y1 y2 y3:Value} (same:∀ b,b≠adr a→b≠adr m→h' b=h b)
  (hm:h (adr m)=some (nodeO m y1 y2 y3 nv)) (ha:h (adr a)=some (nodeO a x1 x2 x3 (PP adr m))) (ha':h' (adr a)=some (nodeO a x1 x2 x3 nv)) (t:T) :
  ∀ (top:Bool) (up:Value) (p:Option Int),(top=true→m∉chain t)→(ids t).Nodup→p≠some a→prevOf m p t=some (some a)→Has h adr top up t→Has h' adr top up (cut m t):=by
 induction t with
 |nil=>intros;trivial
 |node i x f n ihf ihn=>
  intro top up p htop nd hpa hp ht
  simp only [ids,List.nodup_cons,List.nodup_append,List.mem_append,not_or] at nd
  obtain ⟨⟨n1,n2⟩,ndf,ndn,hdis⟩:=nd
  obtain ⟨hb,hf,hn⟩:=ht
  simp only [prevOf] at hp
  simp only [cut]
  split at hp
  ·rename_i e
   exact absurd (by simpa using hp) hpa
  ·rename_i hne
   rw [if_neg hne]
   rw [Option.or_eq_some_iff] at hp
   rcases hp with hp | ⟨hpf,hp⟩
   ·-- in the first part
    have haf:a∈ids f:=(prevOf_mem m a f none hp).resolve_right (by simp)
    have hmf:m∈ids f:=by
     rcases Decidable.em (m∈ids f) with h1 | h1
     ·exact h1
     ·rw [prevOf_not m none f h1] at hp;cases hp
    have han:a∉ids n:=fun h1=>hdis a haf a h1 rfl
    have hmn:m∉ids n:=fun h1=>hdis m hmf m h1 rfl
    have hia:i≠a:=fun e=>n1 (e▸haf)
    rw [cut_not m n hmn]
    refine ⟨?_,ihf _ _ none (by simp) ndf (by simp) hp hf,has_other n top _ hn ha hm same han hmn⟩
    rw [same _ (adr_ne ha hb hia) (adr_ne hm hb hne),hb]
    have:pt adr (cut m f)=pt adr f:=by
     cases f with
     |nil=>rfl
     |node j y g q=>
      simp only [cut]
      rw [if_neg (fun e=>by simp [prevOf,e] at hp)];rfl
    rw [this]
   ·have hmn:m∈ids n:=by
     rcases Decidable.em (m∈ids n) with h1 | h1
     ·exact h1
     ·rw [prevOf_not m _ n h1] at hp;cases hp
    have hmf:m∉ids f:=fun h1=>hdis m h1 m hmn rfl
    rw [cut_not m f hmf]
    rcases Decidable.em (i=a) with hia | hia
    ·-- right behind it
     subst hia
     rw [ha] at hb
     obtain ⟨_,rfl,rfl,rfl,hnx⟩:=nodeO_inj hb
     have htf:top=false:=by
      cases top with
      |false=>rfl
      |true=>simp [nx] at hnx
     subst htf
     cases n with
     |nil=>simp [ids] at hmn
     |node j y g q=>
      simp only [nx,pt,Bool.false_eq_true,if_false,Value.pointer.injEq,Option.some.injEq,Addr.mk.injEq,and_true] at hnx
      have hjm:j=m:=by
       have h1:=hn.1
       rw [←hnx,hm] at h1
       exact (nodeO_inj h1).1.symm
      subst hjm
      have h1:=hn.1
      rw [hm] at h1
      obtain ⟨_,_,_,_,rfl⟩:=nodeO_inj h1
      simp only [ids,List.mem_cons,List.mem_append,not_or] at n2
      simp only [ids,List.nodup_cons,List.mem_append,not_or] at ndn
      simp only [cut,if_true]
      exact ⟨ha',has_other f false _ hf ha hm same n1 hmf,has_other q false _ hn.2.2 ha hm same n2.2.2 ndn.1.2⟩
    ·have han:a∈ids n:=(prevOf_mem m a n (some i) hp).resolve_right (fun e=>hia (by injection e))
     have haf:a∉ids f:=fun h1=>hdis a h1 a han rfl
     refine ⟨?_,has_other f false _ hf ha hm same haf hmf,ihn _ _ (some i) (fun e hc=>htop e (by simp [chain,hc])) ndn (fun e=>hia (by injection e)) hp hn⟩
     rw [same _ (adr_ne ha hb hia) (adr_ne hm hb hne),hb]
     have:nx adr top (cut m n)=nx adr top n:=by
      cases top with
      |true=>rfl
      |false=>
       cases n with
       |nil=>rfl
       |node j y g q=>
        have hjm:j≠m:=by
         intro e
         simp only [prevOf] at hp
         rw [if_pos e] at hp
         injection hp with hp
         injection hp with hp
         exact hia hp
        show pt adr (cut m (node j y g q))=pt adr (node j y g q)
        simp only [cut]
        rw [if_neg hjm];rfl
     rw [this]
theorem has_cutF {u m:Int} {nv x1 x2 x4 y1 y2 y3:Value} (same:∀ b,b≠adr u→b≠adr m→h' b=h b)
  (hm:h (adr m)=some (nodeO m y1 y2 y3 nv)) (hu:h (adr u)=some (nodeO u x1 x2 (PP adr m) x4)) (hu':h' (adr u)=some (nodeO u x1 x2 nv x4)) (t:T) :
  ∀ (top:Bool) (up:Value) (p:Option Int) (q:Option Int),(ids t).Nodup→p≠none→prevOf m p t=some none→upOf m q t=some (some u)→Has h adr top up t→Has h' adr top up (cut m t):=by
 induction t with
 |nil=>intros;trivial
 |node i x f n ihf ihn=>
  intro top up p q nd hpn hp hq ht
  simp only [ids,List.nodup_cons,List.nodup_append,List.mem_append,not_or] at nd
  obtain ⟨⟨n1,n2⟩,ndf,ndn,hdis⟩:=nd
  obtain ⟨hb,hf,hn⟩:=ht
  simp only [prevOf] at hp
  simp only [upOf] at hq
  simp only [cut]
  split at hp
  ·exact absurd (by simpa using hp) hpn
  ·rename_i hne
   rw [if_neg hne] at hq ⊢
   rw [Option.or_eq_some_iff] at hp
   rcases hp with hp | ⟨hpf,hp⟩
   ·have hmf:m∈ids f:=by
     rcases Decidable.em (m∈ids f) with h1 | h1
     ·exact h1
     ·rw [prevOf_not m none f h1] at hp;cases hp
    have hmn:m∉ids n:=fun h1=>hdis m hmf m h1 rfl
    rw [upOf_not m q n hmn,Option.or_none] at hq
    rw [cut_not m n hmn]
    have hui:u=i∨u∈ids f:=by
     rcases up_get f ndf m u (some i) hq with ⟨_,e⟩ | ⟨y,g,hg,_⟩
     ·injection e with e;exact .inl e.symm
     ·exact .inr (get_sub u f y g hg).1
    have hun:u∉ids n:=fun h1=>by
     rcases hui with e | h2
     ·exact n2 (e▸h1)
     ·exact hdis u h2 u h1 rfl
    rcases Decidable.em (i=u) with hiu | hiu
    ·subst hiu
     rw [hu] at hb
     obtain ⟨_,rfl,rfl,hfx,rfl⟩:=nodeO_inj hb
     cases f with
     |nil=>simp [ids] at hmf
     |node j y g r=>
      simp only [pt,Value.pointer.injEq,Option.some.injEq,Addr.mk.injEq,and_true] at hfx
      have hjm:j=m:=by
       have h1:=hf.1
       rw [←hfx,hm] at h1
       exact (nodeO_inj h1).1.symm
      subst hjm
      have h1:=hf.1
      rw [hm] at h1
      obtain ⟨_,_,_,_,rfl⟩:=nodeO_inj h1
      simp only [ids,List.mem_cons,List.mem_append,not_or] at n1
      simp only [ids,List.nodup_cons,List.mem_append,not_or] at ndf
      simp only [cut,if_true]
      refine ⟨?_,has_other r false _ hf.2.2 hu hm same n1.2.2 ndf.1.2,has_other n top _ hn hu hm same n2 hmn⟩
      simpa [nx] using hu'
    ·have huf:u∈ids f:=hui.resolve_left (fun e=>hiu e.symm)
     have hroot:∀ j y g r,f=node j y g r→j≠m:=by
      intro j y g r e hj
      subst e;subst hj
      simp only [upOf,if_true,Option.some.injEq] at hq
      exact hiu hq
     refine ⟨?_,?_,has_other n top _ hn hu hm same hun hmn⟩
     ·rw [same _ (adr_ne hu hb hiu) (adr_ne hm hb hne),hb]
      have:pt adr (cut m f)=pt adr f:=by
       cases f with
       |nil=>rfl
       |node j y g r=>
        simp only [cut]
        rw [if_neg (hroot j y g r rfl)];rfl
      rw [this]
     ·refine ihf _ _ (some i) (some i) ndf (by simp) ?_ hq hf
      cases f with
      |nil=>simp [ids] at hmf
      |node j y g r=>
       simp only [prevOf] at hp ⊢
       rw [if_neg (hroot j y g r rfl)] at hp ⊢
       exact hp
   ·have hmn:m∈ids n:=by
     rcases Decidable.em (m∈ids n) with h1 | h1
     ·exact h1
     ·rw [prevOf_not m _ n h1] at hp;cases hp
    have hmf:m∉ids f:=fun h1=>hdis m h1 m hmn rfl
    rw [upOf_not m _ f hmf,Option.none_or] at hq
    rw [cut_not m f hmf]
    have hroot:∀ j y g r,n=node j y g r→j≠m:=by
     intro j y g r e hj
     subst e;subst hj
     simp [prevOf] at hp
    have hun:u∈ids n:=by
     rcases up_get n ndn m u q hq with ⟨hc,_⟩ | ⟨y,g,hg,_⟩
     ·exfalso
      have:∀ (s:T) (v:Option Int),v≠none→(ids s).Nodup→m∈chain s→prevOf m v s≠some none:=by
       intro s
       induction s with
       |nil=>intro v _ _ h;simp [chain] at h
       |node j y g r _ ihr=>
        intro v hv nds hcs
        simp only [chain,List.mem_cons] at hcs
        simp only [ids,List.nodup_cons,List.nodup_append,List.mem_append,not_or] at nds
        simp only [prevOf]
        by_cases hj:j=m
        ·rw [if_pos hj];simpa using hv
        ·rw [if_neg hj]
         have hcr:m∈chain r:=hcs.resolve_left (fun e=>hj e.symm)
         rw [prevOf_not m none g (fun hh=>nds.2.2.2 m hh m (chain_sub r m hcr) rfl),Option.none_or]
         exact ihr (some j) (by simp) nds.2.2.1 hcr
      exact this n (some i) (by simp) ndn hc hp
     ·exact (get_sub u n y g hg).1
    have hiu:i≠u:=fun e=>n2 (e▸hun)
    have huf:u∉ids f:=fun h1=>hdis u h1 u hun rfl
    refine ⟨?_,has_other f false _ hf hu hm same huf hmf,ihn _ _ (some i) q ndn (by simp) hp hq hn⟩
    rw [same _ (adr_ne hu hb hiu) (adr_ne hm hb hne),hb]
    have:nx adr top (cut m n)=nx adr top n:=by
     cases top with
     |true=>rfl
     |false=>
      cases n with
      |nil=>rfl
      |node j y g r=>
       show pt adr (cut m (node j y g r))=pt adr (node j y g r)
       simp only [cut]
       rw [if_neg (hroot j y g r rfl)];rfl
    rw [this]
end
end T
open Go.RowKit
/-! ### pointers to rows, compared -/
theorem size_node:(Tryz.prog.info? 141).map (·.size)=some 5:=by kernel_rfl
theorem eqin_same (d:Nat) (a:Addr) (W:World):(Op.equalIn (d+1) 135 (.pointer (some a)) (.pointer (some a))).run Tryz.prog W=.ok true W:=by
 obtain ⟨i,hi,_⟩:=Option.map_eq_some_iff.1 size_node
 simp [Op.equalIn,run_underlying Tryz.underlying135,typeInfo,sizeOf,run_sameAddr_same,hi]
theorem eqin_other (d:Nat) {a b:Addr} {W:World} {ca cb:Array Value} {ta tb:TypeId} (hne:a≠b) (ha:W.heap[a.block]?=some (.cells ca ta (0,0))) (hb:W.heap[b.block]?=some (.cells cb tb (0,0))) :
  (Op.equalIn (d+1) 135 (.pointer (some a)) (.pointer (some b))).run Tryz.prog W=.ok false W:=by
 obtain ⟨i,hi,hs⟩:=Option.map_eq_some_iff.1 size_node
 simp [Op.equalIn,run_underlying Tryz.underlying135,typeInfo,sizeOf,hi,hs,run_sameAddr_other W hne ha hb]
theorem eqin_nil (d:Nat) (b:Addr) (W:World):(Op.equalIn (d+1) 135 (.pointer none) (.pointer (some b))).run Tryz.prog W=.ok false W:=by
 simp [Op.equalIn,run_underlying Tryz.underlying135]
theorem eql_same (a:Addr) (W:World):(binOp .eql 135 (.pointer (some a)) (.pointer (some a))).run Tryz.prog W=.ok (.bool true) W:=by
 simp only [binOp];simp [Op.equal,Op.maxDepth,eqin_same 9999 a W]
theorem neq_same (a:Addr) (W:World):(binOp .neq 135 (.pointer (some a)) (.pointer (some a))).run Tryz.prog W=.ok (.bool false) W:=by
 simp only [binOp];simp [Op.equal,Op.maxDepth,eqin_same 9999 a W]
theorem eql_other {a b:Addr} {W:World} {ca cb:Array Value} {ta tb:TypeId} (hne:a≠b) (ha:W.heap[a.block]?=some (.cells ca ta (0,0))) (hb:W.heap[b.block]?=some (.cells cb tb (0,0))) :
  (binOp .eql 135 (.pointer (some a)) (.pointer (some b))).run Tryz.prog W=.ok (.bool false) W:=by
 simp only [binOp];simp [Op.equal,Op.maxDepth,eqin_other 9999 hne ha hb]
theorem neq_other {a b:Addr} {W:World} {ca cb:Array Value} {ta tb:TypeId} (hne:a≠b) (ha:W.heap[a.block]?=some (.cells ca ta (0,0))) (hb:W.heap[b.block]?=some (.cells cb tb (0,0))) :
  (binOp .neq 135 (.pointer (some a)) (.pointer (some b))).run Tryz.prog W=.ok (.bool true) W:=by
 simp only [binOp];simp [Op.equal,Op.maxDepth,eqin_other 9999 hne ha hb]
theorem eql_nil (b:Addr) (W:World):(binOp .eql 135 (.pointer none) (.pointer (some b))).run Tryz.prog W=.ok (.bool false) W:=by
 simp only [binOp];simp [Op.equal,Op.maxDepth,eqin_nil 9999 b W]
theorem neq_nil (b:Addr) (W:World):(binOp .neq 135 (.pointer none) (.pointer (some b))).run Tryz.prog W=.ok (.bool true) W:=by
 simp only [binOp];simp [Op.equal,Op.maxDepth,eqin_nil 9999 b W]
abbrev hpOf (w:World):HP:=fun b=>w.heap[b]?
def fst (adr:Int→Nat) (t:T) (i:Nat):Value:=if (i:Int)∈T.ids t then PP adr i else nilp
structure Frs (w:World) (g:Nat) (adr:Int→Nat) (t:T):Prop where
 has:T.Has (hpOf w) adr true nilp t
 tab:w.rowIs g 138 37 (fst adr t)
 nd:(T.ids t).Nodup
 rng:∀ i∈T.ids t,1≤i∧i<37
def upv (adr:Int→Nat):Option Int→Value
 |none=>nilp
 |some u=>PP adr u
theorem T.has_info {h:HP} {adr:Int→Nat} (j:Int) (x:ByteArray) (f:T) (t:T):∀ (top:Bool) (q:Option Int),(T.ids t).Nodup→T.get j t=some (x,f)→T.Has h adr top (upv adr q) t →
  ∃ n top' q',T.nextOf j t=some n∧T.upOf j q t=some q'∧(top'=true→top=true∧j∈T.chain t)∧h (adr j)=some (nodeO j (.string x) (upv adr q') (T.pt adr f) (T.nx adr top' n))∧T.Has h adr false (PP adr j) f:=by
 induction t with
 |nil=>intro _ _ _ h;simp [T.get] at h
 |node i y g n ihf ihn=>
  intro top q nd hg ht
  simp only [T.ids,List.nodup_cons,List.nodup_append,List.mem_append,not_or] at nd
  obtain ⟨⟨n1,n2⟩,ndf,ndn,hdis⟩:=nd
  obtain ⟨hb,hf,hn⟩:=ht
  simp only [T.get] at hg
  simp only [T.nextOf,T.upOf,T.chain]
  split at hg
  ·rename_i e
   simp only [Option.some.injEq,Prod.mk.injEq] at hg
   obtain ⟨rfl,rfl⟩:=hg
   subst e
   exact ⟨n,top,q,by simp,by simp,fun h=>⟨h,List.mem_cons_self⟩,hb,hf⟩
  ·rename_i hne
   rw [if_neg hne,if_neg hne]
   rw [Option.or_eq_some_iff] at hg
   rcases hg with hg | ⟨_,hg⟩
   ·obtain ⟨n',top',q',e1,e2,e3,e4⟩:=ihf false (some i) ndf hg hf
    exact ⟨n',top',q',by rw [e1];rfl,by rw [e2];rfl,(fun h=>by have h9:=(e3 h).1;simp at h9),e4⟩
   ·have hj:=(T.get_sub j n x f hg).1
    have hjf:j∉T.ids g:=fun h=>hdis j h j hj rfl
    obtain ⟨n',top',q',e1,e2,e3,e4⟩:=ihn top q ndn hg hn
    exact ⟨n',top',q',by rw [T.nextOf_not j g hjf,e1];rfl,by rw [T.upOf_not j _ g hjf,e2];rfl,fun h=>⟨(e3 h).1,List.mem_cons_of_mem _ (e3 h).2⟩,e4⟩
section
variable {w:World} {g:Nat} {adr:Int→Nat} {t:T}
theorem Frs.info (h:Frs w g adr t) (j:Int) (hj:j∈T.ids t):∃ x f n top q,T.get j t=some (x,f)∧T.nextOf j t=some n∧T.upOf j none t=some q∧(top=true→j∈T.chain t) ∧
  w.heap[adr j]?=some (nodeO j (.string x) (upv adr q) (T.pt adr f) (T.nx adr top n))∧T.Has (hpOf w) adr false (PP adr j) f:=by
 obtain ⟨x,f,hg⟩:=T.get_some j t hj
 obtain ⟨n,top,q,e1,e2,e3,e4,e5⟩:=T.has_info j x f t true none h.nd hg h.has
 exact ⟨x,f,n,top,q,hg,e1,e2,fun h=>(e3 h).2,e4,e5⟩
theorem Frs.inj (h:Frs w g adr t) {i j:Int} (hi:i∈T.ids t) (hj:j∈T.ids t) (hne:i≠j):adr i≠adr j:=by
 obtain ⟨x,f,n,top,q,_,_,_,_,e,_⟩:=h.info i hi
 obtain ⟨x',f',n',top',q',_,_,_,_,e',_⟩:=h.info j hj
 exact T.adr_ne (h:=hpOf w) e' e hne
theorem cells_of {b:Nat} {i:Int} {a b' c d:Value} (h:w.heap[b]?=some (nodeO i a b' c d)) :
  w.cell? ⟨b,0,none⟩=some (.int .i64 i)∧w.cell? ⟨b,1,none⟩=some a∧w.cell? ⟨b,2,none⟩=some b'∧w.cell? ⟨b,3,none⟩=some c∧w.cell? ⟨b,4,none⟩=some d∧∀ o,w.frozen? ⟨b,o,none⟩=false:=by
 refine ⟨by simp [World.cell?,h],by simp [World.cell?,h],by simp [World.cell?,h],by simp [World.cell?,h],by simp [World.cell?,h],fun o=>by simp [World.frozen?,h]⟩
theorem Frs.ext (h:Frs w g adr t) {w':World} (hb:Below w.heap.size w w'):Frs w' g adr t:=by
 refine ⟨T.has_same t true nilp (fun j hj=>?_) h.has,h.tab.of_block (hb.block g h.tab.lt),h.nd,h.rng⟩
 obtain ⟨a,b,c,d,e⟩:=T.has_at t true nilp h.has j hj
 exact hb.block _ (Array.getElem?_eq_some_iff.1 e).1
theorem Frs.size (h:Frs w g adr t):g<w.heap.size:=h.tab.lt
end
theorem find_yes (g:Nat) (adr:Int→Nat) (t:T) (id:Int) (w:World) (hf:Frs w g adr t) (hi:id∈T.ids t) :
  Calls Tryz.prog 83 #[.pointer (some ⟨g,0,none⟩),.int .i64 id] w fun e w'=>e=.returned (PP adr id)∧w'=w:=by
 obtain ⟨h1,h2⟩:=hf.rng id hi
 have hc:=hf.tab.cell (i:=id.toNat) (by omega)
 have hcast:((id.toNat:Nat):Int)=id:=by omega
 simp only [fst,hcast] at hc
 rw [if_pos hi] at hc
 clear hcast hf hi
 go_enter Tryz.func83,Tryz.ntmps83
 go_wp2
 go_ret
 exact ⟨rfl,rfl⟩
theorem find_no (g:Nat) (adr:Int→Nat) (t:T) (id:Int) (w:World) (hf:Frs w g adr t) (hi:id∉T.ids t) :
  Calls Tryz.prog 83 #[.pointer (some ⟨g,0,none⟩),.int .i64 id] w fun e w'=>e=.returned nilp∧w'=w:=by
 by_cases h:0≤id∧id<37
 ·obtain ⟨h1,h2⟩:=h
  have hc:=hf.tab.cell (i:=id.toNat) (by omega)
  have hcast:((id.toNat:Nat):Int)=id:=by omega
  simp only [fst,hcast] at hc
  rw [if_neg hi] at hc
  clear hcast hf hi
  go_enter Tryz.func83,Tryz.ntmps83
  go_wp2
  go_ret
  exact ⟨rfl,rfl⟩
 ·clear hf hi
  by_cases h1:id<0
  ·go_enter Tryz.func83,Tryz.ntmps83
   go_wp2
   go_ret
   exact ⟨rfl,rfl⟩
  ·have h2:37≤id:=by omega
   go_enter Tryz.func83,Tryz.ntmps83
   go_wp2
   go_ret
   exact ⟨rfl,rfl⟩
def posv (adr:Int→Nat) (p:Int):Value:=if 0<p then PP adr p else nilp
theorem upv_ne (adr:Int→Nat) {q:Option Int} {up:Int} (h:∀ u,q=some u→adr u≠adr up):upv adr q≠PP adr up:=by
 cases q with
 |none=>simp [upv]
 |some u=>simpa [upv] using h u rfl
theorem upv_cases (adr:Int→Nat) (q:Option Int):upv adr q=nilp∨∃ a,upv adr q=.pointer (some ⟨a,0,none⟩):=by
 cases q with
 |none=>exact .inl rfl
 |some u=>exact .inr ⟨_,rfl⟩
set_option maxHeartbeats 1000000 in
set_option maxRecDepth 100000 in
theorem near_c (g:Nat) (adr:Int→Nat) (t:T) (id up pos:Int) (w:World) (hf:Frs w g adr t) (h3:3∈T.ids t) :
  Calls Tryz.prog 122 #[.pointer (some ⟨g,0,none⟩),.int .i64 id,.int .i64 up,.int .i64 pos] w fun e w'=>
   e=.returned (.tuple #[PP adr (T.near t id up pos).1,posv adr (T.near t id up pos).2])∧w'=w:=by
 by_cases hu:up∈T.ids t
 ·have f1:=Lib.hid (find_yes g adr t up w hf hu)
  by_cases hp:pos∈T.ids t
  ·have f2:=Lib.hid (find_yes g adr t pos w hf hp)
   obtain ⟨x,f,n,top,q,-,-,hq,-,hb,-⟩:=hf.info pos hp
   obtain ⟨c0,-,c2,-,-,-⟩:=cells_of hb
   have h1p:=(hf.rng pos hp).1
   rcases Decidable.em (q=some up) with hqu | hqu
   ·subst hqu
    simp only [upv] at c2
    have q1:=neq_same ⟨adr up,0,none⟩
    by_cases hpi:pos=id
    ·have hn:T.near t id up pos=(up,0):=by simp [T.near,hu,hpi]
     rw [hn]
     have hpi':(pos == id)=true:=beq_iff_eq.2 hpi
     clear hn hf hu hp hq hb hpi
     go_enter Tryz.func122,Tryz.ntmps122
     go_wp2_with fail
     refine f1.out.mono ?_;rintro e w' ⟨rfl,rfl⟩
     go_wp2_with fail
     refine f2.out.mono ?_;rintro e w' ⟨rfl,rfl⟩
     go_wp2_with fail
     go_ret2
     exact ⟨by simp [posv],rfl⟩
    ·have hn:T.near t id up pos=(up,pos):=by simp [T.near,hu,hpi,hq]
     rw [hn]
     have hpi':(pos == id)=false:=beq_eq_false_iff_ne.2 hpi
     clear hn hf hu hp hq hb hpi
     go_enter Tryz.func122,Tryz.ntmps122
     go_wp2_with fail
     refine f1.out.mono ?_;rintro e w' ⟨rfl,rfl⟩
     go_wp2_with fail
     refine f2.out.mono ?_;rintro e w' ⟨rfl,rfl⟩
     go_wp2_with fail
     go_ret2
     exact ⟨by simp [posv];omega,rfl⟩
   ·have hn:T.near t id up pos=(up,0):=by
     simp only [T.near,if_pos hu,hq]
     rw [if_neg (fun h=>hqu (by injection h.1))]
    rw [hn]
    obtain ⟨xu,fu,nu,topu,qu,-,-,-,-,hbu,-⟩:=hf.info up hu
    have hqb:∀ a,upv adr q=.pointer (some ⟨a,0,none⟩)→∃ c,w.heap[a]?=some (.cells c 141 (0,0)):=fun a e=>by
     cases q with
     |none=>simp [upv] at e
     |some u=>
      simp only [upv,Value.pointer.injEq,Option.some.injEq,Addr.mk.injEq,and_true] at e
      have hum:u∈T.ids t:=by
       rcases T.up_get t hf.nd pos u none hq with ⟨_,h⟩ | ⟨y,g',h,_⟩
       ·cases h
       ·exact (T.get_sub u t y g' h).1
      obtain ⟨xv,fv,nv,topv,qv,-,-,-,-,hbv,-⟩:=hf.info u hum
      rw [←e];exact ⟨_,hbv⟩
    have hne:upv adr q≠PP adr up:=upv_ne adr (fun u e=>by
     subst e
     have hum:u∈T.ids t:=by
      rcases T.up_get t hf.nd pos u none hq with ⟨_,h⟩ | ⟨y,g',h,_⟩
      ·cases h
      ·exact (T.get_sub u t y g' h).1
     exact hf.inj hum hu (fun e=>hqu (by rw [e])))
    rcases upv_cases adr q with hv | ⟨a,hv⟩
    ·rw [hv] at c2 hne
     have q1:=neq_nil ⟨adr up,0,none⟩
     clear hn hf hu hp hq hb hqu hv hne
     go_enter Tryz.func122,Tryz.ntmps122
     go_wp2_with fail
     refine f1.out.mono ?_;rintro e w' ⟨rfl,rfl⟩
     go_wp2_with fail
     refine f2.out.mono ?_;rintro e w' ⟨rfl,rfl⟩
     go_wp2_with fail
     go_ret2
     exact ⟨by simp [posv],rfl⟩
    ·rw [hv] at c2 hne
     have ha:(⟨a,0,none⟩:Addr)≠⟨adr up,0,none⟩:=fun e=>hne (by rw [e])
     obtain ⟨ca,hca⟩:=hqb a hv
     have q1:=neq_other (W:=w) ha hca hbu
     clear hn hf hu hp hq hb hqu hv hne hqb hca hbu ha
     go_enter Tryz.func122,Tryz.ntmps122
     go_wp2_with fail
     refine f1.out.mono ?_;rintro e w' ⟨rfl,rfl⟩
     go_wp2_with fail
     refine f2.out.mono ?_;rintro e w' ⟨rfl,rfl⟩
     go_wp2_with fail
     go_ret2
     exact ⟨by simp [posv],rfl⟩
  ·have f2:=Lib.hid (find_no g adr t pos w hf hp)
   have hn:T.near t id up pos=(up,0):=by
    simp only [T.near,if_pos hu]
    rw [if_neg (fun h=>hp (T.up_mem t hf.nd pos up h.1))]
   rw [hn]
   clear hn hf hu hp
   go_enter Tryz.func122,Tryz.ntmps122
   go_wp2_with fail
   refine f1.out.mono ?_;rintro e w' ⟨rfl,rfl⟩
   go_wp2_with fail
   refine f2.out.mono ?_;rintro e w' ⟨rfl,rfl⟩
   go_wp2_with fail
   go_ret2
   exact ⟨by simp [posv],rfl⟩
 ·have f1:=Lib.hid (find_no g adr t up w hf hu)
  have f2:=Lib.hid (find_yes g adr t 3 w hf h3)
  have hn:T.near t id up pos=(3,0):=by simp [T.near,hu]
  rw [hn]
  clear hn hf hu h3
  go_enter Tryz.func122,Tryz.ntmps122
  go_wp2_with fail
  refine f1.out.mono ?_;rintro e w' ⟨rfl,rfl⟩
  go_wp2_with fail
  refine f2.out.mono ?_;rintro e w' ⟨rfl,rfl⟩
  go_wp2_with fail
  go_ret2
  exact ⟨by simp [posv],rfl⟩
def T.deep (t:T) (c:Int):Nat:=match (T.rows 0 t).find? (fun r=>r.id == c) with | some r=>r.depth.toNat | none=>0
theorem T.deep_up (t:T) (nd:(T.ids t).Nodup) (c p:Int) (h:T.upOf c none t=some (some p)):T.deep t p<T.deep t c:=by
 have key:∀ a,a∈T.ids t→∃ r∈T.rows 0 t,r.id=a∧T.deep t a=r.depth.toNat∧0≤r.depth:=by
  intro a ha
  obtain ⟨r,hr,e⟩:=(T.mem_ids 0 t a).1 ha
  unfold T.deep
  cases hf:(T.rows 0 t).find? (fun r=>r.id == a) with
  |none=>rw [List.find?_eq_none] at hf;exact absurd e (by simpa using hf r hr)
  |some q=>
   have h1:=List.mem_of_find?_eq_some hf
   have h2:=List.find?_some hf
   exact ⟨q,h1,by simpa using h2,rfl,T.rows_depth 0 t q h1⟩
 have hc:=T.up_mem t nd c p h
 have hp:p∈T.ids t:=by
  rcases T.up_get t nd c p none h with ⟨_,h⟩ | ⟨y,g',h,_⟩
  ·cases h
  ·exact (T.get_sub p t y g' h).1
 obtain ⟨a,ha,ea,da,a0⟩:=key p hp
 obtain ⟨b,hb,eb,db,b0⟩:=key c hc
 have:=T.up_depth t nd c p h a ha b hb ea eb
 omega
def T.inB (c m:Int) (f:T):Bool:=decide (c=m∨c∈T.ids f)
theorem T.inB_iff (c m:Int) (f:T):T.inB c m f=true↔c=m∨c∈T.ids f:=by simp [T.inB]
set_option maxRecDepth 100000 in
theorem within_c (g:Nat) (adr:Int→Nat) (t:T) (c m:Int) (x:ByteArray) (f:T) (w:World) (hf:Frs w g adr t) (hc:c∈T.ids t) (hm:T.get m t=some (x,f)) :
  Calls Tryz.prog 123 #[PP adr c,PP adr m] w fun e w'=>e=.returned (.bool (T.inB c m f))∧w'=w:=by
 have hmi:=(T.get_sub m t x f hm).1
 have HF:=Lib.hid hf
 go_enter Tryz.func123,Tryz.ntmps123
 go_wp2
 go_loopg [0] (T.deep t c+1) (fun gk v wr=>wr=w∧∃ q:Option Int,v=upv adr q∧(∀ d,q=some d→d∈T.ids t∧T.deep t d<gk∧Hid (T.inB d m f=T.inB c m f))∧(q=none→Hid (T.inB c m f=false)))
 case atStart=>exact ⟨rfl,some c,rfl,fun d e=>by cases e;exact ⟨hc,by omega,rfl⟩,fun h=>by cases h⟩
 case round=>
  obtain ⟨rfl,q,rfl,hd,hn⟩:=hrel
  cases q with
  |none=>
   have HN:=hn rfl
   clear hd hn
   simp only [upv]
   go_wp2
   go_ret
   exact ⟨by rw [HN.out];rfl,rfl⟩
  |some d=>
   obtain ⟨hdi,hdg,HD⟩:=hd d rfl
   clear hd hn
   obtain ⟨y,f',n,top,q,-,-,hq,-,hb,-⟩:=hf.info d hdi
   obtain ⟨-,-,c2,-,-,-⟩:=cells_of hb
   by_cases hdm:d=m
   ·subst hdm
    clear hf hb hq c2 hm
    have q1:=eql_same ⟨adr d,0,none⟩
    simp only [upv]
    go_wp2
    go_ret
    exact ⟨by rw [←HD.out,(T.inB_iff d d f).2 (.inl rfl)];rfl,rfl⟩
   ·have hne:=hf.inj hdi hmi hdm
    obtain ⟨xm,fm,nm,topm,qm,-,-,-,-,hbm,-⟩:=hf.info m hmi
    have q1:=eql_other (W:=wr) (a:=⟨adr d,0,none⟩) (b:=⟨adr m,0,none⟩) (fun e=>hne (by injection e)) hb hbm
    clear hbm hne
    have HQ:=Lib.hid hq
    have HM:=Lib.hid hm
    have HDM:=Lib.hid hdm
    have HDG:=Lib.hid hdg
    clear hf hb hq hm hdm hdg
    simp only [upv]
    go_wp2
    go_roundg (gk - 1)
    case measure=>have:=HDG.out;omega
    case rel=>
     refine ⟨rfl,q,rfl,fun d' e=>?_,fun e=>?_⟩
     ·subst e
      have hdi':d'∈T.ids t:=by
       rcases T.up_get t HF.out.nd d d' none HQ.out with ⟨_,h⟩ | ⟨y',g',h,_⟩
       ·cases h
       ·exact (T.get_sub d' t y' g' h).1
      refine ⟨hdi',?_,?_⟩
      ·have:=T.deep_up t HF.out.nd d d' HQ.out;have:=HDG.out;omega
      ·have h1:=T.under_step t HF.out.nd m x f HM.out d d' HQ.out
       have h3:=HDM.out
       show T.inB d' m f=T.inB c m f
       rw [←HD.out,Bool.eq_iff_iff,T.inB_iff,T.inB_iff]
       exact h1.symm.trans ⟨.inr,fun h=>h.resolve_left h3⟩
     ·subst e
      show T.inB c m f=false
      rw [←HD.out,Bool.eq_false_iff]
      intro h
      have h2:=((T.inB_iff d m f).1 h).resolve_left HDM.out
      obtain ⟨p,hp,_⟩:=T.under_in t HF.out.nd m x f HM.out d h2
      rw [HQ.out] at hp
      cases hp
open Go.RowKit
theorem set1 {w:World} {b:Nat} {i:Int} {a1 a2 a3 a4 v:Value} (h:w.heap[b]?=some (nodeO i a1 a2 a3 a4)):(w.setCell ⟨b,1,none⟩ v).heap[b]?=some (nodeO i v a2 a3 a4):=by
 unfold World.setCell
 simp only [Array.getElem?_modify,h];rfl
theorem set2 {w:World} {b:Nat} {i:Int} {a1 a2 a3 a4 v:Value} (h:w.heap[b]?=some (nodeO i a1 a2 a3 a4)):(w.setCell ⟨b,2,none⟩ v).heap[b]?=some (nodeO i a1 v a3 a4):=by
 unfold World.setCell
 simp only [Array.getElem?_modify,h];rfl
theorem set3 {w:World} {b:Nat} {i:Int} {a1 a2 a3 a4 v:Value} (h:w.heap[b]?=some (nodeO i a1 a2 a3 a4)):(w.setCell ⟨b,3,none⟩ v).heap[b]?=some (nodeO i a1 a2 v a4):=by
 unfold World.setCell
 simp only [Array.getElem?_modify,h];rfl
theorem set4 {w:World} {b:Nat} {i:Int} {a1 a2 a3 a4 v:Value} (h:w.heap[b]?=some (nodeO i a1 a2 a3 a4)):(w.setCell ⟨b,4,none⟩ v).heap[b]?=some (nodeO i a1 a2 a3 v):=by
 unfold World.setCell
 simp only [Array.getElem?_modify,h];rfl
theorem setx {w:World} {b b' o:Nat} {v:Value} (h:b'≠b):(w.setCell ⟨b,o,none⟩ v).heap[b']?=w.heap[b']?:=Below.heap_setCell w ⟨b,o,none⟩ v b' h
theorem setsz (w:World) (a:Addr) (v:Value):(w.setCell a v).heap.size=w.heap.size:=by
 unfold World.setCell;split <;> simp
structure Two (w w':World) (a b:Nat):Prop where
 os:w'.os=w.os
 tape:w'.tape=w.tape
 output:w'.output=w.output
 size:w'.heap.size=w.heap.size
 block:∀ k,k≠a→k≠b→w'.heap[k]?=w.heap[k]?
theorem Two.refl (w:World) (a b:Nat):Two w w a b:=⟨rfl,rfl,rfl,rfl,fun _ _ _=>rfl⟩
theorem Two.set {w w':World} {a b:Nat} (h:Two w w' a b) (c o:Nat) (v:Value) (hc:c=a∨c=b):Two w (w'.setCell ⟨c,o,none⟩ v) a b:=by
 have hs:∀ x:World,(x.setCell ⟨c,o,none⟩ v).os=x.os∧(x.setCell ⟨c,o,none⟩ v).tape=x.tape∧(x.setCell ⟨c,o,none⟩ v).output=x.output:=fun x=>by unfold World.setCell;split <;> exact ⟨rfl,rfl,rfl⟩
 obtain ⟨e1,e2,e3⟩:=hs w'
 refine ⟨e1.trans h.os,e2.trans h.tape,e3.trans h.output,(setsz _ _ _).trans h.size,fun k ha hb=>(setx ?_).trans (h.block k ha hb)⟩
 rcases hc with rfl | rfl <;> assumption
theorem Two.drewN {w w':World} {a b:Nat} (h:Two w w' a b) (n:Nat):Two w (w'.drewN n) a b:=⟨h.os,h.tape,h.output,h.size,h.block⟩
theorem Two.below {B:Nat} {w0 w w':World} {a b:Nat} (h0:Below B w0 w) (h:Two w w' a b) (ha:B≤a) (hb:B≤b):Below B w0 w':=
 ⟨h.os.trans h0.os,h.tape.trans h0.tape,h.output.trans h0.output,by rw [h.size];exact h0.size,fun k hk=>(h.block k (by omega) (by omega)).trans (h0.block k hk)⟩
theorem pt_pointer (adr:Int→Nat) (t:T):∃ p,T.pt adr t=.pointer p:=by
 cases t with
 |nil=>exact ⟨none,rfl⟩
 |node i x f n=>exact ⟨_,rfl⟩
theorem nx_pointer (adr:Int→Nat) (top:Bool) (t:T):∃ p,T.nx adr top t=.pointer p:=by
 unfold T.nx
 cases top with
 |true=>exact ⟨none,rfl⟩
 |false=>exact pt_pointer adr t
theorem attach_first (adr:Int→Nat) (id u:Int) (y1 y2 y3 y4 x1 x2 x4:Value) (fp:Option Addr) (w:World) (hid:w.heap[adr id]?=some (nodeO id y1 y2 y3 y4)) (hu:w.heap[adr u]?=some (nodeO u x1 x2 (.pointer fp) x4)) (hne:adr id≠adr u) :
  Calls Tryz.prog 82 #[PP adr id,PP adr u,nilp] w fun e w'=>e=.returned (.tuple #[])∧Two w w' (adr u) (adr id) ∧
   w'.heap[adr id]?=some (nodeO id y1 (PP adr u) y3 (.pointer fp))∧w'.heap[adr u]?=some (nodeO u x1 x2 (PP adr id) x4):=by
 obtain ⟨-,-,c2,-,c4,cf⟩:=cells_of hid
 obtain ⟨-,-,-,d3,-,df⟩:=cells_of hu
 have hne':adr u≠adr id:=fun e=>hne e.symm
 have HI:=Lib.hid hid;have HU:=Lib.hid hu;have HN:=Lib.hid hne;have HN':=Lib.hid hne'
 clear hid hu
 go_enter Tryz.func82,Tryz.ntmps82
 go_wp2
 refine bodyPost_ret (results_none rfl _ _ _) rfl ?_
 refine ⟨rfl,(((Two.refl w _ _).set _ _ _ (.inr rfl)).set _ _ _ (.inr rfl)).set _ _ _ (.inl rfl),?_,?_⟩
 ·rw [setx HN.out]
  exact set4 (set2 HI.out)
 ·exact set3 ((setx HN'.out).trans ((setx HN'.out).trans HU.out))
theorem attach_next (adr:Int→Nat) (id a:Int) (y1 y2 y3 y4 x1 x2 x3 upq:Value) (np upp:Option Addr) (w:World) (hid:w.heap[adr id]?=some (nodeO id y1 y2 y3 y4)) (ha:w.heap[adr a]?=some (nodeO a x1 x2 x3 (.pointer np))) (hne:adr id≠adr a) :
  Calls Tryz.prog 82 #[PP adr id,.pointer upp,PP adr a] w fun e w'=>e=.returned (.tuple #[])∧Two w w' (adr a) (adr id) ∧
   w'.heap[adr id]?=some (nodeO id y1 (.pointer upp) y3 (.pointer np))∧w'.heap[adr a]?=some (nodeO a x1 x2 x3 (PP adr id)):=by
 obtain ⟨-,-,c2,-,c4,cf⟩:=cells_of hid
 obtain ⟨-,-,-,-,d4,df⟩:=cells_of ha
 have hne':adr a≠adr id:=fun e=>hne e.symm
 have HI:=Lib.hid hid;have HU:=Lib.hid ha;have HN:=Lib.hid hne;have HN':=Lib.hid hne'
 clear hid ha
 go_enter Tryz.func82,Tryz.ntmps82
 go_wp2
 go_end0
 refine ⟨rfl,(((Two.refl w _ _).set _ _ _ (.inr rfl)).set _ _ _ (.inr rfl)).set _ _ _ (.inl rfl),?_,?_⟩
 ·rw [setx HN.out]
  exact set4 (set2 HI.out)
 ·exact set4 ((setx HN'.out).trans ((setx HN'.out).trans HU.out))
structure Free (w:World) (g:Nat) (adr:Int→Nat) (t:T) (id:Int) (tx:ByteArray) (s:T):Prop where
 has:T.Has (hpOf w) adr true nilp t
 blk:∃ y2 y4,w.heap[adr id]?=some (nodeO id (.string tx) y2 (T.pt adr s) y4)
 sub:T.Has (hpOf w) adr false (PP adr id) s
 tab:w.rowIs g 138 37 (fun i=>if (i:Int)∈id::(T.ids s++T.ids t) then PP adr i else nilp)
 nd:(id::(T.ids s++T.ids t)).Nodup
 rng:∀ i∈id::(T.ids s++T.ids t),1≤i∧i<37
def Low (B g:Nat) (adr:Int→Nat) (l:List Int):Prop:=B≤g∧∀ i∈l,B≤adr i
theorem put_mem (t:T) (id:Int) (tx:ByteArray) (s:T) (p:Int × Int) (nd:(T.ids t).Nodup) (hp:p.1∈T.ids t) (hp2:0<p.2→p.2∈T.ids t):(T.ids (T.put t id tx s p)).Perm (id::(T.ids s++T.ids t)):=by
 unfold T.put
 split
 ·rename_i h;exact T.insN_perm _ _ _ _ _ (hp2 h) nd
 ·exact T.insF_perm _ _ _ _ _ hp nd
theorem fst_perm {adr:Int→Nat} {t:T} {l:List Int} (h:(T.ids t).Perm l) (i:Nat):(if (i:Int)∈l then PP adr i else nilp)=fst adr t i:=by
 unfold fst
 simp only [h.mem_iff]
theorem chain_top {t:T} (nd:(T.ids t).Nodup) {a u:Int} (h:T.upOf a none t=some (some u)):a∉T.chain t:=by
 intro hc
 have:∀ (s:T) (v:Option Int),(T.ids s).Nodup→a∈T.chain s→T.upOf a v s=some v:=by
  intro s
  induction s with
  |nil=>intro v _ h;simp [T.chain] at h
  |node j z p q _ ihq=>
   intro v ndq h
   simp only [T.chain,List.mem_cons] at h
   simp only [T.ids,List.nodup_cons,List.nodup_append,List.mem_append,not_or] at ndq
   simp only [T.upOf]
   by_cases hj:j=a
   ·rw [if_pos hj]
   ·rw [if_neg hj]
    have haq:a∈T.chain q:=h.resolve_left (fun e=>hj e.symm)
    rw [T.upOf_not a _ p (fun hp=>ndq.2.2.2 a hp a (T.chain_sub q a haq) rfl),Option.none_or]
    exact ihq v ndq.2.2.1 haq
 rw [this t none nd hc] at h
 cases h
theorem attach_frs (B g:Nat) (adr:Int→Nat) (t:T) (id:Int) (tx:ByteArray) (s:T) (p:Int × Int) (w:World) (h:Free w g adr t id tx s) (hlow:Low B g adr (id::(T.ids s++T.ids t))) (hp:p.1∈T.ids t)
  (hp2:0<p.2→p.2∈T.ids t∧T.upOf p.2 none t=some (some p.1)) :
  Calls Tryz.prog 82 #[PP adr id,PP adr p.1,posv adr p.2] w fun e w'=>e=.returned (.tuple #[])∧Frs w' g adr (T.put t id tx s p)∧Below B w w'∧w'.heap.size=w.heap.size∧∀ k,(∀ j∈id::T.ids t,k≠adr j)→w'.heap[k]?=w.heap[k]?:=by
 have ndt:(T.ids t).Nodup:=(List.nodup_append.1 (List.nodup_cons.1 h.nd).2).2.1
 have hni:id∉T.ids t:=fun hh=>(List.nodup_cons.1 h.nd).1 (List.mem_append_right _ hh)
 have hns:id∉T.ids s:=fun hh=>(List.nodup_cons.1 h.nd).1 (List.mem_append_left _ hh)
 have hst:∀ a∈T.ids s,a∉T.ids t:=fun a ha hb=>(List.nodup_append.1 (List.nodup_cons.1 h.nd).2).2.2 a ha a hb rfl
 obtain ⟨y2,y4,hid⟩:=h.blk
 have perm:=put_mem t id tx s p ndt hp (fun h0=>(hp2 h0).1)
 have hgne:∀ j a b c d,w.heap[adr j]?=some (nodeO j a b c d)→adr j≠g:=by
  intro j a b c d hj e
  have hg:=h.tab
  obtain ⟨cs,hcs,_⟩:∃ cs,w.heap[g]?=some (.cells cs 138 (0,0))∧True:=by
   obtain ⟨cs,hcs,_⟩:=hg
   exact ⟨cs,hcs,trivial⟩
  rw [e,hcs] at hj
  injection hj with hj
  injection hj with _ hj
  exact absurd hj (by decide)
 have fin:∀ (w':World) (a:Int) (x1 x2 x3 x4:Value),w.heap[adr a]?=some (nodeO a x1 x2 x3 x4)→a∈T.ids t→Two w w' (adr a) (adr id)→T.Has (hpOf w') adr true nilp (T.put t id tx s p) →
   Frs w' g adr (T.put t id tx s p)∧Below B w w'∧w'.heap.size=w.heap.size∧∀ k,(∀ j∈id::T.ids t,k≠adr j)→w'.heap[k]?=w.heap[k]?:=by
  intro w' a x1 x2 x3 x4 ha hat hTwo hHas
  refine ⟨⟨hHas,?_,perm.nodup_iff.2 h.nd,fun i hi=>h.rng i (perm.mem_iff.1 hi)⟩,hTwo.below (Below.refl _ _) (hlow.2 a (by simp [hat])) (hlow.2 id (by simp)),hTwo.size,fun k hk=>hTwo.block k (hk a (by simp [hat])) (hk id (by simp))⟩
  refine (h.tab.of_block (hTwo.block g ?_ ?_)).congr fun i _=>fst_perm perm i
  ·exact (hgne a _ _ _ _ ha).symm
  ·exact (hgne id _ _ _ _ hid).symm
 by_cases h0:0<p.2
 ·obtain ⟨ha,hua⟩:=hp2 h0
  obtain ⟨x,f,hg⟩:=T.get_some p.2 t ha
  obtain ⟨n,top,q,-,hq,htop,hb,-⟩:=T.has_info p.2 x f t true none ndt hg h.has
  rw [hua] at hq
  injection hq with hq;subst hq
  have htf:top=false:=by
   cases top with
   |false=>rfl
   |true=>exact absurd (htop rfl).2 (chain_top ndt hua)
  subst htf
  obtain ⟨np,hnp⟩:=nx_pointer adr false n
  have hb':w.heap[adr p.2]?=some (nodeO p.2 (.string x) (PP adr p.1) (T.pt adr f) (.pointer np)):=by rw [←hnp];exact hb
  have hne:adr id≠adr p.2:=fun e=>T.adr_ne (h:=hpOf w) hb' hid (fun e=>hni (by rw [e];exact ha)) e
  have hpv:posv adr p.2=PP adr p.2:=by simp [posv,h0]
  rw [hpv]
  refine (attach_next adr id p.2 _ _ _ _ _ _ _ nilp np _ w hid hb' hne).mono ?_
  rintro e w' ⟨rfl,hTwo,hid',hb2⟩
  refine ⟨rfl,fin w' p.2 _ _ _ _ hb' ha hTwo ?_⟩
  have hsame:∀ b,b≠adr p.2→b≠adr id→hpOf w' b=hpOf w b:=fun b h1 h2=>hTwo.block b h1 h2
  unfold T.put
  rw [if_pos h0]
  refine T.has_insN (h:=hpOf w) hsame hid hid' ?_ hb' hb2 t true nilp (fun _=>chain_top ndt hua) hni ndt h.has
  exact T.has_other (h:=hpOf w) s false _ h.sub hb' hid hsame (fun hh=>hst p.2 hh ha) hns
 ·obtain ⟨x,f,hg⟩:=T.get_some p.1 t hp
  obtain ⟨n,top,q,-,hq,htop,hb,-⟩:=T.has_info p.1 x f t true none ndt hg h.has
  obtain ⟨fp,hfp⟩:=pt_pointer adr f
  have hb':w.heap[adr p.1]?=some (nodeO p.1 (.string x) (upv adr q) (.pointer fp) (T.nx adr top n)):=by rw [←hfp];exact hb
  have hne:adr id≠adr p.1:=fun e=>T.adr_ne (h:=hpOf w) hb' hid (fun e=>hni (by rw [e];exact hp)) e
  have hpv:posv adr p.2=nilp:=by simp [posv,h0]
  rw [hpv]
  refine (attach_first adr id p.1 _ _ _ _ _ _ _ fp w hid hb' hne).mono ?_
  rintro e w' ⟨rfl,hTwo,hid',hb2⟩
  refine ⟨rfl,fin w' p.1 _ _ _ _ hb' hp hTwo ?_⟩
  have hsame:∀ b,b≠adr p.1→b≠adr id→hpOf w' b=hpOf w b:=fun b h1 h2=>hTwo.block b h1 h2
  unfold T.put
  rw [if_neg h0]
  refine T.has_insF (h:=hpOf w) hsame hid hid' ?_ hb' hb2 t true nilp hni ndt h.has
  exact T.has_other (h:=hpOf w) s false _ h.sub hb' hid hsame (fun hh=>hst p.1 hh hp) hns
open Go.RowKit
theorem rowOk_id {r:Row} (h:rowOk r=true):1≤r.id∧r.id<37∧0≤r.depth∧r.depth≤18:=by
 unfold rowOk at h
 split at h
 ·rename_i hr
  rw [isRoot_iff] at hr
  simp only [Bool.and_eq_true,decide_eq_true_eq] at h
  omega
 ·simp only [Bool.and_eq_true,decide_eq_true_eq] at h
  have:=(isMade_iff r.id).1 h.1.1
  omega
theorem rowIs_below {w w':World} {b t n:Nat} {f:Nat→Value} (h:w.rowIs b t n f) (hb:Below w.heap.size w w'):w'.rowIs b t n f:=h.of_block (hb.block b h.lt)
theorem treeOkF_bad (seen:List Int) (R D:Int) (r:Row) (rest:List Row) (h:rowOk r=false∨r.id∈seen∨D+1<r.depth∨(isRoot r.id=true∧r.id≠R+1)):treeOkF seen R D (r::rest)=false:=by
 simp only [treeOkF]
 rcases h with h | h | h | ⟨h1,h2⟩
 ·simp [h]
 ·simp [List.contains_eq_mem,h]
 ·simp;intro _ _ h1;omega
 ·simp [h1,h2]
theorem treeOkF_root (seen:List Int) (R D:Int) (r:Row) (rest:List Row) (h1:rowOk r=true) (h2:r.id∉seen) (h3:r.depth≤D+1) (h4:isRoot r.id=true) (h5:r.id=R+1):treeOkF seen R D (r::rest)=treeOkF (r.id::seen) (R+1) r.depth rest:=by
 simp only [treeOkF]
 rw [h1,h4,List.contains_eq_mem,decide_eq_false h2,decide_eq_true h3,decide_eq_true h5];simp
theorem treeOkF_made (seen:List Int) (R D:Int) (r:Row) (rest:List Row) (h1:rowOk r=true) (h2:r.id∉seen) (h3:r.depth≤D+1) (h4:isRoot r.id=false):treeOkF seen R D (r::rest)=treeOkF (r.id::seen) R r.depth rest:=by
 simp [treeOkF,h1,List.contains_eq_mem,h2,h3,h4]
theorem rep_at (n:Nat) (v:Value) (i:Nat) (h:i<n):((List.replicate n v).toArray)[i]?=some v:=by simp [h]
theorem Tab.setCell {w:World} (h:Tab w) {p:Addr} (hp:0<p.block) (v:Value):Tab (w.setCell p v):=h.below (B:=1) ((Below.refl 1 w).setCell hp v) (by omega)
def tms (seen:List Int) (j:Nat):Value:=.int .i64 (if (j:Int)∈seen then 1 else 0)
theorem beq_dec (a b:Int):(a == b)=decide (a=b):=by rw [Bool.eq_iff_iff];simp
theorem tms_set {w:World} {b:Nat} {t:TypeId} {seen:List Int} {id:Int} (h:w.rowIs b t 37 (tms seen)) (h1:1≤id):(w.setCell ⟨b,id.toNat,none⟩ (.int .i64 1)).rowIs b t 37 (tms (id::seen)):=by
 refine (h.set id.toNat _).congr fun i _=>?_
 unfold tms
 by_cases e:i=id.toNat
 ·rw [if_pos e,if_pos];subst e;rw [List.mem_cons];left;omega
 ·rw [if_neg e]
  have:((i:Int)∈id::seen)↔(i:Int)∈seen:=by
   rw [List.mem_cons]
   exact ⟨fun h=>h.resolve_left (by omega),.inr⟩
  simp only [this]
set_option maxRecDepth 100000 in
set_option maxHeartbeats 2000000 in
theorem treeOk_c (A:Option Addr) (c:Nat) (l:List Row) (w:World) (ht:Tab w) (hr:Rd w A c l) :
  Calls Tryz.prog 46 #[.slice A l.length c] w fun x w'=>x=.returned (.bool (treeOk l))∧Ext w w':=by
 have hm:l.length≤maxLen:=Nat.le_trans hr.1 hr.2.1
 unfold maxLen at hm
 have HR:=Lib.hid hr;have HT:=Lib.hid ht;clear hr ht
 go_enter Tryz.func46,Tryz.ntmps46
 go_wp2
 go_loopg [4,5,10] l.length (fun gk ro de i wr=>∃ (k:Nat) (R D:Int) (seen:List Int),k≤l.length∧Hid (gk=l.length - k)∧i=.int .i64 k∧ro=.int .i64 R∧de=.int .i64 D∧0≤R∧R≤k∧-1≤D∧D≤18 ∧
   Hid (treeOkF seen R D (l.drop k)=treeOk l)∧Hid (wr.rowIs w.heap.size 149 37 (tms seen))∧Hid (Below w.heap.size w wr))
 case atStart=>
  refine ⟨0,0,-1,[],Nat.zero_le _,rfl,rfl,rfl,rfl,by omega,by omega,by omega,by omega,rfl,?_,(Below.refl _ _).alloc (Nat.le_refl _) _⟩
  exact World.rowIs_alloc w _ _ (tms []) (fun i hi=>by
   have hi':i<37:=hi
   simp only [tms]
   exact (rep_at 37 (.int .i64 0) i hi').trans (by simp))
 case round=>
  obtain ⟨k,R,D,seen,hk,HK,rfl,rfl,rfl,hR0,hRk,hD0,hD1,HF,HW,HB⟩:=hrel
  have hmb:w.heap.size<wr.heap.size:=HW.out.lt
  have hw0:0<w.heap.size:=HT.out.pos
  by_cases hlt:k<l.length
  ·obtain ⟨b,off,rfl,hbl,c0,c1,c2⟩:=row_at (HR.out.ext HB.out) k hlt
   have HF1:Hid (treeOkF seen R D (l[k]::l.drop (k+1))=treeOk l):=by
    have:=HF.out
    rwa [List.drop_eq_getElem_cons hlt] at this
   clear HF
   have hO:=rowOk_c l[k].id l[k].depth l[k].text (wr.alloc (.cells #[.int .i64 l[k].id,.int .i64 l[k].depth,.string l[k].text] 46)) ((HT.out.below HB.out HT.out.pos).alloc _) (HR.out.okAt k hlt)
   cases hok:rowOk l[k]
   ·have HE:=Lib.hid (treeOkF_bad seen R D l[k] (l.drop (k+1)) (.inl hok))
    rw [show rowOk ⟨l[k].id,l[k].depth,l[k].text⟩=false from hok] at hO
    have HO:=Lib.hid hO;clear hO hok
    go_wp2_with (go_at_call 87;refine HO.out.mono ?_;rintro e w1 ⟨rfl,hb⟩;obtain ⟨hc1,hf1⟩:=bcell hb)
    go_ret
    exact ⟨by rw [←HF1.out,HE.out];rfl,ext_then HB.out (ext_box hb) HB.out.size⟩
   ·obtain ⟨hi1,hi2,hd1,hd2⟩:=rowOk_id hok
    rw [show rowOk ⟨l[k].id,l[k].depth,l[k].text⟩=true from hok] at hO
    have HO:=Lib.hid hO
    have hct:=HW.out.cell (i:=l[k].id.toNat) (by omega)
    have hft:=HW.out.frozen l[k].id.toNat
    have hcast:((l[k].id.toNat:Nat):Int)=l[k].id:=by omega
    simp only [tms] at hct
    rw [hcast] at hct
    clear hcast
    by_cases hs:l[k].id∈seen
    ·rw [if_pos hs] at hct
     have HE:=Lib.hid (treeOkF_bad seen R D l[k] (l.drop (k+1)) (.inr (.inl hs)))
     clear hO hok hs
     go_wp2_with (go_at_call 87;refine HO.out.mono ?_;rintro e w1 ⟨rfl,hb⟩;obtain ⟨hc1,hf1⟩:=bcell hb)
     go_ret
     exact ⟨by rw [←HF1.out,HE.out];rfl,ext_then HB.out (ext_box hb) HB.out.size⟩
    ·rw [if_neg hs] at hct
     by_cases hd:l[k].depth≤D+1
     ·have hri:=fun (W:World) (h:Tab W)=>isRoot_c l[k].id W h
      cases hroot:isRoot l[k].id
      ·rw [hroot] at hri
       have HE:=Lib.hid (treeOkF_made seen R D l[k] (l.drop (k+1)) hok hs hd hroot)
       have HRI:=Lib.hid hri
       clear hO hok hs hri hroot
       go_wp2_with (go_at_call 87;refine HO.out.mono ?_;rintro e w1 ⟨rfl,hb⟩;obtain ⟨hc1,hf1⟩:=bcell hb;have HT1:=Lib.hid ((HT.out.below HB.out HT.out.pos).below (ext_box hb) (by omega)))
       refine (HRI.out _ ?_).mono ?_
       ·exact Tab.setCell HT1.out (by simp;omega) _
       rintro e w2 ⟨rfl,rfl⟩
       go_wp2
       go_roundg (l.length - (k+1))
       case measure=>have:=HK.out;omega
       case rel=>
        refine ⟨k+1,R,l[k].depth,l[k].id::seen,by omega,rfl,by go_num,rfl,rfl,hR0,by omega,by omega,by omega,by rw [←HE.out];exact HF1.out,?_,?_⟩
        ·exact tms_set (rowIs_below HW.out (ext_box hb)) hi1
        ·exact (ext_then HB.out (ext_box hb) HB.out.size).setCell (Nat.le_refl _) _
      ·rw [hroot] at hri
       by_cases hq:l[k].id=R+1
       ·have HE:=Lib.hid (treeOkF_root seen R D l[k] (l.drop (k+1)) hok hs hd hroot hq)
        have HRI:=Lib.hid hri
        have HQ:=Lib.hid hq
        have hb1:(l[k].id != R+1)=false:=by simp [hq]
        have hR1:R<1000:=by rw [isRoot_iff] at hroot;omega
        clear hO hok hs hri hroot hq
        go_wp2_with (go_at_call 87;refine HO.out.mono ?_;rintro e w1 ⟨rfl,hb⟩;obtain ⟨hc1,hf1⟩:=bcell hb;have HT1:=Lib.hid ((HT.out.below HB.out HT.out.pos).below (ext_box hb) (by omega)))
        refine (HRI.out _ ?_).mono ?_
        ·exact Tab.setCell HT1.out (by simp;omega) _
        rintro e w2 ⟨rfl,rfl⟩
        go_wp2
        go_roundg (l.length - (k+1))
        case measure=>have:=HK.out;omega
        case rel=>
         refine ⟨k+1,R+1,l[k].depth,l[k].id::seen,by omega,rfl,by go_num,rfl,rfl,by omega,by omega,by omega,by omega,by rw [←HE.out];exact HF1.out,?_,?_⟩
         ·exact tms_set (rowIs_below HW.out (ext_box hb)) hi1
         ·exact (ext_then HB.out (ext_box hb) HB.out.size).setCell (Nat.le_refl _) _
       ·have HE:=Lib.hid (treeOkF_bad seen R D l[k] (l.drop (k+1)) (.inr (.inr (.inr ⟨hroot,hq⟩))))
        have HRI:=Lib.hid hri
        have hb1:(l[k].id != R+1)=true:=by simp [hq]
        clear hO hok hs hri hroot hq
        go_wp2_with (go_at_call 87;refine HO.out.mono ?_;rintro e w1 ⟨rfl,hb⟩;obtain ⟨hc1,hf1⟩:=bcell hb;have HT1:=Lib.hid ((HT.out.below HB.out HT.out.pos).below (ext_box hb) (by omega)))
        refine (HRI.out _ ?_).mono ?_
        ·exact Tab.setCell HT1.out (by simp;omega) _
        rintro e w2 ⟨rfl,rfl⟩
        go_wp2
        go_ret
        exact ⟨by rw [←HF1.out,HE.out];rfl,(ext_then HB.out (ext_box hb) HB.out.size).setCell (Nat.le_refl _) _⟩
     ·have HE:=Lib.hid (treeOkF_bad seen R D l[k] (l.drop (k+1)) (.inr (.inr (.inl (by omega)))))
      have hd':D+1<l[k].depth:=by omega
      clear hO hok hs hd
      go_wp2_with (go_at_call 87;refine HO.out.mono ?_;rintro e w1 ⟨rfl,hb⟩;obtain ⟨hc1,hf1⟩:=bcell hb)
      go_ret
      exact ⟨by rw [←HF1.out,HE.out];rfl,ext_then HB.out (ext_box hb) HB.out.size⟩
  ·have hkl:k=l.length:=by omega
   have HV:Hid (decide (R=3)=treeOk l):=by
    have:=HF.out
    rw [List.drop_of_length_le (by omega)] at this
    simp only [treeOkF] at this
    exact this
   clear HF
   go_wp2
   go_ret
   refine ⟨?_,HB.out⟩
   rw [←HV.out,←beq_dec];rfl
end Go.Proofs.YtecmcjfdaipfcaaGreatDoor
