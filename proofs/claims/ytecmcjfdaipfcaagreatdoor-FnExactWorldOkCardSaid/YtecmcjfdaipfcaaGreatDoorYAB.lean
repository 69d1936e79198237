/- Outlines as lists: where a row stands, what stands under it, what a change makes of the list; and that the tree's turns are the list's. Plain Lean. .. Valid trees: they are the valid lists, and a valid change leaves them so. Plain Lean. -/
import Derived.Test.YtecmcjfdaipfcaaGreatDoorYAA
namespace Go.Proofs.YtecmcjfdaipfcaaGreatDoor
set_option linter.unusedVariables false
def idx (t:List Row) (id:Int):Option Nat:=t.findIdx? (fun r=>r.id == id)
def depAt (t:List Row) (k:Nat):Int:=(t.getD k default).depth
def below (t:List Row) (k:Nat):List Row:=(t.drop (k+1)).takeWhile (fun r=>decide (depAt t k<r.depth))
def endOf (t:List Row) (k:Nat):Nat:=k+1+(below t k).length
def kidsOf (t:List Row) (id:Int):List Int:=match idx t id with
 |none=>[]
 |some k=>((below t k).filter (fun r=>decide (r.depth=depAt t k+1))).map (·.id)
def underL (t:List Row) (id under:Int):Bool:=match idx t id,idx t under with
 |some a,some b=>decide (b≤a∧a<endOf t b)
 |_,_=>false
def whereL (t:List Row) (o:Op):Option (Int × Int):=
 if o.kind=2∨(idx t o.id).isSome≠decide (o.kind=3)∨((idx t o.id).isSome=true∧underL t o.up o.id=true) then none
 else if (idx t o.up).isNone=true then some (3,0)
 else some (o.up,if o.pos∈kidsOf t o.up∧o.pos≠o.id then o.pos else 0)
def putL (t rs:List Row) (up pos:Int):List Row:=
 let k:=(idx t up).getD 0
 let deep:=depAt t k+1 - depAt rs 0
 let place:=if 0<pos then endOf t ((idx t pos).getD 0) else k+1
 t.take place++rs.map (fun r=>{ r with depth:=r.depth+deep })++t.drop place
def doL (t:List Row) (o:Op):List Row:=
 if o.kind=2 then
  match idx t o.id with
  |some k=>t.set k { t.getD k default with text:=o.text }
  |none=>t
 else match whereL t o with
  |none=>t
  |some (up,pos)=>
   if o.kind=1 then putL t [⟨o.id,0,o.text⟩] up pos
   else
    let k:=(idx t o.id).getD 0
    putL (t.take k++t.drop (endOf t k)) ((t.drop k).take (endOf t k - k)) up pos
/-! ### lists -/
theorem idx_split (pre:List Row) (m k:Int) (x:ByteArray) (Z:List Row) (h:∀ r∈pre,r.id≠m):idx (pre++⟨m,k,x⟩::Z) m=some pre.length:=by
 unfold idx
 rw [List.findIdx?_append]
 have:pre.findIdx? (fun r=>r.id == m)=none:=by rw [List.findIdx?_eq_none_iff];intro r hr;simp [h r hr]
 rw [this,List.findIdx?_cons];simp
theorem idx_none (t:List Row) (m:Int):idx t m=none↔m∉t.map (·.id):=by
 unfold idx
 rw [List.findIdx?_eq_none_iff]
 simp only [List.mem_map,not_exists,not_and]
 exact ⟨fun h r hr e=>by have:=h r hr;simp [e] at this,fun h r hr=>by simp [h r hr]⟩
theorem idx_some (t:List Row) (m:Int):(idx t m).isSome=true↔m∈t.map (·.id):=by
 have:=idx_none t m
 cases h:idx t m with
 |none=>rw [h] at this;simp [this.1 rfl]
 |some k=>rw [h] at this;simp at this;simpa using this
theorem depAt_mid (pre:List Row) (r:Row) (Z:List Row):depAt (pre++r::Z) pre.length=r.depth:=by simp [depAt]
theorem below_split (pre:List Row) (r:Row) (A R:List Row) (hA:∀ a∈A,r.depth<a.depth) (hR:∀ q,R.head?=some q→q.depth≤r.depth):below (pre++r::(A++R)) pre.length=A:=by
 unfold below
 rw [depAt_mid]
 have h1:(pre++r::(A++R)).drop (pre.length+1)=A++R:=by
  rw [List.drop_append,List.drop_eq_nil_of_le (by omega)];simp
 rw [h1,List.takeWhile_append_of_pos (by intro a ha;simpa using hA a ha)]
 cases R with
 |nil=>simp
 |cons q R=>have:=hR q rfl;rw [List.takeWhile_cons_of_neg (by simp;omega)];simp
theorem end_split (pre:List Row) (r:Row) (A R:List Row) (hA:∀ a∈A,r.depth<a.depth) (hR:∀ q,R.head?=some q→q.depth≤r.depth):endOf (pre++r::(A++R)) pre.length=pre.length+1+A.length:=by
 unfold endOf;rw [below_split pre r A R hA hR]
theorem idx_part (pre B R:List Row) (a:Int) (nd:((pre++(B++R)).map (·.id)).Nodup) (i:Nat) (h:idx (pre++(B++R)) a=some i):(pre.length≤i∧i<pre.length+B.length)↔a∈B.map (·.id):=by
 unfold idx at h
 rw [List.findIdx?_eq_some_iff_getElem] at h
 obtain ⟨hi,h1,_⟩:=h
 have h1':(pre++(B++R))[i].id=a:=by simpa using h1
 constructor
 ·rintro ⟨h2,h3⟩
  rw [List.getElem_append_right h2,List.getElem_append_left (by omega)] at h1'
  rw [←h1']
  exact List.mem_map.2 ⟨_,List.getElem_mem _,rfl⟩
 ·intro hB
  simp only [List.map_append,List.nodup_append,List.mem_append] at nd
  obtain ⟨_,⟨_,_,hBR⟩,hpre⟩:=nd
  rcases Nat.lt_or_ge i pre.length with hl | hl
  ·rw [List.getElem_append_left hl] at h1'
   exact absurd rfl (hpre a (List.mem_map.2 ⟨_,List.getElem_mem hl,h1'⟩) a (.inl hB))
  ·refine ⟨hl,?_⟩
   rcases Nat.lt_or_ge i (pre.length+B.length) with hl2 | hl2
   ·exact hl2
   ·rw [List.getElem_append_right hl,List.getElem_append_right (by omega)] at h1'
    exact absurd rfl (hBR a hB a (List.mem_map.2 ⟨_,List.getElem_mem _,h1'⟩))
namespace T
theorem rows_shift (d e:Int) (t:T):(rows d t).map (fun r=>{ r with depth:=r.depth+e })=rows (d+e) t:=by
 induction t generalizing d with
 |nil=>rfl
 |node id tx f n ihf ihn=>simp [rows,ihf,ihn];rw [show d+1+e=d+e+1 from by omega]
theorem kids_rows (d:Int) (t:T):((rows d t).filter (fun r=>decide (r.depth=d))).map (·.id)=chain t:=by
 induction t with
 |nil=>rfl
 |node id tx f n ihf ihn=>
  have h0:(rows (d+1) f).filter (fun r=>decide (r.depth=d))=[]:=by
   rw [List.filter_eq_nil_iff]
   intro r hr
   have:=rows_depth (d+1) f r hr
   simp;omega
  simp [rows,chain,List.filter_append,h0,ihn]
theorem chain_sub (t:T):∀ a∈chain t,a∈ids t:=by
 induction t with
 |nil=>simp [chain]
 |node id tx f n ihf ihn=>
  intro a ha
  simp only [chain,List.mem_cons] at ha
  simp only [ids,List.mem_cons,List.mem_append]
  rcases ha with h | h
  ·exact .inl h
  ·exact .inr (.inr (ihn a h))
theorem get_sub (m:Int) (t:T) (x:ByteArray) (f:T) (h:get m t=some (x,f)):m∈ids t∧∀ a∈ids f,a∈ids t:=by
 induction t with
 |nil=>simp [get] at h
 |node i y g n ihf ihn=>
  simp only [get] at h
  simp only [ids,List.mem_cons,List.mem_append]
  split at h
  ·rename_i he
   simp only [Option.some.injEq,Prod.mk.injEq] at h
   exact ⟨.inl he.symm,fun a ha=>.inr (.inl (by rw [h.2];exact ha))⟩
  ·rw [Option.or_eq_some_iff] at h
   rcases h with h | ⟨_,h⟩
   ·obtain ⟨h1,h2⟩:=ihf h
    exact ⟨.inr (.inl h1),fun a ha=>.inr (.inl (h2 a ha))⟩
   ·obtain ⟨h1,h2⟩:=ihn h
    exact ⟨.inr (.inr h1),fun a ha=>.inr (.inr (h2 a ha))⟩
theorem get_some (m:Int) (t:T) (h:m∈ids t):∃ x f,get m t=some (x,f):=by
 induction t with
 |nil=>simp [ids] at h
 |node i y g n ihf ihn=>
  simp only [ids,List.mem_cons,List.mem_append] at h
  simp only [get]
  by_cases he:i=m
  ·rw [if_pos he];exact ⟨_,_,rfl⟩
  ·rw [if_neg he]
   cases hg:get m g with
   |some p=>exact ⟨p.1,p.2,rfl⟩
   |none=>
    rcases h with h | h | h
    ·exact absurd h.symm he
    ·obtain ⟨x,f,h1⟩:=ihf h;rw [hg] at h1;cases h1
    ·exact ihn h
theorem up_chain (t:T) (nd:(ids t).Nodup) (u:Int) (y:ByteArray) (g:T) (hg:get u t=some (y,g)) (a:Int) (ha:a∈chain g) (up:Option Int):upOf a up t=some (some u):=by
 induction t generalizing up with
 |nil=>simp [get] at hg
 |node i x f n ihf ihn=>
  simp only [ids,List.nodup_cons,List.nodup_append,List.mem_append,not_or] at nd
  obtain ⟨⟨h1,h2⟩,ndf,ndn,hd⟩:=nd
  simp only [get] at hg
  split at hg
  ·rename_i he
   simp only [Option.some.injEq,Prod.mk.injEq] at hg
   obtain ⟨_,rfl⟩:=hg
   have hia:i≠a:=fun e=>h1 (by rw [e];exact chain_sub _ a ha)
   have:∀ (s:T) (v:Option Int),(ids s).Nodup→a∈chain s→upOf a v s=some v:=by
    intro s
    induction s with
    |nil=>intro v _ h;simp [chain] at h
    |node j z p q _ ihq=>
     intro v ndq h
     simp only [chain,List.mem_cons] at h
     simp only [ids,List.nodup_cons,List.nodup_append,List.mem_append,not_or] at ndq
     simp only [upOf]
     by_cases hj:j=a
     ·rw [if_pos hj]
     ·rw [if_neg hj]
      have haq:a∈chain q:=by
       rcases h with h | h
       ·exact absurd h.symm hj
       ·exact h
      rw [upOf_not a _ p (fun hp=>ndq.2.2.2 a hp a (chain_sub q a haq) rfl)]
      simpa using ihq v ndq.2.2.1 haq
   simp only [upOf]
   rw [if_neg hia,this f _ ndf ha,he];rfl
  ·rename_i he
   rw [Option.or_eq_some_iff] at hg
   rcases hg with hg | ⟨_,hg⟩
   ·obtain ⟨_,hsub⟩:=get_sub u f y g hg
    have haf:a∈ids f:=hsub a (chain_sub g a ha)
    simp only [upOf]
    rw [if_neg (fun e=>h1 (by rw [e];exact haf)),ihf ndf hg];rfl
   ·obtain ⟨_,hsub⟩:=get_sub u n y g hg
    have han:a∈ids n:=hsub a (chain_sub g a ha)
    simp only [upOf]
    rw [if_neg (fun e=>h2 (by rw [e];exact han)),upOf_not a _ f (fun hf=>hd a hf a han rfl),ihn ndn hg];rfl
theorem up_get (t:T) (nd:(ids t).Nodup) (a u:Int) (up:Option Int) (h:upOf a up t=some (some u)):(a∈chain t∧up=some u)∨∃ y g,get u t=some (y,g)∧a∈chain g:=by
 induction t generalizing up with
 |nil=>simp [upOf] at h
 |node i x f n ihf ihn=>
  simp only [ids,List.nodup_cons,List.nodup_append,List.mem_append,not_or] at nd
  obtain ⟨⟨h1,h2⟩,ndf,ndn,hd⟩:=nd
  simp only [upOf] at h
  split at h
  ·rename_i he
   exact .inl ⟨by simp [chain,he],by simpa using h⟩
  ·rename_i he
   rw [Option.or_eq_some_iff] at h
   rcases h with h | ⟨_,h⟩
   ·rcases ihf ndf _ h with ⟨hc,hu⟩ | ⟨y,g,hg,hc⟩
    ·have:i=u:=by simpa using hu
     subst this
     exact .inr ⟨x,f,by simp [get],hc⟩
    ·refine .inr ⟨y,g,?_,hc⟩
     have hu:=(get_sub u f y g hg).1
     simp only [get]
     rw [if_neg (fun e=>h1 (by rw [e];exact hu)),hg];rfl
   ·rcases ihn ndn _ h with ⟨hc,hu⟩ | ⟨y,g,hg,hc⟩
    ·exact .inl ⟨by simp [chain,hc],hu⟩
    ·refine .inr ⟨y,g,?_,hc⟩
     have hu:=(get_sub u n y g hg).1
     simp only [get]
     rw [if_neg (fun e=>h2 (by rw [e];exact hu)),get_not u f (fun hf=>hd u hf u hu rfl),hg];rfl
theorem get_get (t:T) (nd:(ids t).Nodup) (m u:Int) (x y:ByteArray) (f g:T) (hm:get m t=some (x,f)) (hu:get u t=some (y,g)) (h:u∈ids f):get u f=some (y,g):=by
 induction t with
 |nil=>simp [get] at hm
 |node i z p n ihf ihn=>
  simp only [ids,List.nodup_cons,List.nodup_append,List.mem_append,not_or] at nd
  obtain ⟨⟨h1,h2⟩,ndf,ndn,hd⟩:=nd
  simp only [get] at hm hu
  split at hm
  ·simp only [Option.some.injEq,Prod.mk.injEq] at hm
   obtain ⟨_,rfl⟩:=hm
   rw [if_neg (fun e=>h1 (by rw [e];exact h)),Option.or_eq_some_iff] at hu
   rcases hu with hu | ⟨_,hu⟩
   ·exact hu
   ·exact absurd rfl (hd u h u (get_sub u n y g hu).1)
  ·rw [Option.or_eq_some_iff] at hm
   rcases hm with hm | ⟨_,hm⟩
   ·have hup:=(get_sub m p x f hm).2 u h
    rw [if_neg (fun e=>h1 (by rw [e];exact hup)),Option.or_eq_some_iff] at hu
    rcases hu with hu | ⟨_,hu⟩
    ·exact ihf ndf hm hu
    ·exact absurd rfl (hd u hup u (get_sub u n y g hu).1)
   ·have hun:=(get_sub m n x f hm).2 u h
    rw [if_neg (fun e=>h2 (by rw [e];exact hun)),Option.or_eq_some_iff] at hu
    rcases hu with hu | ⟨_,hu⟩
    ·exact absurd rfl (hd u (get_sub u p y g hu).1 u hun)
    ·exact ihn ndn hm hu
theorem under_in (t:T) (nd:(ids t).Nodup) (m:Int) (x:ByteArray) (f:T) (hm:get m t=some (x,f)) (c:Int) (h:c∈ids f):∃ q,upOf c none t=some (some q)∧(q=m∨q∈ids f):=by
 have key:∀ (s:T) (v:Int),(ids s).Nodup→c∈ids s→∃ q,upOf c (some v) s=some (some q)∧(q=v∨q∈ids s):=by
  intro s
  induction s with
  |nil=>intro v _ h;simp [ids] at h
  |node j z a b iha ihb=>
   intro v nds h
   simp only [ids,List.nodup_cons,List.nodup_append,List.mem_append,not_or] at nds
   simp only [ids,List.mem_cons,List.mem_append] at h
   simp only [upOf]
   by_cases hj:j=c
   ·rw [if_pos hj];exact ⟨v,rfl,.inl rfl⟩
   ·rw [if_neg hj]
    rcases h with h | h | h
    ·exact absurd h.symm hj
    ·obtain ⟨q,h1,h2⟩:=iha j nds.2.1 h
     refine ⟨q,by rw [h1];rfl,.inr ?_⟩
     simp only [ids,List.mem_cons,List.mem_append]
     rcases h2 with h2 | h2
     ·exact .inl h2
     ·exact .inr (.inl h2)
    ·obtain ⟨q,h1,h2⟩:=ihb v nds.2.2.1 h
     refine ⟨q,by rw [upOf_not c _ a (fun ha=>nds.2.2.2 c ha c h rfl),h1];rfl,?_⟩
     rcases h2 with h2 | h2
     ·exact .inl h2
     ·exact .inr (by simp only [ids,List.mem_cons,List.mem_append];exact .inr (.inr h2))
 have lift:∀ (s:T) (v:Option Int),(ids s).Nodup→get m s=some (x,f)→upOf c v s=upOf c (some m) f:=by
  intro s
  induction s with
  |nil=>intro v _ h;simp [get] at h
  |node j z a b iha ihb=>
   intro v nds hms
   simp only [ids,List.nodup_cons,List.nodup_append,List.mem_append,not_or] at nds
   simp only [get] at hms
   simp only [upOf]
   split at hms
   ·rename_i hj
    simp only [Option.some.injEq,Prod.mk.injEq] at hms
    obtain ⟨_,rfl⟩:=hms
    rw [if_neg (fun e=>nds.1.1 (by rw [e];exact h)),hj,upOf_not c _ b (fun hb=>nds.2.2.2 c h c hb rfl)]
    cases upOf c (some m) a <;> rfl
   ·rw [Option.or_eq_some_iff] at hms
    rcases hms with hms | ⟨_,hms⟩
    ·have hca:=(get_sub m a x f hms).2 c h
     rw [if_neg (fun e=>nds.1.1 (by rw [e];exact hca)),iha _ nds.2.1 hms,upOf_not c _ b (fun hb=>nds.2.2.2 c hca c hb rfl)]
     cases upOf c (some m) f <;> rfl
    ·have hcb:=(get_sub m b x f hms).2 c h
     rw [if_neg (fun e=>nds.1.2 (by rw [e];exact hcb)),upOf_not c _ a (fun ha=>nds.2.2.2 c ha c hcb rfl),ihb _ nds.2.2.1 hms];rfl
 have ndf:(ids f).Nodup:=by
  have:∀ (s:T),(ids s).Nodup→get m s=some (x,f)→(ids f).Nodup:=by
   intro s
   induction s with
   |nil=>intro _ h;simp [get] at h
   |node j z a b iha ihb=>
    intro nds hms
    simp only [ids,List.nodup_cons,List.nodup_append,List.mem_append,not_or] at nds
    simp only [get] at hms
    split at hms
    ·simp only [Option.some.injEq,Prod.mk.injEq] at hms
     rw [←hms.2];exact nds.2.1
    ·rw [Option.or_eq_some_iff] at hms
     rcases hms with hms | ⟨_,hms⟩
     ·exact iha nds.2.1 hms
     ·exact ihb nds.2.2.1 hms
  exact this t nd hm
 obtain ⟨q,h1,h2⟩:=key f m ndf h
 exact ⟨q,(lift t none nd hm).trans h1,h2⟩
theorem under_step (t:T) (nd:(ids t).Nodup) (m:Int) (x:ByteArray) (f:T) (hm:get m t=some (x,f)) (c p:Int) (hp:upOf c none t=some (some p)):c∈ids f↔(p=m∨p∈ids f):=by
 have hpg:∃ y g,get p t=some (y,g)∧c∈chain g:=by
  rcases up_get t nd c p none hp with ⟨_,h⟩ | h
  ·cases h
  ·exact h
 obtain ⟨y,g,hg,hc⟩:=hpg
 constructor
 ·intro h
  obtain ⟨q,h1,h2⟩:=under_in t nd m x f hm c h
  rw [hp] at h1
  injection h1 with h1;injection h1 with h1
  rw [h1];exact h2
 ·rintro (h | h)
  ·subst h
   rw [hm] at hg
   injection hg with hg;injection hg with _ hg
   rw [hg];exact chain_sub g c hc
  ·have:=get_get t nd m p x y f g hm hg h
   exact (get_sub p f y g this).2 c (chain_sub g c hc)
end T
namespace T
def near (t:T) (id up pos:Int):Int × Int:=
 if up∈ids t then (up,if upOf pos none t=some (some up)∧pos≠id then pos else 0) else (3,0)
def put (t:T) (id:Int) (tx:ByteArray) (s:T) (p:Int × Int):T:=if 0<p.2 then insN p.2 id tx s t else insF p.1 id tx s t
def doT (t:T) (o:Op):T:=
 if o.kind=2 then setT o.id o.text t
 else if o.kind=1 then (if o.id∈ids t then t else put t o.id o.text nil (near t o.id o.up o.pos))
 else if o.kind=3 then
  match get o.id t with
  |none=>t
  |some (x,f)=>if o.up=o.id∨o.up∈ids f then t else put (cut o.id t) o.id x f (near t o.id o.up o.pos)
 else t
theorem rows_nodup (d:Int) (t:T) (nd:(ids t).Nodup):((rows d t).map (·.id)).Nodup:=by rw [rows_ids];exact nd
theorem mem_ids (d:Int) (t:T) (a:Int):a∈ids t↔∃ r∈rows d t,r.id=a:=by rw [←rows_ids d t,List.mem_map]
theorem row_one (d:Int) (t:T) (nd:(ids t).Nodup) (a b:Row) (ha:a∈rows d t) (hb:b∈rows d t) (h:a.id=b.id):a=b:=by
 have h1:=rows_nodup d t nd
 generalize rows d t=l at *
 induction l with
 |nil=>cases ha
 |cons c l ih=>
  simp only [List.map_cons,List.nodup_cons] at h1
  rw [List.mem_cons] at ha hb
  by_cases h2:a=c
  ·by_cases h3:b=c
   ·rw [h2,h3]
   ·have hb':b∈l:=hb.resolve_left h3
    exact absurd (List.mem_map.2 ⟨b,hb',by rw [←h,h2]⟩) h1.1
  ·have ha':a∈l:=ha.resolve_left h2
   by_cases h3:b=c
   ·exact absurd (List.mem_map.2 ⟨a,ha',by rw [h,h3]⟩) h1.1
   ·exact ih ha' (hb.resolve_left h3) h1.2
section
variable {t:T} {m k:Int} {pre post:List Row} {x:ByteArray} {f n:T}
theorem Split.pre_ne (s:Split 0 t m pre k x f n post) (nd:(ids t).Nodup):∀ r∈pre,r.id≠m:=by
 intro r hr e
 have h1:=rows_nodup 0 t nd
 rw [s.all] at h1
 simp only [List.map_append,List.map_cons,List.nodup_append] at h1
 exact h1.2.2 m (List.mem_map.2 ⟨r,hr,e⟩) m (List.mem_cons_self) rfl
theorem Split.idx (s:Split 0 t m pre k x f n post) (nd:(ids t).Nodup):Proofs.YtecmcjfdaipfcaaGreatDoor.idx (rows 0 t) m=some pre.length:=by
 rw [s.all];exact idx_split pre m k x _ (s.pre_ne nd)
theorem Split.headR (s:Split 0 t m pre k x f n post):∀ q,(rows k n++post).head?=some q→q.depth≤k:=by
 intro q hq
 rw [List.head?_append] at hq
 cases h:(rows k n).head? with
 |some r=>rw [h] at hq;simp at hq;rw [←hq,rows_head k n r h];exact Int.le_refl _
 |none=>rw [h] at hq;have:=s.ends q (by simpa using hq);omega
theorem Split.depA (s:Split 0 t m pre k x f n post):∀ a∈rows (k+1) f,(⟨m,k,x⟩:Row).depth<a.depth:=by
 intro a ha;have:=rows_depth (k+1) f a ha;show k<a.depth;omega
theorem Split.below (s:Split 0 t m pre k x f n post):Proofs.YtecmcjfdaipfcaaGreatDoor.below (rows 0 t) pre.length=rows (k+1) f:=by
 rw [s.all];exact below_split pre ⟨m,k,x⟩ _ _ s.depA s.headR
theorem Split.endOf (s:Split 0 t m pre k x f n post):Proofs.YtecmcjfdaipfcaaGreatDoor.endOf (rows 0 t) pre.length=pre.length+1+(rows (k+1) f).length:=by
 rw [s.all];exact end_split pre ⟨m,k,x⟩ _ _ s.depA s.headR
theorem Split.depAt (s:Split 0 t m pre k x f n post):Proofs.YtecmcjfdaipfcaaGreatDoor.depAt (rows 0 t) pre.length=k:=by rw [s.all,depAt_mid]
theorem Split.kids (s:Split 0 t m pre k x f n post) (nd:(ids t).Nodup):kidsOf (rows 0 t) m=chain f:=by
 unfold kidsOf
 rw [s.idx nd]
 simp only
 rw [s.below,s.depAt,kids_rows]
theorem Split.under (s:Split 0 t m pre k x f n post) (nd:(ids t).Nodup) (a:Int):underL (rows 0 t) a m=true↔a=m∨a∈ids f:=by
 unfold underL
 rw [s.idx nd]
 have hall:rows 0 t=pre++((⟨m,k,x⟩::rows (k+1) f)++(rows k n++post)):=by rw [s.all];simp
 cases hi:Proofs.YtecmcjfdaipfcaaGreatDoor.idx (rows 0 t) a with
 |none=>
  rw [idx_none,rows_ids] at hi
  simp only [Bool.false_eq_true,false_iff,not_or]
  refine ⟨fun e=>hi (by rw [e];exact (get_sub m t x f s.got).1),fun h=>hi ((get_sub m t x f s.got).2 a h)⟩
 |some i=>
  simp only [decide_eq_true_eq]
  rw [s.endOf]
  have h1:=rows_nodup 0 t nd
  rw [hall] at hi h1
  have:=idx_part pre _ _ a h1 i hi
  simp only [List.length_cons,List.map_cons,rows_ids,List.mem_cons] at this
  rw [←this]
  omega
end
theorem whereL_near (t:T) (nd:(ids t).Nodup) (o:Op):whereL (rows 0 t) o=if o.kind=2∨decide (o.id∈ids t)≠decide (o.kind=3)∨(decide (o.id∈ids t)=true∧underL (rows 0 t) o.up o.id=true) then none else some (near t o.id o.up o.pos):=by
 have hn:(if (Proofs.YtecmcjfdaipfcaaGreatDoor.idx (rows 0 t) o.up).isNone=true then some ((3:Int),(0:Int)) else some (o.up,if o.pos∈kidsOf (rows 0 t) o.up∧o.pos≠o.id then o.pos else 0))=some (near t o.id o.up o.pos):=by
  unfold near
  by_cases hu:o.up∈ids t
  ·obtain ⟨pre,k,x,f,n,post,s⟩:=split o.up t hu nd 0
   rw [if_pos hu,s.idx nd,if_neg (by simp),s.kids nd]
   have:o.pos∈chain f↔upOf o.pos none t=some (some o.up):=by
    constructor
    ·intro h;exact up_chain t nd o.up x f s.got o.pos h none
    ·intro h
     rcases up_get t nd o.pos o.up none h with ⟨_,h⟩ | ⟨y,g,hg,hc⟩
     ·cases h
     ·rw [s.got] at hg;injection hg with hg;injection hg with _ hg;rw [hg];exact hc
   simp only [this]
  ·rw [if_neg hu]
   have:Proofs.YtecmcjfdaipfcaaGreatDoor.idx (rows 0 t) o.up=none:=by rw [idx_none,rows_ids];exact hu
   rw [this];rfl
 have hs:(Proofs.YtecmcjfdaipfcaaGreatDoor.idx (rows 0 t) o.id).isSome=decide (o.id∈ids t):=by
  rw [Bool.eq_iff_iff,idx_some,rows_ids];simp
 unfold whereL
 rw [hn,hs]
theorem whereL_make (t:T) (nd:(ids t).Nodup) (o:Op) (hk:o.kind=1):whereL (rows 0 t) o=if o.id∈ids t then none else some (near t o.id o.up o.pos):=by
 rw [whereL_near t nd]
 by_cases hi:o.id∈ids t
 ·rw [if_pos hi,if_pos (by simp [hk,hi])]
 ·rw [if_neg hi,if_neg (by simp [hk,hi])]
theorem whereL_move (t:T) (nd:(ids t).Nodup) (o:Op) (hk:o.kind=3) (x:ByteArray) (f:T) (hg:get o.id t=some (x,f)):whereL (rows 0 t) o=if o.up=o.id∨o.up∈ids f then none else some (near t o.id o.up o.pos):=by
 have hi:=(get_sub o.id t x f hg).1
 obtain ⟨pre,k,x',f',n,post,s⟩:=split o.id t hi nd 0
 have hg':=s.got
 rw [hg] at hg'
 injection hg' with hg';injection hg' with _ hg';subst hg'
 have hu:=s.under nd o.up
 rw [whereL_near t nd]
 by_cases hq:o.up=o.id∨o.up∈ids f
 ·rw [if_pos hq,if_pos (.inr (.inr ⟨by simp [hi],hu.2 hq⟩))]
 ·rw [if_neg hq,if_neg]
  rintro (h | h | h)
  ·omega
  ·simp [hi,hk] at h
  ·exact hq (hu.1 h.2)
theorem whereL_gone (t:T) (nd:(ids t).Nodup) (o:Op) (hk:o.kind=3) (hi:o.id∉ids t):whereL (rows 0 t) o=none:=by
 rw [whereL_near t nd,if_pos (by simp [hi,hk])]
theorem putL_rows (t:T) (nd:(ids t).Nodup) (id:Int) (tx:ByteArray) (s:T) (k0:Int) (p:Int × Int) (hu:p.1∈ids t)
  (hp:0<p.2→p.2∈ids t∧∀ a∈rows 0 t,∀ b∈rows 0 t,a.id=p.1→b.id=p.2→b.depth=a.depth+1) :
  putL (rows 0 t) (⟨id,k0,tx⟩::rows (k0+1) s) p.1 p.2=rows 0 (put t id tx s p):=by
 obtain ⟨pre,k,x,f,n,post,sp⟩:=split p.1 t hu nd 0
 unfold putL put
 rw [sp.idx nd]
 simp only [Option.getD_some]
 rw [sp.depAt]
 have hd0:Proofs.YtecmcjfdaipfcaaGreatDoor.depAt (⟨id,k0,tx⟩::rows (k0+1) s) 0=k0:=by simp [Proofs.YtecmcjfdaipfcaaGreatDoor.depAt]
 rw [hd0]
 have hm:(⟨id,k0,tx⟩::rows (k0+1) s:List Row).map (fun r=>{ r with depth:=r.depth+(k+1 - k0) })=⟨id,k+1,tx⟩::rows (k+1+1) s:=by
  rw [List.map_cons,rows_shift]
  simp only
  rw [show k0+(k+1 - k0)=k+1 from by omega,show k0+1+(k+1 - k0)=k+1+1 from by omega]
 rw [hm]
 by_cases h0:0<p.2
 ·obtain ⟨ha,hdep⟩:=hp h0
  obtain ⟨pre2,k2,x2,f2,n2,post2,s2⟩:=split p.2 t ha nd 0
  rw [if_pos h0,if_pos h0,s2.idx nd]
  simp only [Option.getD_some]
  rw [s2.endOf,s2.insN]
  have hk:k2=k+1:=hdep ⟨p.1,k,x⟩ (by rw [sp.all];simp) ⟨p.2,k2,x2⟩ (by rw [s2.all];simp) rfl rfl
  subst hk
  have hl:rows 0 t=(pre2++⟨p.2,k+1,x2⟩::rows (k+1+1) f2)++(rows (k+1) n2++post2):=by rw [s2.all];simp
  have hlen:pre2.length+1+(rows (k+1+1) f2).length=(pre2++⟨p.2,k+1,x2⟩::rows (k+1+1) f2).length:=by simp;omega
  rw [hl,hlen,List.take_left,List.drop_left]
  simp [rows]
 ·rw [if_neg h0,if_neg h0,sp.insF]
  have hl:rows 0 t=(pre++[⟨p.1,k,x⟩])++(rows (k+1) f++(rows k n++post)):=by rw [sp.all];simp
  have hlen:pre.length+1=(pre++[(⟨p.1,k,x⟩:Row)]).length:=by simp
  rw [hl,hlen,List.take_left,List.drop_left]
  simp [rows]
theorem near_ok (t:T) (nd:(ids t).Nodup) (h3:3∈ids t) (id up pos:Int):(near t id up pos).1∈ids t∧(0<(near t id up pos).2→(near t id up pos).2=pos∧pos≠id∧upOf pos none t=some (some (near t id up pos).1)∧(near t id up pos).1=up):=by
 unfold near
 split
 ·refine ⟨by assumption,?_⟩
  simp only
  split
  ·rename_i h;exact fun _=>⟨rfl,h.2,h.1,trivial⟩
  ·intro h;omega
 ·exact ⟨h3,fun h=>by simp only at h;omega⟩
theorem up_mem (t:T) (nd:(ids t).Nodup) (a u:Int) (h:upOf a none t=some (some u)):a∈ids t:=by
 rcases Decidable.em (a∈ids t) with h1 | h1
 ·exact h1
 ·rw [upOf_not a none t h1] at h;cases h
theorem up_depth (t:T) (nd:(ids t).Nodup) (c u:Int) (h:upOf c none t=some (some u)):∀ a∈rows 0 t,∀ b∈rows 0 t,a.id=u→b.id=c→b.depth=a.depth+1:=by
 rcases up_get t nd c u none h with ⟨_,h⟩ | ⟨y,g,hg,hc⟩
 ·cases h
 intro a ha b hb ea eb
 obtain ⟨pre,k,x,f,n,post,s⟩:=split u t (get_sub u t y g hg).1 nd 0
 rw [s.got] at hg
 injection hg with hg;injection hg with _ hg;subst hg
 have h1:a=⟨u,k,x⟩:=row_one 0 t nd a _ ha (by rw [s.all];simp) ea
 rw [←kids_rows (k+1) f,List.mem_map] at hc
 obtain ⟨r,hr,er⟩:=hc
 rw [List.mem_filter] at hr
 have h2:b=r:=row_one 0 t nd b r hb (by rw [s.all];simp [hr.1]) (by rw [eb,er])
 rw [h2,h1]
 simpa using hr.2
theorem cut_facts (t:T) (nd:(ids t).Nodup) (m:Int) (x:ByteArray) (f:T) (hg:get m t=some (x,f)) :
  (ids (cut m t)).Nodup∧(∀ r∈rows 0 (cut m t),r∈rows 0 t)∧(∀ a,a∈ids t→a≠m→a∉ids f→a∈ids (cut m t))∧(∀ a∈ids (cut m t),a∈ids t∧a≠m∧a∉ids f):=by
 obtain ⟨pre,k,x',f',n,post,s⟩:=split m t (get_sub m t x f hg).1 nd 0
 have hg':=s.got
 rw [hg] at hg'
 injection hg' with hg';injection hg' with _ hg';subst hg'
 have hl:rows 0 t=pre++((⟨m,k,x'⟩::rows (k+1) f)++(rows k n++post)):=by rw [s.all];simp
 have h:=rows_nodup 0 t nd
 rw [hl] at h
 simp only [List.map_append,List.nodup_append,List.mem_append] at h
 refine ⟨?_,?_,?_,?_⟩
 ·rw [←rows_ids 0,s.cut]
  simp only [List.map_append,List.nodup_append,List.mem_append]
  exact ⟨h.1,h.2.1.2.1,fun a ha b hb=>h.2.2 a ha b (.inr hb)⟩
 ·intro r hr
  rw [s.cut] at hr
  rw [hl]
  simp only [List.mem_append] at hr ⊢
  rcases hr with hr | hr
  ·exact .inl hr
  ·exact .inr (.inr hr)
 ·intro a ha h4 h5
  obtain ⟨r,hr,e⟩:=(mem_ids 0 t a).1 ha
  refine (mem_ids 0 _ a).2 ⟨r,?_,e⟩
  rw [s.all] at hr
  rw [s.cut]
  simp only [List.mem_append,List.mem_cons] at hr ⊢
  rcases hr with h | h | h | h | h
  ·exact .inl h
  ·exact absurd (by rw [←e,h]) h4
  ·exact absurd ((mem_ids (k+1) f a).2 ⟨r,h,e⟩) h5
  ·exact .inr (.inl h)
  ·exact .inr (.inr h)
 ·intro a ha
  rw [←rows_ids 0,s.cut] at ha
  have hin:a∈ids t:=by
   rw [←rows_ids 0,hl]
   simp only [List.map_append,List.mem_append] at ha ⊢
   rcases ha with ha | ha
   ·exact .inl ha
   ·exact .inr (.inr ha)
  have hno:a∉(⟨m,k,x'⟩::rows (k+1) f:List Row).map (·.id):=by
   intro hb
   simp only [List.map_append,List.mem_append] at ha
   rcases ha with ha | ha
   ·exact h.2.2 a ha a (.inl hb) rfl
   ·exact h.2.1.2.2 a hb a (by simpa using ha) rfl
  rw [List.map_cons,rows_ids,List.mem_cons] at hno
  exact ⟨hin,fun e=>hno (.inl e),fun e=>hno (.inr e)⟩
theorem doL_rows (t:T) (nd:(ids t).Nodup) (h3:upOf 3 none t=some none) (h3':3∈ids t) (o:Op) (hk:o.kind=1∨o.kind=2∨o.kind=3) (hm3:o.id≠3):doL (rows 0 t) o=rows 0 (doT t o):=by
 have hn:=near_ok t nd h3' o.id o.up o.pos
 unfold doL doT
 by_cases h2:o.kind=2
 ·rw [if_pos h2,if_pos h2]
  by_cases hi:o.id∈ids t
  ·obtain ⟨pre,k,x,f,n,post,s⟩:=split o.id t hi nd 0
   rw [s.idx nd,s.setT]
   simp only
   rw [s.all]
   simp
  ·have:Proofs.YtecmcjfdaipfcaaGreatDoor.idx (rows 0 t) o.id=none:=by rw [idx_none,rows_ids];exact hi
   rw [this,setT_not o.id o.text t hi]
 ·rw [if_neg h2,if_neg h2]
  by_cases h1:o.kind=1
  ·rw [if_pos h1,whereL_make t nd o h1]
   by_cases hi:o.id∈ids t
   ·rw [if_pos hi,if_pos hi]
   ·rw [if_neg hi,if_neg hi]
    simp only
    rw [if_pos h1]
    have:=putL_rows t nd o.id o.text nil 0 (near t o.id o.up o.pos) hn.1 (fun h=>by
     obtain ⟨e,_,hu,_⟩:=hn.2 h
     rw [e]
     exact ⟨up_mem t nd _ _ hu,up_depth t nd _ _ hu⟩)
    simpa [rows] using this
  ·have hk3:o.kind=3:=by omega
   rw [if_neg h1,if_pos hk3]
   by_cases hi:o.id∈ids t
   ·obtain ⟨pre,k,x,f,n,post,s⟩:=split o.id t hi nd 0
    rw [whereL_move t nd o hk3 x f s.got,s.got]
    simp only
    by_cases hq:o.up=o.id∨o.up∈ids f
    ·rw [if_pos hq,if_pos hq]
    ·rw [if_neg hq,if_neg hq]
     simp only
     rw [if_neg h1,s.idx nd]
     simp only [Option.getD_some]
     rw [s.endOf]
     have hl:rows 0 t=(pre++(⟨o.id,k,x⟩::rows (k+1) f))++(rows k n++post):=by rw [s.all];simp
     have e1:pre.length+1+(rows (k+1) f).length=(pre++(⟨o.id,k,x⟩::rows (k+1) f)).length:=by simp;omega
     have htake:(rows 0 t).take pre.length=pre:=by rw [s.all,List.take_left]
     have hdrop:(rows 0 t).drop (pre.length+1+(rows (k+1) f).length)=rows k n++post:=by rw [e1,hl,List.drop_left]
     have hmid:((rows 0 t).drop pre.length).take (pre.length+1+(rows (k+1) f).length - pre.length)=⟨o.id,k,x⟩::rows (k+1) f:=by
      have e2:pre.length+1+(rows (k+1) f).length - pre.length=(⟨o.id,k,x⟩::rows (k+1) f:List Row).length:=by simp;omega
      rw [e2,s.all,List.drop_left]
      rw [show (⟨o.id,k,x⟩::(rows (k+1) f++(rows k n++post)):List Row)=(⟨o.id,k,x⟩::rows (k+1) f)++(rows k n++post) from by simp,List.take_left]
     rw [htake,hdrop,hmid,←s.cut]
     obtain ⟨hndc,hsub,hback,_⟩:=cut_facts t nd o.id x f s.got
     have h3f:3∉ids f:=by
      intro h
      obtain ⟨q,hq,_⟩:=under_in t nd o.id x f s.got 3 h
      rw [h3] at hq;cases hq
     refine putL_rows (cut o.id t) hndc o.id x f k (near t o.id o.up o.pos) ?_ ?_
     ·unfold near
      split
      ·rename_i hu
       exact hback o.up hu (fun e=>hq (.inl e)) (fun e=>hq (.inr e))
      ·exact hback 3 h3' (fun e=>hm3 e.symm) h3f
     ·intro h
      obtain ⟨e,hne,hu,hup⟩:=hn.2 h
      rw [hup] at hu ⊢
      rw [e]
      refine ⟨hback o.pos (up_mem t nd _ _ hu) hne (fun hf=>hq ((under_step t nd o.id x f s.got o.pos o.up hu).1 hf)),?_⟩
      exact fun a ha b hb ea eb=>up_depth t nd o.pos o.up hu a (hsub a ha) b (hsub b hb) ea eb
   ·rw [whereL_gone t nd o hk3 hi,get_not o.id t hi]
end T
namespace T
def Good:T→Prop
 |nil=>True
 |node id tx f n=>isMade id=true∧textOk tx=true∧Good f∧Good n
def Top (i:Int):T→Prop
 |nil=>True
 |node id tx f n=>id=i∧tx=⟨#[]⟩∧Good f∧Top (i+1) n
def Valid (t:T):Prop:=Top 1 t∧(chain t).length=3∧(ids t).Nodup
def spine:T→List Int
 |nil=>[]
 |node id _ f nil=>id::spine f
 |node _ _ _ (node a b c d)=>spine (node a b c d)
def snoc (id:Int) (tx:ByteArray):T→Nat→T
 |nil,_=>node id tx nil nil
 |node i x f nil,0=>node i x f (node id tx nil nil)
 |node i x f nil,d+1=>node i x (snoc id tx f d) nil
 |node i x f (node a b c e),d=>node i x f (snoc id tx (node a b c e) d)
def build (l:List Row):T:=l.foldl (fun t r=>snoc r.id r.text t r.depth.toNat) nil
theorem rows_snoc (id:Int) (tx:ByteArray) (t:T):∀ (d:Nat) (d0:Int),d≤(spine t).length→rows d0 (snoc id tx t d)=rows d0 t++[⟨id,d0+d,tx⟩]:=by
 induction t with
 |nil=>intro d d0 h;simp [spine] at h;subst h;simp [snoc,rows]
 |node i x f n ihf ihn=>
  intro d d0 h
  cases n with
  |nil=>
   cases d with
   |zero=>simp [snoc,rows]
   |succ d=>
    simp only [spine,List.length_cons] at h
    simp only [snoc,rows]
    rw [ihf d (d0+1) (by omega)]
    simp;omega
  |node a b c e=>
   simp only [spine] at h
   simp only [snoc]
   rw [rows,ihn d d0 h]
   simp [rows]
theorem snoc_node (id:Int) (tx:ByteArray) (t:T) (d:Nat):∃ a b c e,snoc id tx t d=node a b c e:=by
 cases t with
 |nil=>exact ⟨_,_,_,_,rfl⟩
 |node i x f n=>
  cases n with
  |nil=>
   cases d with
   |zero=>exact ⟨_,_,_,_,rfl⟩
   |succ d=>exact ⟨_,_,_,_,rfl⟩
  |node a b c e=>exact ⟨_,_,_,_,rfl⟩
theorem spine_snoc (id:Int) (tx:ByteArray) (t:T):∀ d:Nat,d≤(spine t).length→spine (snoc id tx t d)=(spine t).take d++[id]:=by
 induction t with
 |nil=>intro d h;simp [spine] at h;subst h;simp [snoc,spine]
 |node i x f n ihf ihn=>
  intro d h
  cases n with
  |nil=>
   cases d with
   |zero=>simp [snoc,spine]
   |succ d=>
    simp only [spine,List.length_cons] at h
    simp only [snoc,spine]
    rw [ihf d (by omega)]
    simp
  |node a b c e=>
   simp only [spine] at h
   simp only [snoc,spine]
   obtain ⟨a',b',c',e',he⟩:=snoc_node id tx (node a b c e) d
   rw [he]
   simp only [spine]
   rw [←he,ihn d h]
theorem good_snoc (id:Int) (tx:ByteArray) (h1:isMade id=true) (h2:textOk tx=true) (t:T):∀ d,Good t→Good (snoc id tx t d):=by
 induction t with
 |nil=>intro d _;exact ⟨h1,h2,trivial,trivial⟩
 |node i x f n ihf ihn=>
  intro d hg
  cases n with
  |nil=>
   cases d with
   |zero=>exact ⟨hg.1,hg.2.1,hg.2.2.1,h1,h2,trivial,trivial⟩
   |succ d=>exact ⟨hg.1,hg.2.1,ihf d hg.2.2.1,trivial⟩
  |node a b c e=>exact ⟨hg.1,hg.2.1,hg.2.2.1,ihn d hg.2.2.2⟩
theorem top_snoc_made (id:Int) (tx:ByteArray) (h1:isMade id=true) (h2:textOk tx=true) (t:T):∀ (d:Nat) (i:Int),t≠nil→0<d→Top i t→Top i (snoc id tx t d)∧(chain (snoc id tx t d)).length=(chain t).length:=by
 induction t with
 |nil=>intro d i h;exact absurd rfl h
 |node j x f n ihf ihn=>
  intro d i _ hd ht
  cases n with
  |nil=>
   cases d with
   |zero=>omega
   |succ d=>exact ⟨⟨ht.1,ht.2.1,good_snoc id tx h1 h2 f d ht.2.2.1,trivial⟩,rfl⟩
  |node a b c e=>
   obtain ⟨g1,g2⟩:=ihn d (i+1) (by simp) hd ht.2.2.2
   exact ⟨⟨ht.1,ht.2.1,ht.2.2.1,g1⟩,by simp only [snoc,chain,List.length_cons] at g2 ⊢;rw [g2]⟩
theorem top_snoc_root (t:T):∀ i:Int,Top i t→Top i (snoc (i+(chain t).length) ⟨#[]⟩ t 0)∧(chain (snoc (i+(chain t).length) ⟨#[]⟩ t 0)).length=(chain t).length+1:=by
 induction t with
 |nil=>intro i _;exact ⟨⟨by simp [chain],rfl,trivial,trivial⟩,rfl⟩
 |node j x f n ihf ihn=>
  intro i ht
  cases n with
  |nil=>exact ⟨⟨ht.1,ht.2.1,ht.2.2.1,by simp [chain],rfl,trivial,trivial⟩,rfl⟩
  |node a b c e=>
   have h:=ihn (i+1) ht.2.2.2
   have e1:i+((chain (node j x f (node a b c e))).length:Int)=i+1+((chain (node a b c e)).length:Int):=by simp [chain];omega
   rw [e1]
   exact ⟨⟨ht.1,ht.2.1,ht.2.2.1,h.1⟩,by have h2:=h.2;simp only [snoc,chain,List.length_cons] at h2 ⊢;rw [h2]⟩
structure Part (t:T) (seen:List Int) (roots depth:Int):Prop where
 top:Top 1 t
 num:roots=(chain t).length
 deep:depth+1=(spine t).length
 seen:∀ a,a∈seen↔a∈ids t
 nd:(ids t).Nodup
theorem ids_snoc (id:Int) (tx:ByteArray) (t:T) (d:Nat) (h:d≤(spine t).length):ids (snoc id tx t d)=ids t++[id]:=by
 rw [←rows_ids 0,rows_snoc id tx t d 0 h];simp [rows_ids]
theorem spine_nil (t:T) (h:(spine t).length=0):t=nil:=by
 induction t with
 |nil=>rfl
 |node i x f n ihf ihn=>
  cases n with
  |nil=>simp [spine] at h
  |node a b c e=>simp only [spine] at h;have:=ihn h;cases this
theorem part_step (t:T) (seen:List Int) (roots depth:Int) (p:Part t seen roots depth) (r:Row) (rest:List Row) (h:treeOkF seen roots depth (r::rest)=true) :
  0≤r.depth∧r.depth.toNat≤(spine t).length∧r.id∉ids t∧∃ roots',Part (snoc r.id r.text t r.depth.toNat) (r.id::seen) roots' r.depth∧treeOkF (r.id::seen) roots' r.depth rest=true:=by
 simp only [treeOkF,Bool.and_eq_true,decide_eq_true_eq,Bool.not_eq_true'] at h
 obtain ⟨⟨⟨hr,hs⟩,hd⟩,h⟩:=h
 have hns:r.id∉ids t:=fun hi=>by
  have:=(p.seen r.id).2 hi
  rw [List.contains_eq_mem] at hs
  simp [this] at hs
 have hdeep:=p.deep
 cases hroot:isRoot r.id with
 |true=>
  rw [hroot,if_pos rfl] at h
  simp only [Bool.and_eq_true,decide_eq_true_eq] at h
  simp only [rowOk,hroot,if_true,Bool.and_eq_true,decide_eq_true_eq] at hr
  have h0:r.depth.toNat=0:=by omega
  refine ⟨by omega,by omega,hns,roots+1,?_,h.2⟩
  have hid:r.id=1+(chain t).length:=by rw [h.1,p.num];omega
  have htop:=top_snoc_root t 1 p.top
  rw [h0,hr.2]
  rw [hid] at hns ⊢
  refine ⟨htop.1,by rw [htop.2,p.num];simp,?_,?_,?_⟩
  ·rw [spine_snoc _ _ t 0 (Nat.zero_le _)];simp;omega
  ·intro a;rw [ids_snoc _ _ t 0 (Nat.zero_le _)];simp [p.seen a];exact Or.comm
  ·rw [ids_snoc _ _ t 0 (Nat.zero_le _),List.nodup_append]
   exact ⟨p.nd,by simp,fun a ha b hb=>by simp at hb;rw [hb];intro e;exact hns (e▸ha)⟩
 |false=>
  rw [hroot] at h
  simp only [Bool.false_eq_true,if_false] at h
  simp only [rowOk,hroot,Bool.false_eq_true,if_false,Bool.and_eq_true,decide_eq_true_eq] at hr
  obtain ⟨⟨hm,h1,h2⟩,htx⟩:=hr
  have hle:r.depth.toNat≤(spine t).length:=by omega
  refine ⟨by omega,hle,hns,roots,?_,h⟩
  have hne:t≠nil:=by
   intro e;subst e;simp [spine] at hdeep;omega
  have htop:=top_snoc_made r.id r.text hm htx t r.depth.toNat 1 hne (by omega) p.top
  refine ⟨htop.1,by rw [htop.2,p.num],?_,?_,?_⟩
  ·rw [spine_snoc _ _ t _ hle];simp;omega
  ·intro a;rw [ids_snoc _ _ t _ hle];simp [p.seen a];exact Or.comm
  ·rw [ids_snoc _ _ t _ hle,List.nodup_append]
   exact ⟨p.nd,by simp,fun a ha b hb=>by simp at hb;rw [hb];intro e;exact hns (e▸ha)⟩
theorem build_snoc (l:List Row) (r:Row):build (l++[r])=snoc r.id r.text (build l) r.depth.toNat:=by simp [build,List.foldl_append]
theorem part_take (l:List Row) (h:treeOk l=true):∀ k,k≤l.length→∃ seen roots depth,Part (build (l.take k)) seen roots depth∧treeOkF seen roots depth (l.drop k)=true∧rows 0 (build (l.take k))=l.take k:=by
 intro k
 induction k with
 |zero=>intro _;exact ⟨[],0,-1,⟨trivial,rfl,rfl,by simp [build,ids],by simp [build,ids]⟩,by simpa [treeOk] using h,by simp [build,rows]⟩
 |succ k ih=>
  intro hk
  obtain ⟨seen,roots,depth,p,ht,hr⟩:=ih (by omega)
  rw [List.drop_eq_getElem_cons (by omega)] at ht
  obtain ⟨h0,h1,h2,roots',p',ht'⟩:=part_step _ seen roots depth p l[k] _ ht
  rw [List.take_succ_eq_append_getElem (by omega),build_snoc]
  refine ⟨_,roots',_,p',ht',?_⟩
  rw [rows_snoc _ _ _ _ 0 h1,hr]
  have:(0:Int)+(l[k].depth.toNat:Int)=l[k].depth:=by omega
  rw [this]
theorem valid_build (l:List Row) (h:treeOk l=true):Valid (build l)∧rows 0 (build l)=l:=by
 obtain ⟨seen,roots,depth,p,ht,hr⟩:=part_take l h l.length (Nat.le_refl _)
 rw [List.take_length] at p hr
 rw [List.drop_length] at ht
 simp only [treeOkF,decide_eq_true_eq] at ht
 exact ⟨⟨p.top,by have:=p.num;omega,p.nd⟩,hr⟩
/-! ### valid trees have valid lists -/
theorem nodup_le (l:List Int):∀ m:List Int,l.Nodup→(∀ a∈l,a∈m)→l.length≤m.length:=by
 induction l with
 |nil=>intro m _ _;simp
 |cons a l ih=>
  intro m nd h
  have ha:a∈m:=h a (List.mem_cons_self)
  have h1:=ih (m.erase a) (List.nodup_cons.1 nd).2 (fun b hb=>(List.mem_erase_of_ne (fun e=>(List.nodup_cons.1 nd).1 (by rw [←e];exact hb))).2 (h b (List.mem_cons_of_mem _ hb)))
  rw [List.length_erase_of_mem ha] at h1
  have:0<m.length:=List.length_pos_of_mem ha
  simp only [List.length_cons];omega
theorem made_le (l:List Int) (nd:l.Nodup) (h:∀ a∈l,isMade a=true):l.length≤18:=by
 have:=nodup_le l [11,12,13,14,15,16,21,22,23,24,25,26,31,32,33,34,35,36] nd (fun a ha=>by
  have:=(isMade_iff a).1 (h a ha)
  simp only [List.mem_cons,List.not_mem_nil,or_false]
  omega)
 simpa using this
theorem good_made (t:T) (h:Good t):∀ a∈ids t,isMade a=true:=by
 induction t with
 |nil=>simp [ids]
 |node i x f n ihf ihn=>
  intro a ha
  simp only [ids,List.mem_cons,List.mem_append] at ha
  rcases ha with rfl | ha | ha
  ·exact h.1
  ·exact ihf h.2.2.1 a ha
  ·exact ihn h.2.2.2 a ha
theorem depth_le (t:T):∀ d,∀ r∈rows d t,r.depth≤d - 1+(ids t).length:=by
 induction t with
 |nil=>simp [rows]
 |node i x f n ihf ihn=>
  intro d r hr
  simp only [rows,List.mem_cons,List.mem_append] at hr
  simp only [ids,List.length_cons,List.length_append]
  rcases hr with rfl | hr | hr
  ·simp only;omega
  ·have:=ihf (d+1) r hr;omega
  ·have:=ihn d r hr;omega
theorem ok_good (t:T):∀ (d depth roots:Int) (seen:List Int) (rest:List Row),Good t→(ids t).Nodup→(∀ a∈ids t,a∉seen)→1≤d→d≤depth+1→(∀ r∈rows d t,r.depth≤18) →
  ∃ seen' depth',treeOkF seen roots depth (rows d t++rest)=treeOkF seen' roots depth' rest∧(∀ a,a∈seen'↔a∈seen∨a∈ids t)∧d≤depth'+1:=by
 induction t with
 |nil=>intro d depth roots seen rest _ _ _ _ hd _;exact ⟨seen,depth,rfl,by simp [ids],hd⟩
 |node i x f n ihf ihn=>
  intro d depth roots seen rest hg nd hs h1 hd hb
  simp only [ids,List.nodup_cons,List.nodup_append,List.mem_append,not_or] at nd
  obtain ⟨⟨n1,n2⟩,ndf,ndn,hdis⟩:=nd
  have hr:=made_not_root i hg.1
  have hi:i∉seen:=hs i (by simp [ids])
  have hrow:rowOk ⟨i,d,x⟩=true:=by
   have:d≤18:=hb ⟨i,d,x⟩ (by simp [rows])
   simp [rowOk,hr,hg.1,hg.2.1,h1,this]
  obtain ⟨s1,d1,e1,m1,b1⟩:=ihf (d+1) d roots (i::seen) (rows d n++rest) hg.2.2.1 ndf (fun a ha h=>by
   rcases List.mem_cons.1 h with rfl | h
   ·exact n1 ha
   ·exact hs a (by simp [ids,ha]) h) (by omega) (by omega) (fun r hr=>hb r (by simp [rows,hr]))
  obtain ⟨s2,d2,e2,m2,b2⟩:=ihn d d1 roots s1 rest hg.2.2.2 ndn (fun a ha h=>by
   rw [m1] at h
   rcases h with h | h
   ·rcases List.mem_cons.1 h with rfl | h
    ·exact n2 ha
    ·exact hs a (by simp [ids,ha]) h
   ·exact hdis a h a ha rfl) h1 (by omega) (fun r hr=>hb r (by simp [rows,hr]))
  refine ⟨s2,d2,?_,?_,b2⟩
  ·have:treeOkF seen roots depth (rows d (node i x f n)++rest)=treeOkF (i::seen) roots d (rows (d+1) f++(rows d n++rest)):=by
    simp only [rows,List.cons_append,List.append_assoc,treeOkF]
    rw [hrow,hr,List.contains_eq_mem]
    simp [hi,hd]
   rw [this,e1,e2]
  ·intro a
   rw [m2,m1]
   simp only [List.mem_cons,ids,List.mem_append]
   constructor
   ·rintro ((( h | h) | h) | h)
    ·exact .inr (.inl h)
    ·exact .inl h
    ·exact .inr (.inr (.inl h))
    ·exact .inr (.inr (.inr h))
   ·rintro (h | h | h | h)
    ·exact .inl (.inl (.inr h))
    ·exact .inl (.inl (.inl h))
    ·exact .inl (.inr h)
    ·exact .inr h
theorem ok_top (t:T):∀ (i depth roots:Int) (seen:List Int),Top i t→i=roots+1→0≤roots→roots+(chain t).length=3→(ids t).Nodup→(∀ a∈ids t,a∉seen)→0≤depth+1→treeOkF seen roots depth (rows 0 t)=true:=by
 induction t with
 |nil=>intro i depth roots seen _ _ _ h _ _ _;simp [chain] at h;simp [rows,treeOkF,h]
 |node j x f n ihf ihn=>
  intro i depth roots seen ht hi h0 h3 nd hs hd
  simp only [ids,List.nodup_cons,List.nodup_append,List.mem_append,not_or] at nd
  obtain ⟨⟨n1,n2⟩,ndf,ndn,hdis⟩:=nd
  obtain ⟨rfl,rfl,hg,htn⟩:=ht
  simp only [chain,List.length_cons] at h3
  have hroot:isRoot j=true:=by rw [isRoot_iff];omega
  have hb:∀ r∈rows (0+1) f,r.depth≤18:=by
   intro r hr
   have h1:=depth_le f (0+1) r hr
   have h2:=made_le (ids f) ndf (good_made f hg)
   omega
  obtain ⟨s1,d1,e1,m1,b1⟩:=ok_good f (0+1) 0 (roots+1) (j::seen) (rows 0 n) hg ndf (fun a ha h=>by
   rcases List.mem_cons.1 h with rfl | h
   ·exact n1 ha
   ·exact hs a (by simp [ids,ha]) h) (by omega) (by omega) hb
  have h2:=ihn (j+1) d1 (roots+1) s1 htn (by omega) (by omega) (by omega) ndn (fun a ha h=>by
   rw [m1] at h
   rcases h with h | h
   ·rcases List.mem_cons.1 h with rfl | h
    ·exact n2 ha
    ·exact hs a (by simp [ids,ha]) h
   ·exact hdis a h a ha rfl) (by omega)
  have hj:j∉seen:=hs j (by simp [ids])
  simp only [rows,treeOkF]
  rw [e1,h2,List.contains_eq_mem]
  rw [hi] at hroot hj ⊢
  simp [rowOk,hroot,hj,hd]
theorem treeOk_rows (t:T) (h:Valid t):treeOk (rows 0 t)=true:=ok_top t 1 (-1) 0 [] h.1 rfl (by omega) (by rw [h.2.1];rfl) h.2.2 (by simp) (by omega)
/-! ### a valid change leaves a valid tree so -/
theorem insF_perm (u id:Int) (tx:ByteArray) (s t:T) (hu:u∈ids t) (nd:(ids t).Nodup):(ids (insF u id tx s t)).Perm (id::(ids s++ids t)):=by
 obtain ⟨pre,k,x,f,n,post,sp⟩:=split u t hu nd 0
 rw [←rows_ids 0,sp.insF,←rows_ids 0 t,sp.all,List.perm_iff_count]
 intro a
 simp only [rows,List.map_append,List.map_cons,List.count_append,List.count_cons,rows_ids]
 omega
theorem insN_perm (u id:Int) (tx:ByteArray) (s t:T) (hu:u∈ids t) (nd:(ids t).Nodup):(ids (insN u id tx s t)).Perm (id::(ids s++ids t)):=by
 obtain ⟨pre,k,x,f,n,post,sp⟩:=split u t hu nd 0
 rw [←rows_ids 0,sp.insN,←rows_ids 0 t,sp.all,List.perm_iff_count]
 intro a
 simp only [rows,List.map_append,List.map_cons,List.count_append,List.count_cons,rows_ids]
 omega
theorem setT_ids (m:Int) (tx:ByteArray) (t:T):ids (setT m tx t)=ids t:=by
 induction t with
 |nil=>rfl
 |node i x f n ihf ihn=>simp only [setT];split <;> simp [ids,ihf,ihn]
theorem good_setT (m:Int) (tx:ByteArray) (h:textOk tx=true) (t:T) (hg:Good t):Good (setT m tx t):=by
 induction t with
 |nil=>trivial
 |node i x f n ihf ihn=>
  simp only [setT];split
  ·exact ⟨hg.1,h,hg.2.2.1,hg.2.2.2⟩
  ·exact ⟨hg.1,hg.2.1,ihf hg.2.2.1,ihn hg.2.2.2⟩
theorem good_insF (u id:Int) (tx:ByteArray) (s:T) (h1:isMade id=true) (h2:textOk tx=true) (h3:Good s) (t:T) (hg:Good t):Good (insF u id tx s t):=by
 induction t with
 |nil=>trivial
 |node i x f n ihf ihn=>
  simp only [insF];split
  ·exact ⟨hg.1,hg.2.1,⟨h1,h2,h3,hg.2.2.1⟩,hg.2.2.2⟩
  ·exact ⟨hg.1,hg.2.1,ihf hg.2.2.1,ihn hg.2.2.2⟩
theorem good_insN (u id:Int) (tx:ByteArray) (s:T) (h1:isMade id=true) (h2:textOk tx=true) (h3:Good s) (t:T) (hg:Good t):Good (insN u id tx s t):=by
 induction t with
 |nil=>trivial
 |node i x f n ihf ihn=>
  simp only [insN];split
  ·exact ⟨hg.1,hg.2.1,hg.2.2.1,⟨h1,h2,h3,hg.2.2.2⟩⟩
  ·exact ⟨hg.1,hg.2.1,ihf hg.2.2.1,ihn hg.2.2.2⟩
theorem good_cut (m:Int) (t:T) (hg:Good t):Good (cut m t):=by
 induction t with
 |nil=>trivial
 |node i x f n ihf ihn=>
  simp only [cut];split
  ·exact hg.2.2.2
  ·exact ⟨hg.1,hg.2.1,ihf hg.2.2.1,ihn hg.2.2.2⟩
theorem good_get (m:Int) (t:T) (hg:Good t) (x:ByteArray) (f:T) (h:get m t=some (x,f)):textOk x=true∧Good f:=by
 induction t with
 |nil=>simp [get] at h
 |node i y g n ihf ihn=>
  simp only [get] at h
  split at h
  ·simp only [Option.some.injEq,Prod.mk.injEq] at h
   rw [←h.1,←h.2];exact ⟨hg.2.1,hg.2.2.1⟩
  ·rw [Option.or_eq_some_iff] at h
   rcases h with h | ⟨_,h⟩
   ·exact ihf hg.2.2.1 h
   ·exact ihn hg.2.2.2 h
theorem top_turn (g:T→T) (hnil:g nil=nil) (hnode:∀ i x f n,isRoot i=true→∃ f',(g (node i x f n)=node i x f' (g n)∨g (node i x f n)=node i x f' n)∧(Good f→Good f')) (t:T):∀ i,Top i t→1≤i→i+(chain t).length≤4→Top i (g t)∧(chain (g t)).length=(chain t).length:=by
 induction t with
 |nil=>intro i _ _ _;rw [hnil];exact ⟨trivial,rfl⟩
 |node j x f n ihf ihn=>
  intro i ht h1 h4
  obtain ⟨rfl,rfl,hg,htn⟩:=ht
  simp only [chain,List.length_cons] at h4
  obtain ⟨f',e,hf⟩:=hnode j ⟨#[]⟩ f n (by rw [isRoot_iff];omega)
  obtain ⟨a,b⟩:=ihn (j+1) htn (by omega) (by omega)
  rcases e with e | e
  ·rw [e]
   exact ⟨⟨rfl,rfl,hf hg,a⟩,by simp [chain,b]⟩
  ·rw [e]
   exact ⟨⟨rfl,rfl,hf hg,htn⟩,by simp [chain]⟩
theorem top_get (m:Int) (t:T) (x:ByteArray) (f:T) (h:get m t=some (x,f)) (hm:isRoot m=false):∀ i,Top i t→1≤i→i+(chain t).length≤4→textOk x=true∧Good f:=by
 induction t with
 |nil=>simp [get] at h
 |node j y g n ihf ihn=>
  intro i ht h1 h4
  obtain ⟨rfl,rfl,hg,htn⟩:=ht
  simp only [chain,List.length_cons] at h4
  simp only [get] at h
  rw [if_neg (fun e=>by rw [←e] at hm;have:=(isRoot_iff j).2 (by omega);rw [this] at hm;cases hm),Option.or_eq_some_iff] at h
  rcases h with h | ⟨_,h⟩
  ·exact good_get m g hg x f h
  ·exact ihn h (j+1) htn (by omega) (by omega)
theorem top_ids (t:T):∀ i,Top i t→1≤i→i+(chain t).length≤4→∀ j:Int,i≤j→j<i+(chain t).length→j∈ids t∧upOf j none t=some none:=by
 induction t with
 |nil=>intro i _ _ _ j h1 h2;simp [chain] at h2;omega
 |node a x f n ihf ihn=>
  intro i ht hi h4 j h1 h2
  obtain ⟨rfl,rfl,hg,htn⟩:=ht
  simp only [chain,List.length_cons] at h2 h4
  by_cases e:a=j
  ·subst e;exact ⟨by simp [ids],by simp [upOf]⟩
  ·obtain ⟨p,q⟩:=ihn (a+1) htn (by omega) (by omega) j (by omega) (by omega)
   refine ⟨by simp [ids,p],?_⟩
   have hj:j∉ids f:=fun h=>by
    have:=(isMade_iff j).1 (good_made f hg j h)
    omega
   simp only [upOf]
   rw [if_neg e,upOf_not j _ f hj]
   simpa using q
theorem Valid.root {t:T} (h:Valid t) (j:Int) (hj:isRoot j=true):j∈ids t∧upOf j none t=some none:=by
 rw [isRoot_iff] at hj
 exact top_ids t 1 h.1 (by omega) (by rw [h.2.1];decide) j (by omega) (by rw [h.2.1];omega)
theorem top_ids_ok (t:T):∀ i,Top i t→1≤i→i+(chain t).length≤4→∀ j∈ids t,isRoot j=true∨isMade j=true:=by
 induction t with
 |nil=>simp [ids]
 |node a x f n ihf ihn=>
  intro i ht hi h4 j hj
  obtain ⟨rfl,rfl,hg,htn⟩:=ht
  simp only [chain,List.length_cons] at h4
  simp only [ids,List.mem_cons,List.mem_append] at hj
  rcases hj with rfl | hj | hj
  ·exact .inl ((isRoot_iff j).2 (by omega))
  ·exact .inr (good_made f hg j hj)
  ·exact ihn (a+1) htn (by omega) (by omega) j hj
theorem Valid.ids_ok {t:T} (h:Valid t) (j:Int) (hj:j∈ids t):isRoot j=true∨isMade j=true:=top_ids_ok t 1 h.1 (by omega) (by rw [h.2.1];decide) j hj
theorem valid_put (t:T) (h:Valid t) (id:Int) (tx:ByteArray) (s:T) (h1:isMade id=true) (h2:textOk tx=true) (h3:Good s) (hn:id∉ids t) (hs:(ids s).Nodup) (his:id∉ids s) (hd:∀ a∈ids s,a∉ids t) (p:Int × Int) (hp:p.1∈ids t)
  (hp2:0<p.2→p.2∈ids t∧isRoot p.2=false):Valid (put t id tx s p):=by
 have hnd:(id::(ids s++ids t)).Nodup:=by
  rw [List.nodup_cons,List.mem_append,List.nodup_append]
  exact ⟨fun hh=>hh.elim his hn,hs,h.2.2,fun a ha b hb e=>hd a ha (e▸hb)⟩
 unfold put
 split
 ·rename_i h0
  obtain ⟨ha,hr⟩:=hp2 h0
  obtain ⟨q1,q2⟩:=top_turn (insN p.2 id tx s) rfl (fun i x f n hi=>⟨insN p.2 id tx s f,.inl (by simp only [insN];rw [if_neg (fun e=>by rw [e,hr] at hi;cases hi)]),good_insN p.2 id tx s h1 h2 h3 f⟩) t 1 h.1 (by omega) (by rw [h.2.1];decide)
  exact ⟨q1,by rw [q2,h.2.1],(insN_perm p.2 id tx s t ha h.2.2).nodup_iff.2 hnd⟩
 ·obtain ⟨q1,q2⟩:=top_turn (insF p.1 id tx s) rfl (fun i x f n hi=>by
   simp only [insF]
   split
   ·rename_i e
    exact ⟨node id tx s f,.inr rfl,fun hg=>⟨h1,h2,h3,hg⟩⟩
   ·exact ⟨_,.inl rfl,good_insF p.1 id tx s h1 h2 h3 f⟩) t 1 h.1 (by omega) (by rw [h.2.1];decide)
  exact ⟨q1,by rw [q2,h.2.1],(insF_perm p.1 id tx s t hp h.2.2).nodup_iff.2 hnd⟩
theorem opOk_kind {o:Op} (h:opOk o=true):isMade o.id=true∧(o.kind=1∨o.kind=2∨o.kind=3)∧textOk o.text=true∧(o.kind≠2→o.pos=0∨isMade o.pos=true):=by
 simp only [opOk,Bool.and_eq_true] at h
 obtain ⟨h1,h⟩:=h
 refine ⟨h1,?_⟩
 have e0:textOk ⟨#[]⟩=true:=by decide
 split at h
 ·rename_i hk
  simp only [placeOk,Bool.and_eq_true,Bool.or_eq_true,decide_eq_true_eq] at h
  exact ⟨.inl hk,h.2,fun _=>h.1.2⟩
 ·split at h
  ·rename_i hk
   simp only [Bool.and_eq_true,decide_eq_true_eq] at h
   exact ⟨.inr (.inl hk),h.2,fun hh=>absurd hk hh⟩
  ·split at h
   ·rename_i hk
    simp only [placeOk,Bool.and_eq_true,Bool.or_eq_true,decide_eq_true_eq] at h
    exact ⟨.inr (.inr hk),by rw [h.2];exact e0,fun _=>h.1.2⟩
   ·cases h
theorem get_nodup (m:Int) (x:ByteArray) (f:T) (t:T) (nd:(ids t).Nodup) (h:get m t=some (x,f)):(ids f).Nodup∧m∉ids f:=by
 induction t with
 |nil=>simp [get] at h
 |node j z a b iha ihb=>
  simp only [ids,List.nodup_cons,List.nodup_append,List.mem_append,not_or] at nd
  simp only [get] at h
  split at h
  ·rename_i e
   simp only [Option.some.injEq,Prod.mk.injEq] at h
   rw [←h.2,←e];exact ⟨nd.2.1,nd.1.1⟩
  ·rw [Option.or_eq_some_iff] at h
   rcases h with h | ⟨_,h⟩
   ·exact iha nd.2.1 h
   ·exact ihb nd.2.2.1 h
theorem valid_doT (t:T) (h:Valid t) (o:Op) (ho:opOk o=true):Valid (doT t o):=by
 obtain ⟨hm,hk,htx,hpos⟩:=opOk_kind ho
 have hr3:=h.root 3 rfl
 have hroot:isRoot o.id=false:=made_not_root _ hm
 have hn:=near_ok t h.2.2 hr3.1 o.id o.up o.pos
 unfold doT
 rcases hk with hk | hk | hk
 ·rw [if_neg (by omega),if_pos hk]
  split
  ·exact h
  ·rename_i hi
   refine valid_put t h o.id o.text nil hm htx trivial hi (by simp [ids]) (by simp [ids]) (by simp [ids]) _ hn.1 (fun h0=>?_)
   obtain ⟨e,_,hu,_⟩:=hn.2 h0
   rw [e] at h0 ⊢
   exact ⟨up_mem t h.2.2 _ _ hu,made_not_root _ ((hpos (by omega)).resolve_left (by omega))⟩
 ·rw [if_pos hk]
  obtain ⟨q1,q2⟩:=top_turn (setT o.id o.text) rfl (fun i x f n hi=>⟨setT o.id o.text f,.inl (by simp only [setT];rw [if_neg (fun e=>by rw [e,hroot] at hi;cases hi)]),good_setT o.id o.text htx f⟩) t 1 h.1 (by omega) (by rw [h.2.1];decide)
  exact ⟨q1,by rw [q2,h.2.1],by rw [setT_ids];exact h.2.2⟩
 ·rw [if_neg (by omega),if_neg (by omega),if_pos hk]
  cases hg:get o.id t with
  |none=>exact h
  |some p=>
   obtain ⟨x,f⟩:=p
   simp only
   split
   ·exact h
   ·rename_i hq
    obtain ⟨hndc,hsub,hback,hfwd⟩:=cut_facts t h.2.2 o.id x f hg
    obtain ⟨hxt,hxf⟩:=top_get o.id t x f hg hroot 1 h.1 (by omega) (by rw [h.2.1];decide)
    obtain ⟨q1,q2⟩:=top_turn (cut o.id) rfl (fun i x f n hi=>⟨cut o.id f,.inl (by simp only [cut];rw [if_neg (fun e=>by rw [e,hroot] at hi;cases hi)]),good_cut o.id f⟩) t 1 h.1 (by omega) (by rw [h.2.1];decide)
    have hv:Valid (cut o.id t):=⟨q1,by rw [q2,h.2.1],hndc⟩
    have h3f:3∉ids f:=by
     intro h3
     obtain ⟨q,hq,_⟩:=under_in t h.2.2 o.id x f hg 3 h3
     rw [hr3.2] at hq;cases hq
    obtain ⟨ndf,hmf⟩:=get_nodup o.id x f t h.2.2 hg
    refine valid_put (cut o.id t) hv o.id x f hm hxt hxf (fun hh=>(hfwd _ hh).2.1 rfl) ndf hmf (fun a ha hh=>(hfwd a hh).2.2 ha) _ ?_ (fun h0=>?_)
    ·unfold near
     split
     ·rename_i hu
      exact hback o.up hu (fun e=>hq (.inl e)) (fun e=>hq (.inr e))
     ·exact hback 3 hr3.1 (fun e=>by rw [←e] at hroot;cases hroot) h3f
    ·obtain ⟨e,hne,hu,hup⟩:=hn.2 h0
     rw [e] at h0 ⊢
     rw [hup] at hu
     exact ⟨hback o.pos (up_mem t h.2.2 _ _ hu) hne (fun hf=>hq ((under_step t h.2.2 o.id x f hg o.pos o.up hu).1 hf)),made_not_root _ ((hpos (by omega)).resolve_left (by omega))⟩
end T
def opDo (t:List Row) (o:Op):List Row:=if treeOk t&&opOk o then doL t o else []
theorem doL_build (t:List Row) (o:Op) (ht:treeOk t=true) (ho:opOk o=true):doL t o=T.rows 0 (T.doT (T.build t) o):=by
 obtain ⟨hv,he⟩:=T.valid_build t ht
 obtain ⟨hm,hk,_,_⟩:=T.opOk_kind ho
 have h3:=hv.root 3 rfl
 have:=T.doL_rows (T.build t) hv.2.2 h3.2 h3.1 o hk (fun e=>by rw [e] at hm;cases hm)
 rwa [he] at this
theorem treeOk_do (t:List Row) (o:Op) (ht:treeOk t=true) (ho:opOk o=true):treeOk (doL t o)=true:=by
 rw [doL_build t o ht ho]
 exact T.treeOk_rows _ (T.valid_doT _ (T.valid_build t ht).1 o ho)
end Go.Proofs.YtecmcjfdaipfcaaGreatDoor
