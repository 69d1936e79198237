/- A row is taken from its place. .. Slices of rows and entries are cloned; the outline at the beginning. -/
import Derived.Test.YtecmcjfdaipfcaaGreatDoorYAE
import Derived.RegionTactic
import Derived.Lib.SliceRun
import Derived.Lib.Walk
namespace Go.Proofs.YtecmcjfdaipfcaaGreatDoor
open Go.RowKit Go.Shelf
set_option linter.unusedVariables false
namespace T
theorem prev_block {h:HP} {adr:Int→Nat} (m a:Int) (t:T):∀ (top:Bool) (up:Value) (p:Option Int),(top=true→m∉chain t)→(ids t).Nodup→p≠some a→prevOf m p t=some (some a)→Has h adr top up t →
  ∃ x1 x2 x3,h (adr a)=some (nodeO a x1 x2 x3 (PP adr m)):=by
 induction t with
 |nil=>intro _ _ _ _ _ _ h;simp [prevOf] at h
 |node i x f n ihf ihn=>
  intro top up p htop nd hpa hp ht
  simp only [ids,List.nodup_cons,List.nodup_append,List.mem_append,not_or] at nd
  obtain ⟨⟨n1,n2⟩,ndf,ndn,hdis⟩:=nd
  obtain ⟨hb,hf,hn⟩:=ht
  simp only [prevOf] at hp
  split at hp
  ·exact absurd (Option.some.inj hp) hpa
  ·rw [Option.or_eq_some_iff] at hp
   rcases hp with hp | ⟨_,hp⟩
   ·exact ihf false _ none (fun h=>by cases h) ndf (by simp) hp hf
   ·have htn:top=true→m∉chain n:=fun h hh=>htop h (by simp [chain,hh])
    cases n with
    |nil=>simp [prevOf] at hp
    |node b c d e=>
     by_cases hbm:b=m
     ·simp only [prevOf,if_pos hbm,Option.some.injEq] at hp
      subst hp
      have htf:top=false:=by
       cases top with
       |false=>rfl
       |true=>exact absurd (by simp [chain,hbm]) (htop rfl)
      subst htf;subst hbm
      exact ⟨_,_,_,hb⟩
     ·refine ihn top up (some i) htn ndn (fun hia=>?_) hp hn
      injection hia with hia
      subst hia
      simp only [prevOf,if_neg hbm] at hp
      rw [Option.or_eq_some_iff] at hp
      simp only [ids,List.mem_cons,List.mem_append,not_or] at n2
      rcases hp with hp | ⟨_,hp⟩
      ·rcases prevOf_mem m i d none hp with h | h
       ·exact n2.2.1 h
       ·cases h
      ·rcases prevOf_mem m i e (some b) hp with h | h
       ·exact n2.2.2 h
       ·injection h with h;exact n2.1 h.symm
end T
theorem Free.of_cut {w w':World} {g:Nat} {adr:Int→Nat} {t:T} {id c:Int} {x:ByteArray} {f:T} (hf:Frs w g adr t) (hg:T.get id t=some (x,f)) (hc:c∉T.ids f) (hci:c∈T.ids t)
  (hsame:∀ b,b≠adr c→b≠adr id→w'.heap[b]?=w.heap[b]?) (hid:w'.heap[adr id]?=some (nodeO id (.string x) nilp (T.pt adr f) nilp)) (hcut:T.Has (hpOf w') adr true nilp (T.cut id t)):Free w' g adr (T.cut id t) id x f:=by
 obtain ⟨hndc,hsub,hback,hfwd⟩:=T.cut_facts t hf.nd id x f hg
 obtain ⟨ndf,hmf⟩:=T.get_nodup id x f t hf.nd hg
 obtain ⟨hi,hfi⟩:=T.get_sub id t x f hg
 obtain ⟨x',f',n,top,q,hg',hn,hq,-,hb,hs⟩:=hf.info id hi
 rw [hg] at hg';injection hg' with hg';injection hg' with e1 e2;subst e1;subst e2
 obtain ⟨xc,fc,nc,topc,qc,-,-,-,-,hbc,-⟩:=hf.info c hci
 have hgne:=hf.adr_ne hf.tab (by decide)
 refine ⟨hcut,⟨nilp,nilp,hid⟩,T.has_other (h:=hpOf w) f false _ hs hbc hb hsame hc hmf,?_,?_,?_⟩
 ·refine (hf.tab.of_block (hsame g (hgne c hci) (hgne id hi))).congr fun i _=>?_
  unfold fst
  by_cases h:(i:Int)∈T.ids t
  ·rw [if_pos h,if_pos]
   simp only [List.mem_cons,List.mem_append]
   by_cases h1:(i:Int)=id
   ·exact .inl h1
   ·by_cases h2:(i:Int)∈T.ids f
    ·exact .inr (.inl h2)
    ·exact .inr (.inr (hback _ h h1 h2))
  ·rw [if_neg h,if_neg]
   intro hh
   simp only [List.mem_cons,List.mem_append] at hh
   rcases hh with hh | hh | hh
   ·exact h (hh▸hi)
   ·exact h (hfi _ hh)
   ·exact h (hfwd _ hh).1
 ·rw [List.nodup_cons,List.mem_append,List.nodup_append]
  exact ⟨fun hh=>hh.elim hmf (fun h=>(hfwd _ h).2.1 rfl),ndf,hndc,fun a ha b hb e=>(hfwd b hb).2.2 (e▸ha)⟩
 ·intro i hh
  refine hf.rng i ?_
  simp only [List.mem_cons,List.mem_append] at hh
  rcases hh with rfl | hh | hh
  ·exact hi
  ·exact hfi _ hh
  ·exact (hfwd _ hh).1
set_option maxRecDepth 100000 in
theorem detach_c (B g:Nat) (adr:Int→Nat) (t:T) (id u:Int) (x:ByteArray) (f:T) (w:World) (hf:Frs w g adr t) (hg:T.get id t=some (x,f)) (hu:T.upOf id none t=some (some u)) (hlow:Low B g adr (T.ids t)) (hB:B≤w.heap.size) :
  Calls Tryz.prog 85 #[PP adr id] w fun e w'=>e=.returned (.tuple #[])∧Free w' g adr (T.cut id t) id x f∧Below B w w':=by
 obtain ⟨hi,hfi⟩:=T.get_sub id t x f hg
 have hA:=Lib.hid (ahead_c g adr t id u w hf hi hu)
 obtain ⟨ndf,hmf⟩:=T.get_nodup id x f t hf.nd hg
 have hus:=T.under_step t hf.nd id x f hg id u hu
 have huf:u∉T.ids f:=fun h=>hmf (hus.2 (.inr h))
 have hui:u≠id:=fun h=>hmf (hus.2 (.inl h))
 obtain ⟨x',f',n,top,q,hg',hn,hq,htop,hb,hs⟩:=hf.info id hi
 rw [hg] at hg';injection hg' with hg';injection hg' with e1 e2;subst e1;subst e2
 rw [hu] at hq;injection hq with hq;subst hq
 have htf:top=false:=by
  cases top with
  |false=>rfl
  |true=>exact absurd (htop rfl) (chain_top hf.nd hu)
 subst htf
 obtain ⟨y,fu,hgu⟩:=T.get_some u t (by
  rcases T.up_get t hf.nd id u none hu with ⟨_,h⟩ | ⟨y',g',h,_⟩
  ·cases h
  ·exact (T.get_sub _ _ _ _ h).1)
 have hch:id∈T.chain fu:=by
  rcases T.up_get t hf.nd id u none hu with ⟨_,h⟩ | ⟨y',g',h,h2⟩
  ·cases h
  ·rw [hgu] at h;injection h with h;injection h with _ h;rw [h];exact h2
 have hum:=(T.get_sub _ _ _ _ hgu).1
 have hpi:∀ pr,T.prevOf id pr t=T.prevOf id none fu:=fun pr=>T.prev_in id u y fu t pr hf.nd hgu hch
 obtain ⟨np,hnp⟩:=nx_pointer adr false n
 have hndf:=(T.get_nodup u y fu t hf.nd hgu).1
 have hidB:=hlow.2 id hi
 have HG:=Lib.hid hg;have HF0:=Lib.hid hf;have HPI:=Lib.hid hpi;have HU:=Lib.hid hu;have HCH:=Lib.hid hch;have HGU:=Lib.hid hgu;have HUF:=Lib.hid huf;have HLOW:=Lib.hid hlow;have HUM:=Lib.hid hum;have HMF:=Lib.hid hmf
 have HB:=Lib.hid hb;have HNP:=Lib.hid hnp;have HND:=Lib.hid hndf;have HUI:=Lib.hid hui
 clear hf hg hu hpi hch hgu huf hlow hum hmf hb hs htop hnp hn hfi hus hndf hui
 have hup0:T.prevOf id (some 0) t=T.prevOf id none t:=(HPI.out _).trans (HPI.out _).symm
 have HUP:=Lib.hid hup0;clear hup0
 go_enter Tryz.func85,Tryz.ntmps85
 go_wp2_with fail
 refine hA.out.mono ?_
 clear hA
 rintro e w1 ⟨q,hq,rfl,hb1⟩
 have hf1:=HF0.out.ext hb1
 have hid1:w1.heap[adr id]?=some (nodeO id (.string x) (PP adr u) (T.pt adr f) (.pointer np)):=by rw [←HNP.out];exact (hb1.block _ (blk_lt HB.out)).trans HB.out
 obtain ⟨-,-,c2,-,c4,cf⟩:=cells_of hid1
 have hctop:id∉T.chain t:=chain_top HF0.out.nd HU.out
 cases q with
 |some a=>
  have hpa:T.prevOf id none fu=some (some a):=(HPI.out none).symm.trans hq
  obtain ⟨p,hp⟩:∃ p,(T.chain fu)[p]?=some id:=List.mem_iff_getElem?.1 HCH.out
  have hpr:=T.prev_top id fu p none HND.out hp
  rw [hpa] at hpr
  have hp0:¬p=0:=fun e=>by rw [if_pos e] at hpr;cases hpr
  rw [if_neg hp0] at hpr
  have hap:(T.chain fu)[p - 1]?=some a:=(Option.some.inj hpr).symm
  have hac:a∈T.chain fu:=List.mem_of_getElem? hap
  have hai:a≠id:=fun e=>by
   subst e
   have:=(List.getElem?_inj (List.getElem?_eq_some_iff.1 hap).1 (T.chain_nodup fu HND.out)).1 (hap.trans hp.symm)
   omega
  have hau:=T.up_chain t HF0.out.nd u y fu HGU.out a hac none
  have hat:=T.up_mem t HF0.out.nd a u hau
  have haf:a∉T.ids f:=fun h=>by
   rcases (T.under_step t HF0.out.nd id x f HG.out a u hau).1 h with h | h
   ·exact HUI.out h
   ·exact HUF.out h
  obtain ⟨x1,x2,x3,ha1⟩:=T.prev_block (h:=hpOf w1) id a t true nilp none (fun _=>hctop) HF0.out.nd (by simp) hq hf1.has
  have hadr:adr a≠adr id:=T.adr_ne (h:=hpOf w1) hid1 ha1 hai
  have hadr':adr id≠adr a:=fun e=>hadr e.symm
  obtain ⟨-,-,-,-,d4,df⟩:=cells_of ha1
  have hq':=Lib.hid hq;have HF1:=Lib.hid hf1;have HI1:=Lib.hid hid1;have HA1:=Lib.hid ha1;have HAF:=Lib.hid haf;have HAT:=Lib.hid hat;have HAD:=Lib.hid hadr;have HAD':=Lib.hid hadr';have HB1:=Lib.hid hb1;have HCT:=Lib.hid hctop
  clear hq hf1 hid1 ha1 haf hat hap hp hpr hpa hac hau hb1 hctop
  simp only [upv]
  go_wp2
  go_end0
  have hsame:∀ b,b≠adr a→b≠adr id→(((w1.setCell ⟨adr a,4,none⟩ (.pointer np)).setCell ⟨adr id,2,none⟩ nilp).setCell ⟨adr id,4,none⟩ nilp).heap[b]?=w1.heap[b]?:=fun b h1 h2=>(setx h2).trans ((setx h2).trans (setx h1))
  refine ⟨rfl,Free.of_cut HF1.out HG.out HAF.out HAT.out hsame (set4 (set2 ((setx HAD'.out).trans HI1.out))) ?_,?_⟩
  ·exact T.has_cutN (h:=hpOf w1) (adr:=adr) hsame HI1.out HA1.out ((setx HAD.out).trans ((setx HAD.out).trans (set4 HA1.out))) t true nilp none (fun _=>HCT.out) HF0.out.nd (by simp) hq'.out HF1.out.has
  ·exact (((HB1.out.mono hB).setCell (HLOW.out.2 a HAT.out) _).setCell hidB _).setCell hidB _
 |none=>
  have hpa:T.prevOf id none fu=some none:=(HPI.out none).symm.trans hq
  obtain ⟨p,hp⟩:∃ p,(T.chain fu)[p]?=some id:=List.mem_iff_getElem?.1 HCH.out
  have hpr:=T.prev_top id fu p none HND.out hp
  rw [hpa] at hpr
  have hp0:p=0:=by
   by_cases e:p=0
   ·exact e
   ·rw [if_neg e,List.getElem?_eq_getElem (by have:=(List.getElem?_eq_some_iff.1 hp).1;omega)] at hpr
    cases hpr
  subst hp0
  have hfu:T.pt adr fu=PP adr id:=by
   cases fu with
   |nil=>simp [T.chain] at hp
   |node j b c d=>
    simp only [T.chain,List.getElem?_cons_zero,Option.some.injEq] at hp
    rw [hp];rfl
  obtain ⟨yu,fu',nu,topu,qu,hgu',-,-,-,hbu,-⟩:=hf1.info u HUM.out
  rw [HGU.out] at hgu';injection hgu' with hgu';injection hgu' with e1 e2;subst e1;subst e2
  rw [hfu] at hbu
  have hadr:adr u≠adr id:=T.adr_ne (h:=hpOf w1) hid1 hbu HUI.out
  have hadr':adr id≠adr u:=fun e=>hadr e.symm
  obtain ⟨-,-,-,d3,-,df⟩:=cells_of hbu
  have hq':=Lib.hid hq;have HF1:=Lib.hid hf1;have HI1:=Lib.hid hid1;have HA1:=Lib.hid hbu;have HAD:=Lib.hid hadr;have HAD':=Lib.hid hadr';have HB1:=Lib.hid hb1;have HCT:=Lib.hid hctop
  clear hq hf1 hid1 hbu hp hpr hpa hb1 hctop hfu
  simp only [upv]
  go_wp2
  go_region
  go_wp2
  go_end0
  have hsame:∀ b,b≠adr u→b≠adr id→((((w1.setCell ⟨adr u,3,none⟩ (.pointer np)).setCell ⟨adr id,2,none⟩ nilp).setCell ⟨adr id,4,none⟩ nilp).drew).heap[b]?=w1.heap[b]?:=fun b h1 h2=>(setx h2).trans ((setx h2).trans (setx h1))
  refine ⟨rfl,Free.of_cut HF1.out HG.out HUF.out HUM.out hsame (set4 (set2 ((setx HAD'.out).trans HI1.out))) ?_,?_⟩
  ·exact T.has_cutF (h:=hpOf w1) (adr:=adr) hsame HI1.out HA1.out ((setx HAD.out).trans ((setx HAD.out).trans (set3 HA1.out))) t true nilp (some 0) none HF0.out.nd (by simp) (HUP.out.trans hq'.out) HU.out HF1.out.has
  ·exact ((((HB1.out.mono hB).setCell (HLOW.out.2 u HUM.out) _).setCell hidB _).setCell hidB _).trans (Ext.drewN (Below.refl _ _) 1)
open Go.RowKit Go.Shelf
@[local go_sem] theorem as_make_make (v:Value) (W:World):(Instr.typeAssert (.iface 129 v) 85 129 true).run Tryz.prog W=.ok (.tuple #[v,.bool true]) W:=by kernel_rfl
@[local go_sem] theorem as_make_text (v:Value) (W:World):(Instr.typeAssert (.iface 129 v) 85 132 true).run Tryz.prog W=.ok (.tuple #[.agg #[.int .i64 0,.string ⟨#[]⟩],.bool false]) W:=by kernel_rfl
@[local go_sem] theorem as_make_move (v:Value) (W:World):(Instr.typeAssert (.iface 129 v) 85 134 true).run Tryz.prog W=.ok (.tuple #[.agg #[.int .i64 0,.int .i64 0,.int .i64 0],.bool false]) W:=by kernel_rfl
@[local go_sem] theorem as_text_make (v:Value) (W:World):(Instr.typeAssert (.iface 132 v) 85 129 true).run Tryz.prog W=.ok (.tuple #[.agg #[.int .i64 0,.int .i64 0,.int .i64 0,.string ⟨#[]⟩],.bool false]) W:=by kernel_rfl
@[local go_sem] theorem as_text_text (v:Value) (W:World):(Instr.typeAssert (.iface 132 v) 85 132 true).run Tryz.prog W=.ok (.tuple #[v,.bool true]) W:=by kernel_rfl
@[local go_sem] theorem as_text_move (v:Value) (W:World):(Instr.typeAssert (.iface 132 v) 85 134 true).run Tryz.prog W=.ok (.tuple #[.agg #[.int .i64 0,.int .i64 0,.int .i64 0],.bool false]) W:=by kernel_rfl
@[local go_sem] theorem as_move_make (v:Value) (W:World):(Instr.typeAssert (.iface 134 v) 85 129 true).run Tryz.prog W=.ok (.tuple #[.agg #[.int .i64 0,.int .i64 0,.int .i64 0,.string ⟨#[]⟩],.bool false]) W:=by kernel_rfl
@[local go_sem] theorem as_move_text (v:Value) (W:World):(Instr.typeAssert (.iface 134 v) 85 132 true).run Tryz.prog W=.ok (.tuple #[.agg #[.int .i64 0,.string ⟨#[]⟩],.bool false]) W:=by kernel_rfl
@[local go_sem] theorem as_move_move (v:Value) (W:World):(Instr.typeAssert (.iface 134 v) 85 134 true).run Tryz.prog W=.ok (.tuple #[v,.bool true]) W:=by kernel_rfl
theorem within_nil (a:Option Addr) (w:World):Calls Tryz.prog 123 #[nilp,.pointer a] w fun e w'=>e=.returned (.bool false)∧w'=w:=by
 go_enter Tryz.func123,Tryz.ntmps123
 go_wp2
 go_loopg [0] 1 (fun gk v wr=>wr=w∧v=nilp)
 case atStart=>exact ⟨rfl,rfl⟩
 case round=>
  obtain ⟨rfl,rfl⟩:=hrel
  go_wp2
  go_ret
  exact ⟨rfl,rfl⟩
set_option maxRecDepth 100000 in
theorem where_make (g:Nat) (adr:Int→Nat) (t:T) (id up pos:Int) (tx:ByteArray) (w:World) (hf:Frs w g adr t) (h3:3∈T.ids t) (hi:id∉T.ids t) :
  Calls Tryz.prog 84 #[.pointer (some ⟨g,0,none⟩),.iface 129 (.agg #[.int .i64 id,.int .i64 up,.int .i64 pos,.string tx])] w fun e w'=>e=.returned (.tuple #[PP adr (T.near t id up pos).1,posv adr (T.near t id up pos).2,.bool true])∧Ext w w':=by
 have hX:∀ w',Ext w w'→Frs w' g adr t:=fun w' h=>hf.ext h
 have HX:=Lib.hid hX;have H3:=Lib.hid h3;have HI:=Lib.hid hi
 clear hf h3 hi hX
 go_enter Tryz.func84,Tryz.ntmps84
 go_wp2_with fail
 have hf1:=HX.out _ ((Below.refl _ w).alloc (Nat.le_refl _) (.cells #[.int .i64 id,.int .i64 up,.int .i64 pos,.string tx] 129))
 refine (find_no g adr t id _ hf1 HI.out).mono ?_
 rintro e w1 ⟨rfl,rfl⟩
 have hn:=Lib.hid (near_c g adr t id up pos _ hf1 H3.out)
 clear hf1
 go_wp2_with fail
 refine hn.out.mono ?_
 rintro e w1 ⟨rfl,rfl⟩
 go_wp2_with fail
 go_ret3
 exact ⟨rfl,(Below.refl _ w).alloc (Nat.le_refl _) _⟩
set_option maxRecDepth 100000 in
theorem where_made (g:Nat) (adr:Int→Nat) (t:T) (id up pos:Int) (tx:ByteArray) (w:World) (hf:Frs w g adr t) (hi:id∈T.ids t) :
  Calls Tryz.prog 84 #[.pointer (some ⟨g,0,none⟩),.iface 129 (.agg #[.int .i64 id,.int .i64 up,.int .i64 pos,.string tx])] w fun e w'=>e=.returned (.tuple #[nilp,nilp,.bool false])∧Ext w w':=by
 have hf1:=find_yes g adr t id _ (hf.ext ((Below.refl _ w).alloc (Nat.le_refl _) (.cells #[.int .i64 id,.int .i64 up,.int .i64 pos,.string tx] 129))) hi
 have HF:=Lib.hid hf1
 clear hf hi hf1
 go_enter Tryz.func84,Tryz.ntmps84
 go_wp2_with fail
 refine HF.out.mono ?_
 rintro e w1 ⟨rfl,rfl⟩
 go_wp2_with fail
 go_ret3
 exact ⟨rfl,(Below.refl _ w).alloc (Nat.le_refl _) _⟩
set_option maxRecDepth 100000 in
theorem where_gone (g:Nat) (adr:Int→Nat) (t:T) (id up pos:Int) (w:World) (hf:Frs w g adr t) (hi:id∉T.ids t) :
  Calls Tryz.prog 84 #[.pointer (some ⟨g,0,none⟩),.iface 134 (.agg #[.int .i64 id,.int .i64 up,.int .i64 pos])] w fun e w'=>e=.returned (.tuple #[nilp,nilp,.bool false])∧Ext w w':=by
 have hf1:=find_no g adr t id _ (hf.ext ((Below.refl _ w).alloc (Nat.le_refl _) (.cells #[.int .i64 id,.int .i64 up,.int .i64 pos] 134))) hi
 have HF:=Lib.hid hf1
 clear hf hi hf1
 go_enter Tryz.func84,Tryz.ntmps84
 go_wp2_with fail
 refine HF.out.mono ?_
 rintro e w1 ⟨rfl,rfl⟩
 go_wp2_with fail
 go_ret3
 exact ⟨rfl,(Below.refl _ w).alloc (Nat.le_refl _) _⟩
set_option maxRecDepth 100000 in
theorem where_move (g:Nat) (adr:Int→Nat) (t:T) (id up pos:Int) (x:ByteArray) (f:T) (w:World) (hf:Frs w g adr t) (h3:3∈T.ids t) (hg:T.get id t=some (x,f)) :
  Calls Tryz.prog 84 #[.pointer (some ⟨g,0,none⟩),.iface 134 (.agg #[.int .i64 id,.int .i64 up,.int .i64 pos])] w fun e w'=>
   e=.returned (if up=id∨up∈T.ids f then .tuple #[nilp,nilp,.bool false] else .tuple #[PP adr (T.near t id up pos).1,posv adr (T.near t id up pos).2,.bool true])∧Ext w w':=by
 obtain ⟨hi,hfi⟩:=T.get_sub id t x f hg
 have hf0:=hf.ext ((Below.refl _ w).alloc (Nat.le_refl _) (.cells #[.int .i64 id,.int .i64 up,.int .i64 pos] 134))
 have HF:=Lib.hid (find_yes g adr t id _ hf0 hi)
 by_cases hu:up∈T.ids t
 ·have HU:=Lib.hid (find_yes g adr t up _ hf0 hu)
  have hW:=within_c g adr t up id x f _ hf0 hu hg
  by_cases hq:up=id∨up∈T.ids f
  ·rw [if_pos hq]
   rw [(T.inB_iff up id f).2 hq] at hW
   have HW:=Lib.hid hW
   clear hf hi hW hq hu hf0 hg hfi h3
   go_enter Tryz.func84,Tryz.ntmps84
   go_wp2_with fail
   refine HF.out.mono ?_;rintro e w1 ⟨rfl,rfl⟩
   go_wp2_with fail
   refine HU.out.mono ?_;rintro e w1 ⟨rfl,rfl⟩
   go_wp2_with fail
   refine HW.out.mono ?_;rintro e w1 ⟨rfl,rfl⟩
   go_wp2_with fail
   go_ret3
   exact ⟨rfl,(Below.refl _ w).alloc (Nat.le_refl _) _⟩
  ·rw [if_neg hq]
   have hb:T.inB up id f=false:=by rw [Bool.eq_false_iff];exact fun h=>hq ((T.inB_iff up id f).1 h)
   rw [hb] at hW
   have HW:=Lib.hid hW
   have HN:=Lib.hid (near_c g adr t id up pos _ hf0 h3)
   clear hf hi hW hq hu hf0 hg hfi h3 hb
   go_enter Tryz.func84,Tryz.ntmps84
   go_wp2_with fail
   refine HF.out.mono ?_;rintro e w1 ⟨rfl,rfl⟩
   go_wp2_with fail
   refine HU.out.mono ?_;rintro e w1 ⟨rfl,rfl⟩
   go_wp2_with fail
   refine HW.out.mono ?_;rintro e w1 ⟨rfl,rfl⟩
   go_wp2_with fail
   refine HN.out.mono ?_;rintro e w1 ⟨rfl,rfl⟩
   go_wp2_with fail
   go_ret3
   exact ⟨rfl,(Below.refl _ w).alloc (Nat.le_refl _) _⟩
 ·have HU:=Lib.hid (find_no g adr t up _ hf0 hu)
  have HW:=Lib.hid (within_nil (some ⟨adr id,0,none⟩))
  have HN:=Lib.hid (near_c g adr t id up pos _ hf0 h3)
  have hq:¬(up=id∨up∈T.ids f):=fun h=>hu (h.elim (fun e=>by rw [e];exact hi) (hfi up))
  rw [if_neg hq]
  clear hf hi hq hu hf0 hg hfi h3
  go_enter Tryz.func84,Tryz.ntmps84
  go_wp2_with fail
  refine HF.out.mono ?_;rintro e w1 ⟨rfl,rfl⟩
  go_wp2_with fail
  refine HU.out.mono ?_;rintro e w1 ⟨rfl,rfl⟩
  go_wp2_with fail
  refine (HW.out _).mono ?_;rintro e w1 ⟨rfl,rfl⟩
  go_wp2_with fail
  refine HN.out.mono ?_;rintro e w1 ⟨rfl,rfl⟩
  go_wp2_with fail
  go_ret3
  exact ⟨rfl,(Below.refl _ w).alloc (Nat.le_refl _) _⟩
open Go.RowKit Go.Shelf
@[local go_sem] theorem at_make_make (v:Value) (W:World):(Instr.typeAssert (.iface 129 v) 85 129 true).run Tryz.prog W=.ok (.tuple #[v,.bool true]) W:=by kernel_rfl
@[local go_sem] theorem at_make_text (v:Value) (W:World):(Instr.typeAssert (.iface 129 v) 85 132 true).run Tryz.prog W=.ok (.tuple #[.agg #[.int .i64 0,.string ⟨#[]⟩],.bool false]) W:=by kernel_rfl
@[local go_sem] theorem at_make_move (v:Value) (W:World):(Instr.typeAssert (.iface 129 v) 85 134 true).run Tryz.prog W=.ok (.tuple #[.agg #[.int .i64 0,.int .i64 0,.int .i64 0],.bool false]) W:=by kernel_rfl
@[local go_sem] theorem at_text_make (v:Value) (W:World):(Instr.typeAssert (.iface 132 v) 85 129 true).run Tryz.prog W=.ok (.tuple #[.agg #[.int .i64 0,.int .i64 0,.int .i64 0,.string ⟨#[]⟩],.bool false]) W:=by kernel_rfl
@[local go_sem] theorem at_text_text (v:Value) (W:World):(Instr.typeAssert (.iface 132 v) 85 132 true).run Tryz.prog W=.ok (.tuple #[v,.bool true]) W:=by kernel_rfl
@[local go_sem] theorem at_text_move (v:Value) (W:World):(Instr.typeAssert (.iface 132 v) 85 134 true).run Tryz.prog W=.ok (.tuple #[.agg #[.int .i64 0,.int .i64 0,.int .i64 0],.bool false]) W:=by kernel_rfl
@[local go_sem] theorem at_move_make (v:Value) (W:World):(Instr.typeAssert (.iface 134 v) 85 129 true).run Tryz.prog W=.ok (.tuple #[.agg #[.int .i64 0,.int .i64 0,.int .i64 0,.string ⟨#[]⟩],.bool false]) W:=by kernel_rfl
@[local go_sem] theorem at_move_text (v:Value) (W:World):(Instr.typeAssert (.iface 134 v) 85 132 true).run Tryz.prog W=.ok (.tuple #[.agg #[.int .i64 0,.string ⟨#[]⟩],.bool false]) W:=by kernel_rfl
@[local go_sem] theorem at_move_move (v:Value) (W:World):(Instr.typeAssert (.iface 134 v) 85 134 true).run Tryz.prog W=.ok (.tuple #[v,.bool true]) W:=by kernel_rfl
theorem T.up_cut (m a:Int) (t:T):∀ q,(T.ids t).Nodup→a∈T.ids (T.cut m t)→T.upOf a q (T.cut m t)=T.upOf a q t:=by
 have sub:∀ s:T,∀ b∈T.ids (T.cut m s),b∈T.ids s:=by
  intro s
  induction s with
  |nil=>simp [T.cut]
  |node i x f n ihf ihn=>
   intro b hb
   simp only [T.cut] at hb
   split at hb
   ·simp [T.ids,hb]
   ·simp only [T.ids,List.mem_cons,List.mem_append] at hb ⊢
    rcases hb with h | h | h
    ·exact .inl h
    ·exact .inr (.inl (ihf b h))
    ·exact .inr (.inr (ihn b h))
 induction t with
 |nil=>intro q _ h;simp [T.cut,T.ids] at h
 |node i x f n ihf ihn=>
  intro q nd ha
  simp only [T.ids,List.nodup_cons,List.nodup_append,List.mem_append,not_or] at nd
  obtain ⟨⟨n1,n2⟩,ndf,ndn,hdis⟩:=nd
  simp only [T.cut] at ha ⊢
  split
  ·rename_i e
   rw [if_pos e] at ha
   conv=>rhs;rw [T.upOf]
   rw [if_neg (fun e=>n2 (by rw [e];exact ha)),T.upOf_not a _ f (fun hh=>hdis a hh a ha rfl),Option.none_or]
  ·rename_i e
   rw [if_neg e] at ha
   simp only [T.ids,List.mem_cons,List.mem_append] at ha
   simp only [T.upOf]
   by_cases hia:i=a
   ·rw [if_pos hia,if_pos hia]
   ·rw [if_neg hia,if_neg hia]
    rcases ha with h | h | h
    ·exact absurd h.symm hia
    ·rw [ihf _ ndf h]
     have haf:=sub f a h
     rw [T.upOf_not a q n (fun hh=>hdis a haf a hh rfl),T.upOf_not a q (T.cut m n) (fun hh=>hdis a haf a (sub n a hh) rfl)]
    ·have han:=sub n a h
     rw [T.upOf_not a _ f (fun hh=>hdis a hh a han rfl),T.upOf_not a _ (T.cut m f) (fun hh=>hdis a (sub f a hh) a han rfl),ihn _ ndn h]
set_option maxRecDepth 100000 in
theorem apply_text (B g:Nat) (adr:Int→Nat) (t:T) (id:Int) (tx:ByteArray) (w:World) (hf:Frs w g adr t) (hlow:Low B g adr (T.ids t)) (hB:B≤w.heap.size) :
  Calls Tryz.prog 43 #[.pointer (some ⟨g,0,none⟩),.iface 132 (.agg #[.int .i64 id,.string tx])] w fun e w'=>e=.returned (.tuple #[])∧Frs w' g adr (T.setT id tx t)∧Below B w w':=by
 have hsz:=alloc_sz w (.cells #[.int .i64 id,.string tx] 132)
 have hf0:=hf.ext ((Below.refl _ w).alloc (Nat.le_refl _) (.cells #[.int .i64 id,.string tx] 132))
 have hB0:Below B w (w.alloc (.cells #[.int .i64 id,.string tx] 132)):=(Below.refl _ w).alloc hB _
 by_cases hi:id∈T.ids t
 ·have HF:=Lib.hid (find_yes g adr t id _ hf0 hi)
  obtain ⟨x,f,n,top,q,hg,hn,hq,htop,hb,hs⟩:=hf0.info id hi
  have hb0:=(hf.info id hi)
  obtain ⟨x0,f0,n0,top0,q0,-,-,-,-,hb0,-⟩:=hb0
  obtain ⟨-,d1,-,-,-,df⟩:=cells_of hb0
  have hlt:=blk_lt hb0
  have H0:=Lib.hid hf0;have HB:=Lib.hid hb;have HB0:=Lib.hid hB0;have HL:=Lib.hid (hlow.2 id hi);have HI:=Lib.hid hi
  clear hf hlow hi hg hn hq htop hs hb hf0 hB0 hsz hb0
  go_enter Tryz.func43,Tryz.ntmps43
  go_wp2_with fail
  refine HF.out.mono ?_;rintro e w1 ⟨rfl,rfl⟩
  go_wp2_with fail
  go_end0
  refine ⟨rfl,?_⟩
  have hgn:=H0.out.adr_ne H0.out.tab (by decide) id HI.out
  have h1:∀ W:World,W=((w.alloc (.cells #[.int .i64 id,.string tx] 132)).setCell ⟨adr id,1,none⟩ (.string tx))→Frs W g adr (T.setT id tx t)∧Below B w W:=by
   rintro W rfl
   refine ⟨⟨T.has_setT (h:=hpOf _) (adr:=adr) (fun b hb=>setx hb) HB.out (set1 HB.out) t true nilp H0.out.nd H0.out.has,?_,by rw [T.setT_ids];exact H0.out.nd,fun i hi=>H0.out.rng i (by rwa [T.setT_ids] at hi)⟩,HB0.out.setCell HL.out _⟩
   refine (H0.out.tab.of_block (setx hgn)).congr fun i _=>?_
   unfold fst;rw [T.setT_ids]
  exact h1 _ (by rw [World.setCell_alloc_past _ _ _ _ hlt])
 ·have HF:=Lib.hid (find_no g adr t id _ hf0 hi)
  rw [T.setT_not id tx t hi]
  have H0:=Lib.hid hf0;have HB0:=Lib.hid hB0
  clear hf hlow hi hf0 hB0 hsz
  go_enter Tryz.func43,Tryz.ntmps43
  go_wp2_with fail
  refine HF.out.mono ?_;rintro e w1 ⟨rfl,rfl⟩
  go_wp2_with fail
  go_end0
  exact ⟨rfl,H0.out,HB0.out⟩
open Go.RowKit Go.Shelf
@[local go_sem] theorem au_make_make (v:Value) (W:World):(Instr.typeAssert (.iface 129 v) 85 129 true).run Tryz.prog W=.ok (.tuple #[v,.bool true]) W:=by kernel_rfl
@[local go_sem] theorem au_make_text (v:Value) (W:World):(Instr.typeAssert (.iface 129 v) 85 132 true).run Tryz.prog W=.ok (.tuple #[.agg #[.int .i64 0,.string ⟨#[]⟩],.bool false]) W:=by kernel_rfl
@[local go_sem] theorem au_make_move (v:Value) (W:World):(Instr.typeAssert (.iface 129 v) 85 134 true).run Tryz.prog W=.ok (.tuple #[.agg #[.int .i64 0,.int .i64 0,.int .i64 0],.bool false]) W:=by kernel_rfl
@[local go_sem] theorem au_text_make (v:Value) (W:World):(Instr.typeAssert (.iface 132 v) 85 129 true).run Tryz.prog W=.ok (.tuple #[.agg #[.int .i64 0,.int .i64 0,.int .i64 0,.string ⟨#[]⟩],.bool false]) W:=by kernel_rfl
@[local go_sem] theorem au_text_text (v:Value) (W:World):(Instr.typeAssert (.iface 132 v) 85 132 true).run Tryz.prog W=.ok (.tuple #[v,.bool true]) W:=by kernel_rfl
@[local go_sem] theorem au_text_move (v:Value) (W:World):(Instr.typeAssert (.iface 132 v) 85 134 true).run Tryz.prog W=.ok (.tuple #[.agg #[.int .i64 0,.int .i64 0,.int .i64 0],.bool false]) W:=by kernel_rfl
@[local go_sem] theorem au_move_make (v:Value) (W:World):(Instr.typeAssert (.iface 134 v) 85 129 true).run Tryz.prog W=.ok (.tuple #[.agg #[.int .i64 0,.int .i64 0,.int .i64 0,.string ⟨#[]⟩],.bool false]) W:=by kernel_rfl
@[local go_sem] theorem au_move_text (v:Value) (W:World):(Instr.typeAssert (.iface 134 v) 85 132 true).run Tryz.prog W=.ok (.tuple #[.agg #[.int .i64 0,.string ⟨#[]⟩],.bool false]) W:=by kernel_rfl
@[local go_sem] theorem au_move_move (v:Value) (W:World):(Instr.typeAssert (.iface 134 v) 85 134 true).run Tryz.prog W=.ok (.tuple #[v,.bool true]) W:=by kernel_rfl
theorem plant_new1 (w:World) (g:Nat) (adr:Int→Nat) (t:T) (id:Int) (tx:ByteArray) (hF:Frs w g adr t) (hn:id∉T.ids t) (h1:1≤id) (h2:id<37) :
  Free ((w.setCell ⟨g,id.toNat,none⟩ (.pointer (some ⟨w.heap.size,0,none⟩))).alloc (nodeO id (.string tx) nilp nilp nilp)).drew g (adrPut adr id w.heap.size) t id tx .nil:=by
 have hsz:(w.setCell ⟨g,id.toNat,none⟩ (.pointer (some ⟨w.heap.size,0,none⟩))).heap.size=w.heap.size:=setsz _ _ _
 have hself:((w.setCell ⟨g,id.toNat,none⟩ (.pointer (some ⟨w.heap.size,0,none⟩))).alloc (nodeO id (.string tx) nilp nilp nilp)).drew.heap[w.heap.size]?=some (nodeO id (.string tx) nilp nilp nilp):=by
  have:=World.alloc_heap_new (w.setCell ⟨g,id.toNat,none⟩ (.pointer (some ⟨w.heap.size,0,none⟩))) (nodeO id (.string tx) nilp nilp nilp)
  rw [hsz] at this
  exact this
 have hblk:∀ b,b<w.heap.size→b≠g→((w.setCell ⟨g,id.toNat,none⟩ (.pointer (some ⟨w.heap.size,0,none⟩))).alloc (nodeO id (.string tx) nilp nilp nilp)).drew.heap[b]?=w.heap[b]?:=fun b hb hg=>
  (Below.heap_alloc (w.setCell ⟨g,id.toNat,none⟩ (.pointer (some ⟨w.heap.size,0,none⟩))) (nodeO id (.string tx) nilp nilp nilp) b (by rw [hsz];exact hb)).trans (setx hg)
 have hself':adrPut adr id w.heap.size id=w.heap.size:=if_pos rfl
 have hsameA:∀ j∈T.ids t,adrPut adr id w.heap.size j=adr j:=fun j hj=>if_neg (fun e=>hn (by rw [←e];exact hj))
 have hgn:=hF.adr_ne hF.tab (by decide)
 refine ⟨?_,⟨nilp,nilp,by rw [hself'];exact hself⟩,trivial,?_,?_,?_⟩
 ·refine T.has_adr t true nilp hsameA (T.has_same t true nilp (fun j hj=>hblk _ (hF.adr_lt j hj) (fun e=>hgn j hj e.symm)) hF.has)
 ·have h3:((w.setCell ⟨g,id.toNat,none⟩ (.pointer (some ⟨w.heap.size,0,none⟩))).alloc (nodeO id (.string tx) nilp nilp nilp)).drew.rowIs g 138 37 (fun j=>if j=id.toNat then .pointer (some ⟨w.heap.size,0,none⟩) else fst adr t j):=
   ((hF.tab.set id.toNat _).alloc _).drew
  refine h3.congr fun i hi=>?_
  by_cases e:i=id.toNat
  ·have e2:(i:Int)=id:=by omega
   rw [if_pos e,e2,if_pos List.mem_cons_self]
   show _=PP (adrPut adr id w.heap.size) id
   exact congrArg (fun a=>Value.pointer (some ⟨a,0,none⟩)) hself'.symm
  ·have e2:(i:Int)≠id:=by omega
   rw [if_neg e]
   unfold fst
   by_cases hm:(i:Int)∈T.ids t
   ·rw [if_pos hm,if_pos (by simp [T.ids,hm])]
    exact congrArg (fun a=>Value.pointer (some ⟨a,0,none⟩)) (hsameA i hm).symm
   ·rw [if_neg hm,if_neg (by simp [T.ids,hm,e2])]
 ·simpa [T.ids] using ⟨hn,hF.nd⟩
 ·intro i hi
  simp only [T.ids,List.nil_append,List.mem_cons] at hi
  rcases hi with rfl | hi
  ·exact ⟨h1,h2⟩
  ·exact hF.rng i hi
set_option maxRecDepth 100000 in
theorem apply_make (B g:Nat) (adr:Int→Nat) (t:T) (id up pos:Int) (tx:ByteArray) (w:World) (hf:Frs w g adr t) (hlow:Low B g adr (T.ids t)) (hB:B≤w.heap.size) (h3:3∈T.ids t) (h1:1≤id) (h2:id<37) :
  Calls Tryz.prog 43 #[.pointer (some ⟨g,0,none⟩),.iface 129 (.agg #[.int .i64 id,.int .i64 up,.int .i64 pos,.string tx])] w fun e w'=>e=.returned (.tuple #[]) ∧
   ∃ adr',Frs w' g adr' (if id∈T.ids t then t else T.put t id tx .nil (T.near t id up pos))∧Low B g adr' (T.ids (if id∈T.ids t then t else T.put t id tx .nil (T.near t id up pos)))∧Below B w w':=by
 have hsz:=alloc_sz w (.cells #[.int .i64 id,.int .i64 up,.int .i64 pos,.string tx] 129)
 have hf0:=hf.ext ((Below.refl _ w).alloc (Nat.le_refl _) (.cells #[.int .i64 id,.int .i64 up,.int .i64 pos,.string tx] 129))
 have hB0:Below B w (w.alloc (.cells #[.int .i64 id,.int .i64 up,.int .i64 pos,.string tx] 129)):=(Below.refl _ w).alloc hB _
 by_cases hi:id∈T.ids t
 ·rw [if_pos hi]
  have HW:=Lib.hid (where_made g adr t id up pos tx _ hf0 hi)
  have H0:=Lib.hid hf0;have HB0:=Lib.hid hB0;have HL:=Lib.hid hlow
  clear hf hlow hi hf0 hB0 hsz h3
  go_enter Tryz.func43,Tryz.ntmps43
  go_wp2_with fail
  refine HW.out.mono ?_;rintro e w1 ⟨rfl,hb1⟩
  have HB1:=Lib.hid hb1;clear hb1
  go_wp2_with fail
  go_end0
  exact ⟨rfl,adr,H0.out.ext HB1.out,HL.out,HB0.out.trans (HB1.out.mono (Nat.le_trans hB (by rw [alloc_sz];omega)))⟩
 ·rw [if_neg hi]
  have HW:=Lib.hid (where_make g adr t id up pos tx _ hf0 h3 hi)
  have HN:=Lib.hid (T.near_ok t hf.nd h3 id up pos)
  have H0:=Lib.hid hf0;have HB0:=Lib.hid hB0;have HL:=Lib.hid hlow;have HI:=Lib.hid hi
  have HND:=Lib.hid hf.nd
  clear hf hlow hi hf0 hB0 hsz h3
  go_enter Tryz.func43,Tryz.ntmps43
  go_wp2_with fail
  refine HW.out.mono ?_;rintro e w1 ⟨rfl,hb1⟩
  have hs1:=hb1.size
  rw [alloc_sz] at hs1
  have hbx:w1.heap[w.heap.size]?=some (.cells #[.int .i64 id,.int .i64 up,.int .i64 pos,.string tx] 129 (0,0)):=(hb1.block _ (by rw [alloc_sz];omega)).trans (World.alloc_heap_new w _)
  have k0:w1.cell? ⟨w.heap.size,0,none⟩=some (.int .i64 id):=by simp [World.cell?,hbx]
  have k3:w1.cell? ⟨w.heap.size,3,none⟩=some (.string tx):=by simp [World.cell?,hbx]
  clear hbx
  have hlt1:w.heap.size<w1.heap.size:=by omega
  have HF1:=Lib.hid (H0.out.ext hb1)
  have HB1:=Lib.hid hb1
  have hgc:=HF1.out.tab.cell (i:=id.toNat) (by omega)
  have hfz:=HF1.out.tab.frozen id.toNat
  have hgl:=HF1.out.size
  clear hb1 HW H0
  generalize hp:T.near t id up pos=p at HN
  go_wp2_with fail
  go_region
  go_wp2_with fail
  have hfree:=plant_new1 w1 g adr t id tx HF1.out HI.out h1 h2
  have hself':adrPut adr id w1.heap.size id=w1.heap.size:=if_pos rfl
  have hsameA:∀ j∈T.ids t,adrPut adr id w1.heap.size j=adr j:=fun j hj=>if_neg (fun e=>HI.out (by rw [←e];exact hj))
  obtain ⟨np1,np2⟩:=HN.out
  have hlow':Low B g (adrPut adr id w1.heap.size) (id::(T.ids (.nil:T)++T.ids t)):=⟨HL.out.1,fun i hi=>by
   simp only [T.ids,List.nil_append,List.mem_cons] at hi
   rcases hi with rfl | hi
   ·rw [hself'];omega
   ·rw [hsameA i hi];exact HL.out.2 i hi⟩
  have hA:=attach_frs B g (adrPut adr id w1.heap.size) t id tx .nil p _ hfree hlow' np1 (fun h0=>by
   obtain ⟨e1,_,e3,_⟩:=np2 h0
   rw [←e1] at e3
   exact ⟨T.up_mem t HND.out _ _ e3,e3⟩)
  have e1:PP (adrPut adr id w1.heap.size) id=.pointer (some ⟨w1.heap.size,0,none⟩):=congrArg (fun a=>Value.pointer (some ⟨a,0,none⟩)) hself'
  have e2:PP (adrPut adr id w1.heap.size) p.1=PP adr p.1:=T.PP_adr (hsameA _ np1)
  have e3:posv (adrPut adr id w1.heap.size) p.2=posv adr p.2:=by
   unfold posv
   split
   ·rename_i h0
    obtain ⟨e1,_,e3,_⟩:=np2 h0
    rw [←e1] at e3
    exact T.PP_adr (hsameA _ (T.up_mem t HND.out _ _ e3))
   ·rfl
  rw [e1,e2,e3] at hA
  have perm:=put_mem t id tx .nil p HND.out np1 (fun h0=>by
   obtain ⟨e1,_,e3,_⟩:=np2 h0
   rw [←e1] at e3
   exact T.up_mem t HND.out _ _ e3)
  have hBw:Below B w1 ((w1.setCell ⟨g,id.toNat,none⟩ (.pointer (some ⟨w1.heap.size,0,none⟩))).alloc (nodeO id (.string tx) nilp nilp nilp)).drew:=
   ((((Below.refl B w1).setCell (p:=⟨g,id.toNat,none⟩) HL.out.1 _).alloc (by rw [setsz];omega) _)).trans (Ext.drewN (Below.refl _ _) 1)
  clear hfree hsameA np2 e1 e2 e3 hgc hfz k0 k3
  refine hA.mono ?_
  rintro e w2 ⟨rfl,F2,B2,S2,-⟩
  have FF:=Lib.hid F2;have BB:=Lib.hid B2;have PM:=Lib.hid perm;have BW:=Lib.hid hBw;have LL:=Lib.hid hlow'
  clear hA F2 B2 perm hBw hlow' S2 hself'
  go_wp2_with fail
  go_end0
  rw [hp]
  refine ⟨rfl,_,FF.out,⟨HL.out.1,fun i hi=>LL.out.2 i (PM.out.mem_iff.1 hi)⟩,HB0.out.trans (((HB1.out.mono (by rw [alloc_sz];omega)).trans BW.out).trans BB.out)⟩
set_option maxRecDepth 100000 in
theorem apply_move (B g:Nat) (adr:Int→Nat) (t:T) (id up pos:Int) (w:World) (hf:Frs w g adr t) (hlow:Low B g adr (T.ids t)) (hB:B≤w.heap.size) (h3:3∈T.ids t) (h3u:T.upOf 3 none t=some none) (hid3:id≠3)
  (hup:id∈T.ids t→∃ u,T.upOf id none t=some (some u)) :
  Calls Tryz.prog 43 #[.pointer (some ⟨g,0,none⟩),.iface 134 (.agg #[.int .i64 id,.int .i64 up,.int .i64 pos])] w fun e w'=>e=.returned (.tuple #[]) ∧
   ∃ t',t'=(match T.get id t with | none=>t | some (x,f)=>if up=id∨up∈T.ids f then t else T.put (T.cut id t) id x f (T.near t id up pos))∧Frs w' g adr t'∧Low B g adr (T.ids t')∧Below B w w':=by
 have hsz:=alloc_sz w (.cells #[.int .i64 id,.int .i64 up,.int .i64 pos] 134)
 have hf0:=hf.ext ((Below.refl _ w).alloc (Nat.le_refl _) (.cells #[.int .i64 id,.int .i64 up,.int .i64 pos] 134))
 have hB0:Below B w (w.alloc (.cells #[.int .i64 id,.int .i64 up,.int .i64 pos] 134)):=(Below.refl _ w).alloc hB _
 have hB1:B≤w.heap.size+1:=by omega
 by_cases hi:id∈T.ids t
 ·obtain ⟨x,f,hg⟩:=T.get_some id t hi
  have hW:=where_move g adr t id up pos x f _ hf0 h3 hg
  rw [hg]
  simp only
  by_cases hq:up=id∨up∈T.ids f
  ·rw [if_pos hq] at hW ⊢
   have HW:=Lib.hid hW
   have H0:=Lib.hid hf0;have HB0:=Lib.hid hB0;have HL:=Lib.hid hlow
   clear hf hlow hi hf0 hB0 hsz h3 hW hq hg hup
   go_enter Tryz.func43,Tryz.ntmps43
   go_wp2_with fail
   refine HW.out.mono ?_;rintro e w1 ⟨rfl,hb1⟩
   have HB1:=Lib.hid hb1;clear hb1
   go_wp2_with fail
   go_end0
   exact ⟨rfl,t,rfl,H0.out.ext HB1.out,HL.out,HB0.out.trans (HB1.out.mono (by rw [alloc_sz];exact hB1))⟩
  ·obtain ⟨u,hu⟩:=hup hi
   rw [if_neg hq] at hW ⊢
   have HW:=Lib.hid hW
   have HN:=Lib.hid (T.near_ok t hf.nd h3 id up pos)
   have HQ:=Lib.hid hq
   have hnt:(T.near t id up pos).1∈T.ids (T.cut id t)∧(0<(T.near t id up pos).2→(T.near t id up pos).2∈T.ids (T.cut id t)∧T.upOf (T.near t id up pos).2 none (T.cut id t)=some (some (T.near t id up pos).1)):=by
    obtain ⟨hndc,hsub,hback,hfwd⟩:=T.cut_facts t hf.nd id x f hg
    refine ⟨?_,fun h0=>?_⟩
    ·have h3f:3∉T.ids f:=by
      intro h
      obtain ⟨q,hq',_⟩:=T.under_in t hf.nd id x f hg 3 h
      rw [h3u] at hq';cases hq'
     unfold T.near
     split
     ·rename_i hup'
      exact hback up hup' (fun e=>hq (.inl e)) (fun e=>hq (.inr e))
     ·exact hback 3 h3 (fun e=>hid3 e.symm) h3f
    ·obtain ⟨e1,e2,e3,e4⟩:=HN.out.2 h0
     rw [e1]
     have hmem:pos∈T.ids (T.cut id t):=hback pos (T.up_mem t hf.nd _ _ e3) e2 (fun hpf=>hq (by
      have:=(T.under_step t hf.nd id x f hg pos _ e3).1 hpf
      rw [e4] at this;exact this))
     exact ⟨hmem,(T.up_cut id pos t none hf.nd hmem).trans e3⟩
   have HNT:=Lib.hid hnt
   generalize T.near t id up pos=p at HN HNT HW
   have H0:=Lib.hid hf0;have HB0:=Lib.hid hB0;have HL:=Lib.hid hlow;have HI:=Lib.hid hi;have HG:=Lib.hid hg;have HU:=Lib.hid hu
   have HND:=Lib.hid hf.nd
   clear hf hlow hi hf0 hB0 hsz h3 hW hq hg hup hnt hu h3u
   go_enter Tryz.func43,Tryz.ntmps43
   go_wp2_with fail
   refine HW.out.mono ?_;rintro e w1 ⟨rfl,hb1⟩
   have hs1:=hb1.size
   rw [alloc_sz] at hs1
   have hbx:w1.heap[w.heap.size]?=some (.cells #[.int .i64 id,.int .i64 up,.int .i64 pos] 134 (0,0)):=(hb1.block _ (by rw [alloc_sz];omega)).trans (World.alloc_heap_new w _)
   have k0:w1.cell? ⟨w.heap.size,0,none⟩=some (.int .i64 id):=by simp [World.cell?,hbx]
   clear hbx HW
   have HF1:=Lib.hid (H0.out.ext hb1)
   have HB1:=Lib.hid hb1
   have hFY:=Lib.hid (find_yes g adr t id w1 HF1.out HI.out)
   clear hb1 H0
   go_wp2_with fail
   refine hFY.out.mono ?_;rintro e w2 ⟨rfl,rfl⟩
   have hD:=Lib.hid (detach_c B g adr t id u x f w2 HF1.out HG.out HU.out HL.out (by omega))
   clear hFY
   go_wp2_with fail
   refine hD.out.mono ?_;rintro e w3 ⟨rfl,hfree,hb3⟩
   have hcf:=T.cut_facts t HND.out id x f HG.out
   have hsub:=T.get_sub id t x f HG.out
   have hlow':Low B g adr (id::(T.ids f++T.ids (T.cut id t))):=⟨HL.out.1,fun i hi=>by
    simp only [List.mem_cons,List.mem_append] at hi
    rcases hi with rfl | hi | hi
    ·exact HL.out.2 _ HI.out
    ·exact HL.out.2 _ (hsub.2 _ hi)
    ·exact HL.out.2 _ (hcf.2.2.2 _ hi).1⟩
   have hA:=Lib.hid (attach_frs B g adr (T.cut id t) id x f p w3 hfree hlow' HNT.out.1 HNT.out.2)
   have PM:=Lib.hid (put_mem (T.cut id t) id x f p hcf.1 HNT.out.1 (fun h0=>(HNT.out.2 h0).1))
   have LL:=Lib.hid hlow'
   have HB3:=Lib.hid hb3
   clear hD hfree hb3 hcf hsub hlow'
   go_wp2_with fail
   refine hA.out.mono ?_
   rintro e w4 ⟨rfl,F4,B4,-,-⟩
   have FF:=Lib.hid F4;have BB:=Lib.hid B4
   clear F4 B4 hA
   go_wp2_with fail
   go_end0
   exact ⟨rfl,_,rfl,FF.out,⟨HL.out.1,fun i hi=>LL.out.2 i (PM.out.mem_iff.1 hi)⟩,HB0.out.trans (((HB1.out.mono (by rw [alloc_sz];exact hB1)).trans HB3.out).trans BB.out)⟩
 ·have HW:=Lib.hid (where_gone g adr t id up pos _ hf0 hi)
  rw [T.get_not id t hi]
  have H0:=Lib.hid hf0;have HB0:=Lib.hid hB0;have HL:=Lib.hid hlow
  clear hf hlow hi hf0 hB0 hsz h3 hup
  go_enter Tryz.func43,Tryz.ntmps43
  go_wp2_with fail
  refine HW.out.mono ?_;rintro e w1 ⟨rfl,hb1⟩
  have HB1:=Lib.hid hb1;clear hb1
  go_wp2_with fail
  go_end0
  exact ⟨rfl,t,rfl,H0.out.ext HB1.out,HL.out,HB0.out.trans (HB1.out.mono (by rw [alloc_sz];exact hB1))⟩
open Go.RowKit Go.Shelf
theorem T.Valid.len {t:T} (h:T.Valid t):(T.ids t).length≤1000:=by
 have:=T.nodup_le (T.ids t) [1,2,3,11,12,13,14,15,16,21,22,23,24,25,26,31,32,33,34,35,36] h.2.2 (fun a ha=>by
  rcases h.ids_ok a ha with h1 | h1
  ·rw [isRoot_iff] at h1;simp only [List.mem_cons,List.not_mem_nil,or_false];omega
  ·rw [isMade_iff] at h1;simp only [List.mem_cons,List.not_mem_nil,or_false];omega)
 simp at this;omega
theorem T.up_root (t:T):∀ (i:Int) (q:Option Int),T.Top i t→1≤i→i+(T.chain t).length≤4→∀ j∈T.ids t,isRoot j=false→(q=none→∃ u,T.upOf j q t=some (some u)):=by
 have good:∀ (s:T) (u:Int),∀ j∈T.ids s,∃ v,T.upOf j (some u) s=some (some v):=by
  intro s
  induction s with
  |nil=>intro u j hj;simp [T.ids] at hj
  |node a x f n ihf ihn=>
   intro u j hj
   simp only [T.ids,List.mem_cons,List.mem_append] at hj
   simp only [T.upOf]
   by_cases e:a=j
   ·rw [if_pos e];exact ⟨u,rfl⟩
   ·rw [if_neg e]
    by_cases hf:j∈T.ids f
    ·obtain ⟨v,hv⟩:=ihf a j hf;rw [hv];exact ⟨v,rfl⟩
    ·rw [T.upOf_not j _ f hf,Option.none_or]
     exact ihn u j ((hj.resolve_left (fun h=>e h.symm)).resolve_left hf)
 induction t with
 |nil=>intro i q _ _ _ j hj;simp [T.ids] at hj
 |node a x f n ihf ihn=>
  intro i q ht h1 h2 j hj hr hq
  subst hq
  simp only [T.chain,List.length_cons] at h2
  simp only [T.ids,List.mem_cons,List.mem_append] at hj
  simp only [T.upOf]
  have hne:¬a=j:=fun e=>by
   rw [←e,ht.1] at hr
   have:isRoot i=true:=(isRoot_iff i).2 ⟨h1,by omega⟩
   rw [this] at hr;cases hr
  rw [if_neg hne]
  by_cases hf:j∈T.ids f
  ·obtain ⟨v,hv⟩:=good f a j hf;rw [hv];exact ⟨v,rfl⟩
  ·rw [T.upOf_not j _ f hf,Option.none_or]
   exact ihn (i+1) none ht.2.2.2 (by omega) (by omega) j ((hj.resolve_left (fun h=>hne h.symm)).resolve_left hf) hr rfl
theorem made_rng {id:Int} (h:isMade id=true):1≤id∧id<37:=by rw [isMade_iff] at h;omega
theorem apply_c (B g:Nat) (adr:Int→Nat) (t:T) (o:Op) (w:World) (hf:Frs w g adr t) (hv:T.Valid t) (ho:opOk o=true) (hlow:Low B g adr (T.ids t)) (hB:B≤w.heap.size) :
  Calls Tryz.prog 43 #[.pointer (some ⟨g,0,none⟩),o.chg] w fun e w'=>e=.returned (.tuple #[])∧∃ adr',Frs w' g adr' (T.doT t o)∧Below B w w':=by
 obtain ⟨hm,hk,htx,hpos⟩:=T.opOk_kind ho
 obtain ⟨h31,h3u⟩:=hv.root 3 rfl
 obtain ⟨r1,r2⟩:=made_rng hm
 have hroot:isRoot o.id=false:=made_not_root _ hm
 rcases hk with hk | hk | hk
 ·have e1:o.chg=.iface 129 (.agg #[.int .i64 o.id,.int .i64 o.up,.int .i64 o.pos,.string o.text]):=by simp [Op.chg,hm,hk]
  have e2:T.doT t o=if o.id∈T.ids t then t else T.put t o.id o.text .nil (T.near t o.id o.up o.pos):=by unfold T.doT;rw [if_neg (by omega),if_pos hk]
  rw [e1,e2]
  refine (apply_make B g adr t o.id o.up o.pos o.text w hf hlow hB h31 r1 r2).mono ?_
  rintro e w' ⟨rfl,adr',h1,h2,h3⟩
  exact ⟨rfl,adr',h1,h3⟩
 ·have e1:o.chg=.iface 132 (.agg #[.int .i64 o.id,.string o.text]):=by simp [Op.chg,hm,hk]
  have e2:T.doT t o=T.setT o.id o.text t:=by unfold T.doT;rw [if_pos hk]
  rw [e1,e2]
  refine (apply_text B g adr t o.id o.text w hf hlow hB).mono ?_
  rintro e w' ⟨rfl,h1,h2⟩
  exact ⟨rfl,adr,h1,h2⟩
 ·have e1:o.chg=.iface 134 (.agg #[.int .i64 o.id,.int .i64 o.up,.int .i64 o.pos]):=by simp [Op.chg,hm,hk]
  rw [e1]
  refine (apply_move B g adr t o.id o.up o.pos w hf hlow hB h31 h3u (fun e=>by rw [e] at hroot;cases hroot) (fun hi=>T.up_root t 1 none hv.1 (by omega) (by rw [hv.2.1];decide) o.id hi hroot rfl)).mono ?_
  rintro e w' ⟨rfl,t',ht',h1,h2,h3⟩
  have e2:T.doT t o=t':=by
   rw [ht'];unfold T.doT;rw [if_neg (by omega),if_neg (by omega),if_pos hk]
   cases T.get o.id t with
   |none=>rfl
   |some p=>rfl
  rw [e2]
  exact ⟨rfl,adr,h1,h3⟩
set_option maxRecDepth 100000 in
theorem plant_no (A:Option Addr) (c:Nat) (l:List Row) (w:World) (ht:Tab w) (hr:Rd w A c l) (hok:treeOk l=false) :
  Calls Tryz.prog 42 #[.slice A l.length c] w fun e w'=>e=.returned (.tuple #[nilp,.bool false])∧Ext w w':=by
 have hm:l.length≤maxLen:=Nat.le_trans hr.1 hr.2.1
 unfold maxLen at hm
 have HO:=treeOk_c A c l w ht hr
 rw [hok] at HO
 have HO:=Lib.hid HO
 clear ht hr hok
 go_enter Tryz.func42,Tryz.ntmps42
 go_wp2_with fail
 refine HO.out.mono ?_;rintro e w1 ⟨rfl,hb⟩;have HB1:=Lib.hid hb;clear hb HO
 go_wp2_with fail
 go_ret2
 exact ⟨rfl,HB1.out⟩
set_option maxRecDepth 100000 in
theorem opDo_c (A:Option Addr) (c:Nat) (l:List Row) (o:Op) (w:World) (ht:Tab w) (hr:Rd w A c l) (hs:o.text.size≤maxLen) :
  Calls Tryz.prog 13 #[.slice A l.length c,o.val] w fun e w'=>∃ v,e=.returned v∧Own 46 w' w.heap.size v (opDo l o)∧Ext w w':=by
 have hB0:Ext w (w.alloc (oO o)):=(Below.refl _ w).alloc (Nat.le_refl _) _
 have HC:=Lib.hid (changeOf_c o _ (ht.alloc (oO o)) hs)
 have HT:=Lib.hid ht;have HR:=Lib.hid hr;have HB0:=Lib.hid hB0
 have hpos:=ht.pos
 have hval:o.val=.agg (cO o):=rfl
 rw [hval]
 clear ht hr hB0 hval
 cases hok:opOk o
 ·have HO:=Lib.hid hok
  rw [hok] at HC
  clear hok
  have hres:opDo l o=[]:=by unfold opDo;rw [HO.out,Bool.and_false];rfl
  rw [hres]
  have hp:∀ w1,Ext w w1→Calls Tryz.prog 42 #[.slice A l.length c] w1 fun e w'=>∃ v b,e=.returned (.tuple #[.pointer v,.bool b])∧Ext w1 w':=fun w1 h=>by
   cases hk:treeOk l
   ·refine (plant_no A c l w1 (HT.out.below h hpos) (HR.out.ext h) hk).mono ?_
    rintro e w' ⟨rfl,h⟩
    exact ⟨_,_,rfl,h⟩
   ·refine (plant_c A c l w1 (HT.out.below h hpos) (HR.out.ext h) hk).mono ?_
    rintro e w' ⟨g,adr,rfl,_,_,h⟩
    exact ⟨_,_,rfl,h⟩
  have HP:=Lib.hid hp
  clear hp hres
  go_enter Tryz.func13,Tryz.ntmps13
  go_wp2_with fail
  refine HC.out.mono ?_;rintro e w1 ⟨rfl,hb1⟩
  have HB1:=Lib.hid (HB0.out.trans (hb1.mono (by rw [alloc_sz];omega)));clear hb1 HC
  go_wp2_with fail
  refine (HP.out _ HB1.out).mono ?_;rintro e w2 ⟨v,b,rfl,hb2⟩
  have HB2:=Lib.hid hb2;clear hb2 HP
  go_wp2_with fail
  go_ret
  exact ⟨_,rfl,Own.nil _ _ _,HB1.out.trans (HB2.out.mono HB1.out.size)⟩
 ·have HO:=Lib.hid hok
  rw [hok] at HC
  clear hok
  cases hk:treeOk l
  ·have hres:opDo l o=[]:=by unfold opDo;rw [hk,Bool.false_and];rfl
   rw [hres]
   have hp:∀ w1,Ext w w1→_:=fun w1 h=>plant_no A c l w1 (HT.out.below h hpos) (HR.out.ext h) hk
   have HP:=Lib.hid hp
   clear hp hres hk
   go_enter Tryz.func13,Tryz.ntmps13
   go_wp2_with fail
   refine HC.out.mono ?_;rintro e w1 ⟨rfl,hb1⟩
   have HB1:=Lib.hid (HB0.out.trans (hb1.mono (by rw [alloc_sz];omega)));clear hb1 HC
   go_wp2_with fail
   refine (HP.out _ HB1.out).mono ?_;rintro e w2 ⟨rfl,hb2⟩
   have HB2:=Lib.hid hb2;clear hb2 HP
   go_wp2_with fail
   go_ret
   exact ⟨_,rfl,Own.nil _ _ _,HB1.out.trans (HB2.out.mono HB1.out.size)⟩
  ·have hres:opDo l o=T.rows 0 (T.doT (T.build l) o):=by unfold opDo;rw [hk,HO.out,Bool.true_and,if_pos rfl];exact doL_build l o hk HO.out
   rw [hres]
   have hp:∀ w1,Ext w w1→_:=fun w1 h=>plant_c A c l w1 (HT.out.below h hpos) (HR.out.ext h) hk
   have HP:=Lib.hid hp
   have HV:=Lib.hid (T.valid_build l hk).1
   clear hp hres hk
   go_enter Tryz.func13,Tryz.ntmps13
   go_wp2_with fail
   refine HC.out.mono ?_;rintro e w1 ⟨rfl,hb1⟩
   have HB1:=Lib.hid (HB0.out.trans (hb1.mono (by rw [alloc_sz];omega)));clear hb1 HC
   go_wp2_with fail
   refine (HP.out _ HB1.out).mono ?_;rintro e w2 ⟨g,adr,rfl,hf2,hl2,hb2⟩
   have HB2:=Lib.hid (HB1.out.trans (hb2.mono HB1.out.size))
   have HA:=Lib.hid (apply_c w1.heap.size g adr _ o w2 hf2 HV.out HO.out hl2 hb2.size)
   clear hb2 HP hf2 hl2
   go_wp2_with fail
   refine HA.out.mono ?_;rintro e w3 ⟨rfl,adr',hf3,hb3⟩
   have HB3:=Lib.hid (HB2.out.trans (hb3.mono HB1.out.size))
   have hv3:=T.valid_doT _ HV.out o HO.out
   have HRW:=Lib.hid (rows_c g adr' _ w3 hf3 hv3 hv3.len)
   clear hf3 hb3 HA hv3
   go_wp2_with fail
   refine HRW.out.mono ?_;rintro e w4 ⟨v,rfl,hown,hb4⟩
   have HOWN:=Lib.hid (And.intro hown hb4);clear hown hb4 HRW
   go_wp2_with fail
   go_ret
   exact ⟨v,rfl,HOWN.out.1.lower HB3.out.size,HB3.out.trans (HOWN.out.2.mono HB3.out.size)⟩
open Go.RowKit Go.Shelf Go.Lib
theorem wpList_append_run {P:Program} {w:World} {ops:Array Oper} {rest:List Oper} {o:Oper} {a:Act} {Q:Exit→Act→World→Prop} (hg:o.guard=none) (s x:Operand) (t:TypeId)
  (hop:o.op=Op.call { callee:=Callee.builtin Builtin.append,args:=#[s,x],argTypes:=#[t,t] }) {v sl v':Value} {w':World} (hs:a.eval s=v) (hx:a.eval x=sl) (hrun:(Builtin.append_ #[t,t] o.type #[v,sl]).run P w=.ok v' w')
  (hK:wpList P ops Q rest (a.put o.dst v') w'):wpList P ops Q (o::rest) a w:=by
 refine wpList_plain hg fun K hK'=>?_
 unfold Oper.wp
 simp [execOp,hop,resolve,invoke,builtin,hs,hx,hrun,Result.andThen]
 exact hK' _ _ hK
theorem ent_info:∃ i:TypeInfo,Tryz.prog.info? 35=some i∧i.zero=some (.agg #[.int .i64 0,.int .i64 0,.int .i64 0,.int .i64 0,.int .i64 0,.int .i64 0,.string ⟨#[]⟩])∧i.size=7∧i.bytes=64:=info_parts (by kernel_rfl)
theorem und_ents:Tryz.prog.underlying 24=some (.slice 35):=by kernel_rfl
set_option maxRecDepth 100000 in
set_option maxHeartbeats 1000000 in
theorem clone_row (A:Option Addr) (c:Nat) (l:List Row) (w:World) (hr:Rd w A c l) (hb:l.length≤1000000) :
  Calls Tryz.prog 37 #[.slice A l.length c] w fun e w'=>∃ v,e=.returned v∧Own 46 w' w.heap.size v l∧Ext w w':=by
 have q22:∀ (w:World) (a:Option Addr) (n c n' c':Nat),(binOp .eql 23 (.slice a n c) (.slice none n' c')).run Tryz.prog w=.ok (.bool a.isNone) w:=fun w a n c n' c'=>Lib.run_eql_slice_nil w _ _ a n c n' c' und_rows
 cases A with
 |none=>
  have hl:l=[]:=by
   cases l with
   |nil=>rfl
   |cons x l=>obtain ⟨b,off,h,_⟩:=hr.2.2.1 (by simp);cases h
  subst hl
  clear hr
  go_enter Tryz.func37,Tryz.ntmps37
  go_wp2
  go_ret
  exact ⟨_,rfl,Own.nil _ _ _,Below.refl _ _⟩
 |some a=>
  obtain ⟨i0,hi,hz0,hz1,hz2⟩:=row_info
  have hn:∀ j u,(flat l)[j]?=some u→(w.alloc (.cells #[] 46)).cell? (a.add j)=some u:=by
   intro j u hj
   have hl:0<l.length:=by
    cases l with
    |nil=>simp [flat] at hj
    |cons x l=>simp
   obtain ⟨b,off,h,hc⟩:=hr.2.2.1 hl
   cases h
   have e1:(⟨b,off,none⟩:Addr).add j=⟨b,off+j,none⟩:=by unfold Addr.add;split <;> simp_all
   rw [e1]
   exact Lib.cell?_alloc_some _ (hc j u hj)
  have happ:=run_append_own_at (P:=Tryz.prog) (w:=w.alloc (.cells #[] 46)) w.heap.size 23 23 46 i0 _ 3 32 und_rows hi hz0 hz1 hz2 rfl (by decide) _ 0 [] (World.ownsRow_made w #[] 0 (Nat.le_refl _) (Nat.zero_le _) rfl) a l.length c (flat l) (flat_length l) hn (flat_one_cell l) (by unfold maxLen;omega) (by omega) (by rw [alloc_sz];omega)
  obtain ⟨v',w1,hrun,hown,hgrow,-,-⟩:=happ
  have HOK:=Lib.hid hr.ok
  have HOWN:=Lib.hid hown;have HG:=Lib.hid hgrow
  clear hr hn hown hgrow hi hz0 hz1 hz2
  go_enter Tryz.func37,Tryz.ntmps37
  go_wp2_with (at_builtin;refine wpList_append_run rfl _ _ _ rfl rfl rfl hrun ?_)
  go_ret
  refine ⟨_,rfl,⟨?_,HOK.out⟩,?_⟩
  ·have:=HOWN.out;rwa [Nat.zero_add,List.nil_append] at this
  ·exact ((Below.refl _ w).alloc (Nat.le_refl _) _).grown HG.out (by rw [alloc_sz];omega) (by intro k hk;simp [Value.ownBlock] at hk;omega)
set_option maxRecDepth 100000 in
set_option maxHeartbeats 1000000 in
theorem clone_ent (A:Option Addr) (c:Nat) (l:List Entry) (w:World) (hr:Rd w A c l) (hb:l.length≤1000000) :
  Calls Tryz.prog 75 #[.slice A l.length c] w fun e w'=>∃ v,e=.returned v∧Own 35 w' w.heap.size v l∧Ext w w':=by
 have q22:∀ (w:World) (a:Option Addr) (n c n' c':Nat),(binOp .eql 24 (.slice a n c) (.slice none n' c')).run Tryz.prog w=.ok (.bool a.isNone) w:=fun w a n c n' c'=>Lib.run_eql_slice_nil w _ _ a n c n' c' und_ents
 cases A with
 |none=>
  have hl:l=[]:=by
   cases l with
   |nil=>rfl
   |cons x l=>obtain ⟨b,off,h,_⟩:=hr.2.2.1 (by simp);cases h
  subst hl
  clear hr
  go_enter Tryz.func75,Tryz.ntmps75
  go_wp2
  go_ret
  exact ⟨_,rfl,Own.nil _ _ _,Below.refl _ _⟩
 |some a=>
  obtain ⟨i0,hi,hz0,hz1,hz2⟩:=ent_info
  have hn:∀ j u,(flat l)[j]?=some u→(w.alloc (.cells #[] 35)).cell? (a.add j)=some u:=by
   intro j u hj
   have hl:0<l.length:=by
    cases l with
    |nil=>simp [flat] at hj
    |cons x l=>simp
   obtain ⟨b,off,h,hc⟩:=hr.2.2.1 hl
   cases h
   have e1:(⟨b,off,none⟩:Addr).add j=⟨b,off+j,none⟩:=by unfold Addr.add;split <;> simp_all
   rw [e1]
   exact Lib.cell?_alloc_some _ (hc j u hj)
  have happ:=run_append_own_at (P:=Tryz.prog) (w:=w.alloc (.cells #[] 35)) w.heap.size 24 24 35 i0 _ 7 64 und_ents hi hz0 hz1 hz2 rfl (by decide) _ 0 [] (World.ownsRow_made w #[] 0 (Nat.le_refl _) (Nat.zero_le _) rfl) a l.length c (flat l) (flat_length l) hn (flat_one_cell l) (by unfold maxLen;omega) (by omega) (by rw [alloc_sz];omega)
  obtain ⟨v',w1,hrun,hown,hgrow,-,-⟩:=happ
  have HOK:=Lib.hid hr.ok
  have HOWN:=Lib.hid hown;have HG:=Lib.hid hgrow
  clear hr hn hown hgrow hi hz0 hz1 hz2
  go_enter Tryz.func75,Tryz.ntmps75
  go_wp2_with (at_builtin;refine wpList_append_run rfl _ _ _ rfl rfl rfl hrun ?_)
  go_ret
  refine ⟨_,rfl,⟨?_,HOK.out⟩,?_⟩
  ·have:=HOWN.out;rwa [Nat.zero_add,List.nil_append] at this
  ·exact ((Below.refl _ w).alloc (Nat.le_refl _) _).grown HG.out (by rw [alloc_sz];omega) (by intro k hk;simp [Value.ownBlock] at hk;omega)
set_option maxRecDepth 100000 in
theorem treeNew_c (w:World):Calls Tryz.prog 135 #[] w fun e w'=>∃ v,e=.returned v∧Own 46 w' w.heap.size v treeNew∧Ext w w':=by
 go_enter Tryz.func135,Tryz.ntmps135
 go_wp2
 go_ret
 refine ⟨_,rfl,⟨⟨rfl,.inr ⟨w.heap.size,3,_,rfl,Nat.le_refl _,World.alloc_heap_new w _,Nat.le_refl _,by decide,rfl,rfl⟩⟩,?_⟩,(Below.refl _ w).alloc (Nat.le_refl _) _⟩
 intro r hr
 simp only [treeNew,List.mem_cons,List.not_mem_nil,or_false] at hr
 rcases hr with rfl | rfl | rfl <;> exact Nat.zero_le _
end Go.Proofs.YtecmcjfdaipfcaaGreatDoor
