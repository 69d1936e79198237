/- Plain: the row under which a change puts, and the one behind which, are in the list into which rows are put. .. Walks of the reference: a client is ok; what it shows. -/
import Derived.Test.YtecmcjfdaipfcaaGreatDoorYAB
import Derived.Test.YtecmcjfdaipfcaaGreatDoorYAJ
import Derived.RegionTactic
import Derived.Deep.RegionLaw
import Derived.BigRegion
import Derived.Test.YtecmcjfdaipfcaaGreatDoorYAI
import Derived.Deep.RegionHeld3
import Derived.Test.YtecmcjfdaipfcaaGreatDoorYAH
import Derived.Test.YtecmcjfdaipfcaaGreatDoorYAG
namespace Go.Proofs.YtecmcjfdaipfcaaGreatDoor
set_option linter.unusedVariables false
theorem wl_make {t:List Row} {o:Op} (ht:treeOk t=true) (ho:opOk o=true) (hk:o.kind=1) {u p:Int} (hw:whereL t o=some (u,p)) :
  (idx t u).isSome=true∧(0<p→(idx t p).isSome=true):=by
 obtain ⟨hv,he⟩:=T.valid_build t ht
 have h3:=hv.root 3 rfl
 have hn:=T.near_ok (T.build t) hv.2.2 h3.1 o.id o.up o.pos
 have hw':=hw
 rw [←he,T.whereL_make (T.build t) hv.2.2 o hk] at hw'
 by_cases hi:o.id∈T.ids (T.build t)
 ·rw [if_pos hi] at hw';cases hw'
 ·rw [if_neg hi] at hw'
  injection hw' with hw'
  rw [hw'] at hn
  rw [idx_some,←he,T.rows_ids]
  refine ⟨hn.1,fun h=>?_⟩
  obtain ⟨e,_,hu,_⟩:=hn.2 h
  simp only at e hu
  rw [idx_some,T.rows_ids,e]
  exact T.up_mem _ hv.2.2 _ _ hu
theorem wl_move {t:List Row} {o:Op} (ht:treeOk t=true) (ho:opOk o=true) (hk:o.kind=3) {u p:Int} (hw:whereL t o=some (u,p)) :
  ∃ k,idx t o.id=some k∧(idx (t.take k++t.drop (endOf t k)) u).isSome=true∧(0<p→(idx (t.take k++t.drop (endOf t k)) p).isSome=true):=by
 obtain ⟨hv,he⟩:=T.valid_build t ht
 have h3:=hv.root 3 rfl
 have hm3:o.id≠3:=fun e=>by have:=(T.opOk_kind ho).1;rw [e] at this;cases this
 have hn:=T.near_ok (T.build t) hv.2.2 h3.1 o.id o.up o.pos
 generalize hT:T.build t=tr at *
 have nd:=hv.2.2
 by_cases hi:o.id∈T.ids tr
 ·obtain ⟨pre,k,x,f,n,post,s⟩:=T.split o.id tr hi nd 0
  have hw':=hw
  rw [←he,T.whereL_move tr nd o hk x f s.got] at hw'
  by_cases hq:o.up=o.id∨o.up∈T.ids f
  ·rw [if_pos hq] at hw';cases hw'
  ·rw [if_neg hq] at hw'
   injection hw' with hw'
   have hidx:=s.idx nd
   have hend:=s.endOf
   have hl:T.rows 0 tr=(pre++(⟨o.id,k,x⟩::T.rows (k+1) f))++(T.rows k n++post):=by rw [s.all];simp
   have e1:pre.length+1+(T.rows (k+1) f).length=(pre++(⟨o.id,k,x⟩::T.rows (k+1) f)).length:=by simp;omega
   have htake:(T.rows 0 tr).take pre.length=pre:=by rw [s.all,List.take_left]
   have hdrop:(T.rows 0 tr).drop (pre.length+1+(T.rows (k+1) f).length)=T.rows k n++post:=by rw [e1,hl,List.drop_left]
   have hrest:(T.rows 0 tr).take pre.length++(T.rows 0 tr).drop (endOf (T.rows 0 tr) pre.length)=T.rows 0 (T.cut o.id tr):=by rw [hend,htake,hdrop,←s.cut]
   obtain ⟨hndc,hsub,hback,_⟩:=T.cut_facts tr nd o.id x f s.got
   have h3f:3∉T.ids f:=by
    intro h
    obtain ⟨q,hq,_⟩:=T.under_in tr nd o.id x f s.got 3 h
    rw [h3.2] at hq;cases hq
   refine ⟨pre.length,by rw [←he];exact hidx,?_,?_⟩
   ·rw [←he,hrest,idx_some,T.rows_ids]
    have:(T.near tr o.id o.up o.pos).1=u:=by rw [hw']
    rw [←this]
    unfold T.near
    split
    ·rename_i hu
     exact hback o.up hu (fun e=>hq (.inl e)) (fun e=>hq (.inr e))
    ·exact hback 3 h3.1 (fun e=>hm3 e.symm) h3f
   ·intro h
    rw [hw'] at hn
    obtain ⟨e,hne,hu,hup⟩:=hn.2 h
    simp only at e hu hup
    rw [←he,hrest,idx_some,T.rows_ids,e]
    rw [hup] at hu
    exact hback o.pos (T.up_mem tr nd _ _ hu) hne (fun hf=>hq ((T.under_step tr nd o.id x f s.got o.pos o.up hu).1 hf))
 ·rw [←he,T.whereL_gone tr nd o hk hi] at hw;cases hw
theorem doL_make {t:List Row} {o:Op} (hk:o.kind=1) {u p:Int} (hw:whereL t o=some (u,p)):doL t o=putL t [⟨o.id,0,o.text⟩] u p:=by
 unfold doL;rw [if_neg (by omega),hw];simp only;rw [if_pos hk]
theorem doL_move {t:List Row} {o:Op} (hk:o.kind=3) {u p:Int} (hw:whereL t o=some (u,p)) {k:Nat} (hi:idx t o.id=some k):doL t o=putL (t.take k++t.drop (endOf t k)) ((t.drop k).take (endOf t k - k)) u p:=by
 unfold doL;rw [if_neg (by omega),hw];simp only;rw [if_neg (by omega),hi];rfl
theorem doL_none {t:List Row} {o:Op} (hk:o.kind≠2) (hw:whereL t o=none):doL t o=t:=by
 unfold doL;rw [if_neg hk,hw]
theorem doL_text {t:List Row} {o:Op} (hk:o.kind=2) {k:Nat} (hi:idx t o.id=some k) (hl:k<t.length):doL t o=t.set k ⟨t[k].id,t[k].depth,o.text⟩:=by
 unfold doL;rw [if_pos hk,hi]
 simp only [List.getD_eq_getElem?_getD,List.getElem?_eq_getElem hl,Option.getD_some]
theorem doL_text_no {t:List Row} {o:Op} (hk:o.kind=2) (hi:idx t o.id=none):doL t o=t:=by unfold doL;rw [if_pos hk,hi]
open Go.RowKit
theorem treeOkF_rows (l:List Row):∀ (seen:List Int) (R D:Int),treeOkF seen R D l=true→∀ r∈l,rowOk r=true:=by
 induction l with
 |nil=>intro _ _ _ _ r hr;cases hr
 |cons x l ih=>
  intro seen R D h r hr
  simp only [treeOkF,Bool.and_eq_true] at h
  obtain ⟨⟨⟨h1,_⟩,_⟩,h2⟩:=h
  rcases List.mem_cons.1 hr with rfl | hr
  ·exact h1
  ·split at h2
   ·rw [Bool.and_eq_true] at h2;exact ih _ _ _ h2.2 r hr
   ·exact ih _ _ _ h2 r hr
theorem treeOk_rows_ok {t:List Row} (h:treeOk t=true):∀ r∈t,rowOk r=true:=treeOkF_rows t _ _ _ h
theorem step_append_run {P:Program} {ops:Array Oper} {o:Oper} {a:Act} {w:World} {K:Act→World→Prop} {Q:Exit→Act→World→Prop} {E:Prop}
  (hg:o.guard=none) (s x:Operand) (t:TypeId) (hop:o.op=Op.call { callee:=Callee.builtin Builtin.append,args:=#[s,x],argTypes:=#[t,t] })
  {v sl v':Value} {w':World} (hs:a.eval s=v) (hx:a.eval x=sl) (hrun:(Builtin.append_ #[t,t] o.type #[v,sl]).run P w=.ok v' w')
  (hK:K (a.put o.dst v') w'):if Region.wanted o (yielded ops a.tmps)=true then Oper.wp P o a w K Q else E:=by
 have hw:Region.wanted o (yielded ops a.tmps)=true:=by simp [Region.wanted,hg]
 rw [if_pos hw]
 unfold Oper.wp
 simp [execOp,hop,resolve,invoke,builtin,hs,hx,hrun,Result.andThen]
 exact hK
set_option maxRecDepth 100000 in
set_option maxHeartbeats 4000000 in
theorem do_s (A:Option Addr) (c:Nat) (t:List Row) (o:Op) (w:World) (hr:Rd w A c t) (ht:treeOk t=true) (ho:opOk o=true) (hs:o.text.size≤maxLen) :
  Calls Tryz.prog 74 #[.slice A t.length c,o.val] w fun e w'=>∃ v,e=.returned v∧Own 46 w' w.heap.size v (doL t o)∧Ext w w':=by
 show Calls Tryz.prog 74 #[.slice A t.length c,.agg (cO o)] w _
 have hl:=treeOk_len ht
 have hok:=treeOk_rows_ok ht
 have hd:∀ r∈t,0≤r.depth∧r.depth≤18:=fun r hr=>by have:=rowOk_id (hok r hr);exact ⟨this.2.2.1,this.2.2.2⟩
 have hE:Ext w (w.alloc (oO o)):=(Below.refl _ w).alloc (Nat.le_refl _) _
 have hbx:=World.alloc_heap_new w (oO o)
 have hrw:=hr.alloc (oO o)
 generalize hW0:w.alloc (oO o)=W0 at hE hbx hrw
 have HW0:=Lib.hid hW0
 have HE:=Lib.hid hE;have HBX:=Lib.hid hbx;have HR:=Lib.hid hrw;have HOK:=Lib.hid hok;have HD:=Lib.hid hd;have HT:=Lib.hid ht;have HO:=Lib.hid ho
 have HA:=Lib.hid (at_s A c t o.id W0 hrw)
 have hcap:=hr.1
 have hlt0:w.heap.size<W0.heap.size:=blk_lt hbx
 have HWH:=Lib.hid (where_s A c t o W0 hrw hl hok)
 clear hE hbx hrw hok hd ht ho hr hW0
 by_cases hk2:o.kind=2
 ·have hk2':(o.kind == 2)=true:=by simp [hk2]
  have hs0:=HE.out.size
  obtain ⟨v3,w3,hrun,hown3,hg3⟩:=app_at el_row (own_made (e:=46) (α:=Row) W0 w.heap.size hs0) (HR.out.alloc (.cells #[] 46)) (by simp;omega) (by rw [alloc_sz];omega)
  have hB3:=(own_made (e:=46) (α:=Row) W0 w.heap.size hs0).over (HE.out.alloc hs0 (.cells #[] 46)) hg3 (Nat.le_refl _) (by rw [alloc_sz];omega)
  rw [List.nil_append] at hown3
  have hbx3:=(hg3.block w.heap.size (by rw [alloc_sz];omega) (fun e=>by simp only [Value.ownBlock,Option.some.injEq] at e;omega)).trans ((Below.heap_alloc W0 _ w.heap.size hlt0).trans HBX.out)
  have HO3:=Lib.hid hown3;have HB3:=Lib.hid hB3;have HBX3:=Lib.hid hbx3
  clear hown3 hB3 hg3 hbx3 HWH
  cases hx:idx t o.id with
  |none=>
   have hat:atI t o.id=-1:=by unfold atI;rw [hx]
   rw [hat] at HA
   have HX:Hid (doL t o=t):=doL_text_no hk2 hx
   clear hat hx hk2
   go_enter Tryz.func74,Tryz.ntmps74
   go_wp2_with fail
   rw [HW0.out]
   refine HA.out.mono ?_;rintro e w1 ⟨rfl,hw1⟩
   rw [hw1]
   obtain ⟨d0,d1,d2,d3,d4,df⟩:=five_cells HBX.out
   go_wp2_with (at_builtin;refine wpList_append_run rfl _ _ _ rfl rfl rfl hrun ?_)
   go_ret
   exact ⟨_,rfl,by rw [HX.out];exact HO3.out,HB3.out⟩
  |some k=>
   have hat:atI t o.id=k:=by unfold atI;rw [hx]
   rw [hat] at HA
   have hkl:=idx_lt hx
   have HX:Hid (doL t o=t.set k ⟨t[k].id,t[k].depth,o.text⟩):=doL_text hk2 hx hkl
   obtain ⟨g,cap,rfl,hg0,hg1,hfz,hgc⟩:=HO3.out.some_ (by omega)
   obtain ⟨hst,hgs⟩:=HO3.out.store k hkl ⟨t[k].id,t[k].depth,o.text⟩ hs 2 (.string o.text) (by decide) rfl
   have hBS:=HB3.out.setCell (p:=⟨g,k*3+2,none⟩) hg0 (.string o.text)
   have HST:=Lib.hid hst;have HBS:=Lib.hid hBS
   have f3:=hfz (k*3+2)
   obtain ⟨y0,y1,y2,y3,y4,yf⟩:=five_cells HBX3.out
   obtain ⟨bb,oo,ee,hbb,r0,r1,r2⟩:=row_at (A:=some ⟨g,0,none⟩) (by obtain ⟨A9,c9,e9,r9⟩:=HO3.out.rd;cases e9;exact r9) k hkl
   cases ee
   simp only [Nat.zero_add] at r0 r1 r2
   have hkl':(k:Int)<t.length:=by omega
   clear hat hx hk2 hst hgs hBS hfz
   go_enter Tryz.func74,Tryz.ntmps74
   go_wp2_with fail
   rw [HW0.out]
   refine HA.out.mono ?_;rintro e w1 ⟨rfl,hw1⟩
   rw [hw1]
   obtain ⟨d0,d1,d2,d3,d4,df⟩:=five_cells HBX.out
   go_wp2_with (at_builtin;refine wpList_append_run rfl _ _ _ rfl rfl rfl hrun ?_)
   go_ret
   exact ⟨_,rfl,by rw [HX.out];exact HST.out,HBS.out⟩
 have hk2':(o.kind == 2)=false:=by simp [hk2]
 have hoval:o.val=.agg (cO o):=rfl
 rw [hoval] at HWH
 have hO:=HO.out
 obtain ⟨-,hkind,-,-⟩:=T.opOk_kind hO
 have hlts:w.heap.size+1≤W0.heap.size:=hlt0
 cases hw:whereL t o with
 |none=>
  rw [hw] at HWH
  have HX:Hid (doL t o=t):=doL_none hk2 hw
  clear hw hk2 hkind hoval hO
  generalize hat:atI t o.id=ai at HA
  clear hat
  go_enter Tryz.func74,Tryz.ntmps74
  go_wp2_with fail
  rw [HW0.out]
  refine HA.out.mono ?_;rintro e w1 ⟨rfl,hw1⟩
  rw [hw1]
  obtain ⟨d0,d1,d2,d3,d4,df⟩:=five_cells HBX.out
  go_wp2_with fail
  refine HWH.out.mono ?_;rintro e w2 ⟨rfl,hb2⟩
  have hE2:Ext w w2:=HE.out.trans (hb2.mono HE.out.size)
  have hs2:=hE2.size
  obtain ⟨v3,w3,hrun,hown3,hg3⟩:=app_at el_row (own_made (e:=46) (α:=Row) w2 w.heap.size hs2) ((HR.out.ext hb2).alloc (.cells #[] 46)) (by simp;omega) (by rw [alloc_sz];omega)
  have hB3:=(own_made (e:=46) (α:=Row) w2 w.heap.size hs2).over (hE2.alloc hs2 (.cells #[] 46)) hg3 (Nat.le_refl _) (by rw [alloc_sz];omega)
  rw [List.nil_append] at hown3
  have HO3:=Lib.hid hown3;have HB3:=Lib.hid hB3
  clear hown3 hg3 hB3 hE2 hb2 d0 d1 d2 d3 d4 df
  unfold whV
  go_wp2_with (at_builtin;refine wpList_append_run rfl _ _ _ rfl rfl rfl hrun ?_)
  go_ret
  exact ⟨_,rfl,by rw [HX.out];exact HO3.out,HB3.out⟩
 |some q=>
  obtain ⟨u,p⟩:=q
  rw [hw] at HWH
  by_cases hk1:o.kind=1
  ·have hk1':(o.kind == 1)=true:=by simp [hk1]
   have HX:Hid (doL t o=putL t [⟨o.id,0,o.text⟩] u p):=doL_make hk1 hw
   obtain ⟨hu,hp⟩:=wl_make HT.out hO hk1 hw
   obtain ⟨ku,hku⟩:=Option.isSome_iff_exists.1 hu
   have HKU:=Lib.hid hku;have HP:=Lib.hid hp
   clear hw hk1 hk2 hkind hoval hO hu hp hku
   generalize hat:atI t o.id=ai at HA
   clear hat
   go_enter Tryz.func74,Tryz.ntmps74
   go_wp2_with fail
   rw [HW0.out]
   refine HA.out.mono ?_;rintro e w1 ⟨rfl,hw1⟩
   rw [hw1]
   obtain ⟨d0,d1,d2,d3,d4,df⟩:=five_cells HBX.out
   go_wp2_with fail
   refine HWH.out.mono ?_;rintro e w2 ⟨rfl,hb2⟩
   have hE2:Ext w w2:=HE.out.trans (hb2.mono HE.out.size)
   have hs2:=hE2.size
   clear d0 d1 d2 d3 d4 df
   obtain ⟨d0,d1,d2,d3,d4,df⟩:=five_cells ((hb2.block w.heap.size hlt0).trans HBX.out)
   have hR2:=HR.out.ext hb2
   have HE2:=Lib.hid hE2;have HR2:=Lib.hid hR2
   clear hE2 hb2 hR2
   unfold whV
   go_wp2_with fail
   have hbox:=rd_box (α:=Row) w2 ⟨o.id,0,o.text⟩ hs #[.int .i64 o.id,.int .i64 0,.string o.text] rfl 46
   refine (put_s A c t (some ⟨w2.heap.size,0,none⟩) 1 [⟨o.id,0,o.text⟩] u p ku _ (HR2.out.alloc _) hbox hl (by simp) (by simp) HD.out (by intro r hr;simp only [List.mem_singleton] at hr;subst hr;exact ⟨by simp,by simp⟩) HKU.out HP.out).mono ?_
   rintro e w4 ⟨v4,rfl,hown4,hb4⟩
   have hB4:Ext w w4:=(HE2.out.alloc hs2 _).trans (hb4.mono (by rw [alloc_sz];omega))
   have HO4:=Lib.hid (hown4.lower (show w.heap.size≤_ by rw [alloc_sz];omega));have HB4:=Lib.hid hB4
   clear hown4 hb4 hB4
   go_wp2_with fail
   go_ret
   exact ⟨_,rfl,by rw [HX.out];exact HO4.out,HB4.out⟩
  ·have hk1':(o.kind == 1)=false:=by simp [hk1]
   have hk3:o.kind=3:=by omega
   obtain ⟨k,hik,hu,hp⟩:=wl_move HT.out hO hk3 hw
   have HX:Hid (doL t o=putL (t.take k++t.drop (endOf t k)) ((t.drop k).take (endOf t k - k)) u p):=doL_move hk3 hw hik
   have hat:atI t o.id=k:=by unfold atI;rw [hik]
   rw [hat] at HA
   have hkl:=idx_lt hik
   obtain ⟨her0,her1⟩:=endOf_range t k hkl
   obtain ⟨ku,hku⟩:=Option.isSome_iff_exists.1 hu
   have HKU:=Lib.hid hku;have HP:=Lib.hid hp
   obtain ⟨b,off,hAe,-,-,-,-⟩:=row_at HR.out k hkl
   have HEN:=Lib.hid (fun W (h:Rd W A c t)=>end_s A c t k W h hkl)
   generalize endOf t k=en at *
   clear hw hk1 hk2 hk3 hkind hoval hO hu hp hku hat hik
   subst hAe
   go_enter Tryz.func74,Tryz.ntmps74
   go_wp2_with fail
   rw [HW0.out]
   refine HA.out.mono ?_;rintro e w1 ⟨rfl,hw1⟩
   rw [hw1]
   obtain ⟨d0,d1,d2,d3,d4,df⟩:=five_cells HBX.out
   go_wp2_with fail
   refine HWH.out.mono ?_;rintro e w2 ⟨rfl,hb2⟩
   have hE2:Ext w w2:=HE.out.trans (hb2.mono HE.out.size)
   clear d0 d1 d2 d3 d4 df
   obtain ⟨d0,d1,d2,d3,d4,df⟩:=five_cells ((hb2.block w.heap.size hlt0).trans HBX.out)
   have hR2:=HR.out.ext hb2
   have HE2:=Lib.hid hE2;have HR2:=Lib.hid hR2
   clear hE2 hb2 hR2
   unfold whV
   go_wp2_with fail
   refine (HEN.out w2 HR2.out).mono ?_;rintro e w5 ⟨rfl,n5,hw5⟩
   have hE5:Ext w w5:=by rw [hw5];exact Ext.drewN HE2.out _
   have hR5:Rd w5 (some ⟨b,off,none⟩) c t:=by rw [hw5];exact HR2.out
   have hs5:=hE5.size
   clear hw5 d0 d1 d2 d3 d4 df
   have hszr:Flat.sz Row=3:=rfl
   have hsl:=fun (W:World)=>run_mid el_row (some ⟨b,off,none⟩) t.length c k en (by omega) (by omega) W
   have hrm:=(hR5.alloc (.cells #[] 46)).mid k en (by omega)
   have hlm:((t.drop k).take (en - k)).length=en - k:=by rw [List.length_take,List.length_drop];omega
   have hsl2:=fun (W:World)=>run_cut el_row (some ⟨b,off,none⟩) t.length c en her1 W
   have hrc:=hR5.from_ en her1
   simp only [hszr] at hsl hrm hsl2 hrc
   generalize fromA (some ⟨b,off,none⟩) c k 3=A7 at hsl hrm
   generalize fromA (some ⟨b,off,none⟩) c en 3=A8 at hsl2 hrc
   obtain ⟨RS,hRS⟩:∃ RS,RS=(t.drop k).take (en - k):=⟨_,rfl⟩
   rw [←hRS] at hrm hlm HX
   obtain ⟨v6,w6,hrun,hown6,hg6⟩:=app_at el_row (own_made (e:=46) (α:=Row) w5 w.heap.size hs5) hrm (by rw [hlm];simp;omega) (by rw [alloc_sz];omega)
   have hB6:=(own_made (e:=46) (α:=Row) w5 w.heap.size hs5).over (hE5.alloc hs5 (.cells #[] 46)) hg6 (Nat.le_refl _) (by rw [alloc_sz];omega)
   have hbelow6:Below w5.heap.size w5 w6:=(own_made (e:=46) (α:=Row) w5 w5.heap.size (Nat.le_refl _)).over ((Below.refl _ _).alloc (Nat.le_refl _) _) hg6 (Nat.le_refl _) (by rw [alloc_sz];omega)
   rw [hlm] at hrun
   rw [List.nil_append] at hown6
   obtain ⟨A6,c6,rfl,-⟩:=hown6.rd
   have HLM:=Lib.hid hlm;have HRS:=Lib.hid hRS
   clear hlm hRS
   go_wp2_with (at_builtin;refine wpList_append_run rfl _ _ _ rfl rfl rfl hrun ?_)
   have hs6:=hB6.size
   have hB6d:Ext w w6.drew:=Ext.drewN hB6 1
   have hlk:(t.take k).length=k:=by rw [List.length_take];omega
   have hR6:=hR5.ext hbelow6
   have h7:=app_at el_row (own_made (e:=46) (α:=Row) w6.drew w6.heap.size (Nat.le_refl _)) (((hR6.drewN 1).alloc (.cells #[] 46)).take k) (by rw [hlk];simp;omega) (by rw [alloc_sz];exact Nat.le_succ _)
   rw [hlk] at h7
   obtain ⟨v7,w7,hrun7,hown7,hg7⟩:∃ v' w',(Builtin.append_ #[23,23] 23 #[.slice (some ⟨w6.heap.size,0,none⟩) 0 0,.slice (some ⟨b,off,none⟩) k c]).run Tryz.prog (w6.alloc (.cells #[] 46)).drew=.ok v' w'∧Own 46 w' w6.heap.size v' ([]++t.take k)∧(w6.drew.alloc (.cells #[] 46)).grownBy w' (Value.slice (some ⟨w6.heap.size,0,none⟩) 0 0).ownBlock:=h7
   rw [List.nil_append] at hown7
   have hb67:Below w6.heap.size w6 w7:=(own_made (e:=46) (α:=Row) w6.drew w6.heap.size (Nat.le_refl _)).over ((Ext.drewN (Below.refl w6.heap.size w6) 1).alloc (Nat.le_refl _) (.cells #[] 46)) hg7 (Nat.le_refl _) (by rw [alloc_sz];exact Nat.le_succ _)
   have hB7:Ext w w7:=hB6.trans (hb67.mono hs6)
   have hs7:=hB7.size
   have hrc7:=(hrc.ext hbelow6).ext hb67
   have hown7l:=hown7.lower hs6
   obtain ⟨RT,hRT⟩:∃ RT,RT=t.take k++t.drop en:=⟨_,rfl⟩
   obtain ⟨v8,w8,hrun8,hown8,hg8⟩:=app_at el_row hown7l hrc7 (by simp;omega) hs7
   have hB8:=hown7l.over hB7 hg8 (Nat.le_refl _) hs7
   rw [List.length_drop] at hrun8
   rw [←hRT] at hown8 HX HKU HP
   have h68:Own 46 w8 w.heap.size (.slice A6 RS.length c6) RS:=by
    refine (hown6.below hb67).grown hg8 ?_
    cases hv6:(Value.slice A6 RS.length c6).ownBlock with
    |none=>exact .inl rfl
    |some g=>
     refine .inr fun e9=>?_
     have h1:=(hown6.blk g hv6).2
     have h2:=(hown7.blk g e9.symm).1
     omega
   obtain ⟨A9,c9,rfl,hr9⟩:=hown8.rd
   obtain ⟨A10,c10,e10,hr10⟩:=h68.rd
   cases e10
   have hRSl:RS.length≤1000:=by rw [HLM.out];omega
   have hRS0:0<RS.length:=by rw [HLM.out];omega
   have hRTl:RT.length≤1000:=by rw [hRT];simp;omega
   have hdS:∀ r∈RS,0≤r.depth∧r.depth≤18:=fun r hr=>HD.out r (by rw [HRS.out] at hr;exact List.mem_of_mem_drop (List.mem_of_mem_take hr))
   have hdT:∀ r∈RT,0≤r.depth∧r.depth≤18:=fun r hr=>HD.out r (by
    rw [hRT] at hr
    rcases List.mem_append.1 hr with hr | hr
    ·exact List.mem_of_mem_take hr
    ·exact List.mem_of_mem_drop hr)
   have HPUT:=Lib.hid (put_s A9 c9 RT A6 c6 RS u p ku w8 hr9 hr10 hRTl hRSl hRS0 hdT hdS HKU.out HP.out)
   have HB8:=Lib.hid hB8
   clear hR5 hR6 hown6 hg6 hB6 hbelow6 hB6d hown7 hown7l hg7 hB7 hb67 hrc7 hrc hrm hown8 hg8 hB8 h68 hr9 hr10 hdS hdT hRSl hRS0 hRTl hRT hrun hlk
   have hkc:k≤c:=by omega
   have henc:en≤t.length:=her1
   go_region_law (first | (refine step_append_run rfl _ _ _ rfl rfl rfl hrun7 ?_) | (refine step_append_run rfl _ _ _ rfl rfl rfl hrun8 ?_))
   go_wp2_with fail
   refine HPUT.out.mono ?_
   rintro e w11 ⟨v11,rfl,hown11,hb11⟩
   have HO11:=Lib.hid (hown11.lower HB8.out.size);have HB11:=Lib.hid (HB8.out.trans (hb11.mono HB8.out.size))
   clear hown11 hb11
   go_wp2_with fail
   go_ret
   exact ⟨_,rfl,by rw [HX.out];exact HO11.out,HB11.out⟩
open Go.RowKit
set_option maxRecDepth 100000 in
set_option maxHeartbeats 1000000 in
theorem seq_s (A:Option Addr) (c:Nat) (l:List Entry) (who:Int) (w:World) (hr:Rd w A c l) :
  Calls Tryz.prog 97 #[.slice A l.length c,.int .i64 who] w fun e w'=>e=.returned (.int .i64 (cntW l who))∧w'=w:=by
 have hm:l.length≤maxLen:=Nat.le_trans hr.1 hr.2.1
 unfold maxLen at hm
 have HR:=Lib.hid hr
 clear hr
 go_enter Tryz.func97,Tryz.ntmps97
 go_wp2_with fail
 go_loop [5,6] (fun n i=>∃ k:Nat,k≤l.length∧i=.int .i64 k∧n=.int .i64 (cntW (l.take k) who)) (fun _ i=>l.length - (RowKit.intOf i).toNat)
 case atStart=>exact ⟨0,Nat.zero_le _,rfl,by simp [cntW]⟩
 case round=>
  obtain ⟨k,hk,rfl,rfl⟩:=hrel
  have hcl:=cntW_le (l.take k) who
  rw [List.length_take] at hcl
  by_cases hlt:k<l.length
  ·obtain ⟨b,off,rfl,hbl,c0,c1,c2,c3,c4,c5,c6⟩:=ent_at HR.out k hlt
   have HN:=Lib.hid (cntW_take l k hlt who)
   by_cases he:l[k].who=who
   ·have he':(l[k].who == who)=true:=by simp [he]
    have HN2:Hid (cntW (l.take (k+1)) who=cntW (l.take k) who+1):=by show _=_;rw [HN.out,if_pos he]
    clear he c1 c2 c3 c4 c5 c6
    go_wp2_with fail
    go_round
    case rel=>exact ⟨k+1,by omega,by go_num,by rw [HN2.out];go_num⟩
    case measure=>simp [RowKit.intOf];omega
   ·have he':(l[k].who == who)=false:=by simp [he]
    have HN2:Hid (cntW (l.take (k+1)) who=cntW (l.take k) who):=by show _=_;rw [HN.out,if_neg he];rfl
    clear he c1 c2 c3 c4 c5 c6
    go_wp2_with fail
    go_round
    case rel=>exact ⟨k+1,by omega,by go_num,by rw [HN2.out]⟩
    case measure=>simp [RowKit.intOf];omega
  ·have hkl:k=l.length:=by omega
   have HX:Hid (cntW (l.take k) who=cntW l who):=by show _=_;rw [hkl,List.take_length]
   clear hkl
   go_wp2_with fail
   go_ret
   exact ⟨by rw [←HX.out];rfl,rfl⟩
set_option maxRecDepth 100000 in
set_option maxHeartbeats 4000000 in
theorem logOk_s (A:Option Addr) (c:Nat) (l:List Entry) (w:World) (hr:Rd w A c l) (hW:∀ e∈l,OpW e.op) :
  Calls Tryz.prog 96 #[.slice A l.length c] w fun x w'=>x=.returned (.bool (logOk l))∧Ext w w':=by
 have hm:l.length≤maxLen:=Nat.le_trans hr.1 hr.2.1
 unfold maxLen at hm
 have hcap:=hr.1
 have HR:=Lib.hid hr;have HW:=Lib.hid hW
 clear hr hW
 go_enter Tryz.func96,Tryz.ntmps96
 go_wp2_with fail
 go_loopg [3] l.length (fun gk i wr=>∃ k:Nat,k≤l.length∧Hid (gk=l.length - k)∧i=.int .i64 k∧Hid (∀ j,j<k→goodAt l j=true)∧Hid (Ext w wr))
 case atStart=>exact ⟨0,Nat.zero_le _,rfl,rfl,fun _ h=>by omega,Below.refl _ _⟩
 case round=>
  obtain ⟨k,hk,HK,rfl,HG,HB⟩:=hrel
  by_cases hlt:k<l.length
  ·have hRr:=HR.out.ext HB.out
   obtain ⟨b,off,rfl,hbl,c0,c1,c2,c3,c4,c5,c6⟩:=ent_at hRr k hlt
   have hE:=entryOk_s l[k] wr.drew (HR.out.okAt k hlt) (HW.out _ (List.getElem_mem hlt))
   simp only [Entry.val] at hE
   have HG1:=Lib.hid (goodAt_lt l k hlt)
   have HRr:=Lib.hid hRr
   have hkc:k≤c:=by omega
   have hlt':(k:Int)<l.length:=by omega
   have hlk:(l.take k).length=k:=by rw [List.length_take];omega
   have hsq:=fun (W:World) (h:Rd W (some ⟨b,off,none⟩) c l)=>seq_s (some ⟨b,off,none⟩) c (l.take k) l[k].who W (h.take k)
   simp only [hlk] at hsq
   have HSQ:=Lib.hid hsq
   have hcl:=cntW_le (l.take k) l[k].who
   rw [hlk] at hcl
   have hq0:IntKind.i64.wrap ((cntW (l.take k) l[k].who:Int)+1)=(cntW (l.take k) l[k].who:Int)+1:=by rw [IntKind.wrap_i64];omega
   clear hRr hsq hlk
   cases hok:entryOk l[k]
   ·rw [hok] at hE HG1
    have HE:=Lib.hid hE
    clear hE hok
    go_wp2_with fail
    refine wp_region_any (by kernel_rfl) ?_
    change wpAny _ _ _ _ _ _ _ (World.drew _)
    refine wpAny_take (i:=0) (v:=?_) rfl (by kernel_rfl) (by kernel_rfl) (by kernel_rfl) (fun _ _ _ h=>h) (Or.inl ⟨by rfl,?_⟩) ?_
    rotate_left
    ·(intro w;go_simp;try with_reducible rfl)
    refine wpAny_take (i:=1) (v:=?_) rfl (by kernel_rfl) (by kernel_rfl) (by kernel_rfl) (fun _ _ _ h=>h) (Or.inl ⟨by rfl,?_⟩) ?_
    rotate_left
    ·(intro w;go_simp;try with_reducible rfl)
    refine wpAny_take (i:=2) (v:=?_) rfl (by kernel_rfl) (by kernel_rfl) (by kernel_rfl) (fun _ _ _ h=>h) (Or.inl ⟨by rfl,?_⟩) ?_
    rotate_left
    ·(intro w;go_simp;try with_reducible rfl)
    refine wpAny_ready (rs:=[3]) (by kernel_rfl) (by simp) ?_
    refine AllReady.cons rfl (fun K hK=>?_) AllReady.nil
    go_simp
    refine hK _ _ ?_;clear hK K
    refine wpAny_ready (rs:=[4]) (by kernel_rfl) (by simp) ?_
    refine AllReady.cons rfl (fun K hK=>?_) AllReady.nil
    go_simp
    go_wp2_with (go_at_call 49;refine HE.out.mono ?_;rintro e w1 ⟨rfl,hb1⟩;obtain ⟨hc1,hf1⟩:=bcell hb1;have HB1:=Lib.hid hb1)
    refine wpAny_ready (rs:=[5]) (by kernel_rfl) (by simp) ?_
    refine AllReady.cons rfl (fun K hK=>?_) AllReady.nil
    go_simp
    refine hK _ _ ?_;clear hK K
    refine wpAny_ready (rs:=[6]) (by kernel_rfl) (by simp) ?_
    refine AllReady.cons rfl (fun K hK=>?_) AllReady.nil
    go_simp
    refine hK _ _ ?_;clear hK K
    refine any_skip 7 rfl (by kernel_rfl) (by kernel_rfl) (by kernel_rfl) (fun _ _ _ h=>h) (by kernel_rfl) ?_
    refine any_skip 8 rfl (by kernel_rfl) (by kernel_rfl) (by kernel_rfl) (fun _ _ _ h=>h) (by kernel_rfl) ?_
    refine any_skip 9 rfl (by kernel_rfl) (by kernel_rfl) (by kernel_rfl) (fun _ _ _ h=>h) (by kernel_rfl) ?_
    refine any_skip 10 rfl (by kernel_rfl) (by kernel_rfl) (by kernel_rfl) (fun _ _ _ h=>h) (by kernel_rfl) ?_
    refine any_skip 11 rfl (by kernel_rfl) (by kernel_rfl) (by kernel_rfl) (fun _ _ _ h=>h) (by kernel_rfl) ?_
    refine any_skip 12 rfl (by kernel_rfl) (by kernel_rfl) (by kernel_rfl) (fun _ _ _ h=>h) (by kernel_rfl) ?_
    refine any_skip 13 rfl (by kernel_rfl) (by kernel_rfl) (by kernel_rfl) (fun _ _ _ h=>h) (by kernel_rfl) ?_
    refine any_skip 14 rfl (by kernel_rfl) (by kernel_rfl) (by kernel_rfl) (fun _ _ _ h=>h) (by kernel_rfl) ?_
    refine any_skip 15 rfl (by kernel_rfl) (by kernel_rfl) (by kernel_rfl) (fun _ _ _ h=>h) (by kernel_rfl) ?_
    refine any_skip 16 rfl (by kernel_rfl) (by kernel_rfl) (by kernel_rfl) (fun _ _ _ h=>h) (by kernel_rfl) ?_
    refine any_skip 17 rfl (by kernel_rfl) (by kernel_rfl) (by kernel_rfl) (fun _ _ _ h=>h) (by kernel_rfl) ?_
    refine any_skip 18 rfl (by kernel_rfl) (by kernel_rfl) (by kernel_rfl) (fun _ _ _ h=>h) (by kernel_rfl) ?_
    refine any_skip 19 rfl (by kernel_rfl) (by kernel_rfl) (by kernel_rfl) (fun _ _ _ h=>h) (by kernel_rfl) ?_
    refine any_skip 20 rfl (by kernel_rfl) (by kernel_rfl) (by kernel_rfl) (fun _ _ _ h=>h) (by kernel_rfl) ?_
    refine any_skip 21 rfl (by kernel_rfl) (by kernel_rfl) (by kernel_rfl) (fun _ _ _ h=>h) (by kernel_rfl) ?_
    refine any_skip 22 rfl (by kernel_rfl) (by kernel_rfl) (by kernel_rfl) (fun _ _ _ h=>h) (by kernel_rfl) ?_
    refine wpAny_ready (rs:=[23]) (by kernel_rfl) (by simp) ?_
    refine AllReady.cons rfl (fun K hK=>?_) AllReady.nil
    go_simp
    refine hK _ _ ?_;clear hK K
    refine wpAny_done (by kernel_rfl) ?_ _
    go_wp2_with fail
    go_ret
    exact ⟨by rw [logOk_false l k hlt HG1.out];rfl,HB.out.trans ((Ext.drewN (Below.refl _ _) 1).trans (HB1.out.mono HB.out.size))⟩
   ·rw [hok] at hE HG1
    have HE:=Lib.hid hE
    clear hE hok
    have hq:(l[k].seq != (cntW (l.take k) l[k].who:Int)+1)=true∨(l[k].seq != (cntW (l.take k) l[k].who:Int)+1)=false:=by cases (l[k].seq != (cntW (l.take k) l[k].who:Int)+1) <;> simp
    go_wp2_with fail
    have E0:wr.drew.cell? ⟨b,off+k*7,none⟩=some (.int .i64 l[k].who)∧wr.drew.cell? ⟨b,off+k*7+1,none⟩=some (.int .i64 l[k].seq)∧wr.drew.cell? ⟨b,off+k*7+2,none⟩=some (.int .i64 l[k].op.kind)∧wr.drew.cell? ⟨b,off+k*7+3,none⟩=some (.int .i64 l[k].op.id)∧wr.drew.cell? ⟨b,off+k*7+4,none⟩=some (.int .i64 l[k].op.up)∧wr.drew.cell? ⟨b,off+k*7+5,none⟩=some (.int .i64 l[k].op.pos)∧wr.drew.cell? ⟨b,off+k*7+6,none⟩=some (.string l[k].op.text)∧Hid (Rd wr.drew (some ⟨b,off,none⟩) c l):=⟨c0,c1,c2,c3,c4,c5,c6,HRr.out⟩
    rcases hq with hq | hq
    all_goals
     go_region_held3 (fun w'=>w'.cell? ⟨b,off+k*7,none⟩=some (.int .i64 l[k].who)∧w'.cell? ⟨b,off+k*7+1,none⟩=some (.int .i64 l[k].seq)∧w'.cell? ⟨b,off+k*7+2,none⟩=some (.int .i64 l[k].op.kind)∧w'.cell? ⟨b,off+k*7+3,none⟩=some (.int .i64 l[k].op.id)∧w'.cell? ⟨b,off+k*7+4,none⟩=some (.int .i64 l[k].op.up)∧w'.cell? ⟨b,off+k*7+5,none⟩=some (.int .i64 l[k].op.pos)∧w'.cell? ⟨b,off+k*7+6,none⟩=some (.string l[k].op.text)∧Hid (Rd w' (some ⟨b,off,none⟩) c l))
      (first | exact E1 | exact E0 | go_keep)
      (first
       |(go_at_call 49;refine HE.out.mono ?_;rintro e w1 ⟨rfl,hb1⟩;obtain ⟨hc1,hf1⟩:=bcell hb1
         have E1:w1.cell? ⟨b,off+k*7,none⟩=some (.int .i64 l[k].who)∧w1.cell? ⟨b,off+k*7+1,none⟩=some (.int .i64 l[k].seq)∧w1.cell? ⟨b,off+k*7+2,none⟩=some (.int .i64 l[k].op.kind)∧w1.cell? ⟨b,off+k*7+3,none⟩=some (.int .i64 l[k].op.id)∧w1.cell? ⟨b,off+k*7+4,none⟩=some (.int .i64 l[k].op.up)∧w1.cell? ⟨b,off+k*7+5,none⟩=some (.int .i64 l[k].op.pos)∧w1.cell? ⟨b,off+k*7+6,none⟩=some (.string l[k].op.text)∧Hid (Rd w1 (some ⟨b,off,none⟩) c l):=
          ⟨(hc1 _ _ hbl).trans c0,(hc1 _ _ hbl).trans c1,(hc1 _ _ hbl).trans c2,(hc1 _ _ hbl).trans c3,(hc1 _ _ hbl).trans c4,(hc1 _ _ hbl).trans c5,(hc1 _ _ hbl).trans c6,(HRr.out.drewN 1).ext hb1⟩
         have HB1:=Lib.hid hb1;clear hc1 hf1 hb1)
       |(go_at_call 97;refine (HSQ.out _ E1.2.2.2.2.2.2.2.out).mono ?_;rintro e w2 ⟨rfl,hw2⟩;rw [hw2];clear hw2))
    ·have HQ:=Lib.hid hq;clear hq
     have hg:goodAt l k=false:=by
      have h9:=HQ.out
      rw [HG1.out];simp at h9;simp [h9]
     have HX:=Lib.hid (logOk_false l k hlt hg)
     clear hg
     go_wp2_with fail
     go_ret
     exact ⟨by rw [HX.out];rfl,HB.out.trans ((Ext.drewN (Below.refl _ _) 1).trans (HB1.out.mono HB.out.size))⟩
    ·have HQ:=Lib.hid hq;clear hq
     have hg:goodAt l k=true:=by
      have h9:=HQ.out
      rw [HG1.out];simp at h9;simp [h9]
     have HX:Hid (goodAt l k=true):=hg
     clear hg
     go_wp2_with fail
     go_roundg (l.length - (k+1))
     case measure=>have:=HK.out;omega
     case rel=>
      refine ⟨k+1,by omega,rfl,by go_num,fun j hj=>?_,HB.out.trans ((Ext.drewN (Below.refl _ _) 1).trans (HB1.out.mono HB.out.size))⟩
      by_cases hjk:j=k
      ·rw [hjk];exact HX.out
      ·exact HG.out j (by omega)
  ·have hkl:k=l.length:=by omega
   have HKL:=Lib.hid hkl
   by_cases h40:l.length≤40
   ·have HX:Hid (logOk l=true):=logOk_true l h40 (fun j hj=>HG.out j (by omega))
    clear hkl
    go_wp2_with fail
    go_ret
    exact ⟨by rw [HX.out];simp;omega,HB.out⟩
   ·have HX:Hid (logOk l=false):=by show _=_;unfold logOk;simp;omega
    clear hkl
    go_wp2_with fail
    go_ret
    exact ⟨by rw [HX.out];simp;omega,HB.out⟩
open Go.RowKit
def treeFrom (t:List Row) (l:List Entry):List Row:=l.foldl (fun t e=>doL t e.op) t
theorem treeFrom_take (t:List Row) (l:List Entry) (k:Nat) (hk:k<l.length):treeFrom t (l.take (k+1))=doL (treeFrom t (l.take k)) l[k].op:=by
 unfold treeFrom;rw [List.take_succ_eq_append_getElem hk,List.foldl_append];rfl
theorem treeFrom_ok {l:List Entry} : ∀ {t:List Row},treeOk t=true→(∀ e∈l,opOk e.op=true)→treeOk (treeFrom t l)=true:=by
 induction l with
 |nil=>intro t h _;exact h
 |cons e l ih=>
  intro t h hl
  exact ih (treeOk_do t e.op h (hl e List.mem_cons_self)) (fun e' he=>hl e' (List.mem_cons_of_mem _ he))
theorem treeFrom_op {l:List Entry} : ∀ {t:List Row},treeOk t=true→(∀ e∈l,opOk e.op=true)→l.foldl (fun t e=>opDo t e.op) t=treeFrom t l:=by
 induction l with
 |nil=>intro t h _;rfl
 |cons e l ih=>
  intro t h hl
  have ho:=hl e List.mem_cons_self
  have e1:opDo t e.op=doL t e.op:=by unfold opDo;rw [h,ho];rfl
  show l.foldl _ (opDo t e.op)=l.foldl _ (doL t e.op)
  rw [e1]
  exact ih (treeOk_do t e.op h ho) (fun e' he=>hl e' (List.mem_cons_of_mem _ he))
theorem treeOf_from {l:List Entry} (h:∀ e∈l,opOk e.op=true):treeOf l=treeFrom treeNew l:=treeFrom_op treeOk_new h
set_option maxRecDepth 100000 in
theorem new_s (w:World):Calls Tryz.prog 99 #[] w fun e w'=>∃ v,e=.returned v∧Own 46 w' w.heap.size v treeNew∧Ext w w':=by
 go_enter Tryz.func99,Tryz.ntmps99
 go_wp2
 go_ret
 refine ⟨_,rfl,⟨⟨rfl,.inr ⟨w.heap.size,3,_,rfl,Nat.le_refl _,World.alloc_heap_new w _,Nat.le_refl _,by decide,rfl,rfl⟩⟩,?_⟩,(Below.refl _ w).alloc (Nat.le_refl _) _⟩
 intro r hr
 simp only [treeNew,List.mem_cons,List.not_mem_nil,or_false] at hr
 rcases hr with rfl | rfl | rfl <;> exact Nat.zero_le _
set_option maxRecDepth 100000 in
set_option maxHeartbeats 2000000 in
theorem tree_s (A:Option Addr) (c:Nat) (t:List Row) (A':Option Addr) (c':Nat) (l:List Entry) (w:World) (hr:Rd w A c t) (hr':Rd w A' c' l) (ht:treeOk t=true) (ho:∀ e∈l,opOk e.op=true) :
  Calls Tryz.prog 31 #[.slice A t.length c,.slice A' l.length c'] w fun e w'=>∃ v,e=.returned v∧Own 46 w' w.heap.size v (treeFrom t l)∧Ext w w':=by
 have hm:l.length≤maxLen:=Nat.le_trans hr'.1 hr'.2.1
 unfold maxLen at hm
 have HR:=Lib.hid hr;have HR':=Lib.hid hr';have HT:=Lib.hid ht;have HO:=Lib.hid ho
 clear hr hr' ht ho
 go_enter Tryz.func31,Tryz.ntmps31
 go_wp2_with fail
 go_loopg [0,5] l.length (fun gk v i wr=>∃ (k:Nat) (A2:Option Addr) (c2:Nat),k≤l.length∧Hid (gk=l.length - k)∧i=.int .i64 k∧v=.slice A2 (treeFrom t (l.take k)).length c2∧Hid (Rd wr A2 c2 (treeFrom t (l.take k)))∧Hid (Ext w wr))
 case atStart=>exact ⟨0,A,c,Nat.zero_le _,rfl,rfl,rfl,HR.out,Below.refl _ _⟩
 case round=>
  obtain ⟨k,A2,c2,hk,HK,rfl,rfl,HQ,HW⟩:=hrel
  have hok:treeOk (treeFrom t (l.take k))=true:=treeFrom_ok HT.out (fun e he=>HO.out e (List.mem_of_mem_take he))
  have HOK:=Lib.hid hok
  have HN:=Lib.hid (fun hk=>treeFrom_take t l k hk)
  have hlast:k=l.length→treeFrom t (l.take k)=treeFrom t l:=fun e=>by rw [e,List.take_length]
  have HL:=Lib.hid hlast
  clear hok hlast
  generalize treeFrom t (l.take k)=tk at HQ HOK HN HL ⊢
  by_cases hlt:k<l.length
  ·obtain ⟨b,off,rfl,hbl,c0,c1,c2',c3,c4,c5,c6⟩:=ent_at (HR'.out.ext HW.out) k hlt
   have hC:=do_s A2 c2 tk l[k].op wr HQ.out HOK.out (HO.out _ (List.getElem_mem hlt)) (HR'.out.okAt k hlt)
   have HC:=Lib.hid hC
   have HN2:=Lib.hid (HN.out hlt)
   clear hC c0 c1
   go_wp2_with fail
   refine HC.out.mono ?_;rintro e w3 ⟨v3,rfl,hown3,hb3⟩
   obtain ⟨A3,c3',rfl,hr3⟩:=hown3.rd
   have HR3:=Lib.hid hr3;have HB3:=Lib.hid (HW.out.trans (hb3.mono HW.out.size))
   clear hown3 hr3 hb3 HC
   go_wp2_with fail
   go_roundg (l.length - (k+1))
   case measure=>have:=HK.out;omega
   case rel=>exact ⟨k+1,A3,c3',by omega,rfl,by go_num,by rw [HN2.out],by show Rd _ _ _ _;rw [HN2.out];exact HR3.out,HB3.out⟩
  ·have hkl:k=l.length:=by omega
   have HE:=Lib.hid (HL.out hkl)
   have hs:=HW.out.size
   have hlt0:=treeOk_len HOK.out
   obtain ⟨v3,w3,hrun,hown3,hg3⟩:=app_at el_row (own_made (e:=46) (α:=Row) wr w.heap.size hs) (HQ.out.alloc (.cells #[] 46)) (by simp;omega) (by rw [alloc_sz];omega)
   have hB3:=(own_made (e:=46) (α:=Row) wr w.heap.size hs).over (HW.out.alloc hs (.cells #[] 46)) hg3 (Nat.le_refl _) (by rw [alloc_sz];omega)
   rw [List.nil_append] at hown3
   have HO3:=Lib.hid hown3;have HB3:=Lib.hid hB3
   clear hown3 hg3 hB3 hkl
   go_wp2_with (at_builtin;refine wpList_append_run rfl _ _ _ rfl rfl rfl hrun ?_)
   go_ret
   exact ⟨_,rfl,by rw [←HE.out];exact HO3.out,HB3.out⟩
theorem logOk_ent {l:List Entry} (h:logOk l=true):∀ e∈l,entryOk e=true:=fun e he=>by
 obtain ⟨k,hk,rfl⟩:=List.getElem_of_mem he
 exact logOk_at h k hk
open Go.RowKit
def CW (c:Client):Prop:=(i64 c.who∧i64 c.seen∧i64 c.done∧i64 c.made)∧(∀ r∈c.base,i64 r.id)∧(∀ e∈c.wait,OpW e.op)∧c.wait.length≤2000000
set_option maxRecDepth 100000 in
set_option maxHeartbeats 4000000 in
theorem clientOk_s (c:Client) (v:Value) (w:World) (h:CV w c v) (hc:CW c) :
  Calls Tryz.prog 17 #[v] w fun r w'=>r=.returned (.bool (clientOk c))∧Ext w w':=by
 obtain ⟨A1,n1,A2,n2,rfl,h1,h2⟩:=h
 obtain ⟨-,hci,hcw,hlw⟩:=hc
 have H1:=Lib.hid h1;have H2:=Lib.hid h2;have HOW:=Lib.hid hcw
 have hsz:=alloc_sz w (oC c A1 n1 A2 n2)
 have HB0:Hid (Ext w (w.alloc (oC c A1 n1 A2 n2))):=(Below.refl _ w).alloc (Nat.le_refl _) _
 have HX0:=Lib.hid (World.alloc_heap_new w (oC c A1 n1 A2 n2))
 have HW:=Lib.hid (in_c c.who 1 3 (w.alloc (oC c A1 n1 A2 n2)))
 have HS:=Lib.hid (in_c c.seen 0 40 (w.alloc (oC c A1 n1 A2 n2)))
 have HTr:=Lib.hid (treeOk_s A1 n1 c.base (w.alloc (oC c A1 n1 A2 n2)) (H1.out.alloc _) hci)
 have HNO:Hid (∀ W:World,Ext (w.alloc (oC c A1 n1 A2 n2)) W→Ext w W):=fun W hW=>HB0.out.trans (hW.mono (by rw [alloc_sz];omega))
 clear h1 h2 hcw hci
 go_enter Tryz.func17,Tryz.ntmps17
 go_wp2_with fail
 refine HW.out.mono ?_
 rintro e w1 ⟨rfl,rfl⟩
 clear HW
 cases hw:inR c.who 1 3
 ·have HR:Hid (clientOk c=false):=by show _=_;unfold clientOk;rw [isWho_in,hw];rfl
  clear hw
  go_wp2_with fail
  go_ret
  exact ⟨by rw [HR.out];rfl,HB0.out⟩
 have HWho:Hid (isWho c.who=true):=hw
 clear hw
 go_wp2_with fail
 refine HS.out.mono ?_
 rintro e w1 ⟨rfl,rfl⟩
 clear HS
 cases hs:inR c.seen 0 40
 ·have HR:Hid (clientOk c=false):=by show _=_;unfold clientOk;rw [show decide (0≤c.seen∧c.seen≤40)=inR c.seen 0 40 from rfl,hs];simp
  clear hs
  go_wp2_with fail
  go_ret
  exact ⟨by rw [HR.out];rfl,HB0.out⟩
 have hsn:=of_decide_eq_true (show decide (0≤c.seen∧c.seen≤40)=true from hs)
 obtain ⟨hs0,hs1⟩:=hsn
 clear hs
 go_wp2_with fail
 refine HTr.out.mono ?_
 rintro e w1 ⟨rfl,hb1⟩
 have hx:=(hb1.block w.heap.size (by rw [alloc_sz];omega)).trans HX0.out
 obtain ⟨d0,d1,d2,d3,d4,d5,df⟩:=six_cells hx
 have HB1:=Lib.hid hb1;have HX:=Lib.hid hx
 clear hb1 hx HTr
 cases htr:treeOk c.base
 ·have HR:Hid (clientOk c=false):=by show _=_;unfold clientOk;rw [htr];simp
  clear htr
  go_wp2_with fail
  go_ret
  exact ⟨by rw [HR.out];rfl,HNO.out _ HB1.out⟩
 have HTree:=Lib.hid htr
 clear htr
 have HDN:=Lib.hid (in_c c.done 0 c.seen w1)
 go_wp2_with fail
 refine HDN.out.mono ?_
 rintro e w1' ⟨rfl,hw1'⟩
 rw [hw1'];clear hw1' HDN
 cases hdn:inR c.done 0 c.seen
 ·have HR:Hid (clientOk c=false):=by show _=_;unfold clientOk;rw [show decide (0≤c.done∧c.done≤c.seen)=inR c.done 0 c.seen from rfl,hdn];simp
  clear hdn
  go_wp2_with fail
  go_ret
  exact ⟨by rw [HR.out];rfl,HNO.out _ HB1.out⟩
 have hdnn:=of_decide_eq_true (show decide (0≤c.done∧c.done≤c.seen)=true from hdn)
 obtain ⟨hd0,hd1⟩:=hdnn
 clear hdn
 have hww:IntKind.i64.wrap (c.done+(c.wait.length:Int))=c.done+(c.wait.length:Int):=by rw [IntKind.wrap_i64];omega
 by_cases hl:(40:Int)<c.done+c.wait.length
 ·have HR:Hid (clientOk c=false):=by show _=_;unfold clientOk;rw [decide_eq_false (show ¬((c.wait.length:Int)≤40 - c.done) by omega)];simp
  go_wp2_with fail
  go_ret
  exact ⟨by rw [HR.out];rfl,HNO.out _ HB1.out⟩
 have HMD:=Lib.hid (in_c c.made 0 6 w1)
 go_wp2_with fail
 refine HMD.out.mono ?_
 rintro e w1' ⟨rfl,hw1'⟩
 rw [hw1'];clear hw1' HMD
 cases hmd:inR c.made 0 6
 ·have HR:Hid (clientOk c=false):=by show _=_;unfold clientOk;rw [show decide (0≤c.made∧c.made≤6)=inR c.made 0 6 from rfl,hmd];simp
  clear hmd
  go_wp2_with fail
  go_ret
  exact ⟨by rw [HR.out];rfl,HNO.out _ HB1.out⟩
 have hmdd:=of_decide_eq_true (show decide (0≤c.made∧c.made≤6)=true from hmd)
 obtain ⟨hm0,hm1⟩:=hmdd
 clear hmd
 have hres:clientOk c=waitOk c:=by
  unfold clientOk
  rw [HWho.out,HTree.out,decide_eq_true (show 0≤c.seen∧c.seen≤40 by omega),decide_eq_true (show 0≤c.done∧c.done≤c.seen by omega),decide_eq_true (show (c.wait.length:Int)≤40 - c.done by omega),decide_eq_true (show 0≤c.made∧c.made≤6 by omega)]
  simp
 have HRES:=Lib.hid hres
 have hwho:1≤c.who∧c.who≤3:=by have:=HWho.out;simpa [isWho] using this
 obtain ⟨hw1,hw3⟩:=hwho
 clear hres hww
 go_wp2_with fail
 go_loopg [3] c.wait.length (fun gk i wr=>∃ k:Nat,k≤c.wait.length∧Hid (gk=c.wait.length - k)∧i=.int .i64 k∧Hid (∀ j (hj:j<c.wait.length),j<k→waitAt c j c.wait[j]=true)∧Hid (Ext (w.alloc (oC c A1 n1 A2 n2)) wr))
 case atStart=>exact ⟨0,Nat.zero_le _,rfl,rfl,fun j _ h=>by omega,HB1.out⟩
 case round=>
  obtain ⟨k,hk,HK,rfl,HG,HW⟩:=hrel
  clear d0 d1 d2 d3 d4 d5 df
  have hEx:=HNO.out _ HW.out
  have hxr:=(HW.out.block w.heap.size (by rw [alloc_sz];omega)).trans HX0.out
  obtain ⟨d0,d1,d2,d3,d4,d5,df⟩:=six_cells hxr
  by_cases hlt:k<c.wait.length
  ·obtain ⟨b,off,rfl,hbl,e0,e1,e2,e3,e4,e5,e6⟩:=ent_at (H2.out.ext hEx) k hlt
   have hx:=(HW.out.block w.heap.size (by rw [alloc_sz];omega)).trans (World.alloc_heap_new w _)
   have hws:=HW.out.size
   rw [alloc_sz] at hws
   have hbx:=World.alloc_heap_new wr (.cells #[.int .i64 c.wait[k].who,.int .i64 c.wait[k].seq,.int .i64 c.wait[k].op.kind,.int .i64 c.wait[k].op.id,.int .i64 c.wait[k].op.up,.int .i64 c.wait[k].op.pos,.string c.wait[k].op.text] 35)
   have hC:=Lib.hid (entryOk_s c.wait[k] (wr.alloc (.cells #[.int .i64 c.wait[k].who,.int .i64 c.wait[k].seq,.int .i64 c.wait[k].op.kind,.int .i64 c.wait[k].op.id,.int .i64 c.wait[k].op.up,.int .i64 c.wait[k].op.pos,.string c.wait[k].op.text] 35)) (H2.out.okAt k hlt) (HOW.out _ (List.getElem_mem hlt)))
   have HEx:=Lib.hid hEx
   clear hEx
   simp only [Entry.val] at hC
   go_wp2_with fail
   refine hC.out.mono ?_
   rintro e w2 ⟨rfl,hb2⟩
   have hy:=(hb2.block w.heap.size (by rw [alloc_sz];omega)).trans ((Below.heap_alloc wr _ w.heap.size (by omega)).trans hx)
   clear d0 d1 d2 d3 d4 d5 df
   obtain ⟨d0,d1,d2,d3,d4,d5,df⟩:=six_cells hy
   have hz:=(hb2.block wr.heap.size (by rw [alloc_sz];omega)).trans hbx
   obtain ⟨g0,g1,g2,g3,g4,g5,g6,gf⟩:=seven_cells hz
   have hW2:Ext (w.alloc (oC c A1 n1 (some ⟨b,off,none⟩) n2)) w2:=HW.out.trans (((Below.refl _ wr).alloc HW.out.size _).trans (hb2.mono (Nat.le_trans HW.out.size (Nat.le_trans (Nat.le_succ _) (Nat.le_of_eq (alloc_sz _ _).symm)))))
   have HW2:=Lib.hid hW2
   clear hx hbx hb2 hy hz hC hW2
   have hbad:waitAt c k c.wait[k]=false→Hid (waitOk c=false):=fun h=>waitOk_false c k hlt h
   cases hok:entryOk c.wait[k]
   ·have HR:=hbad (by unfold waitAt;rw [hok];rfl)
    clear hok hbad
    go_wp2_with fail
    go_ret
    exact ⟨by rw [HRES.out,HR.out];rfl,HNO.out _ HW2.out⟩
   have HOK:=Lib.hid hok
   clear hok
   by_cases hwho:c.wait[k].who=c.who
   ·have hwho':(c.wait[k].who != c.who)=false:=by simp [hwho]
    by_cases hseq:c.wait[k].seq=c.done+k+1
    ·have hseq':(c.wait[k].seq != c.done+(k:Int)+1)=false:=by simp [hseq]
     by_cases hkd:c.wait[k].op.kind=1
     ·have hkd':(c.wait[k].op.kind == 1)=true:=by simp [hkd]
      by_cases hid:10*c.who+c.made<c.wait[k].op.id
      ·have HR:=hbad (by unfold waitAt;simp [hkd,hid])
       clear hbad hwho hseq hkd
       go_wp2_with fail
       go_ret
       exact ⟨by rw [HRES.out,HR.out];rfl,HNO.out _ HW2.out⟩
      ·have HGood:Hid (waitAt c k c.wait[k]=true):=by show _=_;unfold waitAt;rw [HOK.out];simp [hwho,hseq];omega
       clear hbad hwho hseq hkd
       go_wp2_with fail
       go_roundg (c.wait.length - (k+1))
       case measure=>have:=HK.out;omega
       case rel=>
        refine ⟨k+1,by omega,rfl,by go_num,fun j hj hjk=>?_,HW2.out⟩
        by_cases e:j=k
        ·subst e;exact HGood.out
        ·exact HG.out j hj (by omega)
     ·have hkd':(c.wait[k].op.kind == 1)=false:=by simp [hkd]
      have HGood:Hid (waitAt c k c.wait[k]=true):=by show _=_;unfold waitAt;rw [HOK.out];simp [hwho,hseq,hkd]
      clear hbad hwho hseq hkd
      go_wp2_with fail
      go_roundg (c.wait.length - (k+1))
      case measure=>have:=HK.out;omega
      case rel=>
       refine ⟨k+1,by omega,rfl,by go_num,fun j hj hjk=>?_,HW2.out⟩
       by_cases e:j=k
       ·subst e;exact HGood.out
       ·exact HG.out j hj (by omega)
    ·have hseq':(c.wait[k].seq != c.done+(k:Int)+1)=true:=by simp [hseq]
     have HR:=hbad (by unfold waitAt;simp [hseq])
     clear hbad hwho hseq
     go_wp2_with fail
     go_ret
     exact ⟨by rw [HRES.out,HR.out];rfl,HNO.out _ HW2.out⟩
   ·have hwho':(c.wait[k].who != c.who)=true:=by simp [hwho]
    have HR:=hbad (by unfold waitAt;simp [hwho])
    clear hbad hwho
    go_wp2_with fail
    go_ret
    exact ⟨by rw [HRES.out,HR.out];rfl,HNO.out _ HW2.out⟩
  ·have hkl:k=c.wait.length:=by omega
   go_wp2_with fail
   go_ret
   exact ⟨by rw [HRES.out,waitOk_true c (fun j hj=>HG.out j hj (by omega))];rfl,hEx⟩
def showS (c:Client):List Row:=if clientOk c then treeFrom c.base c.wait else []
theorem waitOk_ent {c:Client} (h:waitOk c=true):∀ e∈c.wait,opOk e.op=true:=fun e he=>by
 obtain ⟨k,hk,rfl⟩:=List.getElem_of_mem he
 have:=waitOk_at h k hk
 unfold waitAt at this
 simp only [Bool.and_eq_true] at this
 have:=this.1.1.1
 unfold entryOk at this
 simp only [Bool.and_eq_true] at this
 exact this.1.2
set_option maxRecDepth 100000 in
set_option maxHeartbeats 1000000 in
theorem clientShow_s (c:Client) (v:Value) (w:World) (h:CV w c v) (hc:CW c) :
  Calls Tryz.prog 16 #[v] w fun r w'=>∃ v',r=.returned v'∧Own 46 w' w.heap.size v' (showS c)∧Ext w w':=by
 have HCV:=Lib.hid h;have HC:=Lib.hid hc
 obtain ⟨A1,n1,A2,n2,rfl,h1,h2⟩:=h
 have H1:=Lib.hid h1;have H2:=Lib.hid h2
 have hE0:Ext w (w.alloc (oC c A1 n1 A2 n2)):=(Below.refl _ w).alloc (Nat.le_refl _) _
 have hbox:=World.alloc_heap_new w (oC c A1 n1 A2 n2)
 have HC:=Lib.hid (clientOk_s c _ (w.alloc (oC c A1 n1 A2 n2)) (HCV.out.ext hE0) hc)
 have HE0:=Lib.hid hE0;have HBX:=Lib.hid hbox
 have hsz:=alloc_sz w (oC c A1 n1 A2 n2)
 have HSZ:=Lib.hid hsz
 clear h1 h2 hc hE0 hbox hsz
 go_enter Tryz.func16,Tryz.ntmps16
 go_wp2_with fail
 refine HC.out.mono ?_
 rintro e w1 ⟨rfl,hb1⟩
 have hx1:=(hb1.block w.heap.size (by rw [HSZ.out];omega)).trans HBX.out
 have hE1:=HE0.out.trans (hb1.mono HE0.out.size)
 have HX1:=Lib.hid hx1;have HE1:=Lib.hid hE1
 obtain ⟨c0,c1,c2,c3,c4,c5,cf⟩:=six_cells hx1
 clear hb1 hx1 hE1 HC
 cases hok:clientOk c
 ·have HR:Hid (showS c=[]):=by show _=_;unfold showS;rw [hok];rfl
  clear hok
  go_wp2_with fail
  go_ret
  exact ⟨_,rfl,by rw [HR.out];exact own_made _ _ HE1.out.size,(HE1.out.alloc HE1.out.size _)⟩
 ·obtain ⟨hw9,hs0,hs40,htr,hd0,hd1,hwl,hm0,hm1,hwt⟩:=clientOk_parts hok
  have HR:Hid (showS c=treeFrom c.base c.wait):=by show _=_;unfold showS;rw [hok];rfl
  have HTS:=Lib.hid (tree_s A1 n1 c.base A2 n2 c.wait w1 (H1.out.ext HE1.out) (H2.out.ext HE1.out) htr (waitOk_ent hwt))
  clear hw9 hs0 hs40 htr hd0 hd1 hwl hm0 hm1 hwt hok
  go_wp2_with fail
  refine HTS.out.mono ?_
  rintro e w2 ⟨v2,rfl,hown2,hb2⟩
  have HO2:=Lib.hid hown2;have HB2:=Lib.hid hb2
  clear hown2 hb2 HTS
  go_wp2_with fail
  go_ret
  exact ⟨_,rfl,by rw [HR.out];exact HO2.out.lower HE1.out.size,HE1.out.trans (HB2.out.mono HE1.out.size)⟩
end Go.Proofs.YtecmcjfdaipfcaaGreatDoor
