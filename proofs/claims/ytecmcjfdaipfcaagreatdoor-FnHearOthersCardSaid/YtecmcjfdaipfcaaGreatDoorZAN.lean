/- Walk of the reference's draws: a change that somebody may make of an outline. .. Walk of the reference's draws: any change. -/
import Derived.Test.YtecmcjfdaipfcaaGreatDoorZAM
import Derived.Test.YtecmcjfdaipfcaaGreatDoorZAJ
import Derived.Deep.DeepCutAuto
import Derived.Deep.CutBlock
namespace Go.Proofs.YtecmcjfdaipfcaaGreatDoor
open Go.RowKit
set_option linter.unusedVariables false
theorem rowOk_ids {r:Row} (h:rowOk r=true):idOk r.id=true∧(1≤r.depth→isMade r.id=true):=by
 unfold rowOk at h
 by_cases hr:isRoot r.id=true
 ·rw [if_pos hr,Bool.and_eq_true,decide_eq_true_eq] at h
  exact ⟨by simp [idOk,hr],fun h1=>by omega⟩
 ·rw [if_neg hr,Bool.and_eq_true,Bool.and_eq_true] at h
  exact ⟨by simp [idOk,h.1.1],fun _=>h.1.1⟩
theorem kids_made {t:List Row} (h:treeOk t=true) (id:Int):∀ a∈kidsOf t id,isMade a=true:=by
 intro a ha
 unfold kidsOf at ha
 cases hx:idx t id with
 |none=>rw [hx] at ha;cases ha
 |some k=>
  rw [hx] at ha
  simp only [List.mem_map,List.mem_filter,decide_eq_true_eq] at ha
  obtain ⟨r,⟨hr,hd⟩,rfl⟩:=ha
  have hok:=treeOk_rows_ok h
  unfold below at hr
  have hrt:r∈t:=List.mem_of_mem_drop ((List.takeWhile_sublist _).subset hr)
  have hkl:=idx_lt hx
  have h0:=(rowOk_id (hok _ (List.getElem_mem hkl))).2.2.1
  rw [depAt_lt t k hkl] at hd
  exact (rowOk_ids (hok r hrt)).2 (by omega)
def OpD (who made:Int) (o:Op):Prop:=opOk o=true∧o.text.size≤4∧(o.kind=1→o.id=10*who+made+1∧made<6)
def OpP (r p:Nat) (who made:Int) (w:World) (e:Ending) (w':World):Prop:=∃ (o:Op) (p':Nat),e=.returned o.val∧OpD who made o∧p≤p'∧p'≤p+30∧Rdr w' r p'∧w.grownBy w' (some r)
abbrev zeroOp:Obj:=.cells #[.int .i64 0,.int .i64 0,.int .i64 0,.int .i64 0,.string ⟨#[]⟩] 28
def St (w0:World) (r p K:Nat) (w:World):Prop:=∃ q,p≤q∧q≤p+K∧Rdr w r q∧w0.grownBy w (some r)∧w.heap[w0.heap.size]?=some zeroOp
theorem St.step {w0 w w':World} {r p K d q q':Nat} (hr:r<w0.heap.size) (hq:p≤q∧q≤p+K) (hg0:w0.grownBy w (some r)) (hz:w.heap[w0.heap.size]?=some zeroOp) (hR:Rdr w' r q') (hg:w.grownBy w' (some r)) (hq':q≤q'∧q'≤q+d):St w0 r p (K+d) w':=
 ⟨q',by omega,by omega,hR,gtrans hg0 hg,(hg.block w0.heap.size (blk_lt hz) (fun e=>by injection e with e;omega)).trans hz⟩
theorem gset_new {w0 w:World} {row:Option Nat} (h:w0.grownBy w row) {b:Nat} (hb:w0.heap.size≤b) (i:Nat) (v:Value):w0.grownBy (w.setCell ⟨b,i,none⟩ v) row:=by
 have hs:∀ x:World,(x.setCell ⟨b,i,none⟩ v).os=x.os∧(x.setCell ⟨b,i,none⟩ v).tape=x.tape∧(x.setCell ⟨b,i,none⟩ v).output=x.output:=fun x=>by unfold World.setCell;split <;> exact ⟨rfl,rfl,rfl⟩
 exact ⟨(hs _).1.trans h.os,(hs _).2.1.trans h.tape,(hs _).2.2.trans h.output,Nat.le_trans h.size (Nat.le_of_eq (setsz _ _ _).symm),fun k hk hne=>(setx (by omega)).trans (h.block k hk hne)⟩
theorem Rdr.other {w w':World} {r p b:Nat} (h:Rdr w r p) (hg:w.grownBy w' (some b)) (hb:r<b):Rdr w' r p:=by
 obtain ⟨A,c,bs,h1,h2,h3,h4⟩:=h
 exact ⟨A,c,bs,(hg.block r (blk_lt h1) (fun e=>by injection e with e;omega)).trans h1,h2.grown hg (fun b' off e h=>by have:=h4 b' off e;injection h with h;omega),h3,h4⟩
abbrev put5 (W:World) (b:Nat) (v0 v1 v2 v3 v4:Value):World:=
 ((((W.setCell ⟨b,0,none⟩ v0).setCell ⟨b,1,none⟩ v1).setCell ⟨b,2,none⟩ v2).setCell ⟨b,3,none⟩ v3).setCell ⟨b,4,none⟩ v4
theorem put5_at {W:World} {b:Nat} {a0 a1 a2 a3 a4:Value} {ty:TypeId} (v0 v1 v2 v3 v4:Value) (h:W.heap[b]?=some (.cells #[a0,a1,a2,a3,a4] ty (0,0))):(put5 W b v0 v1 v2 v3 v4).heap[b]?=some (.cells #[v0,v1,v2,v3,v4] ty (0,0)):=
 set_at (set_at (set_at (set_at (set_at h))))
theorem St.fin {w0 w:World} {r p K:Nat} {who made:Int} (hr:r<w0.heap.size) (h:St w0 r p K w) (hK:K≤30) (o:Op) (ho:OpD who made o) :
  OpP r p who made w0 (.returned o.val) (put5 w w0.heap.size (.int .i64 o.kind) (.int .i64 o.id) (.int .i64 o.up) (.int .i64 o.pos) (.string o.text)) ∧
  (put5 w w0.heap.size (.int .i64 o.kind) (.int .i64 o.id) (.int .i64 o.up) (.int .i64 o.pos) (.string o.text)).heap[w0.heap.size]?=some (.cells (cO o) 28 (0,0)):=by
 obtain ⟨q,hq0,hq1,hR,hg,hz⟩:=h
 refine ⟨⟨o,q,rfl,ho,hq0,by omega,?_,?_⟩,put5_at _ _ _ _ _ hz⟩
 ·exact hR.other (gset (gset (gset (gset (gset_any _ _ _ _) _ _) _ _) _ _) _ _) hr
 ·exact gset_new (gset_new (gset_new (gset_new (gset_new hg (Nat.le_refl _) _ _) (Nat.le_refl _) _ _) (Nat.le_refl _) _ _) (Nat.le_refl _) _ _) (Nat.le_refl _) _ _
theorem textOk_a:textOk ⟨#[97]⟩=true:=by decide
theorem textOk_size {s:ByteArray} (h:textOk s=true):s.size≤4:=by
 unfold textOk at h;rw [Bool.and_eq_true,decide_eq_true_eq] at h;exact h.1
set_option maxRecDepth 100000 in
set_option maxHeartbeats 4000000 in
theorem op_d (r p:Nat) (A:Option Addr) (c:Nat) (t:List Row) (who made:Int) (w:World) (h:Rdr w r p) (hp:p<999990000) (hr:Rd w A c t) (ht:treeOk t=true) (hA:∀ b off,A=some ⟨b,off,none⟩→b≠r) (hw:1≤who∧who≤3) (hm:0≤made∧made≤1000) :
  Calls Tryz.prog 30 #[.pointer (some ⟨r,0,none⟩),.slice A t.length c,.int .i64 who,.int .i64 made] w (OpP r p who made w):=by
 have hl:=treeOk_len ht
 have hrl:=h.lt
 have ht0:0<t.length:=by
  cases t with
  |nil=>cases ht
  |cons x t=>simp
 obtain ⟨hw0,hw1⟩:=hw
 obtain ⟨hm0,hm1⟩:=hm
 have hok:=treeOk_rows_ok ht
 have hea:Ext w (w.alloc zeroOp):=(Below.refl _ _).alloc (Nat.le_refl _) _
 have HT:=Lib.hid ht;have HOK:=Lib.hid hok;have HA:=Lib.hid hA;have HR:=Lib.hid hr
 have HP:=Lib.hid (pick_c r p t.length (w.alloc zeroOp) (h.ext hea) (by omega) ⟨by omega,by omega⟩)
 have hz:=World.alloc_heap_new w zeroOp
 have HZ:=Lib.hid hz
 have HEA:=Lib.hid hea
 clear h ht hok hA hr hea hz
 go_enter Tryz.func30,Tryz.ntmps30
 go_wp2_with fail
 refine HP.out.mono ?_
 rintro e w1 ⟨v,rfl,hv0,hv1,-,hr1,hg1⟩
 have hvl:=hv1 (by omega)
 obtain ⟨k,rfl⟩:∃ k:Nat,v=k:=⟨v.toNat,by omega⟩
 have hk:k<t.length:=by omega
 have hg01:=gtrans (gext (row:=some r) HEA.out) hg1
 have hR1:=HR.out.grown hg01 (fun b off e h=>HA.out b off e (Option.some.inj h))
 obtain ⟨b,off,rfl,hbl,x0,x1,x2⟩:=row_at hR1 k hk
 have hz1:=(hg1.block w.heap.size (by rw [alloc_sz];omega) (fun e=>by injection e with e;omega)).trans HZ.out
 have HP2:=Lib.hid (pick_c r (p+1) t.length w1 hr1 (by omega) ⟨by omega,by omega⟩)
 have HG1:=Lib.hid hg01;have HR1:=Lib.hid hR1;have HZ1:=Lib.hid hz1
 have HID:Hid (idOk t[k].id=true):=(rowOk_ids (HOK.out _ (List.getElem_mem hk))).1
 clear hv1 hr1 hg1 hg01 hR1 hz1 HP x1 x2
 go_wp2_with fail
 refine HP2.out.mono ?_
 rintro e w2 ⟨v,rfl,hv0,hv1,-,hr2,hg2⟩
 have hvl:=hv1 (by omega)
 obtain ⟨k2,rfl⟩:∃ k:Nat,v=k:=⟨v.toNat,by omega⟩
 have hk2:k2<t.length:=by omega
 have hR2:=HR1.out.grown hg2 (fun b off e h=>HA.out b off e (Option.some.inj h))
 obtain ⟨b',off',e',hbl',y0,y1,y2⟩:=row_at hR2 k2 hk2
 cases e'
 have hz2:=(hg2.block w.heap.size (blk_lt HZ1.out) (fun e=>by injection e with e;omega)).trans HZ1.out
 have HG2:=Lib.hid (gtrans HG1.out hg2);have HR2:=Lib.hid hR2;have HZ2:=Lib.hid hz2;have HRR2:=Lib.hid hr2
 have HUP:Hid (idOk t[k2].id=true):=(rowOk_ids (HOK.out _ (List.getElem_mem hk2))).1
 have HKS:=Lib.hid (kids_s _ _ t t[k2].id w2 hR2 hl HOK.out)
 have HKM:=Lib.hid (kids_made HT.out t[k2].id)
 clear hv1 hr2 hg2 hR2 hz2 HP2 x0 y1 y2
 generalize t[k].id=id0 at HID ⊢
 generalize t[k2].id=up0 at HUP HKS HKM y0
 go_wp2_with fail
 refine HKS.out.mono ?_
 rintro e w3 ⟨v3,rfl,hown3,hb3⟩
 obtain ⟨Ak,ck,rfl,hrk⟩:=hown3.rd
 have hkb:∀ b off,Ak=some ⟨b,off,none⟩→b≠r:=fun b off e=>by
  have:=hown3.blk b (by rw [e];rfl)
  have:=HRR2.out.lt;omega
 have hst3:St w r p 2 w3:=⟨p+2,by omega,by omega,HRR2.out.ext hb3,gtrans HG2.out (gext hb3),(hb3.block _ (blk_lt HZ2.out)).trans HZ2.out⟩
 generalize kidsOf t up0=ks at *
 have hkl:ks.length≤maxLen:=Nat.le_trans hrk.1 hrk.2.1
 unfold maxLen at hkl
 have HKB:=Lib.hid hkb;have HRK:=Lib.hid hrk;have HST3:=Lib.hid hst3
 clear hown3 hb3 hrk hkb hst3 y0 HKS HG1 HR1 HZ1 HG2 HR2 HZ2 HRR2
 go_upto_region 5 with fail
 go_cut [40] (fun s wx=>∃ b:Bool,s=.bool b∧(b=true→0<ks.length)∧Hid (St w r p 3 wx)∧Hid (Rd wx Ak ck ks))
 case first=>
  by_cases hk0:0<ks.length
  ·obtain ⟨q,hq0,hq1,hrq,hgq,hzq⟩:=HST3.out
   have HP3:=Lib.hid (pick_c r q 2 w3 hrq (by omega) ⟨by omega,by omega⟩)
   go_wp2_with fail
   refine HP3.out.mono ?_
   rintro e w4 ⟨v,rfl,hv0,hv1,-,hr4,hg4⟩
   have HS4:Hid (St w r p 3 w4):=St.step (d:=1) hrl ⟨hq0,hq1⟩ hgq hzq hr4 hg4 ⟨by omega,by omega⟩
   have HRK4:=Lib.hid (HRK.out.grown hg4 (fun b off e h=>HKB.out b off e (Option.some.inj h)))
   clear hv1 hr4 hg4 hrq hgq hzq HP3
   go_wp2_with fail
   go_meet
   exact ⟨_,rfl,fun _=>hk0,HS4.out,HRK4.out⟩
  ·have hk0':¬(0:Int)<ks.length:=by omega
   go_wp2_with fail
   go_meet
   obtain ⟨q,hq0,hq1,hrq,hgq,hzq⟩:=HST3.out
   exact ⟨false,by simp,by simp,⟨q,hq0,by omega,hrq,hgq,hzq⟩,HRK.out⟩
 case rest=>
  obtain ⟨b4,rfl,hb4,HST4,HRK4⟩:=hcut
  clear HST3 HRK
  go_upto_if 40 with fail
  go_cut [12] (fun s wx=>∃ a:Int,s=.int .i64 a∧Hid (a=0∨isMade a=true)∧Hid (St w r p 4 wx))
  case first=>
   cases b4 with
   |false=>
    go_wp2_with fail
    go_meet
    obtain ⟨q,hq0,hq1,hrq,hgq,hzq⟩:=HST4.out
    exact ⟨0,rfl,.inl rfl,⟨q,hq0,by omega,hrq,hgq,hzq⟩⟩
   |true=>
    have hk0:=hb4 rfl
    obtain ⟨q,hq0,hq1,hrq,hgq,hzq⟩:=HST4.out
    have HP3:=Lib.hid (pick_c r q ks.length wc hrq (by omega) ⟨by omega,by omega⟩)
    clear hb4
    go_wp2_with fail
    refine HP3.out.mono ?_
    rintro e w5 ⟨v,rfl,hv0,hv1,-,hr5,hg5⟩
    have hvl:=hv1 (by omega)
    obtain ⟨k5,rfl⟩:∃ k:Nat,v=k:=⟨v.toNat,by omega⟩
    have hk5:k5<ks.length:=by omega
    have hR5:=HRK4.out.grown hg5 (fun b off e h=>HKB.out b off e (Option.some.inj h))
    obtain ⟨b9,off9,rfl,hbl9,z0⟩:=int_at hR5 k5 hk5
    have HS5:Hid (St w r p 4 w5):=St.step (d:=1) hrl ⟨hq0,hq1⟩ hgq hzq hr5 hg5 ⟨by omega,by omega⟩
    have HKM5:Hid (isMade ks[k5]=true):=HKM.out _ (List.getElem_mem hk5)
    clear hv1 hr5 hg5 hrq hgq hzq HP3 hR5
    go_wp2_with fail
    go_meet
    exact ⟨_,rfl,.inr HKM5.out,HS5.out⟩
  case rest=>
   obtain ⟨at0,rfl,HAT,HST5⟩:=hcut
   clear HST4 HRK4 HKB HKM hb4
   obtain ⟨q,hq0,hq1,hrq,hgq,hzq⟩:=HST5.out
   have HTX:=Lib.hid (text_d r q wc hrq (by omega))
   have HGQ:=Lib.hid hgq;have HZQ:=Lib.hid hzq
   clear hrq hgq hzq
   go_wp2_with fail
   refine HTX.out.mono ?_
   rintro e w6 ⟨s6,q6,rfl,hs6,hq60,hq61,hr6,hg6⟩
   have HS6:Hid (St w r p 10 w6):=St.step (d:=6) hrl ⟨hq0,hq1⟩ HGQ.out HZQ.out hr6 hg6 ⟨by omega,by omega⟩
   have hts:=text_s s6 w6 (Nat.le_trans hs6 (by decide))
   clear hr6 hg6 HTX HGQ HZQ HST5
   have HTS:=Lib.hid hts
   clear hts
   go_wp2_with fail
   refine HTS.out.mono ?_;rintro e w7 ⟨rfl,hw7⟩
   rw [hw7]
   clear hw7 HTS
   go_upto_if 52 with fail
   go_cut [13] (fun s wx=>∃ tx:ByteArray,s=.string tx∧Hid (textOk tx=true)∧Hid (St w r p 10 wx))
   case first=>
    cases htx:textOk s6
    ·clear htx
     go_wp2_with fail
     go_meet
     exact ⟨_,rfl,textOk_a,HS6.out⟩
    ·have HX:=Lib.hid htx
     clear htx
     go_wp2_with fail
     go_meet
     exact ⟨_,rfl,HX.out,HS6.out⟩
   case rest=>
    obtain ⟨tx,rfl,HTX,HST7⟩:=hcut
    clear HS6
    obtain ⟨q,hq0,hq1,hrq,hgq,hzq⟩:=HST7.out
    have HP7:=Lib.hid (pick_c r q 6 wc hrq (by omega) ⟨by omega,by omega⟩)
    have HGQ:=Lib.hid hgq;have HZQ:=Lib.hid hzq
    clear hrq hgq hzq
    go_wp2_with fail
    refine HP7.out.mono ?_
    rintro e w8 ⟨v,rfl,hv0,hv1,-,hr8,hg8⟩
    have HS8:Hid (St w r p 11 w8):=St.step (d:=1) hrl ⟨hq0,hq1⟩ HGQ.out HZQ.out hr8 hg8 ⟨by omega,by omega⟩
    clear hv1 hr8 hg8 HP7 HGQ HZQ HST7
    go_upto_if 55 with fail
    go_cut [10] (fun s wx=>∃ u:Int,s=.int .i64 u∧Hid (idOk u=true)∧Hid (St w r p 13 wx))
    case first=>
     by_cases hv:v=0
     ·have hv':(v == 0)=true:=by simp [hv]
      obtain ⟨q,hq0,hq1,hrq,hgq,hzq⟩:=HS8.out
      have HI:=Lib.hid (id_d r q w8 hrq (by omega))
      have HGQ:=Lib.hid hgq;have HZQ:=Lib.hid hzq
      clear hv hrq hgq hzq
      go_wp2_with fail
      refine HI.out.mono ?_
      rintro e w9 ⟨u,rfl,hum,hr9,hg9⟩
      have HS9:Hid (St w r p 13 w9):=St.step (d:=2) hrl ⟨hq0,hq1⟩ HGQ.out HZQ.out hr9 hg9 ⟨by omega,by omega⟩
      have HU:Hid (idOk u=true):=by show _=_;simp [idOk,hum]
      clear hr9 hg9 hum
      go_wp2_with fail
      go_meet
      exact ⟨_,rfl,HU.out,HS9.out⟩
     ·have hv':(v == 0)=false:=by simp [hv]
      clear hv
      go_wp2_with fail
      go_meet
      obtain ⟨q,hq0,hq1,hrq,hgq,hzq⟩:=HS8.out
      exact ⟨_,rfl,HUP.out,⟨q,hq0,by omega,hrq,hgq,hzq⟩⟩
    case rest=>
     obtain ⟨up1,rfl,HUP1,HST9⟩:=hcut
     clear HS8 HUP
     go_upto_region 12 with fail
     go_cut [69] (fun s wx=>∃ b:Bool,s=.bool b∧(b=true→made<6)∧Hid (St w r p 14 wx))
     case first=>
      by_cases hm6:made<6
      ·obtain ⟨q,hq0,hq1,hrq,hgq,hzq⟩:=HST9.out
       have HP9:=Lib.hid (pick_c r q 3 wc hrq (by omega) ⟨by omega,by omega⟩)
       have HGQ:=Lib.hid hgq;have HZQ:=Lib.hid hzq
       have hidr:i64 id0:=by
        have:=HID.out
        unfold idOk at this
        rw [Bool.or_eq_true,isRoot_iff,isMade_iff] at this
        unfold i64;omega
       have HMD:=Lib.hid (fun W=>made_s id0 W hidr)
       clear hrq hgq hzq hidr
       go_wp2_with fail
       refine HP9.out.mono ?_
       rintro e w10 ⟨v9,rfl,hv0',hv1',-,hr10,hg10⟩
       have HS10:Hid (St w r p 14 w10):=St.step (d:=1) hrl ⟨hq0,hq1⟩ HGQ.out HZQ.out hr10 hg10 ⟨by omega,by omega⟩
       clear hv1' hr10 hg10
       by_cases hv:v9=0
       ·have hv':(v9 == 0)=true:=by simp [hv]
        clear hv
        go_wp2_with fail
        go_meet
        exact ⟨_,rfl,fun _=>hm6,HS10.out⟩
       ·have hv':(v9 == 0)=false:=by simp [hv]
        clear hv
        go_wp2_with fail
        refine (HMD.out _).mono ?_;rintro e w11 ⟨rfl,hw11⟩
        rw [hw11]
        clear hw11
        go_wp2_with fail
        go_meet
        exact ⟨_,rfl,fun _=>hm6,HS10.out⟩
      ·go_wp2_with fail
       go_meet
       obtain ⟨q,hq0,hq1,hrq,hgq,hzq⟩:=HST9.out
       exact ⟨false,by simp,by simp,⟨q,hq0,by omega,hrq,hgq,hzq⟩⟩
     case rest=>
      obtain ⟨b9,rfl,hb9,HST10⟩:=hcut
      clear HST9
      cases b9 with
      |true=>
       have hm6:=hb9 rfl
       have HRM:=Lib.hid (rowMade_s who (made+1) wc ⟨by omega,by omega⟩ ⟨by omega,by omega⟩)
       have hrm:rowMade who (made+1)=10*who+made+1:=by unfold rowMade;rw [if_pos (by omega)];omega
       have HRMV:=Lib.hid hrm
       have HSF:=HST10
       have HOD:Hid (OpD who made ⟨1,rowMade who (made+1),up1,at0,tx⟩):=by
        refine ⟨?_,textOk_size HTX.out,fun _=>⟨HRMV.out,hm6⟩⟩
        rw [opOk_1 rfl]
        simp only [Bool.and_eq_true,Bool.or_eq_true,decide_eq_true_eq]
        exact ⟨by rw [HRMV.out,isMade_iff];omega,HTX.out,HUP1.out,HAT.out⟩
       have hzz:=HST10.out
       obtain ⟨q,-,-,-,-,hzq⟩:=hzz
       obtain ⟨d0,d1,d2,d3,d4,df⟩:=five_cells hzq
       clear hb9 hrm hzq
       go_wp2_with fail
       refine HRM.out.mono ?_;rintro e w12 ⟨rfl,hw12⟩
       rw [hw12]
       clear hw12
       go_wp2_with fail
       obtain ⟨hfin,hbk⟩:=St.fin (who:=who) (made:=made) hrl HSF.out (by omega) ⟨1,rowMade who (made+1),up1,at0,tx⟩ HOD.out
       obtain ⟨x0,x1,x2,x3,x4,xf⟩:=five_cells hbk
       refine bodyPost_ret (v:=Op.val ⟨1,rowMade who (made+1),up1,at0,tx⟩) ?_ rfl hfin
       simp [Op.val,results,Tryz.f30,go_sem,x0,x1,x2,x3,x4]
      |false=>
       have hidr:i64 id0:=by
        have:=HID.out
        unfold idOk at this
        rw [Bool.or_eq_true,isRoot_iff,isMade_iff] at this
        unfold i64;omega
       have HMD:=Lib.hid (made_s id0 wc hidr)
       clear hb9 hidr
       go_wp2_with fail
       refine HMD.out.mono ?_;rintro e w12 ⟨rfl,hw12⟩
       rw [hw12]
       clear hw12 HMD
       go_upto_if 80 with fail
       go_cut [9] (fun s wx=>∃ i:Int,s=.int .i64 i∧Hid (isMade i=true)∧Hid (St w r p 16 wx))
       case first=>
        cases hmd:isMade id0
        ·clear hmd
         obtain ⟨q,hq0,hq1,hrq,hgq,hzq⟩:=HST10.out
         have HI:=Lib.hid (id_d r q wc hrq (by omega))
         have HGQ:=Lib.hid hgq;have HZQ:=Lib.hid hzq
         clear hrq hgq hzq
         go_wp2_with fail
         refine HI.out.mono ?_
         rintro e w13 ⟨u,rfl,hum,hr13,hg13⟩
         have HS13:Hid (St w r p 16 w13):=St.step (d:=2) hrl ⟨hq0,hq1⟩ HGQ.out HZQ.out hr13 hg13 ⟨by omega,by omega⟩
         have HU:=Lib.hid hum
         clear hr13 hg13 hum
         go_wp2_with fail
         go_meet
         exact ⟨_,rfl,HU.out,HS13.out⟩
        ·have HMD:=Lib.hid hmd
         clear hmd
         go_wp2_with fail
         go_meet
         obtain ⟨q,hq0,hq1,hrq,hgq,hzq⟩:=HST10.out
         exact ⟨_,rfl,HMD.out,⟨q,hq0,by omega,hrq,hgq,hzq⟩⟩
       case rest=>
        obtain ⟨id1,rfl,HID1,HST13⟩:=hcut
        clear HST10
        obtain ⟨q,hq0,hq1,hrq,hgq,hzq⟩:=HST13.out
        have HP13:=Lib.hid (pick_c r q 3 wc hrq (by omega) ⟨by omega,by omega⟩)
        have HGQ:=Lib.hid hgq;have HZQ:=Lib.hid hzq
        clear hrq hgq hzq
        go_wp2_with fail
        refine HP13.out.mono ?_
        rintro e w14 ⟨v,rfl,hv0,hv1,-,hr14,hg14⟩
        have HSF:Hid (St w r p 17 w14):=St.step (d:=1) hrl ⟨hq0,hq1⟩ HGQ.out HZQ.out hr14 hg14 ⟨by omega,by omega⟩
        clear hv1 hr14 hg14 HP13 HGQ HZQ HST13
        have hzz:=HSF.out
        obtain ⟨q',-,-,-,-,hzq⟩:=hzz
        obtain ⟨d0,d1,d2,d3,d4,df⟩:=five_cells hzq
        clear hzq
        by_cases hv:v=0
        ·have hv':(v == 0)=true:=by simp [hv]
         have HOD:Hid (OpD who made ⟨2,id1,0,0,tx⟩):=by
          refine ⟨?_,textOk_size HTX.out,fun h=>by cases h⟩
          rw [opOk_2 rfl]
          simp only [Bool.and_eq_true,decide_eq_true_eq]
          exact ⟨HID1.out,HTX.out,trivial,trivial⟩
         clear hv
         go_wp2_with fail
         obtain ⟨hfin,hbk⟩:=St.fin (who:=who) (made:=made) hrl HSF.out (by omega) ⟨2,id1,0,0,tx⟩ HOD.out
         obtain ⟨x0,x1,x2,x3,x4,xf⟩:=five_cells hbk
         refine bodyPost_ret (v:=Op.val ⟨2,id1,0,0,tx⟩) ?_ rfl hfin
         simp [Op.val,results,Tryz.f30,go_sem,x0,x1,x2,x3,x4]
        ·have hv':(v == 0)=false:=by simp [hv]
         have HOD:Hid (OpD who made ⟨3,id1,up1,at0,⟨#[]⟩⟩):=by
          refine ⟨?_,by simp [ByteArray.size],fun h=>by cases h⟩
          rw [opOk_3 rfl]
          simp only [Bool.and_eq_true,Bool.or_eq_true,decide_eq_true_eq]
          exact ⟨HID1.out,textOk_nil,⟨HUP1.out,HAT.out⟩,trivial⟩
         clear hv
         go_wp2_with fail
         obtain ⟨hfin,hbk⟩:=St.fin (who:=who) (made:=made) hrl HSF.out (by omega) ⟨3,id1,up1,at0,⟨#[]⟩⟩ HOD.out
         obtain ⟨x0,x1,x2,x3,x4,xf⟩:=five_cells hbk
         refine bodyPost_ret (v:=Op.val ⟨3,id1,up1,at0,⟨#[]⟩⟩) ?_ rfl hfin
         simp [Op.val,results,Tryz.f30,go_sem,x0,x1,x2,x3,x4]
open Go.RowKit
def Sm (o:Op):Prop:=(0≤o.kind∧o.kind≤50)∧(0≤o.id∧o.id≤50)∧(0≤o.up∧o.up≤50)∧(0≤o.pos∧o.pos≤50)∧o.text.size≤7
abbrev opO (o:Op):Obj:=.cells #[.int .i64 o.kind,.int .i64 o.id,.int .i64 o.up,.int .i64 o.pos,.string o.text] 28
def OpXP (r p:Nat) (w:World) (e:Ending) (w':World):Prop:=∃ (o:Op) (p':Nat),e=.returned o.val∧Sm o∧p≤p'∧p'≤p+30∧Rdr w' r p'∧w.grownBy w' (some r)
def Sx (w0:World) (r p K bo:Nat) (w:World):Prop:=∃ q,p≤q∧q≤p+K∧Rdr w r q∧w0.grownBy w (some r)∧w.heap[w0.heap.size]?=some zeroOp∧∃ o,Sm o∧w.heap[bo]?=some (opO o)
theorem Sx.step {w0 w w':World} {r p K bo d q q':Nat} {o:Op} (hr:r<w0.heap.size) (hbo:w0.heap.size<bo) (hq:p≤q∧q≤p+K) (hg0:w0.grownBy w (some r)) (hz:w.heap[w0.heap.size]?=some zeroOp) (ho:Sm o) (hb:w.heap[bo]?=some (opO o)) (hR:Rdr w' r q') (hg:w.grownBy w' (some r)) (hq':q≤q'∧q'≤q+d):Sx w0 r p (K+d) bo w'∧w'.heap[bo]?=some (opO o):=by
 have h1:=(hg.block w0.heap.size (blk_lt hz) (fun e=>by injection e with e;omega)).trans hz
 have h2:=(hg.block bo (blk_lt hb) (fun e=>by injection e with e;omega)).trans hb
 exact ⟨⟨q',by omega,by omega,hR,gtrans hg0 hg,h1,o,ho,h2⟩,h2⟩
theorem Sx.put {w0 w:World} {r p K bo:Nat} (hr:r<w0.heap.size) (hbo:w0.heap.size<bo) (h:Sx w0 r p K bo w) (o':Op) (ho:Sm o'):Sx w0 r p K bo (put5 w bo (.int .i64 o'.kind) (.int .i64 o'.id) (.int .i64 o'.up) (.int .i64 o'.pos) (.string o'.text)):=by
 obtain ⟨q,hq0,hq1,hR,hg,hz,o,_,hb⟩:=h
 refine ⟨q,hq0,hq1,?_,?_,?_,o',ho,put5_at _ _ _ _ _ hb⟩
 ·exact hR.other (gset (gset (gset (gset (gset_any _ _ _ _) _ _) _ _) _ _) _ _) (by omega)
 ·exact gset_new (gset_new (gset_new (gset_new (gset_new hg (by omega) _ _) (by omega) _ _) (by omega) _ _) (by omega) _ _) (by omega) _ _
 ·exact (setx (by omega)).trans ((setx (by omega)).trans ((setx (by omega)).trans ((setx (by omega)).trans ((setx (by omega)).trans hz))))
theorem Sx.one {w0 w:World} {r p K bo:Nat} (hr:r<w0.heap.size) (hbo:w0.heap.size<bo) (h:Sx w0 r p K bo w) (i:Nat) (x:Int) (hi:i≤3) (hx:0≤x∧x≤50):Sx w0 r p K bo (w.setCell ⟨bo,i,none⟩ (.int .i64 x)):=by
 obtain ⟨q,hq0,hq1,hR,hg,hz,o,ho,hb⟩:=h
 obtain ⟨h1,h2,h3,h4,h5⟩:=ho
 have hset:=set_at (v:=.int .i64 x) (i:=i) hb
 have hh:∃ o,Sm o∧(w.setCell ⟨bo,i,none⟩ (.int .i64 x)).heap[bo]?=some (opO o):=by
  match i,hi with
  |0,_=>exact ⟨⟨x,o.id,o.up,o.pos,o.text⟩,⟨hx,h2,h3,h4,h5⟩,hset⟩
  |1,_=>exact ⟨⟨o.kind,x,o.up,o.pos,o.text⟩,⟨h1,hx,h3,h4,h5⟩,hset⟩
  |2,_=>exact ⟨⟨o.kind,o.id,x,o.pos,o.text⟩,⟨h1,h2,hx,h4,h5⟩,hset⟩
  |3,_=>exact ⟨⟨o.kind,o.id,o.up,x,o.text⟩,⟨h1,h2,h3,hx,h5⟩,hset⟩
 exact ⟨q,hq0,hq1,hR.other (gset_any _ _ _ _) (by omega),gset_new hg (by omega) _ _,(setx (by omega)).trans hz,hh⟩
theorem Sx.fin {w0 w:World} {r p K bo:Nat} (hr:r<w0.heap.size) (hbo:w0.heap.size<bo) (hR:∃ q,p≤q∧q≤p+K∧Rdr w r q) (hg:w0.grownBy w (some r)) (hz:w.heap[w0.heap.size]?=some zeroOp) (hK:K≤30) (o:Op) (ho:Sm o) :
  OpXP r p w0 (.returned o.val) (put5 w w0.heap.size (.int .i64 o.kind) (.int .i64 o.id) (.int .i64 o.up) (.int .i64 o.pos) (.string o.text)) ∧
  (put5 w w0.heap.size (.int .i64 o.kind) (.int .i64 o.id) (.int .i64 o.up) (.int .i64 o.pos) (.string o.text)).heap[w0.heap.size]?=some (.cells (cO o) 28 (0,0)):=by
 obtain ⟨q,hq0,hq1,hR⟩:=hR
 refine ⟨⟨o,q,rfl,ho,hq0,by omega,?_,?_⟩,put5_at _ _ _ _ _ hz⟩
 ·exact hR.other (gset (gset (gset (gset (gset_any _ _ _ _) _ _) _ _) _ _) _ _) hr
 ·exact gset_new (gset_new (gset_new (gset_new (gset_new hg (Nat.le_refl _) _ _) (Nat.le_refl _) _ _) (Nat.le_refl _) _ _) (Nat.le_refl _) _ _) (Nat.le_refl _) _ _
set_option maxRecDepth 100000 in
set_option maxHeartbeats 4000000 in
theorem opx_d (r p:Nat) (w:World) (h:Rdr w r p) (hp:p<999990000) :
  Calls Tryz.prog 29 #[.pointer (some ⟨r,0,none⟩)] w (OpXP r p w):=by
 have hrl:=h.lt
 have hea:Ext w (w.alloc zeroOp):=(Below.refl _ _).alloc (Nat.le_refl _) _
 have HI1:=Lib.hid (id_d r p (w.alloc zeroOp) (h.ext hea) (by omega))
 have HZ:=Lib.hid (World.alloc_heap_new w zeroOp)
 have HEA:=Lib.hid hea
 clear h hea
 go_enter Tryz.func29,Tryz.ntmps29
 go_wp2_with fail
 refine HI1.out.mono ?_
 rintro e w1 ⟨v1,rfl,hm1,hr1,hg1⟩
 have hb1:11≤v1∧v1≤36:=by rw [isMade_iff] at hm1;omega
 have HTX:=Lib.hid (text_d r (p+2) w1 hr1 (by omega))
 have HG1:=Lib.hid (gtrans (gext (row:=some r) HEA.out) hg1)
 have HZ1:=Lib.hid ((hg1.block w.heap.size (by rw [alloc_sz];omega) (fun e=>by injection e with e;omega)).trans HZ.out)
 clear hm1 hr1 hg1 HI1
 go_wp2_with fail
 refine HTX.out.mono ?_
 rintro e w2 ⟨s2,q2,rfl,hs2,hq20,hq21,hr2,hg2⟩
 have HG2:=Lib.hid (gtrans HG1.out hg2)
 have HZ2:=Lib.hid ((hg2.block w.heap.size (blk_lt HZ1.out) (fun e=>by injection e with e;omega)).trans HZ1.out)
 have hbo:w.heap.size<w2.heap.size:=blk_lt HZ2.out
 have HR2:=Lib.hid hr2
 have hsx:Sx w r p 8 w2.heap.size (w2.alloc (opO ⟨2,v1,0,0,s2⟩)):=⟨q2,by omega,by omega,hr2.ext ((Below.refl _ _).alloc (Nat.le_refl _) _),galloc HG2.out _,(Below.heap_alloc w2 _ _ (blk_lt HZ2.out)).trans HZ2.out,⟨2,v1,0,0,s2⟩,⟨by simp,by simp;omega,by simp,by simp,by simp;omega⟩,World.alloc_heap_new w2 _⟩
 have HSX:=Lib.hid hsx
 clear hr2 hg2 HG1 HZ1 HTX hsx
 obtain ⟨bo,hbo2⟩:∃ bo,bo=w2.heap.size:=⟨_,rfl⟩
 rw [←hbo2] at HSX hbo
 have HBO:=Lib.hid hbo2
 obtain ⟨q3,hq30,hq31,hR3,hgg3,hzz3,o3,hoo3,hbb3⟩:=HSX.out
 have HI3:=Lib.hid (id_d r q3 (w2.alloc (opO ⟨2,v1,0,0,s2⟩)) hR3 (by omega))
 clear hbo2 hR3 HG2 HZ2 HR2
 go_wp2_with fail
 rw [←HBO.out]
 refine HI3.out.mono ?_
 rintro e w3 ⟨v3,rfl,hm3,hr3,hg3⟩
 have hb3:11≤v3∧v3≤36:=by rw [isMade_iff] at hm3;omega
 have hs3:Sx w r p 10 bo w3:=(Sx.step (d:=2) hrl hbo ⟨hq30,hq31⟩ hgg3 hzz3 hoo3 hbb3 hr3 hg3 ⟨by omega,by omega⟩).1
 obtain ⟨q3p,hp30,hp31,hp32,hp33,hp34,op3,hp35,hp36⟩:=hs3
 have hrd3:=rd_new (α:=Int) w3 [1,1,v3,2,3] #[.int .i64 1,.int .i64 1,.int .i64 v3,.int .i64 2,.int .i64 3] 3 rfl (by simp) (fun _ _=>trivial)
 have hal3:Ext w3 (w3.alloc (.cells #[.int .i64 1,.int .i64 1,.int .i64 v3,.int .i64 2,.int .i64 3] 3)):=(Below.refl _ _).alloc (Nat.le_refl _) _
 have HPK3:=Lib.hid (pick_c r q3p 5 (w3.alloc (.cells #[.int .i64 1,.int .i64 1,.int .i64 v3,.int .i64 2,.int .i64 3] 3)) (hp32.ext hal3) (by omega) ⟨by omega,by omega⟩)
 have HRD3:=Lib.hid hrd3
 have hrlt3:=hp32.lt
 have HG3p:=Lib.hid (gtrans hp33 (gext hal3));have HZ3p:=Lib.hid ((hal3.block _ (blk_lt hp34)).trans hp34);have HO3p:=Lib.hid hp35;have HB3p:=Lib.hid ((hal3.block _ (blk_lt hp36)).trans hp36)
 clear hm3 hr3 hg3 hgg3 hzz3 hoo3 hbb3 hp32 hp33 hp34 hp35 hp36 hrd3 hal3 HI3
 go_wp2_with fail
 refine HPK3.out.mono ?_
 rintro e w3b ⟨k3,rfl,hk30,hk31,-,hr3,hg3⟩
 have hkl3:=hk31 (by omega)
 obtain ⟨k3,rfl⟩:∃ k:Nat,k3=k:=⟨k3.toNat,by omega⟩
 have hkk3:k3<([1,1,v3,2,3]:List Int).length:=by simp;omega
 obtain ⟨bq3,oq3,eq3,-,x3⟩:=int_at (HRD3.out.grown hg3 (fun b off e h=>by injection e with e;injection e with e;injection h with h;omega)) k3 hkk3
 cases eq3
 simp only [Nat.zero_add] at x3
 have hs3:Sx w r p 11 bo w3b:=(Sx.step (d:=1) hrl hbo ⟨hp30,hp31⟩ HG3p.out HZ3p.out HO3p.out HB3p.out hr3 hg3 ⟨by omega,by omega⟩).1
 have hv3:0≤([1,1,v3,2,3]:List Int)[k3]∧([1,1,v3,2,3]:List Int)[k3]≤50:=by
  have hmem:=List.getElem_mem hkk3
  generalize ([1,1,v3,2,3]:List Int)[k3]=y at hmem
  simp only [List.mem_cons,List.not_mem_nil,or_false] at hmem
  omega
 have HS3:=Lib.hid hs3
 clear hr3 hg3 hk31 HPK3 HRD3 HG3p HZ3p HO3p HB3p hs3
 generalize ([1,1,v3,2,3]:List Int)[k3]=up0 at x3 hv3
 obtain ⟨q4,hq40,hq41,hR4,hgg4,hzz4,o4,hoo4,hbb4⟩:=HS3.out
 have HI4:=Lib.hid (id_d r q4 w3b hR4 (by omega))
 clear hR4 HS3
 go_wp2_with fail
 refine HI4.out.mono ?_
 rintro e w4 ⟨v4,rfl,hm4,hr4,hg4⟩
 have hb4:11≤v4∧v4≤36:=by rw [isMade_iff] at hm4;omega
 have hs4:Sx w r p 13 bo w4:=(Sx.step (d:=2) hrl hbo ⟨hq40,hq41⟩ hgg4 hzz4 hoo4 hbb4 hr4 hg4 ⟨by omega,by omega⟩).1
 obtain ⟨q4p,hp40,hp41,hp42,hp43,hp44,op4,hp45,hp46⟩:=hs4
 have hrd4:=rd_new (α:=Int) w4 [0,v4] #[.int .i64 0,.int .i64 v4] 3 rfl (by simp) (fun _ _=>trivial)
 have hal4:Ext w4 (w4.alloc (.cells #[.int .i64 0,.int .i64 v4] 3)):=(Below.refl _ _).alloc (Nat.le_refl _) _
 have HPK4:=Lib.hid (pick_c r q4p 2 (w4.alloc (.cells #[.int .i64 0,.int .i64 v4] 3)) (hp42.ext hal4) (by omega) ⟨by omega,by omega⟩)
 have HRD4:=Lib.hid hrd4
 have hrlt4:=hp42.lt
 have HG4p:=Lib.hid (gtrans hp43 (gext hal4));have HZ4p:=Lib.hid ((hal4.block _ (blk_lt hp44)).trans hp44);have HO4p:=Lib.hid hp45;have HB4p:=Lib.hid ((hal4.block _ (blk_lt hp46)).trans hp46)
 clear hm4 hr4 hg4 hgg4 hzz4 hoo4 hbb4 hp42 hp43 hp44 hp45 hp46 hrd4 hal4 HI4
 go_wp2_with fail
 refine HPK4.out.mono ?_
 rintro e w4b ⟨k4,rfl,hk40,hk41,-,hr4,hg4⟩
 have hkl4:=hk41 (by omega)
 obtain ⟨k4,rfl⟩:∃ k:Nat,k4=k:=⟨k4.toNat,by omega⟩
 have hkk4:k4<([0,v4]:List Int).length:=by simp;omega
 obtain ⟨bq4,oq4,eq4,-,x4⟩:=int_at (HRD4.out.grown hg4 (fun b off e h=>by injection e with e;injection e with e;injection h with h;omega)) k4 hkk4
 cases eq4
 simp only [Nat.zero_add] at x4
 have hs4:Sx w r p 14 bo w4b:=(Sx.step (d:=1) hrl hbo ⟨hp40,hp41⟩ HG4p.out HZ4p.out HO4p.out HB4p.out hr4 hg4 ⟨by omega,by omega⟩).1
 have hv4:0≤([0,v4]:List Int)[k4]∧([0,v4]:List Int)[k4]≤50:=by
  have hmem:=List.getElem_mem hkk4
  generalize ([0,v4]:List Int)[k4]=y at hmem
  simp only [List.mem_cons,List.not_mem_nil,or_false] at hmem
  omega
 have HS4:=Lib.hid hs4
 clear hr4 hg4 hk41 HPK4 HRD4 HG4p HZ4p HO4p HB4p hs4
 generalize ([0,v4]:List Int)[k4]=at0 at x4 hv4
 obtain ⟨q5,hq50,hq51,hR5,hgg5,hzz5,o5,hoo5,hbb5⟩:=HS4.out
 have HP5:=Lib.hid (pick_c r q5 5 w4b hR5 (by omega) ⟨by omega,by omega⟩)
 clear hR5 HS4
 go_wp2_with fail
 refine HP5.out.mono ?_
 rintro e w5 ⟨v5,rfl,hv50,hv51,-,hr5,hg5⟩
 have hs5:=(Sx.step (d:=1) hrl hbo ⟨hq50,hq51⟩ hgg5 hzz5 hoo5 hbb5 hr5 hg5 ⟨by omega,by omega⟩).1
 have HS5:Hid (Sx w r p 15 bo w5):=hs5
 have hv5l:=hv51 (by omega)
 clear hv51 hr5 hg5 hgg5 hzz5 hoo5 hbb5 hs5 HP5
 go_upto_block 0 with fail
 go_cut [3] (fun s wx=>s=.pointer (some ⟨bo,0,none⟩)∧Hid (Sx w r p 15 bo wx))
 case first=>
  rcases (by omega:v5=0∨v5=1∨v5=2∨v5=3∨v5=4) with rfl | rfl | rfl | rfl | rfl
  ·obtain ⟨q,hq0,hq1,hR,hg,hz,o,ho,hb⟩:=HS5.out
   have HPUT:Hid (Sx w r p 15 bo (put5 w5 bo (.int .i64 1) (.int .i64 o.id) (.int .i64 up0) (.int .i64 at0) (.string o.text))):=Sx.put hrl hbo HS5.out ⟨1,o.id,up0,at0,o.text⟩ ⟨by simp,ho.2.1,hv3,hv4,ho.2.2.2.2⟩
   obtain ⟨d0,d1,d2,d3,d4,df⟩:=five_cells hb
   clear hR hg hz ho hb
   go_wp2_with fail
   go_meet
   exact ⟨rfl,HPUT.out⟩
  ·obtain ⟨q,hq0,hq1,hR,hg,hz,o,ho,hb⟩:=HS5.out
   have HPUT:Hid (Sx w r p 15 bo (put5 w5 bo (.int .i64 1) (.int .i64 o.id) (.int .i64 up0) (.int .i64 at0) (.string o.text))):=Sx.put hrl hbo HS5.out ⟨1,o.id,up0,at0,o.text⟩ ⟨by simp,ho.2.1,hv3,hv4,ho.2.2.2.2⟩
   obtain ⟨d0,d1,d2,d3,d4,df⟩:=five_cells hb
   clear hR hg hz ho hb
   go_wp2_with fail
   go_meet
   exact ⟨rfl,HPUT.out⟩
  ·obtain ⟨q,hq0,hq1,hR,hg,hz,o,ho,hb⟩:=HS5.out
   have HPUT:Hid (Sx w r p 15 bo (put5 w5 bo (.int .i64 3) (.int .i64 o.id) (.int .i64 up0) (.int .i64 at0) (.string ⟨#[]⟩))):=Sx.put hrl hbo HS5.out ⟨3,o.id,up0,at0,⟨#[]⟩⟩ ⟨by simp,ho.2.1,hv3,hv4,by simp [ByteArray.size]⟩
   obtain ⟨d0,d1,d2,d3,d4,df⟩:=five_cells hb
   clear hR hg hz ho hb
   go_wp2_with fail
   go_meet
   exact ⟨rfl,HPUT.out⟩
  ·obtain ⟨q,hq0,hq1,hR,hg,hz,o,ho,hb⟩:=HS5.out
   have HPUT:Hid (Sx w r p 15 bo (put5 w5 bo (.int .i64 3) (.int .i64 o.id) (.int .i64 up0) (.int .i64 at0) (.string ⟨#[]⟩))):=Sx.put hrl hbo HS5.out ⟨3,o.id,up0,at0,⟨#[]⟩⟩ ⟨by simp,ho.2.1,hv3,hv4,by simp [ByteArray.size]⟩
   obtain ⟨d0,d1,d2,d3,d4,df⟩:=five_cells hb
   clear hR hg hz ho hb
   go_wp2_with fail
   go_meet
   exact ⟨rfl,HPUT.out⟩
  ·go_wp2_with fail
   go_meet
   exact ⟨rfl,HS5.out⟩
 case rest=>
  obtain ⟨rfl,HSC⟩:=hcut
  obtain ⟨q6,hq60,hq61,hR6,hgg6,hzz6,o6,hoo6,hbb6⟩:=HSC.out
  have HP6:=Lib.hid (pick_c r q6 30 wc hR6 (by omega) ⟨by omega,by omega⟩)
  clear hR6 HS5
  go_wp2_with fail
  refine HP6.out.mono ?_
  rintro e w6 ⟨v6,rfl,hv60,hv61,-,hr6,hg6⟩
  have HS6:Hid (Sx w r p 16 bo w6):=(Sx.step (d:=1) hrl hbo ⟨hq60,hq61⟩ hgg6 hzz6 hoo6 hbb6 hr6 hg6 ⟨by omega,by omega⟩).1
  clear hv61 hr6 hg6 hgg6 hzz6 hoo6 hbb6 HP6 HSC
  go_upto_block 1 with fail
  go_cut [3] (fun s wx=>s=.pointer (some ⟨bo,0,none⟩)∧Hid (Sx w r p 17 bo wx))
  case first=>
   rcases (by omega:v6=0∨v6=1∨v6=2∨v6=3∨4≤v6) with rfl | rfl | rfl | rfl | h4
   ·obtain ⟨q,hq0,hq1,hR,hg,hz,o,ho,hb⟩:=HS6.out
    have HPJ:=Lib.hid (pick_c r q 5 w6 hR (by omega) ⟨by omega,by omega⟩)
    have HG:=Lib.hid hg;have HZ:=Lib.hid hz;have HO:=Lib.hid ho;have HB:=Lib.hid hb
    clear hR hg hz ho hb
    go_wp2_with fail
    refine HPJ.out.mono ?_
    rintro e w7 ⟨y,rfl,hy0,hy1,-,hr7,hg7⟩
    have hyl:=hy1 (by omega)
    obtain ⟨hs7,hb7⟩:=Sx.step (d:=1) hrl hbo ⟨hq0,hq1⟩ HG.out HZ.out HO.out HB.out hr7 hg7 ⟨by omega,by omega⟩
    have HS7:Hid (Sx w r p 17 bo (w7.setCell ⟨bo,0,none⟩ (.int .i64 y))):=Sx.one hrl hbo hs7 0 y (by omega) ⟨by omega,by omega⟩
    obtain ⟨d0,d1,d2,d3,d4,df⟩:=five_cells hb7
    clear hy1 hr7 hg7 hs7 hb7
    go_wp2_with fail
    go_meet
    exact ⟨rfl,HS7.out⟩
   ·obtain ⟨q,hq0,hq1,hR,hg,hz,o,ho,hb⟩:=HS6.out
    have HPJ:=Lib.hid (pick_c r q 50 w6 hR (by omega) ⟨by omega,by omega⟩)
    have HG:=Lib.hid hg;have HZ:=Lib.hid hz;have HO:=Lib.hid ho;have HB:=Lib.hid hb
    clear hR hg hz ho hb
    go_wp2_with fail
    refine HPJ.out.mono ?_
    rintro e w7 ⟨y,rfl,hy0,hy1,-,hr7,hg7⟩
    have hyl:=hy1 (by omega)
    obtain ⟨hs7,hb7⟩:=Sx.step (d:=1) hrl hbo ⟨hq0,hq1⟩ HG.out HZ.out HO.out HB.out hr7 hg7 ⟨by omega,by omega⟩
    have HS7:Hid (Sx w r p 17 bo (w7.setCell ⟨bo,1,none⟩ (.int .i64 y))):=Sx.one hrl hbo hs7 1 y (by omega) ⟨by omega,by omega⟩
    obtain ⟨d0,d1,d2,d3,d4,df⟩:=five_cells hb7
    clear hy1 hr7 hg7 hs7 hb7
    go_wp2_with fail
    go_meet
    exact ⟨rfl,HS7.out⟩
   ·obtain ⟨q,hq0,hq1,hR,hg,hz,o,ho,hb⟩:=HS6.out
    have HPJ:=Lib.hid (pick_c r q 50 w6 hR (by omega) ⟨by omega,by omega⟩)
    have HG:=Lib.hid hg;have HZ:=Lib.hid hz;have HO:=Lib.hid ho;have HB:=Lib.hid hb
    clear hR hg hz ho hb
    go_wp2_with fail
    refine HPJ.out.mono ?_
    rintro e w7 ⟨y,rfl,hy0,hy1,-,hr7,hg7⟩
    have hyl:=hy1 (by omega)
    obtain ⟨hs7,hb7⟩:=Sx.step (d:=1) hrl hbo ⟨hq0,hq1⟩ HG.out HZ.out HO.out HB.out hr7 hg7 ⟨by omega,by omega⟩
    have HS7:Hid (Sx w r p 17 bo (w7.setCell ⟨bo,2,none⟩ (.int .i64 y))):=Sx.one hrl hbo hs7 2 y (by omega) ⟨by omega,by omega⟩
    obtain ⟨d0,d1,d2,d3,d4,df⟩:=five_cells hb7
    clear hy1 hr7 hg7 hs7 hb7
    go_wp2_with fail
    go_meet
    exact ⟨rfl,HS7.out⟩
   ·obtain ⟨q,hq0,hq1,hR,hg,hz,o,ho,hb⟩:=HS6.out
    have HPJ:=Lib.hid (pick_c r q 50 w6 hR (by omega) ⟨by omega,by omega⟩)
    have HG:=Lib.hid hg;have HZ:=Lib.hid hz;have HO:=Lib.hid ho;have HB:=Lib.hid hb
    clear hR hg hz ho hb
    go_wp2_with fail
    refine HPJ.out.mono ?_
    rintro e w7 ⟨y,rfl,hy0,hy1,-,hr7,hg7⟩
    have hyl:=hy1 (by omega)
    obtain ⟨hs7,hb7⟩:=Sx.step (d:=1) hrl hbo ⟨hq0,hq1⟩ HG.out HZ.out HO.out HB.out hr7 hg7 ⟨by omega,by omega⟩
    have HS7:Hid (Sx w r p 17 bo (w7.setCell ⟨bo,3,none⟩ (.int .i64 y))):=Sx.one hrl hbo hs7 3 y (by omega) ⟨by omega,by omega⟩
    obtain ⟨d0,d1,d2,d3,d4,df⟩:=five_cells hb7
    clear hy1 hr7 hg7 hs7 hb7
    go_wp2_with fail
    go_meet
    exact ⟨rfl,HS7.out⟩
   ·have n0:(v6 == 0)=false:=beq_eq_false_iff_ne.2 (by omega)
    have n1:(v6 == 1)=false:=beq_eq_false_iff_ne.2 (by omega)
    have n2:(v6 == 2)=false:=beq_eq_false_iff_ne.2 (by omega)
    have n3:(v6 == 3)=false:=beq_eq_false_iff_ne.2 (by omega)
    go_wp2_with fail
    go_meet
    obtain ⟨q,hq0,hq1,hrest⟩:=HS6.out
    exact ⟨rfl,⟨q,hq0,by omega,hrest⟩⟩
  case rest=>
   obtain ⟨rfl,HSC⟩:=hcut
   obtain ⟨q,hq0,hq1,hR,hg,hz,o,ho,hb⟩:=HSC.out
   obtain ⟨hfin,hbk⟩:=Sx.fin hrl hbo ⟨q,hq0,hq1,hR⟩ hg hz (by omega) o ho
   have HF:=Lib.hid hfin;have HBK:=Lib.hid hbk
   obtain ⟨d0,d1,d2,d3,d4,df⟩:=five_cells hb
   obtain ⟨z0,z1,z2,z3,z4,zf⟩:=five_cells hz
   clear hR hg hz ho hb hfin hbk HS6 HSC
   go_wp2_with fail
   obtain ⟨x0,x1,x2,x3,x4,xf⟩:=five_cells HBK.out
   refine bodyPost_ret (v:=Op.val o) ?_ rfl HF.out
   simp [Op.val,results,Tryz.f29,go_sem,x0,x1,x2,x3,x4]
end Go.Proofs.YtecmcjfdaipfcaaGreatDoor
