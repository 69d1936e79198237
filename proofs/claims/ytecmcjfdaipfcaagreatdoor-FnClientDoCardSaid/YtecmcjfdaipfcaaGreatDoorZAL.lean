/- A walk of the reference: an outline is ok. .. Worlds: the plain laws that keep clients and letters ok. -/
import Derived.Test.YtecmcjfdaipfcaaGreatDoorZAK
import Derived.Test.YtecmcjfdaipfcaaGreatDoorZAI
import Derived.Deep.RegionHeld3
import Derived.Deep.DeepCutAuto
import Derived.Deep.CutRange
import Derived.Deep.CutBlock
import Derived.Test.YtecmcjfdaipfcaaGreatDoorZAH
import Derived.Test.YtecmcjfdaipfcaaGreatDoorZAJ
import Derived.Test.YtecmcjfdaipfcaaGreatDoorZAG
namespace Go.Proofs.YtecmcjfdaipfcaaGreatDoor
open Go.RowKit
set_option linter.unusedVariables false
theorem treeOk_not {t:List Row} {k:Nat} (hk:k<t.length) (h:¬GS t k):treeOk t=false:=by
 rw [Bool.eq_false_iff];intro ht;exact h (((treeOk_ts t).1 ht).1 k hk)
theorem gs_at {t:List Row} {k:Nat} (hk:k<t.length):GS t k↔rowOk t[k]=true∧(0<k→t[k].depth≤dAt t k+1)∧(isRoot t[k].id=true→t[k].id=rootsN (t.take k)+1)∧∀ j (hj:j<t.length),j<k→t[j].id≠t[k].id:=by
 unfold GS
 rw [List.getElem?_eq_getElem hk]
 constructor
 ·intro h
  obtain ⟨a,b,c,d⟩:=h _ rfl
  refine ⟨a,b,c,fun j hj hjk=>d _ ?_⟩
  rw [List.mem_take_iff_getElem];exact ⟨j,by omega,rfl⟩
 ·rintro ⟨a,b,c,d⟩ r hr
  obtain rfl:=Option.some.inj hr
  refine ⟨a,b,c,fun x hx=>?_⟩
  rw [List.mem_take_iff_getElem] at hx
  obtain ⟨j,hj,rfl⟩:=hx
  exact d j (by omega) (by omega)
set_option maxRecDepth 100000 in
set_option maxHeartbeats 4000000 in
theorem treeOk_s (A:Option Addr) (c:Nat) (t:List Row) (w:World) (hr:Rd w A c t) (hi:∀ r∈t,i64 r.id) :
  Calls Tryz.prog 48 #[.slice A t.length c] w fun x w'=>x=.returned (.bool (treeOk t))∧Ext w w':=by
 have hm:t.length≤maxLen:=Nat.le_trans hr.1 hr.2.1
 unfold maxLen at hm
 have HR:=Lib.hid hr;have HI:=Lib.hid hi
 clear hr hi
 go_enter Tryz.func48,Tryz.ntmps48
 go_wp2_with fail
 go_loopg [3,4] t.length (fun gk a i wr=>∃ k:Nat,k≤t.length∧Hid (gk=t.length - k)∧a=.int .i64 (rootsN (t.take k):Nat)∧i=.int .i64 k∧Hid (∀ j,j<k→GS t j)∧Hid (Ext w wr))
 case atStart=>exact ⟨0,Nat.zero_le _,rfl,rfl,rfl,fun _ h=>by omega,Below.refl _ _⟩
 case round=>
  obtain ⟨k,hk,HK,rfl,rfl,HG,HB⟩:=hrel
  by_cases hlt:k<t.length
  ·have hRr:=HR.out.ext HB.out
   obtain ⟨b,off,rfl,hbl,c0,c1,c2⟩:=row_at hRr k hlt
   have HRr:=Lib.hid hRr
   have hE:=rowOk_s t[k] wr.drew (HI.out _ (List.getElem_mem hlt)) (HR.out.okAt k hlt)
   have HGA:=Lib.hid (gs_at hlt)
   have hlt':(k:Int)<t.length:=by omega
   clear hRr
   go_upto_region 5 with fail
   go_cut [36] (fun s wx=>∃ z:Bool,s=.bool z∧Hid (z=false→rowOk t[k]=true∧(0<k→t[k].depth≤dAt t k+1))∧Hid (z=true→¬GS t k)∧Hid (Ext wr wx))
   case first=>
    cases hok:rowOk t[k]
    ·rw [hok] at hE
     have HE:=Lib.hid hE
     have HN:Hid (¬GS t k):=fun h=>by have:=(HGA.out.1 h).1;rw [hok] at this;cases this
     clear hE hok
     refine wp_region_any (by kernel_rfl) ?_
     change wpAny _ _ _ _ _ _ _ (World.drew _)
     refine wpAny_take (i:=0) (v:=?_) rfl (by kernel_rfl) (by kernel_rfl) (by kernel_rfl) (fun _ _ _ h=>h) (Or.inl ⟨by rfl,?_⟩) ?_
     rotate_left
     ·(intro w;go_simp;try with_reducible rfl)
     refine wpAny_take (i:=1) (v:=?_) rfl (by kernel_rfl) (by kernel_rfl) (by kernel_rfl) (fun _ _ _ h=>h) (Or.inl ⟨by rfl,?_⟩) ?_
     rotate_left
     ·(intro w;go_simp;try with_reducible rfl)
     refine wpAny_take (i:=2) (v:=?_) rfl (by kernel_rfl) (by kernel_rfl) (by kernel_rfl) (fun _ _ _ h=>h) (Or.inl ⟨by rfl,?_⟩) ?_
     rotate_left
     ·(intro w;go_simp;try with_reducible rfl)
     refine wpAny_ready (rs:=[3]) (by kernel_rfl) (by simp) ?_
     refine AllReady.cons rfl (fun K hK=>?_) AllReady.nil
     go_simp
     refine hK _ _ ?_;clear hK K
     refine wpAny_ready (rs:=[4]) (by kernel_rfl) (by simp) ?_
     refine AllReady.cons rfl (fun K hK=>?_) AllReady.nil
     go_simp
     go_wp2_with (go_at_call 89;refine HE.out.mono ?_;rintro e w1 ⟨rfl,hb1⟩;obtain ⟨hc1,hf1⟩:=bcell hb1;have HB1:=Lib.hid hb1)
     refine wpAny_ready (rs:=[5]) (by kernel_rfl) (by simp) ?_
     refine AllReady.cons rfl (fun K hK=>?_) AllReady.nil
     go_simp
     refine hK _ _ ?_;clear hK K
     refine wpAny_ready (rs:=[6]) (by kernel_rfl) (by simp) ?_
     refine AllReady.cons rfl (fun K hK=>?_) AllReady.nil
     go_simp
     refine hK _ _ ?_;clear hK K
     refine any_skip 7 rfl (by kernel_rfl) (by kernel_rfl) (by kernel_rfl) (fun _ _ _ h=>h) (by kernel_rfl) ?_
     refine any_skip 8 rfl (by kernel_rfl) (by kernel_rfl) (by kernel_rfl) (fun _ _ _ h=>h) (by kernel_rfl) ?_
     refine any_skip 9 rfl (by kernel_rfl) (by kernel_rfl) (by kernel_rfl) (fun _ _ _ h=>h) (by kernel_rfl) ?_
     refine any_skip 10 rfl (by kernel_rfl) (by kernel_rfl) (by kernel_rfl) (fun _ _ _ h=>h) (by kernel_rfl) ?_
     refine any_skip 11 rfl (by kernel_rfl) (by kernel_rfl) (by kernel_rfl) (fun _ _ _ h=>h) (by kernel_rfl) ?_
     refine any_skip 12 rfl (by kernel_rfl) (by kernel_rfl) (by kernel_rfl) (fun _ _ _ h=>h) (by kernel_rfl) ?_
     refine any_skip 13 rfl (by kernel_rfl) (by kernel_rfl) (by kernel_rfl) (fun _ _ _ h=>h) (by kernel_rfl) ?_
     refine any_skip 14 rfl (by kernel_rfl) (by kernel_rfl) (by kernel_rfl) (fun _ _ _ h=>h) (by kernel_rfl) ?_
     refine any_skip 15 rfl (by kernel_rfl) (by kernel_rfl) (by kernel_rfl) (fun _ _ _ h=>h) (by kernel_rfl) ?_
     refine any_skip 16 rfl (by kernel_rfl) (by kernel_rfl) (by kernel_rfl) (fun _ _ _ h=>h) (by kernel_rfl) ?_
     refine any_skip 17 rfl (by kernel_rfl) (by kernel_rfl) (by kernel_rfl) (fun _ _ _ h=>h) (by kernel_rfl) ?_
     refine any_skip 18 rfl (by kernel_rfl) (by kernel_rfl) (by kernel_rfl) (fun _ _ _ h=>h) (by kernel_rfl) ?_
     refine any_skip 19 rfl (by kernel_rfl) (by kernel_rfl) (by kernel_rfl) (fun _ _ _ h=>h) (by kernel_rfl) ?_
     refine any_skip 20 rfl (by kernel_rfl) (by kernel_rfl) (by kernel_rfl) (fun _ _ _ h=>h) (by kernel_rfl) ?_
     refine any_skip 21 rfl (by kernel_rfl) (by kernel_rfl) (by kernel_rfl) (fun _ _ _ h=>h) (by kernel_rfl) ?_
     refine any_skip 22 rfl (by kernel_rfl) (by kernel_rfl) (by kernel_rfl) (fun _ _ _ h=>h) (by kernel_rfl) ?_
     refine any_skip 23 rfl (by kernel_rfl) (by kernel_rfl) (by kernel_rfl) (fun _ _ _ h=>h) (by kernel_rfl) ?_
     refine wpAny_ready (rs:=[24]) (by kernel_rfl) (by simp) ?_
     refine AllReady.cons rfl (fun K hK=>?_) AllReady.nil
     go_simp
     refine hK _ _ ?_;clear hK K
     refine wpAny_done (by kernel_rfl) ?_ _
     go_wp2_with fail
     go_meet
     exact ⟨true,rfl,Lib.hid (fun h=>by cases h),Lib.hid (fun _=>HN.out),(Ext.drewN (Below.refl _ _) 1).trans HB1.out⟩
    ·have HOK:=Lib.hid hok
     rw [hok] at hE
     have HE:=Lib.hid hE
     clear hE hok
     by_cases hk0:k=0
     ·subst hk0
      simp only [Nat.zero_mul,Nat.add_zero] at c0 c1 c2
      refine wp_region_any (by kernel_rfl) ?_
      change wpAny _ _ _ _ _ _ _ (World.drew _)
      refine wpAny_take (i:=0) (v:=?_) rfl (by kernel_rfl) (by kernel_rfl) (by kernel_rfl) (fun _ _ _ h=>h) (Or.inl ⟨by rfl,?_⟩) ?_
      rotate_left
      ·(intro w;go_simp;try with_reducible rfl)
      refine wpAny_take (i:=1) (v:=?_) rfl (by kernel_rfl) (by kernel_rfl) (by kernel_rfl) (fun _ _ _ h=>h) (Or.inl ⟨by rfl,?_⟩) ?_
      rotate_left
      ·(intro w;go_simp;try with_reducible rfl)
      refine wpAny_take (i:=2) (v:=?_) rfl (by kernel_rfl) (by kernel_rfl) (by kernel_rfl) (fun _ _ _ h=>h) (Or.inl ⟨by rfl,?_⟩) ?_
      rotate_left
      ·(intro w;go_simp;try with_reducible rfl)
      refine wpAny_ready (rs:=[3]) (by kernel_rfl) (by simp) ?_
      refine AllReady.cons rfl (fun K hK=>?_) AllReady.nil
      go_simp
      refine hK _ _ ?_;clear hK K
      refine wpAny_ready (rs:=[4]) (by kernel_rfl) (by simp) ?_
      refine AllReady.cons rfl (fun K hK=>?_) AllReady.nil
      go_simp
      go_wp2_with (go_at_call 89;refine HE.out.mono ?_;rintro e w1 ⟨rfl,hb1⟩;obtain ⟨hc1,hf1⟩:=bcell hb1;have HB1:=Lib.hid hb1)
      refine wpAny_ready (rs:=[5]) (by kernel_rfl) (by simp) ?_
      refine AllReady.cons rfl (fun K hK=>?_) AllReady.nil
      go_simp
      refine hK _ _ ?_;clear hK K
      refine wpAny_ready (rs:=[6]) (by kernel_rfl) (by simp) ?_
      refine AllReady.cons rfl (fun K hK=>?_) AllReady.nil
      go_simp
      refine hK _ _ ?_;clear hK K
      refine wpAny_ready (rs:=[7]) (by kernel_rfl) (by simp) ?_
      refine AllReady.cons rfl (fun K hK=>?_) AllReady.nil
      go_simp
      refine hK _ _ ?_;clear hK K
      refine wpAny_ready (rs:=[8]) (by kernel_rfl) (by simp) ?_
      refine AllReady.cons rfl (fun K hK=>?_) AllReady.nil
      go_simp
      refine hK _ _ ?_;clear hK K
      refine wpAny_ready (rs:=[9]) (by kernel_rfl) (by simp) ?_
      refine AllReady.cons rfl (fun K hK=>?_) AllReady.nil
      go_simp
      refine hK _ _ ?_;clear hK K
      refine any_skip 10 rfl (by kernel_rfl) (by kernel_rfl) (by kernel_rfl) (fun _ _ _ h=>h) (by kernel_rfl) ?_
      refine any_skip 11 rfl (by kernel_rfl) (by kernel_rfl) (by kernel_rfl) (fun _ _ _ h=>h) (by kernel_rfl) ?_
      refine any_skip 12 rfl (by kernel_rfl) (by kernel_rfl) (by kernel_rfl) (fun _ _ _ h=>h) (by kernel_rfl) ?_
      refine any_skip 13 rfl (by kernel_rfl) (by kernel_rfl) (by kernel_rfl) (fun _ _ _ h=>h) (by kernel_rfl) ?_
      refine any_skip 14 rfl (by kernel_rfl) (by kernel_rfl) (by kernel_rfl) (fun _ _ _ h=>h) (by kernel_rfl) ?_
      refine any_skip 15 rfl (by kernel_rfl) (by kernel_rfl) (by kernel_rfl) (fun _ _ _ h=>h) (by kernel_rfl) ?_
      refine any_skip 16 rfl (by kernel_rfl) (by kernel_rfl) (by kernel_rfl) (fun _ _ _ h=>h) (by kernel_rfl) ?_
      refine any_skip 17 rfl (by kernel_rfl) (by kernel_rfl) (by kernel_rfl) (fun _ _ _ h=>h) (by kernel_rfl) ?_
      refine any_skip 18 rfl (by kernel_rfl) (by kernel_rfl) (by kernel_rfl) (fun _ _ _ h=>h) (by kernel_rfl) ?_
      refine any_skip 19 rfl (by kernel_rfl) (by kernel_rfl) (by kernel_rfl) (fun _ _ _ h=>h) (by kernel_rfl) ?_
      refine any_skip 20 rfl (by kernel_rfl) (by kernel_rfl) (by kernel_rfl) (fun _ _ _ h=>h) (by kernel_rfl) ?_
      refine any_skip 21 rfl (by kernel_rfl) (by kernel_rfl) (by kernel_rfl) (fun _ _ _ h=>h) (by kernel_rfl) ?_
      refine any_skip 22 rfl (by kernel_rfl) (by kernel_rfl) (by kernel_rfl) (fun _ _ _ h=>h) (by kernel_rfl) ?_
      refine wpAny_ready (rs:=[23]) (by kernel_rfl) (by simp) ?_
      refine AllReady.cons rfl (fun K hK=>?_) AllReady.nil
      go_simp
      refine hK _ _ ?_;clear hK K
      refine wpAny_ready (rs:=[24]) (by kernel_rfl) (by simp) ?_
      refine AllReady.cons rfl (fun K hK=>?_) AllReady.nil
      go_simp
      refine hK _ _ ?_;clear hK K
      refine wpAny_done (by kernel_rfl) ?_ _
      go_wp2_with fail
      go_meet
      exact ⟨false,rfl,Lib.hid (fun _=>⟨HOK.out,fun h=>absurd h (Nat.lt_irrefl _)⟩),Lib.hid (fun h=>(by cases h)),(Ext.drewN (Below.refl _ _) 1).trans HB1.out⟩
     ·obtain ⟨m,hmk⟩:∃ m,k=m+1:=⟨k - 1,by omega⟩
      have hml:m<t.length:=by omega
      obtain ⟨b',off',e',hbl',p0,p1,p2⟩:=row_at HRr.out m hml
      cases e'
      have hda:dAt t k=t[m].depth:=by rw [hmk];simp [dAt,List.getElem?_eq_getElem hml]
      have hgm:=((gs_at hml).1 (HG.out m (by omega))).1
      have hdep:t[m].depth≤18∧0≤t[m].depth:=by
       unfold rowOk at hgm;split at hgm
       ·simp at hgm;omega
       ·simp at hgm;omega
      have hw1:IntKind.i64.wrap (t[m].depth+1)=t[m].depth+1:=by rw [IntKind.wrap_i64];omega
      have hw2:IntKind.i64.wrap ((k:Int) - 1)=(m:Int):=by rw [IntKind.wrap_i64];omega
      have hm0:(m:Int)<t.length:=by omega
      have hgt1:decide (0<k)=true:=by simp;omega
      have hgt0:decide ((0:Int)<(k:Int))=true:=by simp;omega
      have E0:wr.drew.cell? ⟨b,off+k*3,none⟩=some (.int .i64 t[k].id)∧wr.drew.cell? ⟨b,off+k*3+1,none⟩=some (.int .i64 t[k].depth)∧wr.drew.cell? ⟨b,off+k*3+2,none⟩=some (.string t[k].text)∧wr.drew.cell? ⟨b,off+m*3+1,none⟩=some (.int .i64 t[m].depth):=⟨c0,c1,c2,p1⟩
      have hq:decide (t[m].depth+1<t[k].depth)=true∨decide (t[m].depth+1<t[k].depth)=false:=by cases decide (t[m].depth+1<t[k].depth) <;> simp
      have HDA:=Lib.hid hda
      have HK0:Hid (0<k):=Nat.pos_of_ne_zero hk0
      clear hda hgm hdep p0 p2 hmk hk0
      rcases hq with hq | hq
      all_goals
       go_region_held3 (fun w'=>w'.cell? ⟨b,off+k*3,none⟩=some (.int .i64 t[k].id)∧w'.cell? ⟨b,off+k*3+1,none⟩=some (.int .i64 t[k].depth)∧w'.cell? ⟨b,off+k*3+2,none⟩=some (.string t[k].text)∧w'.cell? ⟨b,off+m*3+1,none⟩=some (.int .i64 t[m].depth))
        (first | exact E1 | exact E0 | go_keep)
        (first
         |(go_at_call 89;refine HE.out.mono ?_;rintro e w1 ⟨rfl,hb1⟩;obtain ⟨hc1,hf1⟩:=bcell hb1
           have E1:w1.cell? ⟨b,off+k*3,none⟩=some (.int .i64 t[k].id)∧w1.cell? ⟨b,off+k*3+1,none⟩=some (.int .i64 t[k].depth)∧w1.cell? ⟨b,off+k*3+2,none⟩=some (.string t[k].text)∧w1.cell? ⟨b,off+m*3+1,none⟩=some (.int .i64 t[m].depth):=⟨(hc1 _ _ hbl).trans c0,(hc1 _ _ hbl).trans c1,(hc1 _ _ hbl).trans c2,(hc1 _ _ hbl).trans p1⟩
           have HB1:=Lib.hid hb1;clear hc1 hf1 hb1))
      ·go_wp2_with fail
       go_meet
       exact ⟨true,rfl,Lib.hid (fun h=>by cases h),Lib.hid (fun _ h=>by have h9:=(HGA.out.1 h).2.1 HK0.out;rw [HDA.out] at h9;simp at hq;omega),(Ext.drewN (Below.refl _ _) 1).trans HB1.out⟩
      ·go_wp2_with fail
       go_meet
       exact ⟨false,rfl,Lib.hid (fun _=>⟨HOK.out,fun _=>by rw [HDA.out];simp at hq;omega⟩),Lib.hid (fun h=>(by cases h)),(Ext.drewN (Below.refl _ _) 1).trans HB1.out⟩
   case rest=>
    obtain ⟨z,rfl,HF,HT,HBX⟩:=hcut
    cases z
    ·obtain ⟨hrk,hdk⟩:=HF.out rfl
     have HRK:=Lib.hid hrk;have HDK:=Lib.hid hdk
     have hex:=HB.out.trans (HBX.out.mono HB.out.size)
     have hRx:=HR.out.ext hex
     have hbx:b<wc.heap.size:=Nat.lt_of_lt_of_le hbl HBX.out.size
     obtain ⟨b',off',e',hbl',d0,d1,d2⟩:=row_at hRx k hlt
     cases e'
     have HRT:=Lib.hid (root_s t[k].id wc)
     have HRx:=Lib.hid hRx;have HEX:=Lib.hid hex
     have HTK:=Lib.hid (rootsN_take t k hlt)
     have hrn:rootsN (t.take k)≤k:=Nat.le_trans (rootsN_le _) (by rw [List.length_take];omega)
     generalize hrt:rootsN (t.take k)=rt at *
     clear hrk hdk hex hRx c0 c1 c2 HF HT hE
     go_wp2_with fail
     refine HRT.out.mono ?_
     rintro e w' ⟨rfl,hw'⟩
     rw [hw'];clear hw'
     go_upto_if 42 with fail
     go_cut [3] (fun s wx=>s=.int .i64 (rootsN (t.take (k+1)):Nat)∧Hid (isRoot t[k].id=true→t[k].id=(rt:Int)+1)∧wx=wc)
     case first=>
      cases hroot:isRoot t[k].id
      ·have HK1:Hid (rootsN (t.take (k+1))=rt):=by show _=_;rw [HTK.out,hroot];rfl
       have HRF:=Lib.hid hroot
       clear hroot
       go_wp2_with fail
       go_meet
       exact ⟨by rw [HK1.out],Lib.hid (fun h=>by rw [HRF.out] at h;cases h),rfl⟩
      ·have HK1:Hid (rootsN (t.take (k+1))=rt+1):=by show _=_;rw [HTK.out,hroot];rfl
       have hw9:IntKind.i64.wrap ((rt:Int)+1)=(rt:Int)+1:=by rw [IntKind.wrap_i64];omega
       by_cases he:t[k].id=(rt:Int)+1
       ·have he':(t[k].id != (rt:Int)+1)=false:=by simp [he]
        have HEQ:=Lib.hid he
        clear hroot he
        go_wp2_with fail
        go_meet
        exact ⟨by rw [HK1.out];rfl,Lib.hid (fun _=>HEQ.out),rfl⟩
       ·have he':(t[k].id != (rt:Int)+1)=true:=by simp [he]
        have HX:=Lib.hid (treeOk_not hlt (fun h=>he ((HGA.out.1 h).2.2.1 hroot)))
        clear hroot he
        go_wp2_with fail
        go_ret
        exact ⟨by rw [HX.out];rfl,HEX.out⟩
     case rest=>
      obtain ⟨rfl,HROOT,rfl⟩:=hcut
      clear d1 d2 HRT
      go_wp2_with fail
      go_loopg [5] k (fun gj i wr2=>∃ (j n:Nat),wr2=wc.drewN n∧j≤k∧Hid (gj=k - j)∧i=.int .i64 j∧Hid (∀ i (hi:i<t.length),i<j→t[i].id≠t[k].id))
      case atStart=>exact ⟨0,0,rfl,Nat.zero_le _,rfl,rfl,fun i _ h=>by omega⟩
      case round=>
       obtain ⟨j,n,rfl,hj,HJ,rfl,HN⟩:=hrel
       by_cases hjk:j<k
       ·obtain ⟨b',off',e',hbl2,q0,q1,q2⟩:=row_at HRx.out j (by omega)
        cases e'
        have hj0:(j:Int)<t.length:=by omega
        have hdj:decide ((j:Int)<k)=true:=by simpa using hjk
        clear q1 q2
        by_cases he:t[j].id=t[k].id
        ·have he':(t[j].id == t[k].id)=true:=by simp [he]
         have HX:=Lib.hid (treeOk_not hlt (fun h=>(HGA.out.1 h).2.2.2 j (by omega) hjk he))
         clear he
         go_wp2_with fail
         go_quiet (fail)
         go_wp2_with fail
         go_ret
         exact ⟨by rw [HX.out];rfl,Ext.drewN (Ext.drewN HEX.out _) _⟩
        ·have he':(t[j].id == t[k].id)=false:=by simp [he]
         have HN1:Hid (∀ i (hi:i<t.length),i<j+1→t[i].id≠t[k].id):=fun i hi hij=>by
          by_cases e:i=j
          ·subst e;exact he
          ·exact HN.out i hi (by omega)
         clear he
         go_wp2_with fail
         go_quiet (fail)
         go_wp2_with fail
         go_roundg (k - (j+1))
         case measure=>have:=HJ.out;omega
         case rel=>exact ⟨j+1,_,rfl,by omega,rfl,by go_num,HN1⟩
       ·have hjk':j=k:=by omega
        have HGK:Hid (GS t k):=HGA.out.2 ⟨HRK.out,HDK.out,fun h=>by rw [HROOT.out h],fun i hi hik=>HN.out i hi (by omega)⟩
        go_wp2_with fail
        go_roundg (t.length - (k+1))
        case measure=>have:=HK.out;omega
        case rel=>
         refine ⟨k+1,by omega,rfl,rfl,by go_num,fun i hi=>?_,Ext.drewN HEX.out _⟩
         by_cases e:i=k
         ·rw [e];exact HGK.out
         ·exact HG.out i (by omega)
    ·have HX:=Lib.hid (treeOk_not hlt (HT.out rfl))
     clear HT HF hE c0 c1 c2
     go_wp2_with fail
     go_ret
     exact ⟨by rw [HX.out];rfl,HB.out.trans (HBX.out.mono HB.out.size)⟩
  ·have hkl:k=t.length:=by omega
   have hrn:rootsN (t.take k)≤k:=Nat.le_trans (rootsN_le _) (by rw [List.length_take];omega)
   have HT3:=Lib.hid (treeOk_ts t)
   subst hkl
   rw [List.take_length] at hrn ⊢
   by_cases h3:rootsN t=3
   ·have h0:0<t.length:=by omega
    obtain ⟨b,off,rfl,hbl,c0,c1,c2⟩:=row_at (HR.out.ext HB.out) 0 h0
    simp only [Nat.zero_mul,Nat.add_zero] at c0 c1 c2
    have h0':(0:Int)<t.length:=by omega
    have h3':((rootsN t:Nat):Int)=3:=by omega
    have h3b:(((rootsN t:Nat):Int) == 3)=true:=by simp [h3]
    have HX:Hid (treeOk t=(t[0].id == 1)):=by
     show _=_
     rw [Bool.eq_iff_iff,HT3.out]
     simp only [beq_iff_eq,h3,List.getElem?_eq_getElem h0]
     constructor
     ·rintro ⟨_,_,r,hr,h⟩;obtain rfl:=Option.some.inj hr;exact h
     ·intro h;exact ⟨HG.out,trivial,_,rfl,h⟩
    generalize hrt:rootsN t=rt at *
    clear hrt h3 hrn c1 c2
    go_wp2_with fail
    go_ret
    exact ⟨by rw [HX.out];first | rfl | simp [h3b],HB.out⟩
   ·have h3b:(((rootsN t:Nat):Int) == 3)=false:=by simp;omega
    have HX:Hid (treeOk t=false):=by
     show _=_
     rw [Bool.eq_false_iff];intro h;exact h3 (HT3.out.1 h).2.1
    generalize hrt:rootsN t=rt at *
    clear hrt h3 hrn
    go_wp2_with fail
    go_ret
    exact ⟨by rw [HX.out];first | rfl | simp [h3b],HB.out⟩
open Go.RowKit
def CW (c:Client):Prop:=(i64 c.who∧i64 c.seen∧i64 c.done∧i64 c.made)∧(∀ r∈c.base,i64 r.id)∧(∀ e∈c.wait,OpW e.op)∧c.wait.length≤2000000
set_option maxRecDepth 100000 in
set_option maxHeartbeats 4000000 in
theorem clientOk_s (c:Client) (v:Value) (w:World) (h:CV w c v) (hc:CW c) :
  Calls Tryz.prog 17 #[v] w fun r w'=>r=.returned (.bool (clientOk c))∧Ext w w':=by
 obtain ⟨A1,n1,A2,n2,rfl,h1,h2⟩:=h
 obtain ⟨-,hci,hcw,hlw⟩:=hc
 have H1:=Lib.hid h1;have H2:=Lib.hid h2;have HOW:=Lib.hid hcw
 have hsz:=alloc_sz w (oC c A1 n1 A2 n2)
 have HB0:Hid (Ext w (w.alloc (oC c A1 n1 A2 n2))):=(Below.refl _ w).alloc (Nat.le_refl _) _
 have HX0:=Lib.hid (World.alloc_heap_new w (oC c A1 n1 A2 n2))
 have HW:=Lib.hid (in_c c.who 1 3 (w.alloc (oC c A1 n1 A2 n2)))
 have HS:=Lib.hid (in_c c.seen 0 40 (w.alloc (oC c A1 n1 A2 n2)))
 have HTr:=Lib.hid (treeOk_s A1 n1 c.base (w.alloc (oC c A1 n1 A2 n2)) (H1.out.alloc _) hci)
 have HNO:Hid (∀ W:World,Ext (w.alloc (oC c A1 n1 A2 n2)) W→Ext w W):=fun W hW=>HB0.out.trans (hW.mono (by rw [alloc_sz];omega))
 clear h1 h2 hcw hci
 go_enter Tryz.func17,Tryz.ntmps17
 go_wp2_with fail
 refine HW.out.mono ?_
 rintro e w1 ⟨rfl,rfl⟩
 clear HW
 cases hw:inR c.who 1 3
 ·have HR:Hid (clientOk c=false):=by show _=_;unfold clientOk;rw [isWho_in,hw];rfl
  clear hw
  go_wp2_with fail
  go_ret
  exact ⟨by rw [HR.out];rfl,HB0.out⟩
 have HWho:Hid (isWho c.who=true):=hw
 clear hw
 go_wp2_with fail
 refine HS.out.mono ?_
 rintro e w1 ⟨rfl,rfl⟩
 clear HS
 cases hs:inR c.seen 0 40
 ·have HR:Hid (clientOk c=false):=by show _=_;unfold clientOk;rw [show decide (0≤c.seen∧c.seen≤40)=inR c.seen 0 40 from rfl,hs];simp
  clear hs
  go_wp2_with fail
  go_ret
  exact ⟨by rw [HR.out];rfl,HB0.out⟩
 have hsn:=of_decide_eq_true (show decide (0≤c.seen∧c.seen≤40)=true from hs)
 obtain ⟨hs0,hs1⟩:=hsn
 clear hs
 go_wp2_with fail
 refine HTr.out.mono ?_
 rintro e w1 ⟨rfl,hb1⟩
 have hx:=(hb1.block w.heap.size (by rw [alloc_sz];omega)).trans HX0.out
 obtain ⟨d0,d1,d2,d3,d4,d5,df⟩:=six_cells hx
 have HB1:=Lib.hid hb1;have HX:=Lib.hid hx
 clear hb1 hx HTr
 cases htr:treeOk c.base
 ·have HR:Hid (clientOk c=false):=by show _=_;unfold clientOk;rw [htr];simp
  clear htr
  go_wp2_with fail
  go_ret
  exact ⟨by rw [HR.out];rfl,HNO.out _ HB1.out⟩
 have HTree:=Lib.hid htr
 clear htr
 have HDN:=Lib.hid (in_c c.done 0 c.seen w1)
 go_wp2_with fail
 refine HDN.out.mono ?_
 rintro e w1' ⟨rfl,hw1'⟩
 rw [hw1'];clear hw1' HDN
 cases hdn:inR c.done 0 c.seen
 ·have HR:Hid (clientOk c=false):=by show _=_;unfold clientOk;rw [show decide (0≤c.done∧c.done≤c.seen)=inR c.done 0 c.seen from rfl,hdn];simp
  clear hdn
  go_wp2_with fail
  go_ret
  exact ⟨by rw [HR.out];rfl,HNO.out _ HB1.out⟩
 have hdnn:=of_decide_eq_true (show decide (0≤c.done∧c.done≤c.seen)=true from hdn)
 obtain ⟨hd0,hd1⟩:=hdnn
 clear hdn
 have hww:IntKind.i64.wrap (c.done+(c.wait.length:Int))=c.done+(c.wait.length:Int):=by rw [IntKind.wrap_i64];omega
 by_cases hl:(40:Int)<c.done+c.wait.length
 ·have HR:Hid (clientOk c=false):=by show _=_;unfold clientOk;rw [decide_eq_false (show ¬((c.wait.length:Int)≤40 - c.done) by omega)];simp
  go_wp2_with fail
  go_ret
  exact ⟨by rw [HR.out];rfl,HNO.out _ HB1.out⟩
 have HMD:=Lib.hid (in_c c.made 0 6 w1)
 go_wp2_with fail
 refine HMD.out.mono ?_
 rintro e w1' ⟨rfl,hw1'⟩
 rw [hw1'];clear hw1' HMD
 cases hmd:inR c.made 0 6
 ·have HR:Hid (clientOk c=false):=by show _=_;unfold clientOk;rw [show decide (0≤c.made∧c.made≤6)=inR c.made 0 6 from rfl,hmd];simp
  clear hmd
  go_wp2_with fail
  go_ret
  exact ⟨by rw [HR.out];rfl,HNO.out _ HB1.out⟩
 have hmdd:=of_decide_eq_true (show decide (0≤c.made∧c.made≤6)=true from hmd)
 obtain ⟨hm0,hm1⟩:=hmdd
 clear hmd
 have hres:clientOk c=waitOk c:=by
  unfold clientOk
  rw [HWho.out,HTree.out,decide_eq_true (show 0≤c.seen∧c.seen≤40 by omega),decide_eq_true (show 0≤c.done∧c.done≤c.seen by omega),decide_eq_true (show (c.wait.length:Int)≤40 - c.done by omega),decide_eq_true (show 0≤c.made∧c.made≤6 by omega)]
  simp
 have HRES:=Lib.hid hres
 have hwho:1≤c.who∧c.who≤3:=by have:=HWho.out;simpa [isWho] using this
 obtain ⟨hw1,hw3⟩:=hwho
 clear hres hww
 go_wp2_with fail
 go_loopg [3] c.wait.length (fun gk i wr=>∃ k:Nat,k≤c.wait.length∧Hid (gk=c.wait.length - k)∧i=.int .i64 k∧Hid (∀ j (hj:j<c.wait.length),j<k→waitAt c j c.wait[j]=true)∧Hid (Ext (w.alloc (oC c A1 n1 A2 n2)) wr))
 case atStart=>exact ⟨0,Nat.zero_le _,rfl,rfl,fun j _ h=>by omega,HB1.out⟩
 case round=>
  obtain ⟨k,hk,HK,rfl,HG,HW⟩:=hrel
  clear d0 d1 d2 d3 d4 d5 df
  have hEx:=HNO.out _ HW.out
  have hxr:=(HW.out.block w.heap.size (by rw [alloc_sz];omega)).trans HX0.out
  obtain ⟨d0,d1,d2,d3,d4,d5,df⟩:=six_cells hxr
  by_cases hlt:k<c.wait.length
  ·obtain ⟨b,off,rfl,hbl,e0,e1,e2,e3,e4,e5,e6⟩:=ent_at (H2.out.ext hEx) k hlt
   have hx:=(HW.out.block w.heap.size (by rw [alloc_sz];omega)).trans (World.alloc_heap_new w _)
   have hws:=HW.out.size
   rw [alloc_sz] at hws
   have hbx:=World.alloc_heap_new wr (.cells #[.int .i64 c.wait[k].who,.int .i64 c.wait[k].seq,.int .i64 c.wait[k].op.kind,.int .i64 c.wait[k].op.id,.int .i64 c.wait[k].op.up,.int .i64 c.wait[k].op.pos,.string c.wait[k].op.text] 35)
   have hC:=Lib.hid (entryOk_s c.wait[k] (wr.alloc (.cells #[.int .i64 c.wait[k].who,.int .i64 c.wait[k].seq,.int .i64 c.wait[k].op.kind,.int .i64 c.wait[k].op.id,.int .i64 c.wait[k].op.up,.int .i64 c.wait[k].op.pos,.string c.wait[k].op.text] 35)) (H2.out.okAt k hlt) (HOW.out _ (List.getElem_mem hlt)))
   have HEx:=Lib.hid hEx
   clear hEx
   simp only [Entry.val] at hC
   go_wp2_with fail
   refine hC.out.mono ?_
   rintro e w2 ⟨rfl,hb2⟩
   have hy:=(hb2.block w.heap.size (by rw [alloc_sz];omega)).trans ((Below.heap_alloc wr _ w.heap.size (by omega)).trans hx)
   clear d0 d1 d2 d3 d4 d5 df
   obtain ⟨d0,d1,d2,d3,d4,d5,df⟩:=six_cells hy
   have hz:=(hb2.block wr.heap.size (by rw [alloc_sz];omega)).trans hbx
   obtain ⟨g0,g1,g2,g3,g4,g5,g6,gf⟩:=seven_cells hz
   have hW2:Ext (w.alloc (oC c A1 n1 (some ⟨b,off,none⟩) n2)) w2:=HW.out.trans (((Below.refl _ wr).alloc HW.out.size _).trans (hb2.mono (Nat.le_trans HW.out.size (Nat.le_trans (Nat.le_succ _) (Nat.le_of_eq (alloc_sz _ _).symm)))))
   have HW2:=Lib.hid hW2
   clear hx hbx hb2 hy hz hC hW2
   have hbad:waitAt c k c.wait[k]=false→Hid (waitOk c=false):=fun h=>waitOk_false c k hlt h
   cases hok:entryOk c.wait[k]
   ·have HR:=hbad (by unfold waitAt;rw [hok];rfl)
    clear hok hbad
    go_wp2_with fail
    go_ret
    exact ⟨by rw [HRES.out,HR.out];rfl,HNO.out _ HW2.out⟩
   have HOK:=Lib.hid hok
   clear hok
   by_cases hwho:c.wait[k].who=c.who
   ·have hwho':(c.wait[k].who != c.who)=false:=by simp [hwho]
    by_cases hseq:c.wait[k].seq=c.done+k+1
    ·have hseq':(c.wait[k].seq != c.done+(k:Int)+1)=false:=by simp [hseq]
     by_cases hkd:c.wait[k].op.kind=1
     ·have hkd':(c.wait[k].op.kind == 1)=true:=by simp [hkd]
      by_cases hid:10*c.who+c.made<c.wait[k].op.id
      ·have HR:=hbad (by unfold waitAt;simp [hkd,hid])
       clear hbad hwho hseq hkd
       go_wp2_with fail
       go_ret
       exact ⟨by rw [HRES.out,HR.out];rfl,HNO.out _ HW2.out⟩
      ·have HGood:Hid (waitAt c k c.wait[k]=true):=by show _=_;unfold waitAt;rw [HOK.out];simp [hwho,hseq];omega
       clear hbad hwho hseq hkd
       go_wp2_with fail
       go_roundg (c.wait.length - (k+1))
       case measure=>have:=HK.out;omega
       case rel=>
        refine ⟨k+1,by omega,rfl,by go_num,fun j hj hjk=>?_,HW2.out⟩
        by_cases e:j=k
        ·subst e;exact HGood.out
        ·exact HG.out j hj (by omega)
     ·have hkd':(c.wait[k].op.kind == 1)=false:=by simp [hkd]
      have HGood:Hid (waitAt c k c.wait[k]=true):=by show _=_;unfold waitAt;rw [HOK.out];simp [hwho,hseq,hkd]
      clear hbad hwho hseq hkd
      go_wp2_with fail
      go_roundg (c.wait.length - (k+1))
      case measure=>have:=HK.out;omega
      case rel=>
       refine ⟨k+1,by omega,rfl,by go_num,fun j hj hjk=>?_,HW2.out⟩
       by_cases e:j=k
       ·subst e;exact HGood.out
       ·exact HG.out j hj (by omega)
    ·have hseq':(c.wait[k].seq != c.done+(k:Int)+1)=true:=by simp [hseq]
     have HR:=hbad (by unfold waitAt;simp [hseq])
     clear hbad hwho hseq
     go_wp2_with fail
     go_ret
     exact ⟨by rw [HRES.out,HR.out];rfl,HNO.out _ HW2.out⟩
   ·have hwho':(c.wait[k].who != c.who)=true:=by simp [hwho]
    have HR:=hbad (by unfold waitAt;simp [hwho])
    clear hbad hwho
    go_wp2_with fail
    go_ret
    exact ⟨by rw [HRES.out,HR.out];rfl,HNO.out _ HW2.out⟩
  ·have hkl:k=c.wait.length:=by omega
   go_wp2_with fail
   go_ret
   exact ⟨by rw [HRES.out,waitOk_true c (fun j hj=>HG.out j hj (by omega))];rfl,hEx⟩
def showS (c:Client):List Row:=if clientOk c then treeFrom c.base c.wait else []
theorem waitOk_ent {c:Client} (h:waitOk c=true):∀ e∈c.wait,opOk e.op=true:=fun e he=>by
 obtain ⟨k,hk,rfl⟩:=List.getElem_of_mem he
 have:=waitOk_at h k hk
 unfold waitAt at this
 simp only [Bool.and_eq_true] at this
 have:=this.1.1.1
 unfold entryOk at this
 simp only [Bool.and_eq_true] at this
 exact this.1.2
set_option maxRecDepth 100000 in
set_option maxHeartbeats 1000000 in
theorem clientShow_s (c:Client) (v:Value) (w:World) (h:CV w c v) (hc:CW c) :
  Calls Tryz.prog 16 #[v] w fun r w'=>∃ v',r=.returned v'∧Own 46 w' w.heap.size v' (showS c)∧Ext w w':=by
 have HCV:=Lib.hid h;have HC:=Lib.hid hc
 obtain ⟨A1,n1,A2,n2,rfl,h1,h2⟩:=h
 have H1:=Lib.hid h1;have H2:=Lib.hid h2
 have hE0:Ext w (w.alloc (oC c A1 n1 A2 n2)):=(Below.refl _ w).alloc (Nat.le_refl _) _
 have hbox:=World.alloc_heap_new w (oC c A1 n1 A2 n2)
 have HC:=Lib.hid (clientOk_s c _ (w.alloc (oC c A1 n1 A2 n2)) (HCV.out.ext hE0) hc)
 have HE0:=Lib.hid hE0;have HBX:=Lib.hid hbox
 have hsz:=alloc_sz w (oC c A1 n1 A2 n2)
 have HSZ:=Lib.hid hsz
 clear h1 h2 hc hE0 hbox hsz
 go_enter Tryz.func16,Tryz.ntmps16
 go_wp2_with fail
 refine HC.out.mono ?_
 rintro e w1 ⟨rfl,hb1⟩
 have hx1:=(hb1.block w.heap.size (by rw [HSZ.out];omega)).trans HBX.out
 have hE1:=HE0.out.trans (hb1.mono HE0.out.size)
 have HX1:=Lib.hid hx1;have HE1:=Lib.hid hE1
 obtain ⟨c0,c1,c2,c3,c4,c5,cf⟩:=six_cells hx1
 clear hb1 hx1 hE1 HC
 cases hok:clientOk c
 ·have HR:Hid (showS c=[]):=by show _=_;unfold showS;rw [hok];rfl
  clear hok
  go_wp2_with fail
  go_ret
  exact ⟨_,rfl,by rw [HR.out];exact own_made _ _ HE1.out.size,(HE1.out.alloc HE1.out.size _)⟩
 ·obtain ⟨hw9,hs0,hs40,htr,hd0,hd1,hwl,hm0,hm1,hwt⟩:=clientOk_parts hok
  have HR:Hid (showS c=treeFrom c.base c.wait):=by show _=_;unfold showS;rw [hok];rfl
  have HTS:=Lib.hid (tree_s A1 n1 c.base A2 n2 c.wait w1 (H1.out.ext HE1.out) (H2.out.ext HE1.out) htr (waitOk_ent hwt))
  clear hw9 hs0 hs40 htr hd0 hd1 hwl hm0 hm1 hwt hok
  go_wp2_with fail
  refine HTS.out.mono ?_
  rintro e w2 ⟨v2,rfl,hown2,hb2⟩
  have HO2:=Lib.hid hown2;have HB2:=Lib.hid hb2
  clear hown2 hb2 HTS
  go_wp2_with fail
  go_ret
  exact ⟨_,rfl,by rw [HR.out];exact HO2.out.lower HE1.out.size,HE1.out.trans (HB2.out.mono HE1.out.size)⟩
open Go.RowKit Go.Lib
theorem hearL_ok (who:Int):∀ (l:List Entry) (q:List Entry) (t:List Row) (d n:Int) (q':List Entry) (t':List Row) (d' n':Int),hearL who l q t d n=some (q',t',d',n')→treeOk t=true→(∀ e∈l,opOk e.op=true)→treeOk t'=true∧q'.length≤q.length:=by
 intro l
 induction l with
 |nil=>
  intro q t d n q' t' d' n' h ht _
  simp only [hearL,Option.some.injEq,Prod.mk.injEq] at h
  obtain ⟨rfl,rfl,_,_⟩:=h
  exact ⟨ht,Nat.le_refl _⟩
 |cons e l ih=>
  intro q t d n q' t' d' n' h ht hl
  have ho:=hl e List.mem_cons_self
  have htn:treeOk (opDo t e.op)=true:=by
   have hod:opDo t e.op=doL t e.op:=by unfold opDo;rw [ht,ho];rfl
   rw [hod];exact treeOk_do t _ ht ho
  have hl':∀ x∈l,opOk x.op=true:=fun x hx=>hl x (List.mem_cons_of_mem _ hx)
  unfold hearL at h
  split at h
  ·cases q with
   |nil=>simp at h
   |cons e0 q0=>
    simp only at h
    split at h
    ·obtain ⟨h1,h2⟩:=ih _ _ _ _ _ _ _ _ h htn hl'
     exact ⟨h1,by simp only [List.length_cons];omega⟩
    ·cases h
  ·exact ih _ _ _ _ _ _ _ _ h htn hl'
theorem hearS_len (c:Client) (frm:Int) (l:List Entry) (hok:clientOk c=true) (hall:∀ x∈l,entryOk x=true):(hearS c frm l).1.base.length≤1000∧(hearS c frm l).1.wait.length≤40:=by
 obtain ⟨hw9,hs0,hs40,htr,hd0,hd1,hwl,hm0,hm1,hwt⟩:=clientOk_parts hok
 have h0:c.base.length≤1000∧c.wait.length≤40:=⟨treeOk_len htr,by omega⟩
 unfold hearS
 split
 ·exact h0
 ·cases hh:hearL c.who (l.drop (c.seen - frm).toNat) c.wait c.base c.done c.seen with
  |none=>exact h0
  |some p=>
   obtain ⟨q,t,d,n⟩:=p
   obtain ⟨h1,h2⟩:=hearL_ok _ _ _ _ _ _ _ _ _ _ hh htr (fun e he=>entryOk_op (hall e (List.mem_of_mem_drop he)))
   exact ⟨treeOk_len h1,by show q.length≤40;omega⟩
theorem clientHear_S (c:Client) (frm:Int) (l:List Entry) (hok:clientOk c=true) (h0:0≤frm) (h1:frm≤40) (hall:∀ x∈l,entryOk x=true):clientHear c frm l=hearS c frm l:=by
 have:l.all entryOk=true:=List.all_eq_true.2 hall
 unfold clientHear hearS
 rw [if_neg (by rw [hok];simp;omega),if_neg (by rw [this];simp)]
 have hd:l.drop (min (c.seen - frm) l.length).toNat=l.drop (c.seen - frm).toNat:=by
  by_cases h:(c.seen - frm)≤l.length
  ·rw [Int.min_eq_left h]
  ·rw [Int.min_eq_right (by omega),List.drop_of_length_le (by omega),List.drop_of_length_le (by omega)]
 rw [hd]
 rfl
open Go.RowKit Go.Lib
theorem clientOk_of {c:Client} (h1:isWho c.who=true) (h2:0≤c.seen) (h3:c.seen≤40) (h4:treeOk c.base=true) (h5:0≤c.done) (h6:c.done≤c.seen) (h7:(c.wait.length:Int)≤40 - c.done) (h8:0≤c.made) (h9:c.made≤6) (h10:waitOk c=true):clientOk c=true:=by
 simp only [clientOk,Bool.and_eq_true,decide_eq_true_eq]
 exact ⟨⟨⟨⟨⟨⟨h1,h2,h3⟩,h4⟩,h5,h6⟩,h7⟩,h8,h9⟩,h10⟩
def newEnt (c:Client) (o:Op):Entry:=⟨c.who,c.done+c.wait.length+1,o⟩
def doS (c:Client) (o:Op):Client × Bool:=
 if entryOk (newEnt c o)=true∧(o.kind=1→o.id=rowMade c.who (c.made+1)) then
  (⟨c.who,c.seen,c.base,c.wait++[newEnt c o],c.done,if o.kind=1 then c.made+1 else c.made⟩,true)
 else (c,false)
theorem entryOk_parts {e:Entry} (h:entryOk e=true):isWho e.who=true∧1≤e.seq∧e.seq≤40∧opOk e.op=true:=by
 unfold entryOk at h
 simp only [Bool.and_eq_true,decide_eq_true_eq] at h
 exact ⟨h.1.1.1,h.1.1.2.1,h.1.1.2.2,h.1.2⟩
theorem opOk_made {o:Op} (h:opOk o=true):isMade o.id=true:=by
 unfold opOk at h
 rw [Bool.and_eq_true] at h
 exact h.1
theorem rowMade_le {who n:Int} (h:isMade (rowMade who n)=true):1≤n∧n≤6∧rowMade who n=10*who+n:=by
 unfold rowMade at h ⊢
 split
 ·rename_i h1;exact ⟨h1.2.2.1,h1.2.2.2,rfl⟩
 ·rename_i h1;rw [if_neg h1] at h;simp [isMade] at h
theorem doS_ok {c:Client} {o:Op} (h:clientOk c=true):clientOk (doS c o).1=true:=by
 unfold doS
 split
 rotate_left
 ·exact h
 rename_i hc
 obtain ⟨he,hm⟩:=hc
 obtain ⟨hw9,hs0,hs40,htr,hd0,hd1,hwl,hm0,hm1,hwt⟩:=clientOk_parts h
 obtain ⟨e1,e2,e3,e4⟩:=entryOk_parts he
 have hseq:(newEnt c o).seq=c.done+c.wait.length+1:=rfl
 have hop:(newEnt c o).op=o:=rfl
 rw [hop] at e4
 have hmk:o.kind=1→c.made+1≤6∧o.id=10*c.who+(c.made+1):=fun hk=>by
  have h1:=hm hk
  have h2:=opOk_made e4
  rw [h1] at h2
  obtain ⟨-,h3,h4⟩:=rowMade_le h2
  exact ⟨h3,by rw [h1,h4]⟩
 refine clientOk_of hw9 hs0 hs40 htr hd0 hd1 ?_ ?_ ?_ ?_
 ·show (((c.wait++[newEnt c o]).length:Nat):Int)≤40 - c.done
  rw [List.length_append,List.length_singleton];omega
 ·show 0≤(if o.kind=1 then c.made+1 else c.made)
  split <;> omega
 ·show (if o.kind=1 then c.made+1 else c.made)≤6
  split
  ·rename_i hk;exact (hmk hk).1
  ·exact hm1
 ·refine waitOk_true _ fun k hk=>?_
  have hk':k<(c.wait++[newEnt c o]).length:=hk
  show waitAt _ k (c.wait++[newEnt c o])[k]=true
  rw [List.length_append,List.length_singleton] at hk'
  by_cases hlt:k<c.wait.length
  ·rw [List.getElem_append_left hlt]
   have h1:=waitOk_at hwt k hlt
   unfold waitAt at h1 ⊢
   simp only [Bool.and_eq_true,Bool.not_eq_true',Bool.and_eq_false_iff,decide_eq_true_eq,decide_eq_false_iff_not] at h1 ⊢
   obtain ⟨⟨⟨a1,a2⟩,a3⟩,a4⟩:=h1
   refine ⟨⟨⟨a1,a2⟩,a3⟩,?_⟩
   rcases a4 with a4 | a4
   ·exact .inl a4
   ·refine .inr ?_
    split <;> omega
  ·have hkl:k=c.wait.length:=by omega
   subst hkl
   rw [List.getElem_append_right (Nat.le_refl _)]
   simp only [Nat.sub_self,List.getElem_cons_zero]
   unfold waitAt
   simp only [Bool.and_eq_true,Bool.not_eq_true',Bool.and_eq_false_iff,decide_eq_true_eq,decide_eq_false_iff_not]
   refine ⟨⟨⟨he,rfl⟩,hseq⟩,?_⟩
   rw [hop]
   by_cases hk:o.kind=1
   ·refine .inr ?_
    rw [if_pos hk]
    have:=(hmk hk).2
    omega
   ·exact .inl hk
theorem hearL_inv (who made:Int):∀ (l:List Entry) (q:List Entry) (t:List Row) (d n:Int) (q':List Entry) (t':List Row) (d' n':Int),hearL who l q t d n=some (q',t',d',n')→treeOk t=true→(∀ e∈l,entryOk e=true)→0≤d→d≤n →
  (∀ k (hk:k<q.length),waitAt ⟨who,0,[],[],d,made⟩ k q[k]=true) →
  treeOk t'=true∧0≤d'∧d'≤n'∧n'=n+l.length∧(q'.length:Int)+d'=q.length+d∧∀ k (hk:k<q'.length),waitAt ⟨who,0,[],[],d',made⟩ k q'[k]=true:=by
 intro l
 induction l with
 |nil=>
  intro q t d n q' t' d' n' h ht _ hd hn hw
  simp only [hearL,Option.some.injEq,Prod.mk.injEq] at h
  obtain ⟨rfl,rfl,rfl,rfl⟩:=h
  exact ⟨ht,hd,hn,by simp,rfl,hw⟩
 |cons e l ih=>
  intro q t d n q' t' d' n' h ht hl hd hn hw
  have ho:=entryOk_op (hl e List.mem_cons_self)
  have htn:treeOk (opDo t e.op)=true:=by
   have hod:opDo t e.op=doL t e.op:=by unfold opDo;rw [ht,ho];rfl
   rw [hod];exact treeOk_do t _ ht ho
  have hl':∀ x∈l,entryOk x=true:=fun x hx=>hl x (List.mem_cons_of_mem _ hx)
  unfold hearL at h
  split at h
  ·cases q with
   |nil=>simp at h
   |cons e0 q0=>
    simp only at h
    split at h
    ·have hw':∀ k (hk:k<q0.length),waitAt ⟨who,0,[],[],d+1,made⟩ k q0[k]=true:=fun k hk=>by
      have h1:=hw (k+1) (by simp only [List.length_cons];omega)
      rw [List.getElem_cons_succ] at h1
      unfold waitAt at h1 ⊢
      simp only [Bool.and_eq_true,decide_eq_true_eq] at h1 ⊢
      obtain ⟨⟨⟨a1,a2⟩,a3⟩,a4⟩:=h1
      refine ⟨⟨⟨a1,a2⟩,by omega⟩,a4⟩
     obtain ⟨b1,b2,b3,b4,b5,b6⟩:=ih _ _ _ _ _ _ _ _ h htn hl' (by omega) (by omega) hw'
     refine ⟨b1,b2,b3,?_,?_,b6⟩
     ·rw [b4];simp only [List.length_cons];omega
     ·simp only [List.length_cons];omega
    ·cases h
  ·obtain ⟨b1,b2,b3,b4,b5,b6⟩:=ih _ _ _ _ _ _ _ _ h htn hl' hd (by omega) hw
   refine ⟨b1,b2,b3,?_,b5,b6⟩
   rw [b4];simp only [List.length_cons];omega
theorem hearS_ok {c:Client} {frm:Int} {l:List Entry} (h:clientOk c=true) (h0:0≤frm) (hall:∀ e∈l,entryOk e=true):clientOk (hearS c frm l).1=true:=by
 obtain ⟨hw9,hs0,hs40,htr,hd0,hd1,hwl,hm0,hm1,hwt⟩:=clientOk_parts h
 unfold hearS
 split
 ·exact h
 ·rename_i hf
  cases hh:hearL c.who (l.drop (c.seen - frm).toNat) c.wait c.base c.done c.seen with
  |none=>exact h
  |some p=>
   obtain ⟨q,t,d,n⟩:=p
   obtain ⟨b1,b2,b3,b4,b5,b6⟩:=hearL_inv c.who c.made _ _ _ _ _ _ _ _ _ hh htr (fun e he=>hall e (List.mem_of_mem_drop he)) hd0 hd1 (fun k hk=>waitOk_at hwt k hk)
   rw [List.length_drop] at b4
   refine clientOk_of hw9 (by show 0≤n;omega) (by show n≤40;omega) b1 b2 b3 (by show (q.length:Int)≤40 - d;omega) hm0 hm1 (waitOk_true _ fun k hk=>b6 k hk)
end Go.Proofs.YtecmcjfdaipfcaaGreatDoor
