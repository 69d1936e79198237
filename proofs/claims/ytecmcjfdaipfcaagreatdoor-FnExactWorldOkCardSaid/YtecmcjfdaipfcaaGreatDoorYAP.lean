/- Walk of the reference: a letter that is ok. .. Walk of the reference: somebody that is such. -/
import Derived.Test.YtecmcjfdaipfcaaGreatDoorYAO
import Derived.Test.YtecmcjfdaipfcaaGreatDoorYAI
import Derived.Test.YtecmcjfdaipfcaaGreatDoorYAK
namespace Go.Proofs.YtecmcjfdaipfcaaGreatDoor
open Go.RowKit Go.Lib
set_option linter.unusedVariables false
set_option linter.unusedSimpArgs false
abbrev oWd (w:Wd) (L:Option Addr) (ln:Nat) (C:Option Addr) (xl cc:Nat) (N:Option Addr) (yl nc:Nat):Obj:=.cells (wA w L ln C xl cc N yl nc) 62
set_option maxRecDepth 100000 in
set_option maxHeartbeats 8000000 in
theorem letter_s (wd:Wd) (L:Option Addr) (ln:Nat) (C:Option Addr) (cc:Nat) (N:Option Addr) (yl nc:Nat) (xs:List RC) (m:Lt) (A:Option Addr) (an:Nat) (w:World) (hL:Rd w L ln wd.log) (hC:ClsR w C cc xs wd.cls) (hm:Rd w A an m.list)
  (h3:wd.cls.length=3) (hl:wd.log.length≤40) (h0:0≤wd.safe) (h1:wd.safe≤wd.log.length) (hq:∀ c∈wd.cls,0≤c.seen∧c.seen≤wd.log.length∧c.wait.length≤40) (hwh:∀ (j:Nat) (hj:j<wd.cls.length),wd.cls[j].who=(j:Int)+1) (hf:i64 m.frm) (hw:∀ e∈m.list,OpW e.op) (hm2:m.list.length≤3000000) :
  Calls Tryz.prog 57 #[.agg (wA wd L ln C xs.length cc N yl nc),.agg (cL m A an)] w fun x w'=>x=.returned (.bool (letFits wd.log wd.safe wd.cls m))∧Ext w w':=by
 have hml:m.list.length≤maxLen:=Nat.le_trans hm.1 hm.2.1
 unfold maxLen at hml
 have hx:=two_new w (oWd wd L ln C xs.length cc N yl nc) (oL m A an)
 have hE:=ext2 w (oWd wd L ln C xs.length cc N yl nc) (oL m A an)
 have HX1:=Lib.hid hx.1;have HX2:=Lib.hid hx.2;have HE:=Lib.hid hE;have HL:=Lib.hid (hL.ext hE);have HM:=Lib.hid (hm.ext hE);have HC:=Lib.hid (hC.ext hE);have HQ:=Lib.hid hq;have HWH:=Lib.hid hwh;have HOW:=Lib.hid hw
 unfold i64 at hf
 clear hx hE hL hC hm hq hwh hw
 generalize hW:((w.alloc (oWd wd L ln C xs.length cc N yl nc)).alloc (oL m A an))=W at *
 have hs:∀ w':World,Ext W w'→w'.cell? ⟨w.heap.size,0,none⟩=some (.slice L wd.log.length ln)∧w'.cell? ⟨w.heap.size,1,none⟩=some (.int .i64 wd.safe)∧w'.cell? ⟨w.heap.size,2,none⟩=some (.bool wd.up)∧w'.cell? ⟨w.heap.size,3,none⟩=some (.slice C xs.length cc)∧w'.cell? ⟨w.heap.size,4,none⟩=some (.slice N yl nc) ∧
   w'.cell? ⟨w.heap.size+1,0,none⟩=some (.int .i64 m.dst)∧w'.cell? ⟨w.heap.size+1,1,none⟩=some (.int .i64 m.frm)∧w'.cell? ⟨w.heap.size+1,2,none⟩=some (.slice A m.list.length an):=fun w' h=>by
  obtain ⟨b0,b1,b2,b3,b4,-⟩:=five_cells ((h.block _ (blk_lt HX1.out)).trans HX1.out)
  obtain ⟨d0,d1,d2,-⟩:=tri_cells ((h.block _ (blk_lt HX2.out)).trans HX2.out)
  exact ⟨b0,b1,b2,b3,b4,d0,d1,d2⟩
 have HS:=Lib.hid hs
 have hWd:Ext W W.drew:=(Below.refl _ _).drew
 have HWD:=Lib.hid hWd
 clear hs hWd
 by_cases hd:m.dst=0
 ·have q0:(m.dst == 0)=true:=by simp [hd]
  by_cases hn:m.list.length=1
  ·obtain ⟨e,he⟩:=List.length_eq_one_iff.1 hn
   have q1:((m.list.length:Int) == 1)=true:=by simp [hn]
   by_cases hf0:m.frm=0
   ·have q2:(m.frm == 0)=true:=by simp [hf0]
    have HF:Hid (letFits wd.log wd.safe wd.cls m=(entryOk e&&(match wd.cls[(e.who - 1).toNat]? with | some c=>decide (e∈ownOf wd.log c) | none=>false))):=by show _=_;unfold letFits;rw [if_pos hd,he];dsimp only;rw [decide_eq_true hf0,Bool.true_and];rfl
    obtain ⟨lb,lo,rfl,hlb,e0,e1,e2,e3,e4,e5,e6⟩:=ent_at HM.out 0 (by omega)
    have hi0:(0:Int)<m.list.length:=by omega
    have hi0':0<m.list.length:=by omega
    have hg:m.list[0]'(by omega)=e:=by simp [he]
    simp only [Nat.zero_mul,Nat.add_zero,hg] at e0 e1 e2 e3 e4 e5 e6
    have HEO:=Lib.hid (fun W'=>entryOk_s e W' (hg▸HM.out.okAt 0 (by omega)) (HOW.out e (by rw [he];simp)))
    have hs:∀ w':World,Ext W w'→w'.cell? ⟨w.heap.size,0,none⟩=some (.slice L wd.log.length ln)∧w'.cell? ⟨w.heap.size,1,none⟩=some (.int .i64 wd.safe)∧w'.cell? ⟨w.heap.size,2,none⟩=some (.bool wd.up)∧w'.cell? ⟨w.heap.size,3,none⟩=some (.slice C xs.length cc)∧w'.cell? ⟨w.heap.size,4,none⟩=some (.slice N yl nc) ∧
      w'.cell? ⟨w.heap.size+1,0,none⟩=some (.int .i64 m.dst)∧w'.cell? ⟨w.heap.size+1,1,none⟩=some (.int .i64 m.frm)∧w'.cell? ⟨w.heap.size+1,2,none⟩=some (.slice (some ⟨lb,lo,none⟩) m.list.length an) ∧
      w'.cell? ⟨lb,lo,none⟩=some (.int .i64 e.who)∧w'.cell? ⟨lb,lo+1,none⟩=some (.int .i64 e.seq)∧w'.cell? ⟨lb,lo+2,none⟩=some (.int .i64 e.op.kind)∧w'.cell? ⟨lb,lo+3,none⟩=some (.int .i64 e.op.id)∧w'.cell? ⟨lb,lo+4,none⟩=some (.int .i64 e.op.up)∧w'.cell? ⟨lb,lo+5,none⟩=some (.int .i64 e.op.pos)∧w'.cell? ⟨lb,lo+6,none⟩=some (.string e.op.text):=fun w' h=>by
     obtain ⟨b0,b1,b2,b3,b4,d0,d1,d2⟩:=HS.out w' h
     obtain ⟨hc,-⟩:=bcell h
     exact ⟨b0,b1,b2,b3,b4,d0,d1,d2,(hc _ _ hlb).trans e0,(hc _ _ hlb).trans e1,(hc _ _ hlb).trans e2,(hc _ _ hlb).trans e3,(hc _ _ hlb).trans e4,(hc _ _ hlb).trans e5,(hc _ _ hlb).trans e6⟩
    have HSE:=Lib.hid hs
    clear hs e0 e1 e2 e3 e4 e5 e6 he hf0 hn hg
    go_enter Tryz.func57,Tryz.ntmps57
    obtain ⟨b0,b1,b2,b3,b4,d0,d1,d2⟩:=HS.out W (Below.refl _ _)
    subst hW
    go_wp2_with fail
    clear b0 b1 b2 b3 b4 d0 d1 d2
    generalize ((w.alloc (oWd wd L ln C xs.length cc N yl nc)).alloc (oL m (some ⟨lb,lo,none⟩) an))=W at *
    refine wp_region_H (fun w'=>Ext W w') (by kernel_rfl) ?_
    refine WH.ts [(0,9),(1,10),(2,11),(3,12),(4,13),(5,14),(6,15),(7,16),(8,17),(9,18),(10,19),(11,20),(12,21),(13,22)] HWD.out (by kernel_rfl) ?_
    iterate 14 (apply Th.cons rfl rfl;(focus (rintro w s;obtain ⟨b0,b1,b2,b3,b4,d0,d1,d2,e0,e1,e2,e3,e4,e5,e6⟩:=HSE.out _ s;go_simp;try with_reducible rfl));try simp only [Act.put,List.setIfInBounds_toArray,List.set_cons_zero,List.set_cons_succ])
    apply Th.nil
    refine WH.one 14 (by kernel_rfl) rfl (fun K hK=>?_)
    have HKK:=Lib.hid hK;clear hK
    go_simp
    refine (HEO.out _).mono ?_
    rintro x w2 ⟨rfl,hb⟩
    have HB2:=Lib.hid (HWD.out.trans hb)
    refine HKK.out _ _ ⟨HB2.out,?_⟩
    clear HKK K hb HEO
    try simp only [Act.put,List.setIfInBounds_toArray,List.set_cons_zero,List.set_cons_succ]
    cases hok:entryOk e
    ·rw [hok,Bool.false_and] at HF
     clear hok
     refine WH.ts [(15,24),(16,25),(17,26),(18,27),(19,28),(20,29),(21,30),(22,31),(23,32),(24,33),(25,34),(26,35),(27,36),(28,37),(29,38),(30,4)] HB2.out (by kernel_rfl) ?_
     iterate 2 (apply Th.cons rfl rfl;(focus (rintro w s;obtain ⟨b0,b1,b2,b3,b4,d0,d1,d2,e0,e1,e2,e3,e4,e5,e6⟩:=HSE.out _ s;go_simp;try with_reducible rfl));try simp only [Act.put,List.setIfInBounds_toArray,List.set_cons_zero,List.set_cons_succ])
     iterate 12 (apply Th.skip rfl rfl;try simp only [Act.put,List.setIfInBounds_toArray,List.set_cons_zero,List.set_cons_succ])
     iterate 2 (apply Th.cons rfl rfl;(focus (rintro w s;obtain ⟨b0,b1,b2,b3,b4,d0,d1,d2,e0,e1,e2,e3,e4,e5,e6⟩:=HSE.out _ s;go_simp;try with_reducible rfl));try simp only [Act.put,List.setIfInBounds_toArray,List.set_cons_zero,List.set_cons_succ])
     apply Th.nil
     refine WH.done (by kernel_rfl) ?_
     go_wp2_with fail
     go_ret
     exact ⟨by rw [HF.out];rfl,HE.out.trans (HB2.out.mono HE.out.size)⟩
    ·rw [hok,Bool.true_and] at HF
     have hwho:=entryOk_who hok
     obtain ⟨i,hi⟩:∃ i:Nat,(i:Int)=e.who - 1:=⟨(e.who - 1).toNat,by omega⟩
     have hi3:i<wd.cls.length:=by omega
     have hq:=HQ.out _ (List.getElem_mem hi3)
     rw [←hi,Int.toNat_natCast,List.getElem?_eq_getElem hi3] at HF
     dsimp only at HF
     have hos:=own_s wd L ln C cc N yl nc xs i e.who w2 (HL.out.ext HB2.out) (HC.out.ext HB2.out) hi3 (by omega) (by omega) (by omega) hq.1 (by omega)
     rw [show ownS wd.log e.who wd.cls[i]=ownOf wd.log wd.cls[i] by rw [←ownS_eq,HWH.out i hi3,show (i:Int)+1=e.who by omega]] at hos
     have HOS:=Lib.hid hos
     generalize ownOf wd.log wd.cls[i]=own at *
     clear hok hwho hos hi hi3 hq
     refine WH.ts [(15,24),(16,25),(17,26),(18,27),(19,28),(20,29),(21,30),(22,31),(24,33),(25,34),(26,35),(27,36)] HB2.out (by kernel_rfl) ?_
     iterate 12 (apply Th.cons rfl rfl;(focus (rintro w s;obtain ⟨b0,b1,b2,b3,b4,d0,d1,d2,e0,e1,e2,e3,e4,e5,e6⟩:=HSE.out _ s;go_simp;try with_reducible rfl));try simp only [Act.put,List.setIfInBounds_toArray,List.set_cons_zero,List.set_cons_succ])
     apply Th.nil
     refine WH.one 23 (by kernel_rfl) rfl (fun K hK=>?_)
     have HKK:=Lib.hid hK;clear hK
     go_simp
     refine HOS.out.mono ?_
     rintro x w3 ⟨v,rfl,ho,hb⟩
     have HB3:=Lib.hid (HB2.out.trans (hb.mono HB2.out.size))
     obtain ⟨vA,vn,rfl,hv⟩:=ho.rd
     refine HKK.out _ _ ⟨HB3.out,?_⟩
     have HV:=Lib.hid hv
     clear HKK K hb HOS ho hv
     try simp only [Act.put,List.setIfInBounds_toArray,List.set_cons_zero,List.set_cons_succ]
     refine WH.one 28 (by kernel_rfl) rfl (fun K hK=>?_)
     have HKK:=Lib.hid hK;clear hK
     go_simp
     refine (has_s vA vn own e w3 HV.out).mono ?_
     rintro x w4 ⟨rfl,hb⟩
     have HB4:=Lib.hid (HB3.out.trans (hb.mono HB3.out.size))
     refine HKK.out _ _ ⟨HB4.out,?_⟩
     clear HKK K hb
     try simp only [Act.put,List.setIfInBounds_toArray,List.set_cons_zero,List.set_cons_succ]
     refine WH.ts [(29,38),(30,4)] HB4.out (by kernel_rfl) ?_
     iterate 2 (apply Th.cons rfl rfl;(focus (rintro w s;obtain ⟨b0,b1,b2,b3,b4,d0,d1,d2,e0,e1,e2,e3,e4,e5,e6⟩:=HSE.out _ s;go_simp;try with_reducible rfl));try simp only [Act.put,List.setIfInBounds_toArray,List.set_cons_zero,List.set_cons_succ])
     apply Th.nil
     refine WH.done (by kernel_rfl) ?_
     go_wp2_with fail
     go_ret
     exact ⟨by rw [HF.out];rfl,HE.out.trans (HB4.out.mono HE.out.size)⟩
   ·have q2:(m.frm == 0)=false:=by simp [hf0]
    have HF:Hid (letFits wd.log wd.safe wd.cls m=false):=by show _=_;unfold letFits;rw [if_pos hd,he];dsimp only;rw [decide_eq_false hf0];rfl
    clear he hf0 hn
    go_enter Tryz.func57,Tryz.ntmps57
    obtain ⟨b0,b1,b2,b3,b4,d0,d1,d2⟩:=HS.out W (Below.refl _ _)
    subst hW
    go_wp2_with fail
    clear b0 b1 b2 b3 b4 d0 d1 d2
    generalize ((w.alloc (oWd wd L ln C xs.length cc N yl nc)).alloc (oL m A an))=W at *
    refine wp_region_H (fun w'=>Ext W w') (by kernel_rfl) ?_
    refine WH.ts [(0,9),(1,10),(2,11),(3,12),(4,13),(5,14),(6,15),(7,16),(8,17),(9,18),(10,19),(11,20),(12,21),(13,22),(14,23),(15,24),(16,25),(17,26),(18,27),(19,28),(20,29),(21,30),(22,31),(23,32),(24,33),(25,34),(26,35),(27,36),(28,37),(29,38),(30,4)] HWD.out (by kernel_rfl) ?_
    iterate 10 (apply Th.cons rfl rfl;(focus (rintro w s;obtain ⟨b0,b1,b2,b3,b4,d0,d1,d2⟩:=HS.out _ s;go_simp;try with_reducible rfl));try simp only [Act.put,List.setIfInBounds_toArray,List.set_cons_zero,List.set_cons_succ])
    iterate 5 (apply Th.skip rfl rfl;try simp only [Act.put,List.setIfInBounds_toArray,List.set_cons_zero,List.set_cons_succ])
    iterate 2 (apply Th.cons rfl rfl;(focus (rintro w s;obtain ⟨b0,b1,b2,b3,b4,d0,d1,d2⟩:=HS.out _ s;go_simp;try with_reducible rfl));try simp only [Act.put,List.setIfInBounds_toArray,List.set_cons_zero,List.set_cons_succ])
    iterate 12 (apply Th.skip rfl rfl;try simp only [Act.put,List.setIfInBounds_toArray,List.set_cons_zero,List.set_cons_succ])
    iterate 2 (apply Th.cons rfl rfl;(focus (rintro w s;obtain ⟨b0,b1,b2,b3,b4,d0,d1,d2⟩:=HS.out _ s;go_simp;try with_reducible rfl));try simp only [Act.put,List.setIfInBounds_toArray,List.set_cons_zero,List.set_cons_succ])
    apply Th.nil
    refine WH.done (by kernel_rfl) ?_
    go_wp2_with fail
    go_ret
    exact ⟨by rw [HF.out];rfl,HE.out.trans (HWD.out.mono HE.out.size)⟩
  ·have q1:((m.list.length:Int) == 1)=false:=by simp;omega
   have HF:Hid (letFits wd.log wd.safe wd.cls m=false):=by
    show _=_
    unfold letFits
    rw [if_pos hd]
    split
    ·next e he=>rw [he] at hn;simp at hn
    ·rfl
   clear hn
   go_enter Tryz.func57,Tryz.ntmps57
   obtain ⟨b0,b1,b2,b3,b4,d0,d1,d2⟩:=HS.out W (Below.refl _ _)
   subst hW
   go_wp2_with fail
   clear b0 b1 b2 b3 b4 d0 d1 d2
   generalize ((w.alloc (oWd wd L ln C xs.length cc N yl nc)).alloc (oL m A an))=W at *
   refine wp_region_H (fun w'=>Ext W w') (by kernel_rfl) ?_
   refine WH.ts [(0,9),(1,10),(2,11),(3,12),(4,13),(5,14),(6,15),(7,16),(8,17),(9,18),(10,19),(11,20),(12,21),(13,22),(14,23),(15,24),(16,25),(17,26),(18,27),(19,28),(20,29),(21,30),(22,31),(23,32),(24,33),(25,34),(26,35),(27,36),(28,37),(29,38),(30,4)] HWD.out (by kernel_rfl) ?_
   iterate 5 (apply Th.cons rfl rfl;(focus (rintro w s;obtain ⟨b0,b1,b2,b3,b4,d0,d1,d2⟩:=HS.out _ s;go_simp;try with_reducible rfl));try simp only [Act.put,List.setIfInBounds_toArray,List.set_cons_zero,List.set_cons_succ])
   iterate 3 (apply Th.skip rfl rfl;try simp only [Act.put,List.setIfInBounds_toArray,List.set_cons_zero,List.set_cons_succ])
   iterate 2 (apply Th.cons rfl rfl;(focus (rintro w s;obtain ⟨b0,b1,b2,b3,b4,d0,d1,d2⟩:=HS.out _ s;go_simp;try with_reducible rfl));try simp only [Act.put,List.setIfInBounds_toArray,List.set_cons_zero,List.set_cons_succ])
   iterate 5 (apply Th.skip rfl rfl;try simp only [Act.put,List.setIfInBounds_toArray,List.set_cons_zero,List.set_cons_succ])
   iterate 2 (apply Th.cons rfl rfl;(focus (rintro w s;obtain ⟨b0,b1,b2,b3,b4,d0,d1,d2⟩:=HS.out _ s;go_simp;try with_reducible rfl));try simp only [Act.put,List.setIfInBounds_toArray,List.set_cons_zero,List.set_cons_succ])
   iterate 12 (apply Th.skip rfl rfl;try simp only [Act.put,List.setIfInBounds_toArray,List.set_cons_zero,List.set_cons_succ])
   iterate 2 (apply Th.cons rfl rfl;(focus (rintro w s;obtain ⟨b0,b1,b2,b3,b4,d0,d1,d2⟩:=HS.out _ s;go_simp;try with_reducible rfl));try simp only [Act.put,List.setIfInBounds_toArray,List.set_cons_zero,List.set_cons_succ])
   apply Th.nil
   refine WH.done (by kernel_rfl) ?_
   go_wp2_with fail
   go_ret
   exact ⟨by rw [HF.out];rfl,HE.out.trans (HWD.out.mono HE.out.size)⟩
 ·have q0:(m.dst == 0)=false:=by simp [hd]
  by_cases hn:isWho m.dst=true∧inR m.frm 0 wd.safe=true∧m.frm+(m.list.length:Int)≤wd.safe
  ·obtain ⟨n1,n2,n3⟩:=hn
   have HI1:=Lib.hid (in_c m.dst 1 3);have HI2:=Lib.hid (in_c m.frm 0 wd.safe)
   have e1:inR m.dst 1 3=true:=n1
   unfold inR at n2
   rw [decide_eq_true_eq] at n2
   have e2:inR m.frm 0 wd.safe=true:=decide_eq_true n2
   obtain ⟨i,hi⟩:∃ i:Nat,(i:Int)=m.frm:=⟨m.frm.toNat,by omega⟩
   have w1:IntKind.i64.wrap (m.frm+(m.list.length:Int))=m.frm+(m.list.length:Int):=by rw [IntKind.wrap_i64];omega
   have q3:¬wd.safe<m.frm+(m.list.length:Int):=by omega
   have HF:Hid (letFits wd.log wd.safe wd.cls m=decide (m.list=(wd.log.drop i).take m.list.length)):=by
    show _=_
    unfold letFits
    rw [if_neg hd,n1,decide_eq_true (⟨n2.1,n2.2⟩:_∧_),decide_eq_true (by omega:(m.list.length:Int)≤wd.safe - m.frm),←hi];rfl
   have HI:=Lib.hid hi
   have hil:i+m.list.length≤wd.log.length:=by omega
   clear hi n1 hd
   go_enter Tryz.func57,Tryz.ntmps57
   obtain ⟨b0,b1,b2,b3,b4,d0,d1,d2⟩:=HS.out W (Below.refl _ _)
   subst hW
   go_wp2_with fail
   refine (HI1.out _).mono ?_;rintro x w2 ⟨rfl,rfl⟩
   rw [e1]
   go_wp2_with fail
   refine (HI2.out _).mono ?_;rintro x w2 ⟨rfl,rfl⟩
   rw [e2]
   go_wp2_with fail
   clear b0 b1 b2 b3 b4 d0 d1 d2 w1 q3 n2 e1 e2
   generalize ((w.alloc (oWd wd L ln C xs.length cc N yl nc)).alloc (oL m A an))=W at *
   go_loopg [5] m.list.length (fun gk i' wr=>∃ k:Nat,k≤m.list.length∧Hid (gk=m.list.length - k)∧i'=.int .i64 k∧Hid (∀ j (hj:j<m.list.length),j<k→m.list[j]=wd.log[i+j]'(by omega))∧Hid (Ext W wr))
   case atStart=>exact ⟨0,Nat.zero_le _,rfl,rfl,fun j _ h=>by omega,Below.refl _ _⟩
   case round=>
    obtain ⟨k,hk,HK,rfl,HG,HB⟩:=hrel
    obtain ⟨b0,b1,b2,b3,b4,d0,d1,d2⟩:=HS.out wr HB.out
    by_cases hlt:k<m.list.length
    ·have hik:i+k<wd.log.length:=by omega
     obtain ⟨lb,lo,rfl,hlb,e0,e1,e2,e3,e4,e5,e6⟩:=ent_at (HM.out.ext HB.out) k hlt
     obtain ⟨gb,go,rfl,hgb,g0,g1,g2,g3,g4,g5,g6⟩:=ent_at (HL.out.ext HB.out) (i+k) hik
     have heq:=neq_ent m.list[k] wd.log[i+k]
     have hwk:IntKind.i64.wrap (m.frm+(k:Int))=((i+k:Nat):Int):=by rw [IntKind.wrap_i64];have:=HI.out;omega
     have hli:(k:Int)<m.list.length:=by omega
     have hlg:((i+k:Nat):Int)<wd.log.length:=by omega
     have hcs:∀ w':World,Ext wr w'→w'.cell? ⟨w.heap.size+1,1,none⟩=some (.int .i64 m.frm)∧w'.cell? ⟨w.heap.size+1,2,none⟩=some (.slice (some ⟨lb,lo,none⟩) m.list.length an)∧w'.cell? ⟨w.heap.size,0,none⟩=some (.slice (some ⟨gb,go,none⟩) wd.log.length ln)∧w'.cell? ⟨lb,lo+k*7,none⟩=some (.int .i64 m.list[k].who)∧w'.cell? ⟨lb,lo+k*7+1,none⟩=some (.int .i64 m.list[k].seq)∧w'.cell? ⟨lb,lo+k*7+2,none⟩=some (.int .i64 m.list[k].op.kind)∧w'.cell? ⟨lb,lo+k*7+3,none⟩=some (.int .i64 m.list[k].op.id)∧w'.cell? ⟨lb,lo+k*7+4,none⟩=some (.int .i64 m.list[k].op.up)∧w'.cell? ⟨lb,lo+k*7+5,none⟩=some (.int .i64 m.list[k].op.pos)∧w'.cell? ⟨lb,lo+k*7+6,none⟩=some (.string m.list[k].op.text)∧w'.cell? ⟨gb,go+(i+k)*7,none⟩=some (.int .i64 wd.log[i+k].who)∧w'.cell? ⟨gb,go+(i+k)*7+1,none⟩=some (.int .i64 wd.log[i+k].seq)∧w'.cell? ⟨gb,go+(i+k)*7+2,none⟩=some (.int .i64 wd.log[i+k].op.kind)∧w'.cell? ⟨gb,go+(i+k)*7+3,none⟩=some (.int .i64 wd.log[i+k].op.id)∧w'.cell? ⟨gb,go+(i+k)*7+4,none⟩=some (.int .i64 wd.log[i+k].op.up)∧w'.cell? ⟨gb,go+(i+k)*7+5,none⟩=some (.int .i64 wd.log[i+k].op.pos)∧w'.cell? ⟨gb,go+(i+k)*7+6,none⟩=some (.string wd.log[i+k].op.text):=fun w' h=>by
      obtain ⟨b0,b1,b2,b3,b4,d0,d1,d2⟩:=HS.out w' (HB.out.trans (h.mono HB.out.size))
      obtain ⟨hc,-⟩:=bcell h
      exact ⟨d1,d2,b0,(hc _ _ hlb).trans e0,(hc _ _ hlb).trans e1,(hc _ _ hlb).trans e2,(hc _ _ hlb).trans e3,(hc _ _ hlb).trans e4,(hc _ _ hlb).trans e5,(hc _ _ hlb).trans e6,(hc _ _ hgb).trans g0,(hc _ _ hgb).trans g1,(hc _ _ hgb).trans g2,(hc _ _ hgb).trans g3,(hc _ _ hgb).trans g4,(hc _ _ hgb).trans g5,(hc _ _ hgb).trans g6⟩
     have HCS:=Lib.hid hcs
     have HBD:Hid (Ext W wr.drew):=Below.drew HB.out
     clear hcs e0 g0 e1 g1 e2 g2 e3 g3 e4 g4 e5 g5 e6 g6
     generalize hik9:(i+k:Nat)=ik at *
     have HIK:=Lib.hid hik9
     clear hik9
     clear b0 b1 b2 b3 b4 d0 d1 d2
     obtain ⟨b0,b1,b2,b3,b4,d0,d1,d2⟩:=HS.out wr HB.out
     by_cases he:m.list[k]=wd.log[ik]
     ·rw [decide_eq_true he,Bool.not_true] at heq
      have HEQ:=Lib.hid he
      clear he
      go_wp2_with fail
      refine wp_region_H (fun w'=>Ext wr w') (by kernel_rfl) ?_
      refine WH.ts [(0,71),(1,72),(2,73),(3,74),(4,75),(5,76),(6,77),(7,78),(8,79),(9,80),(10,81),(11,82),(12,83),(13,84),(14,85)] (Below.refl _ _).drew (by kernel_rfl) ?_
      iterate 15 (apply Th.cons rfl rfl;(focus (rintro w s;obtain ⟨d1,d2,b0,e0,e1,e2,e3,e4,e5,e6,g0,g1,g2,g3,g4,g5,g6⟩:=HCS.out _ s;go_simp;try with_reducible rfl));try simp only [Act.put,List.setIfInBounds_toArray,List.set_cons_zero,List.set_cons_succ])
      apply Th.nil
      refine WH.done (by kernel_rfl) ?_
      go_wp2_with fail
      go_roundg (m.list.length - (k+1))
      case measure=>have:=HK.out;omega
      case rel=>
       refine ⟨k+1,by omega,rfl,by go_num,Lib.hid (fun j hj hjk=>?_),HBD.out⟩
       rcases Nat.lt_or_eq_of_le (Nat.le_of_lt_succ hjk) with h | h
       ·exact HG.out j hj h
       ·subst h;have h1:=HEQ.out;have h2:=HIK.out;subst h2;exact h1
     ·rw [decide_eq_false he,Bool.not_false] at heq
      have HF2:Hid (letFits wd.log wd.safe wd.cls m=false):=by
       show _=_
       rw [HF.out,decide_eq_false_iff_not]
       intro h
       apply he
       have h2:=HIK.out
       subst h2
       have h3:((wd.log.drop i).take m.list.length)[k]'(by rw [List.length_take,List.length_drop];omega)=wd.log[i+k]:=by simp
       rw [←h3]
       congr 1
      clear he
      go_wp2_with fail
      refine wp_region_H (fun w'=>Ext wr w') (by kernel_rfl) ?_
      refine WH.ts [(0,71),(1,72),(2,73),(3,74),(4,75),(5,76),(6,77),(7,78),(8,79),(9,80),(10,81),(11,82),(12,83),(13,84),(14,85)] (Below.refl _ _).drew (by kernel_rfl) ?_
      iterate 15 (apply Th.cons rfl rfl;(focus (rintro w s;obtain ⟨d1,d2,b0,e0,e1,e2,e3,e4,e5,e6,g0,g1,g2,g3,g4,g5,g6⟩:=HCS.out _ s;go_simp;try with_reducible rfl));try simp only [Act.put,List.setIfInBounds_toArray,List.set_cons_zero,List.set_cons_succ])
      apply Th.nil
      refine WH.done (by kernel_rfl) ?_
      go_wp2_with fail
      go_ret
      exact ⟨by rw [HF2.out];rfl,HE.out.trans (HBD.out.mono HE.out.size)⟩
    ·have HF2:Hid (letFits wd.log wd.safe wd.cls m=true):=by
      show _=_
      rw [HF.out,decide_eq_true_eq]
      refine List.ext_getElem (by rw [List.length_take,List.length_drop];omega) fun j h1 h2=>?_
      rw [HG.out j h1 (by omega)]
      simp
     have hli:¬((k:Int)<m.list.length):=by omega
     go_wp2_with fail
     go_ret
     exact ⟨by rw [HF2.out];rfl,HE.out.trans (HB.out.mono HE.out.size)⟩
  ·have HF:Hid (letFits wd.log wd.safe wd.cls m=false):=by
    show _=_
    unfold letFits
    rw [if_neg hd,Bool.eq_false_iff]
    intro h
    simp only [Bool.and_eq_true,decide_eq_true_eq] at h
    exact hn ⟨h.1.1.1,decide_eq_true h.1.1.2,by omega⟩
   have HI1:=Lib.hid (in_c m.dst 1 3);have HI2:=Lib.hid (in_c m.frm 0 wd.safe)
   have q1:inR m.dst 1 3=false∨inR m.dst 1 3=true∧(inR m.frm 0 wd.safe=false∨inR m.frm 0 wd.safe=true∧IntKind.i64.wrap (m.frm+(m.list.length:Int))=m.frm+(m.list.length:Int)∧wd.safe<m.frm+(m.list.length:Int)):=by
    cases a:inR m.dst 1 3
    ·exact .inl rfl
    ·refine .inr ⟨rfl,?_⟩
     cases b:inR m.frm 0 wd.safe
     ·exact .inl rfl
     ·have b2:=b
      unfold inR at b2
      rw [decide_eq_true_eq] at b2
      have c:¬(m.frm+(m.list.length:Int)≤wd.safe):=fun c=>hn ⟨a,b,c⟩
      exact .inr ⟨rfl,by rw [IntKind.wrap_i64];omega,by omega⟩
   clear hn hd
   rcases q1 with q1 | ⟨q1,q2 | ⟨q2,q3,q4⟩⟩
   all_goals
    go_enter Tryz.func57,Tryz.ntmps57
    obtain ⟨b0,b1,b2,b3,b4,d0,d1,d2⟩:=HS.out W (Below.refl _ _)
    subst hW
    go_wp2_with fail
    refine (HI1.out _).mono ?_;rintro x w2 ⟨rfl,rfl⟩
    rw [q1]
    go_wp2_with fail
    first
     |(refine (HI2.out _).mono ?_
       rintro x w2 ⟨rfl,rfl⟩
       rw [q2]
       go_wp2_with fail
       go_ret
       exact ⟨by rw [HF.out];rfl,HE.out⟩)
     |(go_ret
       exact ⟨by rw [HF.out];rfl,HE.out⟩)
open Go.RowKit Go.Lib
theorem own_ok {log:List Entry} {c:Client} (hl:logOk log=true) (hc:clientOk c=true):∀ e∈ownOf log c,entryOk e=true:=fun e he=>by
 unfold ownOf mine at he
 rcases List.mem_append.1 he with h | h
 ·exact logOk_ent hl e (List.mem_of_mem_take (List.mem_filter.1 h).1)
 ·obtain ⟨k,hk,rfl⟩:=List.getElem_of_mem h
  have h9:=waitOk_at (clientOk_parts hc).2.2.2.2.2.2.2.2.2 k hk
  simp only [waitAt,Bool.and_eq_true] at h9
  exact h9.1.1.1
theorem id_not7 {e:Entry} (h:entryOk e=true) {who:Int} (h1:1≤who) (h3:who≤3):e.op.id≠10*who+7∧e.op.id≠0:=by
 have h9:=opOk_made (entryOk_parts h).2.2.2
 rw [isMade_iff] at h9
 omega
theorem made_eq {e:Entry} (h:entryOk e=true) {who m:Int} (h1:1≤who) (h3:who≤3) (hm0:0≤m) (hm:m≤6):e.op.id=rowMade who (m+1)↔e.op.id=10*who+(m+1):=by
 have h9:=id_not7 h h1 h3
 unfold rowMade
 split
 ·exact Iff.rfl
 ·constructor
  ·intro h;exact absurd h h9.2
  ·intro h;exfalso;omega
set_option maxRecDepth 100000 in
set_option maxHeartbeats 8000000 in
theorem client_s (wd:Wd) (L:Option Addr) (ln:Nat) (C:Option Addr) (cc:Nat) (N:Option Addr) (yl nc:Nat) (xs:List RC) (j:Nat) (who:Int) (w:World) (hL:Rd w L ln wd.log) (hC:ClsR w C cc xs wd.cls) (hj:j<wd.cls.length) (hw:who=(j:Int)+1) (h3:wd.cls.length=3)
  (hlog:logOk wd.log=true) (h0:0≤wd.safe) (h1:wd.safe≤wd.log.length) (hcw:CW wd.cls[j]) :
  Calls Tryz.prog 56 #[.agg (wA wd L ln C xs.length cc N yl nc),.int .i64 who] w fun x w'=>x=.returned (.bool (cliFits wd.log wd.safe who wd.cls[j]))∧Ext w w':=by
 have HXL:=Lib.hid hC.cls.1
 obtain ⟨cb,co,A1,n1,A2,n2,rfl,hcb,hR1,hR2,c0,c1,c2,c3,c4,c5⟩:=hC.at_ j hj
 have hjx:(j:Int)<3:=by omega
 have hwj:IntKind.i64.wrap (who - 1)=(j:Int):=by rw [IntKind.wrap_i64];omega
 have hll:=((logOk_iff _).1 hlog).1
 have hwho1:1≤who∧who≤3:=by omega
 have hx:=two_new w (oWd wd L ln (some ⟨cb,co,none⟩) xs.length cc N yl nc) (oC wd.cls[j] A1 n1 A2 n2)
 have hE:=ext2 w (oWd wd L ln (some ⟨cb,co,none⟩) xs.length cc N yl nc) (oC wd.cls[j] A1 n1 A2 n2)
 have HX1:=Lib.hid hx.1;have HX2:=Lib.hid hx.2;have HE:=Lib.hid hE;have HL:=Lib.hid (hL.ext hE);have HC:=Lib.hid (hC.ext hE);have HR1:=Lib.hid (hR1.1.ext hE);have HR2:=Lib.hid (hR2.1.ext hE);have HLO:=Lib.hid hlog;have HCW:=Lib.hid hcw;have HJ:=Lib.hid hj;have HW1:=Lib.hid hw
 have hxl3:(xs.length:Int)=3:=by have:=HXL.out;omega
 have hos:=fun (W':World) (h:Ext ((w.alloc (oWd wd L ln (some ⟨cb,co,none⟩) xs.length cc N yl nc)).alloc (oC wd.cls[j] A1 n1 A2 n2)) W') (a:0≤wd.cls[j].seen) (b:wd.cls[j].wait.length≤1000)=>own_s wd L ln (some ⟨cb,co,none⟩) cc N yl nc xs j who W' (HL.out.ext h) (HC.out.ext h) hj hw (by omega) (by omega) a b
 have HOS:=Lib.hid hos
 clear hos hx hE hL hC hR1 hR2 hlog hcw hw HC
 generalize wd.cls[j]=c at *
 generalize hW:((w.alloc (oWd wd L ln (some ⟨cb,co,none⟩) xs.length cc N yl nc)).alloc (oC c A1 n1 A2 n2))=W at *
 have hs:∀ w':World,Ext W w'→w'.cell? ⟨w.heap.size,0,none⟩=some (.slice L wd.log.length ln)∧w'.cell? ⟨w.heap.size,1,none⟩=some (.int .i64 wd.safe)∧w'.cell? ⟨w.heap.size,2,none⟩=some (.bool wd.up)∧w'.cell? ⟨w.heap.size,3,none⟩=some (.slice (some ⟨cb,co,none⟩) xs.length cc)∧w'.cell? ⟨w.heap.size,4,none⟩=some (.slice N yl nc) ∧
   w'.cell? ⟨w.heap.size+1,0,none⟩=some (.int .i64 c.who)∧w'.cell? ⟨w.heap.size+1,1,none⟩=some (.int .i64 c.seen)∧w'.cell? ⟨w.heap.size+1,2,none⟩=some (.slice A1 c.base.length n1)∧w'.cell? ⟨w.heap.size+1,3,none⟩=some (.slice A2 c.wait.length n2)∧w'.cell? ⟨w.heap.size+1,4,none⟩=some (.int .i64 c.done)∧w'.cell? ⟨w.heap.size+1,5,none⟩=some (.int .i64 c.made):=fun w' h=>by
  obtain ⟨b0,b1,b2,b3,b4,-⟩:=five_cells ((h.block _ (blk_lt HX1.out)).trans HX1.out)
  obtain ⟨c0,c1,c2,c3,c4,c5,-⟩:=six_cells ((h.block _ (blk_lt HX2.out)).trans HX2.out)
  exact ⟨b0,b1,b2,b3,b4,c0,c1,c2,c3,c4,c5⟩
 have HS:=Lib.hid hs
 have HBW:=Lib.hid (Below.drew (Below.refl W.heap.size W))
 have HCO:=Lib.hid (fun (W':World) (h:Ext W W')=>clientOk_s c (.agg (cC c A1 n1 A2 n2)) W' ⟨A1,n1,A2,n2,rfl,HR1.out.ext h,HR2.out.ext h⟩ HCW.out)
 clear hs HX1 HX2 hj HXL
 have hwn:(who:Int)=(j:Int)+1:=HW1.out
 clear hwn
 go_enter Tryz.func56,Tryz.ntmps56
 subst hW
 go_wp2_with fail
 clear c0 c1 c2 c3 c4 c5
 generalize ((w.alloc (oWd wd L ln (some ⟨cb,co,none⟩) xs.length cc N yl nc)).alloc (oC c A1 n1 A2 n2))=W at *
 refine wp_region_H (fun w'=>Ext W w') (by kernel_rfl) ?_
 refine WH.ts [(0,16)] HBW.out (by kernel_rfl) ?_
 iterate 1 (apply Th.cons rfl rfl;(focus (rintro w s;obtain ⟨b0,b1,b2,b3,b4,c0,c1,c2,c3,c4,c5⟩:=HS.out _ s;go_simp;try with_reducible rfl));try simp only [Act.put,List.setIfInBounds_toArray,List.set_cons_zero,List.set_cons_succ])
 apply Th.nil
 refine WH.one 1 (by kernel_rfl) rfl (fun K hK=>?_)
 have HKK:=Lib.hid hK;clear hK
 go_simp
 refine (HCO.out _ HBW.out).mono ?_
 rintro x w1 ⟨rfl,hb⟩
 have HBw1:=Lib.hid (HBW.out.trans hb)
 refine HKK.out _ _ ⟨HBw1.out,?_⟩
 clear HKK K hb HCO
 try simp only [Act.put,List.setIfInBounds_toArray,List.set_cons_zero,List.set_cons_succ]
 cases hok:clientOk c
 ·have HF:Hid (cliFits wd.log wd.safe who c=false):=by show _=_;unfold cliFits;rw [hok];rfl
  clear hok
  refine WH.ts [(2,18),(3,19)] HBw1.out (by kernel_rfl) ?_
  iterate 2 (apply Th.cons rfl rfl;(focus (rintro w s;obtain ⟨b0,b1,b2,b3,b4,c0,c1,c2,c3,c4,c5⟩:=HS.out _ s;go_simp;try with_reducible rfl));try simp only [Act.put,List.setIfInBounds_toArray,List.set_cons_zero,List.set_cons_succ])
  apply Th.nil
  refine WH.ts [(4,20),(5,21),(6,22),(7,23),(8,24),(9,25),(10,26),(11,27),(12,28),(13,29),(14,30),(15,31),(16,32),(17,33),(18,34),(19,35),(20,36),(21,37),(22,38),(23,39),(24,40),(25,41),(26,42),(27,43),(28,44),(29,45),(30,46),(31,47),(32,48),(33,49),(34,50),(35,51),(36,52),(37,53),(38,54),(39,55),(40,56),(41,57),(42,58),(43,59),(44,60),(45,61),(46,62),(47,63),(48,64),(49,65)] HBw1.out (by kernel_rfl) ?_
  iterate 4 (apply Th.skip rfl rfl;try simp only [Act.put,List.setIfInBounds_toArray,List.set_cons_zero,List.set_cons_succ])
  iterate 2 (apply Th.cons rfl rfl;(focus (rintro w s;obtain ⟨b0,b1,b2,b3,b4,c0,c1,c2,c3,c4,c5⟩:=HS.out _ s;go_simp;try with_reducible rfl));try simp only [Act.put,List.setIfInBounds_toArray,List.set_cons_zero,List.set_cons_succ])
  iterate 6 (apply Th.skip rfl rfl;try simp only [Act.put,List.setIfInBounds_toArray,List.set_cons_zero,List.set_cons_succ])
  iterate 2 (apply Th.cons rfl rfl;(focus (rintro w s;obtain ⟨b0,b1,b2,b3,b4,c0,c1,c2,c3,c4,c5⟩:=HS.out _ s;go_simp;try with_reducible rfl));try simp only [Act.put,List.setIfInBounds_toArray,List.set_cons_zero,List.set_cons_succ])
  iterate 16 (apply Th.skip rfl rfl;try simp only [Act.put,List.setIfInBounds_toArray,List.set_cons_zero,List.set_cons_succ])
  iterate 2 (apply Th.cons rfl rfl;(focus (rintro w s;obtain ⟨b0,b1,b2,b3,b4,c0,c1,c2,c3,c4,c5⟩:=HS.out _ s;go_simp;try with_reducible rfl));try simp only [Act.put,List.setIfInBounds_toArray,List.set_cons_zero,List.set_cons_succ])
  iterate 13 (apply Th.skip rfl rfl;try simp only [Act.put,List.setIfInBounds_toArray,List.set_cons_zero,List.set_cons_succ])
  iterate 1 (apply Th.cons rfl rfl;(focus (rintro w s;obtain ⟨b0,b1,b2,b3,b4,c0,c1,c2,c3,c4,c5⟩:=HS.out _ s;go_simp;try with_reducible rfl));try simp only [Act.put,List.setIfInBounds_toArray,List.set_cons_zero,List.set_cons_succ])
  apply Th.nil
  refine WH.done (by kernel_rfl) ?_
  go_wp2_with fail
  go_ret
  exact ⟨by rw [HF.out];rfl,HE.out.trans (HBw1.out.mono HE.out.size)⟩
 obtain ⟨-,hs0,hs40,htr,hd0,hd1,hwl,hm0,hm6,-⟩:=clientOk_parts hok
 have HOK:=Lib.hid hok;have HTR:=Lib.hid htr
 clear hok htr
 refine WH.ts [(2,18),(3,19)] HBw1.out (by kernel_rfl) ?_
 iterate 2 (apply Th.cons rfl rfl;(focus (rintro w s;obtain ⟨b0,b1,b2,b3,b4,c0,c1,c2,c3,c4,c5⟩:=HS.out _ s;go_simp;try with_reducible rfl));try simp only [Act.put,List.setIfInBounds_toArray,List.set_cons_zero,List.set_cons_succ])
 apply Th.nil
 by_cases hq1:c.who=who
 rotate_left
 ·have HF:Hid (cliFits wd.log wd.safe who c=false):=by show _=_;unfold cliFits;rw [decide_eq_false hq1];simp
  have p1:(c.who != who)=true:=by simp [hq1]
  clear hq1
  refine WH.ts [(4,20),(5,21),(6,22),(7,23),(8,24),(9,25)] HBw1.out (by kernel_rfl) ?_
  iterate 6 (apply Th.cons rfl rfl;(focus (rintro w s;obtain ⟨b0,b1,b2,b3,b4,c0,c1,c2,c3,c4,c5⟩:=HS.out _ s;go_simp;try with_reducible rfl));try simp only [Act.put,List.setIfInBounds_toArray,List.set_cons_zero,List.set_cons_succ])
  apply Th.nil
  refine WH.ts [(10,26),(11,27),(12,28),(13,29),(14,30),(15,31),(16,32),(17,33),(18,34),(19,35),(20,36),(21,37),(22,38),(23,39),(24,40),(25,41),(26,42),(27,43),(28,44),(29,45),(30,46),(31,47),(32,48),(33,49),(34,50),(35,51),(36,52),(37,53),(38,54),(39,55),(40,56),(41,57),(42,58),(43,59),(44,60),(45,61),(46,62),(47,63),(48,64),(49,65)] HBw1.out (by kernel_rfl) ?_
  iterate 6 (apply Th.skip rfl rfl;try simp only [Act.put,List.setIfInBounds_toArray,List.set_cons_zero,List.set_cons_succ])
  iterate 2 (apply Th.cons rfl rfl;(focus (rintro w s;obtain ⟨b0,b1,b2,b3,b4,c0,c1,c2,c3,c4,c5⟩:=HS.out _ s;go_simp;try with_reducible rfl));try simp only [Act.put,List.setIfInBounds_toArray,List.set_cons_zero,List.set_cons_succ])
  iterate 16 (apply Th.skip rfl rfl;try simp only [Act.put,List.setIfInBounds_toArray,List.set_cons_zero,List.set_cons_succ])
  iterate 2 (apply Th.cons rfl rfl;(focus (rintro w s;obtain ⟨b0,b1,b2,b3,b4,c0,c1,c2,c3,c4,c5⟩:=HS.out _ s;go_simp;try with_reducible rfl));try simp only [Act.put,List.setIfInBounds_toArray,List.set_cons_zero,List.set_cons_succ])
  iterate 13 (apply Th.skip rfl rfl;try simp only [Act.put,List.setIfInBounds_toArray,List.set_cons_zero,List.set_cons_succ])
  iterate 1 (apply Th.cons rfl rfl;(focus (rintro w s;obtain ⟨b0,b1,b2,b3,b4,c0,c1,c2,c3,c4,c5⟩:=HS.out _ s;go_simp;try with_reducible rfl));try simp only [Act.put,List.setIfInBounds_toArray,List.set_cons_zero,List.set_cons_succ])
  apply Th.nil
  refine WH.done (by kernel_rfl) ?_
  go_wp2_with fail
  go_ret
  exact ⟨by rw [HF.out];rfl,HE.out.trans (HBw1.out.mono HE.out.size)⟩
 have p1:(c.who != who)=false:=by simp [hq1]
 have HQ1:=Lib.hid hq1
 clear hq1
 refine WH.ts [(4,20),(5,21),(6,22),(7,23),(8,24),(9,25)] HBw1.out (by kernel_rfl) ?_
 iterate 6 (apply Th.cons rfl rfl;(focus (rintro w s;obtain ⟨b0,b1,b2,b3,b4,c0,c1,c2,c3,c4,c5⟩:=HS.out _ s;go_simp;try with_reducible rfl));try simp only [Act.put,List.setIfInBounds_toArray,List.set_cons_zero,List.set_cons_succ])
 apply Th.nil
 by_cases hq2:c.seen≤wd.safe
 rotate_left
 ·have HF:Hid (cliFits wd.log wd.safe who c=false):=by show _=_;unfold cliFits;rw [decide_eq_false hq2];simp
  have p2:wd.safe<c.seen:=by omega
  clear hq2
  refine WH.ts [(10,26),(11,27),(12,28),(13,29),(14,30),(15,31),(16,32),(17,33)] HBw1.out (by kernel_rfl) ?_
  iterate 8 (apply Th.cons rfl rfl;(focus (rintro w s;obtain ⟨b0,b1,b2,b3,b4,c0,c1,c2,c3,c4,c5⟩:=HS.out _ s;go_simp;try with_reducible rfl));try simp only [Act.put,List.setIfInBounds_toArray,List.set_cons_zero,List.set_cons_succ])
  apply Th.nil
  refine WH.ts [(18,34),(19,35),(20,36),(21,37),(22,38),(23,39),(24,40),(25,41),(26,42),(27,43),(28,44),(29,45),(30,46),(31,47),(32,48),(33,49),(34,50),(35,51),(36,52),(37,53),(38,54),(39,55),(40,56),(41,57),(42,58),(43,59),(44,60),(45,61),(46,62),(47,63),(48,64),(49,65)] HBw1.out (by kernel_rfl) ?_
  iterate 16 (apply Th.skip rfl rfl;try simp only [Act.put,List.setIfInBounds_toArray,List.set_cons_zero,List.set_cons_succ])
  iterate 2 (apply Th.cons rfl rfl;(focus (rintro w s;obtain ⟨b0,b1,b2,b3,b4,c0,c1,c2,c3,c4,c5⟩:=HS.out _ s;go_simp;try with_reducible rfl));try simp only [Act.put,List.setIfInBounds_toArray,List.set_cons_zero,List.set_cons_succ])
  iterate 13 (apply Th.skip rfl rfl;try simp only [Act.put,List.setIfInBounds_toArray,List.set_cons_zero,List.set_cons_succ])
  iterate 1 (apply Th.cons rfl rfl;(focus (rintro w s;obtain ⟨b0,b1,b2,b3,b4,c0,c1,c2,c3,c4,c5⟩:=HS.out _ s;go_simp;try with_reducible rfl));try simp only [Act.put,List.setIfInBounds_toArray,List.set_cons_zero,List.set_cons_succ])
  apply Th.nil
  refine WH.done (by kernel_rfl) ?_
  go_wp2_with fail
  go_ret
  exact ⟨by rw [HF.out];rfl,HE.out.trans (HBw1.out.mono HE.out.size)⟩
 have p2:¬wd.safe<c.seen:=by omega
 have p2':c.seen≤(wd.log.length:Int):=by omega
 have hmn:min c.seen (wd.log.length:Int)=c.seen:=Int.min_eq_left p2'
 obtain ⟨i,hi⟩:∃ i:Nat,(i:Int)=c.seen:=⟨c.seen.toNat,by omega⟩
 have hcap:=HL.out.1
 have hsl:∀ W:World,(Instr.slice 24 (.slice L wd.log.length ln) none (some (.int .i64 c.seen)) none).run Tryz.prog W=.ok (.slice (fromA L ln 0 7) i ln) W:=by rw [←hi];exact fun W=>run_head el_ent L wd.log.length ln i (by omega) W
 have hli:(wd.log.take i).length=i:=by rw [List.length_take];omega
 have HF0:Hid (cliFits wd.log wd.safe who c=(decide (c.base=treeOf (wd.log.take i))&&decide (c.done=cntW (wd.log.take i) who)&&decide (madesOk who 0 (ownOf wd.log c)=some c.made)&&(mine wd.log who).all fun e=>decide (e∈ownOf wd.log c))):=by
  show _=_
  unfold cliFits
  rw [HOK.out,decide_eq_true HQ1.out,decide_eq_true hq2,←hi];rfl
 have HSQ:=Lib.hid (fun (W':World) (h:Ext W W')=>(by have h9:=seq_s (fromA L ln 0 7) ln (wd.log.take i) who W' ((HL.out.ext h).head i);rw [hli] at h9;exact h9:Calls Tryz.prog 97 #[.slice (fromA L ln 0 7) i ln,.int .i64 who] W' fun e w'=>e=.returned (.int .i64 (cntW (wd.log.take i) who))∧w'=W'))
 have HI:=Lib.hid hi;have HLI:=Lib.hid hli
 clear hi hli hcap
 refine WH.ts [(10,26),(11,27),(12,28),(13,29),(14,30),(15,31),(16,32),(17,33)] HBw1.out (by kernel_rfl) ?_
 iterate 8 (apply Th.cons rfl rfl;(focus (rintro w s;obtain ⟨b0,b1,b2,b3,b4,c0,c1,c2,c3,c4,c5⟩:=HS.out _ s;go_simp;try with_reducible rfl));try simp only [Act.put,List.setIfInBounds_toArray,List.set_cons_zero,List.set_cons_succ])
 apply Th.nil
 refine WH.ts [(18,34),(19,35),(20,36),(21,37),(22,38),(23,39),(24,40),(25,41),(26,42),(27,43),(28,44),(29,45),(30,46),(31,47)] HBw1.out (by kernel_rfl) ?_
 iterate 14 (apply Th.cons rfl rfl;(focus (rintro w s;obtain ⟨b0,b1,b2,b3,b4,c0,c1,c2,c3,c4,c5⟩:=HS.out _ s;go_simp;try with_reducible rfl));try simp only [Act.put,List.setIfInBounds_toArray,List.set_cons_zero,List.set_cons_succ])
 apply Th.nil
 refine WH.one 32 (by kernel_rfl) rfl (fun K hK=>?_)
 have HKK:=Lib.hid hK;clear hK
 go_simp
 refine (HSQ.out _ HBw1.out).mono ?_
 rintro x w2 ⟨rfl,rfl⟩
 refine HKK.out _ _ ⟨HBw1.out,?_⟩
 clear HKK K HSQ
 try simp only [Act.put,List.setIfInBounds_toArray,List.set_cons_zero,List.set_cons_succ]
 by_cases hq3:c.done=cntW (wd.log.take i) who
 rotate_left
 ·have HF:Hid (cliFits wd.log wd.safe who c=false):=by show _=_;rw [HF0.out,decide_eq_false hq3];simp
  have p3:(c.done != (cntW (wd.log.take i) who:Int))=true:=by simp [hq3]
  clear hq3
  refine WH.ts [(33,49),(34,50),(35,51)] HBw1.out (by kernel_rfl) ?_
  iterate 3 (apply Th.cons rfl rfl;(focus (rintro w s;obtain ⟨b0,b1,b2,b3,b4,c0,c1,c2,c3,c4,c5⟩:=HS.out _ s;go_simp;try with_reducible rfl));try simp only [Act.put,List.setIfInBounds_toArray,List.set_cons_zero,List.set_cons_succ])
  apply Th.nil
  refine WH.ts [(36,52),(37,53),(38,54),(39,55),(40,56),(41,57),(42,58),(43,59),(44,60),(45,61),(46,62),(47,63),(48,64),(49,65)] HBw1.out (by kernel_rfl) ?_
  iterate 13 (apply Th.skip rfl rfl;try simp only [Act.put,List.setIfInBounds_toArray,List.set_cons_zero,List.set_cons_succ])
  iterate 1 (apply Th.cons rfl rfl;(focus (rintro w s;obtain ⟨b0,b1,b2,b3,b4,c0,c1,c2,c3,c4,c5⟩:=HS.out _ s;go_simp;try with_reducible rfl));try simp only [Act.put,List.setIfInBounds_toArray,List.set_cons_zero,List.set_cons_succ])
  apply Th.nil
  refine WH.done (by kernel_rfl) ?_
  go_wp2_with fail
  go_ret
  exact ⟨by rw [HF.out];rfl,HE.out.trans (HBw1.out.mono HE.out.size)⟩
 have p3:(c.done != (cntW (wd.log.take i) who:Int))=false:=by simp [hq3]
 rw [decide_eq_true hq3,Bool.and_true] at HF0
 clear hq3
 refine WH.ts [(33,49),(34,50),(35,51)] HBw1.out (by kernel_rfl) ?_
 iterate 3 (apply Th.cons rfl rfl;(focus (rintro w s;obtain ⟨b0,b1,b2,b3,b4,c0,c1,c2,c3,c4,c5⟩:=HS.out _ s;go_simp;try with_reducible rfl));try simp only [Act.put,List.setIfInBounds_toArray,List.set_cons_zero,List.set_cons_succ])
 apply Th.nil
 refine WH.ts [(36,52),(37,53),(40,56),(41,57),(42,58),(43,59),(44,60),(45,61)] HBw1.out (by kernel_rfl) ?_
 iterate 8 (apply Th.cons rfl rfl;(focus (rintro w s;obtain ⟨b0,b1,b2,b3,b4,c0,c1,c2,c3,c4,c5⟩:=HS.out _ s;go_simp;try with_reducible rfl));try simp only [Act.put,List.setIfInBounds_toArray,List.set_cons_zero,List.set_cons_succ])
 apply Th.nil
 have HBR:=Lib.hid (treeOk_rows_ok HTR.out)
 have HBL:=Lib.hid (treeOk_len HTR.out)
 refine WH.one 38 (by kernel_rfl) rfl (fun K hK=>?_)
 have HKK:=Lib.hid hK;clear hK
 go_simp
 refine (text2_s A1 n1 c.base w2 (HR1.out.ext HBw1.out) HBL.out HBR.out).mono ?_
 rintro x w3 ⟨rfl,hb⟩
 have HBw3:=Lib.hid (HBw1.out.trans (hb.mono HBw1.out.size))
 refine HKK.out _ _ ⟨HBw3.out,?_⟩
 clear HKK K hb
 try simp only [Act.put,List.setIfInBounds_toArray,List.set_cons_zero,List.set_cons_succ]
 refine WH.one 39 (by kernel_rfl) rfl (fun K hK=>?_)
 have HKK:=Lib.hid hK;clear hK
 go_simp
 refine (new_s w3).mono ?_
 rintro x w4 ⟨v,rfl,ho,hb⟩
 have HBw4:=Lib.hid (HBw3.out.trans (hb.mono HBw3.out.size))
 obtain ⟨tA,tn,rfl,hv⟩:=ho.rd
 have HV:=Lib.hid hv
 refine HKK.out _ _ ⟨HBw4.out,?_⟩
 clear HKK K hb ho hv
 try simp only [Act.put,List.setIfInBounds_toArray,List.set_cons_zero,List.set_cons_succ]
 have htree:∀ (W':World),Ext W W'→∀ tA tn,Rd W' tA tn treeNew→Calls Tryz.prog 31 #[.slice tA treeNew.length tn,.slice (fromA L ln 0 7) i ln] W' fun e w'=>∃ vA vn,e=.returned (.slice vA (treeOf (wd.log.take i)).length vn)∧Rd w' vA vn (treeOf (wd.log.take i))∧Ext W' w':=fun W' h tA tn hv=>by
  have hops:∀ e∈wd.log.take i,opOk e.op=true:=fun e he=>entryOk_op (logOk_ent HLO.out e (List.mem_of_mem_take he))
  have h9:=tree_s tA tn treeNew (fromA L ln 0 7) ln (wd.log.take i) W' hv ((HL.out.ext h).head i) treeOk_new hops
  rw [HLI.out,←treeOf_from hops] at h9
  exact h9.mono fun e w' ⟨v,he,ho,hb⟩=>by
   obtain ⟨vA,vn,rfl,hv⟩:=ho.rd
   exact ⟨vA,vn,he,hv,hb⟩
 refine WH.one 46 (by kernel_rfl) rfl (fun K hK=>?_)
 have HKK:=Lib.hid hK;clear hK
 go_simp
 refine (htree w4 HBw4.out tA tn HV.out).mono ?_
 rintro x w5 ⟨vA,vn,rfl,hv,hb⟩
 have HBw5:=Lib.hid (HBw4.out.trans (hb.mono HBw4.out.size))
 have HV5:=Lib.hid hv
 refine HKK.out _ _ ⟨HBw5.out,?_⟩
 clear HKK K hb hv HV
 try simp only [Act.put,List.setIfInBounds_toArray,List.set_cons_zero,List.set_cons_succ]
 have hTO:treeOk (treeOf (wd.log.take i))=true:=treeOf_ok fun e he=>entryOk_op (logOk_ent HLO.out e (List.mem_of_mem_take he))
 have HTO:=Lib.hid hTO
 clear hTO htree
 refine WH.one 47 (by kernel_rfl) rfl (fun K hK=>?_)
 have HKK:=Lib.hid hK;clear hK
 go_simp
 refine (text2_s vA vn (treeOf (wd.log.take i)) w5 HV5.out (treeOk_len HTO.out) (treeOk_rows_ok HTO.out)).mono ?_
 rintro x w6 ⟨rfl,hb⟩
 have HBw6:=Lib.hid (HBw5.out.trans (hb.mono HBw5.out.size))
 refine HKK.out _ _ ⟨HBw6.out,?_⟩
 clear HKK K hb HV5
 try simp only [Act.put,List.setIfInBounds_toArray,List.set_cons_zero,List.set_cons_succ]
 have htx:((bs (textB c.base)).toList == (bs (textB (treeOf (wd.log.take i)))).toList)=decide (c.base=treeOf (wd.log.take i)):=by
  rw [Bool.eq_iff_iff,beq_iff_eq,decide_eq_true_eq]
  constructor
  ·intro h
   exact text_inj HBR.out (treeOk_rows_ok HTO.out) (by have:=toList_inj h;simpa [bs] using this)
  ·intro h;rw [h]
 cases hbs:decide (c.base=treeOf (wd.log.take i))
 ·rw [hbs] at htx
  have HF:Hid (cliFits wd.log wd.safe who c=false):=by show _=_;rw [HF0.out,hbs];rfl
  clear hbs
  refine WH.ts [(48,64),(49,65)] HBw6.out (by kernel_rfl) ?_
  iterate 2 (apply Th.cons rfl rfl;(focus (rintro w s;obtain ⟨b0,b1,b2,b3,b4,c0,c1,c2,c3,c4,c5⟩:=HS.out _ s;go_simp;try with_reducible rfl));try simp only [Act.put,List.setIfInBounds_toArray,List.set_cons_zero,List.set_cons_succ])
  apply Th.nil
  refine WH.done (by kernel_rfl) ?_
  go_wp2_with fail
  go_ret
  exact ⟨by rw [HF.out];rfl,HE.out.trans (HBw6.out.mono HE.out.size)⟩
 rw [hbs] at htx
 rw [hbs,Bool.true_and] at HF0
 clear hbs
 refine WH.ts [(48,64),(49,65)] HBw6.out (by kernel_rfl) ?_
 iterate 2 (apply Th.cons rfl rfl;(focus (rintro w s;obtain ⟨b0,b1,b2,b3,b4,c0,c1,c2,c3,c4,c5⟩:=HS.out _ s;go_simp;try with_reducible rfl));try simp only [Act.put,List.setIfInBounds_toArray,List.set_cons_zero,List.set_cons_succ])
 apply Th.nil
 refine WH.done (by kernel_rfl) ?_
 have hn80:(ownOf wd.log c).length≤80:=by
  unfold ownOf
  rw [List.length_append]
  have h1:=mine_len (wd.log.take c.seen.toNat) c.who
  rw [List.length_take] at h1
  omega
 have hos:=HOS.out w6 HBw6.out hs0 (by omega)
 rw [show ownS wd.log who c=ownOf wd.log c by rw [←HQ1.out];rfl] at hos
 have HOE:=Lib.hid hos
 have HOO:=Lib.hid (own_ok HLO.out HOK.out)
 have HM6:=Lib.hid hwho1
 clear hos HOS htx hsl p1 p2 p3 hmn hd0 hd1 hm0 hm6 HI HLI HTO HBR HBL
 obtain ⟨b0,b1,b2,b3,b4,c0,c1,c2,c3,c4,c5⟩:=HS.out w6 HBw6.out
 generalize ownOf wd.log c=own at *
 go_wp2_with fail
 refine HOE.out.mono ?_;rintro x w7 ⟨v,rfl,ho,hb⟩
 obtain ⟨oA,on,rfl,hv⟩:=ho.rd
 have HO:=Lib.hid hv;have HBw7:=Lib.hid (HBw6.out.trans (hb.mono HBw6.out.size))
 clear HOE ho hb hv b0 b1 b2 b3 b4 c0 c1 c2 c3 c4 c5 HBw1 HBw3 HBw4 HBw5 HBw6
 go_wp2_with fail
 go_loopg [7,8] own.length (fun gk mv i wr=>∃ (k:Nat) (m:Int),k≤own.length∧Hid (gk=own.length - k)∧mv=.int .i64 m∧i=.int .i64 k∧0≤m∧m≤6∧Hid (madesOk who 0 (own.take k)=some m)∧Hid (wr=w7))
 case atStart=>exact ⟨0,0,Nat.zero_le _,rfl,rfl,rfl,by omega,by omega,rfl,rfl⟩
 case round=>
  obtain ⟨k,m,hk,HK,rfl,rfl,hm0,hm1,HG,HW⟩:=hrel
  have hwr:=HW.out
  subst hwr
  by_cases hlt:k<own.length
  ·obtain ⟨b,off,rfl,hbl,e0,e1,e2,e3,e4,e5,e6⟩:=ent_at HO.out k hlt
   have HN:=Lib.hid (madesOk_next hlt HG.out)
   have HEK:=Lib.hid (HOO.out _ (List.getElem_mem hlt))
   have hli:(k:Int)<own.length:=by omega
   by_cases hkind:own[k].op.kind=1
   ·have q1:(own[k].op.kind == 1)=true:=by simp [hkind]
    rw [if_pos hkind] at HN
    have v1:IntKind.i64.wrap (m+1)=m+1:=by rw [IntKind.wrap_i64];omega
    have v2:IntKind.i64.wrap (10*who)=10*who:=by rw [IntKind.wrap_i64];omega
    have v3:IntKind.i64.wrap (10*who+(m+1))=10*who+(m+1):=by rw [IntKind.wrap_i64];omega
    have hme:=made_eq HEK.out HM6.out.1 HM6.out.2 hm0 hm1
    clear hkind
    by_cases hid:own[k].op.id=10*who+(m+1)
    ·have q2:(own[k].op.id != 10*who+(m+1))=false:=by simp [hid]
     rw [if_pos (hme.2 hid)] at HN
     have h7:=(id_not7 HEK.out HM6.out.1 HM6.out.2).1
     have hm2:m+1≤6:=by omega
     clear hid h7 hme
     go_wp2_with fail
     go_roundg (own.length - (k+1))
     case measure=>have:=HK.out;omega
     case rel=>exact ⟨k+1,m+1,by omega,rfl,rfl,by go_num,by omega,hm2,HN.out,rfl⟩
    ·have q2:(own[k].op.id != 10*who+(m+1))=true:=by simp [hid]
     rw [if_neg (fun h=>hid (hme.1 h))] at HN
     have HF:Hid (cliFits wd.log wd.safe who c=false):=by show _=_;rw [HF0.out,madesOk_none HN.out];simp
     clear hid hme HN
     go_wp2_with fail
     go_ret
     exact ⟨by rw [HF.out];rfl,HE.out.trans (HBw7.out.mono HE.out.size)⟩
   ·have q1:(own[k].op.kind == 1)=false:=by simp [hkind]
    rw [if_neg hkind] at HN
    clear hkind
    go_wp2_with fail
    go_roundg (own.length - (k+1))
    case measure=>have:=HK.out;omega
    case rel=>exact ⟨k+1,m,by omega,rfl,rfl,by go_num,by omega,by omega,HN.out,rfl⟩
  ·have hkl:k=own.length:=by omega
   subst hkl
   rw [List.take_length] at HG
   rw [HG.out] at HF0
   have hli:¬((own.length:Int)<own.length):=by omega
   go_wp2_with fail
   generalize wr=wy at *
   go_loopg [9] wd.log.length (fun gk i wr=>∃ k:Nat,k≤wd.log.length∧Hid (gk=wd.log.length - k)∧i=.int .i64 k∧Hid (∀ j (hj:j<wd.log.length),j<k→wd.log[j].who=who→wd.log[j]∈own)∧Hid (Ext wy wr))
   case atStart=>exact ⟨0,Nat.zero_le _,rfl,rfl,fun j _ h=>by omega,Below.refl _ _⟩
   case round=>
    obtain ⟨k,hk,HK,rfl,HG,HB⟩:=hrel
    have HWR:=Lib.hid (HBw7.out.trans (HB.out.mono HBw7.out.size))
    obtain ⟨b0,b1,b2,b3,b4,c0,c1,c2,c3,c4,c5⟩:=HS.out wr HWR.out
    by_cases hlt:k<wd.log.length
    ·obtain ⟨b,off,rfl,hbl,e0,e1,e2,e3,e4,e5,e6⟩:=ent_at (HL.out.ext HWR.out) k hlt
     have hli:(k:Int)<wd.log.length:=by omega
     by_cases hwk:wd.log[k].who=who
     ·have q1:(wd.log[k].who == who)=true:=by simp [hwk]
      have HWK:=Lib.hid hwk
      have HH:=Lib.hid (has_s oA on own wd.log[k] wr (HO.out.ext HB.out))
      clear hwk
      by_cases hin:wd.log[k]∈own
      ·rw [decide_eq_true hin] at HH
       have HIN:=Lib.hid hin
       clear hin
       go_wp2_with fail
       refine HH.out.mono ?_;rintro x w8 ⟨rfl,hb⟩
       have HB8:=Lib.hid (HB.out.trans (hb.mono HB.out.size));clear hb HH
       go_wp2_with fail
       go_roundg (wd.log.length - (k+1))
       case measure=>have:=HK.out;omega
       case rel=>
        refine ⟨k+1,by omega,rfl,by go_num,Lib.hid (fun j hj hjk hw=>?_),HB8.out⟩
        rcases Nat.lt_or_eq_of_le (Nat.le_of_lt_succ hjk) with h | h
        ·exact HG.out j hj h hw
        ·subst h;exact HIN.out
      ·rw [decide_eq_false hin] at HH
       have HF:Hid (cliFits wd.log wd.safe who c=false):=by
        show _=_
        rw [HF0.out,Bool.and_eq_false_iff]
        refine .inr (List.all_eq_false.2 ⟨wd.log[k],?_,by simpa using hin⟩)
        unfold mine
        exact List.mem_filter.2 ⟨List.getElem_mem hlt,by simpa using HWK.out⟩
       clear hin
       go_wp2_with fail
       refine HH.out.mono ?_;rintro x w8 ⟨rfl,hb⟩
       have HB8:=Lib.hid (HWR.out.trans (hb.mono HWR.out.size));clear hb HH
       go_wp2_with fail
       go_ret
       exact ⟨by rw [HF.out];rfl,HE.out.trans (HB8.out.mono HE.out.size)⟩
     ·have q1:(wd.log[k].who == who)=false:=by simp [hwk]
      have HWK:=Lib.hid hwk
      clear hwk
      go_wp2_with fail
      go_roundg (wd.log.length - (k+1))
      case measure=>have:=HK.out;omega
      case rel=>
       refine ⟨k+1,by omega,rfl,by go_num,Lib.hid (fun j hj hjk hw=>?_),HB.out⟩
       rcases Nat.lt_or_eq_of_le (Nat.le_of_lt_succ hjk) with h | h
       ·exact HG.out j hj h hw
       ·subst h;exact absurd hw HWK.out
    ·have hli:¬((k:Int)<wd.log.length):=by omega
     have HALL:Hid (cliFits wd.log wd.safe who c=decide (m=c.made)):=by
      show _=_
      rw [HF0.out,List.all_eq_true.2 (fun e he=>by
       unfold mine at he
       obtain ⟨h1,h2⟩:=List.mem_filter.1 he
       obtain ⟨j,hj,rfl⟩:=List.getElem_of_mem h1
       exact decide_eq_true (HG.out j hj (by omega) (by simpa using h2))),Bool.and_true]
      simp
     clear HF0 HG
     by_cases hmm:m=c.made
     ·have q1:(m == c.made)=true:=by simp [hmm]
      rw [decide_eq_true hmm] at HALL
      clear hmm
      go_wp2_with fail
      go_ret
      exact ⟨by rw [HALL.out];rfl,HE.out.trans (HWR.out.mono HE.out.size)⟩
     ·have q1:(m == c.made)=false:=by simp [hmm]
      rw [decide_eq_false hmm] at HALL
      clear hmm
      go_wp2_with fail
      go_ret
      exact ⟨by rw [HALL.out];rfl,HE.out.trans (HWR.out.mono HE.out.size)⟩
end Go.Proofs.YtecmcjfdaipfcaaGreatDoor
