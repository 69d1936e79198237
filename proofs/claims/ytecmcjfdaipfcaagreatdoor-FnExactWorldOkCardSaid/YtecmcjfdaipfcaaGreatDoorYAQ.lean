/- Walk of the reference: WorldOk. .. The exact laws' helpers: sizes and comparisons. -/
import Derived.Test.YtecmcjfdaipfcaaGreatDoorYAP
import Derived.Test.YtecmcjfdaipfcaaGreatDoorYAL
import Derived.Deep.RegionHeld3
namespace Go.Proofs.YtecmcjfdaipfcaaGreatDoor
open Go.RowKit Go.Lib
set_option linter.unusedVariables false
set_option linter.unusedSimpArgs false
structure WW (w:Wd):Prop where
 num:WNum w
 log:∀ e∈w.log,OpW e.op
 cls:∀ c∈w.cls,CW c
 nets:∀ m∈w.nets,(∀ e∈m.list,OpW e.op)∧m.list.length≤3000000
theorem cli_who {w:Wd} (h3:w.cls.length=3) (h:∀ j,j<3→cliAt w j=true):∀ (j:Nat) (hj:j<w.cls.length),w.cls[j].who=(j:Int)+1:=fun j hj=>by
 have h9:=h j (by omega)
 unfold cliAt at h9
 rw [List.getElem?_eq_getElem hj] at h9
 simp only [cliFits,Bool.and_eq_true,decide_eq_true_eq] at h9
 exact h9.1.1.1.1.1.2
set_option maxRecDepth 100000 in
set_option maxHeartbeats 2000000 in
theorem serverOk_e (L:Option Addr) (ln:Nat) (l:List Entry) (safe:Int) (up:Bool) (w:World) (hr:Rd w L ln l) (hall:∀ e∈l,OpW e.op) :
  Calls Tryz.prog 55 #[.agg #[.slice L l.length ln,.int .i64 safe,.bool up]] w fun x w'=>x=.returned (.bool (logOk l&&decide (0≤safe∧safe≤l.length)))∧Ext w w':=by
 have hE:Ext w (w.alloc (.cells #[.slice L l.length ln,.int .i64 safe,.bool up] 58)):=(Below.refl _ w).alloc (Nat.le_refl _) _
 have hX:=World.alloc_heap_new w (.cells #[.slice L l.length ln,.int .i64 safe,.bool up] 58)
 have HL:=Lib.hid (logOk_s L ln l _ (hr.ext hE) hall)
 have HE:=Lib.hid hE;have HX:=Lib.hid hX
 clear hr hall hE hX
 go_enter Tryz.func55,Tryz.ntmps55
 go_wp2_with fail
 generalize (w.alloc (.cells #[.slice L l.length ln,.int .i64 safe,.bool up] 58))=W at *
 refine HL.out.mono ?_
 rintro x w1 ⟨rfl,hb1⟩
 have hx1:=(hb1.block w.heap.size (blk_lt HX.out)).trans HX.out
 obtain ⟨c0,c1,c2,cf⟩:=tri_cells hx1
 have HE1:=Lib.hid (HE.out.trans (hb1.mono HE.out.size))
 clear hb1 hx1 HL
 cases hl:logOk l
 ·have HLL:=Lib.hid hl
  clear hl
  go_wp2_with fail
  go_ret
  exact ⟨by rw [HLL.out];rfl,HE1.out⟩
 ·have HLL:=Lib.hid hl
  clear hl
  go_wp2_with fail
  refine (in_c safe 0 l.length w1).mono ?_
  rintro x w2 ⟨rfl,hw2⟩
  rw [hw2];clear hw2
  go_wp2_with fail
  go_ret
  exact ⟨by rw [HLL.out];rfl,HE1.out⟩
set_option maxRecDepth 100000 in
set_option maxHeartbeats 8000000 in
theorem worldOk_s (wd:Wd) (L:Option Addr) (ln:Nat) (C:Option Addr) (cc:Nat) (N:Option Addr) (nc:Nat) (xs:List RC) (ys:List RL) (w:World) (hr:WR w wd L ln C cc N nc xs ys) (hn:WW wd) :
  Calls Tryz.prog 22 #[.agg (wA wd L ln C xs.length cc N ys.length nc)] w fun x w'=>x=.returned (.bool (worldOk wd))∧Ext w w':=by
 have hx:=World.alloc_heap_new w (oWd wd L ln C xs.length cc N ys.length nc)
 have hE:Ext w (w.alloc (oWd wd L ln C xs.length cc N ys.length nc)):=(Below.refl _ w).alloc (Nat.le_refl _) _
 have HX:=Lib.hid hx;have HE:=Lib.hid hE;have HR:=Lib.hid (hr.ext hE);have HN:=Lib.hid hn
 have HXL:=Lib.hid hr.cls.cls.1;have HYL:=Lib.hid hr.nets.1
 have HSO:=Lib.hid (serverOk_e L ln wd.log wd.safe wd.up _ HR.out.log.1 hn.log)
 clear hE hr hn
 generalize hW:(w.alloc (oWd wd L ln C xs.length cc N ys.length nc))=W at *
 have hs:∀ w':World,Ext W w'→w'.cell? ⟨w.heap.size,0,none⟩=some (.slice L wd.log.length ln)∧w'.cell? ⟨w.heap.size,1,none⟩=some (.int .i64 wd.safe)∧w'.cell? ⟨w.heap.size,2,none⟩=some (.bool wd.up)∧w'.cell? ⟨w.heap.size,3,none⟩=some (.slice C xs.length cc)∧w'.cell? ⟨w.heap.size,4,none⟩=some (.slice N ys.length nc):=fun w' h=>by
  obtain ⟨b0,b1,b2,b3,b4,-⟩:=five_cells ((h.block _ (blk_lt HX.out)).trans HX.out)
  exact ⟨b0,b1,b2,b3,b4⟩
 have HS:=Lib.hid hs
 clear hx hs
 by_cases hg:(logOk wd.log&&decide (0≤wd.safe∧wd.safe≤wd.log.length))=true∧wd.cls.length=3∧wd.nets.length≤12
 ·obtain ⟨hg1,hg2,hg3⟩:=hg
  rw [hg1] at HSO
  have HF:Hid (worldOk wd=((List.range 3).all (cliAt wd)&&wd.nets.all (letFits wd.log wd.safe wd.cls))):=by
   show _=_
   unfold worldOk
   rw [hg1,decide_eq_true hg2,decide_eq_true hg3];rfl
  rw [Bool.and_eq_true,decide_eq_true_eq] at hg1
  obtain ⟨hlog,hs0,hs1⟩:=hg1
  have q1:((xs.length:Int) != 3)=false:=by rw [HXL.out,hg2];rfl
  have q2:¬(12:Int)<ys.length:=by have:=HYL.out;omega
  have HG2:=Lib.hid hg2;have HG3:=Lib.hid hg3;have HLO:=Lib.hid hlog
  have hll:=((logOk_iff _).1 hlog).1
  clear hlog hg2 hg3
  go_enter Tryz.func22,Tryz.ntmps22
  obtain ⟨b0,b1,b2,b3,b4⟩:=HS.out W (Below.refl _ _)
  subst hW
  go_wp2_with fail
  refine HSO.out.mono ?_;rintro x w1 ⟨rfl,hb⟩
  clear b0 b1 b2 b3 b4
  obtain ⟨b0,b1,b2,b3,b4⟩:=HS.out w1 hb
  have HB:=Lib.hid hb
  clear hb HSO
  go_wp2_with fail
  clear b0 b1 b2 b3 b4
  go_loopg [3] 3 (fun gk i wr=>∃ k:Nat,k≤3∧Hid (gk=3 - k)∧i=.int .i64 ((k:Int)+1)∧Hid (∀ j,j<k→cliAt wd j=true)∧Hid (Ext w1 wr))
  case atStart=>exact ⟨0,Nat.zero_le _,rfl,rfl,fun j h=>by omega,Below.refl _ _⟩
  case round=>
   obtain ⟨k,hk,HK,rfl,HG,HBW⟩:=hrel
   have HW:=Lib.hid (HB.out.trans (HBW.out.mono HB.out.size))
   obtain ⟨b0,b1,b2,b3,b4⟩:=HS.out _ HW.out
   by_cases hlt:k<3
   ·have hk3:k<wd.cls.length:=by have:=HG2.out;omega
    have HAT:Hid (cliAt wd k=cliFits wd.log wd.safe ((k:Int)+1) wd.cls[k]):=by show _=_;unfold cliAt;rw [List.getElem?_eq_getElem hk3]
    have HC:=Lib.hid (client_s wd L ln C cc N ys.length nc xs k ((k:Int)+1) wr (HR.out.log.1.ext HW.out) (HR.out.cls.ext HW.out) hk3 rfl HG2.out HLO.out hs0 hs1 (HN.out.cls _ (List.getElem_mem hk3)))
    have hle:((k:Int)+1)≤3:=by omega
    cases hcf:cliFits wd.log wd.safe ((k:Int)+1) wd.cls[k]
    ·rw [hcf] at HC HAT
     have HF2:Hid (worldOk wd=false):=by
      show _=_
      rw [HF.out,Bool.and_eq_false_iff]
      exact .inl (List.all_eq_false.2 ⟨k,List.mem_range.2 hlt,by rw [HAT.out];simp⟩)
     clear hcf
     go_wp2_with fail
     refine HC.out.mono ?_;rintro x w2 ⟨rfl,hb⟩
     have HB2:=Lib.hid (HW.out.trans (hb.mono HW.out.size));clear hb HC
     go_wp2_with fail
     go_ret
     exact ⟨by rw [HF2.out];rfl,HE.out.trans (HB2.out.mono HE.out.size)⟩
    ·rw [hcf] at HC HAT
     clear hcf
     have hwk:IntKind.i64.wrap ((k:Int)+1+1)=((k+1:Nat):Int)+1:=by rw [IntKind.wrap_i64];omega
     go_wp2_with fail
     refine HC.out.mono ?_;rintro x w2 ⟨rfl,hb⟩
     have HB2:=Lib.hid (HBW.out.trans (hb.mono HBW.out.size));clear hb HC
     go_wp2_with fail
     go_roundg (3 - (k+1))
     case measure=>have:=HK.out;omega
     case rel=>
      refine ⟨k+1,by omega,rfl,by first | rfl | (congr 1;omega),Lib.hid (fun j hjk=>?_),HB2.out⟩
      rcases Nat.lt_or_eq_of_le (Nat.le_of_lt_succ hjk) with h | h
      ·exact HG.out j h
      ·subst h;exact HAT.out
   ·have hle:¬((k:Int)+1)≤3:=by omega
    have HALL:Hid (∀ j,j<3→cliAt wd j=true):=fun j hj=>HG.out j (by omega)
    have HF2:Hid (worldOk wd=wd.nets.all (letFits wd.log wd.safe wd.cls)):=by
     show _=_
     rw [HF.out,List.all_eq_true.2 (fun j hj=>HALL.out j (List.mem_range.1 hj))];rfl
    clear HF HG HBW HB
    go_wp2_with fail
    clear b0 b1 b2 b3 b4
    generalize wr=wy at *
    go_loopg [4] ys.length (fun gk i wr=>∃ k:Nat,k≤ys.length∧Hid (gk=ys.length - k)∧i=.int .i64 k∧Hid (∀ j (hj:j<wd.nets.length),j<k→letFits wd.log wd.safe wd.cls wd.nets[j]=true)∧Hid (Ext wy wr))
    case atStart=>exact ⟨0,Nat.zero_le _,rfl,rfl,fun j _ h=>by omega,Below.refl _ _⟩
    case round=>
     obtain ⟨k,hk,HK,rfl,HG,HBX⟩:=hrel
     have HX1:=Lib.hid (HW.out.trans (HBX.out.mono HW.out.size))
     obtain ⟨b0,b1,b2,b3,b4⟩:=HS.out _ HX1.out
     by_cases hlt:k<ys.length
     ·have hkn:k<wd.nets.length:=by have:=HYL.out;omega
      obtain ⟨nb,no,A,n,rfl,hnb,hR1,c0,c1,c2⟩:=(HR.out.ext HX1.out).net k hkn
      have HBD:Hid (Ext wr wr.drew):=Below.drew (Below.refl _ _)
      have hmn:=HN.out.nets _ (List.getElem_mem hkn)
      have HC:=Lib.hid (letter_s wd L ln C cc (some ⟨nb,no,none⟩) ys.length nc xs wd.nets[k] A n wr.drew ((HR.out.log.1.ext HX1.out).ext HBD.out) ((HR.out.cls.ext HX1.out).ext HBD.out) (hR1.1.ext HBD.out) HG2.out hll hs0 hs1 (cli_seen hs1 HG2.out HALL.out) (cli_who HG2.out HALL.out) (HN.out.num.2 _ (List.getElem_mem hkn)).1 hmn.1 hmn.2)
      have hcs:∀ w':World,Ext wr w'→w'.cell? ⟨w.heap.size,0,none⟩=some (.slice L wd.log.length ln)∧w'.cell? ⟨w.heap.size,1,none⟩=some (.int .i64 wd.safe)∧w'.cell? ⟨w.heap.size,2,none⟩=some (.bool wd.up)∧w'.cell? ⟨w.heap.size,3,none⟩=some (.slice C xs.length cc)∧w'.cell? ⟨w.heap.size,4,none⟩=some (.slice (some ⟨nb,no,none⟩) ys.length nc)∧w'.cell? ⟨nb,no+k*3,none⟩=some (.int .i64 wd.nets[k].dst)∧w'.cell? ⟨nb,no+k*3+1,none⟩=some (.int .i64 wd.nets[k].frm)∧w'.cell? ⟨nb,no+k*3+2,none⟩=some (.slice A wd.nets[k].list.length n):=fun w' h=>by
       obtain ⟨b0,b1,b2,b3,b4⟩:=HS.out w' (HX1.out.trans (h.mono HX1.out.size))
       obtain ⟨hc,-⟩:=bcell h
       exact ⟨b0,b1,b2,b3,b4,(hc _ _ hnb).trans c0,(hc _ _ hnb).trans c1,(hc _ _ hnb).trans c2⟩
      have HCS:=Lib.hid hcs
      have hli:(k:Int)<ys.length:=by omega
      clear hR1 hmn hcs c0 c1 c2
      cases hcf:letFits wd.log wd.safe wd.cls wd.nets[k]
      ·rw [hcf] at HC
       have HF3:Hid (worldOk wd=false):=by
        show _=_
        rw [HF2.out]
        exact List.all_eq_false.2 ⟨_,List.getElem_mem hkn,by rw [hcf];simp⟩
       clear hcf
       go_wp2_with fail
       refine wp_region_H (fun w'=>Ext wr w') (by kernel_rfl) ?_
       refine WH.ts [(0,36),(1,37),(2,38),(3,39),(4,40),(5,41)] HBD.out (by kernel_rfl) ?_
       iterate 6 (apply Th.cons rfl rfl;(focus (rintro w s;obtain ⟨b0,b1,b2,b3,b4,c0,c1,c2⟩:=HCS.out _ s;go_simp;try with_reducible rfl));try simp only [Act.put,List.setIfInBounds_toArray,List.set_cons_zero,List.set_cons_succ])
       apply Th.nil
       refine WH.one 6 (by kernel_rfl) rfl (fun K hK=>?_)
       have HKK:=Lib.hid hK;clear hK
       go_simp
       refine HC.out.mono ?_;rintro x w2 ⟨rfl,hb⟩
       have HB2:=Lib.hid (HBD.out.trans hb)
       refine HKK.out _ _ ⟨HB2.out,?_⟩
       clear HKK K hb HC
       try simp only [Act.put,List.setIfInBounds_toArray,List.set_cons_zero,List.set_cons_succ]
       refine WH.ts [(7,43)] HB2.out (by kernel_rfl) ?_
       apply Th.cons rfl rfl;(focus (rintro w s;obtain ⟨b0,b1,b2,b3,b4,c0,c1,c2⟩:=HCS.out _ s;go_simp;try with_reducible rfl));try simp only [Act.put,List.setIfInBounds_toArray,List.set_cons_zero,List.set_cons_succ]
       apply Th.nil
       refine WH.done (by kernel_rfl) ?_
       go_wp2_with fail
       go_ret
       exact ⟨by rw [HF3.out];rfl,HE.out.trans ((HX1.out.trans (HB2.out.mono HX1.out.size)).mono HE.out.size)⟩
      ·rw [hcf] at HC
       have HAT:=Lib.hid hcf
       clear hcf
       go_wp2_with fail
       refine wp_region_H (fun w'=>Ext wr w') (by kernel_rfl) ?_
       refine WH.ts [(0,36),(1,37),(2,38),(3,39),(4,40),(5,41)] HBD.out (by kernel_rfl) ?_
       iterate 6 (apply Th.cons rfl rfl;(focus (rintro w s;obtain ⟨b0,b1,b2,b3,b4,c0,c1,c2⟩:=HCS.out _ s;go_simp;try with_reducible rfl));try simp only [Act.put,List.setIfInBounds_toArray,List.set_cons_zero,List.set_cons_succ])
       apply Th.nil
       refine WH.one 6 (by kernel_rfl) rfl (fun K hK=>?_)
       have HKK:=Lib.hid hK;clear hK
       go_simp
       refine HC.out.mono ?_;rintro x w2 ⟨rfl,hb⟩
       have HB2:=Lib.hid (HBD.out.trans hb)
       refine HKK.out _ _ ⟨HB2.out,?_⟩
       clear HKK K hb HC
       try simp only [Act.put,List.setIfInBounds_toArray,List.set_cons_zero,List.set_cons_succ]
       refine WH.ts [(7,43)] HB2.out (by kernel_rfl) ?_
       apply Th.cons rfl rfl;(focus (rintro w s;obtain ⟨b0,b1,b2,b3,b4,c0,c1,c2⟩:=HCS.out _ s;go_simp;try with_reducible rfl));try simp only [Act.put,List.setIfInBounds_toArray,List.set_cons_zero,List.set_cons_succ]
       apply Th.nil
       refine WH.done (by kernel_rfl) ?_
       go_wp2_with fail
       go_roundg (ys.length - (k+1))
       case measure=>have:=HK.out;omega
       case rel=>
        refine ⟨k+1,by omega,rfl,by go_num,Lib.hid (fun j hj hjk=>?_),HBX.out.trans (HB2.out.mono HBX.out.size)⟩
        rcases Nat.lt_or_eq_of_le (Nat.le_of_lt_succ hjk) with h | h
        ·exact HG.out j hj h
        ·subst h;exact HAT.out
     ·have hli:¬((k:Int)<ys.length):=by omega
      have HF3:Hid (worldOk wd=true):=by
       show _=_
       rw [HF2.out,List.all_eq_true]
       intro m hm
       obtain ⟨j,hj,rfl⟩:=List.getElem_of_mem hm
       exact HG.out j hj (by have:=HYL.out;omega)
      go_wp2_with fail
      go_ret
      exact ⟨by rw [HF3.out];rfl,HE.out.trans (HX1.out.mono HE.out.size)⟩
 ·have HF:Hid (worldOk wd=false):=by
   show _=_
   unfold worldOk
   by_cases a:(logOk wd.log&&decide (0≤wd.safe∧wd.safe≤wd.log.length))=true
   ·by_cases b:wd.cls.length=3
    ·have c:¬wd.nets.length≤12:=fun c=>hg ⟨a,b,c⟩
     rw [decide_eq_false c];simp
    ·rw [decide_eq_false b];simp
   ·rw [Bool.not_eq_true] at a;rw [a];rfl
  have q:(logOk wd.log&&decide (0≤wd.safe∧wd.safe≤wd.log.length))=false∨(logOk wd.log&&decide (0≤wd.safe∧wd.safe≤wd.log.length))=true∧(((xs.length:Int) != 3)=true∨((xs.length:Int) != 3)=false∧(12:Int)<ys.length):=by
   cases a:(logOk wd.log&&decide (0≤wd.safe∧wd.safe≤wd.log.length))
   ·exact .inl rfl
   ·refine .inr ⟨rfl,?_⟩
    by_cases b:wd.cls.length=3
    ·exact .inr ⟨by rw [HXL.out,b];rfl,by have:=HYL.out;have c:¬wd.nets.length≤12:=fun c=>hg ⟨a,b,c⟩;omega⟩
    ·exact .inl (by simp;have:=HXL.out;omega)
  clear hg
  rcases q with q | ⟨q,p | ⟨p,o⟩⟩
  all_goals
   rw [q] at HSO
   clear q
   go_enter Tryz.func22,Tryz.ntmps22
   obtain ⟨b0,b1,b2,b3,b4⟩:=HS.out W (Below.refl _ _)
   subst hW
   go_wp2_with fail
   refine HSO.out.mono ?_;rintro x w1 ⟨rfl,hb⟩
   clear b0 b1 b2 b3 b4
   obtain ⟨b0,b1,b2,b3,b4⟩:=HS.out w1 hb
   have HB:=Lib.hid (HE.out.trans (hb.mono HE.out.size))
   clear hb HSO
   go_wp2_with fail
   go_ret
   exact ⟨by rw [HF.out];rfl,HB.out⟩
open Go.RowKit
def row0:Row:=⟨0,0,⟨#[]⟩⟩
def ent0:Entry:=⟨0,0,⟨0,0,0,0,⟨#[]⟩⟩⟩
theorem flat_made {α:Type} [Flat α] (x:α) (n:Nat) (cs:Array Value) (hc:cs.toList=Flat.enc x):(madeCells cs (n*Flat.sz α)).toList=flat (List.replicate n x):=by
 have hcs:cs.size=Flat.sz α:=by rw [←Array.length_toList,hc,Flat.len]
 have hpos:=Flat.pos (α:=α)
 apply List.ext_getElem?
 intro j
 by_cases hj:j<n*Flat.sz α
 ·have hm:j % Flat.sz α<Flat.sz α:=Nat.mod_lt _ hpos
  have hd:j / Flat.sz α<n:=Nat.div_lt_of_lt_mul (by rw [Nat.mul_comm];exact hj)
  have he:j=j / Flat.sz α*Flat.sz α+j % Flat.sz α:=by rw [Nat.mul_comm];exact (Nat.div_add_mod _ _).symm
  have h1:=flat_at (List.replicate n x) (j / Flat.sz α) (by simpa using hd) (j % Flat.sz α) hm
  rw [←he,List.getElem_replicate,←hc] at h1
  rw [h1]
  simp only [madeCells,Array.toList_map,Array.toList_range,List.getElem?_map,List.getElem?_range hj,Option.map_some,hcs,Array.getElem?_toList]
  rw [getElem!_pos cs _ (by omega),Array.getElem?_eq_getElem (by omega)]
 ·rw [List.getElem?_eq_none (by simp [size_madeCells];omega),List.getElem?_eq_none (by rw [flat_length,List.length_replicate];omega)]
theorem own_put_row {w:World} {base g cap n:Nat} {L:List Row} (h:Own 46 w base (.slice (some ⟨g,0,none⟩) n cap) L) (hn:L.length=n) (k:Nat) (hk:k<n) (x:Row) (hx:x.text.size≤maxLen) :
  Own 46 (((w.setCell ⟨g,k*3,none⟩ (.int .i64 x.id)).setCell ⟨g,k*3+1,none⟩ (.int .i64 x.depth)).setCell ⟨g,k*3+2,none⟩ (.string x.text)) base (.slice (some ⟨g,0,none⟩) n cap) (L.set k x):=by
 subst hn
 have e1:=(Own.store h k hk ⟨x.id,L[k].depth,L[k].text⟩ (show L[k].text.size≤maxLen from h.2 L[k] (List.getElem_mem hk)) 0 (.int .i64 x.id) (by decide) rfl).1
 have e2:=(Own.store (l:=L.set k ⟨x.id,L[k].depth,L[k].text⟩) (by rw [List.length_set];exact e1) k (by rw [List.length_set];exact hk) ⟨x.id,x.depth,L[k].text⟩ (show L[k].text.size≤maxLen from h.2 L[k] (List.getElem_mem hk)) 1 (.int .i64 x.depth) (by decide) (by rw [List.getElem_set_self];rfl)).1
 rw [List.set_set] at e2
 have e3:=(Own.store (l:=L.set k ⟨x.id,x.depth,L[k].text⟩) (by rw [List.length_set] at e2 ⊢;exact e2) k (by rw [List.length_set];exact hk) x hx 2 (.string x.text) (by decide) (by rw [List.getElem_set_self];rfl)).1
 rw [List.set_set,List.length_set] at e3
 exact e3
theorem Own.frz {α:Type} [Flat α] {e:TypeId} {w:World} {base g n cap:Nat} {L:List α} (h:Own e w base (.slice (some ⟨g,0,none⟩) n cap) L):∀ o,w.frozen? ⟨g,o,none⟩=false:=by
 rcases h.1.2 with ⟨h9,_⟩ | ⟨g9,cap9,cur9,h9,_,h8,_⟩
 ·cases h9
 ·simp only [Value.slice.injEq,Option.some.injEq,Addr.mk.injEq,and_true] at h9
  obtain ⟨h91,-⟩:=h9
  subst h91
  intro o
  simp [World.frozen?,h8]
theorem Own.slice_rd {α:Type} [Flat α] {e:TypeId} {w:World} {base g n cap:Nat} {L:List α} (h:Own e w base (.slice (some ⟨g,0,none⟩) n cap) L):Rd w (some ⟨g,0,none⟩) cap L∧n=L.length:=by
 obtain ⟨A,c,e,hr⟩:=h.rd
 simp only [Value.slice.injEq] at e
 obtain ⟨e1,e2,e3⟩:=e
 subst e1;subst e3
 exact ⟨hr,e2⟩
theorem Own.cells3 {w:World} {base g n cap:Nat} {L:List Row} (h:Own 46 w base (.slice (some ⟨g,0,none⟩) n cap) L) (k:Nat) (hk:k<n) :
  ∃ v0 v1 v2,w.cell? ⟨g,k*3,none⟩=some v0∧w.cell? ⟨g,k*3+1,none⟩=some v1∧w.cell? ⟨g,k*3+2,none⟩=some v2:=by
 obtain ⟨hr,hn⟩:=h.slice_rd
 obtain ⟨b,off,e,_,c0,c1,c2⟩:=row_at hr k (by omega)
 simp only [Option.some.injEq,Addr.mk.injEq,and_true] at e
 obtain ⟨e1,e2⟩:=e
 subst e1;subst e2
 simp only [Nat.zero_add] at c0 c1 c2
 exact ⟨_,_,_,c0,c1,c2⟩
theorem step_list {α:Type} (l:List α) (z:α) (k:Nat) (hk:k<l.length):(l.take k++List.replicate (l.length - k) z).set k l[k]=l.take (k+1)++List.replicate (l.length - (k+1)) z:=by
 have hlen:(l.take k).length=k:=by rw [List.length_take];omega
 rw [List.set_append_right _ _ (by omega),hlen,Nat.sub_self,show l.length - k=(l.length - (k+1))+1 by omega,List.replicate_succ,List.set_cons_zero,List.take_succ_eq_append_getElem hk,List.append_assoc,List.singleton_append]
set_option maxRecDepth 100000 in
theorem toRow_c (r:Row) (w:World) :
  Calls Tryz.prog 148 #[.agg #[.int .i64 r.id,.int .i64 r.depth,.string r.text]] w fun x w'=>x=.returned (.agg #[.int .i64 r.id,.int .i64 r.depth,.string r.text])∧Ext w w':=by
 go_enter Tryz.func148,Tryz.ntmps148
 go_wp2_with fail
 have hz:=mid3_new w (.cells #[.int .i64 r.id,.int .i64 r.depth,.string r.text] 211) (.cells #[.int .i64 r.id,.int .i64 r.depth,.string r.text] 46) (.cells #[.int .i64 r.id,.int .i64 r.depth,.string r.text] 46)
 obtain ⟨k0,k1,k2⟩:=cells3 hz
 refine bodyPost_ret (v:=.agg #[.int .i64 r.id,.int .i64 r.depth,.string r.text]) ?_ rfl ⟨rfl,ext3 _ _ _ _⟩
 simp [results,Tryz.f148,go_sem,k0,k1,k2]
set_option maxRecDepth 100000 in
set_option maxHeartbeats 1000000 in
theorem toRowS_c (A:Option Addr) (c:Nat) (l:List Row) (w:World) (hr:Rd w A c l) (hb:l.length≤2000000) :
  Calls Tryz.prog 133 #[.slice A l.length c] w fun x w'=>∃ v,x=.returned v∧Own 46 w' w.heap.size v l∧Ext w w':=by
 obtain ⟨i0,hi,hz0,hz1,hz2⟩:=row_info
 have HR:=Lib.hid hr
 clear hr
 go_enter Tryz.func133,Tryz.ntmps133
 go_wp2_with (first
  |(refine wpList_make_full _ rfl _ _ 23 rfl w.heap.size 46 i0 _ 3 und_rows hi hz0 hz1 .i64 .i64 _ _ l.length rfl rfl rfl rfl (by rw [hz2];omega) (by unfold maxLen;omega) (Nat.le_refl _) ?_;intro w0 hown0 hgrow0;have HO:=Lib.hid hown0;have HG:=Lib.hid hgrow0;clear hown0 hgrow0))
 have hown:Own 46 w0 w.heap.size (.slice (some ⟨w.heap.size,0,none⟩) l.length l.length) (List.replicate l.length row0):=by
  refine ⟨?_,fun x hx=>by rw [(List.mem_replicate.1 hx).2];show (0:Nat)≤maxLen;exact Nat.zero_le _⟩
  rw [List.length_replicate,←flat_made row0 l.length #[.int .i64 0,.int .i64 0,.string ⟨#[]⟩] rfl]
  exact HO.out
 have HB0:Hid (Ext w w0):=(Below.refl w.heap.size w).grown HG.out (Nat.le_refl _) (by simp)
 have HOW:=Lib.hid hown
 clear hown hi hz0 hz1 hz2 HO HG
 go_loopg [4] l.length (fun gk i wr=>∃ k:Nat,k≤l.length∧Hid (gk=l.length - k)∧i=.int .i64 k∧Hid (Own 46 wr w.heap.size (.slice (some ⟨w.heap.size,0,none⟩) l.length l.length) (l.take k++List.replicate (l.length - k) row0))∧Hid (Ext w wr))
 case atStart=>exact ⟨0,Nat.zero_le _,rfl,rfl,HOW.out,HB0.out⟩
 case round=>
  obtain ⟨k,hk,HK,rfl,HQ,HB⟩:=hrel
  by_cases hlt:k<l.length
  ·obtain ⟨b,off,rfl,hbl,c0,c1,c2⟩:=row_at (HR.out.ext HB.out) k hlt
   have HT:=Lib.hid (toRow_c l[k] wr)
   have hlt':(k:Int)<l.length:=by omega
   go_wp2_with fail
   refine HT.out.mono ?_
   rintro e w1 ⟨rfl,hb1⟩
   have hq1:=HQ.out.below hb1
   have hf1:=hq1.frz
   obtain ⟨v0,v1,v2,y0,y1,y2⟩:=hq1.cells3 k hlt
   have HQ1:=Lib.hid hq1;have HB1:=Lib.hid (HB.out.trans (hb1.mono HB.out.size))
   clear hq1 hb1 c0 c1 c2 HT
   go_wp2_with fail
   go_roundg (l.length - (k+1))
   case measure=>have:=HK.out;omega
   case rel=>
    refine ⟨k+1,by omega,rfl,by go_num,?_,?_⟩
    ·have:=own_put_row HQ1.out (by rw [List.length_append,List.length_take,List.length_replicate];omega) k hlt l[k] (HR.out.okAt k hlt)
     rw [step_list l row0 k hlt] at this
     exact this
    ·exact ((HB1.out.setCell (Nat.le_refl _) _).setCell (Nat.le_refl _) _).setCell (Nat.le_refl _) _
  ·have hkl:k=l.length:=by omega
   subst hkl
   have hq:=HQ.out
   rw [List.take_length,Nat.sub_self,List.replicate_zero,List.append_nil] at hq
   have HF:=Lib.hid hq
   clear hq
   go_wp2_with fail
   go_ret
   exact ⟨_,rfl,HF.out,HB.out⟩
theorem own_put_ent {w:World} {base g cap n:Nat} {L:List Entry} (h:Own 35 w base (.slice (some ⟨g,0,none⟩) n cap) L) (hn:L.length=n) (k:Nat) (hk:k<n) (x:Entry) (hx:x.op.text.size≤maxLen) :
  Own 35 (((((((w.setCell ⟨g,k*7,none⟩ (.int .i64 x.who)).setCell ⟨g,k*7+1,none⟩ (.int .i64 x.seq)).setCell ⟨g,k*7+2,none⟩ (.int .i64 x.op.kind)).setCell ⟨g,k*7+3,none⟩ (.int .i64 x.op.id)).setCell ⟨g,k*7+4,none⟩ (.int .i64 x.op.up)).setCell ⟨g,k*7+5,none⟩ (.int .i64 x.op.pos)).setCell ⟨g,k*7+6,none⟩ (.string x.op.text)) base (.slice (some ⟨g,0,none⟩) n cap) (L.set k x):=by
 subst hn
 have hLk:L[k].op.text.size≤maxLen:=h.2 L[k] (List.getElem_mem hk)
 have e0:=(Own.store h k hk ⟨x.who,L[k].seq,⟨L[k].op.kind,L[k].op.id,L[k].op.up,L[k].op.pos,L[k].op.text⟩⟩ (show L[k].op.text.size≤maxLen from hLk) 0 (.int .i64 x.who) (by decide) rfl).1
 have e1:=(Own.store (l:=L.set k ⟨x.who,L[k].seq,⟨L[k].op.kind,L[k].op.id,L[k].op.up,L[k].op.pos,L[k].op.text⟩⟩) (by rw [List.length_set] at *;exact e0) k (by rw [List.length_set];exact hk) ⟨x.who,x.seq,⟨L[k].op.kind,L[k].op.id,L[k].op.up,L[k].op.pos,L[k].op.text⟩⟩ (show L[k].op.text.size≤maxLen from hLk) 1 (.int .i64 x.seq) (by decide) (by rw [List.getElem_set_self];rfl)).1
 rw [List.set_set] at e1
 have e2:=(Own.store (l:=L.set k ⟨x.who,x.seq,⟨L[k].op.kind,L[k].op.id,L[k].op.up,L[k].op.pos,L[k].op.text⟩⟩) (by rw [List.length_set] at *;exact e1) k (by rw [List.length_set];exact hk) ⟨x.who,x.seq,⟨x.op.kind,L[k].op.id,L[k].op.up,L[k].op.pos,L[k].op.text⟩⟩ (show L[k].op.text.size≤maxLen from hLk) 2 (.int .i64 x.op.kind) (by decide) (by rw [List.getElem_set_self];rfl)).1
 rw [List.set_set] at e2
 have e3:=(Own.store (l:=L.set k ⟨x.who,x.seq,⟨x.op.kind,L[k].op.id,L[k].op.up,L[k].op.pos,L[k].op.text⟩⟩) (by rw [List.length_set] at *;exact e2) k (by rw [List.length_set];exact hk) ⟨x.who,x.seq,⟨x.op.kind,x.op.id,L[k].op.up,L[k].op.pos,L[k].op.text⟩⟩ (show L[k].op.text.size≤maxLen from hLk) 3 (.int .i64 x.op.id) (by decide) (by rw [List.getElem_set_self];rfl)).1
 rw [List.set_set] at e3
 have e4:=(Own.store (l:=L.set k ⟨x.who,x.seq,⟨x.op.kind,x.op.id,L[k].op.up,L[k].op.pos,L[k].op.text⟩⟩) (by rw [List.length_set] at *;exact e3) k (by rw [List.length_set];exact hk) ⟨x.who,x.seq,⟨x.op.kind,x.op.id,x.op.up,L[k].op.pos,L[k].op.text⟩⟩ (show L[k].op.text.size≤maxLen from hLk) 4 (.int .i64 x.op.up) (by decide) (by rw [List.getElem_set_self];rfl)).1
 rw [List.set_set] at e4
 have e5:=(Own.store (l:=L.set k ⟨x.who,x.seq,⟨x.op.kind,x.op.id,x.op.up,L[k].op.pos,L[k].op.text⟩⟩) (by rw [List.length_set] at *;exact e4) k (by rw [List.length_set];exact hk) ⟨x.who,x.seq,⟨x.op.kind,x.op.id,x.op.up,x.op.pos,L[k].op.text⟩⟩ (show L[k].op.text.size≤maxLen from hLk) 5 (.int .i64 x.op.pos) (by decide) (by rw [List.getElem_set_self];rfl)).1
 rw [List.set_set] at e5
 have e6:=(Own.store (l:=L.set k ⟨x.who,x.seq,⟨x.op.kind,x.op.id,x.op.up,x.op.pos,L[k].op.text⟩⟩) (by rw [List.length_set] at *;exact e5) k (by rw [List.length_set];exact hk) ⟨x.who,x.seq,⟨x.op.kind,x.op.id,x.op.up,x.op.pos,x.op.text⟩⟩ hx 6 (.string x.op.text) (by decide) (by rw [List.getElem_set_self];rfl)).1
 rw [List.set_set] at e6
 rw [List.length_set] at e6
 exact e6
theorem Own.cells7 {w:World} {base g n cap:Nat} {L:List Entry} (h:Own 35 w base (.slice (some ⟨g,0,none⟩) n cap) L) (k:Nat) (hk:k<n) :
  ∃ v0 v1 v2 v3 v4 v5 v6,w.cell? ⟨g,k*7,none⟩=some v0∧w.cell? ⟨g,k*7+1,none⟩=some v1∧w.cell? ⟨g,k*7+2,none⟩=some v2∧w.cell? ⟨g,k*7+3,none⟩=some v3∧w.cell? ⟨g,k*7+4,none⟩=some v4∧w.cell? ⟨g,k*7+5,none⟩=some v5∧w.cell? ⟨g,k*7+6,none⟩=some v6:=by
 obtain ⟨hr,hn⟩:=h.slice_rd
 obtain ⟨b,off,e,_,c0,c1,c2,c3,c4,c5,c6⟩:=ent_at hr k (by omega)
 simp only [Option.some.injEq,Addr.mk.injEq,and_true] at e
 obtain ⟨e1,e2⟩:=e
 subst e1;subst e2
 simp only [Nat.zero_add] at c0 c1 c2 c3 c4 c5 c6
 exact ⟨_,_,_,_,_,_,_,c0,c1,c2,c3,c4,c5,c6⟩
theorem cells5 {W:World} {b:Nat} {v0 v1 v2 v3 v4:Value} {ty:TypeId} (h:W.heap[b]?=some (.cells #[v0,v1,v2,v3,v4] ty (0,0))) :
  W.cell? ⟨b,0,none⟩=some v0∧W.cell? ⟨b,1,none⟩=some v1∧W.cell? ⟨b,2,none⟩=some v2∧W.cell? ⟨b,3,none⟩=some v3∧W.cell? ⟨b,4,none⟩=some v4:=by
 refine ⟨by simp [World.cell?,h],by simp [World.cell?,h],by simp [World.cell?,h],by simp [World.cell?,h],by simp [World.cell?,h]⟩
set_option maxRecDepth 100000 in
theorem toOp_c (o:Op) (w:World) :
  Calls Tryz.prog 147 #[.agg (cO o)] w fun x w'=>x=.returned (.agg (cO o))∧Ext w w':=by
 go_enter Tryz.func147,Tryz.ntmps147
 go_wp2_with fail
 have hz:=mid3_new w (.cells (cO o) 187) (oO o) (oO o)
 obtain ⟨k0,k1,k2,k3,k4⟩:=cells5 hz
 refine bodyPost_ret (v:=.agg (cO o)) ?_ rfl ⟨rfl,ext3 _ _ _ _⟩
 simp [results,Tryz.f147,go_sem,k0,k1,k2,k3,k4]
set_option maxRecDepth 100000 in
set_option maxHeartbeats 1000000 in
theorem toEntry_c (e:Entry) (w:World) :
  Calls Tryz.prog 132 #[.agg (cN e)] w fun x w'=>x=.returned (.agg (cN e))∧Ext w w':=by
 go_enter Tryz.func132,Tryz.ntmps132
 go_wp2_with fail
 refine (toOp_c e.op _).mono ?_
 rintro x w1 ⟨rfl,hb1⟩
 have h3:=three_all w (.cells (cN e) 189) (.cells #[.int .i64 0,.int .i64 0,.int .i64 0,.int .i64 0,.int .i64 0,.int .i64 0,.string ⟨#[]⟩] 35) (.cells #[.int .i64 e.who,.int .i64 e.seq,.int .i64 0,.int .i64 0,.int .i64 0,.int .i64 0,.string ⟨#[]⟩] 35)
 have hs3:(((w.alloc (.cells (cN e) 189)).alloc (.cells #[.int .i64 0,.int .i64 0,.int .i64 0,.int .i64 0,.int .i64 0,.int .i64 0,.string ⟨#[]⟩] 35)).alloc (.cells #[.int .i64 e.who,.int .i64 e.seq,.int .i64 0,.int .i64 0,.int .i64 0,.int .i64 0,.string ⟨#[]⟩] 35)).heap.size=w.heap.size+3:=by simp only [alloc_sz]
 have y1:=(hb1.block (w.heap.size+1) (by rw [hs3];omega)).trans h3.2.1
 have y2:=(hb1.block (w.heap.size+1+1) (by rw [hs3];omega)).trans h3.2.2
 have hsz:=hb1.size
 rw [hs3] at hsz
 have HE1:=Lib.hid ((ext3 w (.cells (cN e) 189) (.cells #[.int .i64 0,.int .i64 0,.int .i64 0,.int .i64 0,.int .i64 0,.int .i64 0,.string ⟨#[]⟩] 35) (.cells #[.int .i64 e.who,.int .i64 e.seq,.int .i64 0,.int .i64 0,.int .i64 0,.int .i64 0,.string ⟨#[]⟩] 35)).trans (hb1.mono (by rw [hs3];omega)))
 obtain ⟨c0,c1,c2,c3,c4,c5,c6,cf⟩:=seven_cells y1
 obtain ⟨d0,d1,d2,d3,d4,d5,d6,df⟩:=seven_cells y2
 have Y1:=Lib.hid y1
 clear h3 hs3 y1 y2 hb1
 go_wp2_with fail
 have hm:(((((w1.setCell ⟨w.heap.size+1+1,2,none⟩ (.int .i64 e.op.kind)).setCell ⟨w.heap.size+1+1,3,none⟩ (.int .i64 e.op.id)).setCell ⟨w.heap.size+1+1,4,none⟩ (.int .i64 e.op.up)).setCell ⟨w.heap.size+1+1,5,none⟩ (.int .i64 e.op.pos)).setCell ⟨w.heap.size+1+1,6,none⟩ (.string e.op.text)).heap[w.heap.size+1]?=_:=(setx (by omega)).trans ((setx (by omega)).trans ((setx (by omega)).trans ((setx (by omega)).trans ((setx (by omega)).trans Y1.out))))
 have hz:((((((((((((w1.setCell ⟨w.heap.size+1+1,2,none⟩ (.int .i64 e.op.kind)).setCell ⟨w.heap.size+1+1,3,none⟩ (.int .i64 e.op.id)).setCell ⟨w.heap.size+1+1,4,none⟩ (.int .i64 e.op.up)).setCell ⟨w.heap.size+1+1,5,none⟩ (.int .i64 e.op.pos)).setCell ⟨w.heap.size+1+1,6,none⟩ (.string e.op.text)).setCell ⟨w.heap.size+1,0,none⟩ (.int .i64 e.who)).setCell ⟨w.heap.size+1,1,none⟩ (.int .i64 e.seq)).setCell ⟨w.heap.size+1,2,none⟩ (.int .i64 e.op.kind)).setCell ⟨w.heap.size+1,3,none⟩ (.int .i64 e.op.id)).setCell ⟨w.heap.size+1,4,none⟩ (.int .i64 e.op.up)).setCell ⟨w.heap.size+1,5,none⟩ (.int .i64 e.op.pos)).setCell ⟨w.heap.size+1,6,none⟩ (.string e.op.text)).heap[w.heap.size+1]?=some (.cells (cN e) 35 (0,0)):=set_at (v:=(.string e.op.text)) (i:=6) (set_at (v:=(.int .i64 e.op.pos)) (i:=5) (set_at (v:=(.int .i64 e.op.up)) (i:=4) (set_at (v:=(.int .i64 e.op.id)) (i:=3) (set_at (v:=(.int .i64 e.op.kind)) (i:=2) (set_at (v:=(.int .i64 e.seq)) (i:=1) (set_at (v:=(.int .i64 e.who)) (i:=0) (hm)))))))
 obtain ⟨k0,k1,k2,k3,k4,k5,k6,kf⟩:=seven_cells hz
 refine bodyPost_ret (v:=.agg (cN e)) ?_ rfl ⟨rfl,?_⟩
 ·simp [results,Tryz.f132,go_sem,k0,k1,k2,k3,k4,k5,k6]
 ·have ha2:w.heap.size≤w.heap.size+1+1:=by omega
  have ha1:w.heap.size≤w.heap.size+1:=by omega
  exact ((((((((((((HE1.out.setCell ha2 _).setCell ha2 _).setCell ha2 _).setCell ha2 _).setCell ha2 _).setCell ha1 _).setCell ha1 _).setCell ha1 _).setCell ha1 _).setCell ha1 _).setCell ha1 _).setCell ha1 _)
set_option maxRecDepth 100000 in
set_option maxHeartbeats 1000000 in
theorem toEntryS_c (A:Option Addr) (c:Nat) (l:List Entry) (w:World) (hr:Rd w A c l) (hb:l.length≤2000000) :
  Calls Tryz.prog 102 #[.slice A l.length c] w fun x w'=>∃ v,x=.returned v∧Own 35 w' w.heap.size v l∧Ext w w':=by
 obtain ⟨i0,hi,hz0,hz1,hz2⟩:=ent_info
 have HR:=Lib.hid hr
 clear hr
 go_enter Tryz.func102,Tryz.ntmps102
 go_wp2_with (first
  |(refine wpList_make_full _ rfl _ _ 24 rfl w.heap.size 35 i0 _ 7 und_ents hi hz0 hz1 .i64 .i64 _ _ l.length rfl rfl rfl rfl (by rw [hz2];omega) (by unfold maxLen;omega) (Nat.le_refl _) ?_;intro w0 hown0 hgent0;have HO:=Lib.hid hown0;have HG:=Lib.hid hgent0;clear hown0 hgent0))
 have hown:Own 35 w0 w.heap.size (.slice (some ⟨w.heap.size,0,none⟩) l.length l.length) (List.replicate l.length ent0):=by
  refine ⟨?_,fun x hx=>by rw [(List.mem_replicate.1 hx).2];show (0:Nat)≤maxLen;exact Nat.zero_le _⟩
  rw [List.length_replicate,←flat_made ent0 l.length #[.int .i64 0,.int .i64 0,.int .i64 0,.int .i64 0,.int .i64 0,.int .i64 0,.string ⟨#[]⟩] rfl]
  exact HO.out
 have HB0:Hid (Ext w w0):=(Below.refl w.heap.size w).grown HG.out (Nat.le_refl _) (by simp)
 have HOW:=Lib.hid hown
 clear hown hi hz0 hz1 hz2 HO HG
 go_loopg [4] l.length (fun gk i wr=>∃ k:Nat,k≤l.length∧Hid (gk=l.length - k)∧i=.int .i64 k∧Hid (Own 35 wr w.heap.size (.slice (some ⟨w.heap.size,0,none⟩) l.length l.length) (l.take k++List.replicate (l.length - k) ent0))∧Hid (Ext w wr))
 case atStart=>exact ⟨0,Nat.zero_le _,rfl,rfl,HOW.out,HB0.out⟩
 case round=>
  obtain ⟨k,hk,HK,rfl,HQ,HB⟩:=hrel
  by_cases hlt:k<l.length
  ·obtain ⟨b,off,rfl,hbl,c0,c1,c2,c3,c4,c5,c6⟩:=ent_at (HR.out.ext HB.out) k hlt
   have HT:=Lib.hid (toEntry_c l[k] wr)
   have hlt':(k:Int)<l.length:=by omega
   go_wp2_with fail
   refine HT.out.mono ?_
   rintro e w1 ⟨rfl,hb1⟩
   have hq1:=HQ.out.below hb1
   have hf1:=hq1.frz
   obtain ⟨v0,v1,v2,v3,v4,v5,v6,y0,y1,y2,y3,y4,y5,y6⟩:=hq1.cells7 k hlt
   have HQ1:=Lib.hid hq1;have HB1:=Lib.hid (HB.out.trans (hb1.mono HB.out.size))
   clear hq1 hb1 c0 c1 c2 c3 c4 c5 c6 HT
   go_wp2_with fail
   go_roundg (l.length - (k+1))
   case measure=>have:=HK.out;omega
   case rel=>
    refine ⟨k+1,by omega,rfl,by go_num,?_,?_⟩
    ·have:=own_put_ent HQ1.out (by rw [List.length_append,List.length_take,List.length_replicate];omega) k hlt l[k] (HR.out.okAt k hlt)
     rw [step_list l ent0 k hlt] at this
     exact this
    ·exact ((((((HB1.out.setCell (Nat.le_refl _) _).setCell (Nat.le_refl _) _).setCell (Nat.le_refl _) _).setCell (Nat.le_refl _) _).setCell (Nat.le_refl _) _).setCell (Nat.le_refl _) _).setCell (Nat.le_refl _) _
  ·have hkl:k=l.length:=by omega
   subst hkl
   have hq:=HQ.out
   rw [List.take_length,Nat.sub_self,List.replicate_zero,List.append_nil] at hq
   have HF:=Lib.hid hq
   clear hq
   go_wp2_with fail
   go_ret
   exact ⟨_,rfl,HF.out,HB.out⟩
set_option maxRecDepth 100000 in
set_option maxHeartbeats 1000000 in
theorem toClient_c (c:Client) (v:Value) (w:World) (h:CV w c v) (hb:c.base.length≤2000000) (hw:c.wait.length≤2000000) :
  Calls Tryz.prog 103 #[v] w fun r w'=>∃ v',r=.returned v'∧CO w' w.heap.size c v'∧Ext w w':=by
 obtain ⟨A1,n1,A2,n2,rfl,h1,h2⟩:=h
 have H1:=Lib.hid h1;have H2:=Lib.hid h2
 clear h1 h2
 go_enter Tryz.func103,Tryz.ntmps103
 go_wp2_with fail
 have h3:=three_all w (.cells (cC c A1 n1 A2 n2) 155) oC0 (.cells #[.int .i64 c.who,.int .i64 c.seen,.slice none 0 0,.slice none 0 0,.int .i64 0,.int .i64 0] 26)
 have hs3:(((w.alloc (.cells (cC c A1 n1 A2 n2) 155)).alloc oC0).alloc (.cells #[.int .i64 c.who,.int .i64 c.seen,.slice none 0 0,.slice none 0 0,.int .i64 0,.int .i64 0] 26)).heap.size=w.heap.size+3:=by simp only [alloc_sz]
 have hE0:=ext3 w (.cells (cC c A1 n1 A2 n2) 155) oC0 (.cells #[.int .i64 c.who,.int .i64 c.seen,.slice none 0 0,.slice none 0 0,.int .i64 0,.int .i64 0] 26)
 refine (toRowS_c A1 n1 c.base _ (H1.out.ext hE0) hb).mono ?_
 rintro e w1 ⟨v1,rfl,hown1,hb1⟩
 obtain ⟨A3,n3,rfl,hr3⟩:=hown1.rd
 have x1:=(hb1.block w.heap.size (by rw [hs3];omega)).trans h3.1
 have y1:=(hb1.block (w.heap.size+1) (by rw [hs3];omega)).trans h3.2.1
 have z1:=(hb1.block (w.heap.size+1+1) (by rw [hs3];omega)).trans h3.2.2
 have hs1:=hb1.size
 rw [hs3] at hs1 hown1
 have hE1:Ext w w1:=hE0.trans (hb1.mono (by rw [hs3];omega))
 have HO1:=Lib.hid hown1;have X1:=Lib.hid x1;have Y1:=Lib.hid y1;have Z1:=Lib.hid z1;have HE1:=Lib.hid hE1
 obtain ⟨c0,c1,c2,c3,c4,c5,cf⟩:=six_cells x1
 obtain ⟨d0,d1,d2,d3,d4,d5,df⟩:=six_cells z1
 have ha2:w.heap.size≤w.heap.size+1+1:=by omega
 have ha1:w.heap.size≤w.heap.size+1:=by omega
 clear h3 hs3 hE0 hown1 hr3 hb1 x1 y1 z1 hE1
 go_wp2_with fail
 have hE2:Ext w (w1.setCell ⟨w.heap.size+1+1,2,none⟩ (.slice A3 c.base.length n3)):=HE1.out.setCell ha2 _
 have HE2:=Lib.hid hE2
 refine (toEntryS_c A2 n2 c.wait _ (H2.out.ext hE2) hw).mono ?_
 rintro e w3 ⟨v3,rfl,hown3,hb3⟩
 obtain ⟨A4,n4,rfl,hr4⟩:=hown3.rd
 have x3:=(hb3.block w.heap.size (by rw [setsz];omega)).trans ((setx (by omega)).trans X1.out)
 have y3:=(hb3.block (w.heap.size+1) (by rw [setsz];omega)).trans ((setx (by omega)).trans Y1.out)
 have z3:=(hb3.block (w.heap.size+1+1) (by rw [setsz];omega)).trans (set_at Z1.out)
 have hs3:=hb3.size
 rw [setsz] at hs3
 have hs2:w.heap.size≤(w1.setCell ⟨w.heap.size+1+1,2,none⟩ (.slice A3 c.base.length n3)).heap.size:=by rw [setsz];omega
 have HO3:=Lib.hid hown3;have HB3:=Lib.hid hb3;have Y3:=Lib.hid y3
 clear c0 c1 c2 c3 c4 c5 cf d0 d1 d2 d3 d4 d5 df
 obtain ⟨c0,c1,c2,c3,c4,c5,cf⟩:=six_cells x3
 obtain ⟨d0,d1,d2,d3,d4,d5,df⟩:=six_cells (v0:=.int .i64 c.who) (v1:=.int .i64 c.seen) (v2:=.slice A3 c.base.length n3) (v3:=.slice none 0 0) (v4:=.int .i64 0) (v5:=.int .i64 0) z3
 obtain ⟨b0,b1,b2,b3,b4,b5,bf⟩:=six_cells y3
 clear hown3 hb3 hr4 hE2 x3 y3 z3
 go_wp2_with fail
 have hm:(((w3.setCell ⟨w.heap.size+1+1,3,none⟩ (.slice A4 c.wait.length n4)).setCell ⟨w.heap.size+1+1,4,none⟩ (.int .i64 c.done)).setCell ⟨w.heap.size+1+1,5,none⟩ (.int .i64 c.made)).heap[w.heap.size+1]?=_:=(setx (by omega)).trans ((setx (by omega)).trans ((setx (by omega)).trans Y3.out))
 have hz:(((((((((w3.setCell ⟨w.heap.size+1+1,3,none⟩ (.slice A4 c.wait.length n4)).setCell ⟨w.heap.size+1+1,4,none⟩ (.int .i64 c.done)).setCell ⟨w.heap.size+1+1,5,none⟩ (.int .i64 c.made)).setCell ⟨w.heap.size+1,0,none⟩ (.int .i64 c.who)).setCell ⟨w.heap.size+1,1,none⟩ (.int .i64 c.seen)).setCell ⟨w.heap.size+1,2,none⟩ (.slice A3 c.base.length n3)).setCell ⟨w.heap.size+1,3,none⟩ (.slice A4 c.wait.length n4)).setCell ⟨w.heap.size+1,4,none⟩ (.int .i64 c.done)).setCell ⟨w.heap.size+1,5,none⟩ (.int .i64 c.made)).heap[w.heap.size+1]?=some (.cells (cC c A3 n3 A4 n4) 26 (0,0)):=set_at (v:=(.int .i64 c.made)) (i:=5) (set_at (v:=(.int .i64 c.done)) (i:=4) (set_at (v:=(.slice A4 c.wait.length n4)) (i:=3) (set_at (v:=(.slice A3 c.base.length n3)) (i:=2) (set_at (v:=(.int .i64 c.seen)) (i:=1) (set_at (v:=(.int .i64 c.who)) (i:=0) (hm))))))
 obtain ⟨k0,k1,k2,k3,k4,k5,kf⟩:=six_cells hz
 refine bodyPost_ret (v:=.agg (cC c A3 n3 A4 n4)) ?_ rfl ?_
 ·simp [results,Tryz.f103,go_sem,k0,k1,k2,k3,k4,k5]
 ·have hfar:∀ k,w.heap.size+3≤k→(((((((((w3.setCell ⟨w.heap.size+1+1,3,none⟩ (.slice A4 c.wait.length n4)).setCell ⟨w.heap.size+1+1,4,none⟩ (.int .i64 c.done)).setCell ⟨w.heap.size+1+1,5,none⟩ (.int .i64 c.made)).setCell ⟨w.heap.size+1,0,none⟩ (.int .i64 c.who)).setCell ⟨w.heap.size+1,1,none⟩ (.int .i64 c.seen)).setCell ⟨w.heap.size+1,2,none⟩ (.slice A3 c.base.length n3)).setCell ⟨w.heap.size+1,3,none⟩ (.slice A4 c.wait.length n4)).setCell ⟨w.heap.size+1,4,none⟩ (.int .i64 c.done)).setCell ⟨w.heap.size+1,5,none⟩ (.int .i64 c.made)).heap[k]?=w3.heap[k]?:=fun k hk=>(setx (by omega)).trans ((setx (by omega)).trans ((setx (by omega)).trans ((setx (by omega)).trans ((setx (by omega)).trans ((setx (by omega)).trans ((setx (by omega)).trans ((setx (by omega)).trans (setx (by omega)))))))))
  have r1:=(HO1.out.of_blocks (w':=(((((((((w3.setCell ⟨w.heap.size+1+1,3,none⟩ (.slice A4 c.wait.length n4)).setCell ⟨w.heap.size+1+1,4,none⟩ (.int .i64 c.done)).setCell ⟨w.heap.size+1+1,5,none⟩ (.int .i64 c.made)).setCell ⟨w.heap.size+1,0,none⟩ (.int .i64 c.who)).setCell ⟨w.heap.size+1,1,none⟩ (.int .i64 c.seen)).setCell ⟨w.heap.size+1,2,none⟩ (.slice A3 c.base.length n3)).setCell ⟨w.heap.size+1,3,none⟩ (.slice A4 c.wait.length n4)).setCell ⟨w.heap.size+1,4,none⟩ (.int .i64 c.done)).setCell ⟨w.heap.size+1,5,none⟩ (.int .i64 c.made))) (fun k hk hkl=>(hfar k hk).trans ((HB3.out.block k (by rw [setsz];exact hkl)).trans (setx (by omega))))).lower (base':=w.heap.size) (by omega)
  have r2:=(HO3.out.of_blocks (w':=(((((((((w3.setCell ⟨w.heap.size+1+1,3,none⟩ (.slice A4 c.wait.length n4)).setCell ⟨w.heap.size+1+1,4,none⟩ (.int .i64 c.done)).setCell ⟨w.heap.size+1+1,5,none⟩ (.int .i64 c.made)).setCell ⟨w.heap.size+1,0,none⟩ (.int .i64 c.who)).setCell ⟨w.heap.size+1,1,none⟩ (.int .i64 c.seen)).setCell ⟨w.heap.size+1,2,none⟩ (.slice A3 c.base.length n3)).setCell ⟨w.heap.size+1,3,none⟩ (.slice A4 c.wait.length n4)).setCell ⟨w.heap.size+1,4,none⟩ (.int .i64 c.done)).setCell ⟨w.heap.size+1,5,none⟩ (.int .i64 c.made))) (fun k hk hkl=>hfar k (by rw [setsz] at hk;omega))).lower (base':=w.heap.size) hs2
  exact ⟨_,rfl,⟨_,_,_,_,rfl,r1,r2⟩,((((((((((HE2.out.trans (HB3.out.mono hs2)).setCell ha2 _).setCell ha2 _).setCell ha2 _).setCell ha1 _).setCell ha1 _).setCell ha1 _).setCell ha1 _).setCell ha1 _).setCell ha1 _)⟩
open Go.RowKit
def SzP (left:Int) (w:World) (x:Ending) (w':World):Prop:=∃ v:Int,x=.returned (.int .i64 v)∧-1≤v∧v≤left∧Ext w w'
set_option maxHeartbeats 400000 in
theorem szRow_c (r:Row) (left:Int) (w:World) (h0:0≤left) (h1:left≤2000000) (hs:r.text.size≤maxLen) :
  Calls Tryz.prog 146 #[.agg #[.int .i64 r.id,.int .i64 r.depth,.string r.text],.int .i64 left] w (SzP left w):=by
 unfold maxLen at hs
 have HE:Hid (Ext w (w.alloc (.cells #[.int .i64 r.id,.int .i64 r.depth,.string r.text] 211))):=(Below.refl _ w).alloc (Nat.le_refl _) _
 have hw:IntKind.i64.wrap (left - (r.text.size:Int))=left - (r.text.size:Int):=by rw [IntKind.wrap_i64];omega
 go_enter Tryz.func146,Tryz.ntmps146
 by_cases hn:left - (r.text.size:Int)<0
 ·go_wp2_with fail
  go_ret
  exact ⟨-1,rfl,by omega,by omega,HE.out⟩
 ·go_wp2_with fail
  go_ret
  exact ⟨_,rfl,by omega,by omega,HE.out⟩
set_option maxHeartbeats 400000 in
theorem szOp_c (r:Op) (left:Int) (w:World) (h0:0≤left) (h1:left≤2000000) (hs:r.text.size≤maxLen) :
  Calls Tryz.prog 145 #[.agg (cO r),.int .i64 left] w (SzP left w):=by
 unfold maxLen at hs
 have HE:Hid (Ext w (w.alloc (.cells (cO r) 187))):=(Below.refl _ w).alloc (Nat.le_refl _) _
 have hw:IntKind.i64.wrap (left - (r.text.size:Int))=left - (r.text.size:Int):=by rw [IntKind.wrap_i64];omega
 go_enter Tryz.func145,Tryz.ntmps145
 by_cases hn:left - (r.text.size:Int)<0
 ·go_wp2_with fail
  go_ret
  exact ⟨-1,rfl,by omega,by omega,HE.out⟩
 ·go_wp2_with fail
  go_ret
  exact ⟨_,rfl,by omega,by omega,HE.out⟩
set_option maxHeartbeats 400000 in
theorem szEntry_c (e:Entry) (left:Int) (w:World) (h0:0≤left) (h1:left≤2000000) (hs:e.op.text.size≤maxLen) :
  Calls Tryz.prog 128 #[.agg (cN e),.int .i64 left] w (SzP left w):=by
 have HE:Hid (Ext w (w.alloc (.cells (cN e) 189))):=(Below.refl _ w).alloc (Nat.le_refl _) _
 have HO:=Lib.hid (szOp_c e.op left (w.alloc (.cells (cN e) 189)) h0 h1 hs)
 go_enter Tryz.func128,Tryz.ntmps128
 go_wp2_with fail
 refine HO.out.mono ?_
 rintro x w1 ⟨v,rfl,hv0,hv1,hb1⟩
 have HB:=Lib.hid (HE.out.trans (hb1.mono HE.out.size))
 clear hb1 HO
 by_cases hn:v<0
 ·go_wp2_with fail
  go_ret
  exact ⟨-1,rfl,by omega,by omega,HB.out⟩
 ·go_wp2_with fail
  go_ret
  exact ⟨v,rfl,by omega,by omega,HB.out⟩
set_option maxRecDepth 100000 in
set_option maxHeartbeats 1000000 in
theorem szRowS_c (A:Option Addr) (c:Nat) (l:List Row) (left:Int) (w:World) (hr:Rd w A c l) (h0:0≤left) (h1:left≤2000000) :
  Calls Tryz.prog 129 #[.slice A l.length c,.int .i64 left] w fun x w'=>∃ v:Int,x=.returned (.int .i64 v)∧-1≤v∧v≤left∧(0≤v→(l.length:Int)≤left)∧Ext w w':=by
 have hm:l.length≤maxLen:=Nat.le_trans hr.1 hr.2.1
 unfold maxLen at hm
 have HR:=Lib.hid hr
 clear hr
 have hw:IntKind.i64.wrap (left - (l.length:Int))=left - (l.length:Int):=by rw [IntKind.wrap_i64];omega
 go_enter Tryz.func129,Tryz.ntmps129
 by_cases hn:left - (l.length:Int)<0
 ·go_wp2_with fail
  go_ret
  exact ⟨-1,rfl,by omega,by omega,by omega,Below.refl _ _⟩
 have hll:(l.length:Int)≤left:=by omega
 go_wp2_with fail
 clear hw
 go_loopg [1,5] l.length (fun gk a i wr=>∃ (k:Nat) (y:Int),k≤l.length∧Hid (gk=l.length - k)∧a=.int .i64 y∧0≤y∧y≤left∧i=.int .i64 k∧Hid (Ext w wr))
 case atStart=>exact ⟨0,left - l.length,Nat.zero_le _,rfl,rfl,by omega,by omega,rfl,Below.refl _ _⟩
 case round=>
  obtain ⟨k,y,hk,HK,rfl,hy0,hy1,rfl,HB⟩:=hrel
  by_cases hlt:k<l.length
  ·obtain ⟨b,off,rfl,hbl,c0,c1,c2⟩:=row_at (HR.out.ext HB.out) k hlt
   have HC:=Lib.hid (szRow_c l[k] y wr hy0 (by omega) (HR.out.okAt k hlt))
   have hlt':(k:Int)<l.length:=by omega
   go_wp2_with fail
   refine HC.out.mono ?_
   rintro x w1 ⟨v,rfl,hv0,hv1,hb1⟩
   have HB1:=Lib.hid (HB.out.trans (hb1.mono HB.out.size))
   clear hb1 HC c0 c1 c2
   by_cases hv:v<0
   ·go_wp2_with fail
    go_ret
    exact ⟨-1,rfl,by omega,by omega,by omega,HB1.out⟩
   ·go_wp2_with fail
    go_roundg (l.length - (k+1))
    case measure=>have:=HK.out;omega
    case rel=>exact ⟨k+1,v,by omega,rfl,rfl,by omega,by omega,by go_num,HB1.out⟩
  ·go_wp2_with fail
   go_ret
   exact ⟨y,rfl,by omega,by omega,fun _=>hll,HB.out⟩
set_option maxRecDepth 100000 in
set_option maxHeartbeats 1000000 in
theorem szEntryS_c (A:Option Addr) (c:Nat) (l:List Entry) (left:Int) (w:World) (hr:Rd w A c l) (h0:0≤left) (h1:left≤2000000) :
  Calls Tryz.prog 93 #[.slice A l.length c,.int .i64 left] w fun x w'=>∃ v:Int,x=.returned (.int .i64 v)∧-1≤v∧v≤left∧(0≤v→(l.length:Int)≤left)∧Ext w w':=by
 have hm:l.length≤maxLen:=Nat.le_trans hr.1 hr.2.1
 unfold maxLen at hm
 have HR:=Lib.hid hr
 clear hr
 have hw:IntKind.i64.wrap (left - (l.length:Int))=left - (l.length:Int):=by rw [IntKind.wrap_i64];omega
 go_enter Tryz.func93,Tryz.ntmps93
 by_cases hn:left - (l.length:Int)<0
 ·go_wp2_with fail
  go_ret
  exact ⟨-1,rfl,by omega,by omega,by omega,Below.refl _ _⟩
 have hll:(l.length:Int)≤left:=by omega
 go_wp2_with fail
 clear hw
 go_loopg [1,5] l.length (fun gk a i wr=>∃ (k:Nat) (y:Int),k≤l.length∧Hid (gk=l.length - k)∧a=.int .i64 y∧0≤y∧y≤left∧i=.int .i64 k∧Hid (Ext w wr))
 case atStart=>exact ⟨0,left - l.length,Nat.zero_le _,rfl,rfl,by omega,by omega,rfl,Below.refl _ _⟩
 case round=>
  obtain ⟨k,y,hk,HK,rfl,hy0,hy1,rfl,HB⟩:=hrel
  by_cases hlt:k<l.length
  ·obtain ⟨b,off,rfl,hbl,c0,c1,c2,c3,c4,c5,c6⟩:=ent_at (HR.out.ext HB.out) k hlt
   have HC:=Lib.hid (szEntry_c l[k] y wr hy0 (by omega) (HR.out.okAt k hlt))
   have hlt':(k:Int)<l.length:=by omega
   go_wp2_with fail
   refine HC.out.mono ?_
   rintro x w1 ⟨v,rfl,hv0,hv1,hb1⟩
   have HB1:=Lib.hid (HB.out.trans (hb1.mono HB.out.size))
   clear hb1 HC c0 c1 c2 c3 c4 c5 c6
   by_cases hv:v<0
   ·go_wp2_with fail
    go_ret
    exact ⟨-1,rfl,by omega,by omega,by omega,HB1.out⟩
   ·go_wp2_with fail
    go_roundg (l.length - (k+1))
    case measure=>have:=HK.out;omega
    case rel=>exact ⟨k+1,v,by omega,rfl,rfl,by omega,by omega,by go_num,HB1.out⟩
  ·go_wp2_with fail
   go_ret
   exact ⟨y,rfl,by omega,by omega,fun _=>hll,HB.out⟩
set_option maxRecDepth 100000 in
theorem szClient_c (c:Client) (v:Value) (left:Int) (w:World) (h:CV w c v) (h0:0≤left) (h1:left≤2000000) :
  Calls Tryz.prog 94 #[v,.int .i64 left] w fun x w'=>∃ v:Int,x=.returned (.int .i64 v)∧-1≤v∧v≤left∧(0≤v→(c.base.length:Int)≤left∧(c.wait.length:Int)≤left)∧Ext w w':=by
 obtain ⟨A1,n1,A2,n2,rfl,hr1,hr2⟩:=h
 have HE:Hid (Ext w (w.alloc (.cells (cC c A1 n1 A2 n2) 155))):=(Below.refl _ w).alloc (Nat.le_refl _) _
 have HX:=Lib.hid (World.alloc_heap_new w (.cells (cC c A1 n1 A2 n2) 155))
 have HC:=Lib.hid (szRowS_c A1 n1 c.base left (w.alloc (.cells (cC c A1 n1 A2 n2) 155)) (hr1.ext HE.out) h0 h1)
 have H2:=Lib.hid hr2
 clear hr1 hr2
 go_enter Tryz.func94,Tryz.ntmps94
 go_wp2_with fail
 refine HC.out.mono ?_
 rintro x w1 ⟨y,rfl,hy0,hy1,hy2,hb1⟩
 have HB:=Lib.hid (HE.out.trans (hb1.mono HE.out.size))
 have hx:=(hb1.block w.heap.size (by rw [alloc_sz];omega)).trans HX.out
 obtain ⟨d0,d1,d2,d3,d4,d5,df⟩:=six_cells hx
 clear hb1 HC hx
 by_cases hn:y<0
 ·go_wp2_with fail
  go_ret
  exact ⟨-1,rfl,by omega,by omega,by omega,HB.out⟩
 have HC:=Lib.hid (szEntryS_c A2 n2 c.wait y w1 (H2.out.ext HB.out) (by omega) (by omega))
 go_wp2_with fail
 refine HC.out.mono ?_
 rintro x w2 ⟨z,rfl,hz0,hz1,hz2,hb2⟩
 have HB2:=Lib.hid (HB.out.trans (hb2.mono HB.out.size))
 clear hb2 HC
 by_cases hm:z<0
 ·go_wp2_with fail
  go_ret
  exact ⟨-1,rfl,by omega,by omega,by omega,HB2.out⟩
 ·go_wp2_with fail
  go_ret
  exact ⟨z,rfl,by omega,by omega,fun _=>⟨hy2 (by omega),by have:=hz2 (by omega);omega⟩,HB2.out⟩
end Go.Proofs.YtecmcjfdaipfcaaGreatDoor
