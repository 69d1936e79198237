/- Many operations of a drawn region at once, under a condition that all operations keep. .. Walks of the reference: somebody's entries; letters that are ok. -/
import Derived.Test.YtecmcjfdaipfcaaGreatDoorYAN
import Derived.Test.YtecmcjfdaipfcaaGreatDoorYAM
import Derived.BigQuiet
import Derived.Laws.Strings
import Derived.Laws.BytesString
import Derived.Laws.Concat
import Derived.BigRegion
import Derived.Deep.RegionLaw
import Derived.Test.YtecmcjfdaipfcaaGreatDoorYAL
namespace Go.Proofs.YtecmcjfdaipfcaaGreatDoor
open Go.RowKit Go.Lib
set_option linter.unusedVariables false
section
variable {P:Program} {ops:Array Oper} {Q:Exit→Act→World→Prop} {md:Region.Mode} {S:World→Prop}
def thOk (md:Region.Mode) (ops:Array Oper):List (Nat × Nat)→Array Bool→Bool
 |[],_=>true
 |(i,d)::r,l=>decide ((ops[i]?).map (·.dst)=some (some d))&&Region.free md ops l i&&(Region.ready md ops l).contains i&&thOk md ops r (l.setIfInBounds i true)
def Th (P:Program) (md:Region.Mode) (ops:Array Oper) (Q:Exit→Act→World→Prop) (S:World→Prop):List (Nat × Nat)→Nat→Array Bool→Act→World→Prop
 |[],k,l,a,w=>wpAnyH P md ops Q S k l a w
 |(i,d)::r,k,l,a,w=>∃ k' o v,k=k'+1∧ops[i]?=some o∧YieldsIf P ops S o v a∧Th P md ops Q S r k' (l.setIfInBounds i true) (a.put (some d) v) w
theorem Th.cons {i d:Nat} {r:List (Nat × Nat)} {k:Nat} {l:Array Bool} {a:Act} {w:World} {o:Oper} {v:Value} (hi:ops[i]?=some o) (hw:Region.wanted o (yielded ops a.tmps)=true)
  (hy:∀ w,S w→(execOp a.eval o).run P w=.ok (.value v) w) (h:Th P md ops Q S r k (l.setIfInBounds i true) (a.put (some d) v) w):Th P md ops Q S ((i,d)::r) (k+1) l a w:=⟨k,o,v,rfl,hi,.inl ⟨hw,hy⟩,h⟩
theorem Th.skip {i d:Nat} {r:List (Nat × Nat)} {k:Nat} {l:Array Bool} {a:Act} {w:World} {o:Oper} (hi:ops[i]?=some o) (hw:Region.wanted o (yielded ops a.tmps)=false)
  (h:Th P md ops Q S r k (l.setIfInBounds i true) (a.put (some d) undef) w):Th P md ops Q S ((i,d)::r) (k+1) l a w:=⟨k,o,_,rfl,hi,.inr ⟨hw,rfl⟩,h⟩
theorem Th.nil {k:Nat} {l:Array Bool} {a:Act} {w:World} (h:wpAnyH P md ops Q S k l a w):Th P md ops Q S [] k l a w:=h
theorem Th.wh (hs:Region.noSelect ops=true) (hQ:∀ c a d v w,Q (.panic c) (a.put d v) w→Q (.panic c) a w):∀ (is:List (Nat × Nat)) {k:Nat} {l:Array Bool} {a:Act} {w:World},thOk md ops is l=true→S w→Th P md ops Q S is k l a w→wpAnyH P md ops Q S k l a w
 |[],_,_,_,_,_,_,h=>h
 |(i,d)::r,k,l,a,w,hc,hS,⟨k',o,v,hk,hi,hy,h⟩=>by
  subst hk
  simp only [thOk,Bool.and_eq_true,decide_eq_true_eq] at hc
  obtain ⟨⟨⟨h0,h1⟩,h2⟩,h5⟩:=hc
  rw [hi] at h0
  have h0:o.dst=some d:=Option.some.inj h0
  rw [←h0] at h
  exact wpAnyH_take hi hs h1 h2 (fun c a w=>hQ c a _ _ w) hy hS (Th.wh hs hQ r h5 hS h)
theorem WH.ts {k:Nat} {l:Array Bool} {a:Act} {w:World} (is:List (Nat × Nat)) (hS:S w) (hc:(Region.noSelect ops&&thOk md ops is l)=true) (h:Th P md ops Q S is k l a w) (hQ:∀ c (a:Act) t w,Q (.panic c) { a with tmps:=t } w→Q (.panic c) a w:=by exact fun _ _ _ _ h=>h):wpAnyH P md ops Q S k l a w:=by
 rw [Bool.and_eq_true] at hc
 exact Th.wh hc.1 (put_tmps hQ) is hc.2 hS h
theorem WH.one (i:Nat) {o:Oper} {k:Nat} {l:Array Bool} {a:Act} {w:World} (hr:Region.ready md ops l=[i]) (ho:ops[i]?=some o)
  (h:∀ K':Act→World→Prop,(∀ a w,S w∧wpAnyH P md ops Q S k (l.setIfInBounds i true) a w→K' a w)→if Region.wanted o (yielded ops a.tmps)=true then Oper.wp P o a w K' Q else K' (a.put o.dst undef) w) :
  wpAnyH P md ops Q S (k+1) l a w:=by
 refine ⟨fun h0=>?_,fun j hj=>?_⟩
 ·rw [hr] at h0;cases h0
 ·rw [hr] at hj
  obtain rfl:j=i:=by simpa using hj
  exact wpOp_step ho h
theorem WH.done {k:Nat} {l:Array Bool} {a:Act} {w:World} (hr:Region.ready md ops l=[]) (h:Q .normal a w):wpAnyH P md ops Q S k l a w:=wpAnyH_done hr h k
theorem wp_region_H (S:World→Prop) {id:Nat} {a:Act} {w:World} (hm:P.follows .mixedOrders=true)
  (h:wpAnyH P .any ops Q S ops.size (Array.replicate ops.size false) a w.drew):(Code.region id ops true).wp P Q a w:=wp_region_held hm h
end
open Go.RowKit Go.Lib
set_option linter.unusedSimpArgs false
theorem madesOk_append (who:Int) (b:List Entry):∀ (a:List Entry) (m:Int),madesOk who m (a++b)=(madesOk who m a).bind fun x=>madesOk who x b
 |[],m=>rfl
 |e::a,m=>by
  simp only [List.cons_append,madesOk]
  split
  ·split
   ·exact madesOk_append who b a _
   ·rfl
  ·exact madesOk_append who b a _
theorem madesOk_next {who:Int} {l:List Entry} {k:Nat} (hk:k<l.length) {x:Int} (h:madesOk who 0 (l.take k)=some x):madesOk who 0 (l.take (k+1))=if l[k].op.kind=1 then (if l[k].op.id=rowMade who (x+1) then some (x+1) else none) else some x:=by
 rw [List.take_succ_eq_append_getElem hk,madesOk_append,h];rfl
theorem madesOk_none {who:Int} {l:List Entry} {k:Nat} (h:madesOk who 0 (l.take k)=none):madesOk who 0 l=none:=by
 rw [←List.take_append_drop k l,madesOk_append,h];rfl
theorem logOk_take {l:List Entry} (h:logOk l=true) (k:Nat):logOk (l.take k)=true:=by
 rw [logOk_iff] at h ⊢
 refine ⟨by rw [List.length_take];omega,fun j hj=>?_⟩
 rw [List.length_take] at hj
 have:=h.2 j (by omega)
 rw [goodAt_lt _ _ (by rw [List.length_take];omega)]
 rw [goodAt_lt _ _ (by omega)] at this
 rw [List.take_take,Nat.min_eq_left (by omega:j≤k)]
 simpa using this
theorem logTree_take {l:List Entry} (h:logOk l=true) (k:Nat):logTree (l.take k)=treeOf (l.take k):=by unfold logTree;rw [logOk_take h];rfl
set_option maxRecDepth 100000 in
set_option maxHeartbeats 8000000 in
theorem clientFits_c (L:Option Addr) (ln:Nat) (log:List Entry) (safe:Int) (up:Bool) (c:Client) (A1:Option Addr) (n1:Nat) (A2:Option Addr) (n2:Nat) (who:Int) (w:World) (ht:Tab w) (hr:Rd w L ln log) (hb1:Rd w A1 n1 c.base) (hb2:Rd w A2 n2 c.wait)
  (hl:logOk log=true) (h0:0≤safe) (h1:safe≤log.length) (hw:i64 who) :
  Calls Tryz.prog 62 #[.agg #[.slice L log.length ln,.int .i64 safe,.bool up],.agg (cC c A1 n1 A2 n2),.int .i64 who] w fun x w'=>x=.returned (.bool (cliFits log safe who c))∧Ext w w':=by
 have hx:=two_new w (.cells #[.slice L log.length ln,.int .i64 safe,.bool up] 58) (oC c A1 n1 A2 n2)
 have hE:=ext2 w (.cells #[.slice L log.length ln,.int .i64 safe,.bool up] 58) (oC c A1 n1 A2 n2)
 have HX1:=Lib.hid hx.1;have HX2:=Lib.hid hx.2;have HE:=Lib.hid hE;have HT:=Lib.hid (ht.below hE ht.pos);have HL:=Lib.hid (hr.ext hE);have HB1:=Lib.hid (hb1.ext hE);have HQW:=Lib.hid (hb2.ext hE);have HLO:=Lib.hid hl;have HWH:=Lib.hid hw
 have hll:=((logOk_iff _).1 hl).1
 clear hE ht hr hb1 hb2 hl hw
 generalize hW:((w.alloc (.cells #[.slice L log.length ln,.int .i64 safe,.bool up] 58)).alloc (oC c A1 n1 A2 n2))=W at *
 have hs:∀ w':World,Ext W w'→w'.cell? ⟨w.heap.size,0,none⟩=some (.slice L log.length ln)∧w'.cell? ⟨w.heap.size,1,none⟩=some (.int .i64 safe)∧w'.cell? ⟨w.heap.size,2,none⟩=some (.bool up)∧w'.cell? ⟨w.heap.size+1,0,none⟩=some (.int .i64 c.who)∧w'.cell? ⟨w.heap.size+1,1,none⟩=some (.int .i64 c.seen) ∧
   w'.cell? ⟨w.heap.size+1,2,none⟩=some (.slice A1 c.base.length n1)∧w'.cell? ⟨w.heap.size+1,3,none⟩=some (.slice A2 c.wait.length n2)∧w'.cell? ⟨w.heap.size+1,4,none⟩=some (.int .i64 c.done)∧w'.cell? ⟨w.heap.size+1,5,none⟩=some (.int .i64 c.made):=fun w' h=>by
  obtain ⟨b0,b1,b2,-⟩:=tri_cells ((h.block _ (blk_lt HX1.out)).trans HX1.out)
  obtain ⟨c0,c1,c2,c3,c4,c5,-⟩:=six_cells ((h.block _ (blk_lt HX2.out)).trans HX2.out)
  exact ⟨b0,b1,b2,c0,c1,c2,c3,c4,c5⟩
 have HS:=Lib.hid hs
 have HCO:=Lib.hid (clientOk_c c (.agg (cC c A1 n1 A2 n2)) W HT.out ⟨A1,n1,A2,n2,rfl,HB1.out,HQW.out⟩)
 clear hx hs
 have q0:(clientOk c=false∨clientOk c=true∧(c.who≠who∨c.who=who∧safe<c.seen))∨clientOk c=true∧c.who=who∧c.seen≤safe:=by
  cases clientOk c
  ·exact .inl (.inl rfl)
  ·by_cases a:c.who=who
   ·by_cases b:c.seen≤safe
    ·exact .inr ⟨rfl,a,b⟩
    ·exact .inl (.inr ⟨rfl,.inr ⟨a,by omega⟩⟩)
   ·exact .inl (.inr ⟨rfl,.inl a⟩)
 rcases q0 with q0 | ⟨hok,hwho,hseen⟩
 ·have HF:Hid (cliFits log safe who c=false):=by
   show _=_
   unfold cliFits
   rcases q0 with q | ⟨_,q | ⟨_,q⟩⟩
   ·rw [q];rfl
   ·rw [decide_eq_false q];simp
   ·rw [decide_eq_false (by omega:¬c.seen≤safe)];simp
  have q1:clientOk c=false∨clientOk c=true∧((c.who != who)=true∨(c.who != who)=false∧safe<c.seen):=q0.imp id fun h=>⟨h.1,h.2.imp (fun h=>by simp [h]) fun h=>⟨by simp [h.1],h.2⟩⟩
  clear q0
  rcases q1 with q | ⟨q,p | ⟨p,o⟩⟩
  all_goals
   rw [q] at HCO
   clear q
   go_enter Tryz.func62,Tryz.ntmps62
   obtain ⟨b0,b1,b2,c0,c1,c2,c3,c4,c5⟩:=HS.out W (Below.refl _ _)
   subst hW
   go_wp2_with fail
   refine HCO.out.mono ?_;rintro x w1 ⟨rfl,hb⟩
   have HB:=Lib.hid (HE.out.trans (hb.mono HE.out.size))
   clear b0 b1 b2 c0 c1 c2 c3 c4 c5
   obtain ⟨b0,b1,b2,c0,c1,c2,c3,c4,c5⟩:=HS.out w1 hb
   clear hb HCO
   go_wp2_with fail
   go_ret
   exact ⟨by rw [HF.out];rfl,HB.out⟩
 ·rw [hok] at HCO
  obtain ⟨-,hs0,hs40,htr,hd0,hd1,hwl,hm0,hm6,-⟩:=clientOk_parts hok
  obtain ⟨i,hi⟩:∃ i:Nat,(i:Int)=c.seen:=⟨c.seen.toNat,by omega⟩
  have hcap:=HL.out.1
  have hsl:∀ W:World,(Instr.slice 24 (.slice L log.length ln) none (some (.int .i64 c.seen)) none).run Tryz.prog W=.ok (.slice (fromA L ln 0 7) i ln) W:=by rw [←hi];exact fun W=>run_head el_ent L log.length ln i (by omega) W
  have hli:(log.take i).length=i:=by rw [List.length_take];omega
  have HF:Hid (cliFits log safe who c=(decide (c.base=treeOf (log.take i))&&decide (c.done=cntW (log.take i) who)&&decide (madesOk who 0 (ownOf log c)=some c.made)&&(mine log who).all fun e=>decide (e∈ownOf log c))):=by
   show _=_
   unfold cliFits
   rw [hok,decide_eq_true hwho,decide_eq_true hseen,←hi];rfl
  have hLT:∀ W':World,Ext W W'→Calls Tryz.prog 107 #[.slice (fromA L ln 0 7) i ln] W' fun e w'=>∃ vA vn,e=.returned (.slice vA (treeOf (log.take i)).length vn)∧Rd w' vA vn (treeOf (log.take i))∧Ext W' w':=fun W' h=>by
   have hc:=logTree_c (fromA L ln 0 7) ln (log.take i) W' (HT.out.below h HT.out.pos) ((HL.out.ext h).head i)
   rw [hli,logTree_take HLO.out] at hc
   exact hc.mono fun e w' ⟨v,he,ho,hb⟩=>by
    obtain ⟨vA,vn,rfl,hv⟩:=ho.rd
    exact ⟨vA,vn,he,hv,hb⟩
  have hOC:∀ W':World,Ext W W'→Calls Tryz.prog 108 #[.slice (fromA L ln 0 7) i ln,.int .i64 who] W' fun e w'=>∃ vA vn,e=.returned (.slice vA (cntW (log.take i) who) vn)∧Ext W' w':=fun W' h=>by
   have hc:=ofClient_c (fromA L ln 0 7) ln (log.take i) who W' ((HL.out.ext h).head i) (by omega)
   rw [hli] at hc
   exact hc.mono fun e w' ⟨v,he,ho,hb⟩=>by
    obtain ⟨vA,vn,rfl,hv⟩:=ho.rd
    exact ⟨vA,vn,by rw [he,mine_cnt],hb⟩
  have HLT:=Lib.hid hLT;have HOC:=Lib.hid hOC;have HHI:=Lib.hid hi;have HLI:=Lib.hid hli;have HWL:=Lib.hid hwl
  have p1:(c.who != who)=false:=by simp [hwho]
  have p2:¬safe<c.seen:=by omega
  have HHW:=Lib.hid hwho
  clear hok hwho htr hd0 hd1 hwl hm0 hm6 hLT hOC hi hli hcap
  go_enter Tryz.func62,Tryz.ntmps62
  obtain ⟨b0,b1,b2,c0,c1,c2,c3,c4,c5⟩:=HS.out W (Below.refl _ _)
  subst hW
  go_wp2_with fail
  refine HCO.out.mono ?_;rintro x w1 ⟨rfl,hb⟩
  clear b0 b1 b2 c0 c1 c2 c3 c4 c5
  obtain ⟨b0,b1,b2,c0,c1,c2,c3,c4,c5⟩:=HS.out w1 hb
  have HB:=Lib.hid (Below.drew hb)
  clear hb HCO
  go_wp2_with fail
  have HS1:=Lib.hid (fun w' (h:Ext w1.drew w')=>HS.out w' (HB.out.trans (h.mono HB.out.size)))
  clear b0 b1 b2 c0 c1 c2 c3 c4 c5
  refine wp_region_H (fun w'=>Ext w1.drew w') (by kernel_rfl) ?_
  refine WH.ts [(0,29),(1,30),(2,31),(3,32),(4,33),(5,34),(6,35)] (Below.refl _ _) (by kernel_rfl) ?_
  iterate 7 (apply Th.cons rfl rfl;(focus (rintro w s;obtain ⟨s0,s1,s2,s3,s4,s5,s6,s7,s8⟩:=HS1.out _ s;go_simp;try with_reducible rfl));try simp only [Act.put,List.setIfInBounds_toArray,List.set_cons_zero,List.set_cons_succ])
  apply Th.nil
  refine WH.one 7 (by kernel_rfl) rfl (fun K hK=>?_)
  have HKK:=Lib.hid hK;clear hK
  go_simp
  refine (HLT.out w1.drew HB.out).mono ?_
  rintro x w2 ⟨vA,vn,rfl,hv,hb⟩
  refine HKK.out _ _ ⟨hb,?_⟩
  have HB2:=Lib.hid hb;have HV:=Lib.hid hv
  clear HKK K hb hv HLT
  try simp only [Act.put,List.setIfInBounds_toArray,List.set_cons_zero,List.set_cons_succ]
  refine WH.one 8 (by kernel_rfl) rfl (fun K hK=>?_)
  have HKK:=Lib.hid hK;clear hK
  go_simp
  refine (equal_rows A1 n1 c.base vA vn (treeOf (log.take i)) w2 (HB1.out.ext (HB.out.trans (HB2.out.mono HB.out.size))) HV.out).mono ?_
  rintro x w3 ⟨rfl,hb⟩
  have HB3:=Lib.hid (HB2.out.trans (hb.mono HB2.out.size))
  refine HKK.out _ _ ⟨HB3.out,?_⟩
  clear HKK K hb HV
  cases hbase:decide (c.base=treeOf (log.take i))
  ·rw [hbase,Bool.false_and] at HF
   clear hbase
   try simp only [Act.put,List.setIfInBounds_toArray,List.set_cons_zero,List.set_cons_succ]
   refine WH.ts [(9,38),(10,39),(11,40),(12,41),(13,42),(14,43),(15,44),(16,45),(17,46),(18,47),(19,48),(20,49),(21,50),(22,51)] HB3.out (by kernel_rfl) ?_
   iterate 2 (apply Th.cons rfl rfl;(focus (rintro w s;obtain ⟨s0,s1,s2,s3,s4,s5,s6,s7,s8⟩:=HS1.out _ s;go_simp;try with_reducible rfl));try simp only [Act.put,List.setIfInBounds_toArray,List.set_cons_zero,List.set_cons_succ])
   iterate 11 (apply Th.skip rfl rfl;try simp only [Act.put,List.setIfInBounds_toArray,List.set_cons_zero,List.set_cons_succ])
   apply Th.cons rfl rfl;(focus (rintro w s;obtain ⟨s0,s1,s2,s3,s4,s5,s6,s7,s8⟩:=HS1.out _ s;go_simp;try with_reducible rfl));try simp only [Act.put,List.setIfInBounds_toArray,List.set_cons_zero,List.set_cons_succ]
   apply Th.nil
   refine WH.done (by kernel_rfl) ?_
   go_wp2_with fail
   go_ret
   exact ⟨by rw [HF.out];rfl,HE.out.trans ((HB.out.trans (HB3.out.mono HB.out.size)).mono HE.out.size)⟩
  rw [hbase,Bool.true_and] at HF
  clear hbase
  try simp only [Act.put,List.setIfInBounds_toArray,List.set_cons_zero,List.set_cons_succ]
  refine WH.ts [(9,38),(10,39),(11,40),(12,41),(13,42),(14,43),(15,44),(16,45),(17,46),(18,47)] HB3.out (by kernel_rfl) ?_
  iterate 10 (apply Th.cons rfl rfl;(focus (rintro w s;obtain ⟨s0,s1,s2,s3,s4,s5,s6,s7,s8⟩:=HS1.out _ s;go_simp;try with_reducible rfl));try simp only [Act.put,List.setIfInBounds_toArray,List.set_cons_zero,List.set_cons_succ])
  apply Th.nil
  refine WH.one 19 (by kernel_rfl) rfl (fun K hK=>?_)
  have HKK:=Lib.hid hK;clear hK
  go_simp
  refine (HOC.out w3 (HB.out.trans (HB3.out.mono HB.out.size))).mono ?_
  rintro x w4 ⟨vA,vn,rfl,hb⟩
  have HB4:=Lib.hid (HB3.out.trans (hb.mono HB3.out.size))
  refine HKK.out _ _ ⟨HB4.out,?_⟩
  clear HKK K hb HOC
  try simp only [Act.put,List.setIfInBounds_toArray,List.set_cons_zero,List.set_cons_succ]
  refine WH.ts [(20,49),(21,50),(22,51)] HB4.out (by kernel_rfl) ?_
  iterate 3 (apply Th.cons rfl rfl;(focus (rintro w s;obtain ⟨s0,s1,s2,s3,s4,s5,s6,s7,s8⟩:=HS1.out _ s;go_simp;try with_reducible rfl));try simp only [Act.put,List.setIfInBounds_toArray,List.set_cons_zero,List.set_cons_succ])
  apply Th.nil
  refine WH.done (by kernel_rfl) ?_
  by_cases hdone:c.done=cntW (log.take i) who
  ·have p3:(c.done != (cntW (log.take i) who:Int))=false:=by simp [hdone]
   rw [decide_eq_true hdone,Bool.true_and] at HF
   have HW4:=Lib.hid (HB.out.trans (HB4.out.mono HB.out.size))
   have hn80:(ownOf log c).length≤80:=by
    unfold ownOf
    rw [List.length_append]
    have h1:=mine_len (log.take c.seen.toNat) c.who
    rw [List.length_take] at h1
    have:=HWL.out;omega
   have hwi:=HWH.out
   unfold i64 at hwi
   have HOE:=Lib.hid (ownEntries_c L ln log safe up c A1 n1 A2 n2 w4 (HL.out.ext HW4.out) (HQW.out.ext HW4.out) hs0 (by omega) (by omega) (by have:=HWL.out;omega))
   obtain ⟨b0,b1,b2,c0,c1,c2,c3,c4,c5⟩:=HS.out w4 HW4.out
   clear hdone hsl HS1
   go_wp2_with fail
   refine HOE.out.mono ?_;rintro x w5 ⟨v,rfl,ho,hb⟩
   obtain ⟨oA,on,rfl,hv⟩:=ho.rd
   have HO:=Lib.hid hv;have HW5:=Lib.hid (HW4.out.trans (hb.mono HW4.out.size))
   clear HOE ho hb hv b0 b1 b2 c0 c1 c2 c3 c4 c5 HB HB3 HB4 HW4 HLI
   generalize ownOf log c=own at *
   go_wp2_with fail
   go_loopg [8,57] own.length (fun gk mv i wr=>∃ (k:Nat) (m:Int),k≤own.length∧Hid (gk=own.length - k)∧mv=.int .i64 m∧i=.int .i64 k∧0≤m∧m≤k∧Hid (madesOk who 0 (own.take k)=some m)∧Hid (Ext w5 wr))
   case atStart=>exact ⟨0,0,Nat.zero_le _,rfl,rfl,rfl,by omega,by omega,rfl,Below.refl _ _⟩
   case round=>
    obtain ⟨k,m,hk,HK,rfl,rfl,hm0,hm1,HG,HBW⟩:=hrel
    by_cases hlt:k<own.length
    ·obtain ⟨b,off,rfl,hbl,e0,e1,e2,e3,e4,e5,e6⟩:=ent_at (HO.out.ext HBW.out) k hlt
     have HN:=Lib.hid (madesOk_next hlt HG.out)
     have HB9:Hid (Ext w5 (wr.alloc (oN own[k]))):=HBW.out.alloc HBW.out.size _
     by_cases hkind:own[k].op.kind=1
     ·have q1:(own[k].op.kind == 1)=true:=by simp [hkind]
      rw [if_pos hkind] at HN
      have hwm:IntKind.i64.wrap (m+1)=m+1:=by rw [IntKind.wrap_i64];omega
      have HRM:=Lib.hid (fun W=>rowMade_c who (m+1) W HWH.out (by unfold i64;omega))
      clear hkind
      by_cases hid:own[k].op.id=rowMade who (m+1)
      ·have q2:(own[k].op.id != rowMade who (m+1))=false:=by simp [hid]
       rw [if_pos hid] at HN
       clear hid
       go_wp2_with fail
       go_quiet ((go_at_call 36;exact Calls.quiet_of_same (HRM.out _)))
       go_wp2_with fail
       go_roundg (own.length - (k+1))
       case measure=>have:=HK.out;omega
       case rel=>exact ⟨k+1,m+1,by omega,rfl,rfl,by go_num,by omega,by omega,HN.out,Ext.drewN HB9.out _⟩
      ·have q2:(own[k].op.id != rowMade who (m+1))=true:=by simp [hid]
       rw [if_neg hid] at HN
       have HF2:Hid (cliFits log safe who c=false):=by show _=_;rw [HF.out,madesOk_none HN.out];simp
       clear hid HN
       go_wp2_with fail
       go_quiet ((go_at_call 36;exact Calls.quiet_of_same (HRM.out _)))
       go_wp2_with fail
       go_ret
       exact ⟨by rw [HF2.out];rfl,HE.out.trans ((HW5.out.trans ((Ext.drewN HB9.out _).mono HW5.out.size)).mono HE.out.size)⟩
     ·have q1:(own[k].op.kind == 1)=false:=by simp [hkind]
      rw [if_neg hkind] at HN
      clear hkind
      go_wp2_with fail
      go_roundg (own.length - (k+1))
      case measure=>have:=HK.out;omega
      case rel=>exact ⟨k+1,m,by omega,rfl,rfl,by go_num,by omega,by omega,HN.out,HB9.out⟩
    ·have hkl:k=own.length:=by omega
     subst hkl
     rw [List.take_length] at HG
     have HW6:=Lib.hid (HW5.out.trans (HBW.out.mono HW5.out.size))
     rw [HG.out] at HF
     have hli:¬((own.length:Int)<own.length):=by omega
     obtain ⟨b0,b1,b2,c0,c1,c2,c3,c4,c5⟩:=HS.out wr HW6.out
     by_cases hmade:m=c.made
     ·have q1:(m != c.made)=false:=by simp [hmade]
      have HF2:Hid (cliFits log safe who c=(mine log who).all fun e=>decide (e∈own)):=by show _=_;rw [HF.out,hmade];simp
      have HOL:=Lib.hid (ofClient_c L ln log who wr (HL.out.ext HW6.out) (by omega))
      have HO6:=Lib.hid (HO.out.ext HBW.out)
      clear hmade HG HF
      go_wp2_with fail
      refine HOL.out.mono ?_;rintro x w7 ⟨v,rfl,ho,hb⟩
      obtain ⟨mA,mn,rfl,hv⟩:=ho.rd
      have HM:=Lib.hid hv;have HW7:=Lib.hid (HW6.out.trans (hb.mono HW6.out.size));have HO7:=Lib.hid (HO6.out.ext hb)
      have hnl:=mine_len log who
      clear HOL ho hb hv b0 b1 b2 c0 c1 c2 c3 c4 c5 HO6 HW6 HBW
      generalize mine log who=ms at *
      go_wp2_with fail
      go_loopg [84] ms.length (fun gk i wr=>∃ k:Nat,k≤ms.length∧Hid (gk=ms.length - k)∧i=.int .i64 k∧Hid (∀ j (hj:j<ms.length),j<k→ms[j]∈own)∧Hid (Ext w7 wr))
      case atStart=>exact ⟨0,Nat.zero_le _,rfl,rfl,fun j _ h=>by omega,Below.refl _ _⟩
      case round=>
       obtain ⟨k,hk,HK,rfl,HG,HBW⟩:=hrel
       by_cases hlt:k<ms.length
       ·obtain ⟨b,off,rfl,hbl,e0,e1,e2,e3,e4,e5,e6⟩:=ent_at (HM.out.ext HBW.out) k hlt
        have HB9:Hid (Ext w7 (wr.alloc (oN ms[k]))):=HBW.out.alloc HBW.out.size _
        have HC:=Lib.hid (contains_ent oA on own ms[k] (wr.alloc (oN ms[k])) (HO7.out.ext HB9.out))
        by_cases hin:ms[k]∈own
        ·rw [decide_eq_true hin] at HC
         have HIN:=Lib.hid hin
         clear hin
         go_wp2_with fail
         refine HC.out.mono ?_;rintro x w8 ⟨rfl,hb⟩
         have HB8:=Lib.hid (HB9.out.trans (hb.mono HB9.out.size));clear hb HC
         go_wp2_with fail
         go_roundg (ms.length - (k+1))
         case measure=>have:=HK.out;omega
         case rel=>
          refine ⟨k+1,by omega,rfl,by go_num,Lib.hid (fun j hj hjk=>?_),HB8.out⟩
          rcases Nat.lt_or_eq_of_le (Nat.le_of_lt_succ hjk) with h | h
          ·exact HG.out j hj h
          ·subst h;exact HIN.out
        ·rw [decide_eq_false hin] at HC
         have HF3:Hid (cliFits log safe who c=false):=by
          show _=_
          rw [HF2.out,List.all_eq_false]
          exact ⟨ms[k],List.getElem_mem hlt,by simpa using hin⟩
         clear hin
         go_wp2_with fail
         refine HC.out.mono ?_;rintro x w8 ⟨rfl,hb⟩
         have HB8:=Lib.hid (HB9.out.trans (hb.mono HB9.out.size));clear hb HC
         go_wp2_with fail
         go_ret
         exact ⟨by rw [HF3.out];rfl,HE.out.trans ((HW7.out.trans (HB8.out.mono HW7.out.size)).mono HE.out.size)⟩
       ·have HF3:Hid (cliFits log safe who c=true):=by
         show _=_
         rw [HF2.out,List.all_eq_true]
         intro e he
         obtain ⟨j,hj,rfl⟩:=List.getElem_of_mem he
         exact decide_eq_true (HG.out j hj (by omega))
        have hli:¬((k:Int)<ms.length):=by omega
        go_wp2_with fail
        go_ret
        exact ⟨by rw [HF3.out];rfl,HE.out.trans ((HW7.out.trans (HBW.out.mono HW7.out.size)).mono HE.out.size)⟩
     ·have q1:(m != c.made)=true:=by simp [hmade]
      have HF2:Hid (cliFits log safe who c=false):=by show _=_;rw [HF.out];simp [hmade]
      clear hmade HG HF
      go_wp2_with fail
      go_ret
      exact ⟨by rw [HF2.out];rfl,HE.out.trans (HW6.out.mono HE.out.size)⟩
  ·have p3:(c.done != (cntW (log.take i) who:Int))=true:=by simp [hdone]
   rw [decide_eq_false hdone,Bool.false_and,Bool.false_and] at HF
   clear hdone
   go_wp2_with fail
   go_ret
   exact ⟨by rw [HF.out];rfl,HE.out.trans ((HB.out.trans (HB4.out.mono HB.out.size)).mono HE.out.size)⟩
open Go.RowKit Go.Lib
structure WR (W:World) (w:Wd) (L:Option Addr) (ln:Nat) (C:Option Addr) (cc:Nat) (N:Option Addr) (nc:Nat) (xs:List RC) (ys:List RL):Prop where
 log:RdT 35 W L ln w.log
 cls:ClsR W C cc xs w.cls
 nrd:RdT 104 W N nc ys
 nets:All2 (LtOk W) ys w.nets
theorem WR.keep {W W':World} {w:Wd} {L C N:Option Addr} {ln cc nc:Nat} {xs:List RC} {ys:List RL} (h:WR W w L ln C cc N nc xs ys) (hk:KeepT W W'):WR W' w L ln C cc N nc xs ys:=
 ⟨h.log.keep hk (.inr (.inl rfl)),h.cls.keep hk,h.nrd.keep hk (.inr (.inr (.inr rfl))),h.nets.imp fun _ _ h=>h.keep hk⟩
theorem WR.ext {W W':World} {w:Wd} {L C N:Option Addr} {ln cc nc:Nat} {xs:List RC} {ys:List RL} (h:WR W w L ln C cc N nc xs ys) (hb:Ext W W'):WR W' w L ln C cc N nc xs ys:=h.keep (KeepT.ext hb)
theorem WR.net {W:World} {w:Wd} {L C N:Option Addr} {ln cc nc:Nat} {xs:List RC} {ys:List RL} (h:WR W w L ln C cc N nc xs ys) (k:Nat) (hk:k<w.nets.length) :
  ∃ b off A n,N=some ⟨b,off,none⟩∧b<W.heap.size∧RdT 35 W A n w.nets[k].list∧W.cell? ⟨b,off+k*3,none⟩=some (.int .i64 w.nets[k].dst)∧W.cell? ⟨b,off+k*3+1,none⟩=some (.int .i64 w.nets[k].frm)∧W.cell? ⟨b,off+k*3+2,none⟩=some (.slice A w.nets[k].list.length n):=by
 have hx:k<ys.length:=by rw [h.nets.1];exact hk
 obtain ⟨b,off,e,hb,c0,c1,c2⟩:=rl_at h.nrd.1 k hx
 obtain ⟨A,n,e2,h1⟩:=h.nets.2 k hx hk
 rw [e2] at c0 c1 c2
 exact ⟨b,off,A,n,e,hb,h1,c0,c1,c2⟩
def WNum (w:Wd):Prop:=i64 w.safe∧∀ m∈w.nets,i64 m.frm∧i64 m.dst
theorem cli_seen {w:Wd} (hs:w.safe≤w.log.length) (h3:w.cls.length=3) (h:∀ j,j<3→cliAt w j=true):∀ c∈w.cls,0≤c.seen∧c.seen≤w.log.length∧c.wait.length≤40:=fun c hc=>by
 obtain ⟨j,hj,rfl⟩:=List.getElem_of_mem hc
 have h9:=h j (by omega)
 unfold cliAt at h9
 rw [List.getElem?_eq_getElem hj] at h9
 simp only [cliFits,Bool.and_eq_true,decide_eq_true_eq] at h9
 have h8:=clientOk_parts h9.1.1.1.1.1.1
 have h7:=h9.1.1.1.1.2
 omega
abbrev wA (w:Wd) (L:Option Addr) (ln:Nat) (C:Option Addr) (xl cc:Nat) (N:Option Addr) (yl nc:Nat):Array Value:=#[.slice L w.log.length ln,.int .i64 w.safe,.bool w.up,.slice C xl cc,.slice N yl nc]
set_option maxRecDepth 100000 in
set_option maxHeartbeats 8000000 in
theorem worldOk_c (wd:Wd) (L:Option Addr) (ln:Nat) (C:Option Addr) (cc:Nat) (N:Option Addr) (nc:Nat) (xs:List RC) (ys:List RL) (w:World) (ht:Tab w) (hr:WR w wd L ln C cc N nc xs ys) (hn:WNum wd) :
  Calls Tryz.prog 24 #[.agg (wA wd L ln C xs.length cc N ys.length nc)] w fun x w'=>x=.returned (.bool (worldOk wd))∧Ext w w':=by
 have hx:=World.alloc_heap_new w (.cells (wA wd L ln C xs.length cc N ys.length nc) 62)
 have hE:Ext w (w.alloc (.cells (wA wd L ln C xs.length cc N ys.length nc) 62)):=(Below.refl _ w).alloc (Nat.le_refl _) _
 have HX:=Lib.hid hx;have HE:=Lib.hid hE;have HT:=Lib.hid (ht.below hE ht.pos);have HR:=Lib.hid (hr.ext hE);have HN:=Lib.hid hn
 have HXL:=Lib.hid hr.cls.cls.1;have HYL:=Lib.hid hr.nets.1
 have HSO:=Lib.hid (serverOk_c L ln wd.log wd.safe wd.up _ HT.out HR.out.log.1)
 clear hE ht hr hn
 generalize hW:(w.alloc (.cells (wA wd L ln C xs.length cc N ys.length nc) 62))=W at *
 have hs:∀ w':World,Ext W w'→w'.cell? ⟨w.heap.size,0,none⟩=some (.slice L wd.log.length ln)∧w'.cell? ⟨w.heap.size,1,none⟩=some (.int .i64 wd.safe)∧w'.cell? ⟨w.heap.size,2,none⟩=some (.bool wd.up)∧w'.cell? ⟨w.heap.size,3,none⟩=some (.slice C xs.length cc)∧w'.cell? ⟨w.heap.size,4,none⟩=some (.slice N ys.length nc):=fun w' h=>by
  obtain ⟨b0,b1,b2,b3,b4,-⟩:=five_cells ((h.block _ (blk_lt HX.out)).trans HX.out)
  exact ⟨b0,b1,b2,b3,b4⟩
 have HS:=Lib.hid hs
 clear hx hs
 by_cases hg:(logOk wd.log&&decide (0≤wd.safe∧wd.safe≤wd.log.length))=true∧wd.cls.length=3∧wd.nets.length≤12
 ·obtain ⟨hg1,hg2,hg3⟩:=hg
  rw [hg1] at HSO
  have HF:Hid (worldOk wd=((List.range 3).all (cliAt wd)&&wd.nets.all (letFits wd.log wd.safe wd.cls))):=by
   show _=_
   unfold worldOk
   rw [hg1,decide_eq_true hg2,decide_eq_true hg3];rfl
  rw [Bool.and_eq_true,decide_eq_true_eq] at hg1
  obtain ⟨hlog,hs0,hs1⟩:=hg1
  have q1:((xs.length:Int) != 3)=false:=by rw [HXL.out,hg2];rfl
  have q2:¬(12:Int)<ys.length:=by have:=HYL.out;omega
  have HG2:=Lib.hid hg2;have HG3:=Lib.hid hg3
  clear hg2 hg3
  have HLO:=Lib.hid hlog
  have hll:=((logOk_iff _).1 hlog).1
  clear hlog
  go_enter Tryz.func24,Tryz.ntmps24
  obtain ⟨b0,b1,b2,b3,b4⟩:=HS.out W (Below.refl _ _)
  subst hW
  go_wp2_with fail
  refine HSO.out.mono ?_;rintro x w1 ⟨rfl,hb⟩
  clear b0 b1 b2 b3 b4
  obtain ⟨b0,b1,b2,b3,b4⟩:=HS.out w1 hb
  have HB:=Lib.hid hb
  clear hb HSO
  go_wp2_with fail
  clear b0 b1 b2 b3 b4
  go_loopg [26] xs.length (fun gk i wr=>∃ k:Nat,k≤xs.length∧Hid (gk=xs.length - k)∧i=.int .i64 k∧Hid (∀ j,j<k→cliAt wd j=true)∧Hid (Ext w1 wr))
  case atStart=>exact ⟨0,Nat.zero_le _,rfl,rfl,fun j h=>by omega,Below.refl _ _⟩
  case round=>
   obtain ⟨k,hk,HK,rfl,HG,HBW⟩:=hrel
   have HW:=Lib.hid (HB.out.trans (HBW.out.mono HB.out.size))
   by_cases hlt:k<xs.length
   ·have hk3:k<wd.cls.length:=by have:=HXL.out;omega
    obtain ⟨cb,co,A1,n1,A2,n2,rfl,hcb,hR1,hR2,c0,c1,c2,c3,c4,c5⟩:=(HR.out.cls.ext HW.out).at_ k hk3
    have HB9:Hid (Ext _ (wr.alloc (oC wd.cls[k] A1 n1 A2 n2))):=HW.out.alloc HW.out.size _
    have HAT:Hid (cliAt wd k=cliFits wd.log wd.safe ((k:Int)+1) wd.cls[k]):=by show _=_;unfold cliAt;rw [List.getElem?_eq_getElem hk3]
    have hE9:Ext wr (wr.alloc (oC wd.cls[k] A1 n1 A2 n2)):=(Below.refl _ _).alloc (Nat.le_refl _) _
    have hk2:k<3:=by have:=HG2.out;omega
    have HC:=Lib.hid (clientFits_c L ln wd.log wd.safe wd.up wd.cls[k] A1 n1 A2 n2 ((k:Int)+1) _ (HT.out.below HB9.out HT.out.pos) (HR.out.log.1.ext HB9.out) (hR1.1.ext hE9) (hR2.1.ext hE9) HLO.out hs0 hs1 (by unfold i64;omega))
    have hwk:IntKind.i64.wrap ((k:Int)+1)=(k:Int)+1:=by rw [IntKind.wrap_i64];omega
    obtain ⟨b0,b1,b2,b3,b4⟩:=HS.out _ HB9.out
    clear hE9 hR1 hR2
    cases hcf:cliFits wd.log wd.safe ((k:Int)+1) wd.cls[k]
    ·rw [hcf] at HC HAT
     have HF2:Hid (worldOk wd=false):=by
      show _=_
      rw [HF.out,Bool.and_eq_false_iff]
      exact .inl (List.all_eq_false.2 ⟨k,List.mem_range.2 hk2,by rw [HAT.out];simp⟩)
     clear hcf
     go_wp2_with fail
     refine HC.out.mono ?_;rintro x w2 ⟨rfl,hb⟩
     have HB2:=Lib.hid (HB9.out.trans (hb.mono HB9.out.size));clear hb HC
     go_wp2_with fail
     go_ret
     exact ⟨by rw [HF2.out];rfl,HE.out.trans (HB2.out.mono HE.out.size)⟩
    ·rw [hcf] at HC HAT
     clear hcf
     go_wp2_with fail
     refine HC.out.mono ?_;rintro x w2 ⟨rfl,hb⟩
     have HB2:=Lib.hid ((HBW.out.alloc HBW.out.size _).trans (hb.mono (Nat.le_trans HBW.out.size (by rw [alloc_sz];omega))));clear hb HC
     go_wp2_with fail
     go_roundg (xs.length - (k+1))
     case measure=>have:=HK.out;omega
     case rel=>
      refine ⟨k+1,by omega,rfl,by go_num,Lib.hid (fun j hjk=>?_),HB2.out⟩
      rcases Nat.lt_or_eq_of_le (Nat.le_of_lt_succ hjk) with h | h
      ·exact HG.out j h
      ·subst h;exact HAT.out
   ·have hli:¬((k:Int)<xs.length):=by omega
    have HALL:Hid (∀ j,j<3→cliAt wd j=true):=fun j hj=>HG.out j (by have:=HXL.out;have:=HG2.out;omega)
    have HF2:Hid (worldOk wd=wd.nets.all (letFits wd.log wd.safe wd.cls)):=by
     show _=_
     rw [HF.out,List.all_eq_true.2 (fun j hj=>HALL.out j (List.mem_range.1 hj))];rfl
    obtain ⟨b0,b1,b2,b3,b4⟩:=HS.out wr HW.out
    clear HF HG HBW HB
    go_wp2_with fail
    clear b0 b1 b2 b3 b4
    generalize wr=wy at *
    go_loopg [42] ys.length (fun gk i wr=>∃ k:Nat,k≤ys.length∧Hid (gk=ys.length - k)∧i=.int .i64 k∧Hid (∀ j (hj:j<wd.nets.length),j<k→letFits wd.log wd.safe wd.cls wd.nets[j]=true)∧Hid (Ext wy wr))
    case atStart=>exact ⟨0,Nat.zero_le _,rfl,rfl,fun j _ h=>by omega,Below.refl _ _⟩
    case round=>
     obtain ⟨k,hk,HK,rfl,HG,HBX⟩:=hrel
     have HX1:=Lib.hid (HW.out.trans (HBX.out.mono HW.out.size))
     by_cases hlt:k<ys.length
     ·have hkn:k<wd.nets.length:=by have:=HYL.out;omega
      obtain ⟨nb,no,A,n,rfl,hnb,hR1,c0,c1,c2⟩:=(HR.out.ext HX1.out).net k hkn
      have HB9:Hid (Ext _ (wr.alloc (oL wd.nets[k] A n))):=HX1.out.alloc HX1.out.size _
      have hE9:Ext wr (wr.alloc (oL wd.nets[k] A n)):=(Below.refl _ _).alloc (Nat.le_refl _) _
      have HC:=Lib.hid (letterFits_c L ln wd.log wd.safe wd.up C cc xs wd.cls wd.nets[k] A n _ (HT.out.below HB9.out HT.out.pos) (HR.out.log.1.ext HB9.out) (HR.out.cls.ext HB9.out) (hR1.1.ext hE9) hll hs0 hs1 HG2.out (cli_seen hs1 HG2.out HALL.out) (HN.out.2 _ (List.getElem_mem hkn)).1)
      obtain ⟨b0,b1,b2,b3,b4⟩:=HS.out _ HB9.out
      clear hE9 hR1
      cases hcf:letFits wd.log wd.safe wd.cls wd.nets[k]
      ·rw [hcf] at HC
       have HF3:Hid (worldOk wd=false):=by
        show _=_
        rw [HF2.out]
        exact List.all_eq_false.2 ⟨_,List.getElem_mem hkn,by rw [hcf];simp⟩
       clear hcf
       go_wp2_with fail
       refine HC.out.mono ?_;rintro x w2 ⟨rfl,hb⟩
       have HB2:=Lib.hid (HB9.out.trans (hb.mono HB9.out.size));clear hb HC
       go_wp2_with fail
       go_ret
       exact ⟨by rw [HF3.out];rfl,HE.out.trans (HB2.out.mono HE.out.size)⟩
      ·rw [hcf] at HC
       have HAT:=Lib.hid hcf
       clear hcf
       go_wp2_with fail
       refine HC.out.mono ?_;rintro x w2 ⟨rfl,hb⟩
       have HB2:=Lib.hid ((HBX.out.alloc HBX.out.size _).trans (hb.mono (Nat.le_trans HBX.out.size (by rw [alloc_sz];omega))));clear hb HC
       go_wp2_with fail
       go_roundg (ys.length - (k+1))
       case measure=>have:=HK.out;omega
       case rel=>
        refine ⟨k+1,by omega,rfl,by go_num,Lib.hid (fun j hj hjk=>?_),HB2.out⟩
        rcases Nat.lt_or_eq_of_le (Nat.le_of_lt_succ hjk) with h | h
        ·exact HG.out j hj h
        ·subst h;exact HAT.out
     ·have hli:¬((k:Int)<ys.length):=by omega
      have HF3:Hid (worldOk wd=true):=by
       show _=_
       rw [HF2.out,List.all_eq_true]
       intro m hm
       obtain ⟨j,hj,rfl⟩:=List.getElem_of_mem hm
       exact HG.out j hj (by have:=HYL.out;omega)
      go_wp2_with fail
      go_ret
      exact ⟨by rw [HF3.out];rfl,HE.out.trans (HX1.out.mono HE.out.size)⟩
 ·have HF:Hid (worldOk wd=false):=by
   show _=_
   unfold worldOk
   by_cases a:(logOk wd.log&&decide (0≤wd.safe∧wd.safe≤wd.log.length))=true
   ·by_cases b:wd.cls.length=3
    ·have c:¬wd.nets.length≤12:=fun c=>hg ⟨a,b,c⟩
     rw [decide_eq_false c];simp
    ·rw [decide_eq_false b];simp
   ·rw [Bool.not_eq_true] at a;rw [a];rfl
  have q:(logOk wd.log&&decide (0≤wd.safe∧wd.safe≤wd.log.length))=false∨(logOk wd.log&&decide (0≤wd.safe∧wd.safe≤wd.log.length))=true∧(((xs.length:Int) != 3)=true∨((xs.length:Int) != 3)=false∧(12:Int)<ys.length):=by
   cases a:(logOk wd.log&&decide (0≤wd.safe∧wd.safe≤wd.log.length))
   ·exact .inl rfl
   ·refine .inr ⟨rfl,?_⟩
    by_cases b:wd.cls.length=3
    ·exact .inr ⟨by rw [HXL.out,b];rfl,by have:=HYL.out;have c:¬wd.nets.length≤12:=fun c=>hg ⟨a,b,c⟩;omega⟩
    ·exact .inl (by simp;have:=HXL.out;omega)
  clear hg
  rcases q with q | ⟨q,p | ⟨p,o⟩⟩
  all_goals
   rw [q] at HSO
   clear q
   go_enter Tryz.func24,Tryz.ntmps24
   obtain ⟨b0,b1,b2,b3,b4⟩:=HS.out W (Below.refl _ _)
   subst hW
   go_wp2_with fail
   refine HSO.out.mono ?_;rintro x w1 ⟨rfl,hb⟩
   clear b0 b1 b2 b3 b4
   obtain ⟨b0,b1,b2,b3,b4⟩:=HS.out w1 hb
   have HB:=Lib.hid (HE.out.trans (hb.mono HE.out.size))
   clear hb HSO
   go_wp2_with fail
   go_ret
   exact ⟨by rw [HF.out];rfl,HB.out⟩
open Go.RowKit Go.Lib
def bs (l:List UInt8):ByteArray:=⟨l.toArray⟩
theorem bs_append (a b:List UInt8):bs a++bs b=bs (a++b):=by
 apply ByteArray.ext;show (bs a++bs b).data=_;simp [bs]
theorem bs_size (a:List UInt8):(bs a).size=a.length:=by simp [bs,ByteArray.size]
theorem conv_at (W:World) (b:Nat) (c:Int) (h:W.cell? ⟨b,0,none⟩=some (.int .u8 c)):(convert 22 9 (.slice (some ⟨b,0,none⟩) 1 1)).run Tryz.prog W=.ok (.string (bs [UInt8.ofNat c.toNat])) W:=by
 rw [run_convert_bytes_string _ _ _ 5 _ _ _ (by kernel_rfl) (by kernel_rfl) (by kernel_rfl),run_bytesToString _ _ _ _ [c] (by simp [loadCells,loadCellsFrom,h,Addr.add])]
 rfl
theorem conv_byte (W:World) (c:Int):(convert 22 9 (.slice (some ⟨W.heap.size,0,none⟩) 1 1)).run Tryz.prog (W.alloc (.cells #[.int .u8 c] 5))=.ok (.string (bs [UInt8.ofNat c.toNat])) (W.alloc (.cells #[.int .u8 c] 5)):=
 conv_at _ _ _ (by unfold World.cell?;rw [World.alloc_heap_new];rfl)
theorem add_bs (a b:List UInt8) (h:a.length+b.length≤1000000) (W:World):(Op.stringOp .add (bs a) (bs b)).run Tryz.prog W=.ok (.string (bs (a++b))) W:=by
 have h9:=run_string_add_sum (P:=Tryz.prog) (w:=W) (bs a) (bs b) (by rw [bs_size,bs_size];omega)
 rw [bs_append] at h9
 exact h9
set_option maxRecDepth 100000 in
set_option maxHeartbeats 1000000 in
theorem dec1_s (n:Nat) (w:World) (h:n<10) :
  Calls Tryz.prog 131 #[.int .i64 n] w fun e w'=>e=.returned (.string (bs (decL n)))∧Ext w w':=by
 have q0:¬(n:Int) < -9223372036854775807:=by omega
 have q1:¬(n:Int)<0:=by omega
 have q2:(n:Int)<10:=by omega
 have q3:IntKind.i64.wrap (48+(n:Int))=48+(n:Int):=by rw [IntKind.wrap_i64];omega
 have q4:IntKind.u8.wrap (48+(n:Int))=48+(n:Int):=by unfold IntKind.wrap;simp [IntKind.signed,IntKind.bits];omega
 have e:decL n=[UInt8.ofNat (48+n)]:=by unfold decL;rw [if_pos h]
 rw [e]
 have hc:=conv_byte w (48+(n:Int))
 have hn:(48+(n:Int)).toNat=48+n:=by omega
 rw [hn] at hc
 go_enter Tryz.func131,Tryz.ntmps131
 go_wp2_with fail
 go_ret
 exact ⟨rfl,(Below.refl _ _).alloc (Nat.le_refl _) _⟩
set_option maxRecDepth 100000 in
set_option maxHeartbeats 1000000 in
theorem dec_s (n:Nat) (w:World) (h:n<37) :
  Calls Tryz.prog 131 #[.int .i64 n] w fun e w'=>e=.returned (.string (bs (decL n)))∧Ext w w':=by
 by_cases h1:n<10
 ·exact dec1_s n w h1
 have q0:¬(n:Int) < -9223372036854775807:=by omega
 have q1:¬(n:Int)<0:=by omega
 have q2:¬(n:Int)<10:=by omega
 obtain ⟨a,b,ha,hb,rfl⟩:∃ a b:Nat,a<4∧b<10∧n=10*a+b:=⟨n / 10,n % 10,by omega,by omega,by omega⟩
 have e:decL (10*a+b)=decL a++[UInt8.ofNat (48+b)]:=by
  unfold decL
  rw [if_neg h1,if_pos (by omega:a<10),show (10*a+b) / 10=a by omega,show (10*a+b) % 10=b by omega];rfl
 rw [e]
 have hz:(decL a).length=1:=by unfold decL;rw [if_pos (by omega:a<10)];rfl
 have e1:((10*a+b:Nat):Int) / 10=(a:Int):=by omega
 have e2:((10*a+b:Nat):Int) % 10=(b:Int):=by omega
 have e3:((10*a+b:Nat):Int).tdiv 10=(a:Int):=by rw [Int.tdiv_eq_ediv_of_nonneg (by omega)];exact e1
 have e4:((10*a+b:Nat):Int).tmod 10=(b:Int):=by rw [Int.tmod_eq_emod_of_nonneg (by omega)];exact e2
 generalize ((10*a+b:Nat):Int)=N at *
 have q3:IntKind.i64.wrap (48+(b:Int))=48+(b:Int):=by rw [IntKind.wrap_i64];omega
 have q4:IntKind.u8.wrap (48+(b:Int))=48+(b:Int):=by unfold IntKind.wrap;simp [IntKind.signed,IntKind.bits];omega
 have q5:IntKind.i64.wrap (a:Int)=a:=by rw [IntKind.wrap_i64];omega
 have q6:IntKind.i64.wrap (b:Int)=b:=by rw [IntKind.wrap_i64];omega
 have HC:=Lib.hid (fun W=>dec1_s a W (by omega))
 have hs1:(bs (decL a)).size=1:=by rw [bs_size,hz]
 have hn:(48+(b:Int)).toNat=48+b:=by omega
 have hc:=fun W B=>conv_at W B (48+(b:Int))
 rw [hn] at hc
 generalize UInt8.ofNat (48+b)=d at *
 have hs2:(bs [d]).size=1:=by rw [bs_size];rfl
 go_enter Tryz.func131,Tryz.ntmps131
 go_wp2_with fail
 go_region_law (go_simp;go_at_call 131;refine (HC.out _).mono ?_;rintro e w1 ⟨rfl,hb⟩;have HB:=Lib.hid hb;obtain ⟨k1,k2⟩:=bcell hb;clear hb)
 all_goals
  go_wp2_with fail
  go_ret
  rw [←bs_append]
  first | exact ⟨rfl,ext_boxd HB.out⟩ | exact ⟨rfl,((Below.refl _ w).drew.trans HB.out).alloc ((Below.refl _ w).drew.trans HB.out).size _⟩
def dots (n:Nat):List UInt8:=List.replicate n 46
theorem dots_add (a b:Nat):dots a++dots b=dots (a+b):=by unfold dots;rw [List.replicate_append_replicate]
set_option maxRecDepth 100000 in
set_option maxHeartbeats 1000000 in
theorem many_s (n:Nat) (w:World) (h:n≤1000) :
  Calls Tryz.prog 130 #[.string ⟨#[46]⟩,.int .i64 n] w fun e w'=>e=.returned (.string (bs (dots n)))∧w'=w:=by
 go_enter Tryz.func130,Tryz.ntmps130
 go_wp2_with fail
 go_loopg [0,1,5] n (fun gk s i o wr=>∃ (m k j:Nat),Hid (gk=k)∧k≤n∧m≤2*n+1∧s=.string (bs (dots m))∧i=.int .i64 k∧o=.string (bs (dots j))∧Hid (j+m*k=n)∧j≤n∧Hid (0<k→m≤n)∧wr=w)
 case atStart=>exact ⟨1,n,0,rfl,Nat.le_refl _,by omega,rfl,rfl,rfl,by show 0+1*n=n;omega,by omega,fun h=>h,rfl⟩
 case round=>
  obtain ⟨m,k,j,HK,hk,hm,rfl,rfl,rfl,HJ,hj,HM,rfl⟩:=hrel
  have s1:(bs (dots m)).size=m:=by rw [bs_size];simp [dots]
  have s2:(bs (dots j)).size=j:=by rw [bs_size];simp [dots]
  by_cases hz:k=0
  ·subst hz
   have hjn:j=n:=by have:=HJ.out;omega
   subst hjn
   go_wp2_with fail
   go_ret
   exact ⟨rfl,rfl⟩
  ·have hmn:=HM.out (by omega)
   have HKO:=Lib.hid (Nat.mod_two_eq_zero_or_one k)
   have h5:m*k=m*(k % 2)+2*m*(k / 2):=by rw [Nat.mul_comm 2 m,Nat.mul_assoc,←Nat.mul_add,Nat.mod_add_div]
   have H5:=Lib.hid h5
   have q0:(0:Int)<k:=by omega
   have e3:(k:Int).tdiv 2=((k / 2:Nat):Int):=by rw [Int.tdiv_eq_ediv_of_nonneg (by omega)];omega
   have e4:(k:Int).tmod 2=((k % 2:Nat):Int):=by rw [Int.tmod_eq_emod_of_nonneg (by omega)];omega
   have e1:(k:Int) / 2=((k / 2:Nat):Int):=by omega
   have e2:(k:Int) % 2=((k % 2:Nat):Int):=by omega
   have w1:IntKind.i64.wrap ((k / 2:Nat):Int)=((k / 2:Nat):Int):=by rw [IntKind.wrap_i64];omega
   have w2:IntKind.i64.wrap ((k % 2:Nat):Int)=((k % 2:Nat):Int):=by rw [IntKind.wrap_i64];omega
   have hd2:k / 2<k:=by omega
   clear h5 hz
   rcases HKO.out with h | h
   all_goals
    rw [h] at e4 e2 w2
    have HP:=Lib.hid h
    clear h
    generalize hq:k / 2=q at *
    go_wp2_with fail
    go_roundg q
    case measure=>have:=HK.out;omega
    case rel=>
     have hP:=HP.out;have hJ:=HJ.out;have h5:=H5.out
     rw [hP] at h5
     first
      |exact ⟨2*m,q,j,rfl,by omega,by omega,by rw [bs_append,dots_add,Nat.two_mul],rfl,rfl,by show _=_;omega,by omega,fun h9=>by have:2*m*1≤2*m*q:=Nat.mul_le_mul_left _ h9;omega,rfl⟩
      |exact ⟨2*m,q,j+m,rfl,by omega,by omega,by rw [bs_append,dots_add,Nat.two_mul],rfl,by rw [bs_append,dots_add],by show _=_;omega,by have:0≤2*m*q:=Nat.zero_le _;omega,fun h9=>by have:2*m*1≤2*m*q:=Nat.mul_le_mul_left _ h9;omega,rfl⟩
open Go.RowKit Go.Lib
theorem bs_txt (r:Row):r.text=bs (txt r):=by unfold bs txt;rw [Array.toArray_toList]
theorem line_len {r:Row} (h:rowOk r=true):r.depth.toNat≤18∧(decL r.id.toNat).length≤2∧(txt r).length≤4∧(lineB r).length≤30:=by
 have h1:r.depth.toNat≤18∧(txt r).length≤4:=by
  unfold rowOk at h
  cases hr:isRoot r.id
  ·simp only [hr,Bool.false_eq_true,if_false,Bool.and_eq_true,decide_eq_true_eq] at h
   obtain ⟨⟨_,h2⟩,h3⟩:=h
   unfold textOk at h3
   rw [Bool.and_eq_true,decide_eq_true_eq] at h3
   exact ⟨by omega,by unfold txt;rw [Array.length_toList];exact h3.1⟩
  ·simp only [hr,if_true,Bool.and_eq_true,decide_eq_true_eq] at h
   exact ⟨by omega,by unfold txt;rw [h.2];exact Nat.zero_le _⟩
 have h2:(decL r.id.toNat).length≤2:=by unfold decL;split <;> simp
 have h3:(tailB r).length≤5:=by
  unfold tailB
  split
  ·exact Nat.zero_le _
  ·rw [List.length_cons];omega
 refine ⟨h1.1,h2,h1.2,?_⟩
 unfold lineB
 simp only [List.length_append,List.length_replicate,List.length_singleton]
 omega
theorem text_len {t:List Row} (h:∀ r∈t,rowOk r=true):(textB t).length≤30*t.length:=by
 induction t with
 |nil=>simp [textB]
 |cons r t ih=>
  have h1:=(line_len (h r (by simp))).2.2.2
  have h2:=ih fun x hx=>h x (by simp [hx])
  simp only [textB,List.flatMap_cons,List.length_append,List.length_cons] at h2 ⊢
  omega
theorem text_next (t:List Row) (k:Nat) (hk:k<t.length):textB (t.take (k+1))=textB (t.take k)++(dots t[k].depth.toNat++(decL t[k].id.toNat++(tailB t[k]++[10]))):=by
 rw [List.take_succ_eq_append_getElem hk];unfold textB;rw [List.flatMap_append];simp [lineB,dots]
set_option maxRecDepth 100000 in
set_option maxHeartbeats 2000000 in
theorem text2_s (A:Option Addr) (c:Nat) (t:List Row) (w:World) (hr:Rd w A c t) (hl:t.length≤1000) (hok:∀ r∈t,rowOk r=true) :
  Calls Tryz.prog 98 #[.slice A t.length c] w fun e w'=>e=.returned (.string (bs (textB t)))∧Ext w w':=by
 have HR:=Lib.hid hr;have HOK:=Lib.hid hok
 clear hr hok
 go_enter Tryz.func98,Tryz.ntmps98
 go_wp2_with fail
 go_loopg [3,4] t.length (fun gk o i wr=>∃ k:Nat,k≤t.length∧Hid (gk=t.length - k)∧i=.int .i64 k∧o=.string (bs (textB (t.take k)))∧Hid (Ext w wr))
 case atStart=>exact ⟨0,Nat.zero_le _,rfl,rfl,rfl,Below.refl _ _⟩
 case round=>
  obtain ⟨k,hk,HK,rfl,rfl,HW⟩:=hrel
  by_cases hlt:k<t.length
  ·obtain ⟨b,off,rfl,hbl,c0,c1,c2⟩:=row_at (HR.out.ext HW.out) k hlt
   have hrk:=HOK.out _ (List.getElem_mem hlt)
   have hp:=rowOk_parts hrk
   have hq:=line_len hrk
   have HN:=Lib.hid (text_next t k hlt)
   have hlen:(textB (t.take k)).length≤30000:=Nat.le_trans (text_len fun x hx=>HOK.out x (List.mem_of_mem_take hx)) (by rw [List.length_take];omega)
   have s0:(bs (textB (t.take k))).size=(textB (t.take k)).length:=bs_size _
   have hli:(k:Int)<t.length:=by omega
   obtain ⟨d,hd⟩:∃ d:Nat,(d:Int)=t[k].depth:=⟨t[k].depth.toNat,by omega⟩
   obtain ⟨n,hn⟩:∃ n:Nat,(n:Int)=t[k].id:=⟨t[k].id.toNat,by omega⟩
   have hd2:t[k].depth.toNat=d:=by omega
   have hn2:t[k].id.toNat=n:=by omega
   rw [hd2,hn2] at HN
   rw [hd2,hn2] at hq
   rw [←hn] at c0
   rw [←hd] at c1
   have s1:(bs (dots d)).size=d:=by rw [bs_size];simp [dots]
   have s2:(bs (decL n)).size=(decL n).length:=bs_size _
   have HM:=Lib.hid (fun W=>many_s d W (by omega))
   have HD:=Lib.hid (fun W=>dec_s n W (by omega))
   generalize textB (t.take k)=T at *
   generalize decL n=D at *
   have hcs:∀ w':World,Ext wr w'→w'.cell? ⟨b,off+k*3,none⟩=some (.int .i64 (n:Int))∧w'.cell? ⟨b,off+k*3+1,none⟩=some (.int .i64 (d:Int))∧w'.cell? ⟨b,off+k*3+2,none⟩=some (.string t[k].text):=fun w' h=>by
    obtain ⟨hc,-⟩:=bcell h
    exact ⟨(hc _ _ hbl).trans c0,(hc _ _ hbl).trans c1,(hc _ _ hbl).trans c2⟩
   have HS:=Lib.hid hcs
   have hq2:=hq.2.1;have hq1:=hq.1
   have z1:(9223372036854775807<T.length+d)=False:=by simp;omega
   have z2:(9223372036854775807<T.length+d+D.length)=False:=by simp;omega
   clear hcs hp hd hn hd2 hn2
   go_wp2_with fail
   refine wp_region_H (fun w'=>Ext wr w') (by kernel_rfl) ?_
   refine WH.ts [(0,11),(1,12),(2,13),(3,14),(4,15),(5,16),(8,19),(9,20),(10,21),(11,22),(12,23)] (Below.refl _ _).drew (by kernel_rfl) ?_
   iterate 11 (apply Th.cons rfl rfl;(focus (rintro w s;obtain ⟨s7,s8,s9⟩:=HS.out _ s;go_simp;try with_reducible rfl));try simp only [Act.put,List.setIfInBounds_toArray,List.set_cons_zero,List.set_cons_succ])
   apply Th.nil
   refine WH.one 6 (by kernel_rfl) rfl (fun K hK=>?_)
   have HKK:=Lib.hid hK;clear hK
   go_simp
   refine (HM.out _).mono ?_
   rintro x w2 ⟨rfl,rfl⟩
   refine HKK.out _ _ ⟨(Below.refl _ _).drew,?_⟩
   clear HKK K
   try simp only [Act.put,List.setIfInBounds_toArray,List.set_cons_zero,List.set_cons_succ]
   refine WH.ts [(7,18)] (Below.refl _ _).drew (by kernel_rfl) ?_
   iterate 1 (apply Th.cons rfl rfl;(focus (rintro w s;obtain ⟨s7,s8,s9⟩:=HS.out _ s;go_simp;try with_reducible rfl));try simp only [Act.put,List.setIfInBounds_toArray,List.set_cons_zero,List.set_cons_succ])
   apply Th.nil
   refine WH.one 13 (by kernel_rfl) rfl (fun K hK=>?_)
   have HKK:=Lib.hid hK;clear hK
   go_simp
   refine (HD.out _).mono ?_
   rintro x w2 ⟨rfl,hb⟩
   have HB:=Lib.hid ((Below.refl _ wr).drew.trans hb)
   refine HKK.out _ _ ⟨HB.out,?_⟩
   clear HKK K hb
   try simp only [Act.put,List.setIfInBounds_toArray,List.set_cons_zero,List.set_cons_succ]
   refine WH.ts [(14,25),(15,3)] HB.out (by kernel_rfl) ?_
   iterate 2 (apply Th.cons rfl rfl;(focus (rintro w s;obtain ⟨s7,s8,s9⟩:=HS.out _ s;go_simp;try with_reducible rfl));try simp only [Act.put,List.setIfInBounds_toArray,List.set_cons_zero,List.set_cons_succ])
   apply Th.nil
   refine WH.done (by kernel_rfl) ?_
   clear c0 c1 c2
   obtain ⟨c0,c1,c2⟩:=HS.out w2 HB.out
   have hts:t[k].text.size≤4:=by rw [bs_txt,bs_size];exact hq.2.2.1
   have z3:(9223372036854775807<T.length+d+D.length+1+t[k].text.size)=False:=by simp;omega
   have z4:(9223372036854775807<T.length+d+D.length+1+t[k].text.size+1)=False:=by simp;omega
   have z5:(9223372036854775807<T.length+d+D.length+1)=False:=by simp;omega
   have HBT:=Lib.hid (bs_txt t[k])
   by_cases he:t[k].text=⟨#[]⟩
   ·have h9:t[k].text.toList.isEmpty=true:=by rw [←bytes_empty];exact decide_eq_true he
    have HE:Hid (tailB t[k]=[]):=by show _=_;unfold tailB txt;rw [he];rfl
    clear he hq hts
    go_wp2_with fail
    go_roundg (t.length - (k+1))
    case measure=>have:=HK.out;omega
    case rel=>
     refine ⟨k+1,by omega,rfl,by go_num,?_,HW.out.trans (HB.out.mono HW.out.size)⟩
     rw [HN.out,HE.out,show (⟨#[10]⟩:ByteArray)=bs [10] from rfl]
     simp only [bs_append,List.append_assoc,List.nil_append]
   ·have h9:t[k].text.toList.isEmpty=false:=by rw [←bytes_empty];exact decide_eq_false he
    have HE:Hid (tailB t[k]=32::txt t[k]):=by
     show _=_;unfold tailB;rw [if_neg];intro h;apply he;rw [bs_txt,h];rfl
    clear he hq hts
    go_wp2_with fail
    go_roundg (t.length - (k+1))
    case measure=>have:=HK.out;omega
    case rel=>
     refine ⟨k+1,by omega,rfl,by go_num,?_,HW.out.trans (HB.out.mono HW.out.size)⟩
     rw [HN.out,HE.out,HBT.out,show (⟨#[10]⟩:ByteArray)=bs [10] from rfl,show (⟨#[32]⟩:ByteArray)=bs [32] from rfl]
     simp only [bs_append,List.append_assoc,List.cons_append,List.nil_append]
  ·have hkl:k=t.length:=by omega
   subst hkl
   rw [List.take_length]
   go_wp2_with fail
   go_ret
   exact ⟨rfl,HW.out⟩
open Go.RowKit Go.Lib
def ownS (log:List Entry) (who:Int) (c:Client):List Entry:=mine (log.take c.seen.toNat) who++c.wait
theorem ownS_eq (log:List Entry) (c:Client):ownS log c.who c=ownOf log c:=rfl
set_option maxRecDepth 100000 in
set_option maxHeartbeats 2000000 in
theorem own_s (wd:Wd) (L:Option Addr) (ln:Nat) (C:Option Addr) (cc:Nat) (N:Option Addr) (yl nc:Nat) (xs:List RC) (j:Nat) (who:Int) (w:World) (hL:Rd w L ln wd.log) (hC:ClsR w C cc xs wd.cls) (hj:j<wd.cls.length) (hw:who=(j:Int)+1) (h3:wd.cls.length≤1000) (hl:wd.log.length≤1000) (h0:0≤(wd.cls[j]).seen) (hq:(wd.cls[j]).wait.length≤1000) :
  Calls Tryz.prog 100 #[.agg (wA wd L ln C xs.length cc N yl nc),.int .i64 who] w fun x w'=>∃ v,x=.returned v∧Own 35 w' w.heap.size v (ownS wd.log who wd.cls[j])∧Ext w w':=by
 subst hw
 have HXL:=Lib.hid hC.cls.1
 obtain ⟨cb,co,A1,n1,A2,n2,rfl,hcb,hR1,hR2,c0,c1,c2,c3,c4,c5⟩:=hC.at_ j hj
 have hjx:(j:Int)<(xs.length:Int):=by have:=HXL.out;omega
 have hwj:IntKind.i64.wrap ((j:Int)+1 - 1)=(j:Int):=by rw [IntKind.wrap_i64];omega
 have HFF:Hid (ownS wd.log ((j:Int)+1) wd.cls[j]=mine (wd.log.take wd.cls[j].seen.toNat) ((j:Int)+1)++wd.cls[j].wait):=rfl
 generalize wd.cls[j]=c at *
 have h3a:=three_all w (.cells (wA wd L ln (some ⟨cb,co,none⟩) xs.length cc N yl nc) 62) (.cells #[] 35) (oC c A1 n1 A2 n2)
 have hE3:=ext3 w (.cells (wA wd L ln (some ⟨cb,co,none⟩) xs.length cc N yl nc) 62) (.cells #[] 35) (oC c A1 n1 A2 n2)
 have HX1:=Lib.hid h3a.1;have HX3:=Lib.hid h3a.2.2;have HE:=Lib.hid hE3
 have HO0:Hid (Own 35 (((w.alloc (.cells (wA wd L ln (some ⟨cb,co,none⟩) xs.length cc N yl nc) 62)).alloc (.cells #[] 35)).alloc (oC c A1 n1 A2 n2)) w.heap.size (.slice (some ⟨w.heap.size+1,0,none⟩) 0 0) ([]:List Entry)):=by
  have h:=own_made (e:=35) (α:=Entry) (w.alloc (.cells (wA wd L ln (some ⟨cb,co,none⟩) xs.length cc N yl nc) 62)) w.heap.size (by rw [alloc_sz];omega)
  rw [alloc_sz] at h
  exact h.below ((Below.refl _ _).alloc (Nat.le_refl _) _)
 have HLW:=Lib.hid hL;have HQ:=Lib.hid hR2.1
 clear hL hC hR1 hR2 h3a hE3
 go_enter Tryz.func100,Tryz.ntmps100
 go_wp2_with fail
 generalize (((w.alloc (.cells (wA wd L ln (some ⟨cb,co,none⟩) xs.length cc N yl nc) 62)).alloc (.cells #[] 35)).alloc (oC c A1 n1 A2 n2))=W3 at *
 clear c0 c1 c2 c3 c4 c5
 obtain ⟨i,hi⟩:∃ i:Nat,(i:Int)=c.seen:=⟨c.seen.toNat,by omega⟩
 rw [←hi,Int.toNat_natCast] at HFF
 have HI:=Lib.hid hi
 have hnl:min i wd.log.length≤wd.log.length:=Nat.min_le_right _ _
 have hni:min i wd.log.length≤i:=Nat.min_le_left _ _
 have HTK:Hid (wd.log.take i=wd.log.take (min i wd.log.length)):=by
  show _=_
  by_cases h:i≤wd.log.length
  ·rw [Nat.min_eq_left h]
  ·rw [Nat.min_eq_right (by omega),List.take_length,List.take_of_length_le (by omega)]
 have HNM:Hid (∀ k,k<i→k<wd.log.length→k<min i wd.log.length):=fun k h1 h2=>by omega
 generalize min i wd.log.length=n at *
 clear hi
 go_loopg [5,7] n (fun gk v i' wr=>∃ k:Nat,k≤n∧Hid (gk=n - k)∧i'=.int .i64 k∧Hid (Own 35 wr w.heap.size v (mine (wd.log.take k) ((j:Int)+1)))∧Hid (wr.heap[w.heap.size]?=some (.cells (wA wd L ln (some ⟨cb,co,none⟩) xs.length cc N yl nc) 62 (0,0)))∧Hid (wr.heap[w.heap.size+1+1]?=some (oC c A1 n1 A2 n2))∧Hid (Ext w wr))
 case atStart=>exact ⟨0,Nat.zero_le _,rfl,rfl,HO0.out,HX1.out,HX3.out,HE.out⟩
 case round=>
  obtain ⟨k,hk,HK,rfl,HO,HBX,HBC,HW⟩:=hrel
  obtain ⟨b0,b1,b2,b3,b4,-⟩:=five_cells HBX.out
  obtain ⟨c0,c1,c2,c3,c4,c5,-⟩:=six_cells HBC.out
  have hs:=HI.out
  by_cases hlt:k<n
  ·have hk1:(k:Int)<c.seen:=by omega
   have hk2:(k:Int)<wd.log.length:=by omega
   have hkl:k<wd.log.length:=by omega
   have hli:k<wd.log.length:=hkl
   obtain ⟨b,off,rfl,hbl,e0,e1,e2,e3,e4,e5,e6⟩:=ent_at (HLW.out.ext HW.out) k hkl
   have HN:=Lib.hid (mine_take wd.log ((j:Int)+1) k hkl)
   have HLN:=Lib.hid (Nat.le_trans (mine_len (wd.log.take k) ((j:Int)+1)) (by rw [List.length_take];omega:_≤1000))
   have HOK:=Lib.hid (HLW.out.okAt k hkl)
   clear hs
   by_cases he:wd.log[k].who=(j:Int)+1
   ·rw [if_pos he] at HN
    have hd:(wd.log[k].who == (j:Int)+1)=true:=by simp [he]
    obtain ⟨v',w',hrun,ho',hg'⟩:=app_one el_ent HO.out wd.log[k] HOK.out (Nat.lt_of_le_of_lt HLN.out (by omega)) HW.out.size (cN wd.log[k]) rfl
    have ha:=World.alloc_heap_new wr (oN wd.log[k])
    have HW2:=Lib.hid (Own.over_one HO.out HW.out hg' (Nat.le_refl _) HW.out.size)
    have hoo:=HO.out.below ((Below.refl _ _).alloc (Nat.le_refl _) (oN wd.log[k]))
    have hbk:∀ (q:Nat) (cs:Array Value) (ty:TypeId) (m:Nat × Nat),wr.heap[q]?=some (.cells cs ty m)→ty≠35→w'.heap[q]?=some (.cells cs ty m):=fun q cs ty m hq hne=>by
     have h1:(wr.alloc (oN wd.log[k])).heap[q]?=some (.cells cs ty m):=(((Below.refl _ wr).alloc (Nat.le_refl _) (oN wd.log[k])).block q (blk_lt hq)).trans hq
     refine (hg'.block q (blk_lt h1) (fun e=>?_)).trans h1
     rcases own_ne hoo h1 hne with h | h
     ·rw [h] at e;cases e
     ·exact h e.symm
    have HBX2:=Lib.hid (hbk _ _ _ _ HBX.out (by decide));have HBC2:=Lib.hid (hbk _ _ _ _ HBC.out (by decide));have HO':=Lib.hid ho'
    clear ho' hg' he HO hbk hoo ha
    go_wp2_with (at_builtin;refine wpList_append_run rfl _ _ _ rfl rfl rfl hrun ?_)
    go_roundg (n - (k+1))
    case measure=>have:=HK.out;omega
    case rel=>exact ⟨k+1,by omega,rfl,by go_num,by rw [HN.out];exact HO'.out,HBX2.out,HBC2.out,HW2.out⟩
   ·rw [if_neg he] at HN
    have hd:(wd.log[k].who == (j:Int)+1)=false:=by simp [he]
    clear he
    go_wp2_with fail
    go_roundg (n - (k+1))
    case measure=>have:=HK.out;omega
    case rel=>exact ⟨k+1,by omega,rfl,by go_num,by rw [HN.out];exact HO.out,HBX.out,HBC.out,HW.out⟩
  ·have hkn:k=n:=by omega
   have q:¬(k:Int)<c.seen∨(k:Int)<c.seen∧¬(k:Int)<wd.log.length:=by
    by_cases h:(k:Int)<c.seen
    ·refine .inr ⟨h,fun h2=>?_⟩
     have:=HNM.out k (by omega) (by omega);omega
    ·exact .inl h
   obtain ⟨v',w',hrun,ho',hg'⟩:=app_at el_ent HO.out (HQ.out.ext HW.out) (by have:=Nat.le_trans (mine_len (wd.log.take k) ((j:Int)+1)) (by rw [List.length_take];omega:_≤1000);omega) HW.out.size
   have HW2:=Lib.hid (HO.out.over HW.out hg' (Nat.le_refl _) HW.out.size)
   have HO':Hid (Own 35 w' w.heap.size v' (ownS wd.log ((j:Int)+1) c)):=by
    show Own _ _ _ _ _
    rw [HFF.out,HTK.out,←hkn];exact ho'
   clear ho' hg' HO hs
   rcases q with q | ⟨q,q2⟩
   all_goals
    go_wp2_with (at_builtin;refine wpList_append_run rfl _ _ _ rfl rfl rfl hrun ?_)
    go_ret
    exact ⟨_,rfl,HO'.out,HW2.out⟩
end Go.Proofs.YtecmcjfdaipfcaaGreatDoor
