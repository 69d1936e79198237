/- A client hears what is not too far away. .. Walk of the reference: where a change puts a row. -/
import Derived.Test.YtecmcjfdaipfcaaGreatDoorZAH
import Derived.Laws.OwnMore
namespace Go.Proofs.YtecmcjfdaipfcaaGreatDoor
open Go.RowKit
set_option linter.unusedVariables false
def fromA (A:Option Addr) (cap k s:Nat):Option Addr:=if cap=k then A else A.map (·.add (k*s))
theorem Rd.from_ {α:Type} [Flat α] {w:World} {A:Option Addr} {c:Nat} {l:List α} (h:Rd w A c l) (k:Nat) (hk:k≤l.length):Rd w (fromA A c k (Flat.sz α)) (c - k) (l.drop k):=by
 unfold fromA
 by_cases e:c=k
 ·rw [if_pos e]
  have:=h.1
  exact ⟨by simp;omega,by have:=h.2.1;omega,fun h0=>by simp at h0;omega,fun x hx=>h.2.2.2 x (List.mem_of_mem_drop hx)⟩
 ·rw [if_neg e]
  refine ⟨by simp;have:=h.1;omega,by have:=h.2.1;omega,fun h0=>?_,fun x hx=>h.2.2.2 x (List.mem_of_mem_drop hx)⟩
  simp only [List.length_drop] at h0
  obtain ⟨b,off,rfl,hh⟩:=h.2.2.1 (by omega)
  refine ⟨b,off+k*Flat.sz α,by simp [Addr.add],fun j v hv=>?_⟩
  rw [flat_drop,List.getElem?_drop] at hv
  rw [Nat.add_assoc]
  exact hh _ v hv
theorem run_from (A:Option Addr) (n c k:Nat) (hk:k≤n) (w:World):(Instr.slice 24 (.slice A n c) (some (.int .i64 k)) none none).run Tryz.prog w=.ok (.slice (fromA A c k 7) (n - k) (c - k)) w:=by
 have hu:Tryz.prog.underlying 24=some (.slice (Tryz.prog.elem 24)):=by kernel_rfl
 rw [run_slice_l w _ A n c hu .i64 k (by omega) (by omega)]
 have hs:(sizeOf (Tryz.prog.elem 24)).run Tryz.prog w=.ok 7 w:=by kernel_rfl
 rw [hs]
 rfl
theorem own_ne {α:Type} [Flat α] {e:TypeId} {w:World} {base:Nat} {v:Value} {l:List α} (h:Own e w base v l) {b:Nat} {cs:Array Value} {ty:TypeId} {m:Nat × Nat} (hb:w.heap[b]?=some (.cells cs ty m)) (ht:ty≠e):v.ownBlock=none∨v.ownBlock≠some b:=by
 rcases h.1.2 with ⟨h9,_⟩ | ⟨g9,cap9,cur9,h9,_,h8,_⟩
 ·rw [h9];exact .inl rfl
 ·rw [h9]
  refine .inr fun e9=>?_
  simp only [Value.ownBlock,Option.some.injEq] at e9
  rw [e9,hb] at h8
  injection h8 with h8;injection h8 with _ h8
  exact absurd h8 ht
theorem gset_any (w:World) (b i:Nat) (v:Value):w.grownBy (w.setCell ⟨b,i,none⟩ v) (some b):=gset ⟨rfl,rfl,rfl,Nat.le_refl _,fun _ _ _=>rfl⟩ i v
theorem own_put {α:Type} [Flat α] {e:TypeId} {w:World} {base:Nat} {v:Value} {l:List α} (h:Own e w base v l) {b:Nat} {cs:Array Value} {ty:TypeId} {m:Nat × Nat} (hb:w.heap[b]?=some (.cells cs ty m)) (ht:ty≠e) (i:Nat) (x:Value):Own e (w.setCell ⟨b,i,none⟩ x) base v l:=
 h.grown (gset_any w b _ _) (own_ne h hb ht)
theorem own_put6 {α:Type} [Flat α] {e:TypeId} {w:World} {base:Nat} {v:Value} {l:List α} (h:Own e w base v l) {b:Nat} {a0 a1 a2 a3 a4 a5:Value} {ty:TypeId} (hb:w.heap[b]?=some (.cells #[a0,a1,a2,a3,a4,a5] ty (0,0))) (ht:ty≠e) (v0 v1 v2 v3 v4 v5:Value):Own e (put6 w b v0 v1 v2 v3 v4 v5) base v l:=
 own_put (own_put (own_put (own_put (own_put (own_put h hb ht _ _) (set_at hb) ht _ _) (set_at (set_at hb)) ht _ _) (set_at (set_at (set_at hb))) ht _ _) (set_at (set_at (set_at (set_at hb)))) ht _ _) (set_at (set_at (set_at (set_at (set_at hb))))) ht _ _
theorem Page.grown {w w':World} {n0 p:Nat} {t:List Row} (h:Page w n0 p t) {b:Nat} (hg:w.grownBy w' (some b)) {cs:Array Value} {ty:TypeId} {m:Nat × Nat} (hb:w.heap[b]?=some (.cells cs ty m)) (ht:ty≠46) (hp:p≠b):Page w' n0 p t:=by
 obtain ⟨v,h1,h2⟩:=h
 exact ⟨v,(hg.block p h1.lt (fun e=>hp (by injection e))).trans h1,h2.grown hg (own_ne h2 hb ht)⟩
def Hst (W0 W:World) (n0 b p r:Nat) (c:Client) (s1 s2:Value) (q:List Entry) (t:List Row) (d n:Int):Prop:=
 W.heap[b]?=some (.cells #[.int .i64 c.who,.int .i64 n,s1,s2,.int .i64 d,.int .i64 c.made] 26 (0,0))∧Page W n0 p t∧(∃ h f,Ring W r h f q)∧Ext W0 W
theorem Hst.ext {W0 W W':World} {n0 b p r:Nat} {c:Client} {s1 s2:Value} {q:List Entry} {t:List Row} {d n:Int} (h:Hst W0 W n0 b p r c s1 s2 q t d n) (hb:Ext W W'):Hst W0 W' n0 b p r c s1 s2 q t d n:=by
 obtain ⟨h1,h2,⟨hh,f,h3⟩,h4⟩:=h
 exact ⟨(hb.block b (blk_lt h1)).trans h1,h2.ext hb,⟨hh,f,h3.ext hb⟩,h4.trans (hb.mono h4.size)⟩
theorem Hst.pop {W0 W W':World} {n0 b p r:Nat} {c:Client} {s1 s2:Value} {q q':List Entry} {t:List Row} {d n:Int} (h:Hst W0 W n0 b p r c s1 s2 q t d n) (hg:W.grownBy W' (some r)) (hr:∃ h f,Ring W' r h f q') (hbr:b≠r) (hpr:p≠r) (h0:W0.heap.size≤r):Hst W0 W' n0 b p r c s1 s2 q' t d n:=by
 obtain ⟨h1,h2,⟨hh,f,h3⟩,h4⟩:=h
 obtain ⟨cs,hcs⟩:=rowIs_blk h3.row
 exact ⟨(hg.block b (blk_lt h1) (fun e=>hbr (by injection e))).trans h1,h2.grown hg hcs (by decide) hpr,hr,ext_grown h4 hg h4.size (fun k e=>by injection e with e;omega)⟩
theorem Hst.done {W0 W:World} {n0 b p r:Nat} {c:Client} {s1 s2:Value} {q:List Entry} {t:List Row} {d n d':Int} (h:Hst W0 W n0 b p r c s1 s2 q t d n) (hbr:r≠b) (hpr:p≠b) (h0:W0.heap.size≤b):Hst W0 (W.setCell ⟨b,4,none⟩ (.int .i64 d')) n0 b p r c s1 s2 q t d' n:=by
 obtain ⟨h1,h2,⟨hh,f,h3⟩,h4⟩:=h
 exact ⟨set_at h1,h2.grown (gset_any W b _ _) h1 (by decide) hpr,⟨hh,f,h3.of_block (setx hbr)⟩,h4.setCell h0 _⟩
theorem Hst.seen {W0 W:World} {n0 b p r:Nat} {c:Client} {s1 s2:Value} {q:List Entry} {t:List Row} {d n n':Int} (h:Hst W0 W n0 b p r c s1 s2 q t d n) (hbr:r≠b) (hpr:p≠b) (h0:W0.heap.size≤b):Hst W0 (W.setCell ⟨b,1,none⟩ (.int .i64 n')) n0 b p r c s1 s2 q t d n':=by
 obtain ⟨h1,h2,⟨hh,f,h3⟩,h4⟩:=h
 exact ⟨set_at h1,h2.grown (gset_any W b _ _) h1 (by decide) hpr,⟨hh,f,h3.of_block (setx hbr)⟩,h4.setCell h0 _⟩
theorem Hst.page {W0 W W':World} {n0 b p r:Nat} {c:Client} {s1 s2:Value} {q:List Entry} {t t':List Row} {d n:Int} (h:Hst W0 W n0 b p r c s1 s2 q t d n) (hg:W.grownBy W' (some p)) (hp:Page W' n0 p t') (hbp:b≠p) (hpr:r≠p) (h0:W0.heap.size≤p):Hst W0 W' n0 b p r c s1 s2 q t' d n:=by
 obtain ⟨h1,h2,⟨hh,f,h3⟩,h4⟩:=h
 exact ⟨(hg.block b (blk_lt h1) (fun e=>hbp (by injection e))).trans h1,hp,⟨hh,f,h3.of_block (hg.block r h3.row.lt (fun e=>hpr (by injection e)))⟩,ext_grown h4 hg h4.size (fun k e=>by injection e with e;omega)⟩
set_option maxRecDepth 100000 in
set_option maxHeartbeats 4000000 in
theorem clientHear_go (c:Client) (v:Value) (frm:Int) (A:Option Addr) (cap:Nat) (l:List Entry) (w:World) (ht:Tab w) (h:CV w c v) (hr:Rd w A cap l) (hok:clientOk c=true) (hf0:¬frm<0) (hf1:¬40<frm) (hall:∀ x∈l,entryOk x=true) (hn1:¬c.seen<frm) (hn2:¬40 - frm<l.length) :
  Calls Tryz.prog 18 #[v,.int .i64 frm,.slice A l.length cap] w fun r w'=>∃ v',r=.returned (.tuple #[v',.bool (clientHear c frm l).2])∧CO w' w.heap.size (clientHear c frm l).1 v'∧Ext w w':=by
 have HALL:=Lib.hid hall;have HOK:=Lib.hid hok
 have hres:clientHear c frm l=(match hearL c.who (l.drop (min (c.seen - frm) l.length).toNat) c.wait c.base c.done c.seen with | none=>(c,false) | some (q,t,d,n)=>(⟨c.who,n,t,q,d,c.made⟩,true)):=by
  have:l.all entryOk=true:=List.all_eq_true.2 hall
  unfold clientHear;rw [if_neg (by rw [hok];simp;omega),if_neg (by rw [this];simp),if_neg (by omega)]
  try rfl
 have HRes:=Lib.hid hres
 clear hall hres
 obtain ⟨A1,n1,A2,n2,rfl,h1,h2⟩:=h
 have hll:l.length≤maxLen:=Nat.le_trans hr.1 hr.2.1
 unfold maxLen at hll
 have H1:=Lib.hid h1;have H2:=Lib.hid h2;have HT:=Lib.hid ht;have HR:=Lib.hid hr
 have hX:=two_new w (oC c A1 n1 A2 n2) oC0
 have hE0:Ext w ((w.alloc (oC c A1 n1 A2 n2)).alloc oC0):=((Below.refl _ w).alloc (Nat.le_refl _) _).alloc (by rw [alloc_sz];omega) _
 have hs0:((w.alloc (oC c A1 n1 A2 n2)).alloc oC0).heap.size=w.heap.size+2:=by rw [alloc_sz,alloc_sz]
 have HC:=Lib.hid (clientOk_c c _ ((w.alloc (oC c A1 n1 A2 n2)).alloc oC0) ((ht.alloc _).alloc _) ⟨A1,n1,A2,n2,rfl,(h1.alloc _).alloc _,(h2.alloc _).alloc _⟩)
 have hno:∀ W:World,Ext ((w.alloc (oC c A1 n1 A2 n2)).alloc oC0) W→Ext w W∧W.heap[w.heap.size]?=some (.cells (cC c A1 n1 A2 n2) 26 (0,0))∧W.heap[w.heap.size+1]?=some (.cells cC0 26 (0,0)):=fun W hW=>
  ⟨hE0.trans (hW.mono (by rw [hs0];omega)),(hW.block _ (by rw [hs0];omega)).trans hX.1,(hW.block _ (by rw [hs0];omega)).trans hX.2⟩
 have HNO:=Lib.hid hno
 clear h1 h2 ht hr hX hE0 hs0 hno
 go_enter Tryz.func18,Tryz.ntmps18
 go_wp2_with fail
 refine HC.out.mono ?_
 rintro e w1 ⟨rfl,hb1⟩
 obtain ⟨hE1,hx1,hy1⟩:=HNO.out w1 hb1
 obtain ⟨c0,c1,c2,c3,c4,c5,cf⟩:=six_cells hx1
 obtain ⟨d0,d1,d2,d3,d4,d5,df⟩:=six_cells hy1
 have HB1:=Lib.hid hb1;have HX1:=Lib.hid hx1;have HY1:=Lib.hid hy1;have HE1:=Lib.hid hE1
 clear hb1 hx1 hy1 hE1 HC
 rw [hok]
 clear hok
 go_wp2_with fail
 clear c0 c1 c2 c3 c4 c5 cf d0 d1 d2 d3 d4 d5 df
 go_loopg [29] l.length (fun gk i wr=>∃ k:Nat,k≤l.length∧Hid (gk=l.length - k)∧i=.int .i64 k∧Hid (∀ j (hj:j<l.length),j<k→entryOk l[j]=true)∧Hid (Ext ((w.alloc (oC c A1 n1 A2 n2)).alloc oC0) wr))
 case atStart=>exact ⟨0,Nat.zero_le _,rfl,rfl,fun j _ h=>by omega,HB1.out⟩
 case round=>
  obtain ⟨k,hk,HK,rfl,HG,HW⟩:=hrel
  obtain ⟨hEx,hxr,hyr⟩:=HNO.out _ HW.out
  have HEX:=Lib.hid hEx;have HXR:=Lib.hid hxr;have HYR:=Lib.hid hyr
  have hgt:w.heap.size+1<wr.heap.size:=blk_lt hyr
  clear hxr hyr
  by_cases hlt:k<l.length
  ·obtain ⟨b,off,rfl,hbl,e0,e1,e2,e3,e4,e5,e6⟩:=ent_at (HR.out.ext hEx) k hlt
   have hbx:=World.alloc_heap_new wr (oN l[k])
   have hC:=entryOk_c l[k] (wr.alloc (oN l[k])) ((HT.out.below hEx HT.out.pos).alloc _) (HR.out.okAt k hlt)
   rw [HALL.out l[k] (List.getElem_mem hlt)] at hC
   have hC:=Lib.hid hC
   clear hEx
   go_wp2_with fail
   refine hC.out.mono ?_
   rintro e w2 ⟨rfl,hb2⟩
   have hW2:=HW.out.trans (((Below.refl _ wr).alloc HW.out.size _).trans (hb2.mono (Nat.le_trans HW.out.size (Nat.le_trans (Nat.le_succ _) (Nat.le_of_eq (alloc_sz _ _).symm)))))
   obtain ⟨hE2,hx2,hy2⟩:=HNO.out _ hW2
   have HW2:=Lib.hid hW2;have HE2:=Lib.hid hE2;have HY2:=Lib.hid hy2
   obtain ⟨d0,d1,d2,d3,d4,d5,df⟩:=six_cells hy2
   clear hbx hb2 hC hW2 hE2 hx2 hy2
   ·go_wp2_with fail
    go_roundg (l.length - (k+1))
    case measure=>have:=HK.out;omega
    case rel=>exact ⟨k+1,by omega,rfl,by go_num,fun j hj hjk=>HALL.out _ (List.getElem_mem hj),HW2.out⟩
  ·have hkl:k=l.length:=by omega
   obtain ⟨hw9,hs0,hs40,htr,hd0,hd1,hwl,hm0,hm1,hwt⟩:=clientOk_parts HOK.out
   have hbl:=treeOk_len htr
   have HTR:=Lib.hid htr
   obtain ⟨c0,c1,c2,c3,c4,c5,cf⟩:=six_cells HXR.out
   obtain ⟨d0,d1,d2,d3,d4,d5,df⟩:=six_cells HYR.out
   have HCP:=Lib.hid (copyClient_c c _ wr ⟨A1,n1,A2,n2,rfl,H1.out.ext hEx,H2.out.ext hEx⟩ (by omega) (by omega))
   clear hwt hw9 htr hEx HG HK
   go_wp2_with fail
   refine HCP.out.mono ?_
   rintro e w3 ⟨v3,rfl,⟨A5,n5,A6,n6,rfl,ho5,ho6⟩,hb3⟩
   have hx3:=(hb3.block w.heap.size (by omega)).trans HXR.out
   have hy3:=(hb3.block (w.heap.size+1) hgt).trans HYR.out
   have hs3:=hb3.size
   clear c0 c1 c2 c3 c4 c5 cf d0 d1 d2 d3 d4 d5 df
   obtain ⟨c0,c1,c2,c3,c4,c5,cf⟩:=six_cells hx3
   obtain ⟨d0,d1,d2,d3,d4,d5,df⟩:=six_cells hy3
   have HX3:=Lib.hid hx3;have HY3:=Lib.hid hy3;have HO5:=Lib.hid ho5;have HO6:=Lib.hid ho6;have HB3:=Lib.hid hb3
   clear hx3 hy3 ho5 ho6 hb3 HCP
   dsimp only
   iterate 6 (try go_step)
   clear c0 c1 c2 c3 c4 c5 cf d0 d1 d2 d3 d4 d5 df
   generalize hW1:(((((w3.setCell ⟨w.heap.size,0,none⟩ (.int .i64 c.who)).setCell ⟨w.heap.size,1,none⟩ (.int .i64 c.seen)).setCell ⟨w.heap.size,2,none⟩ (.slice A5 c.base.length n5)).setCell ⟨w.heap.size,3,none⟩ (.slice A6 c.wait.length n6)).setCell ⟨w.heap.size,4,none⟩ (.int .i64 c.done)).setCell ⟨w.heap.size,5,none⟩ (.int .i64 c.made)=W1
   have hsz1:W1.heap.size=w3.heap.size:=by rw [←hW1];exact put6_size _ _ _ _ _ _ _ _
   have hx4:W1.heap[w.heap.size]?=some (.cells (cC c A5 n5 A6 n6) 26 (0,0)):=by rw [←hW1];exact put6_at _ _ _ _ _ _ HX3.out
   have hy4:W1.heap[w.heap.size+1]?=some (.cells cC0 26 (0,0)):=by rw [←hW1];exact (put6_far _ _ _ _ _ _ (by omega)).trans HY3.out
   have hE4:Ext w W1:=by rw [←hW1];exact put6_below _ _ _ _ _ _ (HEX.out.trans (HB3.out.mono HEX.out.size)) (Nat.le_refl _)
   have ho5:Own 46 W1 wr.heap.size (.slice A5 c.base.length n5) c.base:=by rw [←hW1];exact HO5.out.of_blocks (fun k hk _=>put6_far _ _ _ _ _ _ (by omega))
   have ho6:Own 35 W1 wr.heap.size (.slice A6 c.wait.length n6) c.wait:=by rw [←hW1];exact HO6.out.of_blocks (fun k hk _=>put6_far _ _ _ _ _ _ (by omega))
   obtain ⟨c0,c1,c2,c3,c4,c5,cf⟩:=six_cells hx4
   have HX4:=Lib.hid hx4;have HY4:=Lib.hid hy4;have HE4:=Lib.hid hE4;have HO5':=Lib.hid ho5;have HO6':=Lib.hid ho6
   have hlt4:w.heap.size<W1.heap.size:=by omega
   have HSZ1:=Lib.hid hsz1
   have hlt5:w.heap.size+1<W1.heap.size:=by omega
   clear hsz1 hx4 hy4 hE4 ho5 ho6 hW1 HX3 HY3 HO5 HO6 HB3 HXR HYR
   go_wp2_with fail
   obtain ⟨A8,n8,e8,hr6⟩:=HO6'.out.rd
   cases e8
   have hX2:=two_new W1 (oC c A5 n5 A6 n6) (.cells #[.slice A5 c.base.length n5] 79)
   refine (ringOf_c A6 n6 c.wait _ ((hr6.alloc _).alloc _) (by omega)).mono ?_
   rintro e w5 ⟨rb,f5,rfl,hring,hrb,hb5⟩
   have hx5:=(hb5.block W1.heap.size (by rw [alloc_sz,alloc_sz];omega)).trans hX2.1
   have hy5:=(hb5.block (W1.heap.size+1) (by rw [alloc_sz,alloc_sz];omega)).trans hX2.2
   have hs5:=hb5.size
   rw [alloc_sz,alloc_sz] at hs5 hrb
   have hE5:Ext W1 w5:=((Below.refl _ W1).alloc (Nat.le_refl _) _).trans ((((Below.refl _ _).alloc (Nat.le_refl _) _).mono (by rw [alloc_sz];omega)).trans (hb5.mono (by rw [alloc_sz,alloc_sz];omega)))
   have z5:=(hE5.block w.heap.size hlt4).trans HX4.out
   clear c0 c1 c2 c3 c4 c5 cf
   obtain ⟨c0,c1,c2,c3,c4,c5,cf⟩:=six_cells z5
   have HX5:=Lib.hid hx5;have HY5:=Lib.hid hy5;have HE5:=Lib.hid hE5;have HRING:=Lib.hid hring
   clear hX2 hr6 hx5 hy5 hb5 hE5 z5 hring
   obtain ⟨k0,hk0⟩:∃ k0:Nat,min (c.seen - frm) (l.length:Int)=(k0:Int):=⟨(min (c.seen - frm) (l.length:Int)).toNat,by omega⟩
   have hk0l:k0≤l.length:=by omega
   have hcapl:=HR.out.1
   have hk0':k0≤40:=by omega
   obtain ⟨L,hL⟩:∃ L,L=l.drop k0:=⟨_,rfl⟩
   have hLl:l.length - k0=L.length:=by rw [hL,List.length_drop]
   have hrL:Rd w (fromA A cap k0 7) (cap - k0) L:=by rw [hL];exact HR.out.from_ k0 hk0l
   have hallL:∀ x∈L,entryOk x=true:=fun x hx=>HALL.out x (by rw [hL] at hx;exact List.mem_of_mem_drop hx)
   have hres:clientHear c frm l=(match hearL c.who L c.wait c.base c.done c.seen with | none=>(c,false) | some (q,t,d,n)=>(⟨c.who,n,t,q,d,c.made⟩,true)):=by
    rw [HRes.out,hk0,hL];rfl
   have hLm:L.length≤40:=by omega
   have hsl:=fun (W:World)=>run_from A l.length cap k0 hk0l W
   simp only [hLl] at hsl
   generalize fromA A cap k0 7=A7 at hsl hrL
   generalize cap - k0=n7 at hsl hrL
   have HRL:=Lib.hid hrL;have HALLL:=Lib.hid hallL;have HRES:=Lib.hid hres
   have hst:Hst W1 w5 wr.heap.size W1.heap.size (W1.heap.size+1) rb c (.slice A5 c.base.length n5) (.slice A6 c.wait.length n6) c.wait c.base c.done c.seen:=⟨HX5.out,⟨_,HY5.out,HO5'.out.below HE5.out⟩,⟨_,_,HRING.out⟩,HE5.out⟩
   have HST:=Lib.hid hst
   have hwW:wr.heap.size≤W1.heap.size:=by rw [HSZ1.out];exact hs3
   clear hrL hallL hres hst hL hLl HRes hs3 HW HB1 HX1 HY1 HE1 HNO H1 H2 HX5 HY5 HE5 HRING HSZ1 HTR
   go_wp2_with fail
   clear c0 c1 c2 c3 c4 c5 cf hsl
   obtain ⟨wo,rfl⟩:∃ wo:World,wo=wr:=⟨_,rfl⟩
   have hNE:∀ W6:World,Ext W1 W6→(put6 W6 (w.heap.size+1) (.int .i64 c.who) (.int .i64 c.seen) (.slice A5 c.base.length n5) (.slice A6 c.wait.length n6) (.int .i64 c.done) (.int .i64 c.made)).heap[w.heap.size+1]?=some (.cells (cC c A5 n5 A6 n6) 26 (0,0)) ∧
     CO (put6 W6 (w.heap.size+1) (.int .i64 c.who) (.int .i64 c.seen) (.slice A5 c.base.length n5) (.slice A6 c.wait.length n6) (.int .i64 c.done) (.int .i64 c.made)) w.heap.size c (.agg (cC c A5 n5 A6 n6)) ∧
     Ext w (put6 W6 (w.heap.size+1) (.int .i64 c.who) (.int .i64 c.seen) (.slice A5 c.base.length n5) (.slice A6 c.wait.length n6) (.int .i64 c.done) (.int .i64 c.made)):=fun W6 h6=>
    ⟨put6_at _ _ _ _ _ _ ((h6.block _ hlt5).trans HY4.out),CO.lower (base:=wo.heap.size) ⟨_,_,_,_,rfl,own_put6 (HO5'.out.below h6) ((h6.block _ hlt5).trans HY4.out) (by decide) _ _ _ _ _ _,own_put6 (HO6'.out.below h6) ((h6.block _ hlt5).trans HY4.out) (by decide) _ _ _ _ _ _⟩ (by omega),put6_below _ _ _ _ _ _ (HE4.out.trans (h6.mono HE4.out.size)) (Nat.le_succ _)⟩
   have HNE:=Lib.hid hNE
   clear hNE
   go_loopg [70] L.length (fun gk i wr=>∃ (k:Nat) (q:List Entry) (t:List Row) (d:Int),k≤L.length∧Hid (gk=L.length - k)∧i=.int .i64 k∧Hid (Hst W1 wr wo.heap.size W1.heap.size (W1.heap.size+1) rb c (.slice A5 c.base.length n5) (.slice A6 c.wait.length n6) q t d (c.seen+k))∧Hid (hearL c.who (L.drop k) q t d (c.seen+k)=hearL c.who L c.wait c.base c.done c.seen)∧0≤d∧d≤c.done+k)
   case atStart=>exact ⟨0,c.wait,c.base,c.done,Nat.zero_le _,rfl,rfl,by show Hst _ _ _ _ _ _ _ _ _ _ _ _ _;simpa using HST.out,by show _=_;simp,hd0,by omega⟩
   case round=>
    obtain ⟨k,q,t,d,hk,HK,rfl,HS,HH,hd2,hd3⟩:=hrel
    clear HST
    have hx6:=(HS.out.2.2.2.block w.heap.size hlt4).trans HX4.out
    have hsr:=HS.out.2.2.2.size
    have hs1:=blk_lt HS.out.1
    have hlt6:w.heap.size<wr.heap.size:=by omega
    obtain ⟨c0,c1,c2,c3,c4,c5,cf⟩:=six_cells hx6
    by_cases hltk:k<L.length
    ·have hEq:Ext w wr:=HE4.out.trans (HS.out.2.2.2.mono HE4.out.size)
     obtain ⟨b,off,rfl,hbl,e0,e1,e2,e3,e4,e5,e6⟩:=ent_at (HRL.out.ext hEq) k hltk
     have hHH:=HH.out
     rw [List.drop_eq_getElem_cons hltk] at hHH
     have hbe:=World.alloc_heap_new wr (oN L[k])
     have hea:Ext wr (wr.alloc (oN L[k])):=(Below.refl _ wr).alloc (Nat.le_refl _) _
     have hSA:=HS.out.ext hea
     have hcx:(c.seen+(k:Int))+1=c.seen+((k+1:Nat):Int):=by omega
     have hek:=HRL.out.okAt k hltk
     have HBE:=Lib.hid hbe;have HSA:=Lib.hid hSA;have HHH:=Lib.hid hHH;have HEQ:=Lib.hid hEq;have HCX:=Lib.hid hcx;have HEK:=Lib.hid hek
     clear hHH hbe hea hSA hEq hcx hek hx6
     by_cases hwho:L[k].who=c.who
     ·have hwho':(L[k].who == c.who)=true:=by simp [hwho]
      cases q with
      |nil=>
       have hnone:hearL c.who L c.wait c.base c.done c.seen=none:=by rw [←HHH.out];simp [hearL,hwho]
       have HNONE:=Lib.hid hnone
       obtain ⟨hh,f,hR⟩:=HSA.out.2.2.1
       have HRI:=Lib.hid hR
       clear hwho hnone hR
       go_wp2_with fail
       refine (popIf_nil rb hh f L[k] _ HRI.out).mono ?_
       rintro e w6 ⟨rfl,hb6⟩
       have hS6:=HSA.out.ext hb6
       have hx7:=(hS6.2.2.2.block w.heap.size hlt4).trans HX4.out
       clear c0 c1 c2 c3 c4 c5 cf e0 e1 e2 e3 e4 e5 e6
       obtain ⟨c0,c1,c2,c3,c4,c5,cf⟩:=six_cells hx7
       obtain ⟨d0,d1,d2,d3,d4,d5,df⟩:=six_cells ((hS6.2.2.2.block (w.heap.size+1) hlt5).trans HY4.out)
       have HS6:=Lib.hid hS6
       clear hS6 hx7 hb6
       go_wp2_with fail
       obtain ⟨hz,hco,hE⟩:=HNE.out _ HS6.out.2.2.2
       obtain ⟨k0,k1,k2,k3,k4,k5,kf⟩:=six_cells hz
       refine bodyPost_ret (v:=.tuple #[.agg (cC c A5 n5 A6 n6),.bool false]) ?_ rfl ?_
       ·simp [results,Tryz.f18,go_sem,k0,k1,k2,k3,k4,k5]
       ·have hr9:clientHear c frm l=(c,false):=by rw [HRES.out,HNONE.out]
        exact ⟨_,by rw [hr9],by rw [hr9];exact hco,hE⟩
      |cons x q=>
       obtain ⟨hh,f,hR⟩:=HSA.out.2.2.1
       have hrl:=hR.row.lt
       rw [alloc_sz] at hrl
       have hrne:rb≠wr.heap.size:=by
        obtain ⟨h9,f9,h8⟩:=HS.out.2.2.1
        have:=h8.row.lt;omega
       have HRI:=Lib.hid hR
       by_cases hx:x=L[k]
       ·have hC:=popIf_cons rb hh f x q L[k] _ HRI.out
        simp only [hx,decide_true,↓reduceIte] at hC
        have HC:=Lib.hid hC
        have hnext:hearL c.who (L.drop (k+1)) q (opDo t L[k].op) (d+1) (c.seen+((k+1:Nat):Int))=hearL c.who L c.wait c.base c.done c.seen:=by rw [←HHH.out,←HCX.out];simp [hearL,hwho,hx]
        have HNX:=Lib.hid hnext
        clear hC hx hwho hR hnext
        go_wp2_with fail
        refine HC.out.mono ?_
        rintro e w6 ⟨rfl,hR6,hg6⟩
        have hS6:=HSA.out.pop hg6 ⟨_,hR6⟩ (by omega) (by omega) (by omega)
        have hgs:=hg6.size
        rw [alloc_sz] at hgs
        clear c0 c1 c2 c3 c4 c5 cf e0 e1 e2 e3 e4 e5 e6
        obtain ⟨c0,c1,c2,c3,c4,c5,cf⟩:=six_cells hS6.1
        have he6:=(hg6.block wr.heap.size (by rw [alloc_sz];omega) (fun e=>hrne (by injection e with e;exact e.symm))).trans HBE.out
        obtain ⟨e0,e1,e2,e3,e4,e5,e6,ef⟩:=seven_cells he6
        have HS6:=Lib.hid (hS6.done (d':=d+1) (by omega) (by omega) (Nat.le_refl _))
        have hgs2:wr.heap.size<w6.heap.size:=by omega
        have hgs3:W1.heap.size<w6.heap.size:=by omega
        clear hS6 he6 hR6 hg6
        go_wp2_with fail
        refine (pageDo_c wo.heap.size (W1.heap.size+1) t L[k] _ (HT.out.below (HE4.out.trans (HS6.out.2.2.2.mono HE4.out.size)) HT.out.pos) HS6.out.2.1 (by rw [setsz];omega) (by omega) HEK.out).mono ?_
        rintro e w8 ⟨rfl,hp8,hg8⟩
        have hS8:=HS6.out.page hg8 hp8 (by omega) (by omega) (by omega)
        clear c0 c1 c2 c3 c4 c5 cf e0 e1 e2 e3 e4 e5 e6 ef
        obtain ⟨c0,c1,c2,c3,c4,c5,cf⟩:=six_cells hS8.1
        have HS8:=Lib.hid hS8
        clear hS8 hp8 hg8
        go_wp2_with fail
        go_roundg (L.length - (k+1))
        case measure=>have:=HK.out;omega
        case rel=>
         refine ⟨k+1,q,opDo t L[k].op,d+1,by omega,rfl,by go_num,?_,HNX.out,by omega,by omega⟩
         show Hst _ _ _ _ _ _ _ _ _ _ _ _ _
         rw [←HCX.out]
         exact HS8.out.seen (by omega) (by omega) (by omega)
       ·have hnone:hearL c.who L c.wait c.base c.done c.seen=none:=by rw [←HHH.out];simp [hearL,hwho,hx]
        have HNONE:=Lib.hid hnone
        clear hwho hnone hR
        have hC:=popIf_cons rb hh f x q L[k] _ HRI.out
        simp only [hx,decide_false,↓reduceIte] at hC
        have HC:=Lib.hid hC
        clear hC hx
        go_wp2_with fail
        refine HC.out.mono ?_
        rintro e w6 ⟨rfl,hR6,hg6⟩
        have hS6:=HSA.out.pop hg6 ⟨_,_,hR6⟩ (by omega) (by omega) (by omega)
        have hx7:=(hS6.2.2.2.block w.heap.size hlt4).trans HX4.out
        clear c0 c1 c2 c3 c4 c5 cf e0 e1 e2 e3 e4 e5 e6
        obtain ⟨c0,c1,c2,c3,c4,c5,cf⟩:=six_cells hx7
        obtain ⟨d0,d1,d2,d3,d4,d5,df⟩:=six_cells ((hS6.2.2.2.block (w.heap.size+1) hlt5).trans HY4.out)
        have HS6:=Lib.hid hS6
        clear hS6 hx7 hR6 hg6
        go_wp2_with fail
        obtain ⟨hz,hco,hE⟩:=HNE.out _ HS6.out.2.2.2
        obtain ⟨k0,k1,k2,k3,k4,k5,kf⟩:=six_cells hz
        refine bodyPost_ret (v:=.tuple #[.agg (cC c A5 n5 A6 n6),.bool false]) ?_ rfl ?_
        ·simp [results,Tryz.f18,go_sem,k0,k1,k2,k3,k4,k5]
        ·have hr9:clientHear c frm l=(c,false):=by rw [HRES.out,HNONE.out]
         exact ⟨_,by rw [hr9],by rw [hr9];exact hco,hE⟩
     ·have hwho':(L[k].who == c.who)=false:=by simp [hwho]
      have hnext:hearL c.who (L.drop (k+1)) q (opDo t L[k].op) d (c.seen+((k+1:Nat):Int))=hearL c.who L c.wait c.base c.done c.seen:=by rw [←HHH.out,←HCX.out];simp [hearL,hwho]
      have HNX:=Lib.hid hnext
      clear hwho hnext
      go_wp2_with fail
      refine (pageDo_c wo.heap.size (W1.heap.size+1) t L[k] _ ((HT.out.below HEQ.out HT.out.pos).alloc _) HSA.out.2.1 (by rw [alloc_sz];omega) (by omega) HEK.out).mono ?_
      rintro e w8 ⟨rfl,hp8,hg8⟩
      have hS8:=HSA.out.page hg8 hp8 (by omega) (by omega) (by omega)
      clear c0 c1 c2 c3 c4 c5 cf e0 e1 e2 e3 e4 e5 e6
      obtain ⟨c0,c1,c2,c3,c4,c5,cf⟩:=six_cells hS8.1
      have HS8:=Lib.hid hS8
      clear hS8 hp8 hg8
      go_wp2_with fail
      go_roundg (L.length - (k+1))
      case measure=>have:=HK.out;omega
      case rel=>
       refine ⟨k+1,q,opDo t L[k].op,d,by omega,rfl,by go_num,?_,HNX.out,hd2,by omega⟩
       show Hst _ _ _ _ _ _ _ _ _ _ _ _ _
       rw [←HCX.out]
       exact HS8.out.seen (by omega) (by omega) (by omega)
    ·have hkL:k=L.length:=by omega
     obtain ⟨hpb,hpg,⟨hh,f,hR⟩,hE1⟩:=HS.out
     obtain ⟨vp,hp1,hp2⟩:=hpg
     obtain ⟨A8,n8,rfl,-⟩:=hp2.rd
     have hsome:hearL c.who L c.wait c.base c.done c.seen=some (q,t,d,c.seen+k):=by rw [←HH.out,hkL,List.drop_length];rfl
     have HSOME:=Lib.hid hsome
     clear c0 c1 c2 c3 c4 c5 cf hsome hkL
     obtain ⟨c0,c1,c2,c3,c4,c5,cf⟩:=six_cells hpb
     have cp:=hp1.cell
     have fp:=hp1.frozen
     have HPB:=Lib.hid hpb;have HP2:=Lib.hid hp2
     have hR2:Ring (wr.setCell ⟨W1.heap.size,2,none⟩ (.slice A8 t.length n8)) rb hh f q:=hR.of_block (setx (by omega))
     have HR2:=Lib.hid hR2
     have HE1:=Lib.hid hE1
     clear hpb hp2 hR hR2 hE1 hp1 hx6
     go_wp2_with fail
     refine (entries_c rb hh f q _ HR2.out).mono ?_
     rintro e w9 ⟨v9,rfl,ho9,hb9⟩
     obtain ⟨A9,n9,rfl,-⟩:=ho9.rd
     have hbs:=hb9.size
     rw [setsz] at hbs
     have hz9:=(hb9.block W1.heap.size (by rw [setsz];exact hs1)).trans (set_at HPB.out)
     clear c0 c1 c2 c3 c4 c5 cf cp fp
     obtain ⟨c0,c1,c2,c3,c4,c5,cf⟩:=six_cells (v0:=.int .i64 c.who) (v1:=.int .i64 (c.seen+k)) (v2:=.slice A8 t.length n8) (v3:=.slice A6 c.wait.length n6) (v4:=.int .i64 d) (v5:=.int .i64 c.made) hz9
     have hE9:Ext W1 w9:=(HE1.out.setCell (Nat.le_refl _) _).trans (hb9.mono (by rw [setsz];omega))
     have hy9:=(hE9.block (w.heap.size+1) hlt5).trans HY4.out
     obtain ⟨d0,d1,d2,d3,d4,d5,df⟩:=six_cells hy9
     have HO9:=Lib.hid ho9;have HB9:=Lib.hid hb9;have HZ9:=Lib.hid hz9;have HE9:=Lib.hid hE9;have HY9:=Lib.hid hy9
     have hlt7:W1.heap.size<w9.heap.size:=by omega
     have hlt8:w.heap.size+1<w9.heap.size:=by omega
     clear ho9 hb9 hz9 hE9 hy9
     go_wp2_with fail
     have hz:=put6_at (W:=w9.setCell ⟨W1.heap.size,3,none⟩ (.slice A9 q.length n9)) (b:=w.heap.size+1) (.int .i64 c.who) (.int .i64 (c.seen+k)) (.slice A8 t.length n8) (.slice A9 q.length n9) (.int .i64 d) (.int .i64 c.made) ((setx (by omega)).trans HY9.out)
     obtain ⟨k0,k1,k2,k3,k4,k5,kf⟩:=six_cells hz
     refine bodyPost_ret (v:=.tuple #[.agg #[.int .i64 c.who,.int .i64 (c.seen+k),.slice A8 t.length n8,.slice A9 q.length n9,.int .i64 d,.int .i64 c.made],.bool true]) ?_ rfl ?_
     ·simp [results,Tryz.f18,go_sem,k0,k1,k2,k3,k4,k5]
     ·have hr9:clientHear c frm l=(⟨c.who,c.seen+k,t,q,d,c.made⟩,true):=by rw [HRES.out,HSOME.out]
      refine ⟨_,by rw [hr9],?_,put6_below _ _ _ _ _ _ ((HE4.out.trans (HE9.out.mono HE4.out.size)).setCell (show w.heap.size≤W1.heap.size by omega) _) (Nat.le_succ _)⟩
      rw [hr9]
      have r1:Own 46 w9 wo.heap.size (.slice A8 t.length n8) t:=(own_put HP2.out HPB.out (by decide) _ _).below HB9.out
      have hy10:=(setx (o:=3) (v:=.slice A9 q.length n9) (b:=W1.heap.size) (by omega)).trans HY9.out
      refine CO.lower (base:=wo.heap.size) ⟨_,_,_,_,rfl,own_put6 (own_put r1 HZ9.out (by decide) _ _) hy10 (by decide) _ _ _ _ _ _,own_put6 (own_put (HO9.out.lower (by rw [setsz];omega)) HZ9.out (by decide) _ _) hy10 (by decide) _ _ _ _ _ _⟩ (by omega)
open Go.RowKit Go.Lib
open Flat
structure El (α:Type) [Flat α] (e s:TypeId):Prop where
 und:Tryz.prog.underlying s=some (.slice e)
 info:∃ (i:TypeInfo) (z:Value),Tryz.prog.info? e=some i∧i.zero=some z∧i.size=sz α∧i.bytes≤200∧z.cells.size=sz α
theorem info_of {e:TypeId} {z:Value} {n b m:Nat} (h:∃ i:TypeInfo,Tryz.prog.info? e=some i∧i.zero=some z∧i.size=n∧i.bytes=b) (hb:b≤200) (hz:z.cells.size=m) (hm:n=m):∃ (i:TypeInfo) (z:Value),Tryz.prog.info? e=some i∧i.zero=some z∧i.size=m∧i.bytes≤200∧z.cells.size=m:=by
 obtain ⟨i,h1,h2,h3,h4⟩:=h
 exact ⟨i,z,h1,h2,by omega,by omega,hz⟩
theorem el_row:El Row 46 23:=⟨und_rows,info_of row_info (by decide) rfl rfl⟩
theorem el_ent:El Entry 35 24:=⟨und_ents,info_of ent_info (by decide) rfl rfl⟩
theorem int_info:∃ i:TypeInfo,Tryz.prog.info? 3=some i∧i.zero=some (.int .i64 0)∧i.size=1∧i.bytes=8:=info_parts (by kernel_rfl)
theorem el_int:El Int 3 118:=⟨by kernel_rfl,info_of int_info (by decide) rfl rfl⟩
section
variable {α:Type} [Flat α] {e s:TypeId}
theorem run_app_none (E:El α e s) {w:World} {base:Nat} {v:Value} {l:List α} (h:Own e w base v l) (c:Nat):(Builtin.append_ #[s,s] s #[v,.slice none 0 c]).run Tryz.prog w=.ok v w:=by
 obtain ⟨i,z,hi,hz,hs,-,-⟩:=E.info
 rcases h.1.2 with ⟨rfl,_⟩ | ⟨g,cap,cur,rfl,_,_,hnc,_⟩
 ·simp [Builtin.append_,run_underlying E.und,sizeOf,typeInfo,hi,Builtin.lenOf,Builtin.firstCells]
 ·simp [Builtin.append_,run_underlying E.und,sizeOf,typeInfo,hi,Builtin.lenOf,Builtin.firstCells,hnc,storeCells]
theorem grown_refl (w:World) (row:Option Nat):w.grownBy w row:=⟨rfl,rfl,rfl,Nat.le_refl _,fun _ _ _=>rfl⟩
theorem Own.over {w w1:World} {base B:Nat} {v:Value} {l:List α} (h:Own e w base v l) {w0:World} (hb:Below B w0 w) (hg:w.grownBy w1 v.ownBlock) (hB:B≤base) (hs:B≤w.heap.size):Below B w0 w1:=
 ext_grown hb hg hs (fun k hk=>Nat.le_trans hB (h.blk k hk).1)
theorem app_at (E:El α e s) {w:World} {base:Nat} {v:Value} {l:List α} (h:Own e w base v l) {A:Option Addr} {c:Nat} {m:List α} (hr:Rd w A c m) (hl:l.length+m.length≤1000000) (hb:base≤w.heap.size) :
  ∃ v' w',(Builtin.append_ #[s,s] s #[v,.slice A m.length c]).run Tryz.prog w=.ok v' w'∧Own e w' base v' (l++m)∧w.grownBy w' v.ownBlock:=by
 cases A with
 |none=>
  have hm:m=[]:=by
   cases m with
   |nil=>rfl
   |cons x m=>obtain ⟨b,off,h,_⟩:=hr.2.2.1 (by simp);cases h
  subst hm
  exact ⟨v,w,run_app_none E h c,by simpa using h,grown_refl _ _⟩
 |some a=>
  obtain ⟨i,z,hi,hz,hs,hby,hzs⟩:=E.info
  have hn:∀ j u,(flat m)[j]?=some u→w.cell? (a.add j)=some u:=by
   intro j u hj
   have hml:0<m.length:=by
    cases m with
    |nil=>simp [flat] at hj
    |cons x m=>simp
   obtain ⟨b,off,h,hc⟩:=hr.2.2.1 hml
   cases h
   have e1:(⟨b,off,none⟩:Addr).add j=⟨b,off+j,none⟩:=by unfold Addr.add;split <;> simp_all
   rw [e1]
   exact hc j u hj
  have hbb:(l.length+m.length)*i.bytes≤1000000*200:=Nat.mul_le_mul hl hby
  obtain ⟨v',w',hrun,hown,hgrow,-,-⟩:=run_append_own_at (P:=Tryz.prog) (w:=w) base s s e i z (sz α) i.bytes E.und hi hz hs rfl hzs Flat.pos v l.length (flat l) h.1 a m.length c (flat m) (flat_length m) hn (flat_one_cell m) (by unfold maxLen;omega) (by omega) hb
  refine ⟨v',w',hrun,⟨?_,?_⟩,hgrow⟩
  ·rw [List.length_append,flat_append];exact hown
  ·intro x hx
   rcases List.mem_append.1 hx with h1 | h1
   ·exact h.2 x h1
   ·exact hr.ok x h1
theorem rd_box (w:World) (x:α) (hx:okE x) (cs:Array Value) (hc:cs.toList=enc x) (ty:TypeId):Rd (w.alloc (.cells cs ty)) (some ⟨w.heap.size,0,none⟩) 1 [x]:=by
 refine ⟨by simp,by simp [maxLen],fun _=>⟨w.heap.size,0,rfl,fun j v hv=>?_⟩,by simpa using hx⟩
 rw [flat_one,←hc] at hv
 have hj:j<cs.size:=by have:=(List.getElem?_eq_some_iff.1 hv).1;simpa using this
 rw [Array.getElem?_toList] at hv
 have h9:=World.alloc_heap_new w (.cells cs ty)
 unfold World.cell?
 simp only [h9,Nat.zero_add]
 exact hv
theorem app_one (E:El α e s) {w:World} {base:Nat} {v:Value} {l:List α} (h:Own e w base v l) (x:α) (hx:okE x) (hl:l.length<1000000) (hb:base≤w.heap.size) (cs:Array Value) (hc:cs.toList=enc x) :
  ∃ v' w',(Builtin.append_ #[s,s] s #[v,.slice (some ⟨w.heap.size,0,none⟩) 1 1]).run Tryz.prog (w.alloc (.cells cs e))=.ok v' w'∧Own e w' base v' (l++[x])∧(w.alloc (.cells cs e)).grownBy w' v.ownBlock:=by
 have h9:=app_at E (h.below ((Below.refl _ _).alloc (Nat.le_refl _) (.cells cs e))) (rd_box w x hx cs hc e) (by simp;omega) (by rw [alloc_sz];omega)
 rw [List.length_singleton] at h9
 exact h9
theorem Own.over_one {w w1:World} {base B:Nat} {v:Value} {l:List α} (h:Own e w base v l) {o:Obj} {w0:World} (hb:Below B w0 w) (hg:(w.alloc o).grownBy w1 v.ownBlock) (hB:B≤base) (hs:B≤w.heap.size):Below B w0 w1:=
 (h.below ((Below.refl _ _).alloc (Nat.le_refl _) o)).over (hb.alloc hs o) hg hB (by rw [alloc_sz];omega)
theorem own_made (w:World) (base:Nat) (hb:base≤w.heap.size):Own e (w.alloc (.cells #[] e)) base (.slice (some ⟨w.heap.size,0,none⟩) 0 0) ([]:List α):=
 ⟨World.ownsRow_made w #[] 0 hb (Nat.zero_le _) (by simp),by simp⟩
end
/-! ### cuts -/
theorem run_cut {α:Type} [Flat α] {e s:TypeId} (E:El α e s) (A:Option Addr) (n c k:Nat) (hk:k≤n) (w:World):(Instr.slice s (.slice A n c) (some (.int .i64 k)) none none).run Tryz.prog w=.ok (.slice (fromA A c k (sz α)) (n - k) (c - k)) w:=by
 obtain ⟨i,z,hi,hz,hs,hby,hzs⟩:=E.info
 have he:Tryz.prog.elem s=e:=by unfold Program.elem;rw [E.und]
 have hu:Tryz.prog.underlying s=some (.slice (Tryz.prog.elem s)):=by rw [he];exact E.und
 rw [run_slice_l w s A n c hu .i64 k (by omega) (by omega),he]
 have h2:(sizeOf e).run Tryz.prog w=.ok (sz α) w:=by simp [sizeOf,typeInfo,hi,hs]
 rw [h2]
 rfl
theorem run_head {α:Type} [Flat α] {e s:TypeId} (E:El α e s) (A:Option Addr) (n c k:Nat) (hk:k≤c) (w:World):(Instr.slice s (.slice A n c) none (some (.int .i64 k)) none).run Tryz.prog w=.ok (.slice (fromA A c 0 (sz α)) k c) w:=by
 obtain ⟨i,z,hi,hz,hs,hby,hzs⟩:=E.info
 have he:Tryz.prog.elem s=e:=by unfold Program.elem;rw [E.und]
 have hu:Tryz.prog.underlying s=some (.slice (Tryz.prog.elem s)):=by rw [he];exact E.und
 rw [run_slice_h w s A n c hu .i64 k (by omega) (by omega),he]
 have h2:(sizeOf e).run Tryz.prog w=.ok (sz α) w:=by simp [sizeOf,typeInfo,hi,hs]
 rw [h2]
 rfl
theorem run_mid {α:Type} [Flat α] {e s:TypeId} (E:El α e s) (A:Option Addr) (n c k m:Nat) (hk:k≤m) (hm:m≤c) (w:World):(Instr.slice s (.slice A n c) (some (.int .i64 k)) (some (.int .i64 m)) none).run Tryz.prog w=.ok (.slice (fromA A c k (sz α)) (m - k) (c - k)) w:=by
 obtain ⟨i,z,hi,hz,hs,hby,hzs⟩:=E.info
 have he:Tryz.prog.elem s=e:=by unfold Program.elem;rw [E.und]
 have hu:Tryz.prog.underlying s=some (.slice (Tryz.prog.elem s)):=by rw [he];exact E.und
 rw [run_slice_lh w s A n c hu .i64 .i64 k m (by omega) (by omega) (by omega),he]
 have h2:(sizeOf e).run Tryz.prog w=.ok (sz α) w:=by simp [sizeOf,typeInfo,hi,hs]
 rw [h2]
 rfl
theorem Rd.head {α:Type} [Flat α] {w:World} {A:Option Addr} {c:Nat} {l:List α} (h:Rd w A c l) (k:Nat):Rd w (fromA A c 0 (sz α)) c (l.take k):=by
 have h1:=(h.from_ 0 (by omega)).take k
 simpa using h1
theorem Rd.mid {α:Type} [Flat α] {w:World} {A:Option Addr} {c:Nat} {l:List α} (h:Rd w A c l) (k m:Nat) (hk:k≤l.length):Rd w (fromA A c k (sz α)) (c - k) ((l.drop k).take (m - k)):=(h.from_ k hk).take _
/-! ### storing into a slice of the call's own -/
section
variable {α:Type} [Flat α] {e s:TypeId}
theorem flat_set (l:List α) (k:Nat) (hk:k<l.length) (x:α) (j:Nat) (u:Value) (hj:j<sz α) (h:enc x=(enc l[k]).set j u):flat (l.set k x)=(flat l).set (k*sz α+j) u:=by
 induction l generalizing k with
 |nil=>simp at hk
 |cons y l ih=>
  cases k with
  |zero=>
   simp only [List.getElem_cons_zero] at h
   rw [List.set_cons_zero,flat_cons,flat_cons,h,Nat.zero_mul,Nat.zero_add,List.set_append_left _ _ (by rw [Flat.len];exact hj)]
  |succ k=>
   simp only [List.getElem_cons_succ] at h
   have hk':k<l.length:=by simpa using hk
   rw [List.set_cons_succ,flat_cons,flat_cons,ih k hk' h,List.set_append_right _ _ (by rw [Flat.len,Nat.add_mul];omega)]
   congr 2
   rw [Flat.len,Nat.add_mul];omega
theorem Own.some_ {w:World} {base:Nat} {v:Value} {l:List α} (h:Own e w base v l) (hl:0<l.length):∃ g cap,v=.slice (some ⟨g,0,none⟩) l.length cap∧base≤g∧g<w.heap.size∧(∀ o,w.frozen? ⟨g,o,none⟩=false)∧l.length≤cap:=by
 rcases h.1.2 with ⟨_,h0⟩ | ⟨g,cap,cur,rfl,hb,hh,hn,hc,hs,ht⟩
 ·omega
 ·exact ⟨g,cap,rfl,hb,blk_lt hh,fun o=>h.1.frozenAt o,hn⟩
theorem Own.store {w:World} {base g cap:Nat} {l:List α} (h:Own e w base (.slice (some ⟨g,0,none⟩) l.length cap) l) (k:Nat) (hk:k<l.length) (x:α) (hx:okE x) (j:Nat) (u:Value) (hj:j<sz α) (he:enc x=(enc l[k]).set j u) :
  Own e (w.setCell ⟨g,k*sz α+j,none⟩ u) base (.slice (some ⟨g,0,none⟩) l.length cap) (l.set k x)∧w.grownBy (w.setCell ⟨g,k*sz α+j,none⟩ u) (some g):=by
 obtain ⟨h1,h2⟩:=h.1.stored (k*sz α+j) u
 refine ⟨⟨?_,fun y hy=>?_⟩,h2⟩
 ·rw [List.length_set,flat_set l k hk x j u hj he];exact h1
 ·rcases List.mem_or_eq_of_mem_set hy with h3 | h3
  ·exact h.2 y h3
  ·rw [h3];exact hx
end
open Go.RowKit
def kidsTo (t:List Row) (a k:Nat):List Int:=(((t.take k).drop (a+1)).filter (fun r=>decide (r.depth=depAt t a+1))).map (·.id)
theorem depAt_lt (t:List Row) (a:Nat) (ha:a<t.length):depAt t a=t[a].depth:=by unfold depAt;rw [List.getD_eq_getElem?_getD,List.getElem?_eq_getElem ha];rfl
theorem kidsTo_start (t:List Row) (a:Nat):kidsTo t a (a+1)=[]:=by unfold kidsTo;rw [List.drop_of_length_le (by rw [List.length_take];omega)];rfl
theorem kidsTo_next (t:List Row) (a k:Nat) (hk:k<t.length) (ha:a<k):kidsTo t a (k+1)=if t[k].depth=depAt t a+1 then kidsTo t a k++[t[k].id] else kidsTo t a k:=by
 unfold kidsTo
 rw [List.take_succ_eq_append_getElem hk,List.drop_append_of_le_length (by rw [List.length_take];omega),List.filter_append,List.map_append]
 by_cases h:t[k].depth=depAt t a+1 <;> simp [h]
theorem below_eq (t:List Row) (a:Nat):(t.take (endOf t a)).drop (a+1)=below t a:=by
 have h:below t a=(t.drop (a+1)).take (below t a).length:=by
  unfold below
  exact (List.prefix_iff_eq_take.1 (List.takeWhile_prefix _))
 rw [List.drop_take,endOf,show a+1+(below t a).length - (a+1)=(below t a).length by omega]
 exact h.symm
theorem kidsTo_end (t:List Row) (id:Int) (a:Nat) (h:idx t id=some a):kidsTo t a (endOf t a)=kidsOf t id:=by
 unfold kidsTo kidsOf
 rw [h,below_eq]
theorem kidsTo_len (t:List Row) (a k:Nat):(kidsTo t a k).length≤t.length:=by
 unfold kidsTo
 rw [List.length_map]
 refine Nat.le_trans (List.length_filter_le _ _) ?_
 rw [List.length_drop,List.length_take];omega
set_option maxRecDepth 100000 in
set_option maxHeartbeats 2000000 in
theorem kids_s (A:Option Addr) (c:Nat) (t:List Row) (id:Int) (w:World) (hr:Rd w A c t) (hl:t.length≤1000) (hok:∀ r∈t,rowOk r=true) :
  Calls Tryz.prog 70 #[.slice A t.length c,.int .i64 id] w fun e w'=>∃ v,e=.returned v∧Own 3 w' w.heap.size v (kidsOf t id)∧Ext w w':=by
 have HR:=Lib.hid hr;have HOK:=Lib.hid hok
 have hm0:Own 3 (w.alloc (.cells #[] 3)) w.heap.size (.slice (some ⟨w.heap.size,0,none⟩) 0 0) ([]:List Int):=own_made w w.heap.size (Nat.le_refl _)
 have hE0:Ext w (w.alloc (.cells #[] 3)):=(Below.refl _ _).alloc (Nat.le_refl _) _
 have HM0:=Lib.hid hm0;have HE0:=Lib.hid hE0
 have HAT:=Lib.hid (at_s A c t id (w.alloc (.cells #[] 3)) (hr.alloc _))
 clear hr hok hm0 hE0
 cases hx:idx t id with
 |none=>
  have hat:atI t id=-1:=by unfold atI;rw [hx]
  have HK:Hid (kidsOf t id=[]):=by show _=_;unfold kidsOf;rw [hx]
  rw [hat] at HAT
  clear hat hx
  go_enter Tryz.func70,Tryz.ntmps70
  go_wp2_with fail
  refine HAT.out.mono ?_;rintro e w1 ⟨rfl,rfl⟩
  go_wp2_with fail
  go_ret
  exact ⟨_,rfl,by rw [HK.out];exact HM0.out,HE0.out⟩
 |some a=>
  have hat:atI t id=a:=by unfold atI;rw [hx]
  have ha:=idx_lt hx
  have HK:=Lib.hid (kidsTo_end t id a hx)
  rw [hat] at HAT
  have hda:=rowOk_id (HOK.out t[a] (List.getElem_mem ha))
  obtain ⟨-,-,hda0,hda1⟩:=hda
  have hdd:=depAt_lt t a ha
  have HDD:=Lib.hid hdd
  have her:=endOf_range t a ha
  obtain ⟨her0,her1⟩:=her
  clear hat hx hdd
  go_enter Tryz.func70,Tryz.ntmps70
  go_wp2_with fail
  refine HAT.out.mono ?_;rintro e w1 ⟨rfl,rfl⟩
  clear HAT
  go_wp2_with fail
  go_loopg [5,7] (t.length - (a+1)) (fun gk v i wr=>∃ k:Nat,k≤endOf t a∧a<k∧Hid (gk=t.length - k)∧i=.int .i64 k∧Hid (Own 3 wr w.heap.size v (kidsTo t a k))∧Hid (Ext w wr))
  case atStart=>exact ⟨a+1,by omega,by omega,rfl,by go_num,by show Own _ _ _ _ _;rw [kidsTo_start];exact HM0.out,HE0.out⟩
  case round=>
   obtain ⟨k,hk,hak,HKK,rfl,HO,HE⟩:=hrel
   have hsz:=HE.out.size
   have HEN:=Lib.hid (end_s A c t a wr (HR.out.ext HE.out) ha)
   by_cases hlt:k<endOf t a
   ·have hkl:k<t.length:=by omega
    obtain ⟨b,off,rfl,hbl,a0,a1,a2⟩:=row_at (HR.out.ext HE.out) a ha
    obtain ⟨b',off',e',hbl',c0,c1,c2⟩:=row_at (HR.out.ext HE.out) k hkl
    cases e'
    have hkl':(k:Int)<t.length:=by omega
    have ha':(a:Int)<t.length:=by omega
    have HN:=Lib.hid (kidsTo_next t a k hkl hak)
    obtain ⟨A2,n2,rfl,-⟩:=HO.out.rd
    have hklen:=kidsTo_len t a k
    by_cases hd:t[k].depth=t[a].depth+1
    ·have hN2:Hid (kidsTo t a (k+1)=kidsTo t a k++[t[k].id]):=by show _=_;rw [HN.out,HDD.out,if_pos hd]
     have hd':(t[k].depth == t[a].depth+1)=true:=by simp [hd]
     clear hd
     go_wp2_with fail
     refine HEN.out.mono ?_;rintro e w2 ⟨rfl,n1,rfl⟩
     go_wp2_with fail
     go_quiet (fail)
     obtain ⟨W3,hW3⟩:∃ W3,W3=(wr.drewN n1).drewN nq:=⟨_,rfl⟩
     rw [←hW3]
     have x0:W3.cell? ⟨b,off+k*3,none⟩=some (.int .i64 t[k].id):=by rw [hW3];exact c0
     have hE3:Ext w W3:=by rw [hW3];exact Ext.drewN (Ext.drewN HE.out _) _
     have hO3:Own 3 W3 w.heap.size (.slice A2 (kidsTo t a k).length n2) (kidsTo t a k):=by rw [hW3];exact HO.out.below (Ext.drewN (Ext.drewN (Below.refl _ _) _) _)
     obtain ⟨v',w4,hrun,hown4,hg4⟩:=app_one el_int hO3 t[k].id trivial (by omega) hE3.size #[.int .i64 t[k].id] rfl
     have hB4:=hO3.over_one hE3 hg4 (Nat.le_refl _) hE3.size
     have HO4:=Lib.hid hown4;have HB4:=Lib.hid hB4
     clear hW3 hE3 hO3 hown4 hg4 hB4 a0 a1 a2 c0 c1 c2
     go_wp2_with (at_builtin;refine wpList_append_run rfl _ _ _ rfl rfl rfl hrun ?_)
     go_roundg (t.length - (k+1))
     case measure=>have:=HKK.out;omega
     case rel=>exact ⟨k+1,by omega,by omega,rfl,by go_num,by rw [hN2.out];exact HO4.out,HB4.out⟩
    ·have hN2:Hid (kidsTo t a (k+1)=kidsTo t a k):=by show _=_;rw [HN.out,HDD.out,if_neg hd]
     have hd':(t[k].depth == t[a].depth+1)=false:=by simp [hd]
     clear hd
     go_wp2_with fail
     refine HEN.out.mono ?_;rintro e w2 ⟨rfl,nq,rfl⟩
     go_wp2_with fail
     go_quiet (fail)
     go_wp2_with fail
     go_roundg (t.length - (k+1))
     case measure=>have:=HKK.out;omega
     case rel=>exact ⟨k+1,by omega,by omega,rfl,by go_num,by rw [hN2.out];exact (HO.out.below (Ext.drewN (Below.refl _ _) _)),Ext.drewN HE.out _⟩
   ·have hke:k=endOf t a:=by omega
    rw [hke] at HO
    have HKE:=Lib.hid hke
    clear hke
    go_wp2_with fail
    refine HEN.out.mono ?_;rintro e w2 ⟨rfl,nq,rfl⟩
    go_wp2_with fail
    go_ret
    exact ⟨_,rfl,by rw [←HK.out];exact (HO.out.below (Ext.drewN (Below.refl _ _) _)),Ext.drewN HE.out _⟩
set_option maxRecDepth 100000 in
set_option maxHeartbeats 1000000 in
theorem under_s (A:Option Addr) (c:Nat) (t:List Row) (id under:Int) (w:World) (hr:Rd w A c t) :
  Calls Tryz.prog 143 #[.slice A t.length c,.int .i64 id,.int .i64 under] w fun e w'=>e=.returned (.bool (underL t id under))∧∃ n,w'=w.drewN n:=by
 have hm:t.length≤maxLen:=Nat.le_trans hr.1 hr.2.1
 unfold maxLen at hm
 have HA:=Lib.hid (at_s A c t id w hr)
 have HB:=Lib.hid (at_s A c t under w hr)
 have HR:=Lib.hid hr
 clear hr
 cases hx:idx t id with
 |none=>
  have hat:atI t id=-1:=by unfold atI;rw [hx]
  have HK:Hid (underL t id under=false):=by show _=_;unfold underL;rw [hx]
  rw [hat] at HA
  clear hat hx
  go_enter Tryz.func143,Tryz.ntmps143
  go_wp2_with fail
  refine HA.out.mono ?_;rintro e w1 ⟨rfl,rfl⟩
  go_wp2_with fail
  refine HB.out.mono ?_;rintro e w1 ⟨rfl,rfl⟩
  go_wp2_with fail
  go_ret
  exact ⟨by rw [HK.out];rfl,0,rfl⟩
 |some a=>
  have hat:atI t id=a:=by unfold atI;rw [hx]
  rw [hat] at HA
  clear hat
  cases hy:idx t under with
  |none=>
   have hbt:atI t under=-1:=by unfold atI;rw [hy]
   have HK:Hid (underL t id under=false):=by show _=_;unfold underL;rw [hx,hy]
   rw [hbt] at HB
   clear hbt hx hy
   go_enter Tryz.func143,Tryz.ntmps143
   go_wp2_with fail
   refine HA.out.mono ?_;rintro e w1 ⟨rfl,rfl⟩
   go_wp2_with fail
   refine HB.out.mono ?_;rintro e w1 ⟨rfl,rfl⟩
   go_wp2_with fail
   go_ret
   exact ⟨by rw [HK.out];rfl,0,rfl⟩
  |some b=>
   have hbt:atI t under=b:=by unfold atI;rw [hy]
   rw [hbt] at HB
   have hb:=idx_lt hy
   have her:=endOf_range t b hb
   obtain ⟨her0,her1⟩:=her
   have HEN:=Lib.hid (end_s A c t b w HR.out hb)
   have HK:Hid (underL t id under=inR a b ((endOf t b:Int) - 1)):=by
    show _=_;unfold underL inR;rw [hx,hy]
    rw [Bool.eq_iff_iff];simp only [decide_eq_true_eq];omega
   clear hbt hx hy
   go_enter Tryz.func143,Tryz.ntmps143
   go_wp2_with fail
   refine HA.out.mono ?_;rintro e w1 ⟨rfl,rfl⟩
   go_wp2_with fail
   refine HB.out.mono ?_;rintro e w1 ⟨rfl,rfl⟩
   go_wp2_with fail
   refine HEN.out.mono ?_;rintro e w1 ⟨rfl,n1,rfl⟩
   go_wp2_with fail
   refine (in_c _ _ _ _).mono ?_;rintro e w1 ⟨rfl,rfl⟩
   go_wp2_with fail
   go_ret
   exact ⟨by rw [HK.out];rfl,_,rfl⟩
open Go.RowKit
theorem int_at {w:World} {A:Option Addr} {c:Nat} {l:List Int} (h:Rd w A c l) (k:Nat) (hk:k<l.length) :
  ∃ b off,A=some ⟨b,off,none⟩∧b<w.heap.size∧w.cell? ⟨b,off+k,none⟩=some (.int .i64 l[k]):=by
 obtain ⟨b,off,rfl,hb,hc⟩:=h.at_ k hk
 have h0:=hc 0 _ rfl
 exact ⟨b,off,rfl,hb,by
  have e:off+(k*1+0)=off+k:=by omega
  rw [←e];exact h0⟩
theorem five_cells {W:World} {b:Nat} {v0 v1 v2 v3 v4:Value} {ty:TypeId} (h:W.heap[b]?=some (.cells #[v0,v1,v2,v3,v4] ty (0,0))) :
  W.cell? ⟨b,0,none⟩=some v0∧W.cell? ⟨b,1,none⟩=some v1∧W.cell? ⟨b,2,none⟩=some v2∧W.cell? ⟨b,3,none⟩=some v3∧W.cell? ⟨b,4,none⟩=some v4∧∀ o,W.frozen? ⟨b,o,none⟩=false:=by
 refine ⟨by simp [World.cell?,h],by simp [World.cell?,h],by simp [World.cell?,h],by simp [World.cell?,h],by simp [World.cell?,h],fun o=>by simp [World.frozen?,h]⟩
def whV (r:Option (Int × Int)):Value:=match r with | none=>.tuple #[.int .i64 0,.int .i64 0,.bool false] | some (u,p)=>.tuple #[.int .i64 u,.int .i64 p,.bool true]
def posTo (ks:List Int) (id pos:Int):Int:=if pos∈ks∧pos≠id then pos else 0
theorem posTo_next (ks:List Int) (id pos:Int) (k:Nat) (hk:k<ks.length):posTo (ks.take (k+1)) id pos=if ks[k]=pos∧pos≠id then pos else posTo (ks.take k) id pos:=by
 have hm:(pos∈ks.take (k+1))↔(pos∈ks.take k∨pos=ks[k]):=by rw [List.take_succ_eq_append_getElem hk,List.mem_append,List.mem_singleton]
 unfold posTo
 simp only [hm]
 by_cases h1:ks[k]=pos
 ·by_cases h2:pos=id <;> simp [h1,h2]
 ·have:¬pos=ks[k]:=fun e=>h1 e.symm
  simp [h1,this]
set_option maxRecDepth 100000 in
set_option maxHeartbeats 4000000 in
theorem where_s (A:Option Addr) (c:Nat) (t:List Row) (o:Op) (w:World) (hr:Rd w A c t) (hl:t.length≤1000) (hok:∀ r∈t,rowOk r=true) :
  Calls Tryz.prog 120 #[.slice A t.length c,o.val] w fun e w'=>e=.returned (whV (whereL t o))∧Ext w w':=by
 show Calls Tryz.prog 120 #[.slice A t.length c,.agg (cO o)] w _
 have hE:Ext w (w.alloc (oO o)):=(Below.refl _ w).alloc (Nat.le_refl _) _
 have hbx:=World.alloc_heap_new w (oO o)
 have hsz:=alloc_sz w (oO o)
 have hrw:=hr.alloc (oO o)
 generalize hW0:w.alloc (oO o)=W0 at hE hbx hsz hrw
 have HW0:=Lib.hid hW0
 have HE:=Lib.hid hE;have HBX:=Lib.hid hbx;have HSZ:=Lib.hid hsz;have HR:=Lib.hid hrw;have HOK:=Lib.hid hok
 have HA1:=Lib.hid (at_s A c t o.id W0 hrw)
 have HA2:=Lib.hid (fun n=>at_s A c t o.up (W0.drewN n) (hrw.drewN n))
 have HU:=Lib.hid (under_s A c t o.up o.id W0 hrw)
 clear hE hbx hsz hrw hok hr hW0
 by_cases hk2:o.kind=2
 ·have hk2':(o.kind == 2)=true:=by simp [hk2]
  have HX:Hid (whereL t o=none):=by show _=_;unfold whereL;rw [if_pos (.inl hk2)]
  clear hk2
  go_enter Tryz.func120,Tryz.ntmps120
  go_wp2_with fail
  rw [HW0.out]
  refine HA1.out.mono ?_;rintro e w1 ⟨rfl,rfl⟩
  obtain ⟨d0,d1,d2,d3,d4,df⟩:=five_cells HBX.out
  go_wp2_with fail
  go_ret3
  exact ⟨by rw [HX.out];rfl,HE.out⟩
 have hk2':(o.kind == 2)=false:=by simp [hk2]
 by_cases hbad:(idx t o.id).isSome≠decide (o.kind=3)
 ·have HX:Hid (whereL t o=none):=by show _=_;unfold whereL;rw [if_pos (.inr (.inl hbad))]
  clear hk2
  cases hx:idx t o.id with
  |none=>
   rw [hx] at hbad
   have hk3:(o.kind == 3)=true:=by simp at hbad;simp [hbad]
   have hat:atI t o.id=-1:=by unfold atI;rw [hx]
   rw [hat] at HA1
   clear hat hx hbad
   go_enter Tryz.func120,Tryz.ntmps120
   go_wp2_with fail
   rw [HW0.out]
   refine HA1.out.mono ?_;rintro e w1 ⟨rfl,rfl⟩
   obtain ⟨d0,d1,d2,d3,d4,df⟩:=five_cells HBX.out
   go_wp2_with fail
   go_ret3
   exact ⟨by rw [HX.out];rfl,HE.out⟩
  |some a=>
   rw [hx] at hbad
   have hk3:(o.kind == 3)=false:=by simp at hbad;simp [hbad]
   have hat:atI t o.id=a:=by unfold atI;rw [hx]
   rw [hat] at HA1
   clear hat hx hbad
   go_enter Tryz.func120,Tryz.ntmps120
   go_wp2_with fail
   rw [HW0.out]
   refine HA1.out.mono ?_;rintro e w1 ⟨rfl,rfl⟩
   obtain ⟨d0,d1,d2,d3,d4,df⟩:=five_cells HBX.out
   go_wp2_with fail
   go_ret3
   exact ⟨by rw [HX.out];rfl,HE.out⟩
 by_cases hun:(idx t o.id).isSome=true∧underL t o.up o.id=true
 ·have HX:Hid (whereL t o=none):=by show _=_;unfold whereL;rw [if_pos (.inr (.inr hun))]
  clear hk2
  cases hx:idx t o.id with
  |none=>rw [hx] at hun;exact absurd hun.1 (by simp)
  |some a=>
   rw [hx] at hbad
   have hk3:(o.kind == 3)=true:=by simp at hbad;simp [hbad]
   have hat:atI t o.id=a:=by unfold atI;rw [hx]
   rw [hat] at HA1
   rw [hun.2] at HU
   clear hat hx hbad hun
   go_enter Tryz.func120,Tryz.ntmps120
   go_wp2_with fail
   rw [HW0.out]
   refine HA1.out.mono ?_;rintro e w1 ⟨rfl,rfl⟩
   obtain ⟨d0,d1,d2,d3,d4,df⟩:=five_cells HBX.out
   go_wp2_with fail
   refine HU.out.mono ?_;rintro e w1 ⟨rfl,n1,rfl⟩
   go_wp2_with fail
   go_ret3
   exact ⟨by rw [HX.out];rfl,Ext.drewN HE.out _⟩
 have hres:whereL t o=(if (idx t o.up).isNone=true then some (3,0) else some (o.up,posTo (kidsOf t o.up) o.id o.pos)):=by
  unfold whereL posTo
  rw [if_neg (by rintro (h | h | h);exact hk2 h;exact hbad h;exact hun h)]
 have HX:=Lib.hid hres
 clear hres
 have hcase:(idx t o.id=none∧o.kind≠3)∨(∃ a,idx t o.id=some a∧o.kind=3∧underL t o.up o.id=false):=by
  cases hx:idx t o.id with
  |none=>rw [hx] at hbad;exact .inl ⟨rfl,by simpa using hbad⟩
  |some a=>rw [hx] at hbad hun;exact .inr ⟨a,rfl,by simpa using hbad,by simpa using hun⟩
 clear hk2 hbad hun
 go_enter Tryz.func120,Tryz.ntmps120
 go_wp2_with fail
 rw [HW0.out]
 rcases hcase with ⟨hx,hk3⟩ | ⟨a,hx,hk3,hun⟩
 ·skip
  have hat:atI t o.id=-1:=by unfold atI;rw [hx]
  rw [hat] at HA1
  have hk3':(o.kind == 3)=false:=by simp [hk3]
  clear hat hx hk3
  refine HA1.out.mono ?_;rintro e w1 ⟨rfl,hw1⟩
  rw [hw1]
  obtain ⟨d0,d1,d2,d3,d4,df⟩:=five_cells HBX.out
  go_wp2_with fail
  obtain ⟨W1,hW1⟩:∃ W1,W1=W0:=⟨_,rfl⟩
  rw [←hW1]
  have hb1:W1.heap[w.heap.size]?=some (.cells (cO o) 28 (0,0)):=by rw [hW1];exact HBX.out
  have hE1:Ext w W1:=by rw [hW1];exact HE.out
  have hR1:Rd W1 A c t:=by rw [hW1];exact HR.out
  have hA3:=at_s A c t o.up W1 hR1
  have HB1:=Lib.hid hb1;have HE1:=Lib.hid hE1;have HR1:=Lib.hid hR1
  clear d0 d1 d2 d3 d4 df hW1 hb1 hE1 hR1 HU HA1 HA2
  cases hy:idx t o.up with
  |none=>
   have hat:atI t o.up=-1:=by unfold atI;rw [hy]
   rw [hat] at hA3
   have HX2:Hid (whereL t o=some (3,0)):=by show _=_;rw [HX.out,hy];rfl
   have HA3:=Lib.hid hA3
   clear hat hy hA3
   refine HA3.out.mono ?_;rintro e w3 ⟨rfl,hw3⟩
   rw [hw3]
   go_wp2_with fail
   go_ret3
   exact ⟨by rw [HX2.out];rfl,HE1.out⟩
  |some u=>
   have hat:atI t o.up=u:=by unfold atI;rw [hy]
   rw [hat] at hA3
   have HX2:Hid (whereL t o=some (o.up,posTo (kidsOf t o.up) o.id o.pos)):=by show _=_;rw [HX.out,hy];rfl
   have HA3:=Lib.hid hA3
   clear hat hy hA3
   refine HA3.out.mono ?_;rintro e w3 ⟨rfl,hw3⟩
   rw [hw3]
   go_wp2_with fail
   refine (kids_s A c t o.up W1 HR1.out hl HOK.out).mono ?_;rintro e w4 ⟨v4,rfl,hown4,hb4⟩
   obtain ⟨A4,n4,rfl,hr4⟩:=hown4.rd
   have hE4:Ext w w4:=HE1.out.trans (hb4.mono HE1.out.size)
   have hlt1:w.heap.size<W1.heap.size:=blk_lt HB1.out
   obtain ⟨d0,d1,d2,d3,d4,df⟩:=five_cells ((hb4.block w.heap.size hlt1).trans HB1.out)
   have HE4:=Lib.hid hE4;have HR4:=Lib.hid hr4
   have hkl:(kidsOf t o.up).length≤maxLen:=Nat.le_trans hr4.1 hr4.2.1
   unfold maxLen at hkl
   clear hown4 hb4 hE4 hr4
   generalize kidsOf t o.up=ks at *
   go_wp2_with fail
   go_loopg [9,11] ks.length (fun gk p i wr=>∃ (k n:Nat),wr=w4.drewN n∧k≤ks.length∧Hid (gk=ks.length - k)∧i=.int .i64 k∧p=.int .i64 (posTo (ks.take k) o.id o.pos))
   case atStart=>exact ⟨0,0,rfl,Nat.zero_le _,rfl,rfl,by simp [posTo]⟩
   case round=>
    obtain ⟨k,n,rfl,hk,HK,rfl,rfl⟩:=hrel
    by_cases hlt:k<ks.length
    ·obtain ⟨b,off,rfl,hbl,c0⟩:=int_at HR4.out k hlt
     have hlt':(k:Int)<ks.length:=by omega
     have HN:=Lib.hid (posTo_next ks o.id o.pos k hlt)
     by_cases h1:ks[k]=o.pos
     ·have h1':(ks[k] == o.pos)=true:=by simp [h1]
      by_cases h2:o.pos=o.id
      ·have h2':(o.pos != o.id)=false:=by simp [h2]
       have HN2:Hid (posTo (ks.take (k+1)) o.id o.pos=posTo (ks.take k) o.id o.pos):=by show _=_;rw [HN.out,if_neg (fun h=>h.2 h2)]
       clear h1 h2
       go_wp2_with fail
       go_quiet (fail)
       go_wp2_with fail
       go_roundg (ks.length - (k+1))
       case measure=>have:=HK.out;omega
       case rel=>exact ⟨k+1,_,rfl,by omega,rfl,by go_num,by rw [HN2.out]⟩
      ·have h2':(o.pos != o.id)=true:=by simp [h2]
       have HN2:Hid (posTo (ks.take (k+1)) o.id o.pos=o.pos):=by show _=_;rw [HN.out,if_pos ⟨h1,h2⟩]
       clear h1 h2
       go_wp2_with fail
       go_quiet (fail)
       go_wp2_with fail
       go_roundg (ks.length - (k+1))
       case measure=>have:=HK.out;omega
       case rel=>exact ⟨k+1,_,rfl,by omega,rfl,by go_num,by rw [HN2.out]⟩
     ·have h1':(ks[k] == o.pos)=false:=by simp [h1]
      have HN2:Hid (posTo (ks.take (k+1)) o.id o.pos=posTo (ks.take k) o.id o.pos):=by show _=_;rw [HN.out,if_neg (fun h=>h1 h.1)]
      clear h1
      go_wp2_with fail
      go_quiet (fail)
      go_wp2_with fail
      go_roundg (ks.length - (k+1))
      case measure=>have:=HK.out;omega
      case rel=>exact ⟨k+1,_,rfl,by omega,rfl,by go_num,by rw [HN2.out]⟩
    ·have hkl2:k=ks.length:=by omega
     have HP:Hid (posTo (ks.take k) o.id o.pos=posTo ks o.id o.pos):=by show _=_;rw [hkl2,List.take_length]
     clear hkl2
     go_wp2_with fail
     go_ret3
     exact ⟨by rw [HX2.out,←HP.out];rfl,Ext.drewN HE4.out _⟩
 ·skip
  have hat:atI t o.id=a:=by unfold atI;rw [hx]
  rw [hat] at HA1
  rw [hun] at HU
  have hk3':(o.kind == 3)=true:=by simp [hk3]
  clear hat hx hk3 hun
  refine HA1.out.mono ?_;rintro e w1 ⟨rfl,hw1⟩
  rw [hw1]
  obtain ⟨d0,d1,d2,d3,d4,df⟩:=five_cells HBX.out
  go_wp2_with fail
  refine HU.out.mono ?_;rintro e w2 ⟨rfl,n1,hw2⟩
  rw [hw2]
  go_wp2_with fail
  obtain ⟨W1,hW1⟩:∃ W1,W1=W0.drewN n1:=⟨_,rfl⟩
  rw [←hW1]
  have hb1:W1.heap[w.heap.size]?=some (.cells (cO o) 28 (0,0)):=by rw [hW1];exact HBX.out
  have hE1:Ext w W1:=by rw [hW1];exact Ext.drewN HE.out _
  have hR1:Rd W1 A c t:=by rw [hW1];exact HR.out
  have hA3:=at_s A c t o.up W1 hR1
  have HB1:=Lib.hid hb1;have HE1:=Lib.hid hE1;have HR1:=Lib.hid hR1
  clear d0 d1 d2 d3 d4 df hW1 hb1 hE1 hR1 HU HA1 HA2
  cases hy:idx t o.up with
  |none=>
   have hat:atI t o.up=-1:=by unfold atI;rw [hy]
   rw [hat] at hA3
   have HX2:Hid (whereL t o=some (3,0)):=by show _=_;rw [HX.out,hy];rfl
   have HA3:=Lib.hid hA3
   clear hat hy hA3
   refine HA3.out.mono ?_;rintro e w3 ⟨rfl,hw3⟩
   rw [hw3]
   go_wp2_with fail
   go_ret3
   exact ⟨by rw [HX2.out];rfl,HE1.out⟩
  |some u=>
   have hat:atI t o.up=u:=by unfold atI;rw [hy]
   rw [hat] at hA3
   have HX2:Hid (whereL t o=some (o.up,posTo (kidsOf t o.up) o.id o.pos)):=by show _=_;rw [HX.out,hy];rfl
   have HA3:=Lib.hid hA3
   clear hat hy hA3
   refine HA3.out.mono ?_;rintro e w3 ⟨rfl,hw3⟩
   rw [hw3]
   go_wp2_with fail
   refine (kids_s A c t o.up W1 HR1.out hl HOK.out).mono ?_;rintro e w4 ⟨v4,rfl,hown4,hb4⟩
   obtain ⟨A4,n4,rfl,hr4⟩:=hown4.rd
   have hE4:Ext w w4:=HE1.out.trans (hb4.mono HE1.out.size)
   have hlt1:w.heap.size<W1.heap.size:=blk_lt HB1.out
   obtain ⟨d0,d1,d2,d3,d4,df⟩:=five_cells ((hb4.block w.heap.size hlt1).trans HB1.out)
   have HE4:=Lib.hid hE4;have HR4:=Lib.hid hr4
   have hkl:(kidsOf t o.up).length≤maxLen:=Nat.le_trans hr4.1 hr4.2.1
   unfold maxLen at hkl
   clear hown4 hb4 hE4 hr4
   generalize kidsOf t o.up=ks at *
   go_wp2_with fail
   go_loopg [9,11] ks.length (fun gk p i wr=>∃ (k n:Nat),wr=w4.drewN n∧k≤ks.length∧Hid (gk=ks.length - k)∧i=.int .i64 k∧p=.int .i64 (posTo (ks.take k) o.id o.pos))
   case atStart=>exact ⟨0,0,rfl,Nat.zero_le _,rfl,rfl,by simp [posTo]⟩
   case round=>
    obtain ⟨k,n,rfl,hk,HK,rfl,rfl⟩:=hrel
    by_cases hlt:k<ks.length
    ·obtain ⟨b,off,rfl,hbl,c0⟩:=int_at HR4.out k hlt
     have hlt':(k:Int)<ks.length:=by omega
     have HN:=Lib.hid (posTo_next ks o.id o.pos k hlt)
     by_cases h1:ks[k]=o.pos
     ·have h1':(ks[k] == o.pos)=true:=by simp [h1]
      by_cases h2:o.pos=o.id
      ·have h2':(o.pos != o.id)=false:=by simp [h2]
       have HN2:Hid (posTo (ks.take (k+1)) o.id o.pos=posTo (ks.take k) o.id o.pos):=by show _=_;rw [HN.out,if_neg (fun h=>h.2 h2)]
       clear h1 h2
       go_wp2_with fail
       go_quiet (fail)
       go_wp2_with fail
       go_roundg (ks.length - (k+1))
       case measure=>have:=HK.out;omega
       case rel=>exact ⟨k+1,_,rfl,by omega,rfl,by go_num,by rw [HN2.out]⟩
      ·have h2':(o.pos != o.id)=true:=by simp [h2]
       have HN2:Hid (posTo (ks.take (k+1)) o.id o.pos=o.pos):=by show _=_;rw [HN.out,if_pos ⟨h1,h2⟩]
       clear h1 h2
       go_wp2_with fail
       go_quiet (fail)
       go_wp2_with fail
       go_roundg (ks.length - (k+1))
       case measure=>have:=HK.out;omega
       case rel=>exact ⟨k+1,_,rfl,by omega,rfl,by go_num,by rw [HN2.out]⟩
     ·have h1':(ks[k] == o.pos)=false:=by simp [h1]
      have HN2:Hid (posTo (ks.take (k+1)) o.id o.pos=posTo (ks.take k) o.id o.pos):=by show _=_;rw [HN.out,if_neg (fun h=>h1 h.1)]
      clear h1
      go_wp2_with fail
      go_quiet (fail)
      go_wp2_with fail
      go_roundg (ks.length - (k+1))
      case measure=>have:=HK.out;omega
      case rel=>exact ⟨k+1,_,rfl,by omega,rfl,by go_num,by rw [HN2.out]⟩
    ·have hkl2:k=ks.length:=by omega
     have HP:Hid (posTo (ks.take k) o.id o.pos=posTo ks o.id o.pos):=by show _=_;rw [hkl2,List.take_length]
     clear hkl2
     go_wp2_with fail
     go_ret3
     exact ⟨by rw [HX2.out,←HP.out];rfl,Ext.drewN HE4.out _⟩
end Go.Proofs.YtecmcjfdaipfcaaGreatDoor
