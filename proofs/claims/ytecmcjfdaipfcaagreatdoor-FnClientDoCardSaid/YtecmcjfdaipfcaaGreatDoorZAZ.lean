/- Walk of impl.ClientDo; the reference's. .. THE ROW AND THE CARD OF laws.FnClientDo. -/
import Derived.Test.YtecmcjfdaipfcaaGreatDoorZAP
import Derived.Test.YtecmcjfdaipfcaaGreatDoorZAI
import Derived.Test.YtecmcjfdaipfcaaGreatDoorZAR
import Derived.Test.YtecmcjfdaipfcaaGreatDoorZAK
import Derived.Test.YtecmcjfdaipfcaaGreatDoorZAL
import Derived.Test.YtecmcjfdaipfcaaGreatDoorZAQ
import Derived.Test.YtecmcjfdaipfcaaGreatDoorZAX
import Derived.Test.YtecmcjfdaipfcaaGreatDoorZAN
namespace Go.Proofs.YtecmcjfdaipfcaaGreatDoor
open Go.RowKit Go.Lib
set_option linter.unusedVariables false
def clientDo (c:Client) (o:Op):Client × Bool:=if clientOk c=true then doS c o else (noClient,false)
theorem rowMade_c (who n:Int) (w:World) (h1:i64 who) (h2:i64 n) :
  Calls Tryz.prog 36 #[.int .i64 who,.int .i64 n] w fun e w'=>e=.returned (.int .i64 (rowMade who n))∧w'=w:=by
 have HC:=Lib.hid (whoOk_c who w)
 have hm:rowMade who n=if isWho who=true∧1≤n∧n≤6 then 10*who+n else 0:=by unfold rowMade isWho;simp [and_assoc]
 cases ha:isWho who
 ·rw [ha] at HC hm
  have hm0:rowMade who n=0:=by rw [hm];simp
  rw [hm0]
  clear ha h1 h2 hm hm0
  go_enter Tryz.func36,Tryz.ntmps36
  go_wp2_with fail
  refine HC.out.mono ?_;rintro e w' ⟨rfl,rfl⟩
  go_wp2_with fail
  go_ret
  exact ⟨rfl,rfl⟩
 have ha':1≤who∧who≤3:=by unfold isWho at ha;simpa using ha
 obtain ⟨hw1,hw2⟩:=ha'
 rw [ha] at HC hm
 have HM:=Lib.hid hm
 clear ha hm
 by_cases hn1:n<1
 ·have hm0:rowMade who n=0:=by rw [HM.out,if_neg (by omega)]
  rw [hm0]
  clear h1 h2 hm0 HM
  go_enter Tryz.func36,Tryz.ntmps36
  go_wp2_with fail
  refine HC.out.mono ?_;rintro e w' ⟨rfl,rfl⟩
  go_wp2_with fail
  go_ret
  exact ⟨rfl,rfl⟩
 by_cases hn2:6<n
 ·have hm0:rowMade who n=0:=by rw [HM.out,if_neg (by omega)]
  rw [hm0]
  clear h1 h2 hm0 HM
  go_enter Tryz.func36,Tryz.ntmps36
  go_wp2_with fail
  refine HC.out.mono ?_;rintro e w' ⟨rfl,rfl⟩
  go_wp2_with fail
  go_ret
  exact ⟨rfl,rfl⟩
 have hm0:rowMade who n=10*who+n:=by rw [HM.out,if_pos ⟨rfl,by omega,by omega⟩]
 rw [hm0]
 clear h1 h2 hm0 HM
 have ha1:IntKind.i64.wrap (10*who)=10*who:=by rw [IntKind.wrap_i64];omega
 have ha2:IntKind.i64.wrap (10*who+n)=10*who+n:=by rw [IntKind.wrap_i64];omega
 go_enter Tryz.func36,Tryz.ntmps36
 go_wp2_with fail
 refine HC.out.mono ?_;rintro e w' ⟨rfl,rfl⟩
 go_wp2_with fail
 go_ret
 exact ⟨rfl,rfl⟩
set_option maxRecDepth 100000 in
set_option maxHeartbeats 4000000 in
theorem clientDo_c (c:Client) (v:Value) (o:Op) (w:World) (ht:Tab w) (h:CV w c v) (hs:o.text.size≤maxLen) :
  Calls Tryz.prog 8 #[v,.agg (cO o)] w fun r w'=>∃ v',r=.returned (.tuple #[v',.bool (clientDo c o).2])∧CV w' (clientDo c o).1 v'∧Ext w w':=by
 obtain ⟨A1,n1,A2,n2,rfl,h1,h2⟩:=h
 have h3:=three_all w (oC c A1 n1 A2 n2) (oO o) oC0
 have hE3:Ext w (((w.alloc (oC c A1 n1 A2 n2)).alloc (oO o)).alloc oC0):=ext3 _ _ _ _
 have hz3:(((w.alloc (oC c A1 n1 A2 n2)).alloc (oO o)).alloc oC0).heap.size=w.heap.size+1+1+1:=by simp only [alloc_sz]
 have HX1:=Lib.hid h3.1;have HX2:=Lib.hid h3.2.1;have HX3:=Lib.hid h3.2.2
 have hV3:CV (((w.alloc (oC c A1 n1 A2 n2)).alloc (oO o)).alloc oC0) c (.agg (cC c A1 n1 A2 n2)):=⟨A1,n1,A2,n2,rfl,h1.ext hE3,h2.ext hE3⟩
 have HV:=Lib.hid hV3;have HT:=Lib.hid (ht.below hE3 ht.pos);have HE3:=Lib.hid hE3
 have hlb:c.base.length≤maxLen:=Nat.le_trans h1.1 h1.2.1
 have hlw:c.wait.length≤maxLen:=Nat.le_trans h2.1 h2.2.1
 have HT0:=Lib.hid ht
 have HOE:Hid (Flat.okE (newEnt c o)):=hs
 clear h1 h2 h3 hE3 hV3 ht hlb hlw
 go_enter Tryz.func8,Tryz.ntmps8
 go_wp2_with fail
 generalize (((w.alloc (oC c A1 n1 A2 n2)).alloc (oO o)).alloc oC0)=W3 at *
 refine (clientOk_c c _ W3 HT.out HV.out).mono ?_
 rintro e w4 ⟨rfl,hb4⟩
 have hs4:=hb4.size
 have hx1:=(hb4.block _ (show w.heap.size<W3.heap.size by omega)).trans HX1.out;have hx2:=(hb4.block _ (show w.heap.size+1<W3.heap.size by omega)).trans HX2.out;have hx3:=(hb4.block _ (show w.heap.size+1+1<W3.heap.size by omega)).trans HX3.out
 have hE4:=HE3.out.trans (hb4.mono HE3.out.size)
 cases hok:clientOk c
 ·have HRes:Hid (clientDo c o=(noClient,false)):=by show _=_;unfold clientDo;rw [hok];rfl
  obtain ⟨d0,d1,d2,d3,d4,d5,df⟩:=six_cells hx3
  have hz:=put6_at (.int .i64 0) (.int .i64 0) (.slice none 0 0) (.slice none 0 0) (.int .i64 0) (.int .i64 0) hx3
  have hE:=put6_below (.int .i64 0) (.int .i64 0) (.slice none 0 0) (.slice none 0 0) (.int .i64 0) (.int .i64 0) hE4 (show w.heap.size≤w.heap.size+1+1 from by omega)
  have HZ:=Lib.hid hz;have HE:=Lib.hid hE
  clear hz hE hx1 hx2 hx3 hE4 hb4 hok
  go_wp2_with fail
  obtain ⟨k0,k1,k2,k3,k4,k5,kf⟩:=six_cells HZ.out
  refine bodyPost_ret (v:=.tuple #[.agg cC0,.bool false]) ?_ rfl ?_
  ·simp [results,Tryz.f8,go_sem,k0,k1,k2,k3,k4,k5]
  ·exact ⟨_,by rw [HRes.out],by rw [HRes.out];exact CV.no _,HE.out⟩
 have HRes:Hid (clientDo c o=doS c o):=by show _=_;unfold clientDo;rw [if_pos hok]
 obtain ⟨hw9,hs0,hs40,htr,hd0,hd1,hwl,hm0,hm1,hwt⟩:=clientOk_parts hok
 have hbl:=treeOk_len htr
 have HX14:=Lib.hid hx1;have HX24:=Lib.hid hx2;have HX34:=Lib.hid hx3;have HE4:=Lib.hid hE4;have HT4:=Lib.hid (HT.out.below hb4 HT.out.pos);have HV4:=Lib.hid (HV.out.ext hb4)
 have hl4:w.heap.size+1+1<w4.heap.size:=by omega
 clear htr hwt hok hE4 HE3 HT HV HX1 HX2 HX3 hb4 hx2 hx3
 obtain ⟨d0,d1,d2,d3,d4,d5,df⟩:=six_cells hx1
 clear hx1
 go_wp2_with fail
 refine (copyClient_c c _ w4 HV4.out (by omega) (by omega)).mono ?_
 rintro e w5 ⟨v5,rfl,⟨B1,m1,B2,m2,rfl,g1,g2⟩,hb5⟩
 have hs5:=hb5.size
 have hx1:=(hb5.block w.heap.size (by omega)).trans HX14.out;have hx2:=(hb5.block (w.heap.size+1) (by omega)).trans HX24.out;have hx3:=(hb5.block (w.heap.size+1+1) (by omega)).trans HX34.out
 have ho1:Own 46 ((((((w5.setCell ⟨w.heap.size,0,none⟩ (.int .i64 c.who)).setCell ⟨w.heap.size,1,none⟩ (.int .i64 c.seen)).setCell ⟨w.heap.size,2,none⟩ (.slice B1 c.base.length m1)).setCell ⟨w.heap.size,3,none⟩ (.slice B2 c.wait.length m2)).setCell ⟨w.heap.size,4,none⟩ (.int .i64 c.done)).setCell ⟨w.heap.size,5,none⟩ (.int .i64 c.made)) w4.heap.size (.slice B1 c.base.length m1) c.base:=own_put6 g1 hx1 (by decide) (.int .i64 c.who) (.int .i64 c.seen) (.slice B1 c.base.length m1) (.slice B2 c.wait.length m2) (.int .i64 c.done) (.int .i64 c.made)
 have ho2:Own 35 ((((((w5.setCell ⟨w.heap.size,0,none⟩ (.int .i64 c.who)).setCell ⟨w.heap.size,1,none⟩ (.int .i64 c.seen)).setCell ⟨w.heap.size,2,none⟩ (.slice B1 c.base.length m1)).setCell ⟨w.heap.size,3,none⟩ (.slice B2 c.wait.length m2)).setCell ⟨w.heap.size,4,none⟩ (.int .i64 c.done)).setCell ⟨w.heap.size,5,none⟩ (.int .i64 c.made)) w4.heap.size (.slice B2 c.wait.length m2) c.wait:=own_put6 g2 hx1 (by decide) (.int .i64 c.who) (.int .i64 c.seen) (.slice B1 c.base.length m1) (.slice B2 c.wait.length m2) (.int .i64 c.done) (.int .i64 c.made)
 have hy1:((((((w5.setCell ⟨w.heap.size,0,none⟩ (.int .i64 c.who)).setCell ⟨w.heap.size,1,none⟩ (.int .i64 c.seen)).setCell ⟨w.heap.size,2,none⟩ (.slice B1 c.base.length m1)).setCell ⟨w.heap.size,3,none⟩ (.slice B2 c.wait.length m2)).setCell ⟨w.heap.size,4,none⟩ (.int .i64 c.done)).setCell ⟨w.heap.size,5,none⟩ (.int .i64 c.made)).heap[w.heap.size]?=some (.cells (cC c B1 m1 B2 m2) 26 (0,0)):=put6_at (.int .i64 c.who) (.int .i64 c.seen) (.slice B1 c.base.length m1) (.slice B2 c.wait.length m2) (.int .i64 c.done) (.int .i64 c.made) hx1
 have hy2:((((((w5.setCell ⟨w.heap.size,0,none⟩ (.int .i64 c.who)).setCell ⟨w.heap.size,1,none⟩ (.int .i64 c.seen)).setCell ⟨w.heap.size,2,none⟩ (.slice B1 c.base.length m1)).setCell ⟨w.heap.size,3,none⟩ (.slice B2 c.wait.length m2)).setCell ⟨w.heap.size,4,none⟩ (.int .i64 c.done)).setCell ⟨w.heap.size,5,none⟩ (.int .i64 c.made)).heap[w.heap.size+1]?=some (.cells (cO o) 28 (0,0)):=(put6_far (.int .i64 c.who) (.int .i64 c.seen) (.slice B1 c.base.length m1) (.slice B2 c.wait.length m2) (.int .i64 c.done) (.int .i64 c.made) (by omega)).trans hx2
 have hy3:((((((w5.setCell ⟨w.heap.size,0,none⟩ (.int .i64 c.who)).setCell ⟨w.heap.size,1,none⟩ (.int .i64 c.seen)).setCell ⟨w.heap.size,2,none⟩ (.slice B1 c.base.length m1)).setCell ⟨w.heap.size,3,none⟩ (.slice B2 c.wait.length m2)).setCell ⟨w.heap.size,4,none⟩ (.int .i64 c.done)).setCell ⟨w.heap.size,5,none⟩ (.int .i64 c.made)).heap[w.heap.size+1+1]?=some (.cells cC0 26 (0,0)):=(put6_far (.int .i64 c.who) (.int .i64 c.seen) (.slice B1 c.base.length m1) (.slice B2 c.wait.length m2) (.int .i64 c.done) (.int .i64 c.made) (by omega)).trans hx3
 have hE6:Ext w ((((((w5.setCell ⟨w.heap.size,0,none⟩ (.int .i64 c.who)).setCell ⟨w.heap.size,1,none⟩ (.int .i64 c.seen)).setCell ⟨w.heap.size,2,none⟩ (.slice B1 c.base.length m1)).setCell ⟨w.heap.size,3,none⟩ (.slice B2 c.wait.length m2)).setCell ⟨w.heap.size,4,none⟩ (.int .i64 c.done)).setCell ⟨w.heap.size,5,none⟩ (.int .i64 c.made)):=put6_below (.int .i64 c.who) (.int .i64 c.seen) (.slice B1 c.base.length m1) (.slice B2 c.wait.length m2) (.int .i64 c.done) (.int .i64 c.made) (HE4.out.trans (hb5.mono HE4.out.size)) (Nat.le_refl _)
 have hz6:((((((w5.setCell ⟨w.heap.size,0,none⟩ (.int .i64 c.who)).setCell ⟨w.heap.size,1,none⟩ (.int .i64 c.seen)).setCell ⟨w.heap.size,2,none⟩ (.slice B1 c.base.length m1)).setCell ⟨w.heap.size,3,none⟩ (.slice B2 c.wait.length m2)).setCell ⟨w.heap.size,4,none⟩ (.int .i64 c.done)).setCell ⟨w.heap.size,5,none⟩ (.int .i64 c.made)).heap.size=w5.heap.size:=put6_size w5 w.heap.size (.int .i64 c.who) (.int .i64 c.seen) (.slice B1 c.base.length m1) (.slice B2 c.wait.length m2) (.int .i64 c.done) (.int .i64 c.made)
 clear d0 d1 d2 d3 d4 d5 df
 obtain ⟨d0,d1,d2,d3,d4,d5,df⟩:=six_cells hx1
 obtain ⟨x0,x1,x2,x3,x4,x5,xf⟩:=six_cells hy1
 obtain ⟨y0,y1,y2,y3,y4,yf⟩:=five_cells hy2
 have HO1:=Lib.hid ho1;have HO2:=Lib.hid ho2;have HX1:=Lib.hid hy1;have HX2:=Lib.hid hy2;have HX3:=Lib.hid hy3;have HE6:=Lib.hid hE6
 clear g1 g2 hx1 hx2 hx3 ho1 ho2 hy1 hy2 hy3 hE6 hb5
 go_upto_region 4 with fail
 generalize ((((((w5.setCell ⟨w.heap.size,0,none⟩ (.int .i64 c.who)).setCell ⟨w.heap.size,1,none⟩ (.int .i64 c.seen)).setCell ⟨w.heap.size,2,none⟩ (.slice B1 c.base.length m1)).setCell ⟨w.heap.size,3,none⟩ (.slice B2 c.wait.length m2)).setCell ⟨w.heap.size,4,none⟩ (.int .i64 c.done)).setCell ⟨w.heap.size,5,none⟩ (.int .i64 c.made))=W6 at *
 clear d0 d1 d2 d3 d4 d5 df
 go_upto_region 5 with fail
 have hE7:Ext W6 (W6.alloc (.cells #[.int .i64 c.who,.int .i64 (c.done+(c.wait.length:Int)+1),.int .i64 o.kind,.int .i64 o.id,.int .i64 o.up,.int .i64 o.pos,.string o.text] 35)):=(Below.refl _ _).alloc (Nat.le_refl _) _
 have hx1:=(hE7.block _ (blk_lt HX1.out)).trans HX1.out;have hx2:=(hE7.block _ (blk_lt HX2.out)).trans HX2.out;have hx3:=(hE7.block _ (blk_lt HX3.out)).trans HX3.out
 have hx4:=World.alloc_heap_new W6 (.cells #[.int .i64 c.who,.int .i64 (c.done+(c.wait.length:Int)+1),.int .i64 o.kind,.int .i64 o.id,.int .i64 o.up,.int .i64 o.pos,.string o.text] 35)
 have HE7:=Lib.hid (HE6.out.trans (hE7.mono HE6.out.size));have HB67:=Lib.hid hE7
 have HO17:=Lib.hid (HO1.out.below hE7);have HO27:=Lib.hid (HO2.out.below hE7)
 have hz7:=alloc_sz W6 (.cells #[.int .i64 c.who,.int .i64 (c.done+(c.wait.length:Int)+1),.int .i64 o.kind,.int .i64 o.id,.int .i64 o.up,.int .i64 o.pos,.string o.text] 35)
 have HX6:=Lib.hid (⟨HX1.out,HX2.out,HX3.out⟩:_∧_∧_)
 clear HX1 HX2 HX3 HO1 HO2 hE7 x0 x1 x2 x3 x4 x5 xf y0 y1 y2 y3 y4 yf
 rw [hz6] at hx4 hz7
 obtain ⟨eb,heb⟩:∃ eb,eb=w5.heap.size:=⟨_,rfl⟩
 have hebl:w.heap.size+1+1<eb∧w4.heap.size≤eb:=by omega
 rw [←heb] at hx4 hz7 ⊢
 have HEB:=Lib.hid heb
 clear heb
 generalize (W6.alloc (.cells #[.int .i64 c.who,.int .i64 (c.done+(c.wait.length:Int)+1),.int .i64 o.kind,.int .i64 o.id,.int .i64 o.up,.int .i64 o.pos,.string o.text] 35))=W7 at *
 have HX1:=Lib.hid hx1;have HX2:=Lib.hid hx2;have HX3:=Lib.hid hx3;have HX4:=Lib.hid hx4
 have hpos:eb<W7.heap.size:=by omega
 have hlt1:w.heap.size<W7.heap.size:=by omega
 have hlt2:w.heap.size+1<W7.heap.size:=by omega
 have hlt3:w.heap.size+1+1<W7.heap.size:=by omega
 have hwr:IntKind.i64.wrap (c.made+1)=c.made+1:=by rw [IntKind.wrap_i64];omega
 have HTT:=Lib.hid (HT0.out.below HE7.out HT0.out.pos)
 have HEK:=Lib.hid (entryOk_c (newEnt c o) W7.drew (HTT.out.below (Below.refl _ _).drew HTT.out.pos) hs)
 have HRM:=Lib.hid (fun W=>rowMade_c c.who (c.made+1) W (by unfold isWho at hw9;rw [decide_eq_true_eq] at hw9;unfold i64;omega) (by unfold i64;omega))
 clear hx1 hx2 hx3 hx4
 go_cut [42] (fun s wx=>∃ z:Bool,s=.bool z∧Hid (z=true→(doS c o)=(c,false))∧Hid (z=false→(doS c o)=(⟨c.who,c.seen,c.base,c.wait++[newEnt c o],c.done,if o.kind=1 then c.made+1 else c.made⟩,true))∧Hid (Ext W7 wx))
 case first=>
  obtain ⟨e0,e1,e2,e3,e4,e5,e6,ef⟩:=seven_cells HX4.out
  obtain ⟨y0,y1,y2,y3,y4,yf⟩:=five_cells HX2.out
  obtain ⟨x0,x1,x2,x3,x4,x5,xf⟩:=six_cells HX1.out
  cases hen:entryOk (newEnt c o)
  ·rw [hen] at HEK
   have HNO:Hid (doS c o=(c,false)):=by show _=_;unfold doS;rw [if_neg (fun h=>by rw [hen] at h;cases h.1)]
   clear hen
   refine wp_region_any (by kernel_rfl) ?_
   change wpAny _ _ _ _ _ _ _ (World.drew _)
   refine wpAny_ready (rs:=[0]) (by kernel_rfl) (by simp) ?_
   refine AllReady.cons rfl (fun K hK=>?_) AllReady.nil
   go_simp
   refine hK _ _ ?_;clear hK K
   refine wpAny_ready (rs:=[1]) (by kernel_rfl) (by simp) ?_
   refine AllReady.cons rfl (fun K hK=>?_) AllReady.nil
   go_simp
   go_wp2_with (go_at_call 35;refine HEK.out.mono ?_;rintro e w1 ⟨rfl,hb1⟩;obtain ⟨z0,z1,z2,z3,z4,zf⟩:=five_cells ((hb1.block (w.heap.size+1) hlt2).trans HX2.out);have HB1:=Lib.hid hb1;clear hb1)
   refine wpAny_ready (rs:=[2]) (by kernel_rfl) (by simp) ?_
   refine AllReady.cons rfl (fun K hK=>?_) AllReady.nil
   go_simp
   refine hK _ _ ?_;clear hK K
   refine wpAny_ready (rs:=[3]) (by kernel_rfl) (by simp) ?_
   refine AllReady.cons rfl (fun K hK=>?_) AllReady.nil
   go_simp
   refine hK _ _ ?_;clear hK K
   refine any_skip 4 rfl (by kernel_rfl) (by kernel_rfl) (by kernel_rfl) (fun _ _ _ h=>h) (by kernel_rfl) ?_
   refine any_skip 5 rfl (by kernel_rfl) (by kernel_rfl) (by kernel_rfl) (fun _ _ _ h=>h) (by kernel_rfl) ?_
   refine any_skip 6 rfl (by kernel_rfl) (by kernel_rfl) (by kernel_rfl) (fun _ _ _ h=>h) (by kernel_rfl) ?_
   refine any_skip 7 rfl (by kernel_rfl) (by kernel_rfl) (by kernel_rfl) (fun _ _ _ h=>h) (by kernel_rfl) ?_
   refine any_skip 8 rfl (by kernel_rfl) (by kernel_rfl) (by kernel_rfl) (fun _ _ _ h=>h) (by kernel_rfl) ?_
   refine any_skip 9 rfl (by kernel_rfl) (by kernel_rfl) (by kernel_rfl) (fun _ _ _ h=>h) (by kernel_rfl) ?_
   refine any_skip 10 rfl (by kernel_rfl) (by kernel_rfl) (by kernel_rfl) (fun _ _ _ h=>h) (by kernel_rfl) ?_
   refine any_skip 11 rfl (by kernel_rfl) (by kernel_rfl) (by kernel_rfl) (fun _ _ _ h=>h) (by kernel_rfl) ?_
   refine any_skip 12 rfl (by kernel_rfl) (by kernel_rfl) (by kernel_rfl) (fun _ _ _ h=>h) (by kernel_rfl) ?_
   refine any_skip 13 rfl (by kernel_rfl) (by kernel_rfl) (by kernel_rfl) (fun _ _ _ h=>h) (by kernel_rfl) ?_
   refine any_skip 14 rfl (by kernel_rfl) (by kernel_rfl) (by kernel_rfl) (fun _ _ _ h=>h) (by kernel_rfl) ?_
   refine any_skip 15 rfl (by kernel_rfl) (by kernel_rfl) (by kernel_rfl) (fun _ _ _ h=>h) (by kernel_rfl) ?_
   refine any_skip 16 rfl (by kernel_rfl) (by kernel_rfl) (by kernel_rfl) (fun _ _ _ h=>h) (by kernel_rfl) ?_
   refine any_skip 17 rfl (by kernel_rfl) (by kernel_rfl) (by kernel_rfl) (fun _ _ _ h=>h) (by kernel_rfl) ?_
   refine wpAny_ready (rs:=[18]) (by kernel_rfl) (by simp) ?_
   refine AllReady.cons rfl (fun K hK=>?_) AllReady.nil
   go_simp
   refine hK _ _ ?_;clear hK K
   refine wpAny_done (by kernel_rfl) ?_ _
   go_wp2_with fail
   go_meet
   exact ⟨true,rfl,Lib.hid (fun _=>HNO.out),Lib.hid (fun h=>by cases h),((Below.refl _ _).drew).trans HB1.out⟩
  ·rw [hen] at HEK
   by_cases hk:o.kind=1
   ·have hk':(o.kind == 1)=true:=by simp [hk]
    by_cases hid:o.id=rowMade c.who (c.made+1)
    ·have hid':(o.id != rowMade c.who (c.made+1))=false:=by simp [hid]
     have HYES:Hid (doS c o=(⟨c.who,c.seen,c.base,c.wait++[newEnt c o],c.done,if o.kind=1 then c.made+1 else c.made⟩,true)):=by show _=_;unfold doS;rw [if_pos ⟨hen,fun _=>hid⟩]
     clear hen hk hid
     have E0:W7.drew.cell? ⟨w.heap.size+1,0,none⟩=some (.int .i64 o.kind)∧W7.drew.cell? ⟨w.heap.size+1,1,none⟩=some (.int .i64 o.id)∧W7.drew.cell? ⟨w.heap.size+1,2,none⟩=some (.int .i64 o.up)∧W7.drew.cell? ⟨w.heap.size+1,3,none⟩=some (.int .i64 o.pos)∧W7.drew.cell? ⟨w.heap.size+1,4,none⟩=some (.string o.text)∧W7.drew.cell? ⟨w.heap.size,0,none⟩=some (.int .i64 c.who)∧W7.drew.cell? ⟨w.heap.size,1,none⟩=some (.int .i64 c.seen)∧W7.drew.cell? ⟨w.heap.size,2,none⟩=some (.slice B1 c.base.length m1)∧W7.drew.cell? ⟨w.heap.size,3,none⟩=some (.slice B2 c.wait.length m2)∧W7.drew.cell? ⟨w.heap.size,4,none⟩=some (.int .i64 c.done)∧W7.drew.cell? ⟨w.heap.size,5,none⟩=some (.int .i64 c.made)∧W7.drew.cell? ⟨eb,0,none⟩=some (.int .i64 c.who)∧W7.drew.cell? ⟨eb,1,none⟩=some (.int .i64 (c.done+(c.wait.length:Int)+1))∧W7.drew.cell? ⟨eb,2,none⟩=some (.int .i64 o.kind)∧W7.drew.cell? ⟨eb,3,none⟩=some (.int .i64 o.id)∧W7.drew.cell? ⟨eb,4,none⟩=some (.int .i64 o.up)∧W7.drew.cell? ⟨eb,5,none⟩=some (.int .i64 o.pos)∧W7.drew.cell? ⟨eb,6,none⟩=some (.string o.text):=⟨y0,y1,y2,y3,y4,x0,x1,x2,x3,x4,x5,e0,e1,e2,e3,e4,e5,e6⟩
     clear y0 y1 y2 y3 y4 x0 x1 x2 x3 x4 x5 e0 e1 e2 e3 e4 e5 e6 yf xf ef
     go_region_held3 (fun w'=>w'.cell? ⟨w.heap.size+1,0,none⟩=some (.int .i64 o.kind)∧w'.cell? ⟨w.heap.size+1,1,none⟩=some (.int .i64 o.id)∧w'.cell? ⟨w.heap.size+1,2,none⟩=some (.int .i64 o.up)∧w'.cell? ⟨w.heap.size+1,3,none⟩=some (.int .i64 o.pos)∧w'.cell? ⟨w.heap.size+1,4,none⟩=some (.string o.text)∧w'.cell? ⟨w.heap.size,0,none⟩=some (.int .i64 c.who)∧w'.cell? ⟨w.heap.size,1,none⟩=some (.int .i64 c.seen)∧w'.cell? ⟨w.heap.size,2,none⟩=some (.slice B1 c.base.length m1)∧w'.cell? ⟨w.heap.size,3,none⟩=some (.slice B2 c.wait.length m2)∧w'.cell? ⟨w.heap.size,4,none⟩=some (.int .i64 c.done)∧w'.cell? ⟨w.heap.size,5,none⟩=some (.int .i64 c.made)∧w'.cell? ⟨eb,0,none⟩=some (.int .i64 c.who)∧w'.cell? ⟨eb,1,none⟩=some (.int .i64 (c.done+(c.wait.length:Int)+1))∧w'.cell? ⟨eb,2,none⟩=some (.int .i64 o.kind)∧w'.cell? ⟨eb,3,none⟩=some (.int .i64 o.id)∧w'.cell? ⟨eb,4,none⟩=some (.int .i64 o.up)∧w'.cell? ⟨eb,5,none⟩=some (.int .i64 o.pos)∧w'.cell? ⟨eb,6,none⟩=some (.string o.text))
      (first | exact E1 | exact E0 | go_keep)
      (first
       |(go_at_call 35;refine HEK.out.mono ?_;rintro e w1 ⟨rfl,hb1⟩;obtain ⟨hc1,hf1⟩:=bcell hb1
         have E1:w1.cell? ⟨w.heap.size+1,0,none⟩=some (.int .i64 o.kind)∧w1.cell? ⟨w.heap.size+1,1,none⟩=some (.int .i64 o.id)∧w1.cell? ⟨w.heap.size+1,2,none⟩=some (.int .i64 o.up)∧w1.cell? ⟨w.heap.size+1,3,none⟩=some (.int .i64 o.pos)∧w1.cell? ⟨w.heap.size+1,4,none⟩=some (.string o.text)∧w1.cell? ⟨w.heap.size,0,none⟩=some (.int .i64 c.who)∧w1.cell? ⟨w.heap.size,1,none⟩=some (.int .i64 c.seen)∧w1.cell? ⟨w.heap.size,2,none⟩=some (.slice B1 c.base.length m1)∧w1.cell? ⟨w.heap.size,3,none⟩=some (.slice B2 c.wait.length m2)∧w1.cell? ⟨w.heap.size,4,none⟩=some (.int .i64 c.done)∧w1.cell? ⟨w.heap.size,5,none⟩=some (.int .i64 c.made)∧w1.cell? ⟨eb,0,none⟩=some (.int .i64 c.who)∧w1.cell? ⟨eb,1,none⟩=some (.int .i64 (c.done+(c.wait.length:Int)+1))∧w1.cell? ⟨eb,2,none⟩=some (.int .i64 o.kind)∧w1.cell? ⟨eb,3,none⟩=some (.int .i64 o.id)∧w1.cell? ⟨eb,4,none⟩=some (.int .i64 o.up)∧w1.cell? ⟨eb,5,none⟩=some (.int .i64 o.pos)∧w1.cell? ⟨eb,6,none⟩=some (.string o.text):=⟨(hc1 _ _ hlt2).trans E0.1,(hc1 _ _ hlt2).trans E0.2.1,(hc1 _ _ hlt2).trans E0.2.2.1,(hc1 _ _ hlt2).trans E0.2.2.2.1,(hc1 _ _ hlt2).trans E0.2.2.2.2.1,(hc1 _ _ hlt1).trans E0.2.2.2.2.2.1,(hc1 _ _ hlt1).trans E0.2.2.2.2.2.2.1,(hc1 _ _ hlt1).trans E0.2.2.2.2.2.2.2.1,(hc1 _ _ hlt1).trans E0.2.2.2.2.2.2.2.2.1,(hc1 _ _ hlt1).trans E0.2.2.2.2.2.2.2.2.2.1,(hc1 _ _ hlt1).trans E0.2.2.2.2.2.2.2.2.2.2.1,(hc1 _ _ hpos).trans E0.2.2.2.2.2.2.2.2.2.2.2.1,(hc1 _ _ hpos).trans E0.2.2.2.2.2.2.2.2.2.2.2.2.1,(hc1 _ _ hpos).trans E0.2.2.2.2.2.2.2.2.2.2.2.2.2.1,(hc1 _ _ hpos).trans E0.2.2.2.2.2.2.2.2.2.2.2.2.2.2.1,(hc1 _ _ hpos).trans E0.2.2.2.2.2.2.2.2.2.2.2.2.2.2.2.1,(hc1 _ _ hpos).trans E0.2.2.2.2.2.2.2.2.2.2.2.2.2.2.2.2.1,(hc1 _ _ hpos).trans E0.2.2.2.2.2.2.2.2.2.2.2.2.2.2.2.2.2⟩
         have HB1:=Lib.hid hb1;clear hc1 hf1 hb1)
       |(go_at_call 36;refine (HRM.out _).mono ?_;rintro e w2 ⟨rfl,hw2⟩;rw [hw2];clear hw2))
     go_wp2_with fail
     go_meet
     exact ⟨false,rfl,Lib.hid (fun h=>by cases h),Lib.hid (fun _=>HYES.out),((Below.refl _ _).drew).trans HB1.out⟩
    ·have hid':(o.id != rowMade c.who (c.made+1))=true:=by simp [hid]
     have HNO:Hid (doS c o=(c,false)):=by show _=_;unfold doS;rw [if_neg (fun h=>hid (h.2 hk))]
     clear hen hk hid
     have E0:W7.drew.cell? ⟨w.heap.size+1,0,none⟩=some (.int .i64 o.kind)∧W7.drew.cell? ⟨w.heap.size+1,1,none⟩=some (.int .i64 o.id)∧W7.drew.cell? ⟨w.heap.size+1,2,none⟩=some (.int .i64 o.up)∧W7.drew.cell? ⟨w.heap.size+1,3,none⟩=some (.int .i64 o.pos)∧W7.drew.cell? ⟨w.heap.size+1,4,none⟩=some (.string o.text)∧W7.drew.cell? ⟨w.heap.size,0,none⟩=some (.int .i64 c.who)∧W7.drew.cell? ⟨w.heap.size,1,none⟩=some (.int .i64 c.seen)∧W7.drew.cell? ⟨w.heap.size,2,none⟩=some (.slice B1 c.base.length m1)∧W7.drew.cell? ⟨w.heap.size,3,none⟩=some (.slice B2 c.wait.length m2)∧W7.drew.cell? ⟨w.heap.size,4,none⟩=some (.int .i64 c.done)∧W7.drew.cell? ⟨w.heap.size,5,none⟩=some (.int .i64 c.made)∧W7.drew.cell? ⟨eb,0,none⟩=some (.int .i64 c.who)∧W7.drew.cell? ⟨eb,1,none⟩=some (.int .i64 (c.done+(c.wait.length:Int)+1))∧W7.drew.cell? ⟨eb,2,none⟩=some (.int .i64 o.kind)∧W7.drew.cell? ⟨eb,3,none⟩=some (.int .i64 o.id)∧W7.drew.cell? ⟨eb,4,none⟩=some (.int .i64 o.up)∧W7.drew.cell? ⟨eb,5,none⟩=some (.int .i64 o.pos)∧W7.drew.cell? ⟨eb,6,none⟩=some (.string o.text):=⟨y0,y1,y2,y3,y4,x0,x1,x2,x3,x4,x5,e0,e1,e2,e3,e4,e5,e6⟩
     clear y0 y1 y2 y3 y4 x0 x1 x2 x3 x4 x5 e0 e1 e2 e3 e4 e5 e6 yf xf ef
     go_region_held3 (fun w'=>w'.cell? ⟨w.heap.size+1,0,none⟩=some (.int .i64 o.kind)∧w'.cell? ⟨w.heap.size+1,1,none⟩=some (.int .i64 o.id)∧w'.cell? ⟨w.heap.size+1,2,none⟩=some (.int .i64 o.up)∧w'.cell? ⟨w.heap.size+1,3,none⟩=some (.int .i64 o.pos)∧w'.cell? ⟨w.heap.size+1,4,none⟩=some (.string o.text)∧w'.cell? ⟨w.heap.size,0,none⟩=some (.int .i64 c.who)∧w'.cell? ⟨w.heap.size,1,none⟩=some (.int .i64 c.seen)∧w'.cell? ⟨w.heap.size,2,none⟩=some (.slice B1 c.base.length m1)∧w'.cell? ⟨w.heap.size,3,none⟩=some (.slice B2 c.wait.length m2)∧w'.cell? ⟨w.heap.size,4,none⟩=some (.int .i64 c.done)∧w'.cell? ⟨w.heap.size,5,none⟩=some (.int .i64 c.made)∧w'.cell? ⟨eb,0,none⟩=some (.int .i64 c.who)∧w'.cell? ⟨eb,1,none⟩=some (.int .i64 (c.done+(c.wait.length:Int)+1))∧w'.cell? ⟨eb,2,none⟩=some (.int .i64 o.kind)∧w'.cell? ⟨eb,3,none⟩=some (.int .i64 o.id)∧w'.cell? ⟨eb,4,none⟩=some (.int .i64 o.up)∧w'.cell? ⟨eb,5,none⟩=some (.int .i64 o.pos)∧w'.cell? ⟨eb,6,none⟩=some (.string o.text))
      (first | exact E1 | exact E0 | go_keep)
      (first
       |(go_at_call 35;refine HEK.out.mono ?_;rintro e w1 ⟨rfl,hb1⟩;obtain ⟨hc1,hf1⟩:=bcell hb1
         have E1:w1.cell? ⟨w.heap.size+1,0,none⟩=some (.int .i64 o.kind)∧w1.cell? ⟨w.heap.size+1,1,none⟩=some (.int .i64 o.id)∧w1.cell? ⟨w.heap.size+1,2,none⟩=some (.int .i64 o.up)∧w1.cell? ⟨w.heap.size+1,3,none⟩=some (.int .i64 o.pos)∧w1.cell? ⟨w.heap.size+1,4,none⟩=some (.string o.text)∧w1.cell? ⟨w.heap.size,0,none⟩=some (.int .i64 c.who)∧w1.cell? ⟨w.heap.size,1,none⟩=some (.int .i64 c.seen)∧w1.cell? ⟨w.heap.size,2,none⟩=some (.slice B1 c.base.length m1)∧w1.cell? ⟨w.heap.size,3,none⟩=some (.slice B2 c.wait.length m2)∧w1.cell? ⟨w.heap.size,4,none⟩=some (.int .i64 c.done)∧w1.cell? ⟨w.heap.size,5,none⟩=some (.int .i64 c.made)∧w1.cell? ⟨eb,0,none⟩=some (.int .i64 c.who)∧w1.cell? ⟨eb,1,none⟩=some (.int .i64 (c.done+(c.wait.length:Int)+1))∧w1.cell? ⟨eb,2,none⟩=some (.int .i64 o.kind)∧w1.cell? ⟨eb,3,none⟩=some (.int .i64 o.id)∧w1.cell? ⟨eb,4,none⟩=some (.int .i64 o.up)∧w1.cell? ⟨eb,5,none⟩=some (.int .i64 o.pos)∧w1.cell? ⟨eb,6,none⟩=some (.string o.text):=⟨(hc1 _ _ hlt2).trans E0.1,(hc1 _ _ hlt2).trans E0.2.1,(hc1 _ _ hlt2).trans E0.2.2.1,(hc1 _ _ hlt2).trans E0.2.2.2.1,(hc1 _ _ hlt2).trans E0.2.2.2.2.1,(hc1 _ _ hlt1).trans E0.2.2.2.2.2.1,(hc1 _ _ hlt1).trans E0.2.2.2.2.2.2.1,(hc1 _ _ hlt1).trans E0.2.2.2.2.2.2.2.1,(hc1 _ _ hlt1).trans E0.2.2.2.2.2.2.2.2.1,(hc1 _ _ hlt1).trans E0.2.2.2.2.2.2.2.2.2.1,(hc1 _ _ hlt1).trans E0.2.2.2.2.2.2.2.2.2.2.1,(hc1 _ _ hpos).trans E0.2.2.2.2.2.2.2.2.2.2.2.1,(hc1 _ _ hpos).trans E0.2.2.2.2.2.2.2.2.2.2.2.2.1,(hc1 _ _ hpos).trans E0.2.2.2.2.2.2.2.2.2.2.2.2.2.1,(hc1 _ _ hpos).trans E0.2.2.2.2.2.2.2.2.2.2.2.2.2.2.1,(hc1 _ _ hpos).trans E0.2.2.2.2.2.2.2.2.2.2.2.2.2.2.2.1,(hc1 _ _ hpos).trans E0.2.2.2.2.2.2.2.2.2.2.2.2.2.2.2.2.1,(hc1 _ _ hpos).trans E0.2.2.2.2.2.2.2.2.2.2.2.2.2.2.2.2.2⟩
         have HB1:=Lib.hid hb1;clear hc1 hf1 hb1)
       |(go_at_call 36;refine (HRM.out _).mono ?_;rintro e w2 ⟨rfl,hw2⟩;rw [hw2];clear hw2))
     go_wp2_with fail
     go_meet
     exact ⟨true,rfl,Lib.hid (fun _=>HNO.out),Lib.hid (fun h=>by cases h),((Below.refl _ _).drew).trans HB1.out⟩
   ·have hk':(o.kind == 1)=false:=by simp [hk]
    have HYES:Hid (doS c o=(⟨c.who,c.seen,c.base,c.wait++[newEnt c o],c.done,if o.kind=1 then c.made+1 else c.made⟩,true)):=by show _=_;unfold doS;rw [if_pos ⟨hen,fun h=>absurd h hk⟩]
    clear hen hk
    refine wp_region_any (by kernel_rfl) ?_
    change wpAny _ _ _ _ _ _ _ (World.drew _)
    refine wpAny_ready (rs:=[0]) (by kernel_rfl) (by simp) ?_
    refine AllReady.cons rfl (fun K hK=>?_) AllReady.nil
    go_simp
    refine hK _ _ ?_;clear hK K
    refine wpAny_ready (rs:=[1]) (by kernel_rfl) (by simp) ?_
    refine AllReady.cons rfl (fun K hK=>?_) AllReady.nil
    go_simp
    go_wp2_with (go_at_call 35;refine HEK.out.mono ?_;rintro e w1 ⟨rfl,hb1⟩;obtain ⟨z0,z1,z2,z3,z4,zf⟩:=five_cells ((hb1.block (w.heap.size+1) hlt2).trans HX2.out);have HB1:=Lib.hid hb1;clear hb1)
    refine wpAny_ready (rs:=[2]) (by kernel_rfl) (by simp) ?_
    refine AllReady.cons rfl (fun K hK=>?_) AllReady.nil
    go_simp
    refine hK _ _ ?_;clear hK K
    refine wpAny_ready (rs:=[3]) (by kernel_rfl) (by simp) ?_
    refine AllReady.cons rfl (fun K hK=>?_) AllReady.nil
    go_simp
    refine hK _ _ ?_;clear hK K
    refine wpAny_ready (rs:=[4]) (by kernel_rfl) (by simp) ?_
    refine AllReady.cons rfl (fun K hK=>?_) AllReady.nil
    go_simp
    refine hK _ _ ?_;clear hK K
    refine wpAny_ready (rs:=[5]) (by kernel_rfl) (by simp) ?_
    refine AllReady.cons rfl (fun K hK=>?_) AllReady.nil
    go_simp
    refine hK _ _ ?_;clear hK K
    refine wpAny_ready (rs:=[6]) (by kernel_rfl) (by simp) ?_
    refine AllReady.cons rfl (fun K hK=>?_) AllReady.nil
    go_simp
    refine hK _ _ ?_;clear hK K
    refine wpAny_ready (rs:=[7]) (by kernel_rfl) (by simp) ?_
    refine AllReady.cons rfl (fun K hK=>?_) AllReady.nil
    go_simp
    refine hK _ _ ?_;clear hK K
    refine any_skip 8 rfl (by kernel_rfl) (by kernel_rfl) (by kernel_rfl) (fun _ _ _ h=>h) (by kernel_rfl) ?_
    refine any_skip 9 rfl (by kernel_rfl) (by kernel_rfl) (by kernel_rfl) (fun _ _ _ h=>h) (by kernel_rfl) ?_
    refine any_skip 10 rfl (by kernel_rfl) (by kernel_rfl) (by kernel_rfl) (fun _ _ _ h=>h) (by kernel_rfl) ?_
    refine any_skip 11 rfl (by kernel_rfl) (by kernel_rfl) (by kernel_rfl) (fun _ _ _ h=>h) (by kernel_rfl) ?_
    refine any_skip 12 rfl (by kernel_rfl) (by kernel_rfl) (by kernel_rfl) (fun _ _ _ h=>h) (by kernel_rfl) ?_
    refine any_skip 13 rfl (by kernel_rfl) (by kernel_rfl) (by kernel_rfl) (fun _ _ _ h=>h) (by kernel_rfl) ?_
    refine any_skip 14 rfl (by kernel_rfl) (by kernel_rfl) (by kernel_rfl) (fun _ _ _ h=>h) (by kernel_rfl) ?_
    refine any_skip 15 rfl (by kernel_rfl) (by kernel_rfl) (by kernel_rfl) (fun _ _ _ h=>h) (by kernel_rfl) ?_
    refine any_skip 16 rfl (by kernel_rfl) (by kernel_rfl) (by kernel_rfl) (fun _ _ _ h=>h) (by kernel_rfl) ?_
    refine wpAny_ready (rs:=[17]) (by kernel_rfl) (by simp) ?_
    refine AllReady.cons rfl (fun K hK=>?_) AllReady.nil
    go_simp
    refine hK _ _ ?_;clear hK K
    refine wpAny_ready (rs:=[18]) (by kernel_rfl) (by simp) ?_
    refine AllReady.cons rfl (fun K hK=>?_) AllReady.nil
    go_simp
    refine hK _ _ ?_;clear hK K
    refine wpAny_done (by kernel_rfl) ?_ _
    go_wp2_with fail
    go_meet
    exact ⟨false,rfl,Lib.hid (fun h=>by cases h),Lib.hid (fun _=>HYES.out),((Below.refl _ _).drew).trans HB1.out⟩
 case rest=>
  obtain ⟨z,rfl,HZT,HZF,HW⟩:=hcut
  have hx1:=(HW.out.block _ hlt1).trans HX1.out
  have HEc:=Lib.hid (HE7.out.trans (HW.out.mono HE7.out.size))
  obtain ⟨x0,x1,x2,x3,x4,x5,xf⟩:=six_cells hx1
  clear hx1 HEK HRM
  cases z
  ·have hoc:=HO27.out.below HW.out
   have hwc:=HW.out.size
   have hAp:=app_one el_ent hoc (newEnt c o) HOE.out (by omega) (by omega) #[.int .i64 c.who,.int .i64 (c.done+(c.wait.length:Int)+1),.int .i64 o.kind,.int .i64 o.id,.int .i64 o.up,.int .i64 o.pos,.string o.text] rfl
   obtain ⟨va,w9,ra1,ra2,ra3⟩:=hAp
   obtain ⟨Bv,nv,hv9,-⟩:=ra2.rd
   rw [List.length_append,List.length_singleton] at hv9
   subst hv9
   have hb9:Below w4.heap.size W6 w9:=hoc.over_one ((HB67.out.trans (HW.out.mono HB67.out.size)).mono (by omega)) ra3 (Nat.le_refl _) (by omega)
   have hx6:=HX6.out
   have hx1:=(hb9.block _ (by omega)).trans HX6.out.1;have hx2:=(hb9.block _ (by omega)).trans HX6.out.2.1;have hx3:=(hb9.block _ (by omega)).trans HX6.out.2.2
   have hal:Ext wc (wc.alloc (.cells #[.int .i64 c.who,.int .i64 (c.done+(c.wait.length:Int)+1),.int .i64 o.kind,.int .i64 o.id,.int .i64 o.up,.int .i64 o.pos,.string o.text] 35)):=(Below.refl _ _).alloc (Nat.le_refl _) _
   have hr1:RdT 46 w9 B1 m1 c.base:=((HO17.out.rdT.ext HW.out).ext hal).grownO ra3 (hoc.below hal) (by decide)
   have hE9:Ext w w9:=HE6.out.trans (hb9.mono (by omega))
   obtain ⟨e0,e1,e2,e3,e4,e5,e6,ef⟩:=seven_cells ((HW.out.block _ hpos).trans HX4.out)
   obtain ⟨z0,z1,z2,z3,z4,z5,zf⟩:=six_cells hx1
   have HX1:=Lib.hid (set_at (i:=3) (v:=.slice Bv (c.wait.length+1) nv) hx1)
   have HX2:=Lib.hid (((setx (v:=.slice Bv (c.wait.length+1) nv) (o:=3) (show w.heap.size+1≠w.heap.size by omega))).trans hx2);have HX3:=Lib.hid (((setx (v:=.slice Bv (c.wait.length+1) nv) (o:=3) (show w.heap.size+1+1≠w.heap.size by omega))).trans hx3)
   have HR1:=Lib.hid (hr1.set hx1 (by decide) 3 (.slice Bv (c.wait.length+1) nv));have HR2:=Lib.hid (ra2.rdT.set hx1 (by decide) 3 (.slice Bv (c.wait.length+1) nv));have HE9:=Lib.hid (hE9.setCell (Nat.le_refl w.heap.size) (.slice Bv (c.wait.length+1) nv) (p:=⟨w.heap.size,3,none⟩))
   clear hx1 hx2 hx3 hal hr1 hE9 hb9 ra2 ra3 hoc hx6
   go_upto_region 8 with (at_builtin;refine wpList_append_run rfl _ _ _ rfl rfl rfl ra1 ?_)
   generalize (w9.setCell ⟨w.heap.size,3,none⟩ (.slice Bv (c.wait.length+1) nv))=W10 at *
   clear x0 x1 x2 x3 x4 x5 xf e0 e1 e2 e3 e4 e5 e6 ef z0 z1 z2 z3 z4 z5 zf ra1
   obtain ⟨y0,y1,y2,y3,y4,yf⟩:=five_cells HX2.out
   obtain ⟨x0,x1,x2,x3,x4,x5,xf⟩:=six_cells HX1.out
   obtain ⟨d0,d1,d2,d3,d4,d5,df⟩:=six_cells HX3.out
   by_cases hk:o.kind=1
   ·have hk':(o.kind == 1)=true:=by simp [hk]
    have HK:=Lib.hid hk
    clear hk
    go_upto_region 10 with fail
    have hz9:=(setx (v:=.int .i64 (c.made+1)) (o:=5) (show w.heap.size+1+1≠w.heap.size by omega)).trans HX3.out
    have hx9:=set_at (i:=5) (v:=.int .i64 (c.made+1)) HX1.out
    have hr1:=HR1.out.set HX1.out (by decide) 5 (.int .i64 (c.made+1))
    have hr2:=HR2.out.set HX1.out (by decide) 5 (.int .i64 (c.made+1))
    have hE9:=HE9.out.setCell (Nat.le_refl w.heap.size) (.int .i64 (c.made+1)) (p:=⟨w.heap.size,5,none⟩)
    generalize (W10.setCell ⟨w.heap.size,5,none⟩ (.int .i64 (c.made+1)))=W11 at *
    clear x0 x1 x2 x3 x4 x5 xf y0 y1 y2 y3 y4 yf d0 d1 d2 d3 d4 d5 df
    obtain ⟨x0,x1,x2,x3,x4,x5,xf⟩:=six_cells hx9
    obtain ⟨d0,d1,d2,d3,d4,d5,df⟩:=six_cells hz9
    have hz:=put6_at (.int .i64 c.who) (.int .i64 c.seen) (.slice B1 c.base.length m1) (.slice Bv (c.wait.length+1) nv) (.int .i64 c.done) (.int .i64 (c.made+1)) hz9
    have hE:=put6_below (.int .i64 c.who) (.int .i64 c.seen) (.slice B1 c.base.length m1) (.slice Bv (c.wait.length+1) nv) (.int .i64 c.done) (.int .i64 (c.made+1)) hE9 (show w.heap.size≤w.heap.size+1+1 from by omega)
    have HZ:=Lib.hid hz;have HE:=Lib.hid hE;have HQ9:=Lib.hid ((hr2).put6 hz9 (by decide) (.int .i64 c.who) (.int .i64 c.seen) (.slice B1 c.base.length m1) (.slice Bv (c.wait.length+1) nv) (.int .i64 c.done) (.int .i64 (c.made+1)));have HR9:=Lib.hid ((hr1).put6 hz9 (by decide) (.int .i64 c.who) (.int .i64 c.seen) (.slice B1 c.base.length m1) (.slice Bv (c.wait.length+1) nv) (.int .i64 c.done) (.int .i64 (c.made+1)))
    have HY:=Lib.hid ((by rw [HRes.out,HZF.out (by first | trivial | rfl),if_pos HK.out]:clientDo c o=(⟨c.who,c.seen,c.base,c.wait++[newEnt c o],c.done,c.made+1⟩,true)))
    clear hz hE
    go_wp2_with fail
    obtain ⟨k0,k1,k2,k3,k4,k5,kf⟩:=six_cells HZ.out
    refine bodyPost_ret (v:=.tuple #[.agg #[.int .i64 c.who,.int .i64 c.seen,.slice B1 c.base.length m1,.slice Bv (c.wait.length+1) nv,.int .i64 c.done,.int .i64 (c.made+1)],.bool true]) ?_ rfl ?_
    ·simp [results,Tryz.f8,go_sem,k0,k1,k2,k3,k4,k5]
    ·exact ⟨_,by rw [HY.out],by rw [HY.out];exact CT.cv ⟨B1,m1,Bv,nv,by simp only [List.length_append,List.length_singleton],HR9.out,HQ9.out⟩,HE.out⟩
   ·have hk':(o.kind == 1)=false:=by simp [hk]
    have HK:=Lib.hid hk
    clear hk
    have hz9:=HX3.out
    have hz:=put6_at (.int .i64 c.who) (.int .i64 c.seen) (.slice B1 c.base.length m1) (.slice Bv (c.wait.length+1) nv) (.int .i64 c.done) (.int .i64 c.made) hz9
    have hE:=put6_below (.int .i64 c.who) (.int .i64 c.seen) (.slice B1 c.base.length m1) (.slice Bv (c.wait.length+1) nv) (.int .i64 c.done) (.int .i64 c.made) HE9.out (show w.heap.size≤w.heap.size+1+1 from by omega)
    have HZ:=Lib.hid hz;have HE:=Lib.hid hE;have HQ9:=Lib.hid ((HR2.out).put6 hz9 (by decide) (.int .i64 c.who) (.int .i64 c.seen) (.slice B1 c.base.length m1) (.slice Bv (c.wait.length+1) nv) (.int .i64 c.done) (.int .i64 c.made));have HR9:=Lib.hid ((HR1.out).put6 hz9 (by decide) (.int .i64 c.who) (.int .i64 c.seen) (.slice B1 c.base.length m1) (.slice Bv (c.wait.length+1) nv) (.int .i64 c.done) (.int .i64 c.made))
    have HY:=Lib.hid ((by rw [HRes.out,HZF.out (by first | trivial | rfl),if_neg HK.out]:clientDo c o=(⟨c.who,c.seen,c.base,c.wait++[newEnt c o],c.done,c.made⟩,true)))
    clear hz hE
    go_wp2_with fail
    obtain ⟨k0,k1,k2,k3,k4,k5,kf⟩:=six_cells HZ.out
    refine bodyPost_ret (v:=.tuple #[.agg #[.int .i64 c.who,.int .i64 c.seen,.slice B1 c.base.length m1,.slice Bv (c.wait.length+1) nv,.int .i64 c.done,.int .i64 c.made],.bool true]) ?_ rfl ?_
    ·simp [results,Tryz.f8,go_sem,k0,k1,k2,k3,k4,k5]
    ·exact ⟨_,by rw [HY.out],by rw [HY.out];exact CT.cv ⟨B1,m1,Bv,nv,by simp only [List.length_append,List.length_singleton],HR9.out,HQ9.out⟩,HE.out⟩
  ·have hz3:=(HW.out.block _ hlt3).trans HX3.out
   obtain ⟨d0,d1,d2,d3,d4,d5,df⟩:=six_cells hz3
   have hz:=put6_at (.int .i64 c.who) (.int .i64 c.seen) (.slice B1 c.base.length m1) (.slice B2 c.wait.length m2) (.int .i64 c.done) (.int .i64 c.made) hz3
   have hE:=put6_below (.int .i64 c.who) (.int .i64 c.seen) (.slice B1 c.base.length m1) (.slice B2 c.wait.length m2) (.int .i64 c.done) (.int .i64 c.made) HEc.out (show w.heap.size≤w.heap.size+1+1 from by omega)
   have HZ:=Lib.hid hz;have HE:=Lib.hid hE;have HR9:=Lib.hid ((HO17.out.rdT.ext HW.out).put6 hz3 (by decide) (.int .i64 c.who) (.int .i64 c.seen) (.slice B1 c.base.length m1) (.slice B2 c.wait.length m2) (.int .i64 c.done) (.int .i64 c.made));have HQ9:=Lib.hid ((HO27.out.rdT.ext HW.out).put6 hz3 (by decide) (.int .i64 c.who) (.int .i64 c.seen) (.slice B1 c.base.length m1) (.slice B2 c.wait.length m2) (.int .i64 c.done) (.int .i64 c.made))
   clear hz3 hz hE
   go_wp2_with fail
   obtain ⟨k0,k1,k2,k3,k4,k5,kf⟩:=six_cells HZ.out
   refine bodyPost_ret (v:=.tuple #[.agg (cC c B1 m1 B2 m2),.bool false]) ?_ rfl ?_
   ·simp [results,Tryz.f8,go_sem,k0,k1,k2,k3,k4,k5]
   ·exact ⟨_,by rw [HRes.out,HZT.out (by first | trivial | rfl)],by rw [HRes.out,HZT.out (by first | trivial | rfl)];exact CT.cv ⟨_,_,_,_,rfl,HR9.out,HQ9.out⟩,HE.out⟩
open Go.RowKit Go.Lib
set_option linter.unusedSimpArgs false
set_option maxRecDepth 100000 in
set_option maxHeartbeats 4000000 in
theorem clientDo_s (c:Client) (v:Value) (o:Op) (w:World) (h:CV w c v) (hc:CW c) (ho:OpW o) (hs:o.text.size≤maxLen) :
  Calls Tryz.prog 7 #[v,.agg (cO o)] w fun r w'=>∃ v',r=.returned (.tuple #[v',.bool (clientDo c o).2])∧CV w' (clientDo c o).1 v'∧Ext w w':=by
 obtain ⟨A1,n1,A2,n2,rfl,h1,h2⟩:=h
 have h3:=three_all w (oC c A1 n1 A2 n2) (oO o) oC0
 have hE3:Ext w (((w.alloc (oC c A1 n1 A2 n2)).alloc (oO o)).alloc oC0):=ext3 _ _ _ _
 have HX1:=Lib.hid h3.1;have HX2:=Lib.hid h3.2.1;have HX3:=Lib.hid h3.2.2
 have hV3:CV (((w.alloc (oC c A1 n1 A2 n2)).alloc (oO o)).alloc oC0) c (.agg (cC c A1 n1 A2 n2)):=⟨A1,n1,A2,n2,rfl,h1.ext hE3,h2.ext hE3⟩
 have HV:=Lib.hid hV3;have HE3:=Lib.hid hE3;have HOW:=Lib.hid ho
 have HC:=Lib.hid (clientOk_s c _ _ hV3 hc)
 clear h1 h2 h3 hE3 hV3 hc ho
 go_enter Tryz.func7,Tryz.ntmps7
 go_wp2_with fail
 generalize (((w.alloc (oC c A1 n1 A2 n2)).alloc (oO o)).alloc oC0)=W3 at *
 refine HC.out.mono ?_
 rintro e w4 ⟨rfl,hb4⟩
 clear HC
 have HX1_4:=Lib.hid ((hb4.block _ (blk_lt HX1.out)).trans HX1.out);have HX2_4:=Lib.hid ((hb4.block _ (blk_lt HX2.out)).trans HX2.out);have HX3_4:=Lib.hid ((hb4.block _ (blk_lt HX3.out)).trans HX3.out)
 have HV_4:=Lib.hid (HV.out.ext hb4);have HE_4:=Lib.hid (HE3.out.trans (hb4.mono HE3.out.size))
 clear HX1 HX2 HX3 HV HE3 hb4
 cases hok:clientOk c
 ·have HRes:Hid (clientDo c o=(noClient,false)):=by show _=_;unfold clientDo;rw [hok];rfl
  obtain ⟨d0,d1,d2,d3,d4,d5,df⟩:=six_cells HX3_4.out
  have hz:=put6_at (.int .i64 0) (.int .i64 0) (.slice none 0 0) (.slice none 0 0) (.int .i64 0) (.int .i64 0) HX3_4.out
  have hE:=put6_below (.int .i64 0) (.int .i64 0) (.slice none 0 0) (.slice none 0 0) (.int .i64 0) (.int .i64 0) HE_4.out (show w.heap.size≤w.heap.size+1+1 from by omega)
  have HZ:=Lib.hid hz;have HE:=Lib.hid hE
  clear hz hE hok
  go_wp2_with fail
  obtain ⟨k0,k1,k2,k3,k4,k5,kf⟩:=six_cells HZ.out
  refine bodyPost_ret (v:=.tuple #[.agg cC0,.bool false]) ?_ rfl ?_
  ·simp [results,Tryz.f7,go_sem,k0,k1,k2,k3,k4,k5]
  ·exact ⟨_,by rw [HRes.out],by rw [HRes.out];exact CV.no _,HE.out⟩
 have HRes:Hid (clientDo c o=doS c o):=by show _=_;unfold clientDo;rw [if_pos hok]
 have hbl:=treeOk_len (clientOk_parts hok).2.2.2.1
 have hwl:=(clientOk_parts hok).2.2.2.2.2.2.1
 have hd0:=(clientOk_parts hok).2.2.2.2.1
 have HOK:=Lib.hid hok
 clear hok
 go_upto_region 3 with fail
 refine wp_region_B (fun w'=>w'.cell? ⟨w.heap.size,0,none⟩=some (.int .i64 c.who)∧w'.cell? ⟨w.heap.size,1,none⟩=some (.int .i64 c.seen)∧w'.cell? ⟨w.heap.size,2,none⟩=some (.slice A1 c.base.length n1)∧w'.cell? ⟨w.heap.size,3,none⟩=some (.slice A2 c.wait.length n2)∧w'.cell? ⟨w.heap.size,4,none⟩=some (.int .i64 c.done)∧w'.cell? ⟨w.heap.size,5,none⟩=some (.int .i64 c.made)∧w'.cell? ⟨w.heap.size+1,0,none⟩=some (.int .i64 o.kind)∧w'.cell? ⟨w.heap.size+1,1,none⟩=some (.int .i64 o.id)∧w'.cell? ⟨w.heap.size+1,2,none⟩=some (.int .i64 o.up)∧w'.cell? ⟨w.heap.size+1,3,none⟩=some (.int .i64 o.pos)∧w'.cell? ⟨w.heap.size+1,4,none⟩=some (.string o.text)) 6 (by kernel_rfl) ?_
 have hb5:Ext w4 w4.drew:=(Below.refl _ _).drew
 generalize w4.drew=w5 at *
 have HX1_5:=Lib.hid ((hb5.block _ (blk_lt HX1_4.out)).trans HX1_4.out);have HX2_5:=Lib.hid ((hb5.block _ (blk_lt HX2_4.out)).trans HX2_4.out);have HX3_5:=Lib.hid ((hb5.block _ (blk_lt HX3_4.out)).trans HX3_4.out)
 have HV_5:=Lib.hid (HV_4.out.ext hb5);have HE_5:=Lib.hid (HE_4.out.trans (hb5.mono HE_4.out.size))
 clear HX1_4 HX2_4 HX3_4 HV_4 HE_4
 clear hb5
 have HS:Hid (w5.cell? ⟨w.heap.size,0,none⟩=some (.int .i64 c.who)∧w5.cell? ⟨w.heap.size,1,none⟩=some (.int .i64 c.seen)∧w5.cell? ⟨w.heap.size,2,none⟩=some (.slice A1 c.base.length n1)∧w5.cell? ⟨w.heap.size,3,none⟩=some (.slice A2 c.wait.length n2)∧w5.cell? ⟨w.heap.size,4,none⟩=some (.int .i64 c.done)∧w5.cell? ⟨w.heap.size,5,none⟩=some (.int .i64 c.made)∧w5.cell? ⟨w.heap.size+1,0,none⟩=some (.int .i64 o.kind)∧w5.cell? ⟨w.heap.size+1,1,none⟩=some (.int .i64 o.id)∧w5.cell? ⟨w.heap.size+1,2,none⟩=some (.int .i64 o.up)∧w5.cell? ⟨w.heap.size+1,3,none⟩=some (.int .i64 o.pos)∧w5.cell? ⟨w.heap.size+1,4,none⟩=some (.string o.text)):=Lib.hid ⟨(six_cells HX1_5.out).1,(six_cells HX1_5.out).2.1,(six_cells HX1_5.out).2.2.1,(six_cells HX1_5.out).2.2.2.1,(six_cells HX1_5.out).2.2.2.2.1,(six_cells HX1_5.out).2.2.2.2.2.1,(five_cells HX2_5.out).1,(five_cells HX2_5.out).2.1,(five_cells HX2_5.out).2.2.1,(five_cells HX2_5.out).2.2.2.1,(five_cells HX2_5.out).2.2.2.2.1⟩
 refine WB.take (i:=0) (v:=?_) rfl (by kernel_rfl) (by kernel_rfl) (by kernel_rfl) (by kernel_rfl) (fun _ _ _ h=>h) HS.out (Or.inl ⟨by rfl,?_⟩) ?_
 rotate_left
 ·(rintro w ⟨s0,s1,s2,s3,s4,s5,s6,s7,s8,s9,s10⟩;go_simp;try with_reducible rfl)
 try simp only [Act.put,List.setIfInBounds_toArray,List.set_cons_zero,List.set_cons_succ]
 refine WB.take (i:=2) (v:=?_) rfl (by kernel_rfl) (by kernel_rfl) (by kernel_rfl) (by kernel_rfl) (fun _ _ _ h=>h) HS.out (Or.inl ⟨by rfl,?_⟩) ?_
 rotate_left
 ·(rintro w ⟨s0,s1,s2,s3,s4,s5,s6,s7,s8,s9,s10⟩;go_simp;try with_reducible rfl)
 try simp only [Act.put,List.setIfInBounds_toArray,List.set_cons_zero,List.set_cons_succ]
 refine WB.one (i:=1) (by kernel_rfl) rfl (fun K hK=>?_)
 have HKK:=Lib.hid hK
 clear hK
 go_simp
 refine (copy_s c _ w5 HV_5.out (by omega) (by omega)).mono ?_
 rintro e w6 ⟨v6,rfl,co6,hb6⟩
 have HX1_6:=Lib.hid ((hb6.block _ (blk_lt HX1_5.out)).trans HX1_5.out);have HX2_6:=Lib.hid ((hb6.block _ (blk_lt HX2_5.out)).trans HX2_5.out);have HX3_6:=Lib.hid ((hb6.block _ (blk_lt HX3_5.out)).trans HX3_5.out)
 have HV_6:=Lib.hid (HV_5.out.ext hb6);have HE_6:=Lib.hid (HE_5.out.trans (hb6.mono HE_5.out.size))
 clear HX1_5 HX2_5 HX3_5 HV_5 HE_5
 clear hb6
 have HS6:Hid (w6.cell? ⟨w.heap.size,0,none⟩=some (.int .i64 c.who)∧w6.cell? ⟨w.heap.size,1,none⟩=some (.int .i64 c.seen)∧w6.cell? ⟨w.heap.size,2,none⟩=some (.slice A1 c.base.length n1)∧w6.cell? ⟨w.heap.size,3,none⟩=some (.slice A2 c.wait.length n2)∧w6.cell? ⟨w.heap.size,4,none⟩=some (.int .i64 c.done)∧w6.cell? ⟨w.heap.size,5,none⟩=some (.int .i64 c.made)∧w6.cell? ⟨w.heap.size+1,0,none⟩=some (.int .i64 o.kind)∧w6.cell? ⟨w.heap.size+1,1,none⟩=some (.int .i64 o.id)∧w6.cell? ⟨w.heap.size+1,2,none⟩=some (.int .i64 o.up)∧w6.cell? ⟨w.heap.size+1,3,none⟩=some (.int .i64 o.pos)∧w6.cell? ⟨w.heap.size+1,4,none⟩=some (.string o.text)):=Lib.hid ⟨(six_cells HX1_6.out).1,(six_cells HX1_6.out).2.1,(six_cells HX1_6.out).2.2.1,(six_cells HX1_6.out).2.2.2.1,(six_cells HX1_6.out).2.2.2.2.1,(six_cells HX1_6.out).2.2.2.2.2.1,(five_cells HX2_6.out).1,(five_cells HX2_6.out).2.1,(five_cells HX2_6.out).2.2.1,(five_cells HX2_6.out).2.2.2.1,(five_cells HX2_6.out).2.2.2.2.1⟩
 have HCT:=Lib.hid co6.ct
 refine HKK.out _ _ ⟨fun _=>HS6.out,?_⟩
 clear HKK K HS co6
 try simp only [Act.put,List.setIfInBounds_toArray,List.set_cons_zero,List.set_cons_succ]
 refine WB.one (i:=3) (by kernel_rfl) rfl (fun K hK=>?_)
 have HKK:=Lib.hid hK
 clear hK
 go_simp
 refine (do21_s c v6 o w6 HCT.out HOK.out HOW.out hs).mono ?_
 rintro e w7 ⟨v7,rfl,ct7,hb7⟩
 have HX1_7:=Lib.hid ((hb7.block _ (blk_lt HX1_6.out)).trans HX1_6.out);have HX2_7:=Lib.hid ((hb7.block _ (blk_lt HX2_6.out)).trans HX2_6.out);have HX3_7:=Lib.hid ((hb7.block _ (blk_lt HX3_6.out)).trans HX3_6.out)
 have HV_7:=Lib.hid (HV_6.out.ext hb7);have HE_7:=Lib.hid (HE_6.out.trans (hb7.mono HE_6.out.size))
 clear HX1_6 HX2_6 HX3_6 HV_6 HE_6
 clear hb7
 have HS7:Hid (w7.cell? ⟨w.heap.size,0,none⟩=some (.int .i64 c.who)∧w7.cell? ⟨w.heap.size,1,none⟩=some (.int .i64 c.seen)∧w7.cell? ⟨w.heap.size,2,none⟩=some (.slice A1 c.base.length n1)∧w7.cell? ⟨w.heap.size,3,none⟩=some (.slice A2 c.wait.length n2)∧w7.cell? ⟨w.heap.size,4,none⟩=some (.int .i64 c.done)∧w7.cell? ⟨w.heap.size,5,none⟩=some (.int .i64 c.made)∧w7.cell? ⟨w.heap.size+1,0,none⟩=some (.int .i64 o.kind)∧w7.cell? ⟨w.heap.size+1,1,none⟩=some (.int .i64 o.id)∧w7.cell? ⟨w.heap.size+1,2,none⟩=some (.int .i64 o.up)∧w7.cell? ⟨w.heap.size+1,3,none⟩=some (.int .i64 o.pos)∧w7.cell? ⟨w.heap.size+1,4,none⟩=some (.string o.text)):=Lib.hid ⟨(six_cells HX1_7.out).1,(six_cells HX1_7.out).2.1,(six_cells HX1_7.out).2.2.1,(six_cells HX1_7.out).2.2.2.1,(six_cells HX1_7.out).2.2.2.2.1,(six_cells HX1_7.out).2.2.2.2.2.1,(five_cells HX2_7.out).1,(five_cells HX2_7.out).2.1,(five_cells HX2_7.out).2.2.1,(five_cells HX2_7.out).2.2.2.1,(five_cells HX2_7.out).2.2.2.2.1⟩
 obtain ⟨E1,j1,E2,j2,rfl,g1,g2⟩:=ct7
 have hz:=put6_at (.int .i64 (doS c o).1.who) (.int .i64 (doS c o).1.seen) (.slice E1 (doS c o).1.base.length j1) (.slice E2 (doS c o).1.wait.length j2) (.int .i64 (doS c o).1.done) (.int .i64 (doS c o).1.made) HX3_7.out
 have hE:=put6_below (.int .i64 (doS c o).1.who) (.int .i64 (doS c o).1.seen) (.slice E1 (doS c o).1.base.length j1) (.slice E2 (doS c o).1.wait.length j2) (.int .i64 (doS c o).1.done) (.int .i64 (doS c o).1.made) HE_7.out (show w.heap.size≤w.heap.size+1+1 from by omega)
 have hq1:=g1.put6 HX3_7.out (by decide) (.int .i64 (doS c o).1.who) (.int .i64 (doS c o).1.seen) (.slice E1 (doS c o).1.base.length j1) (.slice E2 (doS c o).1.wait.length j2) (.int .i64 (doS c o).1.done) (.int .i64 (doS c o).1.made)
 have hq2:=g2.put6 HX3_7.out (by decide) (.int .i64 (doS c o).1.who) (.int .i64 (doS c o).1.seen) (.slice E1 (doS c o).1.base.length j1) (.slice E2 (doS c o).1.wait.length j2) (.int .i64 (doS c o).1.done) (.int .i64 (doS c o).1.made)
 have HF:=Lib.hid (⟨hz,hE,hq1,hq2⟩:_∧_∧_∧_)
 clear hz hE hq1 hq2 g1 g2
 refine HKK.out _ _ ⟨fun _=>HS7.out,?_⟩
 clear HKK K HS6
 try simp only [Act.put,List.setIfInBounds_toArray,List.set_cons_zero,List.set_cons_succ]
 refine WB.takeP (i:=4) (v:=?_) rfl (by kernel_rfl) (by kernel_rfl) (by kernel_rfl) (by kernel_rfl) (fun _ _ _ h=>h) HS7.out (Or.inl ⟨by rfl,?_⟩) ?_
 rotate_left
 ·(rintro w -;go_simp;try with_reducible rfl)
 try simp only [Act.put,List.setIfInBounds_toArray,List.set_cons_zero,List.set_cons_succ]
 refine WB.takeP (i:=5) (v:=?_) rfl (by kernel_rfl) (by kernel_rfl) (by kernel_rfl) (by kernel_rfl) (fun _ _ _ h=>h) HS7.out (Or.inl ⟨by rfl,?_⟩) ?_
 rotate_left
 ·(rintro w -;go_simp;try with_reducible rfl)
 try simp only [Act.put,List.setIfInBounds_toArray,List.set_cons_zero,List.set_cons_succ]
 have z0:=(six_cells HX3_7.out).1
 have z1:=(six_cells HX3_7.out).2.1
 have z2:=(six_cells HX3_7.out).2.2.1
 have z3:=(six_cells HX3_7.out).2.2.2.1
 have z4:=(six_cells HX3_7.out).2.2.2.2.1
 have z5:=(six_cells HX3_7.out).2.2.2.2.2.1
 have zf:=(six_cells HX3_7.out).2.2.2.2.2.2
 refine WB.one (i:=6) (by kernel_rfl) rfl (fun K hK=>?_)
 have HKK:=Lib.hid hK
 clear hK
 go_simp
 refine HKK.out _ _ ⟨fun h=>(no_late h (by kernel_rfl)).elim,?_⟩
 clear HKK K z0 z1 z2 z3 z4 z5 zf
 try simp only [Act.put,List.setIfInBounds_toArray,List.set_cons_zero,List.set_cons_succ]
 refine WB.one (i:=7) (by kernel_rfl) rfl (fun K hK=>?_)
 have HKK:=Lib.hid hK
 clear hK
 go_simp
 refine HKK.out _ _ ⟨fun h=>(no_late h (by kernel_rfl)).elim,?_⟩
 clear HKK K
 refine WB.done (by kernel_rfl) ?_
 go_wp2_with fail
 obtain ⟨hz,hE,hq1,hq2⟩:=HF.out
 obtain ⟨k0,k1,k2,k3,k4,k5,kf⟩:=six_cells hz
 refine bodyPost_ret (v:=.tuple #[.agg #[.int .i64 (doS c o).1.who,.int .i64 (doS c o).1.seen,.slice E1 (doS c o).1.base.length j1,.slice E2 (doS c o).1.wait.length j2,.int .i64 (doS c o).1.done,.int .i64 (doS c o).1.made],.bool (doS c o).2]) ?_ rfl ?_
 ·simp [results,Tryz.f7,go_sem,k0,k1,k2,k3,k4,k5]
 ·exact ⟨_,by rw [HRes.out],by rw [HRes.out];exact CT.cv ⟨E1,j1,E2,j2,rfl,hq1,hq2⟩,hE⟩
open Go.RowKit Go.Lib
def DDoP (w:World) (e:Ending) (w':World):Prop:=∃ (c:Client) (v:Value) (o:Op),e=.returned (.tuple #[v,o.val])∧CV w' c v∧CW c∧OpW o∧o.text.size≤maxLen∧Ext w w'
theorem RdT.grow {α:Type} [Flat α] {e:TypeId} {W W':World} {A:Option Addr} {c r p:Nat} {l:List α} (h:RdT e W A c l) (hg:W.grownBy W' (some r)) (hr:Rdr W r p) (hne:114≠e):RdT e W' A c l:=by
 obtain ⟨A',c',bs,hb,-⟩:=hr
 exact h.blk fun _ bb _ cs m _ h1=>hg.block bb (blk_lt h1) (fun e0=>by
  injection e0 with e0
  subst e0
  rw [h1] at hb
  injection hb with hb;injection hb with _ hb
  exact hne hb.symm)
theorem put5_far {W:World} {b k:Nat} (v0 v1 v2 v3 v4:Value) (h:k≠b):(put5 W b v0 v1 v2 v3 v4).heap[k]?=W.heap[k]?:=
 (setx h).trans ((setx h).trans ((setx h).trans ((setx h).trans (setx h))))
theorem put5_below {B:Nat} {w0 W:World} {b:Nat} (v0 v1 v2 v3 v4:Value) (h:Below B w0 W) (hB:B≤b):Below B w0 (put5 W b v0 v1 v2 v3 v4):=((((h.setCell hB _).setCell hB _).setCell hB _).setCell hB _).setCell hB _
theorem RdT.put5 {α:Type} [Flat α] {e:TypeId} {w:World} {A:Option Addr} {c:Nat} {l:List α} {b:Nat} {a0 a1 a2 a3 a4:Value} {ty:TypeId} (h:RdT e w A c l) (hb:w.heap[b]?=some (.cells #[a0,a1,a2,a3,a4] ty (0,0))) (hne:ty≠e) (v0 v1 v2 v3 v4:Value):RdT e (Proofs.YtecmcjfdaipfcaaGreatDoor.put5 w b v0 v1 v2 v3 v4) A c l:=
 ((((h.set hb hne 0 v0).set (set_at hb) hne 1 v1).set (set_at (set_at hb)) hne 2 v2).set (set_at (set_at (set_at hb))) hne 3 v3).set (set_at (set_at (set_at (set_at hb)))) hne 4 v4
theorem drew_parts {c:Client} (h:clientOk c=true):treeOk c.base=true∧(∀ e∈c.wait,opOk e.op=true)∧treeOk (treeFrom c.base c.wait)=true∧(1≤c.who∧c.who≤3)∧(0≤c.made∧c.made≤1000):=by
 obtain ⟨hw9,hs0,hs40,htr,hd0,hd1,hwl,hm0,hm1,hwt⟩:=clientOk_parts h
 have ho:∀ e∈c.wait,opOk e.op=true:=fun e he=>(entryOk_parts (waitOk_who hwt e he).1).2.2.2
 have h2:=(showL_ok h).2.1
 rw [showL_showS] at h2
 unfold showS at h2
 rw [if_pos h] at h2
 exact ⟨htr,ho,h2,isWho_of hw9,hm0,by omega⟩
set_option maxRecDepth 100000 in
set_option maxHeartbeats 6000000 in
theorem drawDo_d (A:Option Addr) (n:Nat) (bs:List UInt8) (w:World) (hr:Rd w A n bs) (hA:∀ b off,A=some ⟨b,off,none⟩→b<w.heap.size) :
  Calls Tryz.prog 6 #[.slice A bs.length n] w (DDoP w):=by
 have h2:=two_new w oC0 (.cells #[.int .i64 0,.int .i64 0,.int .i64 0,.int .i64 0,.string ⟨#[]⟩] 28)
 have hE1:Ext w ((w.alloc oC0).alloc (.cells #[.int .i64 0,.int .i64 0,.int .i64 0,.int .i64 0,.string ⟨#[]⟩] 28)):=((Below.refl _ _).alloc (Nat.le_refl _) _).alloc (by rw [alloc_sz];omega) _
 have hz1:((w.alloc oC0).alloc (.cells #[.int .i64 0,.int .i64 0,.int .i64 0,.int .i64 0,.string ⟨#[]⟩] 28)).heap.size=w.heap.size+1+1:=by rw [alloc_sz,alloc_sz]
 have HX1:=Lib.hid h2.1;have HX2:=Lib.hid h2.2;have HE:=Lib.hid hE1
 have HO:=Lib.hid (open_d A n bs _ (hr.ext hE1) (fun b off e=>by have:=hA b off e;omega))
 clear hE1 hr hA h2
 go_enter Tryz.func6,Tryz.ntmps6
 go_wp2_with fail
 generalize ((w.alloc oC0).alloc (.cells #[.int .i64 0,.int .i64 0,.int .i64 0,.int .i64 0,.string ⟨#[]⟩] 28))=W2 at *
 refine HO.out.mono ?_
 rintro e w1 ⟨rfl,hr1,hb1⟩
 have hs1:=hb1.size
 have hrl:=hr1.lt
 have HC:=Lib.hid (client_d W2.heap.size 0 w1 hr1 (by omega))
 have HB1:=Lib.hid hb1;have HR1:=Lib.hid hr1
 clear hr1 hb1 HO
 obtain ⟨r,hrr⟩:∃ r,r=w.heap.size+1+1:=⟨_,rfl⟩
 rw [hz1,←hrr] at HC HR1
 rw [hz1,←hrr] at hrl
 have hr0:w.heap.size+1<r:=by omega
 go_wp2_with fail
 rw [←hrr]
 clear hrr
 refine HC.out.mono ?_
 rintro e w2 ⟨c,v,p,rfl,hco,hcw,-,hp,hR2,hg2⟩
 have hx1:=(HB1.out.block _ (blk_lt HX1.out)).trans HX1.out;have hx2:=(HB1.out.block _ (blk_lt HX2.out)).trans HX2.out
 have hy1:=(hg2.block _ (blk_lt hx1) (fun e=>by injection e with e;omega)).trans hx1;have hy2:=(hg2.block _ (blk_lt hx2) (fun e=>by injection e with e;omega)).trans hx2
 have hE2:Ext w w2:=ext_grown (HE.out.trans (HB1.out.mono HE.out.size)) hg2 (by omega) (fun k e=>by injection e with e;omega)
 obtain ⟨b,bn,qq,qn,rfl,h1,h2⟩:=hco
 have hs2:=hg2.size
 have hb3:Ext w2 (w2.alloc (oC c b bn qq qn)):=(Below.refl _ _).alloc (Nat.le_refl _) _
 have HX1_3:=Lib.hid ((hb3.block _ (blk_lt hy1)).trans hy1);have HX2_3:=Lib.hid ((hb3.block _ (blk_lt hy2)).trans hy2);have HX3_3:=Lib.hid (World.alloc_heap_new w2 (oC c b bn qq qn))
 have H1_3:=Lib.hid (h1.rdT.ext hb3);have H2_3:=Lib.hid (h2.rdT.ext hb3);have HE_3:=Lib.hid (hE2.trans (hb3.mono hE2.size));have HRD_3:=Lib.hid (hR2.ext hb3)
 have HCW:=Lib.hid hcw
 have hs12:w1.heap.size≤w2.heap.size:=hs2
 clear hx1 hx2 hy1 hy2 hE2 h1 h2 hb3 hR2 hg2 hcw HC HB1 HX1 HX2 HE HR1
 go_wp2_with fail
 generalize (w2.alloc (oC c b bn qq qn))=w3 at *
 refine (pick_c r p 4 w3 HRD_3.out (by omega) ⟨by omega,by omega⟩).mono ?_
 rintro e w4' ⟨pv,rfl,hv0,hv1,-,hR4',hg4'⟩
 have HRD_4':=Lib.hid hR4'
 have HX1_4':=Lib.hid ((hg4'.block _ (blk_lt HX1_3.out) (fun e=>by injection e with e;omega)).trans HX1_3.out);have HX2_4':=Lib.hid ((hg4'.block _ (blk_lt HX2_3.out) (fun e=>by injection e with e;omega)).trans HX2_3.out);have HX3_4':=Lib.hid ((hg4'.block _ (blk_lt HX3_3.out) (fun e=>by injection e with e;omega)).trans HX3_3.out)
 have H1_4':=Lib.hid (H1_3.out.grow hg4' HRD_3.out (by decide));have H2_4':=Lib.hid (H2_3.out.grow hg4' HRD_3.out (by decide));have HE_4':=Lib.hid (ext_grown HE_3.out hg4' (by have:=HE_3.out.size;omega) (fun k e=>by injection e with e;omega))
 clear HX1_3 HX2_3 HX3_3 H1_3 H2_3 HE_3 HRD_3
 clear hR4' hg4' hv1
 by_cases hpv:pv=0
 ·subst hpv
  obtain ⟨w4,rfl⟩:∃ W:World,W=w4':=⟨_,rfl⟩
  have HX1_4:=HX1_4';have HX2_4:=HX2_4';have HX3_4:=HX3_4';have H1_4:=H1_4';have H2_4:=H2_4';have HE_4:=HE_4';have HRD_4:=HRD_4'
  clear HX1_4' HX2_4' HX3_4' H1_4' H2_4' HE_4' HRD_4'
  go_upto_region 4 with fail
  refine wp_region_B (fun w'=>w'.cell? ⟨w2.heap.size,0,none⟩=some (.int .i64 c.who)∧w'.cell? ⟨w2.heap.size,1,none⟩=some (.int .i64 c.seen)∧w'.cell? ⟨w2.heap.size,2,none⟩=some (.slice b c.base.length bn)∧w'.cell? ⟨w2.heap.size,3,none⟩=some (.slice qq c.wait.length qn)∧w'.cell? ⟨w2.heap.size,4,none⟩=some (.int .i64 c.done)∧w'.cell? ⟨w2.heap.size,5,none⟩=some (.int .i64 c.made)) 4 (by kernel_rfl) ?_
  have hb5:Ext w4 w4.drew:=(Below.refl _ _).drew
  generalize w4.drew=w5 at *
  have HX1_5:=Lib.hid ((hb5.block _ (blk_lt HX1_4.out)).trans HX1_4.out);have HX2_5:=Lib.hid ((hb5.block _ (blk_lt HX2_4.out)).trans HX2_4.out);have HX3_5:=Lib.hid ((hb5.block _ (blk_lt HX3_4.out)).trans HX3_4.out)
  have H1_5:=Lib.hid (H1_4.out.ext hb5);have H2_5:=Lib.hid (H2_4.out.ext hb5);have HE_5:=Lib.hid (HE_4.out.trans (hb5.mono HE_4.out.size));have HRD_5:=Lib.hid (HRD_4.out.ext hb5)
  clear HX1_4 HX2_4 HX3_4 H1_4 H2_4 HE_4 HRD_4
  clear hb5
  have HS:Hid (w5.cell? ⟨w2.heap.size,0,none⟩=some (.int .i64 c.who)∧w5.cell? ⟨w2.heap.size,1,none⟩=some (.int .i64 c.seen)∧w5.cell? ⟨w2.heap.size,2,none⟩=some (.slice b c.base.length bn)∧w5.cell? ⟨w2.heap.size,3,none⟩=some (.slice qq c.wait.length qn)∧w5.cell? ⟨w2.heap.size,4,none⟩=some (.int .i64 c.done)∧w5.cell? ⟨w2.heap.size,5,none⟩=some (.int .i64 c.made)):=Lib.hid ⟨(six_cells HX3_5.out).1,(six_cells HX3_5.out).2.1,(six_cells HX3_5.out).2.2.1,(six_cells HX3_5.out).2.2.2.1,(six_cells HX3_5.out).2.2.2.2.1,(six_cells HX3_5.out).2.2.2.2.2.1⟩
  refine WB.take (i:=0) (v:=?_) rfl (by kernel_rfl) (by kernel_rfl) (by kernel_rfl) (by kernel_rfl) (fun _ _ _ h=>h) HS.out (Or.inl ⟨by rfl,?_⟩) ?_
  rotate_left
  ·(rintro w ⟨s0,s1,s2,s3,s4,s5⟩;go_simp;try with_reducible rfl)
  try simp only [Act.put,List.setIfInBounds_toArray,List.set_cons_zero,List.set_cons_succ]
  refine WB.takeP (i:=1) (v:=?_) rfl (by kernel_rfl) (by kernel_rfl) (by kernel_rfl) (by kernel_rfl) (fun _ _ _ h=>h) HS.out (Or.inl ⟨by rfl,?_⟩) ?_
  rotate_left
  ·(rintro w -;go_simp;try with_reducible rfl)
  try simp only [Act.put,List.setIfInBounds_toArray,List.set_cons_zero,List.set_cons_succ]
  refine WB.one (i:=2) (by kernel_rfl) rfl (fun K hK=>?_)
  have HKK:=Lib.hid hK
  clear hK
  go_simp
  refine (opx_d r (p+1) w5 HRD_5.out (by omega)).mono ?_
  rintro e w6 ⟨o,p',rfl,ho,-,-,hR6,hg6⟩
  rw [show o.val=.agg (cO o) from rfl]
  have HRD_6:=Lib.hid hR6
  have HX1_6:=Lib.hid ((hg6.block _ (blk_lt HX1_5.out) (fun e=>by injection e with e;omega)).trans HX1_5.out);have HX2_6:=Lib.hid ((hg6.block _ (blk_lt HX2_5.out) (fun e=>by injection e with e;omega)).trans HX2_5.out);have HX3_6:=Lib.hid ((hg6.block _ (blk_lt HX3_5.out) (fun e=>by injection e with e;omega)).trans HX3_5.out)
  have H1_6:=Lib.hid (H1_5.out.grow hg6 HRD_5.out (by decide));have H2_6:=Lib.hid (H2_5.out.grow hg6 HRD_5.out (by decide));have HE_6:=Lib.hid (ext_grown HE_5.out hg6 (by have:=HE_5.out.size;omega) (fun k e=>by injection e with e;omega))
  clear HX1_5 HX2_5 HX3_5 H1_5 H2_5 HE_5 HRD_5
  clear hg6 hR6
  have HOO:=Lib.hid (⟨ho.w,by have:=ho.2.2.2.2;unfold maxLen;omega⟩:OpW o∧o.text.size≤maxLen)
  have HS6:Hid (w6.cell? ⟨w2.heap.size,0,none⟩=some (.int .i64 c.who)∧w6.cell? ⟨w2.heap.size,1,none⟩=some (.int .i64 c.seen)∧w6.cell? ⟨w2.heap.size,2,none⟩=some (.slice b c.base.length bn)∧w6.cell? ⟨w2.heap.size,3,none⟩=some (.slice qq c.wait.length qn)∧w6.cell? ⟨w2.heap.size,4,none⟩=some (.int .i64 c.done)∧w6.cell? ⟨w2.heap.size,5,none⟩=some (.int .i64 c.made)):=Lib.hid ⟨(six_cells HX3_6.out).1,(six_cells HX3_6.out).2.1,(six_cells HX3_6.out).2.2.1,(six_cells HX3_6.out).2.2.2.1,(six_cells HX3_6.out).2.2.2.2.1,(six_cells HX3_6.out).2.2.2.2.2.1⟩
  clear ho
  have hz:=put6_at (.int .i64 c.who) (.int .i64 c.seen) (.slice b c.base.length bn) (.slice qq c.wait.length qn) (.int .i64 c.done) (.int .i64 c.made) HX1_6.out
  have hy:=put5_at (.int .i64 o.kind) (.int .i64 o.id) (.int .i64 o.up) (.int .i64 o.pos) (.string o.text) ((put6_far (.int .i64 c.who) (.int .i64 c.seen) (.slice b c.base.length bn) (.slice qq c.wait.length qn) (.int .i64 c.done) (.int .i64 c.made) (show w.heap.size+1≠w.heap.size from by omega)).trans HX2_6.out)
  have hq1:=(H1_6.out.put6 HX1_6.out (by decide) (.int .i64 c.who) (.int .i64 c.seen) (.slice b c.base.length bn) (.slice qq c.wait.length qn) (.int .i64 c.done) (.int .i64 c.made)).put5 ((put6_far (.int .i64 c.who) (.int .i64 c.seen) (.slice b c.base.length bn) (.slice qq c.wait.length qn) (.int .i64 c.done) (.int .i64 c.made) (show w.heap.size+1≠w.heap.size from by omega)).trans HX2_6.out) (by decide) (.int .i64 o.kind) (.int .i64 o.id) (.int .i64 o.up) (.int .i64 o.pos) (.string o.text)
  have hq2:=(H2_6.out.put6 HX1_6.out (by decide) (.int .i64 c.who) (.int .i64 c.seen) (.slice b c.base.length bn) (.slice qq c.wait.length qn) (.int .i64 c.done) (.int .i64 c.made)).put5 ((put6_far (.int .i64 c.who) (.int .i64 c.seen) (.slice b c.base.length bn) (.slice qq c.wait.length qn) (.int .i64 c.done) (.int .i64 c.made) (show w.heap.size+1≠w.heap.size from by omega)).trans HX2_6.out) (by decide) (.int .i64 o.kind) (.int .i64 o.id) (.int .i64 o.up) (.int .i64 o.pos) (.string o.text)
  have hE:=put5_below (.int .i64 o.kind) (.int .i64 o.id) (.int .i64 o.up) (.int .i64 o.pos) (.string o.text) (put6_below (.int .i64 c.who) (.int .i64 c.seen) (.slice b c.base.length bn) (.slice qq c.wait.length qn) (.int .i64 c.done) (.int .i64 c.made) HE_6.out (Nat.le_refl w.heap.size)) (show w.heap.size≤w.heap.size+1 from by omega)
  have HF:=Lib.hid (⟨(put5_far (.int .i64 o.kind) (.int .i64 o.id) (.int .i64 o.up) (.int .i64 o.pos) (.string o.text) (show w.heap.size≠w.heap.size+1 from by omega)).trans hz,hy,hq1,hq2,hE⟩:_∧_∧_∧_∧_)
  have HY9:=Lib.hid ((put6_far (.int .i64 c.who) (.int .i64 c.seen) (.slice b c.base.length bn) (.slice qq c.wait.length qn) (.int .i64 c.done) (.int .i64 c.made) (show w.heap.size+1≠w.heap.size from by omega)).trans HX2_6.out)
  have HX39:=Lib.hid ((put6_far (.int .i64 c.who) (.int .i64 c.seen) (.slice b c.base.length bn) (.slice qq c.wait.length qn) (.int .i64 c.done) (.int .i64 c.made) (show w2.heap.size≠w.heap.size from by omega)).trans HX3_6.out)
  clear hz hy hq1 hq2 hE
  refine HKK.out _ _ ⟨fun _=>HS6.out,?_⟩
  clear HKK K
  try simp only [Act.put,List.setIfInBounds_toArray,List.set_cons_zero,List.set_cons_succ]
  have z0:=(six_cells HX1_6.out).1
  have z1:=(six_cells HX1_6.out).2.1
  have z2:=(six_cells HX1_6.out).2.2.1
  have z3:=(six_cells HX1_6.out).2.2.2.1
  have z4:=(six_cells HX1_6.out).2.2.2.2.1
  have z5:=(six_cells HX1_6.out).2.2.2.2.2.1
  have zf:=(six_cells HX1_6.out).2.2.2.2.2.2
  have HSx:Hid ((put6 w6 (w.heap.size) (.int .i64 c.who) (.int .i64 c.seen) (.slice b c.base.length bn) (.slice qq c.wait.length qn) (.int .i64 c.done) (.int .i64 c.made)).cell? ⟨w2.heap.size,0,none⟩=some (.int .i64 c.who)∧(put6 w6 (w.heap.size) (.int .i64 c.who) (.int .i64 c.seen) (.slice b c.base.length bn) (.slice qq c.wait.length qn) (.int .i64 c.done) (.int .i64 c.made)).cell? ⟨w2.heap.size,1,none⟩=some (.int .i64 c.seen)∧(put6 w6 (w.heap.size) (.int .i64 c.who) (.int .i64 c.seen) (.slice b c.base.length bn) (.slice qq c.wait.length qn) (.int .i64 c.done) (.int .i64 c.made)).cell? ⟨w2.heap.size,2,none⟩=some (.slice b c.base.length bn)∧(put6 w6 (w.heap.size) (.int .i64 c.who) (.int .i64 c.seen) (.slice b c.base.length bn) (.slice qq c.wait.length qn) (.int .i64 c.done) (.int .i64 c.made)).cell? ⟨w2.heap.size,3,none⟩=some (.slice qq c.wait.length qn)∧(put6 w6 (w.heap.size) (.int .i64 c.who) (.int .i64 c.seen) (.slice b c.base.length bn) (.slice qq c.wait.length qn) (.int .i64 c.done) (.int .i64 c.made)).cell? ⟨w2.heap.size,4,none⟩=some (.int .i64 c.done)∧(put6 w6 (w.heap.size) (.int .i64 c.who) (.int .i64 c.seen) (.slice b c.base.length bn) (.slice qq c.wait.length qn) (.int .i64 c.done) (.int .i64 c.made)).cell? ⟨w2.heap.size,5,none⟩=some (.int .i64 c.made)):=Lib.hid ⟨(six_cells HX39.out).1,(six_cells HX39.out).2.1,(six_cells HX39.out).2.2.1,(six_cells HX39.out).2.2.2.1,(six_cells HX39.out).2.2.2.2.1,(six_cells HX39.out).2.2.2.2.2.1⟩
  refine WB.one (i:=3) (by kernel_rfl) rfl (fun K hK=>?_)
  have HKK:=Lib.hid hK
  clear hK
  go_simp
  refine HKK.out _ _ ⟨fun _=>HSx.out,?_⟩
  clear HKK K z0 z1 z2 z3 z4 z5 zf
  try simp only [Act.put,List.setIfInBounds_toArray,List.set_cons_zero,List.set_cons_succ]
  have z0:=(five_cells HY9.out).1
  have z1:=(five_cells HY9.out).2.1
  have z2:=(five_cells HY9.out).2.2.1
  have z3:=(five_cells HY9.out).2.2.2.1
  have z4:=(five_cells HY9.out).2.2.2.2.1
  have zf:=(five_cells HY9.out).2.2.2.2.2
  refine WB.one (i:=4) (by kernel_rfl) rfl (fun K hK=>?_)
  have HKK:=Lib.hid hK
  clear hK
  go_simp
  refine HKK.out _ _ ⟨fun h=>(no_late h (by kernel_rfl)).elim,?_⟩
  clear HKK K z0 z1 z2 z3 z4 zf
  refine WB.done (by kernel_rfl) ?_
  go_wp2_with fail
  obtain ⟨hz,hy,hq1,hq2,hE⟩:=HF.out
  obtain ⟨k0,k1,k2,k3,k4,k5,kf⟩:=six_cells hz
  obtain ⟨l0,l1,l2,l3,l4,lf⟩:=five_cells hy
  refine bodyPost_ret (v:=.tuple #[(.agg (cC c b bn qq qn)),o.val]) ?_ rfl ?_
  ·simp [Op.val,results,Tryz.f6,go_sem,k0,k1,k2,k3,k4,k5,l0,l1,l2,l3,l4]
  ·exact ⟨c,_,o,rfl,CT.cv ⟨b,bn,qq,qn,rfl,hq1,hq2⟩,HCW.out,HOO.out.1,HOO.out.2,hE⟩
 ·have hpv':(pv == 0)=false:=by simp [hpv]
  obtain ⟨c0,c1,c2,c3,c4,c5,cf⟩:=six_cells HX3_4'.out
  go_wp2_with fail
  refine (clientOk_s c _ w4' (CT.cv ⟨b,bn,qq,qn,rfl,H1_4'.out,H2_4'.out⟩) HCW.out).mono ?_
  rintro e w4 ⟨rfl,hb4⟩
  clear c0 c1 c2 c3 c4 c5 cf
  have HX1_4:=Lib.hid ((hb4.block _ (blk_lt HX1_4'.out)).trans HX1_4'.out);have HX2_4:=Lib.hid ((hb4.block _ (blk_lt HX2_4'.out)).trans HX2_4'.out);have HX3_4:=Lib.hid ((hb4.block _ (blk_lt HX3_4'.out)).trans HX3_4'.out)
  have H1_4:=Lib.hid (H1_4'.out.ext hb4);have H2_4:=Lib.hid (H2_4'.out.ext hb4);have HE_4:=Lib.hid (HE_4'.out.trans (hb4.mono HE_4'.out.size));have HRD_4:=Lib.hid (HRD_4'.out.ext hb4)
  clear HX1_4' HX2_4' HX3_4' H1_4' H2_4' HE_4' HRD_4'
  clear hb4
  cases hok:clientOk c
  ·clear hok
   go_upto_region 4 with fail
   refine wp_region_B (fun w'=>w'.cell? ⟨w2.heap.size,0,none⟩=some (.int .i64 c.who)∧w'.cell? ⟨w2.heap.size,1,none⟩=some (.int .i64 c.seen)∧w'.cell? ⟨w2.heap.size,2,none⟩=some (.slice b c.base.length bn)∧w'.cell? ⟨w2.heap.size,3,none⟩=some (.slice qq c.wait.length qn)∧w'.cell? ⟨w2.heap.size,4,none⟩=some (.int .i64 c.done)∧w'.cell? ⟨w2.heap.size,5,none⟩=some (.int .i64 c.made)) 4 (by kernel_rfl) ?_
   have hb5:Ext w4 w4.drew:=(Below.refl _ _).drew
   generalize w4.drew=w5 at *
   have HX1_5:=Lib.hid ((hb5.block _ (blk_lt HX1_4.out)).trans HX1_4.out);have HX2_5:=Lib.hid ((hb5.block _ (blk_lt HX2_4.out)).trans HX2_4.out);have HX3_5:=Lib.hid ((hb5.block _ (blk_lt HX3_4.out)).trans HX3_4.out)
   have H1_5:=Lib.hid (H1_4.out.ext hb5);have H2_5:=Lib.hid (H2_4.out.ext hb5);have HE_5:=Lib.hid (HE_4.out.trans (hb5.mono HE_4.out.size));have HRD_5:=Lib.hid (HRD_4.out.ext hb5)
   clear HX1_4 HX2_4 HX3_4 H1_4 H2_4 HE_4 HRD_4
   clear hb5
   have HS:Hid (w5.cell? ⟨w2.heap.size,0,none⟩=some (.int .i64 c.who)∧w5.cell? ⟨w2.heap.size,1,none⟩=some (.int .i64 c.seen)∧w5.cell? ⟨w2.heap.size,2,none⟩=some (.slice b c.base.length bn)∧w5.cell? ⟨w2.heap.size,3,none⟩=some (.slice qq c.wait.length qn)∧w5.cell? ⟨w2.heap.size,4,none⟩=some (.int .i64 c.done)∧w5.cell? ⟨w2.heap.size,5,none⟩=some (.int .i64 c.made)):=Lib.hid ⟨(six_cells HX3_5.out).1,(six_cells HX3_5.out).2.1,(six_cells HX3_5.out).2.2.1,(six_cells HX3_5.out).2.2.2.1,(six_cells HX3_5.out).2.2.2.2.1,(six_cells HX3_5.out).2.2.2.2.2.1⟩
   refine WB.take (i:=0) (v:=?_) rfl (by kernel_rfl) (by kernel_rfl) (by kernel_rfl) (by kernel_rfl) (fun _ _ _ h=>h) HS.out (Or.inl ⟨by rfl,?_⟩) ?_
   rotate_left
   ·(rintro w ⟨s0,s1,s2,s3,s4,s5⟩;go_simp;try with_reducible rfl)
   try simp only [Act.put,List.setIfInBounds_toArray,List.set_cons_zero,List.set_cons_succ]
   refine WB.takeP (i:=1) (v:=?_) rfl (by kernel_rfl) (by kernel_rfl) (by kernel_rfl) (by kernel_rfl) (fun _ _ _ h=>h) HS.out (Or.inl ⟨by rfl,?_⟩) ?_
   rotate_left
   ·(rintro w -;go_simp;try with_reducible rfl)
   try simp only [Act.put,List.setIfInBounds_toArray,List.set_cons_zero,List.set_cons_succ]
   refine WB.one (i:=2) (by kernel_rfl) rfl (fun K hK=>?_)
   have HKK:=Lib.hid hK
   clear hK
   go_simp
   refine (opx_d r (p+1) w5 HRD_5.out (by omega)).mono ?_
   rintro e w6 ⟨o,p',rfl,ho,-,-,hR6,hg6⟩
   rw [show o.val=.agg (cO o) from rfl]
   have HRD_6:=Lib.hid hR6
   have HX1_6:=Lib.hid ((hg6.block _ (blk_lt HX1_5.out) (fun e=>by injection e with e;omega)).trans HX1_5.out);have HX2_6:=Lib.hid ((hg6.block _ (blk_lt HX2_5.out) (fun e=>by injection e with e;omega)).trans HX2_5.out);have HX3_6:=Lib.hid ((hg6.block _ (blk_lt HX3_5.out) (fun e=>by injection e with e;omega)).trans HX3_5.out)
   have H1_6:=Lib.hid (H1_5.out.grow hg6 HRD_5.out (by decide));have H2_6:=Lib.hid (H2_5.out.grow hg6 HRD_5.out (by decide));have HE_6:=Lib.hid (ext_grown HE_5.out hg6 (by have:=HE_5.out.size;omega) (fun k e=>by injection e with e;omega))
   clear HX1_5 HX2_5 HX3_5 H1_5 H2_5 HE_5 HRD_5
   clear hg6 hR6
   have HOO:=Lib.hid (⟨ho.w,by have:=ho.2.2.2.2;unfold maxLen;omega⟩:OpW o∧o.text.size≤maxLen)
   have HS6:Hid (w6.cell? ⟨w2.heap.size,0,none⟩=some (.int .i64 c.who)∧w6.cell? ⟨w2.heap.size,1,none⟩=some (.int .i64 c.seen)∧w6.cell? ⟨w2.heap.size,2,none⟩=some (.slice b c.base.length bn)∧w6.cell? ⟨w2.heap.size,3,none⟩=some (.slice qq c.wait.length qn)∧w6.cell? ⟨w2.heap.size,4,none⟩=some (.int .i64 c.done)∧w6.cell? ⟨w2.heap.size,5,none⟩=some (.int .i64 c.made)):=Lib.hid ⟨(six_cells HX3_6.out).1,(six_cells HX3_6.out).2.1,(six_cells HX3_6.out).2.2.1,(six_cells HX3_6.out).2.2.2.1,(six_cells HX3_6.out).2.2.2.2.1,(six_cells HX3_6.out).2.2.2.2.2.1⟩
   clear ho
   have hz:=put6_at (.int .i64 c.who) (.int .i64 c.seen) (.slice b c.base.length bn) (.slice qq c.wait.length qn) (.int .i64 c.done) (.int .i64 c.made) HX1_6.out
   have hy:=put5_at (.int .i64 o.kind) (.int .i64 o.id) (.int .i64 o.up) (.int .i64 o.pos) (.string o.text) ((put6_far (.int .i64 c.who) (.int .i64 c.seen) (.slice b c.base.length bn) (.slice qq c.wait.length qn) (.int .i64 c.done) (.int .i64 c.made) (show w.heap.size+1≠w.heap.size from by omega)).trans HX2_6.out)
   have hq1:=(H1_6.out.put6 HX1_6.out (by decide) (.int .i64 c.who) (.int .i64 c.seen) (.slice b c.base.length bn) (.slice qq c.wait.length qn) (.int .i64 c.done) (.int .i64 c.made)).put5 ((put6_far (.int .i64 c.who) (.int .i64 c.seen) (.slice b c.base.length bn) (.slice qq c.wait.length qn) (.int .i64 c.done) (.int .i64 c.made) (show w.heap.size+1≠w.heap.size from by omega)).trans HX2_6.out) (by decide) (.int .i64 o.kind) (.int .i64 o.id) (.int .i64 o.up) (.int .i64 o.pos) (.string o.text)
   have hq2:=(H2_6.out.put6 HX1_6.out (by decide) (.int .i64 c.who) (.int .i64 c.seen) (.slice b c.base.length bn) (.slice qq c.wait.length qn) (.int .i64 c.done) (.int .i64 c.made)).put5 ((put6_far (.int .i64 c.who) (.int .i64 c.seen) (.slice b c.base.length bn) (.slice qq c.wait.length qn) (.int .i64 c.done) (.int .i64 c.made) (show w.heap.size+1≠w.heap.size from by omega)).trans HX2_6.out) (by decide) (.int .i64 o.kind) (.int .i64 o.id) (.int .i64 o.up) (.int .i64 o.pos) (.string o.text)
   have hE:=put5_below (.int .i64 o.kind) (.int .i64 o.id) (.int .i64 o.up) (.int .i64 o.pos) (.string o.text) (put6_below (.int .i64 c.who) (.int .i64 c.seen) (.slice b c.base.length bn) (.slice qq c.wait.length qn) (.int .i64 c.done) (.int .i64 c.made) HE_6.out (Nat.le_refl w.heap.size)) (show w.heap.size≤w.heap.size+1 from by omega)
   have HF:=Lib.hid (⟨(put5_far (.int .i64 o.kind) (.int .i64 o.id) (.int .i64 o.up) (.int .i64 o.pos) (.string o.text) (show w.heap.size≠w.heap.size+1 from by omega)).trans hz,hy,hq1,hq2,hE⟩:_∧_∧_∧_∧_)
   have HY9:=Lib.hid ((put6_far (.int .i64 c.who) (.int .i64 c.seen) (.slice b c.base.length bn) (.slice qq c.wait.length qn) (.int .i64 c.done) (.int .i64 c.made) (show w.heap.size+1≠w.heap.size from by omega)).trans HX2_6.out)
   have HX39:=Lib.hid ((put6_far (.int .i64 c.who) (.int .i64 c.seen) (.slice b c.base.length bn) (.slice qq c.wait.length qn) (.int .i64 c.done) (.int .i64 c.made) (show w2.heap.size≠w.heap.size from by omega)).trans HX3_6.out)
   clear hz hy hq1 hq2 hE
   refine HKK.out _ _ ⟨fun _=>HS6.out,?_⟩
   clear HKK K
   try simp only [Act.put,List.setIfInBounds_toArray,List.set_cons_zero,List.set_cons_succ]
   have z0:=(six_cells HX1_6.out).1
   have z1:=(six_cells HX1_6.out).2.1
   have z2:=(six_cells HX1_6.out).2.2.1
   have z3:=(six_cells HX1_6.out).2.2.2.1
   have z4:=(six_cells HX1_6.out).2.2.2.2.1
   have z5:=(six_cells HX1_6.out).2.2.2.2.2.1
   have zf:=(six_cells HX1_6.out).2.2.2.2.2.2
   have HSx:Hid ((put6 w6 (w.heap.size) (.int .i64 c.who) (.int .i64 c.seen) (.slice b c.base.length bn) (.slice qq c.wait.length qn) (.int .i64 c.done) (.int .i64 c.made)).cell? ⟨w2.heap.size,0,none⟩=some (.int .i64 c.who)∧(put6 w6 (w.heap.size) (.int .i64 c.who) (.int .i64 c.seen) (.slice b c.base.length bn) (.slice qq c.wait.length qn) (.int .i64 c.done) (.int .i64 c.made)).cell? ⟨w2.heap.size,1,none⟩=some (.int .i64 c.seen)∧(put6 w6 (w.heap.size) (.int .i64 c.who) (.int .i64 c.seen) (.slice b c.base.length bn) (.slice qq c.wait.length qn) (.int .i64 c.done) (.int .i64 c.made)).cell? ⟨w2.heap.size,2,none⟩=some (.slice b c.base.length bn)∧(put6 w6 (w.heap.size) (.int .i64 c.who) (.int .i64 c.seen) (.slice b c.base.length bn) (.slice qq c.wait.length qn) (.int .i64 c.done) (.int .i64 c.made)).cell? ⟨w2.heap.size,3,none⟩=some (.slice qq c.wait.length qn)∧(put6 w6 (w.heap.size) (.int .i64 c.who) (.int .i64 c.seen) (.slice b c.base.length bn) (.slice qq c.wait.length qn) (.int .i64 c.done) (.int .i64 c.made)).cell? ⟨w2.heap.size,4,none⟩=some (.int .i64 c.done)∧(put6 w6 (w.heap.size) (.int .i64 c.who) (.int .i64 c.seen) (.slice b c.base.length bn) (.slice qq c.wait.length qn) (.int .i64 c.done) (.int .i64 c.made)).cell? ⟨w2.heap.size,5,none⟩=some (.int .i64 c.made)):=Lib.hid ⟨(six_cells HX39.out).1,(six_cells HX39.out).2.1,(six_cells HX39.out).2.2.1,(six_cells HX39.out).2.2.2.1,(six_cells HX39.out).2.2.2.2.1,(six_cells HX39.out).2.2.2.2.2.1⟩
   refine WB.one (i:=3) (by kernel_rfl) rfl (fun K hK=>?_)
   have HKK:=Lib.hid hK
   clear hK
   go_simp
   refine HKK.out _ _ ⟨fun _=>HSx.out,?_⟩
   clear HKK K z0 z1 z2 z3 z4 z5 zf
   try simp only [Act.put,List.setIfInBounds_toArray,List.set_cons_zero,List.set_cons_succ]
   have z0:=(five_cells HY9.out).1
   have z1:=(five_cells HY9.out).2.1
   have z2:=(five_cells HY9.out).2.2.1
   have z3:=(five_cells HY9.out).2.2.2.1
   have z4:=(five_cells HY9.out).2.2.2.2.1
   have zf:=(five_cells HY9.out).2.2.2.2.2
   refine WB.one (i:=4) (by kernel_rfl) rfl (fun K hK=>?_)
   have HKK:=Lib.hid hK
   clear hK
   go_simp
   refine HKK.out _ _ ⟨fun h=>(no_late h (by kernel_rfl)).elim,?_⟩
   clear HKK K z0 z1 z2 z3 z4 zf
   refine WB.done (by kernel_rfl) ?_
   go_wp2_with fail
   obtain ⟨hz,hy,hq1,hq2,hE⟩:=HF.out
   obtain ⟨k0,k1,k2,k3,k4,k5,kf⟩:=six_cells hz
   obtain ⟨l0,l1,l2,l3,l4,lf⟩:=five_cells hy
   refine bodyPost_ret (v:=.tuple #[(.agg (cC c b bn qq qn)),o.val]) ?_ rfl ?_
   ·simp [Op.val,results,Tryz.f6,go_sem,k0,k1,k2,k3,k4,k5,l0,l1,l2,l3,l4]
   ·exact ⟨c,_,o,rfl,CT.cv ⟨b,bn,qq,qn,rfl,hq1,hq2⟩,HCW.out,HOO.out.1,HOO.out.2,hE⟩
  ·have HOK:=Lib.hid (drew_parts hok)
   clear hok
   go_upto_region 5 with fail
   refine wp_region_B (fun w'=>w'.cell? ⟨w2.heap.size,0,none⟩=some (.int .i64 c.who)∧w'.cell? ⟨w2.heap.size,1,none⟩=some (.int .i64 c.seen)∧w'.cell? ⟨w2.heap.size,2,none⟩=some (.slice b c.base.length bn)∧w'.cell? ⟨w2.heap.size,3,none⟩=some (.slice qq c.wait.length qn)∧w'.cell? ⟨w2.heap.size,4,none⟩=some (.int .i64 c.done)∧w'.cell? ⟨w2.heap.size,5,none⟩=some (.int .i64 c.made)) 13 (by kernel_rfl) ?_
   have hb5:Ext w4 w4.drew:=(Below.refl _ _).drew
   generalize w4.drew=w5 at *
   have HX1_5:=Lib.hid ((hb5.block _ (blk_lt HX1_4.out)).trans HX1_4.out);have HX2_5:=Lib.hid ((hb5.block _ (blk_lt HX2_4.out)).trans HX2_4.out);have HX3_5:=Lib.hid ((hb5.block _ (blk_lt HX3_4.out)).trans HX3_4.out)
   have H1_5:=Lib.hid (H1_4.out.ext hb5);have H2_5:=Lib.hid (H2_4.out.ext hb5);have HE_5:=Lib.hid (HE_4.out.trans (hb5.mono HE_4.out.size));have HRD_5:=Lib.hid (HRD_4.out.ext hb5)
   clear HX1_4 HX2_4 HX3_4 H1_4 H2_4 HE_4 HRD_4
   clear hb5
   have HS:Hid (w5.cell? ⟨w2.heap.size,0,none⟩=some (.int .i64 c.who)∧w5.cell? ⟨w2.heap.size,1,none⟩=some (.int .i64 c.seen)∧w5.cell? ⟨w2.heap.size,2,none⟩=some (.slice b c.base.length bn)∧w5.cell? ⟨w2.heap.size,3,none⟩=some (.slice qq c.wait.length qn)∧w5.cell? ⟨w2.heap.size,4,none⟩=some (.int .i64 c.done)∧w5.cell? ⟨w2.heap.size,5,none⟩=some (.int .i64 c.made)):=Lib.hid ⟨(six_cells HX3_5.out).1,(six_cells HX3_5.out).2.1,(six_cells HX3_5.out).2.2.1,(six_cells HX3_5.out).2.2.2.1,(six_cells HX3_5.out).2.2.2.2.1,(six_cells HX3_5.out).2.2.2.2.2.1⟩
   refine WB.take (i:=0) (v:=?_) rfl (by kernel_rfl) (by kernel_rfl) (by kernel_rfl) (by kernel_rfl) (fun _ _ _ h=>h) HS.out (Or.inl ⟨by rfl,?_⟩) ?_
   rotate_left
   ·(rintro w ⟨s0,s1,s2,s3,s4,s5⟩;go_simp;try with_reducible rfl)
   try simp only [Act.put,List.setIfInBounds_toArray,List.set_cons_zero,List.set_cons_succ]
   refine WB.takeP (i:=1) (v:=?_) rfl (by kernel_rfl) (by kernel_rfl) (by kernel_rfl) (by kernel_rfl) (fun _ _ _ h=>h) HS.out (Or.inl ⟨by rfl,?_⟩) ?_
   rotate_left
   ·(rintro w -;go_simp;try with_reducible rfl)
   try simp only [Act.put,List.setIfInBounds_toArray,List.set_cons_zero,List.set_cons_succ]
   refine WB.takeP (i:=2) (v:=?_) rfl (by kernel_rfl) (by kernel_rfl) (by kernel_rfl) (by kernel_rfl) (fun _ _ _ h=>h) HS.out (Or.inl ⟨by rfl,?_⟩) ?_
   rotate_left
   ·(rintro w -;go_simp;try with_reducible rfl)
   try simp only [Act.put,List.setIfInBounds_toArray,List.set_cons_zero,List.set_cons_succ]
   refine WB.take (i:=3) (v:=?_) rfl (by kernel_rfl) (by kernel_rfl) (by kernel_rfl) (by kernel_rfl) (fun _ _ _ h=>h) HS.out (Or.inl ⟨by rfl,?_⟩) ?_
   rotate_left
   ·(rintro w ⟨s0,s1,s2,s3,s4,s5⟩;go_simp;try with_reducible rfl)
   try simp only [Act.put,List.setIfInBounds_toArray,List.set_cons_zero,List.set_cons_succ]
   refine WB.takeP (i:=4) (v:=?_) rfl (by kernel_rfl) (by kernel_rfl) (by kernel_rfl) (by kernel_rfl) (fun _ _ _ h=>h) HS.out (Or.inl ⟨by rfl,?_⟩) ?_
   rotate_left
   ·(rintro w -;go_simp;try with_reducible rfl)
   try simp only [Act.put,List.setIfInBounds_toArray,List.set_cons_zero,List.set_cons_succ]
   refine WB.take (i:=5) (v:=?_) rfl (by kernel_rfl) (by kernel_rfl) (by kernel_rfl) (by kernel_rfl) (fun _ _ _ h=>h) HS.out (Or.inl ⟨by rfl,?_⟩) ?_
   rotate_left
   ·(rintro w ⟨s0,s1,s2,s3,s4,s5⟩;go_simp;try with_reducible rfl)
   try simp only [Act.put,List.setIfInBounds_toArray,List.set_cons_zero,List.set_cons_succ]
   refine WB.takeP (i:=7) (v:=?_) rfl (by kernel_rfl) (by kernel_rfl) (by kernel_rfl) (by kernel_rfl) (fun _ _ _ h=>h) HS.out (Or.inl ⟨by rfl,?_⟩) ?_
   rotate_left
   ·(rintro w -;go_simp;try with_reducible rfl)
   try simp only [Act.put,List.setIfInBounds_toArray,List.set_cons_zero,List.set_cons_succ]
   refine WB.take (i:=8) (v:=?_) rfl (by kernel_rfl) (by kernel_rfl) (by kernel_rfl) (by kernel_rfl) (fun _ _ _ h=>h) HS.out (Or.inl ⟨by rfl,?_⟩) ?_
   rotate_left
   ·(rintro w ⟨s0,s1,s2,s3,s4,s5⟩;go_simp;try with_reducible rfl)
   try simp only [Act.put,List.setIfInBounds_toArray,List.set_cons_zero,List.set_cons_succ]
   refine WB.takeP (i:=9) (v:=?_) rfl (by kernel_rfl) (by kernel_rfl) (by kernel_rfl) (by kernel_rfl) (fun _ _ _ h=>h) HS.out (Or.inl ⟨by rfl,?_⟩) ?_
   rotate_left
   ·(rintro w -;go_simp;try with_reducible rfl)
   try simp only [Act.put,List.setIfInBounds_toArray,List.set_cons_zero,List.set_cons_succ]
   refine WB.take (i:=10) (v:=?_) rfl (by kernel_rfl) (by kernel_rfl) (by kernel_rfl) (by kernel_rfl) (fun _ _ _ h=>h) HS.out (Or.inl ⟨by rfl,?_⟩) ?_
   rotate_left
   ·(rintro w ⟨s0,s1,s2,s3,s4,s5⟩;go_simp;try with_reducible rfl)
   try simp only [Act.put,List.setIfInBounds_toArray,List.set_cons_zero,List.set_cons_succ]
   refine WB.one (i:=6) (by kernel_rfl) rfl (fun K hK=>?_)
   have HKK:=Lib.hid hK
   clear hK
   go_simp
   refine (tree_s b bn c.base qq qn c.wait w5 H1_5.out.1 H2_5.out.1 HOK.out.1 HOK.out.2.1).mono ?_
   rintro e w6 ⟨v6,rfl,ho6,hb6⟩
   obtain ⟨G,gn,rfl,hr6⟩:=ho6.rd
   have hGb:∀ b0 off,G=some ⟨b0,off,none⟩→b0≠r:=fun b0 off e=>by
    have h:=ho6.blk b0 (by rw [e];rfl);have h5:=HRD_5.out.lt
    omega
   have HX1_6:=Lib.hid ((hb6.block _ (blk_lt HX1_5.out)).trans HX1_5.out);have HX2_6:=Lib.hid ((hb6.block _ (blk_lt HX2_5.out)).trans HX2_5.out);have HX3_6:=Lib.hid ((hb6.block _ (blk_lt HX3_5.out)).trans HX3_5.out)
   have H1_6:=Lib.hid (H1_5.out.ext hb6);have H2_6:=Lib.hid (H2_5.out.ext hb6);have HE_6:=Lib.hid (HE_5.out.trans (hb6.mono HE_5.out.size));have HRD_6:=Lib.hid (HRD_5.out.ext hb6)
   clear HX1_5 HX2_5 HX3_5 H1_5 H2_5 HE_5 HRD_5
   clear hb6 ho6
   have HR6:=Lib.hid hr6
   clear hr6
   have HS6:Hid (w6.cell? ⟨w2.heap.size,0,none⟩=some (.int .i64 c.who)∧w6.cell? ⟨w2.heap.size,1,none⟩=some (.int .i64 c.seen)∧w6.cell? ⟨w2.heap.size,2,none⟩=some (.slice b c.base.length bn)∧w6.cell? ⟨w2.heap.size,3,none⟩=some (.slice qq c.wait.length qn)∧w6.cell? ⟨w2.heap.size,4,none⟩=some (.int .i64 c.done)∧w6.cell? ⟨w2.heap.size,5,none⟩=some (.int .i64 c.made)):=Lib.hid ⟨(six_cells HX3_6.out).1,(six_cells HX3_6.out).2.1,(six_cells HX3_6.out).2.2.1,(six_cells HX3_6.out).2.2.2.1,(six_cells HX3_6.out).2.2.2.2.1,(six_cells HX3_6.out).2.2.2.2.2.1⟩
   refine HKK.out _ _ ⟨fun _=>HS6.out,?_⟩
   clear HKK K HS
   try simp only [Act.put,List.setIfInBounds_toArray,List.set_cons_zero,List.set_cons_succ]
   refine WB.one (i:=11) (by kernel_rfl) rfl (fun K hK=>?_)
   have HKK:=Lib.hid hK
   clear hK
   go_simp
   refine (op_d r (p+1) G gn (treeFrom c.base c.wait) c.who c.made w6 HRD_6.out (by omega) HR6.out HOK.out.2.2.1 hGb HOK.out.2.2.2.1 HOK.out.2.2.2.2).mono ?_
   rintro e w7 ⟨o,p',rfl,ho,-,-,hR7,hg7⟩
   rw [show o.val=.agg (cO o) from rfl]
   have HRD_7:=Lib.hid hR7
   have HX1_7:=Lib.hid ((hg7.block _ (blk_lt HX1_6.out) (fun e=>by injection e with e;omega)).trans HX1_6.out);have HX2_7:=Lib.hid ((hg7.block _ (blk_lt HX2_6.out) (fun e=>by injection e with e;omega)).trans HX2_6.out);have HX3_7:=Lib.hid ((hg7.block _ (blk_lt HX3_6.out) (fun e=>by injection e with e;omega)).trans HX3_6.out)
   have H1_7:=Lib.hid (H1_6.out.grow hg7 HRD_6.out (by decide));have H2_7:=Lib.hid (H2_6.out.grow hg7 HRD_6.out (by decide));have HE_7:=Lib.hid (ext_grown HE_6.out hg7 (by have:=HE_6.out.size;omega) (fun k e=>by injection e with e;omega))
   clear HX1_6 HX2_6 HX3_6 H1_6 H2_6 HE_6 HRD_6
   clear hg7 hR7
   have HOO:=Lib.hid (⟨ho.w,by have:=ho.2.1;unfold maxLen;omega⟩:OpW o∧o.text.size≤maxLen)
   have HS7:Hid (w7.cell? ⟨w2.heap.size,0,none⟩=some (.int .i64 c.who)∧w7.cell? ⟨w2.heap.size,1,none⟩=some (.int .i64 c.seen)∧w7.cell? ⟨w2.heap.size,2,none⟩=some (.slice b c.base.length bn)∧w7.cell? ⟨w2.heap.size,3,none⟩=some (.slice qq c.wait.length qn)∧w7.cell? ⟨w2.heap.size,4,none⟩=some (.int .i64 c.done)∧w7.cell? ⟨w2.heap.size,5,none⟩=some (.int .i64 c.made)):=Lib.hid ⟨(six_cells HX3_7.out).1,(six_cells HX3_7.out).2.1,(six_cells HX3_7.out).2.2.1,(six_cells HX3_7.out).2.2.2.1,(six_cells HX3_7.out).2.2.2.2.1,(six_cells HX3_7.out).2.2.2.2.2.1⟩
   clear ho
   have hz:=put6_at (.int .i64 c.who) (.int .i64 c.seen) (.slice b c.base.length bn) (.slice qq c.wait.length qn) (.int .i64 c.done) (.int .i64 c.made) HX1_7.out
   have hy:=put5_at (.int .i64 o.kind) (.int .i64 o.id) (.int .i64 o.up) (.int .i64 o.pos) (.string o.text) ((put6_far (.int .i64 c.who) (.int .i64 c.seen) (.slice b c.base.length bn) (.slice qq c.wait.length qn) (.int .i64 c.done) (.int .i64 c.made) (show w.heap.size+1≠w.heap.size from by omega)).trans HX2_7.out)
   have hq1:=(H1_7.out.put6 HX1_7.out (by decide) (.int .i64 c.who) (.int .i64 c.seen) (.slice b c.base.length bn) (.slice qq c.wait.length qn) (.int .i64 c.done) (.int .i64 c.made)).put5 ((put6_far (.int .i64 c.who) (.int .i64 c.seen) (.slice b c.base.length bn) (.slice qq c.wait.length qn) (.int .i64 c.done) (.int .i64 c.made) (show w.heap.size+1≠w.heap.size from by omega)).trans HX2_7.out) (by decide) (.int .i64 o.kind) (.int .i64 o.id) (.int .i64 o.up) (.int .i64 o.pos) (.string o.text)
   have hq2:=(H2_7.out.put6 HX1_7.out (by decide) (.int .i64 c.who) (.int .i64 c.seen) (.slice b c.base.length bn) (.slice qq c.wait.length qn) (.int .i64 c.done) (.int .i64 c.made)).put5 ((put6_far (.int .i64 c.who) (.int .i64 c.seen) (.slice b c.base.length bn) (.slice qq c.wait.length qn) (.int .i64 c.done) (.int .i64 c.made) (show w.heap.size+1≠w.heap.size from by omega)).trans HX2_7.out) (by decide) (.int .i64 o.kind) (.int .i64 o.id) (.int .i64 o.up) (.int .i64 o.pos) (.string o.text)
   have hE:=put5_below (.int .i64 o.kind) (.int .i64 o.id) (.int .i64 o.up) (.int .i64 o.pos) (.string o.text) (put6_below (.int .i64 c.who) (.int .i64 c.seen) (.slice b c.base.length bn) (.slice qq c.wait.length qn) (.int .i64 c.done) (.int .i64 c.made) HE_7.out (Nat.le_refl w.heap.size)) (show w.heap.size≤w.heap.size+1 from by omega)
   have HF:=Lib.hid (⟨(put5_far (.int .i64 o.kind) (.int .i64 o.id) (.int .i64 o.up) (.int .i64 o.pos) (.string o.text) (show w.heap.size≠w.heap.size+1 from by omega)).trans hz,hy,hq1,hq2,hE⟩:_∧_∧_∧_∧_)
   have HY9:=Lib.hid ((put6_far (.int .i64 c.who) (.int .i64 c.seen) (.slice b c.base.length bn) (.slice qq c.wait.length qn) (.int .i64 c.done) (.int .i64 c.made) (show w.heap.size+1≠w.heap.size from by omega)).trans HX2_7.out)
   have HX39:=Lib.hid ((put6_far (.int .i64 c.who) (.int .i64 c.seen) (.slice b c.base.length bn) (.slice qq c.wait.length qn) (.int .i64 c.done) (.int .i64 c.made) (show w2.heap.size≠w.heap.size from by omega)).trans HX3_7.out)
   clear hz hy hq1 hq2 hE
   refine HKK.out _ _ ⟨fun _=>HS7.out,?_⟩
   clear HKK K
   try simp only [Act.put,List.setIfInBounds_toArray,List.set_cons_zero,List.set_cons_succ]
   have z0:=(six_cells HX1_7.out).1
   have z1:=(six_cells HX1_7.out).2.1
   have z2:=(six_cells HX1_7.out).2.2.1
   have z3:=(six_cells HX1_7.out).2.2.2.1
   have z4:=(six_cells HX1_7.out).2.2.2.2.1
   have z5:=(six_cells HX1_7.out).2.2.2.2.2.1
   have zf:=(six_cells HX1_7.out).2.2.2.2.2.2
   have HSx:Hid ((put6 w7 (w.heap.size) (.int .i64 c.who) (.int .i64 c.seen) (.slice b c.base.length bn) (.slice qq c.wait.length qn) (.int .i64 c.done) (.int .i64 c.made)).cell? ⟨w2.heap.size,0,none⟩=some (.int .i64 c.who)∧(put6 w7 (w.heap.size) (.int .i64 c.who) (.int .i64 c.seen) (.slice b c.base.length bn) (.slice qq c.wait.length qn) (.int .i64 c.done) (.int .i64 c.made)).cell? ⟨w2.heap.size,1,none⟩=some (.int .i64 c.seen)∧(put6 w7 (w.heap.size) (.int .i64 c.who) (.int .i64 c.seen) (.slice b c.base.length bn) (.slice qq c.wait.length qn) (.int .i64 c.done) (.int .i64 c.made)).cell? ⟨w2.heap.size,2,none⟩=some (.slice b c.base.length bn)∧(put6 w7 (w.heap.size) (.int .i64 c.who) (.int .i64 c.seen) (.slice b c.base.length bn) (.slice qq c.wait.length qn) (.int .i64 c.done) (.int .i64 c.made)).cell? ⟨w2.heap.size,3,none⟩=some (.slice qq c.wait.length qn)∧(put6 w7 (w.heap.size) (.int .i64 c.who) (.int .i64 c.seen) (.slice b c.base.length bn) (.slice qq c.wait.length qn) (.int .i64 c.done) (.int .i64 c.made)).cell? ⟨w2.heap.size,4,none⟩=some (.int .i64 c.done)∧(put6 w7 (w.heap.size) (.int .i64 c.who) (.int .i64 c.seen) (.slice b c.base.length bn) (.slice qq c.wait.length qn) (.int .i64 c.done) (.int .i64 c.made)).cell? ⟨w2.heap.size,5,none⟩=some (.int .i64 c.made)):=Lib.hid ⟨(six_cells HX39.out).1,(six_cells HX39.out).2.1,(six_cells HX39.out).2.2.1,(six_cells HX39.out).2.2.2.1,(six_cells HX39.out).2.2.2.2.1,(six_cells HX39.out).2.2.2.2.2.1⟩
   refine WB.one (i:=12) (by kernel_rfl) rfl (fun K hK=>?_)
   have HKK:=Lib.hid hK
   clear hK
   go_simp
   refine HKK.out _ _ ⟨fun _=>HSx.out,?_⟩
   clear HKK K z0 z1 z2 z3 z4 z5 zf
   try simp only [Act.put,List.setIfInBounds_toArray,List.set_cons_zero,List.set_cons_succ]
   have z0:=(five_cells HY9.out).1
   have z1:=(five_cells HY9.out).2.1
   have z2:=(five_cells HY9.out).2.2.1
   have z3:=(five_cells HY9.out).2.2.2.1
   have z4:=(five_cells HY9.out).2.2.2.2.1
   have zf:=(five_cells HY9.out).2.2.2.2.2
   refine WB.one (i:=13) (by kernel_rfl) rfl (fun K hK=>?_)
   have HKK:=Lib.hid hK
   clear hK
   go_simp
   refine HKK.out _ _ ⟨fun h=>(no_late h (by kernel_rfl)).elim,?_⟩
   clear HKK K z0 z1 z2 z3 z4 zf
   refine WB.done (by kernel_rfl) ?_
   go_wp2_with fail
   obtain ⟨hz,hy,hq1,hq2,hE⟩:=HF.out
   obtain ⟨k0,k1,k2,k3,k4,k5,kf⟩:=six_cells hz
   obtain ⟨l0,l1,l2,l3,l4,lf⟩:=five_cells hy
   refine bodyPost_ret (v:=.tuple #[(.agg (cC c b bn qq qn)),o.val]) ?_ rfl ?_
   ·simp [Op.val,results,Tryz.f6,go_sem,k0,k1,k2,k3,k4,k5,l0,l1,l2,l3,l4]
   ·exact ⟨c,_,o,rfl,CT.cv ⟨b,bn,qq,qn,rfl,hq1,hq2⟩,HCW.out,HOO.out.1,HOO.out.2,hE⟩
open Go.RowKit Go.Lib
def opP (kk:Nat):Op:=⟨2,11+(kk:Int),0,0,⟨#[97,99]⟩⟩
theorem CV.cv {w:World} {c:Client} {v:Value} (h:CV w c v):CV w c v:=h
theorem opOk_P {kk:Nat} (h:kk<3):opOk (opP kk)=true:=by
 match kk,h with
 |0,_=>decide
 |1,_=>decide
 |2,_=>decide
theorem do_yes {c x:Client} {o:Op} (h:clientDo c o=(x,true)):clientOk c=true∧clientOk x=true∧x=⟨c.who,c.seen,c.base,c.wait++[newEnt c o],c.done,if o.kind=1 then c.made+1 else c.made⟩∧entryOk (newEnt c o)=true:=by
 unfold clientDo at h
 cases hok:clientOk c
 ·rw [hok] at h;cases h
 rw [if_pos hok] at h
 have hx:=doS_ok (o:=o) hok
 rw [h] at hx
 unfold doS at h
 split at h
 ·next he=>cases h;exact ⟨rfl,hx,rfl,he.1⟩
 ·cases h
theorem showL_do {c x:Client} {o:Op} (h:clientDo c o=(x,true)):showL x=opDo (showL c) o:=by
 obtain ⟨h1,h2,h3,-⟩:=do_yes h
 rw [(showL_ok h1).1,(showL_ok h2).1,h3]
 unfold runOps
 rw [List.foldl_append]
 rfl
theorem lpBegins_c (A:Option Addr) (c:Nat) (a:List Entry) (A':Option Addr) (c':Nat) (b:List Entry) (w:World) (hr:Rd w A c a) (hr':Rd w A' c' b) (hl:a.length≤b.length) (ht:b.take a.length=a) :
  Calls Tryz.prog 10 #[.slice A a.length c,.slice A' b.length c'] w fun e w'=>e=.returned (.bool true)∧∃ n,w'=w.drewN n:=by
 have hcap:=hr'.1
 have hsl:∀ W:World,(Instr.slice 24 (.slice A' b.length c') none (some (.int .i64 (a.length:Int))) none).run Tryz.prog W=.ok (.slice (fromA A' c' 0 7) a.length c') W:=fun W=>run_head el_ent A' b.length c' a.length (by omega) W
 have h9:=hr'.head a.length
 rw [ht] at h9
 have hL:=lpLog_c A c a (fromA A' c' 0 7) c' a w hr h9
 rw [show decide (a=a)=true by simp] at hL
 have HL:=Lib.hid hL
 have hli:(a.length:Int)≤(b.length:Int):=by omega
 clear hr hr' hl ht h9 hL hcap
 go_enter Tryz.func10,Tryz.ntmps10
 go_wp2_with fail
 refine HL.out.mono ?_
 rintro e w1 ⟨rfl,m,hm⟩
 go_wp2_with fail
 go_ret
 first | exact ⟨rfl,m,hm⟩ | exact ⟨rfl,m,rfl⟩
set_option maxRecDepth 100000 in
set_option maxHeartbeats 6000000 in
theorem clientDo_walk (A:Option Addr) (n:Nat) (bs:List UInt8) (w:World) (ht:Tab w) (hr:Rd w A n bs) (hA:∀ b off,A=some ⟨b,off,none⟩→b<w.heap.size) :
  Calls Tryz.prog 3 #[.slice A bs.length n] w fun e w'=>e=.returned (.bool true)∧Ext w w':=by
 have hm:bs.length≤maxLen:=Nat.le_trans hr.1 hr.2.1
 unfold maxLen at hm
 have htp_0:=ht.pos
 have HT_0:=Lib.hid ht
 have HDR:=Lib.hid (drawDo_d A n bs w hr hA)
 clear hr hA ht
 go_enter Tryz.func3,Tryz.ntmps3
 by_cases hlong:(1048576:Int)<bs.length
 ·go_wp2_with fail
  go_ret
  exact ⟨rfl,Below.refl _ _⟩
 go_wp2_with fail
 refine HDR.out.mono ?_
 rintro e w1 ⟨c,v,o,rfl,⟨A1,n1,A2,n2,rfl,h1,h2⟩,hcw,how,hos,hb1⟩
 rw [show o.val=.agg (cO o) from rfl]
 have hs_1:=hb1.size
 have HCW:=Lib.hid hcw;have HOP:=Lib.hid (⟨how,hos⟩:_∧_)
 obtain ⟨x,ok,hxo⟩:∃ x ok,clientDo c o=(x,ok):=⟨_,_,rfl⟩
 have HXO:=Lib.hid hxo
 have hE2:Ext w1 ((w1.alloc (oC c A1 n1 A2 n2)).alloc (oO o)):=((Below.refl _ _).alloc (Nat.le_refl _) _).alloc (by rw [alloc_sz];omega) _
 have HE_2:=Lib.hid (hb1.trans (hE2.mono hs_1));have hs_2:=HE_2.out.size
 have HT_2:=Lib.hid (HT_0.out.below HE_2.out htp_0);have htp_2:=HT_2.out.pos
 have HVC_2:Hid (CV ((w1.alloc (oC c A1 n1 A2 n2)).alloc (oO o)) c (.agg (cC c A1 n1 A2 n2))):=⟨A1,n1,A2,n2,rfl,h1.ext hE2,h2.ext hE2⟩
 have h2n:=two_new w1 (oC c A1 n1 A2 n2) (oO o)
 have HBC_2:=Lib.hid h2n.1;have HBO_2:=Lib.hid h2n.2
 have hz_2:((w1.alloc (oC c A1 n1 A2 n2)).alloc (oO o)).heap.size=w1.heap.size+1+1:=by rw [alloc_sz,alloc_sz]
 clear hE2 h1 h2 h2n hcw how hos hxo HDR hb1 HT_0
 go_wp2_with fail
 generalize ((w1.alloc (oC c A1 n1 A2 n2)).alloc (oO o))=w2 at *
 have hS:=clientDo_s c _ o w2 HVC_2.out HCW.out HOP.out.1 HOP.out.2
 rw [HXO.out] at hS
 refine hS.mono ?_
 clear hS
 rintro e w3 ⟨v3,rfl,co3,hb3⟩
 have HE_3:=Lib.hid (HE_2.out.trans ((hb3).mono HE_2.out.size));have hs_3:=HE_3.out.size
 have HT_3:=Lib.hid (HT_2.out.below hb3 htp_2);have htp_3:=HT_3.out.pos
 have HVC_3:=Lib.hid (HVC_2.out.ext hb3)
 have HBC_3:=Lib.hid (((hb3).block _ (blk_lt HBC_2.out)).trans HBC_2.out)
 have HBO_3:=Lib.hid (((hb3).block _ (blk_lt HBO_2.out)).trans HBO_2.out)
 clear HE_2 HT_2 HVC_2 HBC_2 HBO_2
 obtain ⟨B1,m1,B2,m2,rfl,g1,g2⟩:=co3.cv
 have hE4:Ext w3 (w3.alloc (oC x B1 m1 B2 m2)):=(Below.refl _ _).alloc (Nat.le_refl _) _
 have HWW_4:Hid (CV (w3.alloc (oC x B1 m1 B2 m2)) x (.agg (cC x B1 m1 B2 m2))):=⟨B1,m1,B2,m2,rfl,g1.ext hE4,g2.ext hE4⟩
 have HBW_4:=Lib.hid (World.alloc_heap_new w3 (oC x B1 m1 B2 m2))
 have hz_4:=alloc_sz w3 (oC x B1 m1 B2 m2)
 have HE_4:=Lib.hid (HE_3.out.trans ((hE4).mono HE_3.out.size));have hs_4:=HE_4.out.size
 have HT_4:=Lib.hid (HT_3.out.below hE4 htp_3);have htp_4:=HT_4.out.pos
 have HVC_4:=Lib.hid (HVC_3.out.ext hE4)
 have HBC_4:=Lib.hid (((hE4).block _ (blk_lt HBC_3.out)).trans HBC_3.out)
 have HBO_4:=Lib.hid (((hE4).block _ (blk_lt HBO_3.out)).trans HBO_3.out)
 clear HE_3 HT_3 HVC_3 HBC_3 HBO_3
 clear hE4 g1 g2
 obtain ⟨c00,c01,c02,c03,c04,c05,c0f⟩:=six_cells HBC_4.out
 obtain ⟨o0,o1,o2,o3,o4,of⟩:=five_cells HBO_4.out
 go_wp2_with fail
 generalize (w3.alloc (oC x B1 m1 B2 m2))=w4 at *
 clear hb3 co3
 clear c00 c01 c02 c03 c04 c05 c0f
 clear o0 o1 o2 o3 o4 of
 have hS:=clientDo_c c _ o w4 HT_4.out HVC_4.out HOP.out.2
 rw [HXO.out] at hS
 refine hS.mono ?_
 clear hS
 rintro e w5 ⟨v5,rfl,co5,hb5⟩
 have HE_5:=Lib.hid (HE_4.out.trans ((hb5).mono HE_4.out.size));have hs_5:=HE_5.out.size
 have HT_5:=Lib.hid (HT_4.out.below hb5 htp_4);have htp_5:=HT_5.out.pos
 have HVC_5:=Lib.hid (HVC_4.out.ext hb5)
 have HBC_5:=Lib.hid (((hb5).block _ (blk_lt HBC_4.out)).trans HBC_4.out)
 have HBO_5:=Lib.hid (((hb5).block _ (blk_lt HBO_4.out)).trans HBO_4.out)
 have HWW_5:=Lib.hid (HWW_4.out.ext hb5)
 have HBW_5:=Lib.hid (((hb5).block _ (blk_lt HBW_4.out)).trans HBW_4.out)
 clear HE_4 HT_4 HVC_4 HBC_4 HBO_4 HWW_4 HBW_4
 obtain ⟨D1,k1,D2,k2,rfl,g1,g2⟩:=co5.cv
 have hE6:Ext w5 (w5.alloc (oC x D1 k1 D2 k2)):=(Below.refl _ _).alloc (Nat.le_refl _) _
 have HWX_6:Hid (CV (w5.alloc (oC x D1 k1 D2 k2)) x (.agg (cC x D1 k1 D2 k2))):=⟨D1,k1,D2,k2,rfl,g1.ext hE6,g2.ext hE6⟩
 have HBX_6:=Lib.hid (World.alloc_heap_new w5 (oC x D1 k1 D2 k2))
 have hz_6:=alloc_sz w5 (oC x D1 k1 D2 k2)
 have HE_6:=Lib.hid (HE_5.out.trans ((hE6).mono HE_5.out.size));have hs_6:=HE_6.out.size
 have HT_6:=Lib.hid (HT_5.out.below hE6 htp_5);have htp_6:=HT_6.out.pos
 have HVC_6:=Lib.hid (HVC_5.out.ext hE6)
 have HBC_6:=Lib.hid (((hE6).block _ (blk_lt HBC_5.out)).trans HBC_5.out)
 have HBO_6:=Lib.hid (((hE6).block _ (blk_lt HBO_5.out)).trans HBO_5.out)
 have HWW_6:=Lib.hid (HWW_5.out.ext hE6)
 have HBW_6:=Lib.hid (((hE6).block _ (blk_lt HBW_5.out)).trans HBW_5.out)
 clear HE_5 HT_5 HVC_5 HBC_5 HBO_5 HWW_5 HBW_5
 clear hE6 g1 g2
 clear hb5 co5
 obtain ⟨c00,c01,c02,c03,c04,c05,c0f⟩:=six_cells HBC_6.out
 obtain ⟨c10,c11,c12,c13,c14,c15,c1f⟩:=six_cells HBW_6.out
 obtain ⟨c20,c21,c22,c23,c24,c25,c2f⟩:=six_cells HBX_6.out
 obtain ⟨o0,o1,o2,o3,o4,of⟩:=five_cells HBO_6.out
 cases ok with
 |false=>
  go_wp2_with fail
  generalize (w5.alloc (oC x D1 k1 D2 k2))=w6 at *
  clear c00 c01 c02 c03 c04 c05 c0f c10 c11 c12 c13 c14 c15 c1f c20 c21 c22 c23 c24 c25 c2f
  clear o0 o1 o2 o3 o4 of
  have hS:=lpClient_c x x _ _ w6 HWX_6.out HWW_6.out
  rw [clientEq_self] at hS
  refine hS.mono ?_
  clear hS
  rintro e w7 ⟨rfl,hb7⟩
  have HE_7:=Lib.hid (HE_6.out.trans ((hb7).mono HE_6.out.size));have hs_7:=HE_7.out.size
  have HT_7:=Lib.hid (HT_6.out.below hb7 htp_6);have htp_7:=HT_7.out.pos
  have HVC_7:=Lib.hid (HVC_6.out.ext hb7)
  have HBC_7:=Lib.hid (((hb7).block _ (blk_lt HBC_6.out)).trans HBC_6.out)
  have HBO_7:=Lib.hid (((hb7).block _ (blk_lt HBO_6.out)).trans HBO_6.out)
  have HWW_7:=Lib.hid (HWW_6.out.ext hb7)
  have HBW_7:=Lib.hid (((hb7).block _ (blk_lt HBW_6.out)).trans HBW_6.out)
  have HWX_7:=Lib.hid (HWX_6.out.ext hb7)
  have HBX_7:=Lib.hid (((hb7).block _ (blk_lt HBX_6.out)).trans HBX_6.out)
  clear HE_6 HT_6 HVC_6 HBC_6 HBO_6 HWW_6 HBW_6 HWX_6 HBX_6
  clear hb7
  obtain ⟨c00,c01,c02,c03,c04,c05,c0f⟩:=six_cells HBC_7.out
  obtain ⟨c10,c11,c12,c13,c14,c15,c1f⟩:=six_cells HBW_7.out
  obtain ⟨c20,c21,c22,c23,c24,c25,c2f⟩:=six_cells HBX_7.out
  go_wp2_with fail
  clear c00 c01 c02 c03 c04 c05 c0f c10 c11 c12 c13 c14 c15 c1f c20 c21 c22 c23 c24 c25 c2f
  have hS:=lpClient_c x x _ _ w7 HWX_7.out HWW_7.out
  rw [clientEq_self] at hS
  refine hS.mono ?_
  clear hS
  rintro e w8 ⟨rfl,hb8⟩
  have HE_8:=Lib.hid (HE_7.out.trans ((hb8).mono HE_7.out.size));have hs_8:=HE_8.out.size
  have HT_8:=Lib.hid (HT_7.out.below hb8 htp_7);have htp_8:=HT_8.out.pos
  have HVC_8:=Lib.hid (HVC_7.out.ext hb8)
  have HBC_8:=Lib.hid (((hb8).block _ (blk_lt HBC_7.out)).trans HBC_7.out)
  have HBO_8:=Lib.hid (((hb8).block _ (blk_lt HBO_7.out)).trans HBO_7.out)
  have HWW_8:=Lib.hid (HWW_7.out.ext hb8)
  have HBW_8:=Lib.hid (((hb8).block _ (blk_lt HBW_7.out)).trans HBW_7.out)
  have HWX_8:=Lib.hid (HWX_7.out.ext hb8)
  have HBX_8:=Lib.hid (((hb8).block _ (blk_lt HBX_7.out)).trans HBX_7.out)
  clear HE_7 HT_7 HVC_7 HBC_7 HBO_7 HWW_7 HBW_7 HWX_7 HBX_7
  clear hb8
  go_wp2_with fail
  go_ret
  exact ⟨rfl,HE_8.out⟩
 |true=>
  go_wp2_with fail
  generalize (w5.alloc (oC x D1 k1 D2 k2))=w6 at *
  clear c00 c01 c02 c03 c04 c05 c0f c10 c11 c12 c13 c14 c15 c1f c20 c21 c22 c23 c24 c25 c2f
  clear o0 o1 o2 o3 o4 of
  have hS:=lpClient_c x x _ _ w6 HWX_6.out HWW_6.out
  rw [clientEq_self] at hS
  refine hS.mono ?_
  clear hS
  rintro e w7 ⟨rfl,hb7⟩
  have HE_7:=Lib.hid (HE_6.out.trans ((hb7).mono HE_6.out.size));have hs_7:=HE_7.out.size
  have HT_7:=Lib.hid (HT_6.out.below hb7 htp_6);have htp_7:=HT_7.out.pos
  have HVC_7:=Lib.hid (HVC_6.out.ext hb7)
  have HBC_7:=Lib.hid (((hb7).block _ (blk_lt HBC_6.out)).trans HBC_6.out)
  have HBO_7:=Lib.hid (((hb7).block _ (blk_lt HBO_6.out)).trans HBO_6.out)
  have HWW_7:=Lib.hid (HWW_6.out.ext hb7)
  have HBW_7:=Lib.hid (((hb7).block _ (blk_lt HBW_6.out)).trans HBW_6.out)
  have HWX_7:=Lib.hid (HWX_6.out.ext hb7)
  have HBX_7:=Lib.hid (((hb7).block _ (blk_lt HBX_6.out)).trans HBX_6.out)
  clear HE_6 HT_6 HVC_6 HBC_6 HBO_6 HWW_6 HBW_6 HWX_6 HBX_6
  clear hb7
  obtain ⟨c00,c01,c02,c03,c04,c05,c0f⟩:=six_cells HBC_7.out
  obtain ⟨o0,o1,o2,o3,o4,of⟩:=five_cells HBO_7.out
  obtain ⟨hy1,hy2,hy3,hy4⟩:=do_yes HXO.out
  have hd0:=(clientOk_parts hy1).2.2.2.2.1
  have hd1:=(clientOk_parts hy1).2.2.2.2.2.2.1
  have hxw:x.wait=c.wait++[newEnt c o]:=by rw [hy3]
  have hxl:x.wait.length=c.wait.length+1:=by rw [hxw];simp
  have hxe:x.wait[c.wait.length]'(by omega)=newEnt c o:=by
   have h:∀ (l:List Entry) (h:c.wait.length<l.length),l=c.wait++[newEnt c o]→l[c.wait.length]=newEnt c o:=by
    rintro l h rfl;simp
   exact h _ _ hxw
  have htk:x.wait.take c.wait.length=c.wait:=by rw [hxw];simp
  have HXB:=Lib.hid (show x.base=c.base by rw [hy3]);have HSN:=Lib.hid (show c.seen=x.seen by rw [hy3]);have HOK:=Lib.hid hy2;have HTK:=Lib.hid htk;have HSH:=Lib.hid (showL_do HXO.out)
  have hw1:IntKind.i64.wrap (c.done+(c.wait.length:Int))=c.done+(c.wait.length:Int):=by rw [IntKind.wrap_i64];omega
  have hw2:IntKind.i64.wrap (c.done+(c.wait.length:Int)+1)=c.done+(c.wait.length:Int)+1:=by rw [IntKind.wrap_i64];omega
  clear hy1 hy2 hy3 hy4 hxw htk
  have hE8:Ext w7 (w7.alloc (.cells #[.int .i64 c.who,.int .i64 (c.done+(c.wait.length:Int)+1),.int .i64 o.kind,.int .i64 o.id,.int .i64 o.up,.int .i64 o.pos,.string o.text] 35)):=(Below.refl _ _).alloc (Nat.le_refl _) _
  have HBE_8:=Lib.hid (World.alloc_heap_new w7 (.cells #[.int .i64 c.who,.int .i64 (c.done+(c.wait.length:Int)+1),.int .i64 o.kind,.int .i64 o.id,.int .i64 o.up,.int .i64 o.pos,.string o.text] 35))
  have HE_8:=Lib.hid (HE_7.out.trans ((hE8).mono HE_7.out.size));have hs_8:=HE_8.out.size
  have HT_8:=Lib.hid (HT_7.out.below hE8 htp_7);have htp_8:=HT_8.out.pos
  have HVC_8:=Lib.hid (HVC_7.out.ext hE8)
  have HBC_8:=Lib.hid (((hE8).block _ (blk_lt HBC_7.out)).trans HBC_7.out)
  have HBO_8:=Lib.hid (((hE8).block _ (blk_lt HBO_7.out)).trans HBO_7.out)
  have HWW_8:=Lib.hid (HWW_7.out.ext hE8)
  have HBW_8:=Lib.hid (((hE8).block _ (blk_lt HBW_7.out)).trans HBW_7.out)
  have HWX_8:=Lib.hid (HWX_7.out.ext hE8)
  have HBX_8:=Lib.hid (((hE8).block _ (blk_lt HBX_7.out)).trans HBX_7.out)
  clear HE_7 HT_7 HVC_7 HBC_7 HBO_7 HWW_7 HBW_7 HWX_7 HBX_7
  clear hE8
  obtain ⟨hrx1,hrx2⟩:Rd (w7.alloc (.cells #[.int .i64 c.who,.int .i64 (c.done+(c.wait.length:Int)+1),.int .i64 o.kind,.int .i64 o.id,.int .i64 o.up,.int .i64 o.pos,.string o.text] 35)) D1 k1 x.base∧Rd (w7.alloc (.cells #[.int .i64 c.who,.int .i64 (c.done+(c.wait.length:Int)+1),.int .i64 o.kind,.int .i64 o.id,.int .i64 o.up,.int .i64 o.pos,.string o.text] 35)) D2 k2 x.wait:=by
   obtain ⟨_,_,_,_,e9,g1,g2⟩:=HWX_8.out
   simp at e9
   obtain ⟨⟨rfl,rfl⟩,⟨rfl,rfl⟩⟩:=e9
   exact ⟨g1,g2⟩
  obtain ⟨hrc1,hrc2⟩:Rd (w7.alloc (.cells #[.int .i64 c.who,.int .i64 (c.done+(c.wait.length:Int)+1),.int .i64 o.kind,.int .i64 o.id,.int .i64 o.up,.int .i64 o.pos,.string o.text] 35)) A1 n1 c.base∧Rd (w7.alloc (.cells #[.int .i64 c.who,.int .i64 (c.done+(c.wait.length:Int)+1),.int .i64 o.kind,.int .i64 o.id,.int .i64 o.up,.int .i64 o.pos,.string o.text] 35)) A2 n2 c.wait:=by
   obtain ⟨_,_,_,_,e9,g1,g2⟩:=HVC_8.out
   simp at e9
   obtain ⟨⟨rfl,rfl⟩,⟨rfl,rfl⟩⟩:=e9
   exact ⟨g1,g2⟩
  have hyl9:x.wait.length≤maxLen:=Nat.le_trans hrx2.1 hrx2.2.1
  unfold maxLen at hyl9
  obtain ⟨eb,eo,rfl,hebl,e0,e1,e2,e3,e4,e5,e6⟩:=ent_at hrx2 c.wait.length (by omega)
  rw [hxe] at e0 e1 e2 e3 e4 e5 e6
  have HEN:Hid ((w7.alloc (.cells #[.int .i64 c.who,.int .i64 (c.done+(c.wait.length:Int)+1),.int .i64 o.kind,.int .i64 o.id,.int .i64 o.up,.int .i64 o.pos,.string o.text] 35)).cell? ⟨eb,eo+c.wait.length*7,none⟩=some (.int .i64 c.who)∧(w7.alloc (.cells #[.int .i64 c.who,.int .i64 (c.done+(c.wait.length:Int)+1),.int .i64 o.kind,.int .i64 o.id,.int .i64 o.up,.int .i64 o.pos,.string o.text] 35)).cell? ⟨eb,eo+c.wait.length*7+1,none⟩=some (.int .i64 (c.done+(c.wait.length:Int)+1))∧(w7.alloc (.cells #[.int .i64 c.who,.int .i64 (c.done+(c.wait.length:Int)+1),.int .i64 o.kind,.int .i64 o.id,.int .i64 o.up,.int .i64 o.pos,.string o.text] 35)).cell? ⟨eb,eo+c.wait.length*7+2,none⟩=some (.int .i64 o.kind)∧(w7.alloc (.cells #[.int .i64 c.who,.int .i64 (c.done+(c.wait.length:Int)+1),.int .i64 o.kind,.int .i64 o.id,.int .i64 o.up,.int .i64 o.pos,.string o.text] 35)).cell? ⟨eb,eo+c.wait.length*7+3,none⟩=some (.int .i64 o.id)∧(w7.alloc (.cells #[.int .i64 c.who,.int .i64 (c.done+(c.wait.length:Int)+1),.int .i64 o.kind,.int .i64 o.id,.int .i64 o.up,.int .i64 o.pos,.string o.text] 35)).cell? ⟨eb,eo+c.wait.length*7+4,none⟩=some (.int .i64 o.up)∧(w7.alloc (.cells #[.int .i64 c.who,.int .i64 (c.done+(c.wait.length:Int)+1),.int .i64 o.kind,.int .i64 o.id,.int .i64 o.up,.int .i64 o.pos,.string o.text] 35)).cell? ⟨eb,eo+c.wait.length*7+5,none⟩=some (.int .i64 o.pos)∧(w7.alloc (.cells #[.int .i64 c.who,.int .i64 (c.done+(c.wait.length:Int)+1),.int .i64 o.kind,.int .i64 o.id,.int .i64 o.up,.int .i64 o.pos,.string o.text] 35)).cell? ⟨eb,eo+c.wait.length*7+6,none⟩=some (.string o.text)):=⟨e0,e1,e2,e3,e4,e5,e6⟩
  have HX1_8:=Lib.hid hrx1;have HX2_8:=Lib.hid hrx2;have HC1_8:=Lib.hid hrc1;have HC2_8:=Lib.hid hrc2
  clear e0 e1 e2 e3 e4 e5 e6 hrx1 hrx2 hrc1 hrc2 hxe
  go_upto_region 10 with fail
  generalize (w7.alloc (.cells #[.int .i64 c.who,.int .i64 (c.done+(c.wait.length:Int)+1),.int .i64 o.kind,.int .i64 o.id,.int .i64 o.up,.int .i64 o.pos,.string o.text] 35))=w8 at *
  clear c00 c01 c02 c03 c04 c05 c0f
  clear o0 o1 o2 o3 o4 of
  clear hw1 hw2
  refine wp_region_B (fun w'=>w'.cell? ⟨w5.heap.size,0,none⟩=some (.int .i64 x.who)∧w'.cell? ⟨w5.heap.size,1,none⟩=some (.int .i64 x.seen)∧w'.cell? ⟨w5.heap.size,2,none⟩=some (.slice D1 x.base.length k1)∧w'.cell? ⟨w5.heap.size,3,none⟩=some (.slice (some ⟨eb,eo,none⟩) x.wait.length k2)∧w'.cell? ⟨w5.heap.size,4,none⟩=some (.int .i64 x.done)∧w'.cell? ⟨w5.heap.size,5,none⟩=some (.int .i64 x.made)∧w'.cell? ⟨w1.heap.size,0,none⟩=some (.int .i64 c.who)∧w'.cell? ⟨w1.heap.size,1,none⟩=some (.int .i64 c.seen)∧w'.cell? ⟨w1.heap.size,2,none⟩=some (.slice A1 c.base.length n1)∧w'.cell? ⟨w1.heap.size,3,none⟩=some (.slice A2 c.wait.length n2)∧w'.cell? ⟨w1.heap.size,4,none⟩=some (.int .i64 c.done)∧w'.cell? ⟨w1.heap.size,5,none⟩=some (.int .i64 c.made)∧w'.cell? ⟨w1.heap.size+1,0,none⟩=some (.int .i64 o.kind)∧w'.cell? ⟨w1.heap.size+1,1,none⟩=some (.int .i64 o.id)∧w'.cell? ⟨w1.heap.size+1,2,none⟩=some (.int .i64 o.up)∧w'.cell? ⟨w1.heap.size+1,3,none⟩=some (.int .i64 o.pos)∧w'.cell? ⟨w1.heap.size+1,4,none⟩=some (.string o.text)∧w'.cell? ⟨w7.heap.size,0,none⟩=some (.int .i64 c.who)∧w'.cell? ⟨w7.heap.size,1,none⟩=some (.int .i64 (c.done+(c.wait.length:Int)+1))∧w'.cell? ⟨w7.heap.size,2,none⟩=some (.int .i64 o.kind)∧w'.cell? ⟨w7.heap.size,3,none⟩=some (.int .i64 o.id)∧w'.cell? ⟨w7.heap.size,4,none⟩=some (.int .i64 o.up)∧w'.cell? ⟨w7.heap.size,5,none⟩=some (.int .i64 o.pos)∧w'.cell? ⟨w7.heap.size,6,none⟩=some (.string o.text)∧w'.cell? ⟨eb,eo+c.wait.length*7,none⟩=some (.int .i64 c.who)∧w'.cell? ⟨eb,eo+c.wait.length*7+1,none⟩=some (.int .i64 (c.done+(c.wait.length:Int)+1))∧w'.cell? ⟨eb,eo+c.wait.length*7+2,none⟩=some (.int .i64 o.kind)∧w'.cell? ⟨eb,eo+c.wait.length*7+3,none⟩=some (.int .i64 o.id)∧w'.cell? ⟨eb,eo+c.wait.length*7+4,none⟩=some (.int .i64 o.up)∧w'.cell? ⟨eb,eo+c.wait.length*7+5,none⟩=some (.int .i64 o.pos)∧w'.cell? ⟨eb,eo+c.wait.length*7+6,none⟩=some (.string o.text)) 49 (by kernel_rfl) ?_
  have hbd:Ext w8 w8.drew:=(Below.refl _ _).drew
  generalize w8.drew=wd at *
  have HE_d:=Lib.hid (HE_8.out.trans ((hbd).mono HE_8.out.size));have hs_d:=HE_d.out.size
  have HT_d:=Lib.hid (HT_8.out.below hbd htp_8);have htp_d:=HT_d.out.pos
  have HVC_d:=Lib.hid (HVC_8.out.ext hbd)
  have HBC_d:=Lib.hid (((hbd).block _ (blk_lt HBC_8.out)).trans HBC_8.out)
  have HBO_d:=Lib.hid (((hbd).block _ (blk_lt HBO_8.out)).trans HBO_8.out)
  have HWW_d:=Lib.hid (HWW_8.out.ext hbd)
  have HBW_d:=Lib.hid (((hbd).block _ (blk_lt HBW_8.out)).trans HBW_8.out)
  have HWX_d:=Lib.hid (HWX_8.out.ext hbd)
  have HBX_d:=Lib.hid (((hbd).block _ (blk_lt HBX_8.out)).trans HBX_8.out)
  have HBE_d:=Lib.hid (((hbd).block _ (blk_lt HBE_8.out)).trans HBE_8.out)
  have HX1_d:=Lib.hid (HX1_8.out.ext hbd)
  have HX2_d:=Lib.hid (HX2_8.out.ext hbd)
  have HC1_d:=Lib.hid (HC1_8.out.ext hbd)
  have HC2_d:=Lib.hid (HC2_8.out.ext hbd)
  clear HE_8 HT_8 HVC_8 HBC_8 HBO_8 HWW_8 HBW_8 HWX_8 HBX_8 HBE_8 HX1_8 HX2_8 HC1_8 HC2_8
  have HEN_d:Hid (wd.cell? ⟨eb,eo+c.wait.length*7,none⟩=some (.int .i64 c.who)∧wd.cell? ⟨eb,eo+c.wait.length*7+1,none⟩=some (.int .i64 (c.done+(c.wait.length:Int)+1))∧wd.cell? ⟨eb,eo+c.wait.length*7+2,none⟩=some (.int .i64 o.kind)∧wd.cell? ⟨eb,eo+c.wait.length*7+3,none⟩=some (.int .i64 o.id)∧wd.cell? ⟨eb,eo+c.wait.length*7+4,none⟩=some (.int .i64 o.up)∧wd.cell? ⟨eb,eo+c.wait.length*7+5,none⟩=some (.int .i64 o.pos)∧wd.cell? ⟨eb,eo+c.wait.length*7+6,none⟩=some (.string o.text)):=by
   obtain ⟨hq0,hq1,hq2,hq3,hq4,hq5,hq6⟩:=HEN.out
   obtain ⟨hc9,-⟩:=bcell hbd
   exact ⟨(hc9 _ _ hebl).trans hq0,(hc9 _ _ hebl).trans hq1,(hc9 _ _ hebl).trans hq2,(hc9 _ _ hebl).trans hq3,(hc9 _ _ hebl).trans hq4,(hc9 _ _ hebl).trans hq5,(hc9 _ _ hebl).trans hq6⟩
  have hebl9:eb<wd.heap.size:=Nat.lt_of_lt_of_le hebl hbd.size
  clear hebl HEN
  have hebl:=hebl9
  have HEN:=HEN_d
  clear HEN_d hebl9
  clear hbd
  have HS:Hid (wd.cell? ⟨w5.heap.size,0,none⟩=some (.int .i64 x.who)∧wd.cell? ⟨w5.heap.size,1,none⟩=some (.int .i64 x.seen)∧wd.cell? ⟨w5.heap.size,2,none⟩=some (.slice D1 x.base.length k1)∧wd.cell? ⟨w5.heap.size,3,none⟩=some (.slice (some ⟨eb,eo,none⟩) x.wait.length k2)∧wd.cell? ⟨w5.heap.size,4,none⟩=some (.int .i64 x.done)∧wd.cell? ⟨w5.heap.size,5,none⟩=some (.int .i64 x.made)∧wd.cell? ⟨w1.heap.size,0,none⟩=some (.int .i64 c.who)∧wd.cell? ⟨w1.heap.size,1,none⟩=some (.int .i64 c.seen)∧wd.cell? ⟨w1.heap.size,2,none⟩=some (.slice A1 c.base.length n1)∧wd.cell? ⟨w1.heap.size,3,none⟩=some (.slice A2 c.wait.length n2)∧wd.cell? ⟨w1.heap.size,4,none⟩=some (.int .i64 c.done)∧wd.cell? ⟨w1.heap.size,5,none⟩=some (.int .i64 c.made)∧wd.cell? ⟨w1.heap.size+1,0,none⟩=some (.int .i64 o.kind)∧wd.cell? ⟨w1.heap.size+1,1,none⟩=some (.int .i64 o.id)∧wd.cell? ⟨w1.heap.size+1,2,none⟩=some (.int .i64 o.up)∧wd.cell? ⟨w1.heap.size+1,3,none⟩=some (.int .i64 o.pos)∧wd.cell? ⟨w1.heap.size+1,4,none⟩=some (.string o.text)∧wd.cell? ⟨w7.heap.size,0,none⟩=some (.int .i64 c.who)∧wd.cell? ⟨w7.heap.size,1,none⟩=some (.int .i64 (c.done+(c.wait.length:Int)+1))∧wd.cell? ⟨w7.heap.size,2,none⟩=some (.int .i64 o.kind)∧wd.cell? ⟨w7.heap.size,3,none⟩=some (.int .i64 o.id)∧wd.cell? ⟨w7.heap.size,4,none⟩=some (.int .i64 o.up)∧wd.cell? ⟨w7.heap.size,5,none⟩=some (.int .i64 o.pos)∧wd.cell? ⟨w7.heap.size,6,none⟩=some (.string o.text)∧wd.cell? ⟨eb,eo+c.wait.length*7,none⟩=some (.int .i64 c.who)∧wd.cell? ⟨eb,eo+c.wait.length*7+1,none⟩=some (.int .i64 (c.done+(c.wait.length:Int)+1))∧wd.cell? ⟨eb,eo+c.wait.length*7+2,none⟩=some (.int .i64 o.kind)∧wd.cell? ⟨eb,eo+c.wait.length*7+3,none⟩=some (.int .i64 o.id)∧wd.cell? ⟨eb,eo+c.wait.length*7+4,none⟩=some (.int .i64 o.up)∧wd.cell? ⟨eb,eo+c.wait.length*7+5,none⟩=some (.int .i64 o.pos)∧wd.cell? ⟨eb,eo+c.wait.length*7+6,none⟩=some (.string o.text)):=Lib.hid ⟨(six_cells HBX_d.out).1,(six_cells HBX_d.out).2.1,(six_cells HBX_d.out).2.2.1,(six_cells HBX_d.out).2.2.2.1,(six_cells HBX_d.out).2.2.2.2.1,(six_cells HBX_d.out).2.2.2.2.2.1,(six_cells HBC_d.out).1,(six_cells HBC_d.out).2.1,(six_cells HBC_d.out).2.2.1,(six_cells HBC_d.out).2.2.2.1,(six_cells HBC_d.out).2.2.2.2.1,(six_cells HBC_d.out).2.2.2.2.2.1,(five_cells HBO_d.out).1,(five_cells HBO_d.out).2.1,(five_cells HBO_d.out).2.2.1,(five_cells HBO_d.out).2.2.2.1,(five_cells HBO_d.out).2.2.2.2.1,(seven_cells HBE_d.out).1,(seven_cells HBE_d.out).2.1,(seven_cells HBE_d.out).2.2.1,(seven_cells HBE_d.out).2.2.2.1,(seven_cells HBE_d.out).2.2.2.2.1,(seven_cells HBE_d.out).2.2.2.2.2.1,(seven_cells HBE_d.out).2.2.2.2.2.2.1,HEN.out.1,HEN.out.2.1,HEN.out.2.2.1,HEN.out.2.2.2.1,HEN.out.2.2.2.2.1,HEN.out.2.2.2.2.2.1,HEN.out.2.2.2.2.2.2⟩
  have hwx:IntKind.i64.wrap ((c.wait.length:Int)+1)=(x.wait.length:Int):=by rw [IntKind.wrap_i64];omega
  have hi1:(c.wait.length:Int)<(x.wait.length:Int):=by omega
  clear hxl
  have hu1:=Tryz.underlying35
  have hu2:=Tryz.underlying28
  refine WB.takePD (i:=0) (d:=some 64) (v:=?_) rfl (by kernel_rfl) (by kernel_rfl) (by kernel_rfl) (by kernel_rfl) (by kernel_rfl) (fun _ _ _ h=>h) HS.out (Or.inl ⟨by rfl,?_⟩) ?_
  rotate_left
  ·(rintro w -;go_simp;try with_reducible rfl)
  try simp only [Act.put,List.setIfInBounds_toArray,List.set_cons_zero,List.set_cons_succ]
  refine WB.takeD (i:=1) (d:=some 65) (v:=?_) rfl (by kernel_rfl) (by kernel_rfl) (by kernel_rfl) (by kernel_rfl) (by kernel_rfl) (fun _ _ _ h=>h) HS.out (Or.inl ⟨by rfl,?_⟩) ?_
  rotate_left
  ·(rintro w ⟨s0,s1,s2,s3,s4,s5,s6,s7,s8,s9,s10,s11,s12,s13,s14,s15,s16,s17,s18,s19,s20,s21,s22,s23,s24,s25,s26,s27,s28,s29,s30⟩;go_simp;try with_reducible rfl)
  try simp only [Act.put,List.setIfInBounds_toArray,List.set_cons_zero,List.set_cons_succ]
  refine WB.takePD (i:=2) (d:=some 66) (v:=?_) rfl (by kernel_rfl) (by kernel_rfl) (by kernel_rfl) (by kernel_rfl) (by kernel_rfl) (fun _ _ _ h=>h) HS.out (Or.inl ⟨by rfl,?_⟩) ?_
  rotate_left
  ·(rintro w -;go_simp;try with_reducible rfl)
  try simp only [Act.put,List.setIfInBounds_toArray,List.set_cons_zero,List.set_cons_succ]
  refine WB.takePD (i:=3) (d:=some 67) (v:=?_) rfl (by kernel_rfl) (by kernel_rfl) (by kernel_rfl) (by kernel_rfl) (by kernel_rfl) (fun _ _ _ h=>h) HS.out (Or.inl ⟨by rfl,?_⟩) ?_
  rotate_left
  ·(rintro w -;go_simp;try with_reducible rfl)
  try simp only [Act.put,List.setIfInBounds_toArray,List.set_cons_zero,List.set_cons_succ]
  refine WB.takePD (i:=4) (d:=some 68) (v:=?_) rfl (by kernel_rfl) (by kernel_rfl) (by kernel_rfl) (by kernel_rfl) (by kernel_rfl) (fun _ _ _ h=>h) HS.out (Or.inl ⟨by rfl,?_⟩) ?_
  rotate_left
  ·(rintro w -;go_simp;try with_reducible rfl)
  try simp only [Act.put,List.setIfInBounds_toArray,List.set_cons_zero,List.set_cons_succ]
  refine WB.takePD (i:=5) (d:=some 69) (v:=?_) rfl (by kernel_rfl) (by kernel_rfl) (by kernel_rfl) (by kernel_rfl) (by kernel_rfl) (fun _ _ _ h=>h) HS.out (Or.inl ⟨by rfl,?_⟩) ?_
  rotate_left
  ·(rintro w -;go_simp;try with_reducible rfl)
  try simp only [Act.put,List.setIfInBounds_toArray,List.set_cons_zero,List.set_cons_succ]
  refine WB.takePD (i:=6) (d:=some 70) (v:=?_) rfl (by kernel_rfl) (by kernel_rfl) (by kernel_rfl) (by kernel_rfl) (by kernel_rfl) (fun _ _ _ h=>h) HS.out (Or.inl ⟨by rfl,?_⟩) ?_
  rotate_left
  ·(rintro w -;go_simp;try with_reducible rfl)
  try simp only [Act.put,List.setIfInBounds_toArray,List.set_cons_zero,List.set_cons_succ]
  refine WB.takePD (i:=7) (d:=some 71) (v:=?_) rfl (by kernel_rfl) (by kernel_rfl) (by kernel_rfl) (by kernel_rfl) (by kernel_rfl) (fun _ _ _ h=>h) HS.out (Or.inl ⟨by rfl,?_⟩) ?_
  rotate_left
  ·(rintro w -;go_simp;try with_reducible rfl)
  try simp only [Act.put,List.setIfInBounds_toArray,List.set_cons_zero,List.set_cons_succ]
  refine WB.takeD (i:=8) (d:=some 72) (v:=?_) rfl (by kernel_rfl) (by kernel_rfl) (by kernel_rfl) (by kernel_rfl) (by kernel_rfl) (fun _ _ _ h=>h) HS.out (Or.inl ⟨by rfl,?_⟩) ?_
  rotate_left
  ·(rintro w ⟨s0,s1,s2,s3,s4,s5,s6,s7,s8,s9,s10,s11,s12,s13,s14,s15,s16,s17,s18,s19,s20,s21,s22,s23,s24,s25,s26,s27,s28,s29,s30⟩;go_simp;try with_reducible rfl)
  try simp only [Act.put,List.setIfInBounds_toArray,List.set_cons_zero,List.set_cons_succ]
  refine WB.takePD (i:=9) (d:=some 73) (v:=?_) rfl (by kernel_rfl) (by kernel_rfl) (by kernel_rfl) (by kernel_rfl) (by kernel_rfl) (fun _ _ _ h=>h) HS.out (Or.inl ⟨by rfl,?_⟩) ?_
  rotate_left
  ·(rintro w -;go_simp;try with_reducible rfl)
  try simp only [Act.put,List.setIfInBounds_toArray,List.set_cons_zero,List.set_cons_succ]
  refine WB.takePD (i:=10) (d:=some 74) (v:=?_) rfl (by kernel_rfl) (by kernel_rfl) (by kernel_rfl) (by kernel_rfl) (by kernel_rfl) (fun _ _ _ h=>h) HS.out (Or.inl ⟨by rfl,?_⟩) ?_
  rotate_left
  ·(rintro w -;go_simp;try with_reducible rfl)
  try simp only [Act.put,List.setIfInBounds_toArray,List.set_cons_zero,List.set_cons_succ]
  refine WB.takeD (i:=11) (d:=some 75) (v:=?_) rfl (by kernel_rfl) (by kernel_rfl) (by kernel_rfl) (by kernel_rfl) (by kernel_rfl) (fun _ _ _ h=>h) HS.out (Or.inl ⟨by rfl,?_⟩) ?_
  rotate_left
  ·(rintro w ⟨s0,s1,s2,s3,s4,s5,s6,s7,s8,s9,s10,s11,s12,s13,s14,s15,s16,s17,s18,s19,s20,s21,s22,s23,s24,s25,s26,s27,s28,s29,s30⟩;go_simp;try with_reducible rfl)
  try simp only [Act.put,List.setIfInBounds_toArray,List.set_cons_zero,List.set_cons_succ]
  refine WB.takeD (i:=12) (d:=some 76) (v:=?_) rfl (by kernel_rfl) (by kernel_rfl) (by kernel_rfl) (by kernel_rfl) (by kernel_rfl) (fun _ _ _ h=>h) HS.out (Or.inl ⟨by rfl,?_⟩) ?_
  rotate_left
  ·(rintro w ⟨s0,s1,s2,s3,s4,s5,s6,s7,s8,s9,s10,s11,s12,s13,s14,s15,s16,s17,s18,s19,s20,s21,s22,s23,s24,s25,s26,s27,s28,s29,s30⟩;go_simp;try with_reducible rfl)
  try simp only [Act.put,List.setIfInBounds_toArray,List.set_cons_zero,List.set_cons_succ]
  refine WB.takePD (i:=13) (d:=some 77) (v:=?_) rfl (by kernel_rfl) (by kernel_rfl) (by kernel_rfl) (by kernel_rfl) (by kernel_rfl) (fun _ _ _ h=>h) HS.out (Or.inl ⟨by rfl,?_⟩) ?_
  rotate_left
  ·(rintro w -;go_simp;try with_reducible rfl)
  try simp only [Act.put,List.setIfInBounds_toArray,List.set_cons_zero,List.set_cons_succ]
  refine WB.takePD (i:=14) (d:=some 78) (v:=?_) rfl (by kernel_rfl) (by kernel_rfl) (by kernel_rfl) (by kernel_rfl) (by kernel_rfl) (fun _ _ _ h=>h) HS.out (Or.inl ⟨by rfl,?_⟩) ?_
  rotate_left
  ·(rintro w -;go_simp;try with_reducible rfl)
  try simp only [Act.put,List.setIfInBounds_toArray,List.set_cons_zero,List.set_cons_succ]
  refine WB.takePD (i:=15) (d:=some 79) (v:=?_) rfl (by kernel_rfl) (by kernel_rfl) (by kernel_rfl) (by kernel_rfl) (by kernel_rfl) (fun _ _ _ h=>h) HS.out (Or.inl ⟨by rfl,?_⟩) ?_
  rotate_left
  ·(rintro w -;go_simp;try with_reducible rfl)
  try simp only [Act.put,List.setIfInBounds_toArray,List.set_cons_zero,List.set_cons_succ]
  clear hu1 hu2 hwx
  refine WB.takePD (i:=16) (d:=some 80) (v:=?_) rfl (by kernel_rfl) (by kernel_rfl) (by kernel_rfl) (by kernel_rfl) (by kernel_rfl) (fun _ _ _ h=>h) HS.out (Or.inl ⟨by rfl,?_⟩) ?_
  rotate_left
  ·(rintro w -;go_simp;try with_reducible rfl)
  try simp only [Act.put,List.setIfInBounds_toArray,List.set_cons_zero,List.set_cons_succ]
  refine WB.takeD (i:=17) (d:=some 81) (v:=?_) rfl (by kernel_rfl) (by kernel_rfl) (by kernel_rfl) (by kernel_rfl) (by kernel_rfl) (fun _ _ _ h=>h) HS.out (Or.inl ⟨by rfl,?_⟩) ?_
  rotate_left
  ·(rintro w ⟨s0,s1,s2,s3,s4,s5,s6,s7,s8,s9,s10,s11,s12,s13,s14,s15,s16,s17,s18,s19,s20,s21,s22,s23,s24,s25,s26,s27,s28,s29,s30⟩;go_simp;try with_reducible rfl)
  try simp only [Act.put,List.setIfInBounds_toArray,List.set_cons_zero,List.set_cons_succ]
  refine WB.takePD (i:=18) (d:=some 82) (v:=?_) rfl (by kernel_rfl) (by kernel_rfl) (by kernel_rfl) (by kernel_rfl) (by kernel_rfl) (fun _ _ _ h=>h) HS.out (Or.inl ⟨by rfl,?_⟩) ?_
  rotate_left
  ·(rintro w -;go_simp;try with_reducible rfl)
  try simp only [Act.put,List.setIfInBounds_toArray,List.set_cons_zero,List.set_cons_succ]
  refine WB.takeD (i:=19) (d:=some 83) (v:=?_) rfl (by kernel_rfl) (by kernel_rfl) (by kernel_rfl) (by kernel_rfl) (by kernel_rfl) (fun _ _ _ h=>h) HS.out (Or.inl ⟨by rfl,?_⟩) ?_
  rotate_left
  ·(rintro w ⟨s0,s1,s2,s3,s4,s5,s6,s7,s8,s9,s10,s11,s12,s13,s14,s15,s16,s17,s18,s19,s20,s21,s22,s23,s24,s25,s26,s27,s28,s29,s30⟩;go_simp;try with_reducible rfl)
  try simp only [Act.put,List.setIfInBounds_toArray,List.set_cons_zero,List.set_cons_succ]
  have HC:=Lib.hid (lpBegins_c A2 n2 c.wait (some ⟨eb,eo,none⟩) k2 x.wait wd HC2_d.out HX2_d.out (by omega) HTK.out)
  refine WB.one (i:=20) (by kernel_rfl) rfl (fun K hK=>?_)
  have HKK:=Lib.hid hK
  clear hK
  go_simp
  refine HC.out.mono ?_
  rintro e wf ⟨rfl,m9,hmf⟩
  have hbf:Ext wd wf:=by rw [hmf];exact Ext.drewN (Below.refl _ _) _
  clear hmf
  have HE_f:=Lib.hid (HE_d.out.trans ((hbf).mono HE_d.out.size));have hs_f:=HE_f.out.size
  have HT_f:=Lib.hid (HT_d.out.below hbf htp_d);have htp_f:=HT_f.out.pos
  have HVC_f:=Lib.hid (HVC_d.out.ext hbf)
  have HBC_f:=Lib.hid (((hbf).block _ (blk_lt HBC_d.out)).trans HBC_d.out)
  have HBO_f:=Lib.hid (((hbf).block _ (blk_lt HBO_d.out)).trans HBO_d.out)
  have HWW_f:=Lib.hid (HWW_d.out.ext hbf)
  have HBW_f:=Lib.hid (((hbf).block _ (blk_lt HBW_d.out)).trans HBW_d.out)
  have HWX_f:=Lib.hid (HWX_d.out.ext hbf)
  have HBX_f:=Lib.hid (((hbf).block _ (blk_lt HBX_d.out)).trans HBX_d.out)
  have HBE_f:=Lib.hid (((hbf).block _ (blk_lt HBE_d.out)).trans HBE_d.out)
  have HX1_f:=Lib.hid (HX1_d.out.ext hbf)
  have HX2_f:=Lib.hid (HX2_d.out.ext hbf)
  have HC1_f:=Lib.hid (HC1_d.out.ext hbf)
  have HC2_f:=Lib.hid (HC2_d.out.ext hbf)
  clear HE_d HT_d HVC_d HBC_d HBO_d HWW_d HBW_d HWX_d HBX_d HBE_d HX1_d HX2_d HC1_d HC2_d
  have HEN_f:Hid (wf.cell? ⟨eb,eo+c.wait.length*7,none⟩=some (.int .i64 c.who)∧wf.cell? ⟨eb,eo+c.wait.length*7+1,none⟩=some (.int .i64 (c.done+(c.wait.length:Int)+1))∧wf.cell? ⟨eb,eo+c.wait.length*7+2,none⟩=some (.int .i64 o.kind)∧wf.cell? ⟨eb,eo+c.wait.length*7+3,none⟩=some (.int .i64 o.id)∧wf.cell? ⟨eb,eo+c.wait.length*7+4,none⟩=some (.int .i64 o.up)∧wf.cell? ⟨eb,eo+c.wait.length*7+5,none⟩=some (.int .i64 o.pos)∧wf.cell? ⟨eb,eo+c.wait.length*7+6,none⟩=some (.string o.text)):=by
   obtain ⟨hq0,hq1,hq2,hq3,hq4,hq5,hq6⟩:=HEN.out
   obtain ⟨hc9,-⟩:=bcell hbf
   exact ⟨(hc9 _ _ hebl).trans hq0,(hc9 _ _ hebl).trans hq1,(hc9 _ _ hebl).trans hq2,(hc9 _ _ hebl).trans hq3,(hc9 _ _ hebl).trans hq4,(hc9 _ _ hebl).trans hq5,(hc9 _ _ hebl).trans hq6⟩
  have hebl9:eb<wf.heap.size:=Nat.lt_of_lt_of_le hebl hbf.size
  clear hebl HEN
  have hebl:=hebl9
  have HEN:=HEN_f
  clear HEN_f hebl9
  clear hbf HS HC
  have HSf:Hid (wf.cell? ⟨w5.heap.size,0,none⟩=some (.int .i64 x.who)∧wf.cell? ⟨w5.heap.size,1,none⟩=some (.int .i64 x.seen)∧wf.cell? ⟨w5.heap.size,2,none⟩=some (.slice D1 x.base.length k1)∧wf.cell? ⟨w5.heap.size,3,none⟩=some (.slice (some ⟨eb,eo,none⟩) x.wait.length k2)∧wf.cell? ⟨w5.heap.size,4,none⟩=some (.int .i64 x.done)∧wf.cell? ⟨w5.heap.size,5,none⟩=some (.int .i64 x.made)∧wf.cell? ⟨w1.heap.size,0,none⟩=some (.int .i64 c.who)∧wf.cell? ⟨w1.heap.size,1,none⟩=some (.int .i64 c.seen)∧wf.cell? ⟨w1.heap.size,2,none⟩=some (.slice A1 c.base.length n1)∧wf.cell? ⟨w1.heap.size,3,none⟩=some (.slice A2 c.wait.length n2)∧wf.cell? ⟨w1.heap.size,4,none⟩=some (.int .i64 c.done)∧wf.cell? ⟨w1.heap.size,5,none⟩=some (.int .i64 c.made)∧wf.cell? ⟨w1.heap.size+1,0,none⟩=some (.int .i64 o.kind)∧wf.cell? ⟨w1.heap.size+1,1,none⟩=some (.int .i64 o.id)∧wf.cell? ⟨w1.heap.size+1,2,none⟩=some (.int .i64 o.up)∧wf.cell? ⟨w1.heap.size+1,3,none⟩=some (.int .i64 o.pos)∧wf.cell? ⟨w1.heap.size+1,4,none⟩=some (.string o.text)∧wf.cell? ⟨w7.heap.size,0,none⟩=some (.int .i64 c.who)∧wf.cell? ⟨w7.heap.size,1,none⟩=some (.int .i64 (c.done+(c.wait.length:Int)+1))∧wf.cell? ⟨w7.heap.size,2,none⟩=some (.int .i64 o.kind)∧wf.cell? ⟨w7.heap.size,3,none⟩=some (.int .i64 o.id)∧wf.cell? ⟨w7.heap.size,4,none⟩=some (.int .i64 o.up)∧wf.cell? ⟨w7.heap.size,5,none⟩=some (.int .i64 o.pos)∧wf.cell? ⟨w7.heap.size,6,none⟩=some (.string o.text)∧wf.cell? ⟨eb,eo+c.wait.length*7,none⟩=some (.int .i64 c.who)∧wf.cell? ⟨eb,eo+c.wait.length*7+1,none⟩=some (.int .i64 (c.done+(c.wait.length:Int)+1))∧wf.cell? ⟨eb,eo+c.wait.length*7+2,none⟩=some (.int .i64 o.kind)∧wf.cell? ⟨eb,eo+c.wait.length*7+3,none⟩=some (.int .i64 o.id)∧wf.cell? ⟨eb,eo+c.wait.length*7+4,none⟩=some (.int .i64 o.up)∧wf.cell? ⟨eb,eo+c.wait.length*7+5,none⟩=some (.int .i64 o.pos)∧wf.cell? ⟨eb,eo+c.wait.length*7+6,none⟩=some (.string o.text)):=Lib.hid ⟨(six_cells HBX_f.out).1,(six_cells HBX_f.out).2.1,(six_cells HBX_f.out).2.2.1,(six_cells HBX_f.out).2.2.2.1,(six_cells HBX_f.out).2.2.2.2.1,(six_cells HBX_f.out).2.2.2.2.2.1,(six_cells HBC_f.out).1,(six_cells HBC_f.out).2.1,(six_cells HBC_f.out).2.2.1,(six_cells HBC_f.out).2.2.2.1,(six_cells HBC_f.out).2.2.2.2.1,(six_cells HBC_f.out).2.2.2.2.2.1,(five_cells HBO_f.out).1,(five_cells HBO_f.out).2.1,(five_cells HBO_f.out).2.2.1,(five_cells HBO_f.out).2.2.2.1,(five_cells HBO_f.out).2.2.2.2.1,(seven_cells HBE_f.out).1,(seven_cells HBE_f.out).2.1,(seven_cells HBE_f.out).2.2.1,(seven_cells HBE_f.out).2.2.2.1,(seven_cells HBE_f.out).2.2.2.2.1,(seven_cells HBE_f.out).2.2.2.2.2.1,(seven_cells HBE_f.out).2.2.2.2.2.2.1,HEN.out.1,HEN.out.2.1,HEN.out.2.2.1,HEN.out.2.2.2.1,HEN.out.2.2.2.2.1,HEN.out.2.2.2.2.2.1,HEN.out.2.2.2.2.2.2⟩
  refine HKK.out _ _ ⟨fun _=>HSf.out,?_⟩
  clear HKK K
  try simp only [Act.put,List.setIfInBounds_toArray,List.set_cons_zero,List.set_cons_succ]
  refine WB.takePD (i:=21) (d:=some 85) (v:=?_) rfl (by kernel_rfl) (by kernel_rfl) (by kernel_rfl) (by kernel_rfl) (by kernel_rfl) (fun _ _ _ h=>h) HSf.out (Or.inl ⟨by rfl,?_⟩) ?_
  rotate_left
  ·(rintro w -;go_simp;try with_reducible rfl)
  try simp only [Act.put,List.setIfInBounds_toArray,List.set_cons_zero,List.set_cons_succ]
  refine WB.takePD (i:=22) (d:=some 86) (v:=?_) rfl (by kernel_rfl) (by kernel_rfl) (by kernel_rfl) (by kernel_rfl) (by kernel_rfl) (fun _ _ _ h=>h) HSf.out (Or.inl ⟨by rfl,?_⟩) ?_
  rotate_left
  ·(rintro w -;go_simp;try with_reducible rfl)
  try simp only [Act.put,List.setIfInBounds_toArray,List.set_cons_zero,List.set_cons_succ]
  refine WB.takePD (i:=23) (d:=some 87) (v:=?_) rfl (by kernel_rfl) (by kernel_rfl) (by kernel_rfl) (by kernel_rfl) (by kernel_rfl) (fun _ _ _ h=>h) HSf.out (Or.inl ⟨by rfl,?_⟩) ?_
  rotate_left
  ·(rintro w -;go_simp;try with_reducible rfl)
  try simp only [Act.put,List.setIfInBounds_toArray,List.set_cons_zero,List.set_cons_succ]
  refine WB.takeD (i:=24) (d:=some 88) (v:=?_) rfl (by kernel_rfl) (by kernel_rfl) (by kernel_rfl) (by kernel_rfl) (by kernel_rfl) (fun _ _ _ h=>h) HSf.out (Or.inl ⟨by rfl,?_⟩) ?_
  rotate_left
  ·(rintro w ⟨s0,s1,s2,s3,s4,s5,s6,s7,s8,s9,s10,s11,s12,s13,s14,s15,s16,s17,s18,s19,s20,s21,s22,s23,s24,s25,s26,s27,s28,s29,s30⟩;go_simp;try with_reducible rfl)
  try simp only [Act.put,List.setIfInBounds_toArray,List.set_cons_zero,List.set_cons_succ]
  refine WB.takePD (i:=25) (d:=some 89) (v:=?_) rfl (by kernel_rfl) (by kernel_rfl) (by kernel_rfl) (by kernel_rfl) (by kernel_rfl) (fun _ _ _ h=>h) HSf.out (Or.inl ⟨by rfl,?_⟩) ?_
  rotate_left
  ·(rintro w -;go_simp;try with_reducible rfl)
  try simp only [Act.put,List.setIfInBounds_toArray,List.set_cons_zero,List.set_cons_succ]
  refine WB.takeD (i:=26) (d:=some 90) (v:=?_) rfl (by kernel_rfl) (by kernel_rfl) (by kernel_rfl) (by kernel_rfl) (by kernel_rfl) (fun _ _ _ h=>h) HSf.out (Or.inl ⟨by rfl,?_⟩) ?_
  rotate_left
  ·(rintro w ⟨s0,s1,s2,s3,s4,s5,s6,s7,s8,s9,s10,s11,s12,s13,s14,s15,s16,s17,s18,s19,s20,s21,s22,s23,s24,s25,s26,s27,s28,s29,s30⟩;go_simp;try with_reducible rfl)
  try simp only [Act.put,List.setIfInBounds_toArray,List.set_cons_zero,List.set_cons_succ]
  have HC:=Lib.hid (by have h:=lpRows_c D1 k1 x.base A1 n1 c.base wf HX1_f.out HC1_f.out;rw [show decide (x.base=c.base)=true from decide_eq_true HXB.out] at h;exact h)
  refine WB.one (i:=27) (by kernel_rfl) rfl (fun K hK=>?_)
  have HKK:=Lib.hid hK
  clear hK
  go_simp
  refine HC.out.mono ?_
  rintro e wg ⟨rfl,m9,hmg⟩
  have hbg:Ext wf wg:=by rw [hmg];exact Ext.drewN (Below.refl _ _) _
  clear hmg
  have HE_g:=Lib.hid (HE_f.out.trans ((hbg).mono HE_f.out.size));have hs_g:=HE_g.out.size
  have HT_g:=Lib.hid (HT_f.out.below hbg htp_f);have htp_g:=HT_g.out.pos
  have HVC_g:=Lib.hid (HVC_f.out.ext hbg)
  have HBC_g:=Lib.hid (((hbg).block _ (blk_lt HBC_f.out)).trans HBC_f.out)
  have HBO_g:=Lib.hid (((hbg).block _ (blk_lt HBO_f.out)).trans HBO_f.out)
  have HWW_g:=Lib.hid (HWW_f.out.ext hbg)
  have HBW_g:=Lib.hid (((hbg).block _ (blk_lt HBW_f.out)).trans HBW_f.out)
  have HWX_g:=Lib.hid (HWX_f.out.ext hbg)
  have HBX_g:=Lib.hid (((hbg).block _ (blk_lt HBX_f.out)).trans HBX_f.out)
  have HBE_g:=Lib.hid (((hbg).block _ (blk_lt HBE_f.out)).trans HBE_f.out)
  have HX1_g:=Lib.hid (HX1_f.out.ext hbg)
  have HX2_g:=Lib.hid (HX2_f.out.ext hbg)
  have HC1_g:=Lib.hid (HC1_f.out.ext hbg)
  have HC2_g:=Lib.hid (HC2_f.out.ext hbg)
  clear HE_f HT_f HVC_f HBC_f HBO_f HWW_f HBW_f HWX_f HBX_f HBE_f HX1_f HX2_f HC1_f HC2_f
  have HEN_g:Hid (wg.cell? ⟨eb,eo+c.wait.length*7,none⟩=some (.int .i64 c.who)∧wg.cell? ⟨eb,eo+c.wait.length*7+1,none⟩=some (.int .i64 (c.done+(c.wait.length:Int)+1))∧wg.cell? ⟨eb,eo+c.wait.length*7+2,none⟩=some (.int .i64 o.kind)∧wg.cell? ⟨eb,eo+c.wait.length*7+3,none⟩=some (.int .i64 o.id)∧wg.cell? ⟨eb,eo+c.wait.length*7+4,none⟩=some (.int .i64 o.up)∧wg.cell? ⟨eb,eo+c.wait.length*7+5,none⟩=some (.int .i64 o.pos)∧wg.cell? ⟨eb,eo+c.wait.length*7+6,none⟩=some (.string o.text)):=by
   obtain ⟨hq0,hq1,hq2,hq3,hq4,hq5,hq6⟩:=HEN.out
   obtain ⟨hc9,-⟩:=bcell hbg
   exact ⟨(hc9 _ _ hebl).trans hq0,(hc9 _ _ hebl).trans hq1,(hc9 _ _ hebl).trans hq2,(hc9 _ _ hebl).trans hq3,(hc9 _ _ hebl).trans hq4,(hc9 _ _ hebl).trans hq5,(hc9 _ _ hebl).trans hq6⟩
  have hebl9:eb<wg.heap.size:=Nat.lt_of_lt_of_le hebl hbg.size
  clear hebl HEN
  have hebl:=hebl9
  have HEN:=HEN_g
  clear HEN_g hebl9
  clear hbg HSf HC
  have HSg:Hid (wg.cell? ⟨w5.heap.size,0,none⟩=some (.int .i64 x.who)∧wg.cell? ⟨w5.heap.size,1,none⟩=some (.int .i64 x.seen)∧wg.cell? ⟨w5.heap.size,2,none⟩=some (.slice D1 x.base.length k1)∧wg.cell? ⟨w5.heap.size,3,none⟩=some (.slice (some ⟨eb,eo,none⟩) x.wait.length k2)∧wg.cell? ⟨w5.heap.size,4,none⟩=some (.int .i64 x.done)∧wg.cell? ⟨w5.heap.size,5,none⟩=some (.int .i64 x.made)∧wg.cell? ⟨w1.heap.size,0,none⟩=some (.int .i64 c.who)∧wg.cell? ⟨w1.heap.size,1,none⟩=some (.int .i64 c.seen)∧wg.cell? ⟨w1.heap.size,2,none⟩=some (.slice A1 c.base.length n1)∧wg.cell? ⟨w1.heap.size,3,none⟩=some (.slice A2 c.wait.length n2)∧wg.cell? ⟨w1.heap.size,4,none⟩=some (.int .i64 c.done)∧wg.cell? ⟨w1.heap.size,5,none⟩=some (.int .i64 c.made)∧wg.cell? ⟨w1.heap.size+1,0,none⟩=some (.int .i64 o.kind)∧wg.cell? ⟨w1.heap.size+1,1,none⟩=some (.int .i64 o.id)∧wg.cell? ⟨w1.heap.size+1,2,none⟩=some (.int .i64 o.up)∧wg.cell? ⟨w1.heap.size+1,3,none⟩=some (.int .i64 o.pos)∧wg.cell? ⟨w1.heap.size+1,4,none⟩=some (.string o.text)∧wg.cell? ⟨w7.heap.size,0,none⟩=some (.int .i64 c.who)∧wg.cell? ⟨w7.heap.size,1,none⟩=some (.int .i64 (c.done+(c.wait.length:Int)+1))∧wg.cell? ⟨w7.heap.size,2,none⟩=some (.int .i64 o.kind)∧wg.cell? ⟨w7.heap.size,3,none⟩=some (.int .i64 o.id)∧wg.cell? ⟨w7.heap.size,4,none⟩=some (.int .i64 o.up)∧wg.cell? ⟨w7.heap.size,5,none⟩=some (.int .i64 o.pos)∧wg.cell? ⟨w7.heap.size,6,none⟩=some (.string o.text)∧wg.cell? ⟨eb,eo+c.wait.length*7,none⟩=some (.int .i64 c.who)∧wg.cell? ⟨eb,eo+c.wait.length*7+1,none⟩=some (.int .i64 (c.done+(c.wait.length:Int)+1))∧wg.cell? ⟨eb,eo+c.wait.length*7+2,none⟩=some (.int .i64 o.kind)∧wg.cell? ⟨eb,eo+c.wait.length*7+3,none⟩=some (.int .i64 o.id)∧wg.cell? ⟨eb,eo+c.wait.length*7+4,none⟩=some (.int .i64 o.up)∧wg.cell? ⟨eb,eo+c.wait.length*7+5,none⟩=some (.int .i64 o.pos)∧wg.cell? ⟨eb,eo+c.wait.length*7+6,none⟩=some (.string o.text)):=Lib.hid ⟨(six_cells HBX_g.out).1,(six_cells HBX_g.out).2.1,(six_cells HBX_g.out).2.2.1,(six_cells HBX_g.out).2.2.2.1,(six_cells HBX_g.out).2.2.2.2.1,(six_cells HBX_g.out).2.2.2.2.2.1,(six_cells HBC_g.out).1,(six_cells HBC_g.out).2.1,(six_cells HBC_g.out).2.2.1,(six_cells HBC_g.out).2.2.2.1,(six_cells HBC_g.out).2.2.2.2.1,(six_cells HBC_g.out).2.2.2.2.2.1,(five_cells HBO_g.out).1,(five_cells HBO_g.out).2.1,(five_cells HBO_g.out).2.2.1,(five_cells HBO_g.out).2.2.2.1,(five_cells HBO_g.out).2.2.2.2.1,(seven_cells HBE_g.out).1,(seven_cells HBE_g.out).2.1,(seven_cells HBE_g.out).2.2.1,(seven_cells HBE_g.out).2.2.2.1,(seven_cells HBE_g.out).2.2.2.2.1,(seven_cells HBE_g.out).2.2.2.2.2.1,(seven_cells HBE_g.out).2.2.2.2.2.2.1,HEN.out.1,HEN.out.2.1,HEN.out.2.2.1,HEN.out.2.2.2.1,HEN.out.2.2.2.2.1,HEN.out.2.2.2.2.2.1,HEN.out.2.2.2.2.2.2⟩
  refine HKK.out _ _ ⟨fun _=>HSg.out,?_⟩
  clear HKK K
  try simp only [Act.put,List.setIfInBounds_toArray,List.set_cons_zero,List.set_cons_succ]
  refine WB.takePD (i:=28) (d:=some 92) (v:=?_) rfl (by kernel_rfl) (by kernel_rfl) (by kernel_rfl) (by kernel_rfl) (by kernel_rfl) (fun _ _ _ h=>h) HSg.out (Or.inl ⟨by rfl,?_⟩) ?_
  rotate_left
  ·(rintro w -;go_simp;try with_reducible rfl)
  try simp only [Act.put,List.setIfInBounds_toArray,List.set_cons_zero,List.set_cons_succ]
  refine WB.takePD (i:=29) (d:=some 93) (v:=?_) rfl (by kernel_rfl) (by kernel_rfl) (by kernel_rfl) (by kernel_rfl) (by kernel_rfl) (fun _ _ _ h=>h) HSg.out (Or.inl ⟨by rfl,?_⟩) ?_
  rotate_left
  ·(rintro w -;go_simp;try with_reducible rfl)
  try simp only [Act.put,List.setIfInBounds_toArray,List.set_cons_zero,List.set_cons_succ]
  have hsn:=HSN.out
  refine WB.takePD (i:=30) (d:=some 94) (v:=?_) rfl (by kernel_rfl) (by kernel_rfl) (by kernel_rfl) (by kernel_rfl) (by kernel_rfl) (fun _ _ _ h=>h) HSg.out (Or.inl ⟨by rfl,?_⟩) ?_
  rotate_left
  ·(rintro w -;go_simp;try with_reducible rfl)
  try simp only [Act.put,List.setIfInBounds_toArray,List.set_cons_zero,List.set_cons_succ]
  refine WB.takeD (i:=31) (d:=some 95) (v:=?_) rfl (by kernel_rfl) (by kernel_rfl) (by kernel_rfl) (by kernel_rfl) (by kernel_rfl) (fun _ _ _ h=>h) HSg.out (Or.inl ⟨by rfl,?_⟩) ?_
  rotate_left
  ·(rintro w ⟨s0,s1,s2,s3,s4,s5,s6,s7,s8,s9,s10,s11,s12,s13,s14,s15,s16,s17,s18,s19,s20,s21,s22,s23,s24,s25,s26,s27,s28,s29,s30⟩;go_simp;try with_reducible rfl)
  try simp only [Act.put,List.setIfInBounds_toArray,List.set_cons_zero,List.set_cons_succ]
  refine WB.takePD (i:=32) (d:=some 96) (v:=?_) rfl (by kernel_rfl) (by kernel_rfl) (by kernel_rfl) (by kernel_rfl) (by kernel_rfl) (fun _ _ _ h=>h) HSg.out (Or.inl ⟨by rfl,?_⟩) ?_
  rotate_left
  ·(rintro w -;go_simp;try with_reducible rfl)
  try simp only [Act.put,List.setIfInBounds_toArray,List.set_cons_zero,List.set_cons_succ]
  refine WB.takeD (i:=33) (d:=some 97) (v:=?_) rfl (by kernel_rfl) (by kernel_rfl) (by kernel_rfl) (by kernel_rfl) (by kernel_rfl) (fun _ _ _ h=>h) HSg.out (Or.inl ⟨by rfl,?_⟩) ?_
  rotate_left
  ·(rintro w ⟨s0,s1,s2,s3,s4,s5,s6,s7,s8,s9,s10,s11,s12,s13,s14,s15,s16,s17,s18,s19,s20,s21,s22,s23,s24,s25,s26,s27,s28,s29,s30⟩;go_simp;try with_reducible rfl)
  try simp only [Act.put,List.setIfInBounds_toArray,List.set_cons_zero,List.set_cons_succ]
  refine WB.takePD (i:=34) (d:=some 98) (v:=?_) rfl (by kernel_rfl) (by kernel_rfl) (by kernel_rfl) (by kernel_rfl) (by kernel_rfl) (fun _ _ _ h=>h) HSg.out (Or.inl ⟨by rfl,?_⟩) ?_
  rotate_left
  ·(rintro w -;go_simp;try with_reducible rfl)
  try simp only [Act.put,List.setIfInBounds_toArray,List.set_cons_zero,List.set_cons_succ]
  refine WB.takePD (i:=35) (d:=some 99) (v:=?_) rfl (by kernel_rfl) (by kernel_rfl) (by kernel_rfl) (by kernel_rfl) (by kernel_rfl) (fun _ _ _ h=>h) HSg.out (Or.inl ⟨by rfl,?_⟩) ?_
  rotate_left
  ·(rintro w -;go_simp;try with_reducible rfl)
  try simp only [Act.put,List.setIfInBounds_toArray,List.set_cons_zero,List.set_cons_succ]
  clear hsn
  refine WB.takePD (i:=36) (d:=some 100) (v:=?_) rfl (by kernel_rfl) (by kernel_rfl) (by kernel_rfl) (by kernel_rfl) (by kernel_rfl) (fun _ _ _ h=>h) HSg.out (Or.inl ⟨by rfl,?_⟩) ?_
  rotate_left
  ·(rintro w -;go_simp;try with_reducible rfl)
  try simp only [Act.put,List.setIfInBounds_toArray,List.set_cons_zero,List.set_cons_succ]
  refine WB.takeD (i:=37) (d:=some 101) (v:=?_) rfl (by kernel_rfl) (by kernel_rfl) (by kernel_rfl) (by kernel_rfl) (by kernel_rfl) (fun _ _ _ h=>h) HSg.out (Or.inl ⟨by rfl,?_⟩) ?_
  rotate_left
  ·(rintro w ⟨s0,s1,s2,s3,s4,s5,s6,s7,s8,s9,s10,s11,s12,s13,s14,s15,s16,s17,s18,s19,s20,s21,s22,s23,s24,s25,s26,s27,s28,s29,s30⟩;go_simp;try with_reducible rfl)
  try simp only [Act.put,List.setIfInBounds_toArray,List.set_cons_zero,List.set_cons_succ]
  refine WB.takeD (i:=39) (d:=some 103) (v:=?_) rfl (by kernel_rfl) (by kernel_rfl) (by kernel_rfl) (by kernel_rfl) (by kernel_rfl) (fun _ _ _ h=>h) HSg.out (Or.inl ⟨by rfl,?_⟩) ?_
  rotate_left
  ·(rintro w ⟨s0,s1,s2,s3,s4,s5,s6,s7,s8,s9,s10,s11,s12,s13,s14,s15,s16,s17,s18,s19,s20,s21,s22,s23,s24,s25,s26,s27,s28,s29,s30⟩;go_simp;try with_reducible rfl)
  try simp only [Act.put,List.setIfInBounds_toArray,List.set_cons_zero,List.set_cons_succ]
  refine WB.takeD (i:=41) (d:=some 105) (v:=?_) rfl (by kernel_rfl) (by kernel_rfl) (by kernel_rfl) (by kernel_rfl) (by kernel_rfl) (fun _ _ _ h=>h) HSg.out (Or.inl ⟨by rfl,?_⟩) ?_
  rotate_left
  ·(rintro w ⟨s0,s1,s2,s3,s4,s5,s6,s7,s8,s9,s10,s11,s12,s13,s14,s15,s16,s17,s18,s19,s20,s21,s22,s23,s24,s25,s26,s27,s28,s29,s30⟩;go_simp;try with_reducible rfl)
  try simp only [Act.put,List.setIfInBounds_toArray,List.set_cons_zero,List.set_cons_succ]
  have HC:=Lib.hid (clientShow_c x _ wg HT_g.out HWX_g.out)
  refine WB.one (i:=38) (by kernel_rfl) rfl (fun K hK=>?_)
  have HKK:=Lib.hid hK
  clear hK
  go_simp
  refine HC.out.mono ?_
  rintro e wh ⟨v8,rfl,ho8,hbh⟩
  obtain ⟨Y1,yn1,rfl,hr8⟩:=ho8.rd
  have HR1_h:=Lib.hid hr8
  clear hr8 ho8
  have HE_h:=Lib.hid (HE_g.out.trans ((hbh).mono HE_g.out.size));have hs_h:=HE_h.out.size
  have HT_h:=Lib.hid (HT_g.out.below hbh htp_g);have htp_h:=HT_h.out.pos
  have HVC_h:=Lib.hid (HVC_g.out.ext hbh)
  have HBC_h:=Lib.hid (((hbh).block _ (blk_lt HBC_g.out)).trans HBC_g.out)
  have HBO_h:=Lib.hid (((hbh).block _ (blk_lt HBO_g.out)).trans HBO_g.out)
  have HWW_h:=Lib.hid (HWW_g.out.ext hbh)
  have HBW_h:=Lib.hid (((hbh).block _ (blk_lt HBW_g.out)).trans HBW_g.out)
  have HWX_h:=Lib.hid (HWX_g.out.ext hbh)
  have HBX_h:=Lib.hid (((hbh).block _ (blk_lt HBX_g.out)).trans HBX_g.out)
  have HBE_h:=Lib.hid (((hbh).block _ (blk_lt HBE_g.out)).trans HBE_g.out)
  have HX1_h:=Lib.hid (HX1_g.out.ext hbh)
  have HX2_h:=Lib.hid (HX2_g.out.ext hbh)
  have HC1_h:=Lib.hid (HC1_g.out.ext hbh)
  have HC2_h:=Lib.hid (HC2_g.out.ext hbh)
  clear HE_g HT_g HVC_g HBC_g HBO_g HWW_g HBW_g HWX_g HBX_g HBE_g HX1_g HX2_g HC1_g HC2_g
  have HEN_h:Hid (wh.cell? ⟨eb,eo+c.wait.length*7,none⟩=some (.int .i64 c.who)∧wh.cell? ⟨eb,eo+c.wait.length*7+1,none⟩=some (.int .i64 (c.done+(c.wait.length:Int)+1))∧wh.cell? ⟨eb,eo+c.wait.length*7+2,none⟩=some (.int .i64 o.kind)∧wh.cell? ⟨eb,eo+c.wait.length*7+3,none⟩=some (.int .i64 o.id)∧wh.cell? ⟨eb,eo+c.wait.length*7+4,none⟩=some (.int .i64 o.up)∧wh.cell? ⟨eb,eo+c.wait.length*7+5,none⟩=some (.int .i64 o.pos)∧wh.cell? ⟨eb,eo+c.wait.length*7+6,none⟩=some (.string o.text)):=by
   obtain ⟨hq0,hq1,hq2,hq3,hq4,hq5,hq6⟩:=HEN.out
   obtain ⟨hc9,-⟩:=bcell hbh
   exact ⟨(hc9 _ _ hebl).trans hq0,(hc9 _ _ hebl).trans hq1,(hc9 _ _ hebl).trans hq2,(hc9 _ _ hebl).trans hq3,(hc9 _ _ hebl).trans hq4,(hc9 _ _ hebl).trans hq5,(hc9 _ _ hebl).trans hq6⟩
  have hebl9:eb<wh.heap.size:=Nat.lt_of_lt_of_le hebl hbh.size
  clear hebl HEN
  have hebl:=hebl9
  have HEN:=HEN_h
  clear HEN_h hebl9
  clear hbh HSg HC
  have HSh:Hid (wh.cell? ⟨w5.heap.size,0,none⟩=some (.int .i64 x.who)∧wh.cell? ⟨w5.heap.size,1,none⟩=some (.int .i64 x.seen)∧wh.cell? ⟨w5.heap.size,2,none⟩=some (.slice D1 x.base.length k1)∧wh.cell? ⟨w5.heap.size,3,none⟩=some (.slice (some ⟨eb,eo,none⟩) x.wait.length k2)∧wh.cell? ⟨w5.heap.size,4,none⟩=some (.int .i64 x.done)∧wh.cell? ⟨w5.heap.size,5,none⟩=some (.int .i64 x.made)∧wh.cell? ⟨w1.heap.size,0,none⟩=some (.int .i64 c.who)∧wh.cell? ⟨w1.heap.size,1,none⟩=some (.int .i64 c.seen)∧wh.cell? ⟨w1.heap.size,2,none⟩=some (.slice A1 c.base.length n1)∧wh.cell? ⟨w1.heap.size,3,none⟩=some (.slice A2 c.wait.length n2)∧wh.cell? ⟨w1.heap.size,4,none⟩=some (.int .i64 c.done)∧wh.cell? ⟨w1.heap.size,5,none⟩=some (.int .i64 c.made)∧wh.cell? ⟨w1.heap.size+1,0,none⟩=some (.int .i64 o.kind)∧wh.cell? ⟨w1.heap.size+1,1,none⟩=some (.int .i64 o.id)∧wh.cell? ⟨w1.heap.size+1,2,none⟩=some (.int .i64 o.up)∧wh.cell? ⟨w1.heap.size+1,3,none⟩=some (.int .i64 o.pos)∧wh.cell? ⟨w1.heap.size+1,4,none⟩=some (.string o.text)∧wh.cell? ⟨w7.heap.size,0,none⟩=some (.int .i64 c.who)∧wh.cell? ⟨w7.heap.size,1,none⟩=some (.int .i64 (c.done+(c.wait.length:Int)+1))∧wh.cell? ⟨w7.heap.size,2,none⟩=some (.int .i64 o.kind)∧wh.cell? ⟨w7.heap.size,3,none⟩=some (.int .i64 o.id)∧wh.cell? ⟨w7.heap.size,4,none⟩=some (.int .i64 o.up)∧wh.cell? ⟨w7.heap.size,5,none⟩=some (.int .i64 o.pos)∧wh.cell? ⟨w7.heap.size,6,none⟩=some (.string o.text)∧wh.cell? ⟨eb,eo+c.wait.length*7,none⟩=some (.int .i64 c.who)∧wh.cell? ⟨eb,eo+c.wait.length*7+1,none⟩=some (.int .i64 (c.done+(c.wait.length:Int)+1))∧wh.cell? ⟨eb,eo+c.wait.length*7+2,none⟩=some (.int .i64 o.kind)∧wh.cell? ⟨eb,eo+c.wait.length*7+3,none⟩=some (.int .i64 o.id)∧wh.cell? ⟨eb,eo+c.wait.length*7+4,none⟩=some (.int .i64 o.up)∧wh.cell? ⟨eb,eo+c.wait.length*7+5,none⟩=some (.int .i64 o.pos)∧wh.cell? ⟨eb,eo+c.wait.length*7+6,none⟩=some (.string o.text)):=Lib.hid ⟨(six_cells HBX_h.out).1,(six_cells HBX_h.out).2.1,(six_cells HBX_h.out).2.2.1,(six_cells HBX_h.out).2.2.2.1,(six_cells HBX_h.out).2.2.2.2.1,(six_cells HBX_h.out).2.2.2.2.2.1,(six_cells HBC_h.out).1,(six_cells HBC_h.out).2.1,(six_cells HBC_h.out).2.2.1,(six_cells HBC_h.out).2.2.2.1,(six_cells HBC_h.out).2.2.2.2.1,(six_cells HBC_h.out).2.2.2.2.2.1,(five_cells HBO_h.out).1,(five_cells HBO_h.out).2.1,(five_cells HBO_h.out).2.2.1,(five_cells HBO_h.out).2.2.2.1,(five_cells HBO_h.out).2.2.2.2.1,(seven_cells HBE_h.out).1,(seven_cells HBE_h.out).2.1,(seven_cells HBE_h.out).2.2.1,(seven_cells HBE_h.out).2.2.2.1,(seven_cells HBE_h.out).2.2.2.2.1,(seven_cells HBE_h.out).2.2.2.2.2.1,(seven_cells HBE_h.out).2.2.2.2.2.2.1,HEN.out.1,HEN.out.2.1,HEN.out.2.2.1,HEN.out.2.2.2.1,HEN.out.2.2.2.2.1,HEN.out.2.2.2.2.2.1,HEN.out.2.2.2.2.2.2⟩
  refine HKK.out _ _ ⟨fun _=>HSh.out,?_⟩
  clear HKK K
  try simp only [Act.put,List.setIfInBounds_toArray,List.set_cons_zero,List.set_cons_succ]
  have HC:=Lib.hid (clientShow_c c _ wh HT_h.out HVC_h.out)
  refine WB.one (i:=40) (by kernel_rfl) rfl (fun K hK=>?_)
  have HKK:=Lib.hid hK
  clear hK
  go_simp
  refine HC.out.mono ?_
  rintro e wi ⟨v8,rfl,ho8,hbi⟩
  obtain ⟨Y2,yn2,rfl,hr8⟩:=ho8.rd
  have HR2_i:=Lib.hid hr8
  clear hr8 ho8
  have HE_i:=Lib.hid (HE_h.out.trans ((hbi).mono HE_h.out.size));have hs_i:=HE_i.out.size
  have HT_i:=Lib.hid (HT_h.out.below hbi htp_h);have htp_i:=HT_i.out.pos
  have HVC_i:=Lib.hid (HVC_h.out.ext hbi)
  have HBC_i:=Lib.hid (((hbi).block _ (blk_lt HBC_h.out)).trans HBC_h.out)
  have HBO_i:=Lib.hid (((hbi).block _ (blk_lt HBO_h.out)).trans HBO_h.out)
  have HWW_i:=Lib.hid (HWW_h.out.ext hbi)
  have HBW_i:=Lib.hid (((hbi).block _ (blk_lt HBW_h.out)).trans HBW_h.out)
  have HWX_i:=Lib.hid (HWX_h.out.ext hbi)
  have HBX_i:=Lib.hid (((hbi).block _ (blk_lt HBX_h.out)).trans HBX_h.out)
  have HBE_i:=Lib.hid (((hbi).block _ (blk_lt HBE_h.out)).trans HBE_h.out)
  have HX1_i:=Lib.hid (HX1_h.out.ext hbi)
  have HX2_i:=Lib.hid (HX2_h.out.ext hbi)
  have HC1_i:=Lib.hid (HC1_h.out.ext hbi)
  have HC2_i:=Lib.hid (HC2_h.out.ext hbi)
  have HR1_i:=Lib.hid (HR1_h.out.ext hbi)
  clear HE_h HT_h HVC_h HBC_h HBO_h HWW_h HBW_h HWX_h HBX_h HBE_h HX1_h HX2_h HC1_h HC2_h HR1_h
  have HEN_i:Hid (wi.cell? ⟨eb,eo+c.wait.length*7,none⟩=some (.int .i64 c.who)∧wi.cell? ⟨eb,eo+c.wait.length*7+1,none⟩=some (.int .i64 (c.done+(c.wait.length:Int)+1))∧wi.cell? ⟨eb,eo+c.wait.length*7+2,none⟩=some (.int .i64 o.kind)∧wi.cell? ⟨eb,eo+c.wait.length*7+3,none⟩=some (.int .i64 o.id)∧wi.cell? ⟨eb,eo+c.wait.length*7+4,none⟩=some (.int .i64 o.up)∧wi.cell? ⟨eb,eo+c.wait.length*7+5,none⟩=some (.int .i64 o.pos)∧wi.cell? ⟨eb,eo+c.wait.length*7+6,none⟩=some (.string o.text)):=by
   obtain ⟨hq0,hq1,hq2,hq3,hq4,hq5,hq6⟩:=HEN.out
   obtain ⟨hc9,-⟩:=bcell hbi
   exact ⟨(hc9 _ _ hebl).trans hq0,(hc9 _ _ hebl).trans hq1,(hc9 _ _ hebl).trans hq2,(hc9 _ _ hebl).trans hq3,(hc9 _ _ hebl).trans hq4,(hc9 _ _ hebl).trans hq5,(hc9 _ _ hebl).trans hq6⟩
  have hebl9:eb<wi.heap.size:=Nat.lt_of_lt_of_le hebl hbi.size
  clear hebl HEN
  have hebl:=hebl9
  have HEN:=HEN_i
  clear HEN_i hebl9
  clear hbi HSh HC
  have HSi:Hid (wi.cell? ⟨w5.heap.size,0,none⟩=some (.int .i64 x.who)∧wi.cell? ⟨w5.heap.size,1,none⟩=some (.int .i64 x.seen)∧wi.cell? ⟨w5.heap.size,2,none⟩=some (.slice D1 x.base.length k1)∧wi.cell? ⟨w5.heap.size,3,none⟩=some (.slice (some ⟨eb,eo,none⟩) x.wait.length k2)∧wi.cell? ⟨w5.heap.size,4,none⟩=some (.int .i64 x.done)∧wi.cell? ⟨w5.heap.size,5,none⟩=some (.int .i64 x.made)∧wi.cell? ⟨w1.heap.size,0,none⟩=some (.int .i64 c.who)∧wi.cell? ⟨w1.heap.size,1,none⟩=some (.int .i64 c.seen)∧wi.cell? ⟨w1.heap.size,2,none⟩=some (.slice A1 c.base.length n1)∧wi.cell? ⟨w1.heap.size,3,none⟩=some (.slice A2 c.wait.length n2)∧wi.cell? ⟨w1.heap.size,4,none⟩=some (.int .i64 c.done)∧wi.cell? ⟨w1.heap.size,5,none⟩=some (.int .i64 c.made)∧wi.cell? ⟨w1.heap.size+1,0,none⟩=some (.int .i64 o.kind)∧wi.cell? ⟨w1.heap.size+1,1,none⟩=some (.int .i64 o.id)∧wi.cell? ⟨w1.heap.size+1,2,none⟩=some (.int .i64 o.up)∧wi.cell? ⟨w1.heap.size+1,3,none⟩=some (.int .i64 o.pos)∧wi.cell? ⟨w1.heap.size+1,4,none⟩=some (.string o.text)∧wi.cell? ⟨w7.heap.size,0,none⟩=some (.int .i64 c.who)∧wi.cell? ⟨w7.heap.size,1,none⟩=some (.int .i64 (c.done+(c.wait.length:Int)+1))∧wi.cell? ⟨w7.heap.size,2,none⟩=some (.int .i64 o.kind)∧wi.cell? ⟨w7.heap.size,3,none⟩=some (.int .i64 o.id)∧wi.cell? ⟨w7.heap.size,4,none⟩=some (.int .i64 o.up)∧wi.cell? ⟨w7.heap.size,5,none⟩=some (.int .i64 o.pos)∧wi.cell? ⟨w7.heap.size,6,none⟩=some (.string o.text)∧wi.cell? ⟨eb,eo+c.wait.length*7,none⟩=some (.int .i64 c.who)∧wi.cell? ⟨eb,eo+c.wait.length*7+1,none⟩=some (.int .i64 (c.done+(c.wait.length:Int)+1))∧wi.cell? ⟨eb,eo+c.wait.length*7+2,none⟩=some (.int .i64 o.kind)∧wi.cell? ⟨eb,eo+c.wait.length*7+3,none⟩=some (.int .i64 o.id)∧wi.cell? ⟨eb,eo+c.wait.length*7+4,none⟩=some (.int .i64 o.up)∧wi.cell? ⟨eb,eo+c.wait.length*7+5,none⟩=some (.int .i64 o.pos)∧wi.cell? ⟨eb,eo+c.wait.length*7+6,none⟩=some (.string o.text)):=Lib.hid ⟨(six_cells HBX_i.out).1,(six_cells HBX_i.out).2.1,(six_cells HBX_i.out).2.2.1,(six_cells HBX_i.out).2.2.2.1,(six_cells HBX_i.out).2.2.2.2.1,(six_cells HBX_i.out).2.2.2.2.2.1,(six_cells HBC_i.out).1,(six_cells HBC_i.out).2.1,(six_cells HBC_i.out).2.2.1,(six_cells HBC_i.out).2.2.2.1,(six_cells HBC_i.out).2.2.2.2.1,(six_cells HBC_i.out).2.2.2.2.2.1,(five_cells HBO_i.out).1,(five_cells HBO_i.out).2.1,(five_cells HBO_i.out).2.2.1,(five_cells HBO_i.out).2.2.2.1,(five_cells HBO_i.out).2.2.2.2.1,(seven_cells HBE_i.out).1,(seven_cells HBE_i.out).2.1,(seven_cells HBE_i.out).2.2.1,(seven_cells HBE_i.out).2.2.2.1,(seven_cells HBE_i.out).2.2.2.2.1,(seven_cells HBE_i.out).2.2.2.2.2.1,(seven_cells HBE_i.out).2.2.2.2.2.2.1,HEN.out.1,HEN.out.2.1,HEN.out.2.2.1,HEN.out.2.2.2.1,HEN.out.2.2.2.2.1,HEN.out.2.2.2.2.2.1,HEN.out.2.2.2.2.2.2⟩
  refine HKK.out _ _ ⟨fun _=>HSi.out,?_⟩
  clear HKK K
  try simp only [Act.put,List.setIfInBounds_toArray,List.set_cons_zero,List.set_cons_succ]
  have HC:=Lib.hid (opDo_c Y2 yn2 (showL c) o wi HT_i.out HR2_i.out HOP.out.2)
  refine WB.one (i:=42) (by kernel_rfl) rfl (fun K hK=>?_)
  have HKK:=Lib.hid hK
  clear hK
  go_simp
  refine HC.out.mono ?_
  rintro e wj ⟨v8,rfl,ho8,hbj⟩
  rw [←HSH.out] at ho8
  obtain ⟨Y3,yn3,rfl,hr8⟩:=ho8.rd
  have HR3_j:=Lib.hid hr8
  clear hr8 ho8
  have HE_j:=Lib.hid (HE_i.out.trans ((hbj).mono HE_i.out.size));have hs_j:=HE_j.out.size
  have HT_j:=Lib.hid (HT_i.out.below hbj htp_i);have htp_j:=HT_j.out.pos
  have HVC_j:=Lib.hid (HVC_i.out.ext hbj)
  have HBC_j:=Lib.hid (((hbj).block _ (blk_lt HBC_i.out)).trans HBC_i.out)
  have HBO_j:=Lib.hid (((hbj).block _ (blk_lt HBO_i.out)).trans HBO_i.out)
  have HWW_j:=Lib.hid (HWW_i.out.ext hbj)
  have HBW_j:=Lib.hid (((hbj).block _ (blk_lt HBW_i.out)).trans HBW_i.out)
  have HWX_j:=Lib.hid (HWX_i.out.ext hbj)
  have HBX_j:=Lib.hid (((hbj).block _ (blk_lt HBX_i.out)).trans HBX_i.out)
  have HBE_j:=Lib.hid (((hbj).block _ (blk_lt HBE_i.out)).trans HBE_i.out)
  have HX1_j:=Lib.hid (HX1_i.out.ext hbj)
  have HX2_j:=Lib.hid (HX2_i.out.ext hbj)
  have HC1_j:=Lib.hid (HC1_i.out.ext hbj)
  have HC2_j:=Lib.hid (HC2_i.out.ext hbj)
  have HR1_j:=Lib.hid (HR1_i.out.ext hbj)
  have HR2_j:=Lib.hid (HR2_i.out.ext hbj)
  clear HE_i HT_i HVC_i HBC_i HBO_i HWW_i HBW_i HWX_i HBX_i HBE_i HX1_i HX2_i HC1_i HC2_i HR1_i HR2_i
  have HEN_j:Hid (wj.cell? ⟨eb,eo+c.wait.length*7,none⟩=some (.int .i64 c.who)∧wj.cell? ⟨eb,eo+c.wait.length*7+1,none⟩=some (.int .i64 (c.done+(c.wait.length:Int)+1))∧wj.cell? ⟨eb,eo+c.wait.length*7+2,none⟩=some (.int .i64 o.kind)∧wj.cell? ⟨eb,eo+c.wait.length*7+3,none⟩=some (.int .i64 o.id)∧wj.cell? ⟨eb,eo+c.wait.length*7+4,none⟩=some (.int .i64 o.up)∧wj.cell? ⟨eb,eo+c.wait.length*7+5,none⟩=some (.int .i64 o.pos)∧wj.cell? ⟨eb,eo+c.wait.length*7+6,none⟩=some (.string o.text)):=by
   obtain ⟨hq0,hq1,hq2,hq3,hq4,hq5,hq6⟩:=HEN.out
   obtain ⟨hc9,-⟩:=bcell hbj
   exact ⟨(hc9 _ _ hebl).trans hq0,(hc9 _ _ hebl).trans hq1,(hc9 _ _ hebl).trans hq2,(hc9 _ _ hebl).trans hq3,(hc9 _ _ hebl).trans hq4,(hc9 _ _ hebl).trans hq5,(hc9 _ _ hebl).trans hq6⟩
  have hebl9:eb<wj.heap.size:=Nat.lt_of_lt_of_le hebl hbj.size
  clear hebl HEN
  have hebl:=hebl9
  have HEN:=HEN_j
  clear HEN_j hebl9
  clear hbj HSi HC
  have HSj:Hid (wj.cell? ⟨w5.heap.size,0,none⟩=some (.int .i64 x.who)∧wj.cell? ⟨w5.heap.size,1,none⟩=some (.int .i64 x.seen)∧wj.cell? ⟨w5.heap.size,2,none⟩=some (.slice D1 x.base.length k1)∧wj.cell? ⟨w5.heap.size,3,none⟩=some (.slice (some ⟨eb,eo,none⟩) x.wait.length k2)∧wj.cell? ⟨w5.heap.size,4,none⟩=some (.int .i64 x.done)∧wj.cell? ⟨w5.heap.size,5,none⟩=some (.int .i64 x.made)∧wj.cell? ⟨w1.heap.size,0,none⟩=some (.int .i64 c.who)∧wj.cell? ⟨w1.heap.size,1,none⟩=some (.int .i64 c.seen)∧wj.cell? ⟨w1.heap.size,2,none⟩=some (.slice A1 c.base.length n1)∧wj.cell? ⟨w1.heap.size,3,none⟩=some (.slice A2 c.wait.length n2)∧wj.cell? ⟨w1.heap.size,4,none⟩=some (.int .i64 c.done)∧wj.cell? ⟨w1.heap.size,5,none⟩=some (.int .i64 c.made)∧wj.cell? ⟨w1.heap.size+1,0,none⟩=some (.int .i64 o.kind)∧wj.cell? ⟨w1.heap.size+1,1,none⟩=some (.int .i64 o.id)∧wj.cell? ⟨w1.heap.size+1,2,none⟩=some (.int .i64 o.up)∧wj.cell? ⟨w1.heap.size+1,3,none⟩=some (.int .i64 o.pos)∧wj.cell? ⟨w1.heap.size+1,4,none⟩=some (.string o.text)∧wj.cell? ⟨w7.heap.size,0,none⟩=some (.int .i64 c.who)∧wj.cell? ⟨w7.heap.size,1,none⟩=some (.int .i64 (c.done+(c.wait.length:Int)+1))∧wj.cell? ⟨w7.heap.size,2,none⟩=some (.int .i64 o.kind)∧wj.cell? ⟨w7.heap.size,3,none⟩=some (.int .i64 o.id)∧wj.cell? ⟨w7.heap.size,4,none⟩=some (.int .i64 o.up)∧wj.cell? ⟨w7.heap.size,5,none⟩=some (.int .i64 o.pos)∧wj.cell? ⟨w7.heap.size,6,none⟩=some (.string o.text)∧wj.cell? ⟨eb,eo+c.wait.length*7,none⟩=some (.int .i64 c.who)∧wj.cell? ⟨eb,eo+c.wait.length*7+1,none⟩=some (.int .i64 (c.done+(c.wait.length:Int)+1))∧wj.cell? ⟨eb,eo+c.wait.length*7+2,none⟩=some (.int .i64 o.kind)∧wj.cell? ⟨eb,eo+c.wait.length*7+3,none⟩=some (.int .i64 o.id)∧wj.cell? ⟨eb,eo+c.wait.length*7+4,none⟩=some (.int .i64 o.up)∧wj.cell? ⟨eb,eo+c.wait.length*7+5,none⟩=some (.int .i64 o.pos)∧wj.cell? ⟨eb,eo+c.wait.length*7+6,none⟩=some (.string o.text)):=Lib.hid ⟨(six_cells HBX_j.out).1,(six_cells HBX_j.out).2.1,(six_cells HBX_j.out).2.2.1,(six_cells HBX_j.out).2.2.2.1,(six_cells HBX_j.out).2.2.2.2.1,(six_cells HBX_j.out).2.2.2.2.2.1,(six_cells HBC_j.out).1,(six_cells HBC_j.out).2.1,(six_cells HBC_j.out).2.2.1,(six_cells HBC_j.out).2.2.2.1,(six_cells HBC_j.out).2.2.2.2.1,(six_cells HBC_j.out).2.2.2.2.2.1,(five_cells HBO_j.out).1,(five_cells HBO_j.out).2.1,(five_cells HBO_j.out).2.2.1,(five_cells HBO_j.out).2.2.2.1,(five_cells HBO_j.out).2.2.2.2.1,(seven_cells HBE_j.out).1,(seven_cells HBE_j.out).2.1,(seven_cells HBE_j.out).2.2.1,(seven_cells HBE_j.out).2.2.2.1,(seven_cells HBE_j.out).2.2.2.2.1,(seven_cells HBE_j.out).2.2.2.2.2.1,(seven_cells HBE_j.out).2.2.2.2.2.2.1,HEN.out.1,HEN.out.2.1,HEN.out.2.2.1,HEN.out.2.2.2.1,HEN.out.2.2.2.2.1,HEN.out.2.2.2.2.2.1,HEN.out.2.2.2.2.2.2⟩
  refine HKK.out _ _ ⟨fun _=>HSj.out,?_⟩
  clear HKK K
  try simp only [Act.put,List.setIfInBounds_toArray,List.set_cons_zero,List.set_cons_succ]
  have HC:=Lib.hid (by have h:=lpRows_c Y1 yn1 (showL x) Y3 yn3 (showL x) wj HR1_j.out HR3_j.out;rw [show decide (showL x=showL x)=true by simp] at h;exact h)
  refine WB.one (i:=43) (by kernel_rfl) rfl (fun K hK=>?_)
  have HKK:=Lib.hid hK
  clear hK
  go_simp
  refine HC.out.mono ?_
  rintro e wk ⟨rfl,m9,hmk⟩
  have hbk:Ext wj wk:=by rw [hmk];exact Ext.drewN (Below.refl _ _) _
  clear hmk
  have HE_k:=Lib.hid (HE_j.out.trans ((hbk).mono HE_j.out.size));have hs_k:=HE_k.out.size
  have HT_k:=Lib.hid (HT_j.out.below hbk htp_j);have htp_k:=HT_k.out.pos
  have HVC_k:=Lib.hid (HVC_j.out.ext hbk)
  have HBC_k:=Lib.hid (((hbk).block _ (blk_lt HBC_j.out)).trans HBC_j.out)
  have HBO_k:=Lib.hid (((hbk).block _ (blk_lt HBO_j.out)).trans HBO_j.out)
  have HWW_k:=Lib.hid (HWW_j.out.ext hbk)
  have HBW_k:=Lib.hid (((hbk).block _ (blk_lt HBW_j.out)).trans HBW_j.out)
  have HWX_k:=Lib.hid (HWX_j.out.ext hbk)
  have HBX_k:=Lib.hid (((hbk).block _ (blk_lt HBX_j.out)).trans HBX_j.out)
  have HBE_k:=Lib.hid (((hbk).block _ (blk_lt HBE_j.out)).trans HBE_j.out)
  have HX1_k:=Lib.hid (HX1_j.out.ext hbk)
  have HX2_k:=Lib.hid (HX2_j.out.ext hbk)
  have HC1_k:=Lib.hid (HC1_j.out.ext hbk)
  have HC2_k:=Lib.hid (HC2_j.out.ext hbk)
  have HR1_k:=Lib.hid (HR1_j.out.ext hbk)
  have HR2_k:=Lib.hid (HR2_j.out.ext hbk)
  have HR3_k:=Lib.hid (HR3_j.out.ext hbk)
  clear HE_j HT_j HVC_j HBC_j HBO_j HWW_j HBW_j HWX_j HBX_j HBE_j HX1_j HX2_j HC1_j HC2_j HR1_j HR2_j HR3_j
  have HEN_k:Hid (wk.cell? ⟨eb,eo+c.wait.length*7,none⟩=some (.int .i64 c.who)∧wk.cell? ⟨eb,eo+c.wait.length*7+1,none⟩=some (.int .i64 (c.done+(c.wait.length:Int)+1))∧wk.cell? ⟨eb,eo+c.wait.length*7+2,none⟩=some (.int .i64 o.kind)∧wk.cell? ⟨eb,eo+c.wait.length*7+3,none⟩=some (.int .i64 o.id)∧wk.cell? ⟨eb,eo+c.wait.length*7+4,none⟩=some (.int .i64 o.up)∧wk.cell? ⟨eb,eo+c.wait.length*7+5,none⟩=some (.int .i64 o.pos)∧wk.cell? ⟨eb,eo+c.wait.length*7+6,none⟩=some (.string o.text)):=by
   obtain ⟨hq0,hq1,hq2,hq3,hq4,hq5,hq6⟩:=HEN.out
   obtain ⟨hc9,-⟩:=bcell hbk
   exact ⟨(hc9 _ _ hebl).trans hq0,(hc9 _ _ hebl).trans hq1,(hc9 _ _ hebl).trans hq2,(hc9 _ _ hebl).trans hq3,(hc9 _ _ hebl).trans hq4,(hc9 _ _ hebl).trans hq5,(hc9 _ _ hebl).trans hq6⟩
  have hebl9:eb<wk.heap.size:=Nat.lt_of_lt_of_le hebl hbk.size
  clear hebl HEN
  have hebl:=hebl9
  have HEN:=HEN_k
  clear HEN_k hebl9
  clear hbk HSj HC
  have HSk:Hid (wk.cell? ⟨w5.heap.size,0,none⟩=some (.int .i64 x.who)∧wk.cell? ⟨w5.heap.size,1,none⟩=some (.int .i64 x.seen)∧wk.cell? ⟨w5.heap.size,2,none⟩=some (.slice D1 x.base.length k1)∧wk.cell? ⟨w5.heap.size,3,none⟩=some (.slice (some ⟨eb,eo,none⟩) x.wait.length k2)∧wk.cell? ⟨w5.heap.size,4,none⟩=some (.int .i64 x.done)∧wk.cell? ⟨w5.heap.size,5,none⟩=some (.int .i64 x.made)∧wk.cell? ⟨w1.heap.size,0,none⟩=some (.int .i64 c.who)∧wk.cell? ⟨w1.heap.size,1,none⟩=some (.int .i64 c.seen)∧wk.cell? ⟨w1.heap.size,2,none⟩=some (.slice A1 c.base.length n1)∧wk.cell? ⟨w1.heap.size,3,none⟩=some (.slice A2 c.wait.length n2)∧wk.cell? ⟨w1.heap.size,4,none⟩=some (.int .i64 c.done)∧wk.cell? ⟨w1.heap.size,5,none⟩=some (.int .i64 c.made)∧wk.cell? ⟨w1.heap.size+1,0,none⟩=some (.int .i64 o.kind)∧wk.cell? ⟨w1.heap.size+1,1,none⟩=some (.int .i64 o.id)∧wk.cell? ⟨w1.heap.size+1,2,none⟩=some (.int .i64 o.up)∧wk.cell? ⟨w1.heap.size+1,3,none⟩=some (.int .i64 o.pos)∧wk.cell? ⟨w1.heap.size+1,4,none⟩=some (.string o.text)∧wk.cell? ⟨w7.heap.size,0,none⟩=some (.int .i64 c.who)∧wk.cell? ⟨w7.heap.size,1,none⟩=some (.int .i64 (c.done+(c.wait.length:Int)+1))∧wk.cell? ⟨w7.heap.size,2,none⟩=some (.int .i64 o.kind)∧wk.cell? ⟨w7.heap.size,3,none⟩=some (.int .i64 o.id)∧wk.cell? ⟨w7.heap.size,4,none⟩=some (.int .i64 o.up)∧wk.cell? ⟨w7.heap.size,5,none⟩=some (.int .i64 o.pos)∧wk.cell? ⟨w7.heap.size,6,none⟩=some (.string o.text)∧wk.cell? ⟨eb,eo+c.wait.length*7,none⟩=some (.int .i64 c.who)∧wk.cell? ⟨eb,eo+c.wait.length*7+1,none⟩=some (.int .i64 (c.done+(c.wait.length:Int)+1))∧wk.cell? ⟨eb,eo+c.wait.length*7+2,none⟩=some (.int .i64 o.kind)∧wk.cell? ⟨eb,eo+c.wait.length*7+3,none⟩=some (.int .i64 o.id)∧wk.cell? ⟨eb,eo+c.wait.length*7+4,none⟩=some (.int .i64 o.up)∧wk.cell? ⟨eb,eo+c.wait.length*7+5,none⟩=some (.int .i64 o.pos)∧wk.cell? ⟨eb,eo+c.wait.length*7+6,none⟩=some (.string o.text)):=Lib.hid ⟨(six_cells HBX_k.out).1,(six_cells HBX_k.out).2.1,(six_cells HBX_k.out).2.2.1,(six_cells HBX_k.out).2.2.2.1,(six_cells HBX_k.out).2.2.2.2.1,(six_cells HBX_k.out).2.2.2.2.2.1,(six_cells HBC_k.out).1,(six_cells HBC_k.out).2.1,(six_cells HBC_k.out).2.2.1,(six_cells HBC_k.out).2.2.2.1,(six_cells HBC_k.out).2.2.2.2.1,(six_cells HBC_k.out).2.2.2.2.2.1,(five_cells HBO_k.out).1,(five_cells HBO_k.out).2.1,(five_cells HBO_k.out).2.2.1,(five_cells HBO_k.out).2.2.2.1,(five_cells HBO_k.out).2.2.2.2.1,(seven_cells HBE_k.out).1,(seven_cells HBE_k.out).2.1,(seven_cells HBE_k.out).2.2.1,(seven_cells HBE_k.out).2.2.2.1,(seven_cells HBE_k.out).2.2.2.2.1,(seven_cells HBE_k.out).2.2.2.2.2.1,(seven_cells HBE_k.out).2.2.2.2.2.2.1,HEN.out.1,HEN.out.2.1,HEN.out.2.2.1,HEN.out.2.2.2.1,HEN.out.2.2.2.2.1,HEN.out.2.2.2.2.2.1,HEN.out.2.2.2.2.2.2⟩
  refine HKK.out _ _ ⟨fun _=>HSk.out,?_⟩
  clear HKK K
  try simp only [Act.put,List.setIfInBounds_toArray,List.set_cons_zero,List.set_cons_succ]
  refine WB.takePD (i:=44) (d:=some 108) (v:=?_) rfl (by kernel_rfl) (by kernel_rfl) (by kernel_rfl) (by kernel_rfl) (by kernel_rfl) (fun _ _ _ h=>h) HSk.out (Or.inl ⟨by rfl,?_⟩) ?_
  rotate_left
  ·(rintro w -;go_simp;try with_reducible rfl)
  try simp only [Act.put,List.setIfInBounds_toArray,List.set_cons_zero,List.set_cons_succ]
  refine WB.takePD (i:=45) (d:=some 109) (v:=?_) rfl (by kernel_rfl) (by kernel_rfl) (by kernel_rfl) (by kernel_rfl) (by kernel_rfl) (fun _ _ _ h=>h) HSk.out (Or.inl ⟨by rfl,?_⟩) ?_
  rotate_left
  ·(rintro w -;go_simp;try with_reducible rfl)
  try simp only [Act.put,List.setIfInBounds_toArray,List.set_cons_zero,List.set_cons_succ]
  refine WB.takeD (i:=46) (d:=some 110) (v:=?_) rfl (by kernel_rfl) (by kernel_rfl) (by kernel_rfl) (by kernel_rfl) (by kernel_rfl) (fun _ _ _ h=>h) HSk.out (Or.inl ⟨by rfl,?_⟩) ?_
  rotate_left
  ·(rintro w ⟨s0,s1,s2,s3,s4,s5,s6,s7,s8,s9,s10,s11,s12,s13,s14,s15,s16,s17,s18,s19,s20,s21,s22,s23,s24,s25,s26,s27,s28,s29,s30⟩;go_simp;try with_reducible rfl)
  try simp only [Act.put,List.setIfInBounds_toArray,List.set_cons_zero,List.set_cons_succ]
  have HC:=Lib.hid (by have h:=clientOk_c x _ wk HT_k.out HWX_k.out;rw [HOK.out] at h;exact h)
  refine WB.one (i:=47) (by kernel_rfl) rfl (fun K hK=>?_)
  have HKK:=Lib.hid hK
  clear hK
  go_simp
  refine HC.out.mono ?_
  rintro e wl ⟨rfl,hbl⟩
  have HE_l:=Lib.hid (HE_k.out.trans ((hbl).mono HE_k.out.size));have hs_l:=HE_l.out.size
  have HT_l:=Lib.hid (HT_k.out.below hbl htp_k);have htp_l:=HT_l.out.pos
  have HVC_l:=Lib.hid (HVC_k.out.ext hbl)
  have HBC_l:=Lib.hid (((hbl).block _ (blk_lt HBC_k.out)).trans HBC_k.out)
  have HBO_l:=Lib.hid (((hbl).block _ (blk_lt HBO_k.out)).trans HBO_k.out)
  have HWW_l:=Lib.hid (HWW_k.out.ext hbl)
  have HBW_l:=Lib.hid (((hbl).block _ (blk_lt HBW_k.out)).trans HBW_k.out)
  have HWX_l:=Lib.hid (HWX_k.out.ext hbl)
  have HBX_l:=Lib.hid (((hbl).block _ (blk_lt HBX_k.out)).trans HBX_k.out)
  have HBE_l:=Lib.hid (((hbl).block _ (blk_lt HBE_k.out)).trans HBE_k.out)
  have HX1_l:=Lib.hid (HX1_k.out.ext hbl)
  have HX2_l:=Lib.hid (HX2_k.out.ext hbl)
  have HC1_l:=Lib.hid (HC1_k.out.ext hbl)
  have HC2_l:=Lib.hid (HC2_k.out.ext hbl)
  have HR1_l:=Lib.hid (HR1_k.out.ext hbl)
  have HR2_l:=Lib.hid (HR2_k.out.ext hbl)
  have HR3_l:=Lib.hid (HR3_k.out.ext hbl)
  clear HE_k HT_k HVC_k HBC_k HBO_k HWW_k HBW_k HWX_k HBX_k HBE_k HX1_k HX2_k HC1_k HC2_k HR1_k HR2_k HR3_k
  have HEN_l:Hid (wl.cell? ⟨eb,eo+c.wait.length*7,none⟩=some (.int .i64 c.who)∧wl.cell? ⟨eb,eo+c.wait.length*7+1,none⟩=some (.int .i64 (c.done+(c.wait.length:Int)+1))∧wl.cell? ⟨eb,eo+c.wait.length*7+2,none⟩=some (.int .i64 o.kind)∧wl.cell? ⟨eb,eo+c.wait.length*7+3,none⟩=some (.int .i64 o.id)∧wl.cell? ⟨eb,eo+c.wait.length*7+4,none⟩=some (.int .i64 o.up)∧wl.cell? ⟨eb,eo+c.wait.length*7+5,none⟩=some (.int .i64 o.pos)∧wl.cell? ⟨eb,eo+c.wait.length*7+6,none⟩=some (.string o.text)):=by
   obtain ⟨hq0,hq1,hq2,hq3,hq4,hq5,hq6⟩:=HEN.out
   obtain ⟨hc9,-⟩:=bcell hbl
   exact ⟨(hc9 _ _ hebl).trans hq0,(hc9 _ _ hebl).trans hq1,(hc9 _ _ hebl).trans hq2,(hc9 _ _ hebl).trans hq3,(hc9 _ _ hebl).trans hq4,(hc9 _ _ hebl).trans hq5,(hc9 _ _ hebl).trans hq6⟩
  have hebl9:eb<wl.heap.size:=Nat.lt_of_lt_of_le hebl hbl.size
  clear hebl HEN
  have hebl:=hebl9
  have HEN:=HEN_l
  clear HEN_l hebl9
  clear hbl HSk HC
  have HSl:Hid (wl.cell? ⟨w5.heap.size,0,none⟩=some (.int .i64 x.who)∧wl.cell? ⟨w5.heap.size,1,none⟩=some (.int .i64 x.seen)∧wl.cell? ⟨w5.heap.size,2,none⟩=some (.slice D1 x.base.length k1)∧wl.cell? ⟨w5.heap.size,3,none⟩=some (.slice (some ⟨eb,eo,none⟩) x.wait.length k2)∧wl.cell? ⟨w5.heap.size,4,none⟩=some (.int .i64 x.done)∧wl.cell? ⟨w5.heap.size,5,none⟩=some (.int .i64 x.made)∧wl.cell? ⟨w1.heap.size,0,none⟩=some (.int .i64 c.who)∧wl.cell? ⟨w1.heap.size,1,none⟩=some (.int .i64 c.seen)∧wl.cell? ⟨w1.heap.size,2,none⟩=some (.slice A1 c.base.length n1)∧wl.cell? ⟨w1.heap.size,3,none⟩=some (.slice A2 c.wait.length n2)∧wl.cell? ⟨w1.heap.size,4,none⟩=some (.int .i64 c.done)∧wl.cell? ⟨w1.heap.size,5,none⟩=some (.int .i64 c.made)∧wl.cell? ⟨w1.heap.size+1,0,none⟩=some (.int .i64 o.kind)∧wl.cell? ⟨w1.heap.size+1,1,none⟩=some (.int .i64 o.id)∧wl.cell? ⟨w1.heap.size+1,2,none⟩=some (.int .i64 o.up)∧wl.cell? ⟨w1.heap.size+1,3,none⟩=some (.int .i64 o.pos)∧wl.cell? ⟨w1.heap.size+1,4,none⟩=some (.string o.text)∧wl.cell? ⟨w7.heap.size,0,none⟩=some (.int .i64 c.who)∧wl.cell? ⟨w7.heap.size,1,none⟩=some (.int .i64 (c.done+(c.wait.length:Int)+1))∧wl.cell? ⟨w7.heap.size,2,none⟩=some (.int .i64 o.kind)∧wl.cell? ⟨w7.heap.size,3,none⟩=some (.int .i64 o.id)∧wl.cell? ⟨w7.heap.size,4,none⟩=some (.int .i64 o.up)∧wl.cell? ⟨w7.heap.size,5,none⟩=some (.int .i64 o.pos)∧wl.cell? ⟨w7.heap.size,6,none⟩=some (.string o.text)∧wl.cell? ⟨eb,eo+c.wait.length*7,none⟩=some (.int .i64 c.who)∧wl.cell? ⟨eb,eo+c.wait.length*7+1,none⟩=some (.int .i64 (c.done+(c.wait.length:Int)+1))∧wl.cell? ⟨eb,eo+c.wait.length*7+2,none⟩=some (.int .i64 o.kind)∧wl.cell? ⟨eb,eo+c.wait.length*7+3,none⟩=some (.int .i64 o.id)∧wl.cell? ⟨eb,eo+c.wait.length*7+4,none⟩=some (.int .i64 o.up)∧wl.cell? ⟨eb,eo+c.wait.length*7+5,none⟩=some (.int .i64 o.pos)∧wl.cell? ⟨eb,eo+c.wait.length*7+6,none⟩=some (.string o.text)):=Lib.hid ⟨(six_cells HBX_l.out).1,(six_cells HBX_l.out).2.1,(six_cells HBX_l.out).2.2.1,(six_cells HBX_l.out).2.2.2.1,(six_cells HBX_l.out).2.2.2.2.1,(six_cells HBX_l.out).2.2.2.2.2.1,(six_cells HBC_l.out).1,(six_cells HBC_l.out).2.1,(six_cells HBC_l.out).2.2.1,(six_cells HBC_l.out).2.2.2.1,(six_cells HBC_l.out).2.2.2.2.1,(six_cells HBC_l.out).2.2.2.2.2.1,(five_cells HBO_l.out).1,(five_cells HBO_l.out).2.1,(five_cells HBO_l.out).2.2.1,(five_cells HBO_l.out).2.2.2.1,(five_cells HBO_l.out).2.2.2.2.1,(seven_cells HBE_l.out).1,(seven_cells HBE_l.out).2.1,(seven_cells HBE_l.out).2.2.1,(seven_cells HBE_l.out).2.2.2.1,(seven_cells HBE_l.out).2.2.2.2.1,(seven_cells HBE_l.out).2.2.2.2.2.1,(seven_cells HBE_l.out).2.2.2.2.2.2.1,HEN.out.1,HEN.out.2.1,HEN.out.2.2.1,HEN.out.2.2.2.1,HEN.out.2.2.2.2.1,HEN.out.2.2.2.2.2.1,HEN.out.2.2.2.2.2.2⟩
  refine HKK.out _ _ ⟨fun _=>HSl.out,?_⟩
  clear HKK K
  try simp only [Act.put,List.setIfInBounds_toArray,List.set_cons_zero,List.set_cons_succ]
  refine WB.takePD (i:=48) (d:=some 112) (v:=?_) rfl (by kernel_rfl) (by kernel_rfl) (by kernel_rfl) (by kernel_rfl) (by kernel_rfl) (fun _ _ _ h=>h) HSl.out (Or.inl ⟨by rfl,?_⟩) ?_
  rotate_left
  ·(rintro w -;go_simp;try with_reducible rfl)
  try simp only [Act.put,List.setIfInBounds_toArray,List.set_cons_zero,List.set_cons_succ]
  refine WB.one (i:=49) (by kernel_rfl) rfl (fun K hK=>?_)
  have HKK:=Lib.hid hK
  clear hK
  go_simp
  refine HKK.out _ _ ⟨fun h=>(no_late h (by kernel_rfl)).elim,?_⟩
  clear HKK K
  try simp only [Act.put,List.setIfInBounds_toArray,List.set_cons_zero,List.set_cons_succ]
  refine WB.done (by kernel_rfl) ?_
  go_wp2_with fail
  go_ret
  exact ⟨rfl,HE_l.out⟩
end Go.Proofs.YtecmcjfdaipfcaaGreatDoor
namespace Go.Proofs.YtecmcjfdaipfcaaGreatDoor.fnClientDo
open Go.RowKit Go.ChangeShapes Go.WideShapes Go.ChangeAt
set_option maxRecDepth 100000 in
theorem contract (H:Type) (enc:TypeId × Value→H) (W:World) (base:Nat) (args:Array Value) (ds gs:List (DataW H)) (before:List MemPlace)
  (hval:∀ (j:Nat) t v,Tryz.f3.params[j]?=some t→args[j]?=some v→Value.okWide Tryz.prog W .any base t v)
  (hW:DataW.Whole enc Tryz.prog Tryz.f3.params.toList Rows.fnClientDoSpec.vars false W args.toList ds gs before) (hL:laidMetH Tryz.prog Rows.fnClientDoRow.laid W) :
  Calls Tryz.prog 3 args W fun e W'=>∃ v,e=.returned v∧Rows.fnClientDoSpec.post enc Tryz.prog Tryz.f3 false true false false W args v W':=by
 have hW':=hW
 obtain ⟨p,q,hA0,hV,rfl,hfz,hnd⟩:=hW
 have hA:DataW.TrodAll enc Tryz.prog W 0 (fun _=>true) true Tryz.f3.params.toList args.toList ds p:=hA0
 rw [Tryz.params3] at hA hval
 obtain ⟨v0,vs0,d0,ds0,p0,q0,hargs,rfl,rfl,h0,r0⟩:=trodAll_cons hA
 obtain ⟨rfl,rfl,rfl⟩:=trodAll_nil r0
 obtain rfl:args=#[v0]:=by cases args;simp_all
 obtain ⟨g,tg,csg,fg,dg,pg,rfl,_⟩:=trodVars_one hV
 have lt0:∀ x∈p0,x.block<W.heap.size:=by obtain ⟨m,hm⟩:=h0;exact DataW.trod_lt m _ _ _ hm
 obtain ⟨A0,c0,bs0,rfl,hr0,ha0⟩:=arg_bytes (hval 0 22 v0 rfl rfl) h0
 clear hA0
 refine (clientDo_walk A0 c0 bs0 W (tab_of hL) hr0 ha0).mono fun e W' ⟨he,bel⟩=>?_
 subst he
 exact ⟨_,rfl,_,_,_,[],_,_,hW',trodAll_mk1 (shut_bool Tryz.underlying4 _),
  (trodAll_cons_mk (Below.trod laidOut (by kernel_rfl) (of_decide_eq_true (by kernel_rfl)) h0 bel lt0) trodAll_mk0),
  Below.trodVars laidOut bel (by kernel_rfl) hV,bel.frame _,fun h=>by cases h⟩
noncomputable def laidWorld (os:Os):World:=
 { World.holding Tryz.prog os ⟨#[],#[],[]⟩ with heap:=(World.holding Tryz.prog os ⟨#[],#[],[]⟩).heap.modify 0 fun
   |.cells _ t frozen=>.cells (owners.map (Value.int .i64)).toArray t frozen
   |o=>o }
theorem laid_met (os:Os):laidMet Tryz.prog Rows.fnClientDoRow.laid ((laidWorld os).forCall (fun _ _=>0) ⟨#[],#[.slice none 0 0],[]⟩).memory:=
 laidMet_of_run' 8 (by kernel_rfl) (by kernel_rfl)
theorem reads (os:Os) {H:Type} (enc:TypeId × Value→H):∃ gs places,DataW.whole enc Tryz.prog ((laidWorld os).forCall (fun _ _=>0) ⟨#[],#[.slice none 0 0],[]⟩).memory Tryz.f3.params.toList Rows.fnClientDoSpec.vars false #[Value.slice none 0 0].toList 8=some ([.nil],gs,places):=
 ⟨[Rows.laid_loop_example_plashet_impl_rowOwners],MemPlace.row ⟨0,0,none⟩ 37,by kernel_rfl⟩
set_option maxRecDepth 100000 in
theorem lifted (os:Os) (started:os.Started) (H:Type) (enc:TypeId × Value→H) (F:Stop.Interp) :
  ReturnsInHanded {} Tryz.checked os 3 .any ((OpenSpec.ofChange Rows.fnClientDoSpec).preRow enc Tryz.prog Tryz.f3 Rows.fnClientDoRow.domain false Rows.fnClientDoRow.laid) (((OpenSpec.ofChange Rows.fnClientDoSpec).at F).post enc Tryz.prog Tryz.f3 false true false false):=by
 obtain ⟨gs,places,hx⟩:=reads os enc
 refine returnsInHanded_of_row (C:=Tryz.checked) (s:=OpenSpec.ofChange Rows.fnClientDoSpec) own started (by kernel_rfl) Tryz.func3
  (witness_row_at (enc:=enc) (C:=Tryz.checked) false (laidWorld os) #[.slice none 0 0] rfl (by kernel_rfl) (by kernel_rfl) (by kernel_rfl)
   (OpenSpec.preRow_of_cond 8 hx (by kernel_rfl) (fun k hk=>by cases hk) (by kernel_rfl) (laid_met os))) ?_
 intro W base args ds gs before hval hW _ _ _ hL _ _
 exact contract H enc W base args ds gs before hval hW hL
theorem said:Rows.FnClientDoSaid:=
 OpenClaim.holds_of_cond 3 Tryz.f3 rfl rfl rfl rfl rfl rfl rfl ⟨rfl,rfl,rfl,rfl,rfl⟩ rfl rfl rfl rfl rfl (by kernel_rfl) Tryz.func3 (by kernel_rfl)
  (of_decide_eq_true (by kernel_rfl)) (by unfold Func.isWrapper;first | (rw [if_pos (by decide +kernel)];kernel_rfl) | (rw [if_neg (by decide +kernel)];exact ⟨rfl,rfl⟩))
  (fun os started H enc _ F=>by rw [OpenClaim.pre_eq_preRow];exact lifted os started H enc F)
theorem plain (f : FuncId) (fn : Func) (hf : Tryz.pinned.checked.prog.funcNamed "loop.example/plashet/laws.FnClientDo" = some f) (hfn : Tryz.pinned.checked.prog.funcs[f]? = some fn) :
  true=Tryz.pinned.checked.prog.looks []∧∀ (j:Nat) t,fn.params[j]?=some t→Tryz.pinned.checked.prog.wantsStandIn t=false:=by
 obtain rfl : f = 3 := Option.some.inj ((show Tryz.prog.funcNamed "loop.example/plashet/laws.FnClientDo" = some 3 by kernel_rfl).symm.trans hf) |>.symm
 obtain rfl:fn=Tryz.f3:=(Option.some.inj (Tryz.func3.symm.trans hfn)).symm
 refine ⟨by kernel_rfl,fun j t ht=>?_⟩
 rw [Tryz.params3] at ht
 obtain rfl:t=22:=by simpa using Array.mem_of_getElem? ht
 exact (show Tryz.prog.wantsStandIn 22=false by kernel_rfl)
theorem card:Rows.FnClientDoCardSaid:=
 Claim7.holds_tied_plain_at .later [] _ _ _ _ said (fun _ h=>by cases h) (by kernel_rfl) (fun _ h=>by cases h) fnClientDo_row_tie rfl ⟨rfl,rfl⟩ (by kernel_rfl) rfl plain (by kernel_rfl)
end Go.Proofs.YtecmcjfdaipfcaaGreatDoor.fnClientDo
