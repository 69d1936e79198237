/- Walk of the reference: somebody changes its outline. .. Walk of the reference: somebody does something: nobody; a change. -/
import Derived.Test.YtecmcjfdaipfcaaGreatDoorZAM
import Derived.Test.YtecmcjfdaipfcaaGreatDoorZAH
import Derived.Deep.RegionLaw
import Derived.Deep.RegionHeld3
import Derived.BigRegion
import Derived.Deep.DeepCutAuto
import Derived.Deep.CutBlock
import Derived.Test.YtecmcjfdaipfcaaGreatDoorZAQ
import Derived.Test.YtecmcjfdaipfcaaGreatDoorZAO
namespace Go.Proofs.YtecmcjfdaipfcaaGreatDoor
open Go.RowKit Go.Lib
set_option linter.unusedVariables false
def DoR (w:World) (c:Client) (o:Op) (A1:Option Addr) (n1:Nat) (made:Int) (wx:World):Prop:=
 ∃ B nn,wx.heap[w.heap.size]?=some (.cells #[.int .i64 c.who,.int .i64 c.seen,.slice A1 c.base.length n1,.slice B (c.wait.length+1) nn,.int .i64 c.done,.int .i64 made] 26 (0,0))∧RdT 35 wx B nn (c.wait++[newEnt c o])∧RdT 46 wx A1 n1 c.base∧wx.heap[w.heap.size+1+1]?=some (.cells #[.int .i64 0,.int .i64 0,.slice none 0 0,.slice none 0 0,.int .i64 0,.int .i64 0] 26 (0,0))∧Ext w wx
set_option maxRecDepth 100000 in
set_option maxHeartbeats 4000000 in
theorem do21_s (c:Client) (v:Value) (o:Op) (w:World) (h:CT w c v) (hok:clientOk c=true) (ho:OpW o) (hs:o.text.size≤maxLen) :
  Calls Tryz.prog 32 #[v,.agg (cO o)] w fun r w'=>∃ v',r=.returned (.tuple #[v',.bool (doS c o).2])∧CT w' (doS c o).1 v'∧Ext w w':=by
 obtain ⟨hw9,hs0,hs40,htr,hd0,hd1,hwl,hm0,hm1,hwt⟩:=clientOk_parts hok
 obtain ⟨A1,n1,A2,n2,rfl,h1,h2⟩:=h
 have h3:=three_all w (oC c A1 n1 A2 n2) (oO o) oC0
 have hE3:Ext w (((w.alloc (oC c A1 n1 A2 n2)).alloc (oO o)).alloc oC0):=ext3 _ _ _ _
 have hz3:(((w.alloc (oC c A1 n1 A2 n2)).alloc (oO o)).alloc oC0).heap.size=w.heap.size+1+1+1:=by simp only [alloc_sz]
 have hE4:Ext w ((((w.alloc (oC c A1 n1 A2 n2)).alloc (oO o)).alloc oC0).alloc (.cells #[.int .i64 c.who,.int .i64 (c.done+(c.wait.length:Int)+1),.int .i64 o.kind,.int .i64 o.id,.int .i64 o.up,.int .i64 o.pos,.string o.text] 35)):=hE3.alloc (by omega) _
 have hz4:((((w.alloc (oC c A1 n1 A2 n2)).alloc (oO o)).alloc oC0).alloc (.cells #[.int .i64 c.who,.int .i64 (c.done+(c.wait.length:Int)+1),.int .i64 o.kind,.int .i64 o.id,.int .i64 o.up,.int .i64 o.pos,.string o.text] 35)).heap.size=w.heap.size+4:=by rw [alloc_sz,hz3]
 have hx1:=(Below.heap_alloc (((w.alloc (oC c A1 n1 A2 n2)).alloc (oO o)).alloc oC0) (.cells #[.int .i64 c.who,.int .i64 (c.done+(c.wait.length:Int)+1),.int .i64 o.kind,.int .i64 o.id,.int .i64 o.up,.int .i64 o.pos,.string o.text] 35) w.heap.size (by omega)).trans h3.1
 have hx2:=(Below.heap_alloc (((w.alloc (oC c A1 n1 A2 n2)).alloc (oO o)).alloc oC0) (.cells #[.int .i64 c.who,.int .i64 (c.done+(c.wait.length:Int)+1),.int .i64 o.kind,.int .i64 o.id,.int .i64 o.up,.int .i64 o.pos,.string o.text] 35) (w.heap.size+1) (by omega)).trans h3.2.1
 have hx3:=(Below.heap_alloc (((w.alloc (oC c A1 n1 A2 n2)).alloc (oO o)).alloc oC0) (.cells #[.int .i64 c.who,.int .i64 (c.done+(c.wait.length:Int)+1),.int .i64 o.kind,.int .i64 o.id,.int .i64 o.up,.int .i64 o.pos,.string o.text] 35) (w.heap.size+1+1) (by omega)).trans h3.2.2
 have hx4:=World.alloc_heap_new (((w.alloc (oC c A1 n1 A2 n2)).alloc (oO o)).alloc oC0) (.cells #[.int .i64 c.who,.int .i64 (c.done+(c.wait.length:Int)+1),.int .i64 o.kind,.int .i64 o.id,.int .i64 o.up,.int .i64 o.pos,.string o.text] 35)
 rw [hz3] at hx4
 have HX1:=Lib.hid hx1;have HX2:=Lib.hid hx2;have HX3:=Lib.hid hx3;have HX4:=Lib.hid hx4
 have HE4:=Lib.hid hE4;have H1:=Lib.hid (h1.ext hE4);have H2:=Lib.hid (h2.ext hE4)
 have HOK:=Lib.hid hok;have HOW:=Lib.hid ho
 have HOE:Hid (Flat.okE (newEnt c o)):=hs
 clear h1 h2 h3 hE3 hz3 hE4 hx1 hx2 hx3 hx4 hok ho htr hwt
 go_enter Tryz.func32,Tryz.ntmps32
 go_upto_region 2 with fail
 generalize ((((w.alloc (oC c A1 n1 A2 n2)).alloc (oO o)).alloc oC0).alloc (.cells #[.int .i64 c.who,.int .i64 (c.done+(c.wait.length:Int)+1),.int .i64 o.kind,.int .i64 o.id,.int .i64 o.up,.int .i64 o.pos,.string o.text] 35))=W4 at *
 have hpos:w.heap.size+1+1+1<W4.heap.size:=by omega
 have hlt1:w.heap.size<W4.heap.size:=by omega
 have hlt2:w.heap.size+1<W4.heap.size:=by omega
 have hlt3:w.heap.size+1+1<W4.heap.size:=by omega
 have hwr:IntKind.i64.wrap (c.made+1)=c.made+1:=by rw [IntKind.wrap_i64];omega
 have HEK:=Lib.hid (entryOk_s (newEnt c o) W4.drew hs HOW.out)
 have HRM:=Lib.hid (fun W=>rowMade_s c.who (c.made+1) W (by unfold isWho at hw9;rw [decide_eq_true_eq] at hw9;unfold i64;omega) (by unfold i64;omega))
 go_cut [36] (fun s wx=>∃ z:Bool,s=.bool z∧Hid (z=true→(doS c o)=(c,false))∧Hid (z=false→(doS c o)=(⟨c.who,c.seen,c.base,c.wait++[newEnt c o],c.done,if o.kind=1 then c.made+1 else c.made⟩,true))∧Hid (Ext W4 wx))
 case first=>
  obtain ⟨e0,e1,e2,e3,e4,e5,e6,ef⟩:=seven_cells HX4.out
  obtain ⟨y0,y1,y2,y3,y4,yf⟩:=five_cells HX2.out
  obtain ⟨x0,x1,x2,x3,x4,x5,xf⟩:=six_cells HX1.out
  cases hen:entryOk (newEnt c o)
  ·rw [hen] at HEK
   have HNO:Hid (doS c o=(c,false)):=by show _=_;unfold doS;rw [if_neg (fun h=>by rw [hen] at h;cases h.1)]
   clear hen
   refine wp_region_any (by kernel_rfl) ?_
   change wpAny _ _ _ _ _ _ _ (World.drew _)
   refine wpAny_ready (rs:=[0]) (by kernel_rfl) (by simp) ?_
   refine AllReady.cons rfl (fun K hK=>?_) AllReady.nil
   go_simp
   refine hK _ _ ?_;clear hK K
   refine wpAny_ready (rs:=[1]) (by kernel_rfl) (by simp) ?_
   refine AllReady.cons rfl (fun K hK=>?_) AllReady.nil
   go_simp
   go_wp2_with (go_at_call 49;refine HEK.out.mono ?_;rintro e w1 ⟨rfl,hb1⟩;obtain ⟨z0,z1,z2,z3,z4,zf⟩:=five_cells ((hb1.block (w.heap.size+1) hlt2).trans HX2.out);have HB1:=Lib.hid hb1;clear hb1)
   refine wpAny_ready (rs:=[2]) (by kernel_rfl) (by simp) ?_
   refine AllReady.cons rfl (fun K hK=>?_) AllReady.nil
   go_simp
   refine hK _ _ ?_;clear hK K
   refine wpAny_ready (rs:=[3]) (by kernel_rfl) (by simp) ?_
   refine AllReady.cons rfl (fun K hK=>?_) AllReady.nil
   go_simp
   refine hK _ _ ?_;clear hK K
   refine any_skip 4 rfl (by kernel_rfl) (by kernel_rfl) (by kernel_rfl) (fun _ _ _ h=>h) (by kernel_rfl) ?_
   refine any_skip 5 rfl (by kernel_rfl) (by kernel_rfl) (by kernel_rfl) (fun _ _ _ h=>h) (by kernel_rfl) ?_
   refine any_skip 6 rfl (by kernel_rfl) (by kernel_rfl) (by kernel_rfl) (fun _ _ _ h=>h) (by kernel_rfl) ?_
   refine any_skip 7 rfl (by kernel_rfl) (by kernel_rfl) (by kernel_rfl) (fun _ _ _ h=>h) (by kernel_rfl) ?_
   refine any_skip 8 rfl (by kernel_rfl) (by kernel_rfl) (by kernel_rfl) (fun _ _ _ h=>h) (by kernel_rfl) ?_
   refine any_skip 9 rfl (by kernel_rfl) (by kernel_rfl) (by kernel_rfl) (fun _ _ _ h=>h) (by kernel_rfl) ?_
   refine any_skip 10 rfl (by kernel_rfl) (by kernel_rfl) (by kernel_rfl) (fun _ _ _ h=>h) (by kernel_rfl) ?_
   refine any_skip 11 rfl (by kernel_rfl) (by kernel_rfl) (by kernel_rfl) (fun _ _ _ h=>h) (by kernel_rfl) ?_
   refine any_skip 12 rfl (by kernel_rfl) (by kernel_rfl) (by kernel_rfl) (fun _ _ _ h=>h) (by kernel_rfl) ?_
   refine any_skip 13 rfl (by kernel_rfl) (by kernel_rfl) (by kernel_rfl) (fun _ _ _ h=>h) (by kernel_rfl) ?_
   refine any_skip 14 rfl (by kernel_rfl) (by kernel_rfl) (by kernel_rfl) (fun _ _ _ h=>h) (by kernel_rfl) ?_
   refine any_skip 15 rfl (by kernel_rfl) (by kernel_rfl) (by kernel_rfl) (fun _ _ _ h=>h) (by kernel_rfl) ?_
   refine any_skip 16 rfl (by kernel_rfl) (by kernel_rfl) (by kernel_rfl) (fun _ _ _ h=>h) (by kernel_rfl) ?_
   refine any_skip 17 rfl (by kernel_rfl) (by kernel_rfl) (by kernel_rfl) (fun _ _ _ h=>h) (by kernel_rfl) ?_
   refine wpAny_ready (rs:=[18]) (by kernel_rfl) (by simp) ?_
   refine AllReady.cons rfl (fun K hK=>?_) AllReady.nil
   go_simp
   refine hK _ _ ?_;clear hK K
   refine wpAny_done (by kernel_rfl) ?_ _
   ·go_wp2_with fail
    go_meet
    exact ⟨true,rfl,Lib.hid (fun _=>HNO.out),Lib.hid (fun h=>by cases h),((Below.refl _ _).drew).trans HB1.out⟩
  ·rw [hen] at HEK
   by_cases hk:o.kind=1
   ·have hk':(o.kind == 1)=true:=by simp [hk]
    by_cases hid:o.id=rowMade c.who (c.made+1)
    ·have hid':(o.id != rowMade c.who (c.made+1))=false:=by simp [hid]
     have HYES:Hid (doS c o=(⟨c.who,c.seen,c.base,c.wait++[newEnt c o],c.done,if o.kind=1 then c.made+1 else c.made⟩,true)):=by show _=_;unfold doS;rw [if_pos ⟨hen,fun _=>hid⟩]
     clear hen hk hid
     have E0:W4.drew.cell? ⟨w.heap.size+1,0,none⟩=some (.int .i64 o.kind)∧W4.drew.cell? ⟨w.heap.size+1,1,none⟩=some (.int .i64 o.id)∧W4.drew.cell? ⟨w.heap.size+1,2,none⟩=some (.int .i64 o.up)∧W4.drew.cell? ⟨w.heap.size+1,3,none⟩=some (.int .i64 o.pos)∧W4.drew.cell? ⟨w.heap.size+1,4,none⟩=some (.string o.text)∧W4.drew.cell? ⟨w.heap.size,0,none⟩=some (.int .i64 c.who)∧W4.drew.cell? ⟨w.heap.size,1,none⟩=some (.int .i64 c.seen)∧W4.drew.cell? ⟨w.heap.size,2,none⟩=some (.slice A1 c.base.length n1)∧W4.drew.cell? ⟨w.heap.size,3,none⟩=some (.slice A2 c.wait.length n2)∧W4.drew.cell? ⟨w.heap.size,4,none⟩=some (.int .i64 c.done)∧W4.drew.cell? ⟨w.heap.size,5,none⟩=some (.int .i64 c.made)∧W4.drew.cell? ⟨w.heap.size+1+1+1,0,none⟩=some (.int .i64 c.who)∧W4.drew.cell? ⟨w.heap.size+1+1+1,1,none⟩=some (.int .i64 (c.done+(c.wait.length:Int)+1))∧W4.drew.cell? ⟨w.heap.size+1+1+1,2,none⟩=some (.int .i64 o.kind)∧W4.drew.cell? ⟨w.heap.size+1+1+1,3,none⟩=some (.int .i64 o.id)∧W4.drew.cell? ⟨w.heap.size+1+1+1,4,none⟩=some (.int .i64 o.up)∧W4.drew.cell? ⟨w.heap.size+1+1+1,5,none⟩=some (.int .i64 o.pos)∧W4.drew.cell? ⟨w.heap.size+1+1+1,6,none⟩=some (.string o.text):=⟨y0,y1,y2,y3,y4,x0,x1,x2,x3,x4,x5,e0,e1,e2,e3,e4,e5,e6⟩
     clear y0 y1 y2 y3 y4 x0 x1 x2 x3 x4 x5 e0 e1 e2 e3 e4 e5 e6 yf xf ef
     go_region_held3 (fun w'=>w'.cell? ⟨w.heap.size+1,0,none⟩=some (.int .i64 o.kind)∧w'.cell? ⟨w.heap.size+1,1,none⟩=some (.int .i64 o.id)∧w'.cell? ⟨w.heap.size+1,2,none⟩=some (.int .i64 o.up)∧w'.cell? ⟨w.heap.size+1,3,none⟩=some (.int .i64 o.pos)∧w'.cell? ⟨w.heap.size+1,4,none⟩=some (.string o.text)∧w'.cell? ⟨w.heap.size,0,none⟩=some (.int .i64 c.who)∧w'.cell? ⟨w.heap.size,1,none⟩=some (.int .i64 c.seen)∧w'.cell? ⟨w.heap.size,2,none⟩=some (.slice A1 c.base.length n1)∧w'.cell? ⟨w.heap.size,3,none⟩=some (.slice A2 c.wait.length n2)∧w'.cell? ⟨w.heap.size,4,none⟩=some (.int .i64 c.done)∧w'.cell? ⟨w.heap.size,5,none⟩=some (.int .i64 c.made)∧w'.cell? ⟨w.heap.size+1+1+1,0,none⟩=some (.int .i64 c.who)∧w'.cell? ⟨w.heap.size+1+1+1,1,none⟩=some (.int .i64 (c.done+(c.wait.length:Int)+1))∧w'.cell? ⟨w.heap.size+1+1+1,2,none⟩=some (.int .i64 o.kind)∧w'.cell? ⟨w.heap.size+1+1+1,3,none⟩=some (.int .i64 o.id)∧w'.cell? ⟨w.heap.size+1+1+1,4,none⟩=some (.int .i64 o.up)∧w'.cell? ⟨w.heap.size+1+1+1,5,none⟩=some (.int .i64 o.pos)∧w'.cell? ⟨w.heap.size+1+1+1,6,none⟩=some (.string o.text))
      (first | exact E1 | exact E0 | go_keep)
      (first
       |(go_at_call 49;refine HEK.out.mono ?_;rintro e w1 ⟨rfl,hb1⟩;obtain ⟨hc1,hf1⟩:=bcell hb1
         have E1:w1.cell? ⟨w.heap.size+1,0,none⟩=some (.int .i64 o.kind)∧w1.cell? ⟨w.heap.size+1,1,none⟩=some (.int .i64 o.id)∧w1.cell? ⟨w.heap.size+1,2,none⟩=some (.int .i64 o.up)∧w1.cell? ⟨w.heap.size+1,3,none⟩=some (.int .i64 o.pos)∧w1.cell? ⟨w.heap.size+1,4,none⟩=some (.string o.text)∧w1.cell? ⟨w.heap.size,0,none⟩=some (.int .i64 c.who)∧w1.cell? ⟨w.heap.size,1,none⟩=some (.int .i64 c.seen)∧w1.cell? ⟨w.heap.size,2,none⟩=some (.slice A1 c.base.length n1)∧w1.cell? ⟨w.heap.size,3,none⟩=some (.slice A2 c.wait.length n2)∧w1.cell? ⟨w.heap.size,4,none⟩=some (.int .i64 c.done)∧w1.cell? ⟨w.heap.size,5,none⟩=some (.int .i64 c.made)∧w1.cell? ⟨w.heap.size+1+1+1,0,none⟩=some (.int .i64 c.who)∧w1.cell? ⟨w.heap.size+1+1+1,1,none⟩=some (.int .i64 (c.done+(c.wait.length:Int)+1))∧w1.cell? ⟨w.heap.size+1+1+1,2,none⟩=some (.int .i64 o.kind)∧w1.cell? ⟨w.heap.size+1+1+1,3,none⟩=some (.int .i64 o.id)∧w1.cell? ⟨w.heap.size+1+1+1,4,none⟩=some (.int .i64 o.up)∧w1.cell? ⟨w.heap.size+1+1+1,5,none⟩=some (.int .i64 o.pos)∧w1.cell? ⟨w.heap.size+1+1+1,6,none⟩=some (.string o.text):=⟨(hc1 _ _ hlt2).trans E0.1,(hc1 _ _ hlt2).trans E0.2.1,(hc1 _ _ hlt2).trans E0.2.2.1,(hc1 _ _ hlt2).trans E0.2.2.2.1,(hc1 _ _ hlt2).trans E0.2.2.2.2.1,(hc1 _ _ hlt1).trans E0.2.2.2.2.2.1,(hc1 _ _ hlt1).trans E0.2.2.2.2.2.2.1,(hc1 _ _ hlt1).trans E0.2.2.2.2.2.2.2.1,(hc1 _ _ hlt1).trans E0.2.2.2.2.2.2.2.2.1,(hc1 _ _ hlt1).trans E0.2.2.2.2.2.2.2.2.2.1,(hc1 _ _ hlt1).trans E0.2.2.2.2.2.2.2.2.2.2.1,(hc1 _ _ hpos).trans E0.2.2.2.2.2.2.2.2.2.2.2.1,(hc1 _ _ hpos).trans E0.2.2.2.2.2.2.2.2.2.2.2.2.1,(hc1 _ _ hpos).trans E0.2.2.2.2.2.2.2.2.2.2.2.2.2.1,(hc1 _ _ hpos).trans E0.2.2.2.2.2.2.2.2.2.2.2.2.2.2.1,(hc1 _ _ hpos).trans E0.2.2.2.2.2.2.2.2.2.2.2.2.2.2.2.1,(hc1 _ _ hpos).trans E0.2.2.2.2.2.2.2.2.2.2.2.2.2.2.2.2.1,(hc1 _ _ hpos).trans E0.2.2.2.2.2.2.2.2.2.2.2.2.2.2.2.2.2⟩
         have HB1:=Lib.hid hb1;clear hc1 hf1 hb1)
       |(go_at_call 73;refine (HRM.out _).mono ?_;rintro e w2 ⟨rfl,hw2⟩;rw [hw2];clear hw2))
     go_wp2_with fail
     go_meet
     exact ⟨false,rfl,Lib.hid (fun h=>by cases h),Lib.hid (fun _=>HYES.out),((Below.refl _ _).drew).trans HB1.out⟩
    ·have hid':(o.id != rowMade c.who (c.made+1))=true:=by simp [hid]
     have HNO:Hid (doS c o=(c,false)):=by show _=_;unfold doS;rw [if_neg (fun h=>hid (h.2 hk))]
     clear hen hk hid
     have E0:W4.drew.cell? ⟨w.heap.size+1,0,none⟩=some (.int .i64 o.kind)∧W4.drew.cell? ⟨w.heap.size+1,1,none⟩=some (.int .i64 o.id)∧W4.drew.cell? ⟨w.heap.size+1,2,none⟩=some (.int .i64 o.up)∧W4.drew.cell? ⟨w.heap.size+1,3,none⟩=some (.int .i64 o.pos)∧W4.drew.cell? ⟨w.heap.size+1,4,none⟩=some (.string o.text)∧W4.drew.cell? ⟨w.heap.size,0,none⟩=some (.int .i64 c.who)∧W4.drew.cell? ⟨w.heap.size,1,none⟩=some (.int .i64 c.seen)∧W4.drew.cell? ⟨w.heap.size,2,none⟩=some (.slice A1 c.base.length n1)∧W4.drew.cell? ⟨w.heap.size,3,none⟩=some (.slice A2 c.wait.length n2)∧W4.drew.cell? ⟨w.heap.size,4,none⟩=some (.int .i64 c.done)∧W4.drew.cell? ⟨w.heap.size,5,none⟩=some (.int .i64 c.made)∧W4.drew.cell? ⟨w.heap.size+1+1+1,0,none⟩=some (.int .i64 c.who)∧W4.drew.cell? ⟨w.heap.size+1+1+1,1,none⟩=some (.int .i64 (c.done+(c.wait.length:Int)+1))∧W4.drew.cell? ⟨w.heap.size+1+1+1,2,none⟩=some (.int .i64 o.kind)∧W4.drew.cell? ⟨w.heap.size+1+1+1,3,none⟩=some (.int .i64 o.id)∧W4.drew.cell? ⟨w.heap.size+1+1+1,4,none⟩=some (.int .i64 o.up)∧W4.drew.cell? ⟨w.heap.size+1+1+1,5,none⟩=some (.int .i64 o.pos)∧W4.drew.cell? ⟨w.heap.size+1+1+1,6,none⟩=some (.string o.text):=⟨y0,y1,y2,y3,y4,x0,x1,x2,x3,x4,x5,e0,e1,e2,e3,e4,e5,e6⟩
     clear y0 y1 y2 y3 y4 x0 x1 x2 x3 x4 x5 e0 e1 e2 e3 e4 e5 e6 yf xf ef
     go_region_held3 (fun w'=>w'.cell? ⟨w.heap.size+1,0,none⟩=some (.int .i64 o.kind)∧w'.cell? ⟨w.heap.size+1,1,none⟩=some (.int .i64 o.id)∧w'.cell? ⟨w.heap.size+1,2,none⟩=some (.int .i64 o.up)∧w'.cell? ⟨w.heap.size+1,3,none⟩=some (.int .i64 o.pos)∧w'.cell? ⟨w.heap.size+1,4,none⟩=some (.string o.text)∧w'.cell? ⟨w.heap.size,0,none⟩=some (.int .i64 c.who)∧w'.cell? ⟨w.heap.size,1,none⟩=some (.int .i64 c.seen)∧w'.cell? ⟨w.heap.size,2,none⟩=some (.slice A1 c.base.length n1)∧w'.cell? ⟨w.heap.size,3,none⟩=some (.slice A2 c.wait.length n2)∧w'.cell? ⟨w.heap.size,4,none⟩=some (.int .i64 c.done)∧w'.cell? ⟨w.heap.size,5,none⟩=some (.int .i64 c.made)∧w'.cell? ⟨w.heap.size+1+1+1,0,none⟩=some (.int .i64 c.who)∧w'.cell? ⟨w.heap.size+1+1+1,1,none⟩=some (.int .i64 (c.done+(c.wait.length:Int)+1))∧w'.cell? ⟨w.heap.size+1+1+1,2,none⟩=some (.int .i64 o.kind)∧w'.cell? ⟨w.heap.size+1+1+1,3,none⟩=some (.int .i64 o.id)∧w'.cell? ⟨w.heap.size+1+1+1,4,none⟩=some (.int .i64 o.up)∧w'.cell? ⟨w.heap.size+1+1+1,5,none⟩=some (.int .i64 o.pos)∧w'.cell? ⟨w.heap.size+1+1+1,6,none⟩=some (.string o.text))
      (first | exact E1 | exact E0 | go_keep)
      (first
       |(go_at_call 49;refine HEK.out.mono ?_;rintro e w1 ⟨rfl,hb1⟩;obtain ⟨hc1,hf1⟩:=bcell hb1
         have E1:w1.cell? ⟨w.heap.size+1,0,none⟩=some (.int .i64 o.kind)∧w1.cell? ⟨w.heap.size+1,1,none⟩=some (.int .i64 o.id)∧w1.cell? ⟨w.heap.size+1,2,none⟩=some (.int .i64 o.up)∧w1.cell? ⟨w.heap.size+1,3,none⟩=some (.int .i64 o.pos)∧w1.cell? ⟨w.heap.size+1,4,none⟩=some (.string o.text)∧w1.cell? ⟨w.heap.size,0,none⟩=some (.int .i64 c.who)∧w1.cell? ⟨w.heap.size,1,none⟩=some (.int .i64 c.seen)∧w1.cell? ⟨w.heap.size,2,none⟩=some (.slice A1 c.base.length n1)∧w1.cell? ⟨w.heap.size,3,none⟩=some (.slice A2 c.wait.length n2)∧w1.cell? ⟨w.heap.size,4,none⟩=some (.int .i64 c.done)∧w1.cell? ⟨w.heap.size,5,none⟩=some (.int .i64 c.made)∧w1.cell? ⟨w.heap.size+1+1+1,0,none⟩=some (.int .i64 c.who)∧w1.cell? ⟨w.heap.size+1+1+1,1,none⟩=some (.int .i64 (c.done+(c.wait.length:Int)+1))∧w1.cell? ⟨w.heap.size+1+1+1,2,none⟩=some (.int .i64 o.kind)∧w1.cell? ⟨w.heap.size+1+1+1,3,none⟩=some (.int .i64 o.id)∧w1.cell? ⟨w.heap.size+1+1+1,4,none⟩=some (.int .i64 o.up)∧w1.cell? ⟨w.heap.size+1+1+1,5,none⟩=some (.int .i64 o.pos)∧w1.cell? ⟨w.heap.size+1+1+1,6,none⟩=some (.string o.text):=⟨(hc1 _ _ hlt2).trans E0.1,(hc1 _ _ hlt2).trans E0.2.1,(hc1 _ _ hlt2).trans E0.2.2.1,(hc1 _ _ hlt2).trans E0.2.2.2.1,(hc1 _ _ hlt2).trans E0.2.2.2.2.1,(hc1 _ _ hlt1).trans E0.2.2.2.2.2.1,(hc1 _ _ hlt1).trans E0.2.2.2.2.2.2.1,(hc1 _ _ hlt1).trans E0.2.2.2.2.2.2.2.1,(hc1 _ _ hlt1).trans E0.2.2.2.2.2.2.2.2.1,(hc1 _ _ hlt1).trans E0.2.2.2.2.2.2.2.2.2.1,(hc1 _ _ hlt1).trans E0.2.2.2.2.2.2.2.2.2.2.1,(hc1 _ _ hpos).trans E0.2.2.2.2.2.2.2.2.2.2.2.1,(hc1 _ _ hpos).trans E0.2.2.2.2.2.2.2.2.2.2.2.2.1,(hc1 _ _ hpos).trans E0.2.2.2.2.2.2.2.2.2.2.2.2.2.1,(hc1 _ _ hpos).trans E0.2.2.2.2.2.2.2.2.2.2.2.2.2.2.1,(hc1 _ _ hpos).trans E0.2.2.2.2.2.2.2.2.2.2.2.2.2.2.2.1,(hc1 _ _ hpos).trans E0.2.2.2.2.2.2.2.2.2.2.2.2.2.2.2.2.1,(hc1 _ _ hpos).trans E0.2.2.2.2.2.2.2.2.2.2.2.2.2.2.2.2.2⟩
         have HB1:=Lib.hid hb1;clear hc1 hf1 hb1)
       |(go_at_call 73;refine (HRM.out _).mono ?_;rintro e w2 ⟨rfl,hw2⟩;rw [hw2];clear hw2))
     go_wp2_with fail
     go_meet
     exact ⟨true,rfl,Lib.hid (fun _=>HNO.out),Lib.hid (fun h=>by cases h),((Below.refl _ _).drew).trans HB1.out⟩
   ·have hk':(o.kind == 1)=false:=by simp [hk]
    have HYES:Hid (doS c o=(⟨c.who,c.seen,c.base,c.wait++[newEnt c o],c.done,if o.kind=1 then c.made+1 else c.made⟩,true)):=by show _=_;unfold doS;rw [if_pos ⟨hen,fun h=>absurd h hk⟩]
    clear hen hk
    refine wp_region_any (by kernel_rfl) ?_
    change wpAny _ _ _ _ _ _ _ (World.drew _)
    refine wpAny_ready (rs:=[0]) (by kernel_rfl) (by simp) ?_
    refine AllReady.cons rfl (fun K hK=>?_) AllReady.nil
    go_simp
    refine hK _ _ ?_;clear hK K
    refine wpAny_ready (rs:=[1]) (by kernel_rfl) (by simp) ?_
    refine AllReady.cons rfl (fun K hK=>?_) AllReady.nil
    go_simp
    go_wp2_with (go_at_call 49;refine HEK.out.mono ?_;rintro e w1 ⟨rfl,hb1⟩;obtain ⟨z0,z1,z2,z3,z4,zf⟩:=five_cells ((hb1.block (w.heap.size+1) hlt2).trans HX2.out);have HB1:=Lib.hid hb1;clear hb1)
    refine wpAny_ready (rs:=[2]) (by kernel_rfl) (by simp) ?_
    refine AllReady.cons rfl (fun K hK=>?_) AllReady.nil
    go_simp
    refine hK _ _ ?_;clear hK K
    refine wpAny_ready (rs:=[3]) (by kernel_rfl) (by simp) ?_
    refine AllReady.cons rfl (fun K hK=>?_) AllReady.nil
    go_simp
    refine hK _ _ ?_;clear hK K
    refine wpAny_ready (rs:=[4]) (by kernel_rfl) (by simp) ?_
    refine AllReady.cons rfl (fun K hK=>?_) AllReady.nil
    go_simp
    refine hK _ _ ?_;clear hK K
    refine wpAny_ready (rs:=[5]) (by kernel_rfl) (by simp) ?_
    refine AllReady.cons rfl (fun K hK=>?_) AllReady.nil
    go_simp
    refine hK _ _ ?_;clear hK K
    refine wpAny_ready (rs:=[6]) (by kernel_rfl) (by simp) ?_
    refine AllReady.cons rfl (fun K hK=>?_) AllReady.nil
    go_simp
    refine hK _ _ ?_;clear hK K
    refine wpAny_ready (rs:=[7]) (by kernel_rfl) (by simp) ?_
    refine AllReady.cons rfl (fun K hK=>?_) AllReady.nil
    go_simp
    refine hK _ _ ?_;clear hK K
    refine any_skip 8 rfl (by kernel_rfl) (by kernel_rfl) (by kernel_rfl) (fun _ _ _ h=>h) (by kernel_rfl) ?_
    refine any_skip 9 rfl (by kernel_rfl) (by kernel_rfl) (by kernel_rfl) (fun _ _ _ h=>h) (by kernel_rfl) ?_
    refine any_skip 10 rfl (by kernel_rfl) (by kernel_rfl) (by kernel_rfl) (fun _ _ _ h=>h) (by kernel_rfl) ?_
    refine any_skip 11 rfl (by kernel_rfl) (by kernel_rfl) (by kernel_rfl) (fun _ _ _ h=>h) (by kernel_rfl) ?_
    refine any_skip 12 rfl (by kernel_rfl) (by kernel_rfl) (by kernel_rfl) (fun _ _ _ h=>h) (by kernel_rfl) ?_
    refine any_skip 13 rfl (by kernel_rfl) (by kernel_rfl) (by kernel_rfl) (fun _ _ _ h=>h) (by kernel_rfl) ?_
    refine any_skip 14 rfl (by kernel_rfl) (by kernel_rfl) (by kernel_rfl) (fun _ _ _ h=>h) (by kernel_rfl) ?_
    refine any_skip 15 rfl (by kernel_rfl) (by kernel_rfl) (by kernel_rfl) (fun _ _ _ h=>h) (by kernel_rfl) ?_
    refine any_skip 16 rfl (by kernel_rfl) (by kernel_rfl) (by kernel_rfl) (fun _ _ _ h=>h) (by kernel_rfl) ?_
    refine wpAny_ready (rs:=[17]) (by kernel_rfl) (by simp) ?_
    refine AllReady.cons rfl (fun K hK=>?_) AllReady.nil
    go_simp
    refine hK _ _ ?_;clear hK K
    refine wpAny_ready (rs:=[18]) (by kernel_rfl) (by simp) ?_
    refine AllReady.cons rfl (fun K hK=>?_) AllReady.nil
    go_simp
    refine hK _ _ ?_;clear hK K
    refine wpAny_done (by kernel_rfl) ?_ _
    ·go_wp2_with fail
     go_meet
     exact ⟨false,rfl,Lib.hid (fun h=>by cases h),Lib.hid (fun _=>HYES.out),((Below.refl _ _).drew).trans HB1.out⟩
 case rest=>
  obtain ⟨z,rfl,HZT,HZF,HW⟩:=hcut
  obtain ⟨x0,x1,x2,x3,x4,x5,xf⟩:=six_cells ((HW.out.block w.heap.size hlt1).trans HX1.out)
  obtain ⟨y0,y1,y2,y3,y4,yf⟩:=five_cells ((HW.out.block (w.heap.size+1) hlt2).trans HX2.out)
  have hEc:=HE4.out.trans (HW.out.mono HE4.out.size)
  have HEc:=Lib.hid hEc
  clear hEc
  cases z
  ·by_cases hk:o.kind=1
   ·have hk':(o.kind == 1)=true:=by simp [hk]
    have HK:=Lib.hid hk
    clear hk
    go_upto_region 6 with fail
    clear x0 x1 x2 x3 x4 x5 xf y0 y1 y2 y3 y4 yf
    have hbx:(wc.setCell ⟨w.heap.size,5,none⟩ (.int .i64 (c.made+1))).heap[w.heap.size]?=some (.cells #[.int .i64 c.who,.int .i64 c.seen,.slice A1 c.base.length n1,.slice A2 c.wait.length n2,.int .i64 c.done,.int .i64 (c.made+1)] 26 (0,0)):=set_at ((HW.out.block _ hlt1).trans HX1.out)
    have hzx:(wc.setCell ⟨w.heap.size,5,none⟩ (.int .i64 (c.made+1))).heap[w.heap.size+1+1]?=some (.cells cC0 26 (0,0)):=(setx (by omega)).trans ((HW.out.block _ hlt3).trans HX3.out)
    have hex:(wc.setCell ⟨w.heap.size,5,none⟩ (.int .i64 (c.made+1))).heap[w.heap.size+1+1+1]?=some (.cells #[.int .i64 c.who,.int .i64 (c.done+(c.wait.length:Int)+1),.int .i64 o.kind,.int .i64 o.id,.int .i64 o.up,.int .i64 o.pos,.string o.text] 35 (0,0)):=(setx (by omega)).trans ((HW.out.block _ hpos).trans HX4.out)
    have hr1:RdT 46 (wc.setCell ⟨w.heap.size,5,none⟩ (.int .i64 (c.made+1))) A1 n1 c.base:=(H1.out.ext HW.out).set ((HW.out.block _ hlt1).trans HX1.out) (by decide) _ _
    have hr2:RdT 35 (wc.setCell ⟨w.heap.size,5,none⟩ (.int .i64 (c.made+1))) A2 n2 c.wait:=(H2.out.ext HW.out).set ((HW.out.block _ hlt1).trans HX1.out) (by decide) _ _
    have hE6:Ext w (wc.setCell ⟨w.heap.size,5,none⟩ (.int .i64 (c.made+1))):=(HE4.out.trans (HW.out.mono HE4.out.size)).setCell (Nat.le_refl _) _
    generalize (wc.setCell ⟨w.heap.size,5,none⟩ (.int .i64 (c.made+1)))=W6 at *
    have hTA:=two_app el_ent W6 A2 n2 c.wait (newEnt c o) #[.int .i64 c.who,.int .i64 (c.done+(c.wait.length:Int)+1),.int .i64 o.kind,.int .i64 o.id,.int .i64 o.up,.int .i64 o.pos,.string o.text] hr2.1 HOE.out rfl (by omega)
    obtain ⟨v1,w1,v,w',ra1,ra2,ra3,ra4,ra5⟩:=hTA.a
    obtain ⟨p1,y1,p,y',rb1,rb2,rb3,rb4⟩:=hTA.b
    obtain ⟨r1,q1,r,q',rc1,rc2,rc3,rc4⟩:=hTA.c
    obtain ⟨Bv,nv,hv9,-⟩:=ra3.rd
    rw [List.length_append,List.length_singleton] at hv9
    subst hv9
    obtain ⟨Bp,np,hp9,-⟩:=rb3.rd
    rw [List.length_append,List.length_singleton] at hp9
    subst hp9
    obtain ⟨Br,nr,hr9,-⟩:=rc3.rd
    rw [List.length_append,List.length_singleton] at hr9
    subst hr9
    have hl0:=blk_lt hbx;have hl3:=blk_lt hex
    obtain ⟨x0,x1,x2,x3,x4,x5,xf⟩:=six_cells hbx
    obtain ⟨e0,e1,e2,e3,e4,e5,e6,ef⟩:=seven_cells hex
    obtain ⟨f0,f1,f2,f3,f4,f5,f6,ff⟩:=seven_cells ((ra5.block _ hl3).trans hex)
    obtain ⟨g0,g1,g2,g3,g4,g5,gf⟩:=six_cells ((ra4.block _ hl0).trans hbx)
    obtain ⟨i0,i1,i2,i3,i4,i5,if_⟩:=six_cells ((rb4.block _ hl0).trans hbx)
    obtain ⟨j0,j1,j2,j3,j4,j5,jf⟩:=six_cells ((rc4.block _ hl0).trans hbx)
    have fin:∀ (z:Value) (W:World),Own 35 W W6.heap.size z (c.wait++[newEnt c o])→Ext W6 W→DoR w c o A1 n1 (c.made+1) (W.setCell ⟨w.heap.size,3,none⟩ z):=fun z W ho hb=>by
     obtain ⟨B,nn,hzv,-⟩:=ho.rd
     rw [List.length_append,List.length_singleton] at hzv
     subst hzv
     have hbW:=(hb.block _ hl0).trans hbx
     exact ⟨B,nn,set_at hbW,ho.rdT.set hbW (by decide) _ _,(hr1.ext hb).set hbW (by decide) _ _,(setx (by omega)).trans ((hb.block _ (blk_lt hzx)).trans hzx),(hE6.trans (hb.mono hE6.size)).setCell (Nat.le_refl _) _⟩
    have FIN:=Lib.hid fin;have RA3:=Lib.hid ra3;have RA4:=Lib.hid ra4;have RB3:=Lib.hid rb3;have RB4:=Lib.hid rb4;have RC3:=Lib.hid rc3;have RC4:=Lib.hid rc4
    clear hTA fin ra3 ra4 ra5 rb3 rb4 rc3 rc4
    go_cut [51] (fun s wx=>DoR w c o A1 n1 (c.made+1) wx)
    case first=>
     go_region_law (first
      |((with_reducible refine at_world ((W6.alloc (.cells #[] 35)).drew) ?_);refine step_append_run rfl _ _ _ rfl rfl rfl ra1 ?_)
      |((with_reducible refine at_world (w1.alloc (.cells #[.int .i64 c.who,.int .i64 (c.done+(c.wait.length:Int)+1),.int .i64 o.kind,.int .i64 o.id,.int .i64 o.up,.int .i64 o.pos,.string o.text] 35)) ?_);refine step_append_run rfl _ _ _ rfl rfl rfl ra2 ?_)
      |((with_reducible refine at_world (((W6.alloc (.cells #[] 35)).alloc (.cells #[.int .i64 c.who,.int .i64 (c.done+(c.wait.length:Int)+1),.int .i64 o.kind,.int .i64 o.id,.int .i64 o.up,.int .i64 o.pos,.string o.text] 35)).drew) ?_);refine step_append_run rfl _ _ _ rfl rfl rfl rb1 ?_)
      |((with_reducible refine at_world y1 ?_);refine step_append_run rfl _ _ _ rfl rfl rfl rb2 ?_)
      |((with_reducible refine at_world (((W6.alloc (.cells #[.int .i64 c.who,.int .i64 (c.done+(c.wait.length:Int)+1),.int .i64 o.kind,.int .i64 o.id,.int .i64 o.up,.int .i64 o.pos,.string o.text] 35)).alloc (.cells #[] 35)).drew) ?_);refine step_append_run rfl _ _ _ rfl rfl rfl rc1 ?_)
      |((with_reducible refine at_world q1 ?_);refine step_append_run rfl _ _ _ rfl rfl rfl rc2 ?_))
     all_goals
      go_wp2_with fail
      go_meet
      first
       |(clear RB3 RB4 RC3 RC4 rb2 rc2 i0 i1 i2 i3 i4 i5 if_ j0 j1 j2 j3 j4 j5 jf y' q';exact FIN.out _ _ RA3.out RA4.out)
       |(clear RA3 RA4 RC3 RC4 ra2 rc2 g0 g1 g2 g3 g4 g5 gf j0 j1 j2 j3 j4 j5 jf w' q';exact FIN.out _ _ RB3.out RB4.out)
       |(clear RA3 RA4 RB3 RB4 ra2 rb2 g0 g1 g2 g3 g4 g5 gf i0 i1 i2 i3 i4 i5 if_ w' y';exact FIN.out _ _ RC3.out RC4.out)
    case rest=>
     obtain ⟨B,nn,hb9,hq9,hr9,hz9,hE9⟩:=hcut
     clear x0 x1 x2 x3 x4 x5 xf e0 e1 e2 e3 e4 e5 e6 ef f0 f1 f2 f3 f4 f5 f6 ff g0 g1 g2 g3 g4 g5 gf i0 i1 i2 i3 i4 i5 if_ j0 j1 j2 j3 j4 j5 jf ra1 ra2 rb1 rb2 rc1 rc2 RA3 RA4 RB3 RB4 RC3 RC4 FIN
     obtain ⟨x0,x1,x2,x3,x4,x5,xf⟩:=six_cells hb9
     obtain ⟨d0,d1,d2,d3,d4,d5,df⟩:=six_cells hz9
     have hz:=put6_at (.int .i64 c.who) (.int .i64 c.seen) (.slice A1 c.base.length n1) (.slice B (c.wait.length+1) nn) (.int .i64 c.done) (.int .i64 (c.made+1)) hz9
     have hE:=put6_below (.int .i64 c.who) (.int .i64 c.seen) (.slice A1 c.base.length n1) (.slice B (c.wait.length+1) nn) (.int .i64 c.done) (.int .i64 (c.made+1)) hE9 (show w.heap.size≤w.heap.size+1+1 by omega)
     have HZ:=Lib.hid hz;have HE:=Lib.hid hE;have HQ9:=Lib.hid (hq9.put6 hz9 (by decide) (.int .i64 c.who) (.int .i64 c.seen) (.slice A1 c.base.length n1) (.slice B (c.wait.length+1) nn) (.int .i64 c.done) (.int .i64 (c.made+1)));have HR9:=Lib.hid (hr9.put6 hz9 (by decide) (.int .i64 c.who) (.int .i64 c.seen) (.slice A1 c.base.length n1) (.slice B (c.wait.length+1) nn) (.int .i64 c.done) (.int .i64 (c.made+1)))
     have HY:=Lib.hid ((by rw [HZF.out (by first | trivial | rfl),if_pos HK.out]:doS c o=(⟨c.who,c.seen,c.base,c.wait++[newEnt c o],c.done,c.made+1⟩,true)))
     clear hz hE hq9 hr9 hb9 hz9 hE9
     go_wp2_with fail
     obtain ⟨k0,k1,k2,k3,k4,k5,kf⟩:=six_cells HZ.out
     refine bodyPost_ret (v:=.tuple #[.agg #[.int .i64 c.who,.int .i64 c.seen,.slice A1 c.base.length n1,.slice B (c.wait.length+1) nn,.int .i64 c.done,.int .i64 (c.made+1)],.bool true]) ?_ rfl ?_
     ·simp [results,Tryz.f32,go_sem,k0,k1,k2,k3,k4,k5]
     ·exact ⟨_,by rw [HY.out],by rw [HY.out];exact ⟨A1,n1,B,nn,by simp only [List.length_append,List.length_singleton],HR9.out,HQ9.out⟩,HE.out⟩
   ·have hk':(o.kind == 1)=false:=by simp [hk]
    have HK:=Lib.hid hk
    clear hk
    go_upto_region 6 with fail
    clear x0 x1 x2 x3 x4 x5 xf y0 y1 y2 y3 y4 yf
    have hbx:wc.heap[w.heap.size]?=some (.cells (cC c A1 n1 A2 n2) 26 (0,0)):=(HW.out.block _ hlt1).trans HX1.out
    have hzx:wc.heap[w.heap.size+1+1]?=some (.cells cC0 26 (0,0)):=(HW.out.block _ hlt3).trans HX3.out
    have hex:wc.heap[w.heap.size+1+1+1]?=some (.cells #[.int .i64 c.who,.int .i64 (c.done+(c.wait.length:Int)+1),.int .i64 o.kind,.int .i64 o.id,.int .i64 o.up,.int .i64 o.pos,.string o.text] 35 (0,0)):=(HW.out.block _ hpos).trans HX4.out
    have hr1:RdT 46 wc A1 n1 c.base:=H1.out.ext HW.out
    have hr2:RdT 35 wc A2 n2 c.wait:=H2.out.ext HW.out
    have hE6:Ext w wc:=HE4.out.trans (HW.out.mono HE4.out.size)
    generalize wc=W6 at *
    have hTA:=two_app el_ent W6 A2 n2 c.wait (newEnt c o) #[.int .i64 c.who,.int .i64 (c.done+(c.wait.length:Int)+1),.int .i64 o.kind,.int .i64 o.id,.int .i64 o.up,.int .i64 o.pos,.string o.text] hr2.1 HOE.out rfl (by omega)
    obtain ⟨v1,w1,v,w',ra1,ra2,ra3,ra4,ra5⟩:=hTA.a
    obtain ⟨p1,y1,p,y',rb1,rb2,rb3,rb4⟩:=hTA.b
    obtain ⟨r1,q1,r,q',rc1,rc2,rc3,rc4⟩:=hTA.c
    obtain ⟨Bv,nv,hv9,-⟩:=ra3.rd
    rw [List.length_append,List.length_singleton] at hv9
    subst hv9
    obtain ⟨Bp,np,hp9,-⟩:=rb3.rd
    rw [List.length_append,List.length_singleton] at hp9
    subst hp9
    obtain ⟨Br,nr,hr9,-⟩:=rc3.rd
    rw [List.length_append,List.length_singleton] at hr9
    subst hr9
    have hl0:=blk_lt hbx;have hl3:=blk_lt hex
    obtain ⟨x0,x1,x2,x3,x4,x5,xf⟩:=six_cells hbx
    obtain ⟨e0,e1,e2,e3,e4,e5,e6,ef⟩:=seven_cells hex
    obtain ⟨f0,f1,f2,f3,f4,f5,f6,ff⟩:=seven_cells ((ra5.block _ hl3).trans hex)
    obtain ⟨g0,g1,g2,g3,g4,g5,gf⟩:=six_cells ((ra4.block _ hl0).trans hbx)
    obtain ⟨i0,i1,i2,i3,i4,i5,if_⟩:=six_cells ((rb4.block _ hl0).trans hbx)
    obtain ⟨j0,j1,j2,j3,j4,j5,jf⟩:=six_cells ((rc4.block _ hl0).trans hbx)
    have fin:∀ (z:Value) (W:World),Own 35 W W6.heap.size z (c.wait++[newEnt c o])→Ext W6 W→DoR w c o A1 n1 c.made (W.setCell ⟨w.heap.size,3,none⟩ z):=fun z W ho hb=>by
     obtain ⟨B,nn,hzv,-⟩:=ho.rd
     rw [List.length_append,List.length_singleton] at hzv
     subst hzv
     have hbW:=(hb.block _ hl0).trans hbx
     exact ⟨B,nn,set_at hbW,ho.rdT.set hbW (by decide) _ _,(hr1.ext hb).set hbW (by decide) _ _,(setx (by omega)).trans ((hb.block _ (blk_lt hzx)).trans hzx),(hE6.trans (hb.mono hE6.size)).setCell (Nat.le_refl _) _⟩
    have FIN:=Lib.hid fin;have RA3:=Lib.hid ra3;have RA4:=Lib.hid ra4;have RB3:=Lib.hid rb3;have RB4:=Lib.hid rb4;have RC3:=Lib.hid rc3;have RC4:=Lib.hid rc4
    clear hTA fin ra3 ra4 ra5 rb3 rb4 rc3 rc4
    go_cut [51] (fun s wx=>DoR w c o A1 n1 c.made wx)
    case first=>
     go_region_law (first
      |((with_reducible refine at_world ((W6.alloc (.cells #[] 35)).drew) ?_);refine step_append_run rfl _ _ _ rfl rfl rfl ra1 ?_)
      |((with_reducible refine at_world (w1.alloc (.cells #[.int .i64 c.who,.int .i64 (c.done+(c.wait.length:Int)+1),.int .i64 o.kind,.int .i64 o.id,.int .i64 o.up,.int .i64 o.pos,.string o.text] 35)) ?_);refine step_append_run rfl _ _ _ rfl rfl rfl ra2 ?_)
      |((with_reducible refine at_world (((W6.alloc (.cells #[] 35)).alloc (.cells #[.int .i64 c.who,.int .i64 (c.done+(c.wait.length:Int)+1),.int .i64 o.kind,.int .i64 o.id,.int .i64 o.up,.int .i64 o.pos,.string o.text] 35)).drew) ?_);refine step_append_run rfl _ _ _ rfl rfl rfl rb1 ?_)
      |((with_reducible refine at_world y1 ?_);refine step_append_run rfl _ _ _ rfl rfl rfl rb2 ?_)
      |((with_reducible refine at_world (((W6.alloc (.cells #[.int .i64 c.who,.int .i64 (c.done+(c.wait.length:Int)+1),.int .i64 o.kind,.int .i64 o.id,.int .i64 o.up,.int .i64 o.pos,.string o.text] 35)).alloc (.cells #[] 35)).drew) ?_);refine step_append_run rfl _ _ _ rfl rfl rfl rc1 ?_)
      |((with_reducible refine at_world q1 ?_);refine step_append_run rfl _ _ _ rfl rfl rfl rc2 ?_))
     all_goals
      go_wp2_with fail
      go_meet
      first
       |(clear RB3 RB4 RC3 RC4 rb2 rc2 i0 i1 i2 i3 i4 i5 if_ j0 j1 j2 j3 j4 j5 jf y' q';exact FIN.out _ _ RA3.out RA4.out)
       |(clear RA3 RA4 RC3 RC4 ra2 rc2 g0 g1 g2 g3 g4 g5 gf j0 j1 j2 j3 j4 j5 jf w' q';exact FIN.out _ _ RB3.out RB4.out)
       |(clear RA3 RA4 RB3 RB4 ra2 rb2 g0 g1 g2 g3 g4 g5 gf i0 i1 i2 i3 i4 i5 if_ w' y';exact FIN.out _ _ RC3.out RC4.out)
    case rest=>
     obtain ⟨B,nn,hb9,hq9,hr9,hz9,hE9⟩:=hcut
     clear x0 x1 x2 x3 x4 x5 xf e0 e1 e2 e3 e4 e5 e6 ef f0 f1 f2 f3 f4 f5 f6 ff g0 g1 g2 g3 g4 g5 gf i0 i1 i2 i3 i4 i5 if_ j0 j1 j2 j3 j4 j5 jf ra1 ra2 rb1 rb2 rc1 rc2 RA3 RA4 RB3 RB4 RC3 RC4 FIN
     obtain ⟨x0,x1,x2,x3,x4,x5,xf⟩:=six_cells hb9
     obtain ⟨d0,d1,d2,d3,d4,d5,df⟩:=six_cells hz9
     have hz:=put6_at (.int .i64 c.who) (.int .i64 c.seen) (.slice A1 c.base.length n1) (.slice B (c.wait.length+1) nn) (.int .i64 c.done) (.int .i64 c.made) hz9
     have hE:=put6_below (.int .i64 c.who) (.int .i64 c.seen) (.slice A1 c.base.length n1) (.slice B (c.wait.length+1) nn) (.int .i64 c.done) (.int .i64 c.made) hE9 (show w.heap.size≤w.heap.size+1+1 by omega)
     have HZ:=Lib.hid hz;have HE:=Lib.hid hE;have HQ9:=Lib.hid (hq9.put6 hz9 (by decide) (.int .i64 c.who) (.int .i64 c.seen) (.slice A1 c.base.length n1) (.slice B (c.wait.length+1) nn) (.int .i64 c.done) (.int .i64 c.made));have HR9:=Lib.hid (hr9.put6 hz9 (by decide) (.int .i64 c.who) (.int .i64 c.seen) (.slice A1 c.base.length n1) (.slice B (c.wait.length+1) nn) (.int .i64 c.done) (.int .i64 c.made))
     have HY:=Lib.hid ((by rw [HZF.out (by first | trivial | rfl),if_neg HK.out]:doS c o=(⟨c.who,c.seen,c.base,c.wait++[newEnt c o],c.done,c.made⟩,true)))
     clear hz hE hq9 hr9 hb9 hz9 hE9
     go_wp2_with fail
     obtain ⟨k0,k1,k2,k3,k4,k5,kf⟩:=six_cells HZ.out
     refine bodyPost_ret (v:=.tuple #[.agg #[.int .i64 c.who,.int .i64 c.seen,.slice A1 c.base.length n1,.slice B (c.wait.length+1) nn,.int .i64 c.done,.int .i64 c.made],.bool true]) ?_ rfl ?_
     ·simp [results,Tryz.f32,go_sem,k0,k1,k2,k3,k4,k5]
     ·exact ⟨_,by rw [HY.out],by rw [HY.out];exact ⟨A1,n1,B,nn,by simp only [List.length_append,List.length_singleton],HR9.out,HQ9.out⟩,HE.out⟩
  ·have hz3:=(HW.out.block (w.heap.size+1+1) hlt3).trans HX3.out
   obtain ⟨d0,d1,d2,d3,d4,d5,df⟩:=six_cells hz3
   have hz:=put6_at (.int .i64 c.who) (.int .i64 c.seen) (.slice A1 c.base.length n1) (.slice A2 c.wait.length n2) (.int .i64 c.done) (.int .i64 c.made) hz3
   have hE:=put6_below (.int .i64 c.who) (.int .i64 c.seen) (.slice A1 c.base.length n1) (.slice A2 c.wait.length n2) (.int .i64 c.done) (.int .i64 c.made) HEc.out (show w.heap.size≤w.heap.size+1+1 by omega)
   have HZ:=Lib.hid hz;have HE:=Lib.hid hE;have HR9:=Lib.hid ((H1.out.ext HW.out).put6 hz3 (by decide) (.int .i64 c.who) (.int .i64 c.seen) (.slice A1 c.base.length n1) (.slice A2 c.wait.length n2) (.int .i64 c.done) (.int .i64 c.made));have HQ9:=Lib.hid ((H2.out.ext HW.out).put6 hz3 (by decide) (.int .i64 c.who) (.int .i64 c.seen) (.slice A1 c.base.length n1) (.slice A2 c.wait.length n2) (.int .i64 c.done) (.int .i64 c.made))
   clear hz3 hz hE
   go_wp2_with fail
   obtain ⟨k0,k1,k2,k3,k4,k5,kf⟩:=six_cells HZ.out
   refine bodyPost_ret (v:=.tuple #[(.agg (cC c A1 n1 A2 n2)),.bool false]) ?_ rfl ?_
   ·simp [results,Tryz.f32,go_sem,k0,k1,k2,k3,k4,k5]
   ·exact ⟨_,by rw [HZT.out (by first | trivial | rfl)],by rw [HZT.out (by first | trivial | rfl)];exact ⟨_,_,_,_,rfl,HR9.out,HQ9.out⟩,HE.out⟩
open Go.RowKit Go.Lib
set_option linter.unusedSimpArgs false
def StepP (w:World) (base:Nat) (C N:Option Addr) (x:Ending) (w':World):Prop:=
 ∃ (wd':Wd) (L':Option Addr) (ln':Nat) (C':Option Addr) (cc':Nat) (N':Option Addr) (nc':Nat) (xs':List RC) (ys':List RL),
  x=.returned (.agg #[.slice L' wd'.log.length ln',.int .i64 wd'.safe,.bool wd'.up,.slice C' xs'.length cc',.slice N' ys'.length nc'])∧WInv wd'∧WP w' base wd' L' ln' C' cc' N' nc' xs' ys'∧Turn (OwnB C N) w w'∧∀ k,OwnB C' N' k→OwnB C N k∨w.heap.size≤k
theorem WP.put6 {w5:World} {base:Nat} {wd:Wd} {L N:Option Addr} {ln g cc nc:Nat} {xs:List RC} {ys:List RL} (h:WP w5 base wd L ln (some ⟨g,0,none⟩) cc N nc xs ys) (i:Nat) (hi:i<xs.length) (x:RC) (c:Client) (hx:RcOk w5 x c) :
  WP ((((((w5.setCell ⟨g,i*6,none⟩ (.int .i64 x.who)).setCell ⟨g,i*6+1,none⟩ (.int .i64 x.seen)).setCell ⟨g,i*6+2,none⟩ (.slice x.b x.bl x.bn)).setCell ⟨g,i*6+3,none⟩ (.slice x.q x.ql x.qn)).setCell ⟨g,i*6+4,none⟩ (.int .i64 x.done)).setCell ⟨g,i*6+5,none⟩ (.int .i64 x.made)) base { wd with cls:=wd.cls.set i c } L ln (some ⟨g,0,none⟩) cc N nc (xs.set i x) ys∧w5.grownBy ((((((w5.setCell ⟨g,i*6,none⟩ (.int .i64 x.who)).setCell ⟨g,i*6+1,none⟩ (.int .i64 x.seen)).setCell ⟨g,i*6+2,none⟩ (.slice x.b x.bl x.bn)).setCell ⟨g,i*6+3,none⟩ (.slice x.q x.ql x.qn)).setCell ⟨g,i*6+4,none⟩ (.int .i64 x.done)).setCell ⟨g,i*6+5,none⟩ (.int .i64 x.made)) (some g):=by
 have ho:=own_put_rc h.cli rfl i hi x
 have hg5:w5.grownBy ((((((w5.setCell ⟨g,i*6,none⟩ (.int .i64 x.who)).setCell ⟨g,i*6+1,none⟩ (.int .i64 x.seen)).setCell ⟨g,i*6+2,none⟩ (.slice x.b x.bl x.bn)).setCell ⟨g,i*6+3,none⟩ (.slice x.q x.ql x.qn)).setCell ⟨g,i*6+4,none⟩ (.int .i64 x.done)).setCell ⟨g,i*6+5,none⟩ (.int .i64 x.made)) (some g):=gset (gset (gset (gset (gset (gset_any _ _ _ _) _ _) _ _) _ _) _ _) _ _
 have hT5:Turn (fun k=>k=g) w5 ((((((w5.setCell ⟨g,i*6,none⟩ (.int .i64 x.who)).setCell ⟨g,i*6+1,none⟩ (.int .i64 x.seen)).setCell ⟨g,i*6+2,none⟩ (.slice x.b x.bl x.bn)).setCell ⟨g,i*6+3,none⟩ (.slice x.q x.ql x.qn)).setCell ⟨g,i*6+4,none⟩ (.int .i64 x.done)).setCell ⟨g,i*6+5,none⟩ (.int .i64 x.made)):=Turn.grown hg5 (fun k hk=>by injection hk with hk;exact hk.symm)
 refine ⟨h.put hT5 i x c ho ?_,hg5⟩
 obtain ⟨cs,mm,hg9⟩:=h.cli.ty g rfl
 obtain ⟨b,bn,q,qn,rfl,r1,r2⟩:=hx
 have hn:∀ (e:TypeId),e≠26→∀ k,k=g→∀ cs' m',w5.heap[k]?≠some (.cells cs' e m'):=by
  rintro e he k rfl cs' m' h2
  rw [hg9] at h2
  injection h2 with h2;injection h2 with _ h2
  exact he h2.symm
 exact ⟨b,bn,q,qn,rfl,r1.turn hT5 (hn _ (by decide)),r2.turn hT5 (hn _ (by decide))⟩
set_option maxRecDepth 100000 in
set_option maxHeartbeats 2000000 in
theorem who22_no (wd:Wd) (e:Ev) (base:Nat) (L:Option Addr) (ln:Nat) (C:Option Addr) (cc:Nat) (N:Option Addr) (nc:Nat) (xs:List RC) (ys:List RL) (w:World) (hp:WP w base wd L ln C cc N nc xs ys) (hb:base≤w.heap.size) (hw:WInv wd) (hn:¬(1≤e.who∧e.who≤3)) :
  Calls Tryz.prog 153 #[.agg (cW wd L ln C xs cc N ys nc),.agg (cV e)] w (StepP w base C N):=by
 have HIN:Hid (inR e.who 1 3=false):=by show _=_;unfold inR;simpa using hn
 have hE4:Ext w (((w.alloc (oW wd L ln C xs cc N ys nc)).alloc (oV e)).alloc (oW wd L ln C xs cc N ys nc)):=ext3 _ _ _ _
 have h3:=three_all w (oW wd L ln C xs cc N ys nc) (oV e) oW0
 obtain ⟨b0,b1,b2,b3,b4,bf⟩:=five_cells h3.1
 obtain ⟨e0,e1,e2,e3,e4,e5,e6,e7,ef⟩:=eight_cells h3.2.1
 have HZ:=Lib.hid (three_all w (oW wd L ln C xs cc N ys nc) (oV e) (oW wd L ln C xs cc N ys nc)).2.2;have HE4:=Lib.hid hE4
 have HPW:=Lib.hid (hp.ext hE4);have HW:=Lib.hid hw
 clear hE4 hn hp hw h3
 go_enter Tryz.func153,Tryz.ntmps153
 go_wp2_with fail
 refine (in_c _ _ _ _).mono ?_
 rintro r w' ⟨rfl,hw'⟩
 rw [HIN.out]
 subst hw'
 go_wp2_with fail
 obtain ⟨k0,k1,k2,k3,k4,kf⟩:=five_cells HZ.out
 refine bodyPost_ret (v:=.agg (cW wd L ln C xs cc N ys nc)) ?_ rfl ?_
 ·simp [results,Tryz.f153,go_sem]
 ·exact ⟨wd,L,ln,C,cc,N,nc,xs,ys,rfl,HW.out,HPW.out,Turn.ext HE4.out,fun k h=>.inl h⟩
set_option maxRecDepth 100000 in
set_option maxHeartbeats 4000000 in
theorem who22_do (wd:Wd) (e:Ev) (base:Nat) (L:Option Addr) (ln:Nat) (g cc:Nat) (N:Option Addr) (nc:Nat) (xs:List RC) (ys:List RL) (w:World) (hp:WP w base wd L ln (some ⟨g,0,none⟩) cc N nc xs ys) (hb:base≤w.heap.size) (hw:WInv wd) (i:Nat) (hd:e.who=(i:Int)+1) (hi:i<3) (h1:e.kind=1) (ho:OpW e.op) (hs:e.op.text.size≤maxLen) :
  Calls Tryz.prog 153 #[.agg (cW wd L ln (some ⟨g,0,none⟩) xs cc N ys nc),.agg (cV e)] w (StepP w base (some ⟨g,0,none⟩) N):=by
 have h3:=three_all w (oW wd L ln (some ⟨g,0,none⟩) xs cc N ys nc) (oV e) oW0
 have hE3:Ext w (((w.alloc (oW wd L ln (some ⟨g,0,none⟩) xs cc N ys nc)).alloc (oV e)).alloc oW0):=ext3 _ _ _ _
 have hz3:(((w.alloc (oW wd L ln (some ⟨g,0,none⟩) xs cc N ys nc)).alloc (oV e)).alloc oW0).heap.size=w.heap.size+3:=by simp only [alloc_sz]
 have HX1:=Lib.hid h3.1;have HX2:=Lib.hid h3.2.1;have HX3:=Lib.hid h3.2.2;have HE3:=Lib.hid hE3
 have HP:=Lib.hid (hp.ext hE3);have HW:=Lib.hid hw
 have hxl:xs.length=3:=by have:=hp.cls.1;have:=hw.three;omega
 have hi1:i<xs.length:=by omega
 have hi2:i<wd.cls.length:=by have:=hw.three;omega
 have hny:ys.length≤12:=by have:=hp.nets.1;have:=hw.net;omega
 have hgw:g<w.heap.size:=by
  obtain ⟨cs,mm,hg9⟩:=hp.cli.ty g rfl
  exact blk_lt hg9
 obtain ⟨xb,xo,he9,hbx,x0,x1,x2,x3,x4,x5⟩:=rc_at HP.out.cli.rdT.1 i hi1
 injection he9 with he9;injection he9 with he91 he92;subst he91;subst he92
 simp only [Nat.zero_add] at x0 x1 x2 x3 x4 x5
 have HXL:=Lib.hid hxl
 have hil:(i:Int)<xs.length:=by omega
 have hw1:IntKind.i64.wrap (e.who - 1)=(i:Int):=by rw [IntKind.wrap_i64];omega
 have HIN:Hid (inR e.who 1 3=true):=by show _=_;unfold inR;rw [decide_eq_true_eq];omega
 have HD:=Lib.hid hd
 have HCT:=Lib.hid (HP.out.ct i hi1 hi2)
 have HCO:=Lib.hid (hw.cls _ (List.getElem_mem hi2))
 have hfz:=HP.out.cli.frzw
 obtain ⟨b0,b1,b2,b3,b4,bf⟩:=five_cells h3.1
 obtain ⟨e0,e1,e2,e3,e4,e5,e6,e7,ef⟩:=eight_cells h3.2.1
 obtain ⟨d0,d1,d2,d3,d4,df⟩:=five_cells h3.2.2
 clear h3 hE3 hp hw hxl hd
 have h1':(e.kind == 1)=true:=by simp [h1]
 have HO:=Lib.hid ho;have HS9:=Lib.hid hs
 clear h1 ho hs
 go_enter Tryz.func153,Tryz.ntmps153
 go_wp2_with fail
 refine (in_c _ _ _ _).mono ?_
 rintro r w' ⟨rfl,hw'⟩
 rw [HIN.out]
 subst hw'
 generalize (((w.alloc (oW wd L ln (some ⟨g,0,none⟩) xs cc N ys nc)).alloc (oV e)).alloc oW0)=W3 at *
 go_upto_region 6 with fail
 have hE4:Ext W3 (W3.alloc (oR xs[i])):=(Below.refl _ _).alloc (Nat.le_refl _) _
 have HX4:=Lib.hid (World.alloc_heap_new W3 (oR xs[i]))
 have hz4:(W3.alloc (oR xs[i])).heap.size=w.heap.size+4:=by rw [alloc_sz,hz3]
 rw [hz3] at HX4
 have HE4:=Lib.hid hE4
 clear hE4 b0 b1 b2 b3 b4 bf e0 e1 e2 e3 e4 e5 e6 e7 ef d0 d1 d2 d3 d4 df x0 x1 x2 x3 x4 x5
 generalize (W3.alloc (oR xs[i]))=W4 at *
 have hs1:w.heap.size<W4.heap.size:=by omega
 have hs2:w.heap.size+1<W4.heap.size:=by omega
 have hs4:w.heap.size+3<W4.heap.size:=by omega
 have HY1:=Lib.hid ((HE4.out.block _ (blk_lt HX1.out)).trans HX1.out)
 have HY2:=Lib.hid ((HE4.out.block _ (blk_lt HX2.out)).trans HX2.out)
 have HY3:=Lib.hid ((HE4.out.block _ (blk_lt HX3.out)).trans HX3.out)
 have HP4:=Lib.hid (HP.out.ext HE4.out)
 have HE:=Lib.hid (HE3.out.trans (HE4.out.mono HE3.out.size))
 obtain ⟨b0,b1,b2,b3,b4,bf⟩:=five_cells HY1.out
 obtain ⟨f0,f1,f2,f3,f4,f5,f6,f7,ff⟩:=eight_cells HY2.out
 obtain ⟨c0,c1,c2,c3,c4,c5,cf⟩:=six_cells HX4.out
 have HC:=Lib.hid (do21_s wd.cls[i] _ e.op W4.drew ((HP4.out.ct i hi1 hi2).ext ((Below.refl _ _).drew)) HCO.out HO.out HS9.out)
 have HS:Hid (W4.drew.cell? ⟨w.heap.size,3,none⟩=some (.slice (some ⟨g,0,none⟩) xs.length cc)∧W4.drew.cell? ⟨w.heap.size+1,1,none⟩=some (.int .i64 e.who)∧W4.drew.cell? ⟨w.heap.size+1,3,none⟩=some (.int .i64 e.op.kind)∧W4.drew.cell? ⟨w.heap.size+1,4,none⟩=some (.int .i64 e.op.id)∧W4.drew.cell? ⟨w.heap.size+1,5,none⟩=some (.int .i64 e.op.up)∧W4.drew.cell? ⟨w.heap.size+1,6,none⟩=some (.int .i64 e.op.pos)∧W4.drew.cell? ⟨w.heap.size+1,7,none⟩=some (.string e.op.text)∧W4.drew.cell? ⟨w.heap.size+3,0,none⟩=some (.int .i64 xs[i].who)∧W4.drew.cell? ⟨w.heap.size+3,1,none⟩=some (.int .i64 xs[i].seen)∧W4.drew.cell? ⟨w.heap.size+3,2,none⟩=some (.slice xs[i].b xs[i].bl xs[i].bn)∧W4.drew.cell? ⟨w.heap.size+3,3,none⟩=some (.slice xs[i].q xs[i].ql xs[i].qn)∧W4.drew.cell? ⟨w.heap.size+3,4,none⟩=some (.int .i64 xs[i].done)∧W4.drew.cell? ⟨w.heap.size+3,5,none⟩=some (.int .i64 xs[i].made)):=Lib.hid ⟨b3,f1,f3,f4,f5,f6,f7,c0,c1,c2,c3,c4,c5⟩
 clear b0 b1 b2 b3 b4 bf f0 f1 f2 f3 f4 f5 f6 f7 ff c0 c1 c2 c3 c4 c5 cf
 refine wp_region_B (fun w'=>w'.cell? ⟨w.heap.size,3,none⟩=some (.slice (some ⟨g,0,none⟩) xs.length cc)∧w'.cell? ⟨w.heap.size+1,1,none⟩=some (.int .i64 e.who)∧w'.cell? ⟨w.heap.size+1,3,none⟩=some (.int .i64 e.op.kind)∧w'.cell? ⟨w.heap.size+1,4,none⟩=some (.int .i64 e.op.id)∧w'.cell? ⟨w.heap.size+1,5,none⟩=some (.int .i64 e.op.up)∧w'.cell? ⟨w.heap.size+1,6,none⟩=some (.int .i64 e.op.pos)∧w'.cell? ⟨w.heap.size+1,7,none⟩=some (.string e.op.text)∧w'.cell? ⟨w.heap.size+3,0,none⟩=some (.int .i64 xs[i].who)∧w'.cell? ⟨w.heap.size+3,1,none⟩=some (.int .i64 xs[i].seen)∧w'.cell? ⟨w.heap.size+3,2,none⟩=some (.slice xs[i].b xs[i].bl xs[i].bn)∧w'.cell? ⟨w.heap.size+3,3,none⟩=some (.slice xs[i].q xs[i].ql xs[i].qn)∧w'.cell? ⟨w.heap.size+3,4,none⟩=some (.int .i64 xs[i].done)∧w'.cell? ⟨w.heap.size+3,5,none⟩=some (.int .i64 xs[i].made)) 13 (by kernel_rfl) ?_
 refine WB.take (i:=0) (v:=?_) rfl (by kernel_rfl) (by kernel_rfl) (by kernel_rfl) (by kernel_rfl) (fun _ _ _ h=>h) HS.out (Or.inl ⟨by rfl,?_⟩) ?_
 rotate_left
 ·(rintro w ⟨s0,s1,s2,s3,s4,s5,s6,s7,s8,s9,s10,s11,s12⟩;go_simp;try with_reducible rfl)
 try simp only [Act.put,List.setIfInBounds_toArray,List.set_cons_zero,List.set_cons_succ]
 refine WB.take (i:=1) (v:=?_) rfl (by kernel_rfl) (by kernel_rfl) (by kernel_rfl) (by kernel_rfl) (fun _ _ _ h=>h) HS.out (Or.inl ⟨by rfl,?_⟩) ?_
 rotate_left
 ·(rintro w ⟨s0,s1,s2,s3,s4,s5,s6,s7,s8,s9,s10,s11,s12⟩;go_simp;try with_reducible rfl)
 try simp only [Act.put,List.setIfInBounds_toArray,List.set_cons_zero,List.set_cons_succ]
 refine WB.take (i:=2) (v:=?_) rfl (by kernel_rfl) (by kernel_rfl) (by kernel_rfl) (by kernel_rfl) (fun _ _ _ h=>h) HS.out (Or.inl ⟨by rfl,?_⟩) ?_
 rotate_left
 ·(rintro w ⟨s0,s1,s2,s3,s4,s5,s6,s7,s8,s9,s10,s11,s12⟩;go_simp;try with_reducible rfl)
 try simp only [Act.put,List.setIfInBounds_toArray,List.set_cons_zero,List.set_cons_succ]
 refine WB.take (i:=3) (v:=?_) rfl (by kernel_rfl) (by kernel_rfl) (by kernel_rfl) (by kernel_rfl) (fun _ _ _ h=>h) HS.out (Or.inl ⟨by rfl,?_⟩) ?_
 rotate_left
 ·(rintro w ⟨s0,s1,s2,s3,s4,s5,s6,s7,s8,s9,s10,s11,s12⟩;go_simp;try with_reducible rfl)
 try simp only [Act.put,List.setIfInBounds_toArray,List.set_cons_zero,List.set_cons_succ]
 refine WB.take (i:=4) (v:=?_) rfl (by kernel_rfl) (by kernel_rfl) (by kernel_rfl) (by kernel_rfl) (fun _ _ _ h=>h) HS.out (Or.inl ⟨by rfl,?_⟩) ?_
 rotate_left
 ·(rintro w ⟨s0,s1,s2,s3,s4,s5,s6,s7,s8,s9,s10,s11,s12⟩;go_simp;try with_reducible rfl)
 try simp only [Act.put,List.setIfInBounds_toArray,List.set_cons_zero,List.set_cons_succ]
 refine WB.take (i:=5) (v:=?_) rfl (by kernel_rfl) (by kernel_rfl) (by kernel_rfl) (by kernel_rfl) (fun _ _ _ h=>h) HS.out (Or.inl ⟨by rfl,?_⟩) ?_
 rotate_left
 ·(rintro w ⟨s0,s1,s2,s3,s4,s5,s6,s7,s8,s9,s10,s11,s12⟩;go_simp;try with_reducible rfl)
 try simp only [Act.put,List.setIfInBounds_toArray,List.set_cons_zero,List.set_cons_succ]
 refine WB.take (i:=6) (v:=?_) rfl (by kernel_rfl) (by kernel_rfl) (by kernel_rfl) (by kernel_rfl) (fun _ _ _ h=>h) HS.out (Or.inl ⟨by rfl,?_⟩) ?_
 rotate_left
 ·(rintro w ⟨s0,s1,s2,s3,s4,s5,s6,s7,s8,s9,s10,s11,s12⟩;go_simp;try with_reducible rfl)
 try simp only [Act.put,List.setIfInBounds_toArray,List.set_cons_zero,List.set_cons_succ]
 refine WB.take (i:=7) (v:=?_) rfl (by kernel_rfl) (by kernel_rfl) (by kernel_rfl) (by kernel_rfl) (fun _ _ _ h=>h) HS.out (Or.inl ⟨by rfl,?_⟩) ?_
 rotate_left
 ·(rintro w ⟨s0,s1,s2,s3,s4,s5,s6,s7,s8,s9,s10,s11,s12⟩;go_simp;try with_reducible rfl)
 try simp only [Act.put,List.setIfInBounds_toArray,List.set_cons_zero,List.set_cons_succ]
 refine WB.one (i:=8) (by kernel_rfl) rfl (fun K hK=>?_)
 have HK:=Lib.hid hK
 clear hK
 go_simp
 refine HC.out.mono ?_
 rintro r w5 ⟨v5,rfl,hct5,hb5⟩
 obtain ⟨x,rfl,hx⟩:=hct5.raw2
 have hE5:Ext W4 w5:=((Below.refl _ _).drew).trans hb5
 obtain ⟨q0,q1,q2,q3,q4,q5,q6,q7,q8,q9,q10,q11,q12⟩:=HS.out
 have HS5:Hid (w5.cell? ⟨w.heap.size,3,none⟩=some (.slice (some ⟨g,0,none⟩) xs.length cc)∧w5.cell? ⟨w.heap.size+1,1,none⟩=some (.int .i64 e.who)∧w5.cell? ⟨w.heap.size+1,3,none⟩=some (.int .i64 e.op.kind)∧w5.cell? ⟨w.heap.size+1,4,none⟩=some (.int .i64 e.op.id)∧w5.cell? ⟨w.heap.size+1,5,none⟩=some (.int .i64 e.op.up)∧w5.cell? ⟨w.heap.size+1,6,none⟩=some (.int .i64 e.op.pos)∧w5.cell? ⟨w.heap.size+1,7,none⟩=some (.string e.op.text)∧w5.cell? ⟨w.heap.size+3,0,none⟩=some (.int .i64 xs[i].who)∧w5.cell? ⟨w.heap.size+3,1,none⟩=some (.int .i64 xs[i].seen)∧w5.cell? ⟨w.heap.size+3,2,none⟩=some (.slice xs[i].b xs[i].bl xs[i].bn)∧w5.cell? ⟨w.heap.size+3,3,none⟩=some (.slice xs[i].q xs[i].ql xs[i].qn)∧w5.cell? ⟨w.heap.size+3,4,none⟩=some (.int .i64 xs[i].done)∧w5.cell? ⟨w.heap.size+3,5,none⟩=some (.int .i64 xs[i].made)):=Lib.hid ⟨(hb5.cell (p:=⟨w.heap.size,3,none⟩) hs1).trans q0,(hb5.cell (p:=⟨w.heap.size+1,1,none⟩) hs2).trans q1,(hb5.cell (p:=⟨w.heap.size+1,3,none⟩) hs2).trans q2,(hb5.cell (p:=⟨w.heap.size+1,4,none⟩) hs2).trans q3,(hb5.cell (p:=⟨w.heap.size+1,5,none⟩) hs2).trans q4,(hb5.cell (p:=⟨w.heap.size+1,6,none⟩) hs2).trans q5,(hb5.cell (p:=⟨w.heap.size+1,7,none⟩) hs2).trans q6,(hb5.cell (p:=⟨w.heap.size+3,0,none⟩) hs4).trans q7,(hb5.cell (p:=⟨w.heap.size+3,1,none⟩) hs4).trans q8,(hb5.cell (p:=⟨w.heap.size+3,2,none⟩) hs4).trans q9,(hb5.cell (p:=⟨w.heap.size+3,3,none⟩) hs4).trans q10,(hb5.cell (p:=⟨w.heap.size+3,4,none⟩) hs4).trans q11,(hb5.cell (p:=⟨w.heap.size+3,5,none⟩) hs4).trans q12⟩
 clear q0 q1 q2 q3 q4 q5 q6 q7 q8 q9 q10 q11 q12 hct5
 have hp5:=HP4.out.ext hE5
 obtain ⟨hp6,hg6⟩:=hp5.put6 i hi1 x (doS wd.cls[i] e.op).1 hx
 obtain ⟨xb,xo,he9,hbx5,x0,x1,x2,x3,x4,x5⟩:=rc_at hp5.cli.rdT.1 i hi1
 injection he9 with he9;injection he9 with he91 he92;subst he91;subst he92
 simp only [Nat.zero_add] at x0 x1 x2 x3 x4 x5
 have hf5:=hp5.cli.frzw
 have hzx:=(hg6.block _ (blk_lt ((hE5.block _ (blk_lt HY3.out)).trans HY3.out)) (by intro e;injection e with e;omega)).trans ((hE5.block _ (blk_lt HY3.out)).trans HY3.out)
 have hwx:=(hg6.block _ (blk_lt ((hE5.block _ (blk_lt HY1.out)).trans HY1.out)) (by intro e;injection e with e;omega)).trans ((hE5.block _ (blk_lt HY1.out)).trans HY1.out)
 have hT6:Turn (OwnB (some ⟨g,0,none⟩) N) w ((((((w5.setCell ⟨g,i*6,none⟩ (.int .i64 x.who)).setCell ⟨g,i*6+1,none⟩ (.int .i64 x.seen)).setCell ⟨g,i*6+2,none⟩ (.slice x.b x.bl x.bn)).setCell ⟨g,i*6+3,none⟩ (.slice x.q x.ql x.qn)).setCell ⟨g,i*6+4,none⟩ (.int .i64 x.done)).setCell ⟨g,i*6+5,none⟩ (.int .i64 x.made)):=(Turn.ext (HE.out.trans (hE5.mono (by omega)))).then (S':=OwnB (some ⟨g,0,none⟩) N) (Turn.grown hg6 (fun k hk=>by injection hk with hk;exact .inl (by rw [←hk];rfl))) (fun k hk=>.inl hk)
 have HP6:=Lib.hid hp6;have HZX:=Lib.hid hzx;have HWX:=Lib.hid hwx;have HT6:=Lib.hid hT6
 clear hp5 hp6 hg6 hzx hwx hT6 hE5 hb5 hfz
 refine HK.out _ _ ⟨fun _=>HS5.out,?_⟩
 clear HK K HS
 refine WB.takeP (i:=9) (v:=?_) rfl (by kernel_rfl) (by kernel_rfl) (by kernel_rfl) (by kernel_rfl) (fun _ _ _ h=>h) HS5.out (Or.inl ⟨by rfl,?_⟩) ?_
 rotate_left
 ·(rintro w -;go_simp;try with_reducible rfl)
 try simp only [Act.put,List.setIfInBounds_toArray,List.set_cons_zero,List.set_cons_succ]
 refine WB.takeP (i:=10) (v:=?_) rfl (by kernel_rfl) (by kernel_rfl) (by kernel_rfl) (by kernel_rfl) (fun _ _ _ h=>h) HS5.out (Or.inl ⟨by rfl,?_⟩) ?_
 rotate_left
 ·(rintro w -;go_simp;try with_reducible rfl)
 try simp only [Act.put,List.setIfInBounds_toArray,List.set_cons_zero,List.set_cons_succ]
 refine WB.takeP (i:=11) (v:=?_) rfl (by kernel_rfl) (by kernel_rfl) (by kernel_rfl) (by kernel_rfl) (fun _ _ _ h=>h) HS5.out (Or.inl ⟨by rfl,?_⟩) ?_
 rotate_left
 ·(rintro w -;go_simp;try with_reducible rfl)
 try simp only [Act.put,List.setIfInBounds_toArray,List.set_cons_zero,List.set_cons_succ]
 refine WB.takeP (i:=12) (v:=?_) rfl (by kernel_rfl) (by kernel_rfl) (by kernel_rfl) (by kernel_rfl) (fun _ _ _ h=>h) HS5.out (Or.inl ⟨by rfl,?_⟩) ?_
 rotate_left
 ·(rintro w -;go_simp;try with_reducible rfl)
 try simp only [Act.put,List.setIfInBounds_toArray,List.set_cons_zero,List.set_cons_succ]
 refine WB.one (i:=13) (by kernel_rfl) rfl (fun K hK=>?_)
 have HK:=Lib.hid hK
 clear hK
 go_simp
 refine HK.out _ _ ⟨fun h=>(no_late h (by kernel_rfl)).elim,?_⟩
 clear HK K x0 x1 x2 x3 x4 x5 HS5 HC
 refine WB.done (by kernel_rfl) ?_
 generalize ((((((w5.setCell ⟨g,i*6,none⟩ (.int .i64 x.who)).setCell ⟨g,i*6+1,none⟩ (.int .i64 x.seen)).setCell ⟨g,i*6+2,none⟩ (.slice x.b x.bl x.bn)).setCell ⟨g,i*6+3,none⟩ (.slice x.q x.ql x.qn)).setCell ⟨g,i*6+4,none⟩ (.int .i64 x.done)).setCell ⟨g,i*6+5,none⟩ (.int .i64 x.made))=W6 at *
 have hz:=put5_at (.slice L wd.log.length ln) (.int .i64 wd.safe) (.bool wd.up) (.slice (some ⟨g,0,none⟩) xs.length cc) (.slice N ys.length nc) HZX.out
 have hk:KeepT W6 (put5 W6 (w.heap.size+1+1) (.slice L wd.log.length ln) (.int .i64 wd.safe) (.bool wd.up) (.slice (some ⟨g,0,none⟩) xs.length cc) (.slice N ys.length nc)):=KeepT.grown (gset (gset (gset (gset (gset_any _ _ _ _) _ _) _ _) _ _) _ _) HZX.out (by decide) (by decide) (by decide) (by decide)
 have hwR:w.heap.size≤w.heap.size+1+1:=by omega
 have hT:Turn (OwnB (some ⟨g,0,none⟩) N) w (put5 W6 (w.heap.size+1+1) (.slice L wd.log.length ln) (.int .i64 wd.safe) (.bool wd.up) (.slice (some ⟨g,0,none⟩) xs.length cc) (.slice N ys.length nc)):=(((((HT6.out).setNew hwR 0 _).setNew hwR 1 _).setNew hwR 2 _).setNew hwR 3 _).setNew hwR 4 _
 have HZ9:=Lib.hid hz;have HP9:=Lib.hid ((HP6.out).keep hk);have HT9:=Lib.hid hT
 clear hz hk hT
 obtain ⟨b0,b1,b2,b3,b4,bf⟩:=five_cells HWX.out
 obtain ⟨d0,d1,d2,d3,d4,df⟩:=five_cells HZX.out
 go_wp2_with fail
 obtain ⟨k0,k1,k2,k3,k4,kf⟩:=five_cells HZ9.out
 refine bodyPost_ret (v:=.agg (cW wd L ln (some ⟨g,0,none⟩) xs cc N ys nc)) ?_ rfl ?_
 ·simp [results,Tryz.f153,go_sem,k0,k1,k2,k3,k4]
 ·exact ⟨{ wd with cls:=wd.cls.set i (doS wd.cls[i] e.op).1 },L,ln,_,cc,N,nc,xs.set i x,ys,by rw [List.length_set],set_cls_ok HW.out i (doS_ok HCO.out),HP9.out,HT9.out,fun k h=>.inl h⟩
end Go.Proofs.YtecmcjfdaipfcaaGreatDoor
