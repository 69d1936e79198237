/- Three blocks that are made one behind the other. .. Outlines that are ok, row by row: plain. -/
import Derived.Test.YtecmcjfdaipfcaaGreatDoorZAJ
import Derived.Test.YtecmcjfdaipfcaaGreatDoorZAI
import Derived.Deep.RegionWith
import Derived.Deep.RegionHeld3
import Derived.Deep.DeepCutAuto
import Derived.Deep.CutBlock
import Derived.Test.YtecmcjfdaipfcaaGreatDoorZAH
import Derived.BigQuiet
import Derived.Test.YtecmcjfdaipfcaaGreatDoorZAA
namespace Go.Proofs.YtecmcjfdaipfcaaGreatDoor
open Go.RowKit
set_option linter.unusedVariables false
theorem mid3_new (w:World) (x y z:Obj):(((w.alloc x).alloc y).alloc z).heap[w.heap.size+1]?=some y:=by
 have h:=(two_new w x y).2
 have hs:=blk_lt h
 exact (Below.heap_alloc _ z _ hs).trans h
theorem cells3 {W:World} {b:Nat} {v0 v1 v2:Value} {ty:TypeId} (h:W.heap[b]?=some (.cells #[v0,v1,v2] ty (0,0))) :
  W.cell? ⟨b,0,none⟩=some v0∧W.cell? ⟨b,1,none⟩=some v1∧W.cell? ⟨b,2,none⟩=some v2:=by
 refine ⟨by simp [World.cell?,h],by simp [World.cell?,h],by simp [World.cell?,h]⟩
theorem ext3 (w:World) (x y z:Obj):Ext w (((w.alloc x).alloc y).alloc z):=(((Below.refl _ w).alloc (Nat.le_refl _) x).alloc (by simp) y).alloc (by simp only [alloc_sz];omega) z
theorem three_all (w:World) (x y z:Obj):(((w.alloc x).alloc y).alloc z).heap[w.heap.size]?=some x∧(((w.alloc x).alloc y).alloc z).heap[w.heap.size+1]?=some y∧(((w.alloc x).alloc y).alloc z).heap[w.heap.size+2]?=some z:=by
 have h:=two_new w x y
 have hs:((w.alloc x).alloc y).heap.size=w.heap.size+2:=by simp only [alloc_sz]
 have hz:(((w.alloc x).alloc y).alloc z).heap[((w.alloc x).alloc y).heap.size]?=some z:=(MapKept.heap_alloc _ z).1
 rw [hs] at hz
 exact ⟨(Below.heap_alloc _ z _ (by omega)).trans h.1,(Below.heap_alloc _ z _ (by omega)).trans h.2,hz⟩
open Go.RowKit Go.Lib
set_option maxRecDepth 100000 in
set_option maxHeartbeats 2000000 in
theorem copy_s (c:Client) (v:Value) (w:World) (h:CV w c v) (hb:c.base.length≤1000000) (hw:c.wait.length≤1000000) :
  Calls Tryz.prog 33 #[v] w fun r w'=>∃ v',r=.returned v'∧CO w' w.heap.size c v'∧Ext w w':=by
 obtain ⟨A1,n1,A2,n2,rfl,h1,h2⟩:=h
 have H1:=Lib.hid h1;have H2:=Lib.hid h2
 have hX:=two_new w (oC c A1 n1 A2 n2) oC0
 have hE0:Ext w ((w.alloc (oC c A1 n1 A2 n2)).alloc oC0):=((Below.refl _ w).alloc (Nat.le_refl _) _).alloc (by rw [alloc_sz];omega) _
 have hs0:((w.alloc (oC c A1 n1 A2 n2)).alloc oC0).heap.size=w.heap.size+2:=by rw [alloc_sz,alloc_sz]
 obtain ⟨v3,w3,hrun,hown3,hg3⟩:=app_at el_row (own_made (e:=46) (α:=Row) ((w.alloc (oC c A1 n1 A2 n2)).alloc oC0) (w.heap.size+2) (by omega)) ((h1.ext hE0).alloc (.cells #[] 46)) (by simp;omega) (by rw [alloc_sz];omega)
 have hs3:=hg3.size
 rw [alloc_sz,hs0] at hs3
 have hE3:=ext_grown (hE0.alloc (by omega) (.cells #[] 46)) hg3 (by rw [alloc_sz];omega) (fun k hk=>by simp only [Value.ownBlock,Option.some.injEq] at hk;omega)
 have hx3:=(hg3.block w.heap.size (by rw [alloc_sz];omega) (fun e=>by simp only [Value.ownBlock,Option.some.injEq] at e;omega)).trans ((Below.heap_alloc _ (.cells #[] 46) w.heap.size (by omega)).trans hX.1)
 have hy3:=(hg3.block (w.heap.size+1) (by rw [alloc_sz];omega) (fun e=>by simp only [Value.ownBlock,Option.some.injEq] at e;omega)).trans ((Below.heap_alloc _ (.cells #[] 46) (w.heap.size+1) (by omega)).trans hX.2)
 rw [List.nil_append] at hown3
 obtain ⟨A3,n3,rfl,hr3⟩:=hown3.rd
 have HO3:=Lib.hid hown3;have HE3:=Lib.hid hE3;have HX3:=Lib.hid hx3;have HY3:=Lib.hid hy3
 simp only [alloc_sz] at hrun
 obtain ⟨c0,c1,c2,c3,c4,c5,cf⟩:=six_cells hx3
 have hlt1:w.heap.size<w3.heap.size:=by omega
 have hlt2:w.heap.size+1<w3.heap.size:=by omega
 have hE4:Ext w (w3.setCell ⟨w.heap.size,2,none⟩ (.slice A3 c.base.length n3)):=HE3.out.setCell (Nat.le_refl _) _
 have hs4:(w3.setCell ⟨w.heap.size,2,none⟩ (.slice A3 c.base.length n3)).heap.size=w3.heap.size:=setsz _ _ _
 obtain ⟨v5,w5,hrun5,hown5,hg5⟩:=app_at el_ent (own_made (e:=35) (α:=Entry) (w3.setCell ⟨w.heap.size,2,none⟩ (.slice A3 c.base.length n3)) w3.heap.size (by omega)) ((h2.ext hE4).alloc (.cells #[] 35)) (by simp;omega) (by rw [alloc_sz];omega)
 have hs5:=hg5.size
 rw [alloc_sz,hs4] at hs5
 have hE5:=ext_grown (hE4.alloc (by omega) (.cells #[] 35)) hg5 (by rw [alloc_sz];omega) (fun k hk=>by simp only [Value.ownBlock,Option.some.injEq] at hk;omega)
 have hx5:=(hg5.block w.heap.size (by rw [alloc_sz];omega) (fun e=>by simp only [Value.ownBlock,Option.some.injEq] at e;omega)).trans ((Below.heap_alloc _ (.cells #[] 35) w.heap.size (by omega)).trans (set_at hx3))
 have hy5:=(hg5.block (w.heap.size+1) (by rw [alloc_sz];omega) (fun e=>by simp only [Value.ownBlock,Option.some.injEq] at e;omega)).trans ((Below.heap_alloc _ (.cells #[] 35) (w.heap.size+1) (by omega)).trans ((setx (by omega)).trans hy3))
 have ho3:=hown3.of_blocks (w':=w5) (fun k hk hkl=>(hg5.block k (by rw [alloc_sz];omega) (fun e=>by simp only [Value.ownBlock,Option.some.injEq] at e;omega)).trans ((Below.heap_alloc _ (.cells #[] 35) k (by omega)).trans (setx (by omega))))
 rw [List.nil_append] at hown5
 obtain ⟨A5,n5,rfl,hr5⟩:=hown5.rd
 have HO5:=Lib.hid hown5;have HE5:=Lib.hid hE5;have HY5:=Lib.hid hy5;have HO3b:=Lib.hid ho3
 rw [hs4] at hrun5
 have hx5':w5.heap[w.heap.size]?=some (.cells (cC c A3 n3 A2 n2) 26 (0,0)):=hx5
 obtain ⟨d0,d1,d2,d3,d4,d5,df⟩:=six_cells hx5'
 obtain ⟨e0,e1,e2,e3,e4,e5,ef⟩:=six_cells hy5
 clear h1 h2 hX hE0 hs0 hown3 hr3 hg3 hE3 hx3 hy3 hE4 hs4 hown5 hg5 hE5 hx5 hy5 ho3 hr5 hx5'
 go_enter Tryz.func33,Tryz.ntmps33
 go_wp2_with (at_builtin;first | refine wpList_append_run rfl _ _ _ rfl rfl rfl hrun ?_ | refine wpList_append_run rfl _ _ _ rfl rfl rfl hrun5 ?_)
 have hz:=set_at (v:=.int .i64 c.made) (i:=5) (set_at (v:=.int .i64 c.done) (i:=4) (set_at (v:=.slice A5 c.wait.length n5) (i:=3) (set_at (v:=.slice A3 c.base.length n3) (i:=2) (set_at (v:=.int .i64 c.seen) (i:=1) (set_at (v:=.int .i64 c.who) (i:=0) ((setx (o:=3) (v:=.slice A5 c.wait.length n5) (b:=w.heap.size) (by omega)).trans HY5.out))))))
 obtain ⟨k0,k1,k2,k3,k4,k5,kf⟩:=six_cells (v0:=.int .i64 c.who) (v1:=.int .i64 c.seen) (v2:=.slice A3 c.base.length n3) (v3:=.slice A5 c.wait.length n5) (v4:=.int .i64 c.done) (v5:=.int .i64 c.made) hz
 refine bodyPost_ret (v:=.agg (cC c A3 n3 A5 n5)) ?_ rfl ?_
 ·simp [results,Tryz.f33,go_sem,k0,k1,k2,k3,k4,k5]
 ·have hfar:∀ k,w.heap.size+2≤k→(((((((w5.setCell ⟨w.heap.size,3,none⟩ (.slice A5 c.wait.length n5)).setCell ⟨w.heap.size+1,0,none⟩ (.int .i64 c.who)).setCell ⟨w.heap.size+1,1,none⟩ (.int .i64 c.seen)).setCell ⟨w.heap.size+1,2,none⟩ (.slice A3 c.base.length n3)).setCell ⟨w.heap.size+1,3,none⟩ (.slice A5 c.wait.length n5)).setCell ⟨w.heap.size+1,4,none⟩ (.int .i64 c.done)).setCell ⟨w.heap.size+1,5,none⟩ (.int .i64 c.made)).heap[k]?=w5.heap[k]?:=fun k hk=>
   (setx (by omega)).trans ((setx (by omega)).trans ((setx (by omega)).trans ((setx (by omega)).trans ((setx (by omega)).trans ((setx (by omega)).trans (setx (by omega)))))))
  have r1:=(HO3b.out.of_blocks (w':=_) (fun k hk hkl=>hfar k (by omega))).lower (base':=w.heap.size) (by omega)
  have r2:=(HO5.out.of_blocks (w':=_) (fun k hk hkl=>hfar k (by omega))).lower (base':=w.heap.size) (by omega)
  refine ⟨_,rfl,⟨_,_,_,_,rfl,r1,r2⟩,?_⟩
  exact (((((((HE5.out.setCell (Nat.le_refl _) _).setCell (Nat.le_succ _) _).setCell (Nat.le_succ _) _).setCell (Nat.le_succ _) _).setCell (Nat.le_succ _) _).setCell (Nat.le_succ _) _).setCell (Nat.le_succ _) _)
open Go.RowKit
theorem clientHear_c (c:Client) (v:Value) (frm:Int) (A:Option Addr) (cap:Nat) (l:List Entry) (w:World) (ht:Tab w) (h:CV w c v) (hr:Rd w A cap l) :
  Calls Tryz.prog 18 #[v,.int .i64 frm,.slice A l.length cap] w fun r w'=>∃ v',r=.returned (.tuple #[v',.bool (clientHear c frm l).2])∧CO w' w.heap.size (clientHear c frm l).1 v'∧Ext w w':=by
 by_cases hb:clientOk c=false∨frm<0∨40<frm
 ·exact clientHear_bad c v frm A cap l w ht h hr hb
 ·have hok:clientOk c=true:=by
   cases h9:clientOk c
   ·exact absurd (.inl h9) hb
   ·rfl
  have h0:¬frm<0:=fun e=>hb (.inr (.inl e))
  have h1:¬40<frm:=fun e=>hb (.inr (.inr e))
  cases hall:l.all entryOk
  ·exact clientHear_entry c v frm A cap l w ht h hr hok h0 h1 hall
  ·have hall':∀ x∈l,entryOk x=true:=List.all_eq_true.1 hall
   by_cases hf:c.seen<frm∨40 - frm<l.length
   ·exact clientHear_far c v frm A cap l w ht h hr hok h0 h1 hall' hf
   ·exact clientHear_go c v frm A cap l w ht h hr hok h0 h1 hall' (fun e=>hf (.inl e)) (fun e=>hf (.inr e))
open Go.RowKit Go.Lib
def hearS (c:Client) (frm:Int) (l:List Entry):Client × Bool:=
 if c.seen<frm∨40 - frm<l.length then (c,false)
 else match hearL c.who (l.drop (c.seen - frm).toNat) c.wait c.base c.done c.seen with
  |none=>(c,false)
  |some (q,t,d,n)=>(⟨c.who,n,t,q,d,c.made⟩,true)
def RdT {α:Type} [Flat α] (e:TypeId) (w:World) (A:Option Addr) (c:Nat) (l:List α):Prop:=Rd w A c l∧(0<l.length→∀ bb off,A=some ⟨bb,off,none⟩→∃ cs m,w.heap[bb]?=some (.cells cs e m))
section
variable {α:Type} [Flat α] {e:TypeId} {w w':World} {A:Option Addr} {c:Nat} {l:List α}
theorem RdT.ext (h:RdT e w A c l) (hb:Ext w w'):RdT e w' A c l:=by
 refine ⟨h.1.ext hb,fun h0 bb off e0=>?_⟩
 obtain ⟨cs,m,h1⟩:=h.2 h0 bb off e0
 exact ⟨cs,m,(hb.block bb (blk_lt h1)).trans h1⟩
theorem RdT.far {b:Nat} {cs:Array Value} {ty:TypeId} {m:Nat × Nat} (h:RdT e w A c l) (hb:w.heap[b]?=some (.cells cs ty m)) (hne:ty≠e) (h0:0<l.length) (bb off:Nat) (e0:A=some ⟨bb,off,none⟩):bb≠b:=by
 obtain ⟨cs',m',h1⟩:=h.2 h0 bb off e0
 rintro rfl
 rw [hb] at h1
 injection h1 with h1;injection h1 with _ h1
 exact hne h1
theorem RdT.set {b:Nat} {cs:Array Value} {ty:TypeId} {m:Nat × Nat} (h:RdT e w A c l) (hb:w.heap[b]?=some (.cells cs ty m)) (hne:ty≠e) (i:Nat) (v:Value):RdT e (w.setCell ⟨b,i,none⟩ v) A c l:=by
 refine ⟨⟨h.1.1,h.1.2.1,fun h0=>?_,h.1.2.2.2⟩,fun h0 bb off e0=>?_⟩
 ·obtain ⟨bb,off,rfl,hh⟩:=h.1.2.2.1 h0
  have:=h.far hb hne h0 bb off rfl
  exact ⟨bb,off,rfl,fun j v hv=>(World.cell?_of_block (setx (by show bb≠b;exact this))).trans (hh j v hv)⟩
 ·obtain ⟨cs',m',h1⟩:=h.2 h0 bb off e0
  exact ⟨cs',m',(setx (h.far hb hne h0 bb off e0)).trans h1⟩
theorem RdT.put6 {b:Nat} {a0 a1 a2 a3 a4 a5:Value} {ty:TypeId} (h:RdT e w A c l) (hb:w.heap[b]?=some (.cells #[a0,a1,a2,a3,a4,a5] ty (0,0))) (hne:ty≠e) (v0 v1 v2 v3 v4 v5:Value):RdT e (Proofs.YtecmcjfdaipfcaaGreatDoor.put6 w b v0 v1 v2 v3 v4 v5) A c l:=
 (((((h.set hb hne _ _).set (set_at hb) hne _ _).set (set_at (set_at hb)) hne _ _).set (set_at (set_at (set_at hb))) hne _ _).set (set_at (set_at (set_at (set_at hb)))) hne _ _).set (set_at (set_at (set_at (set_at (set_at hb))))) hne _ _
theorem RdT.nil (e:TypeId) (w:World):RdT e w none 0 ([]:List α):=⟨Rd.nil w,fun h=>by simp at h⟩
theorem RdT.tail (h:RdT e w A c l):RdT e w (fromA A c 1 (Flat.sz α)) (c - 1) (l.drop 1):=by
 by_cases hl:1≤l.length
 ·refine ⟨h.1.from_ 1 hl,fun h0 bb off e0=>?_⟩
  rw [List.length_drop] at h0
  obtain ⟨b',off',rfl,_⟩:=h.1.2.2.1 (by omega)
  have h2:=h.2 (by omega) b' off' rfl
  have hbb:bb=b':=by
   unfold fromA at e0
   split at e0
   ·injection e0 with e0;injection e0 with e1 _;exact e1.symm
   ·simp only [Option.map_some,Option.some.injEq] at e0
    unfold Addr.add at e0
    split at e0
    ·injection e0 with e1 _;exact e1.symm
    ·injection e0 with e1 _;exact e1.symm
  rw [hbb];exact h2
 ·have h0:l=[]:=by cases l with
   |nil=>rfl
   |cons x l=>simp at hl
  subst h0
  refine ⟨⟨by simp,by have:=h.1.2.1;omega,fun h0=>by simp at h0,by simp⟩,fun h0=>by simp at h0⟩
end
theorem Own.rdT {α:Type} [Flat α] {e:TypeId} {base:Nat} {w:World} {A:Option Addr} {c n:Nat} {l:List α} (h:Own e w base (.slice A n c) l):RdT e w A c l:=by
 obtain ⟨A',c',e',hr⟩:=h.rd
 simp only [Value.slice.injEq] at e'
 obtain ⟨rfl,-,rfl⟩:=e'
 refine ⟨hr,fun h0 bb off e0=>?_⟩
 subst e0
 rcases h.1.2 with ⟨h9,_⟩ | ⟨g,cap,cur,h9,_,hh,_⟩
 ·cases h9
 ·simp only [Value.slice.injEq,Option.some.injEq,Addr.mk.injEq] at h9
  obtain ⟨⟨rfl,_⟩,_⟩:=h9
  exact ⟨cur,_,hh⟩
def CT (w:World) (c:Client) (v:Value):Prop:=
 ∃ A1 n1 A2 n2,v=.agg #[.int .i64 c.who,.int .i64 c.seen,.slice A1 c.base.length n1,.slice A2 c.wait.length n2,.int .i64 c.done,.int .i64 c.made]∧RdT 46 w A1 n1 c.base∧RdT 35 w A2 n2 c.wait
theorem CT.cv {w:World} {c:Client} {v:Value} (h:CT w c v):CV w c v:=by
 obtain ⟨A1,n1,A2,n2,rfl,h1,h2⟩:=h
 exact ⟨A1,n1,A2,n2,rfl,h1.1,h2.1⟩
theorem CT.ext {w w':World} {c:Client} {v:Value} (h:CT w c v) (hb:Ext w w'):CT w' c v:=by
 obtain ⟨A1,n1,A2,n2,rfl,h1,h2⟩:=h
 exact ⟨A1,n1,A2,n2,rfl,h1.ext hb,h2.ext hb⟩
theorem CO.ct {w:World} {base:Nat} {c:Client} {v:Value} (h:CO w base c v):CT w c v:=by
 obtain ⟨A1,n1,A2,n2,rfl,h1,h2⟩:=h
 exact ⟨_,_,_,_,rfl,h1.rdT,h2.rdT⟩
def Sh (b:Nat) (W0 W:World) (c:Client) (B:Option Addr) (cb:Nat) (t:List Row) (Q:Option Addr) (cq:Nat) (q:List Entry) (d n:Int):Prop:=
 W.heap[b]?=some (.cells #[.int .i64 c.who,.int .i64 n,.slice B t.length cb,.slice Q q.length cq,.int .i64 d,.int .i64 c.made] 26 (0,0))∧RdT 46 W B cb t∧RdT 35 W Q cq q∧Below b W0 W
set_option maxRecDepth 100000 in
set_option maxHeartbeats 1000000 in
theorem hear_s (c:Client) (v:Value) (frm:Int) (A:Option Addr) (cap:Nat) (l:List Entry) (w:World) (h:CT w c v) (hr:Rd w A cap l) (hok:clientOk c=true) (hf0:0≤frm) (hf1:frm≤40) (hall:∀ x∈l,entryOk x=true) (hll:l.length≤2000000) :
  Calls Tryz.prog 162 #[v,.int .i64 frm,.slice A l.length cap] w fun r w'=>∃ v',r=.returned (.tuple #[v',.bool (hearS c frm l).2])∧CT w' (hearS c frm l).1 v'∧Ext w w':=by
 have HALL:=Lib.hid hall
 obtain ⟨hw9,hs0,hs40,htr,hd0,hd1,hwl,hm0,hm1,hwt⟩:=clientOk_parts hok
 have HTR:=Lib.hid htr
 obtain ⟨A1,n1,A2,n2,rfl,h1,h2⟩:=h
 have hX:=two_new w (oC c A1 n1 A2 n2) oC0
 have hE0:Ext w ((w.alloc (oC c A1 n1 A2 n2)).alloc oC0):=((Below.refl _ w).alloc (Nat.le_refl _) _).alloc (by rw [alloc_sz];omega) _
 have hz0:((w.alloc (oC c A1 n1 A2 n2)).alloc oC0).heap.size=w.heap.size+2:=by rw [alloc_sz,alloc_sz]
 have HR:=Lib.hid hr;have H1:=Lib.hid h1;have H2:=Lib.hid h2
 clear hw9 htr hm0 hm1 hwt hok hall
 by_cases hfar:c.seen<frm∨40 - frm<l.length
 ·have HRES:Hid (hearS c frm l=(c,false)):=by show _=_;unfold hearS;rw [if_pos hfar]
  have hz:=(two_new w (oC c A1 n1 A2 n2) (oC c A1 n1 A2 n2)).2
  have hE:Ext w ((w.alloc (oC c A1 n1 A2 n2)).alloc (oC c A1 n1 A2 n2)):=((Below.refl _ w).alloc (Nat.le_refl _) _).alloc (by rw [alloc_sz];omega) _
  have hcv:CT ((w.alloc (oC c A1 n1 A2 n2)).alloc (oC c A1 n1 A2 n2)) c (.agg (cC c A1 n1 A2 n2)):=⟨A1,n1,A2,n2,rfl,h1.ext hE,h2.ext hE⟩
  have HZ:=Lib.hid hz;have HE:=Lib.hid hE;have HCV:=Lib.hid hcv
  clear hX hE0 hz hE h1 h2 hr hcv
  by_cases hs:c.seen<frm
  ·clear hfar
   go_enter Tryz.func162,Tryz.ntmps162
   go_wp2_with fail
   obtain ⟨k0,k1,k2,k3,k4,k5,kf⟩:=six_cells HZ.out
   refine bodyPost_ret (v:=.tuple #[(.agg (cC c A1 n1 A2 n2)),.bool false]) ?_ rfl ?_
   ·simp [results,Tryz.f162,go_sem,k0,k1,k2,k3,k4,k5]
   ·exact ⟨_,by rw [HRES.out],by rw [HRES.out];exact HCV.out,HE.out⟩
  ·have hlong:(40:Int)<frm+l.length:=by omega
   clear hfar
   go_enter Tryz.func162,Tryz.ntmps162
   go_wp2_with fail
   obtain ⟨k0,k1,k2,k3,k4,k5,kf⟩:=six_cells HZ.out
   refine bodyPost_ret (v:=.tuple #[(.agg (cC c A1 n1 A2 n2)),.bool false]) ?_ rfl ?_
   ·simp [results,Tryz.f162,go_sem,k0,k1,k2,k3,k4,k5]
   ·exact ⟨_,by rw [HRES.out],by rw [HRES.out];exact HCV.out,HE.out⟩
 ·have hn1:¬c.seen<frm:=fun e=>hfar (.inl e)
  have hn2:¬(40:Int)<frm+l.length:=fun e=>hfar (.inr (by omega))
  obtain ⟨k0,hk0⟩:∃ k0:Nat,k0=(c.seen - frm).toNat:=⟨_,rfl⟩
  have hk1:frm+(k0:Int)=c.seen:=by omega
  have hmax:max (c.seen - frm) 0=(k0:Int):=by omega
  have hres:hearS c frm l=(match hearL c.who (l.drop k0) c.wait c.base c.done c.seen with | none=>(c,false) | some (q,t,d,n)=>(⟨c.who,n,t,q,d,c.made⟩,true)):=by
   unfold hearS;rw [if_neg hfar,hk0]
  have HRES:=Lib.hid hres
  obtain ⟨c0,c1,c2,c3,c4,c5,cf⟩:=six_cells hX.1
  have h3:=three_all w (oC c A1 n1 A2 n2) oC0 (oC c A1 n1 A2 n2)
  have hE3:Ext w (((w.alloc (oC c A1 n1 A2 n2)).alloc oC0).alloc (oC c A1 n1 A2 n2)):=hE0.alloc (by omega) _
  have hz3:(((w.alloc (oC c A1 n1 A2 n2)).alloc oC0).alloc (oC c A1 n1 A2 n2)).heap.size=w.heap.size+3:=by rw [alloc_sz,hz0]
  have hst:Sh (w.heap.size+1+1) (((w.alloc (oC c A1 n1 A2 n2)).alloc oC0).alloc (oC c A1 n1 A2 n2)) (((w.alloc (oC c A1 n1 A2 n2)).alloc oC0).alloc (oC c A1 n1 A2 n2)) c A1 n1 c.base A2 n2 c.wait c.done c.seen:=⟨h3.2.2,h1.ext hE3,h2.ext hE3,Below.refl _ _⟩
  have HST:=Lib.hid hst;have HE3:=Lib.hid hE3;have H31:=Lib.hid h3.1;have H32:=Lib.hid h3.2.1
  clear hX hE0 h1 h2 hr hres hfar hk0 h3 hE3 hst hz0
  go_enter Tryz.func162,Tryz.ntmps162
  go_wp2_with fail
  clear c0 c1 c2 c3 c4 c5 cf
  generalize (((w.alloc (oC c A1 n1 A2 n2)).alloc oC0).alloc (oC c A1 n1 A2 n2))=W3 at *
  have hne9:∀ W6:World,Below (w.heap.size+1+1) W3 W6→(put6 W6 (w.heap.size+1) (.int .i64 c.who) (.int .i64 c.seen) (.slice A1 c.base.length n1) (.slice A2 c.wait.length n2) (.int .i64 c.done) (.int .i64 c.made)).heap[w.heap.size+1]?=some (.cells (cC c A1 n1 A2 n2) 26 (0,0)) ∧
    CT (put6 W6 (w.heap.size+1) (.int .i64 c.who) (.int .i64 c.seen) (.slice A1 c.base.length n1) (.slice A2 c.wait.length n2) (.int .i64 c.done) (.int .i64 c.made)) c (.agg (cC c A1 n1 A2 n2))∧Ext w (put6 W6 (w.heap.size+1) (.int .i64 c.who) (.int .i64 c.seen) (.slice A1 c.base.length n1) (.slice A2 c.wait.length n2) (.int .i64 c.done) (.int .i64 c.made)):=fun W6 h6=>by
   have hE:Ext w (put6 W6 (w.heap.size+1) (.int .i64 c.who) (.int .i64 c.seen) (.slice A1 c.base.length n1) (.slice A2 c.wait.length n2) (.int .i64 c.done) (.int .i64 c.made)):=put6_below _ _ _ _ _ _ (HE3.out.trans (h6.mono (by omega))) (Nat.le_succ _)
   exact ⟨put6_at _ _ _ _ _ _ ((h6.block (w.heap.size+1) (by omega)).trans H32.out),⟨A1,n1,A2,n2,rfl,H1.out.ext hE,H2.out.ext hE⟩,hE⟩
  have HNE:=Lib.hid hne9
  clear hne9
  go_loopg [9] (l.length - k0) (fun gk i wr=>∃ (k:Nat) (B:Option Addr) (cb:Nat) (t:List Row) (Q:Option Addr) (cq:Nat) (q:List Entry) (d:Int),k0≤k∧(k≤l.length∨k=k0)∧Hid (gk=l.length - k)∧i=.int .i64 k∧Hid (Sh (w.heap.size+1+1) W3 wr c B cb t Q cq q d (frm+k))∧Hid (treeOk t=true)∧Hid (hearL c.who (l.drop k) q t d (frm+k)=hearL c.who (l.drop k0) c.wait c.base c.done c.seen)∧0≤d∧d≤c.done+k)
  case atStart=>exact ⟨k0,A1,n1,c.base,A2,n2,c.wait,c.done,Nat.le_refl _,.inr rfl,rfl,rfl,by show Sh _ _ _ _ _ _ _ _ _ _ _ _;rw [hk1];exact HST.out,HTR.out,by show _=_;rw [hk1],hd0,by omega⟩
  case round=>
   obtain ⟨k,B,cb,t,Q,cq,q,d,hk,hkl,HK,rfl,HS,HT,HH,hd2,hd3⟩:=hrel
   have hbW:=HS.out.2.2.2
   have hEr:Ext w wr:=HE3.out.trans (hbW.mono (by omega))
   have hbx:=(hbW.block w.heap.size (by omega)).trans H31.out
   have hby:=(hbW.block (w.heap.size+1) (by omega)).trans H32.out
   have hlt2:=blk_lt HS.out.1
   have hltb:=blk_lt hbx
   have HER:=Lib.hid hEr;have HBX:=Lib.hid hbx;have HBY:=Lib.hid hby;have HBW:=Lib.hid hbW
   clear hbW hEr
   by_cases hlt:k<l.length
   ·obtain ⟨b,off,rfl,hbl,e0,e1,e2,e3,e4,e5,e6⟩:=ent_at (HR.out.ext HER.out) k hlt
    obtain ⟨c0,c1,c2,c3,c4,c5,cf⟩:=six_cells hbx
    obtain ⟨x0,x1,x2,x3,x4,x5,xf⟩:=six_cells HS.out.1
    have hHH:=HH.out
    rw [List.drop_eq_getElem_cons hlt] at hHH
    have HHH:=Lib.hid hHH
    have hli:(k:Int)<l.length:=by omega
    have hek:=HALL.out _ (List.getElem_mem hlt)
    have HEK:=Lib.hid hek
    have hoe:=HR.out.okAt k hlt
    have HOE:=Lib.hid hoe
    have hfl:(frm+(k:Int))<40:=by omega
    have hcx:(frm+(k:Int))+1=frm+((k+1:Nat):Int):=by omega
    have HCX:=Lib.hid hcx
    clear hbx hby hHH hek hoe hcx
    by_cases hwho:l[k].who=c.who
    ·have hwho':(l[k].who == c.who)=true:=by simp [hwho]
     have HWHO:=Lib.hid hwho
     clear hwho
     cases q with
     |nil=>
      have hnone:hearL c.who (l.drop k0) c.wait c.base c.done c.seen=none:=by rw [←HHH.out];simp [hearL,HWHO.out]
      have HNONE:=Lib.hid hnone
      simp only [List.length_nil] at x3
      clear hnone
      go_wp2_with fail
      go_region
      go_wp2_with fail
      go_region
      obtain ⟨d0,d1,d2,d3,d4,d5,df⟩:=six_cells HBY.out
      go_wp2_with fail
      obtain ⟨hz,hco,hE⟩:=HNE.out wr HBW.out
      obtain ⟨k0',k1,k2,k3,k4,k5,kf⟩:=six_cells hz
      refine bodyPost_ret (v:=.tuple #[(.agg (cC c A1 n1 A2 n2)),.bool false]) ?_ rfl ?_
      ·simp [results,Tryz.f162,go_sem,k0',k1,k2,k3,k4,k5]
      ·have hr9:hearS c frm l=(c,false):=by rw [HRES.out,HNONE.out]
       exact ⟨_,by rw [hr9],by rw [hr9];exact hco.ext ((Below.refl _ _).drew.drew),Below.drew (Below.drew hE)⟩
     |cons y q=>
      obtain ⟨b2,off2,rfl,hbl2,q0,q1,q2,q3,q4,q5,q6⟩:=ent_at HS.out.2.2.1.1 0 (by simp)
      simp only [Nat.zero_mul,Nat.add_zero,List.getElem_cons_zero] at q0 q1 q2 q3 q4 q5 q6
      simp only [List.length_cons] at x3
      have hqc:=HS.out.2.2.1.1.1
      have hqm:=HS.out.2.2.1.1.2.1
      unfold maxLen at hqm
      simp only [List.length_cons] at hqc
      have hsz0:(((q.length:Int)+1) == 0)=false:=by rw [beq_eq_false_iff_ne];omega
      have hne:=neq_ent y l[k]
      by_cases hy:y=l[k]
      ·rw [decide_eq_true hy] at hne
       have hnext:hearL c.who (l.drop (k+1)) q (opDo t l[k].op) (d+1) (frm+((k+1:Nat):Int))=hearL c.who (l.drop k0) c.wait c.base c.done c.seen:=by rw [←HHH.out,←HCX.out];simp [hearL,HWHO.out,hy]
       have HNX:=Lib.hid hnext
       have hsl:∀ W:World,(Instr.slice 24 (.slice (some ⟨b2,off2,none⟩) (q.length+1) cq) (some (.int .i64 1)) none none).run Tryz.prog W=.ok (.slice (fromA (some ⟨b2,off2,none⟩) cq 1 7) q.length (cq - 1)) W:=fun W=>run_from (some ⟨b2,off2,none⟩) (q.length+1) cq 1 (by omega) W
       have hRQ:=HS.out.2.2.1.tail
       clear hnext hy
       have hRQ2:RdT 35 wr (fromA (some ⟨b2,off2,none⟩) cq 1 7) (cq - 1) q:=hRQ
       clear hRQ
       generalize fromA (some ⟨b2,off2,none⟩) cq 1 7=Q2 at hsl hRQ2
       have hRQ:=hRQ2
       clear hRQ2
       go_wp2_with fail
       go_region
       go_wp2_with fail
       go_region
       go_upto_region 12 with fail
       have hS2:Sh (w.heap.size+1+1) W3 ((wr.setCell ⟨w.heap.size+1+1,3,none⟩ (.slice Q2 q.length (cq - 1))).setCell ⟨w.heap.size+1+1,4,none⟩ (.int .i64 (d+1))).drew.drew c B cb t Q2 (cq - 1) q (d+1) (frm+k):=⟨set_at (set_at HS.out.1),((HS.out.2.1.set HS.out.1 (by decide) _ _).set (set_at HS.out.1) (by decide) _ _).ext ((Below.refl _ _).drew.drew),((hRQ.set HS.out.1 (by decide) _ _).set (set_at HS.out.1) (by decide) _ _).ext ((Below.refl _ _).drew.drew),((HBW.out.setCell (Nat.le_refl _) _).setCell (Nat.le_refl _) _).drew.drew⟩
       have hE2:Ext w ((wr.setCell ⟨w.heap.size+1+1,3,none⟩ (.slice Q2 q.length (cq - 1))).setCell ⟨w.heap.size+1+1,4,none⟩ (.int .i64 (d+1))).drew.drew:=HE3.out.trans (hS2.2.2.2.mono (by omega))
       have hT:=HT.out
       have hop:=entryOk_op HEK.out
       have hod:opDo t l[k].op=doL t l[k].op:=by unfold opDo;rw [hT,hop];rfl
       have htn:treeOk (opDo t l[k].op)=true:=by rw [hod];exact treeOk_do t _ hT hop
       clear e0 e1 e2 e3 e4 e5 e6 x0 x1 x2 x3 x4 x5 xf c0 c1 c2 c3 c4 c5 cf hsl hne q0 q1 q2 q3 q4 q5 q6
       generalize ((wr.setCell ⟨w.heap.size+1+1,3,none⟩ (.slice Q2 q.length (cq - 1))).setCell ⟨w.heap.size+1+1,4,none⟩ (.int .i64 (d+1))).drew.drew=wt at *
       have hC:=do_s B cb t l[k].op wt.drew (hS2.2.1.1.ext ((Below.refl _ _).drew)) hT hop HOE.out
       rw [←hod] at hC
       obtain ⟨b9,off9,e9,hbl9,e0,e1,e2,e3,e4,e5,e6⟩:=ent_at (HR.out.ext hE2) k hlt
       injection e9 with e9;injection e9 with e91 e92;subst e91;subst e92
       obtain ⟨x0,x1,x2,x3,x4,x5,xf⟩:=six_cells hS2.1
       have hltx:=blk_lt hS2.1
       have hfin:∀ (w5:World) (B2:Option Addr) (cb2:Nat),Own 46 w5 wt.drew.heap.size (.slice B2 (opDo t l[k].op).length cb2) (opDo t l[k].op)→Ext wt.drew w5→Sh (w.heap.size+1+1) W3 (w5.setCell ⟨w.heap.size+1+1,2,none⟩ (.slice B2 (opDo t l[k].op).length cb2)) c B2 cb2 (opDo t l[k].op) Q2 (cq - 1) q (d+1) (frm+k):=fun w5 B2 cb2 ho5 hb5=>by
        have hx:Ext wt w5:=((Below.refl _ _).drew).trans hb5
        exact ⟨set_at ((hx.block _ hltx).trans hS2.1),ho5.rdT.set ((hx.block _ hltx).trans hS2.1) (by decide) _ _,(hS2.2.2.1.ext hx).set ((hx.block _ hltx).trans hS2.1) (by decide) _ _,(hS2.2.2.2.trans (hx.mono (Nat.le_of_lt hltx))).setCell (Nat.le_refl _) _⟩
       have HFIN:=Lib.hid hfin;have HC:=Lib.hid hC;have HS2:=Lib.hid hS2;have HTN:=Lib.hid htn;have HX2:=Lib.hid hS2.1
       clear hfin hC hS2 hE2 hT hop hod htn
       go_cut [73] (fun s wx=>∃ (B2:Option Addr) (cb2:Nat),s=.slice B2 (opDo t l[k].op).length cb2∧Hid (Sh (w.heap.size+1+1) W3 wx c B2 cb2 (opDo t l[k].op) Q2 (cq - 1) q (d+1) (frm+k)))
       case first=>
        go_region_with (go_at_call 74;refine HC.out.mono ?_;rintro e w5 ⟨v5,rfl,ho5,hb5⟩;obtain ⟨B2,cb2,rfl,-⟩:=ho5.rd;have hx5:=(hb5.block _ hltx).trans HX2.out;obtain ⟨z0,z1,z2,z3,z4,z5,zf⟩:=six_cells hx5;have HO5:=Lib.hid ho5;have HB5:=Lib.hid hb5;clear ho5 hb5 hx5 z0 z1 z3 z4 z5)
        all_goals
         go_wp2_with fail
         go_meet
         exact ⟨_,_,rfl,HFIN.out _ _ _ HO5.out HB5.out⟩
       case rest=>
        obtain ⟨B2,cb2,rfl,HS9⟩:=hcut
        clear e0 e1 e2 e3 e4 e5 e6 x0 x1 x2 x3 x4 x5 xf
        obtain ⟨x0,x1,x2,x3,x4,x5,xf⟩:=six_cells HS9.out.1
        go_wp2_with fail
        go_roundg (l.length - (k+1))
        case measure=>have:=HK.out;omega
        case rel=>
         refine ⟨k+1,B2,cb2,opDo t l[k].op,Q2,(cq - 1),q,(d+1),by omega,.inl (by omega),rfl,by go_num,?_,HTN.out,HNX.out,by omega,by omega⟩
         show Sh _ _ _ _ _ _ _ _ _ _ _ _
         rw [←HCX.out]
         exact ⟨set_at HS9.out.1,HS9.out.2.1.set HS9.out.1 (by decide) _ _,HS9.out.2.2.1.set HS9.out.1 (by decide) _ _,HS9.out.2.2.2.setCell (Nat.le_refl _) _⟩
      ·rw [decide_eq_false hy] at hne
       have hnone:hearL c.who (l.drop k0) c.wait c.base c.done c.seen=none:=by rw [←HHH.out];simp [hearL,HWHO.out,hy]
       have HNONE:=Lib.hid hnone
       clear hnone hy
       go_wp2_with fail
       go_region
       go_wp2_with fail
       go_region
       obtain ⟨d0,d1,d2,d3,d4,d5,df⟩:=six_cells HBY.out
       go_wp2_with fail
       obtain ⟨hz,hco,hE⟩:=HNE.out wr HBW.out
       obtain ⟨k0',k1,k2,k3,k4,k5,kf⟩:=six_cells hz
       refine bodyPost_ret (v:=.tuple #[(.agg (cC c A1 n1 A2 n2)),.bool false]) ?_ rfl ?_
       ·simp [results,Tryz.f162,go_sem,k0',k1,k2,k3,k4,k5]
       ·have hr9:hearS c frm l=(c,false):=by rw [HRES.out,HNONE.out]
        exact ⟨_,by rw [hr9],by rw [hr9];exact hco.ext ((Below.refl _ _).drew.drew),Below.drew (Below.drew hE)⟩
    ·have hwho':(l[k].who == c.who)=false:=by simp [hwho]
     have HWHO:=Lib.hid hwho
     have hnext:hearL c.who (l.drop (k+1)) q (opDo t l[k].op) d (frm+((k+1:Nat):Int))=hearL c.who (l.drop k0) c.wait c.base c.done c.seen:=by rw [←HHH.out,←HCX.out];simp [hearL,hwho]
     have HNX:=Lib.hid hnext
     clear hwho hnext
     go_wp2_with fail
     go_region
     go_upto_region 12 with fail
     have hS2:Sh (w.heap.size+1+1) W3 wr.drew c B cb t Q cq q d (frm+k):=⟨HS.out.1,HS.out.2.1.ext ((Below.refl _ _).drew),HS.out.2.2.1.ext ((Below.refl _ _).drew),HBW.out.drew⟩
     have hE2:Ext w wr.drew:=HE3.out.trans (hS2.2.2.2.mono (by omega))
     have hT:=HT.out
     have hop:=entryOk_op HEK.out
     have hod:opDo t l[k].op=doL t l[k].op:=by unfold opDo;rw [hT,hop];rfl
     have htn:treeOk (opDo t l[k].op)=true:=by rw [hod];exact treeOk_do t _ hT hop
     clear e0 e1 e2 e3 e4 e5 e6 x0 x1 x2 x3 x4 x5 xf c0 c1 c2 c3 c4 c5 cf
     generalize wr.drew=wt at *
     have hC:=do_s B cb t l[k].op wt.drew (hS2.2.1.1.ext ((Below.refl _ _).drew)) hT hop HOE.out
     rw [←hod] at hC
     obtain ⟨b9,off9,e9,hbl9,e0,e1,e2,e3,e4,e5,e6⟩:=ent_at (HR.out.ext hE2) k hlt
     injection e9 with e9;injection e9 with e91 e92;subst e91;subst e92
     obtain ⟨x0,x1,x2,x3,x4,x5,xf⟩:=six_cells hS2.1
     have hltx:=blk_lt hS2.1
     have hfin:∀ (w5:World) (B2:Option Addr) (cb2:Nat),Own 46 w5 wt.drew.heap.size (.slice B2 (opDo t l[k].op).length cb2) (opDo t l[k].op)→Ext wt.drew w5→Sh (w.heap.size+1+1) W3 (w5.setCell ⟨w.heap.size+1+1,2,none⟩ (.slice B2 (opDo t l[k].op).length cb2)) c B2 cb2 (opDo t l[k].op) Q cq q d (frm+k):=fun w5 B2 cb2 ho5 hb5=>by
      have hx:Ext wt w5:=((Below.refl _ _).drew).trans hb5
      exact ⟨set_at ((hx.block _ hltx).trans hS2.1),ho5.rdT.set ((hx.block _ hltx).trans hS2.1) (by decide) _ _,(hS2.2.2.1.ext hx).set ((hx.block _ hltx).trans hS2.1) (by decide) _ _,(hS2.2.2.2.trans (hx.mono (Nat.le_of_lt hltx))).setCell (Nat.le_refl _) _⟩
     have HFIN:=Lib.hid hfin;have HC:=Lib.hid hC;have HS2:=Lib.hid hS2;have HTN:=Lib.hid htn;have HX2:=Lib.hid hS2.1
     clear hfin hC hS2 hE2 hT hop hod htn
     go_cut [73] (fun s wx=>∃ (B2:Option Addr) (cb2:Nat),s=.slice B2 (opDo t l[k].op).length cb2∧Hid (Sh (w.heap.size+1+1) W3 wx c B2 cb2 (opDo t l[k].op) Q cq q d (frm+k)))
     case first=>
      go_region_with (go_at_call 74;refine HC.out.mono ?_;rintro e w5 ⟨v5,rfl,ho5,hb5⟩;obtain ⟨B2,cb2,rfl,-⟩:=ho5.rd;have hx5:=(hb5.block _ hltx).trans HX2.out;obtain ⟨z0,z1,z2,z3,z4,z5,zf⟩:=six_cells hx5;have HO5:=Lib.hid ho5;have HB5:=Lib.hid hb5;clear ho5 hb5 hx5 z0 z1 z3 z4 z5)
      all_goals
       go_wp2_with fail
       go_meet
       exact ⟨_,_,rfl,HFIN.out _ _ _ HO5.out HB5.out⟩
     case rest=>
      obtain ⟨B2,cb2,rfl,HS9⟩:=hcut
      clear e0 e1 e2 e3 e4 e5 e6 x0 x1 x2 x3 x4 x5 xf
      obtain ⟨x0,x1,x2,x3,x4,x5,xf⟩:=six_cells HS9.out.1
      go_wp2_with fail
      go_roundg (l.length - (k+1))
      case measure=>have:=HK.out;omega
      case rel=>
       refine ⟨k+1,B2,cb2,opDo t l[k].op,Q,cq,q,d,by omega,.inl (by omega),rfl,by go_num,?_,HTN.out,HNX.out,by omega,by omega⟩
       show Sh _ _ _ _ _ _ _ _ _ _ _ _
       rw [←HCX.out]
       exact ⟨set_at HS9.out.1,HS9.out.2.1.set HS9.out.1 (by decide) _ _,HS9.out.2.2.1.set HS9.out.1 (by decide) _ _,HS9.out.2.2.2.setCell (Nat.le_refl _) _⟩
   ·have hres:hearS c frm l=(⟨c.who,frm+k,t,q,d,c.made⟩,true):=by
     rw [HRES.out,←HH.out,List.drop_of_length_le (by omega)];rfl
    obtain ⟨x0,x1,x2,x3,x4,x5,xf⟩:=six_cells HS.out.1
    obtain ⟨d0,d1,d2,d3,d4,d5,df⟩:=six_cells hby
    have hz:=put6_at (.int .i64 c.who) (.int .i64 (frm+k)) (.slice B t.length cb) (.slice Q q.length cq) (.int .i64 d) (.int .i64 c.made) hby
    have hE:Ext w (put6 wr (w.heap.size+1) (.int .i64 c.who) (.int .i64 (frm+k)) (.slice B t.length cb) (.slice Q q.length cq) (.int .i64 d) (.int .i64 c.made)):=put6_below _ _ _ _ _ _ HER.out (Nat.le_succ _)
    have hcv:CT (put6 wr (w.heap.size+1) (.int .i64 c.who) (.int .i64 (frm+k)) (.slice B t.length cb) (.slice Q q.length cq) (.int .i64 d) (.int .i64 c.made)) ⟨c.who,frm+k,t,q,d,c.made⟩ (.agg #[.int .i64 c.who,.int .i64 (frm+k),.slice B t.length cb,.slice Q q.length cq,.int .i64 d,.int .i64 c.made]):=⟨B,cb,Q,cq,rfl,HS.out.2.1.put6 hby (by decide) _ _ _ _ _ _,HS.out.2.2.1.put6 hby (by decide) _ _ _ _ _ _⟩
    have HCV:=Lib.hid hcv
    have HZ:=Lib.hid hz;have HE:=Lib.hid hE;have HRS:=Lib.hid hres
    have hli:¬((k:Int)<l.length):=by omega
    clear hbx hby hz hE hres hcv
    go_wp2_with fail
    obtain ⟨k0',k1,k2,k3,k4,k5,kf⟩:=six_cells HZ.out
    refine bodyPost_ret (v:=.tuple #[.agg #[.int .i64 c.who,.int .i64 (frm+k),.slice B t.length cb,.slice Q q.length cq,.int .i64 d,.int .i64 c.made],.bool true]) ?_ rfl ?_
    ·simp [results,Tryz.f162,go_sem,k0',k1,k2,k3,k4,k5]
    ·exact ⟨_,by rw [HRS.out],by rw [HRS.out];exact HCV.out,HE.out⟩
open Go.RowKit
set_option maxHeartbeats 400000 in
theorem rowOk_s (r:Row) (w:World) (hi:i64 r.id) (hs:r.text.size≤maxLen) :
  Calls Tryz.prog 89 #[.agg #[.int .i64 r.id,.int .i64 r.depth,.string r.text]] w fun x w'=>x=.returned (.bool (rowOk r))∧Ext w w':=by
 have HE:Hid (Ext w (w.alloc (.cells #[.int .i64 r.id,.int .i64 r.depth,.string r.text] 46))):=(Below.refl _ w).alloc (Nat.le_refl _) _
 have HC:=Lib.hid (root_s r.id (w.alloc (.cells #[.int .i64 r.id,.int .i64 r.depth,.string r.text] 46)))
 have HBX:=Lib.hid (World.alloc_heap_new w (.cells #[.int .i64 r.id,.int .i64 r.depth,.string r.text] 46))
 cases hroot:isRoot r.id
 ·rw [hroot] at HC
  have HM:=Lib.hid (made_s r.id (w.alloc (.cells #[.int .i64 r.id,.int .i64 r.depth,.string r.text] 46)) hi)
  have HD:=Lib.hid (in_c r.depth 1 18 (w.alloc (.cells #[.int .i64 r.id,.int .i64 r.depth,.string r.text] 46)))
  have HT:=Lib.hid (text_s r.text (w.alloc (.cells #[.int .i64 r.id,.int .i64 r.depth,.string r.text] 46)) hs)
  have HK:Hid (rowOk r=(isMade r.id&&inR r.depth 1 18&&textOk r.text)):=by show _=_;unfold rowOk;rw [hroot];rfl
  clear hroot hi hs
  cases hm:isMade r.id
  ·rw [hm] at HM HK
   clear hm
   go_enter Tryz.func89,Tryz.ntmps89
   go_wp2_with fail
   refine HC.out.mono ?_;rintro x w' ⟨rfl,rfl⟩
   go_wp2_with fail
   refine HM.out.mono ?_;rintro x w' ⟨rfl,rfl⟩
   go_wp2_with fail
   go_ret
   exact ⟨by rw [HK.out];rfl,HE.out⟩
  ·rw [hm] at HM HK
   clear hm
   cases hd:inR r.depth 1 18
   ·rw [hd] at HD HK
    clear hd
    go_enter Tryz.func89,Tryz.ntmps89
    go_wp2_with fail
    refine HC.out.mono ?_;rintro x w' ⟨rfl,rfl⟩
    go_wp2_with fail
    refine HM.out.mono ?_;rintro x w' ⟨rfl,rfl⟩
    go_wp2_with fail
    refine HD.out.mono ?_;rintro x w' ⟨rfl,rfl⟩
    go_wp2_with fail
    go_ret
    exact ⟨by rw [HK.out];rfl,HE.out⟩
   ·rw [hd] at HD HK
    clear hd
    go_enter Tryz.func89,Tryz.ntmps89
    go_wp2_with fail
    refine HC.out.mono ?_;rintro x w' ⟨rfl,rfl⟩
    go_wp2_with fail
    refine HM.out.mono ?_;rintro x w' ⟨rfl,rfl⟩
    go_wp2_with fail
    refine HD.out.mono ?_;rintro x w' ⟨rfl,rfl⟩
    go_wp2_with fail
    refine HT.out.mono ?_;rintro x w' ⟨rfl,rfl⟩
    go_wp2_with fail
    go_ret
    exact ⟨by rw [HK.out];rfl,HE.out⟩
 ·rw [hroot] at HC
  have HK:Hid (rowOk r=(decide (r.depth=0)&&r.text.toList.isEmpty)):=by show _=_;unfold rowOk;rw [hroot,←decide_eq_emptyBytes r.text];rfl
  clear hroot hi hs
  by_cases hd:r.depth=0
  ·have hd':(r.depth == 0)=true:=by simp [hd]
   have HR:Hid (rowOk r=r.text.toList.isEmpty):=by show _=_;rw [HK.out,decide_eq_true hd];rfl
   clear hd
   go_enter Tryz.func89,Tryz.ntmps89
   go_wp2_with fail
   refine HC.out.mono ?_;rintro x w' ⟨rfl,rfl⟩
   go_wp2_with fail
   go_ret
   exact ⟨by rw [HR.out];first | rfl | simp [hd'],HE.out⟩
  ·have hd':(r.depth == 0)=false:=by simp [hd]
   have HR:Hid (rowOk r=false):=by show _=_;rw [HK.out,decide_eq_false hd];rfl
   clear hd
   go_enter Tryz.func89,Tryz.ntmps89
   go_wp2_with fail
   refine HC.out.mono ?_;rintro x w' ⟨rfl,rfl⟩
   go_wp2_with fail
   go_ret
   exact ⟨by rw [HR.out];first | rfl | simp [hd'],HE.out⟩
def rootsN (l:List Row):Nat:=l.countP (fun r=>isRoot r.id)
def dAt (t:List Row):Nat→Int
 |0=>-1
 |k+1=>match t[k]? with | some x=>x.depth | none=>0
def GT (t:List Row) (k:Nat):Prop:=∀ r,t[k]?=some r→rowOk r=true∧r.depth≤dAt t k+1∧(isRoot r.id=true→r.id=rootsN (t.take k)+1)∧∀ x∈t.take k,x.id≠r.id
theorem treeOkF_iff:∀ (l pre:List Row) (seen:List Int) (R d:Int),(∀ x,x∈seen↔∃ q∈pre,q.id=x)→R=rootsN pre→d=dAt (pre++l) pre.length →
  (treeOkF seen R d l=true↔(∀ k,pre.length≤k→k<(pre++l).length→GT (pre++l) k)∧rootsN (pre++l)=3):=by
 intro l
 induction l with
 |nil=>
  intro pre seen R d hs hR hd
  simp only [treeOkF,decide_eq_true_eq,List.append_nil]
  constructor
  ·intro h;exact ⟨fun k h1 h2=>by omega,by omega⟩
  ·intro h;omega
 |cons r l ih=>
  intro pre seen R d hs hR hd
  have hat:(pre++r::l)[pre.length]?=some r:=by simp
  have htk:(pre++r::l).take pre.length=pre:=by simp
  have he:pre++r::l=(pre++[r])++l:=by simp
  have hs':∀ x,x∈r.id::seen↔∃ q∈pre++[r],q.id=x:=by
   intro x
   simp only [List.mem_cons,hs,List.mem_append,List.not_mem_nil,or_false]
   constructor
   ·rintro (h | ⟨q,hq,h⟩)
    ·exact ⟨r,.inr rfl,h.symm⟩
    ·exact ⟨q,.inl hq,h⟩
   ·rintro ⟨q,hq | rfl,h⟩
    ·exact .inr ⟨q,hq,h⟩
    ·exact .inl h.symm
  have hd':r.depth=dAt ((pre++[r])++l) (pre++[r]).length:=by rw [←he];simp [dAt]
  have hsplit:(∀ k,pre.length≤k→k<(pre++r::l).length→GT (pre++r::l) k)↔GT (pre++r::l) pre.length∧∀ k,(pre++[r]).length≤k→k<((pre++[r])++l).length→GT ((pre++[r])++l) k:=by
   rw [←he]
   constructor
   ·intro h
    exact ⟨h _ (Nat.le_refl _) (by simp),fun k h1 h2=>h k (by simp at h1;omega) h2⟩
   ·rintro ⟨h0,h⟩ k h1 h2
    by_cases e:k=pre.length
    ·subst e;exact h0
    ·exact h k (by simp;omega) h2
  have hgt:GT (pre++r::l) pre.length↔rowOk r=true∧r.depth≤d+1∧(isRoot r.id=true→r.id=R+1)∧∀ x∈pre,x.id≠r.id:=by
   unfold GT
   rw [hat,htk,←hd,hR]
   constructor
   ·intro h;exact h r rfl
   ·intro h r' e;obtain rfl:=Option.some.inj e;exact h
  have hseen:seen.contains r.id=true↔∃ x∈pre,x.id=r.id:=by rw [List.contains_iff_mem,hs]
  rw [hsplit,hgt]
  unfold treeOkF
  by_cases hr:isRoot r.id=true
  ·have hR':R+1=((rootsN (pre++[r]):Nat):Int):=by
    unfold rootsN at hR ⊢;rw [List.countP_append];simp [hr];omega
   have:=ih (pre++[r]) (r.id::seen) (R+1) r.depth hs' hR' hd'
   rw [if_pos hr]
   simp only [Bool.and_eq_true,decide_eq_true_eq,Bool.not_eq_true',this,hr,true_implies]
   rw [←he]
   constructor
   ·rintro ⟨⟨⟨h1,h2⟩,h3⟩,h4,h5,h6⟩
    exact ⟨⟨⟨h1,h3,h4,fun x hx e=>by rw [hseen.2 ⟨x,hx,e⟩] at h2;cases h2⟩,h5⟩,h6⟩
   ·rintro ⟨⟨⟨h1,h3,h4,h2⟩,h5⟩,h6⟩
    refine ⟨⟨⟨h1,?_⟩,h3⟩,h4,h5,h6⟩
    rw [Bool.eq_false_iff];intro hc;obtain ⟨x,hx,e⟩:=hseen.1 hc;exact h2 x hx e
  ·have hR':R=((rootsN (pre++[r]):Nat):Int):=by
    unfold rootsN at hR ⊢;rw [List.countP_append];simp [hr];omega
   have:=ih (pre++[r]) (r.id::seen) R r.depth hs' hR' hd'
   rw [if_neg hr]
   simp only [Bool.and_eq_true,decide_eq_true_eq,Bool.not_eq_true',this]
   rw [←he]
   constructor
   ·rintro ⟨⟨⟨h1,h2⟩,h3⟩,h5,h6⟩
    exact ⟨⟨⟨h1,h3,fun h=>absurd h hr,fun x hx e=>by rw [hseen.2 ⟨x,hx,e⟩] at h2;cases h2⟩,h5⟩,h6⟩
   ·rintro ⟨⟨⟨h1,h3,h4,h2⟩,h5⟩,h6⟩
    refine ⟨⟨⟨h1,?_⟩,h3⟩,h5,h6⟩
    rw [Bool.eq_false_iff];intro hc;obtain ⟨x,hx,e⟩:=hseen.1 hc;exact h2 x hx e
def GS (t:List Row) (k:Nat):Prop:=∀ r,t[k]?=some r→rowOk r=true∧(0<k→r.depth≤dAt t k+1)∧(isRoot r.id=true→r.id=rootsN (t.take k)+1)∧∀ x∈t.take k,x.id≠r.id
theorem treeOk_ts (t:List Row):treeOk t=true↔(∀ k,k<t.length→GS t k)∧rootsN t=3∧∃ r,t[0]?=some r∧r.id=1:=by
 have h:=treeOkF_iff t [] [] 0 (-1) (by simp) (by simp [rootsN]) (by simp [dAt])
 simp only [List.nil_append,List.length_nil,Nat.zero_le,true_implies] at h
 unfold treeOk
 rw [h]
 constructor
 ·rintro ⟨h1,h2⟩
  refine ⟨fun k hk r hr=>?_,h2,?_⟩
  ·obtain ⟨a,b,c,d⟩:=h1 k hk r hr
   exact ⟨a,fun _=>b,c,d⟩
  ·cases t with
   |nil=>simp [rootsN] at h2
   |cons r t=>
    refine ⟨r,by simp,?_⟩
    obtain ⟨a,b,c,d⟩:=h1 0 (by simp) r (by simp)
    simp only [dAt] at b
    by_cases hr:isRoot r.id=true
    ·have:=c hr;simp [rootsN] at this;exact this
    ·simp [rowOk,hr] at a;omega
 ·rintro ⟨h1,h2,r0,h3,h4⟩
  refine ⟨fun k hk r hr=>?_,h2⟩
  obtain ⟨a,b,c,d⟩:=h1 k hk r hr
  refine ⟨a,?_,c,d⟩
  cases k with
  |succ k=>exact b (by omega)
  |zero=>
   obtain rfl:=Option.some.inj (h3.symm.trans hr)
   have:isRoot r0.id=true:=by rw [h4];decide
   simp [rowOk,this] at a
   simp only [dAt];omega
theorem rootsN_take (t:List Row) (k:Nat) (hk:k<t.length):rootsN (t.take (k+1))=rootsN (t.take k)+if isRoot t[k].id then 1 else 0:=by
 unfold rootsN;rw [List.take_succ_eq_append_getElem hk,List.countP_append];simp [List.countP_cons,List.countP_nil]
theorem rootsN_le (t:List Row):rootsN t≤t.length:=List.countP_le_length
end Go.Proofs.YtecmcjfdaipfcaaGreatDoor
