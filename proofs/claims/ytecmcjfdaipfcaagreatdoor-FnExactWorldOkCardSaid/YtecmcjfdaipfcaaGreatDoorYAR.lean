/- A world as an argument; the sizes of servers, clients, letters, worlds. .. The exact laws' copies of slices of clients and letters, of worlds. -/
import Derived.Test.YtecmcjfdaipfcaaGreatDoorYAQ
import Derived.Test.YtecmcjfdaipfcaaGreatDoorYAN
namespace Go.Proofs.YtecmcjfdaipfcaaGreatDoor
open Go.RowKit Go.Lib
set_option linter.unusedVariables false
set_option linter.unusedSimpArgs false
def RcU (W:World) (x:RC) (c:Client):Prop:=∃ b bn q qn,x=⟨c.who,c.seen,b,c.base.length,bn,q,c.wait.length,qn,c.done,c.made⟩∧Rd W b bn c.base∧Rd W q qn c.wait
def LtU (W:World) (x:RL) (m:Lt):Prop:=∃ a n,x=⟨m.dst,m.frm,a,m.list.length,n⟩∧Rd W a n m.list
theorem RcU.ext {W W':World} {x:RC} {c:Client} (h:RcU W x c) (hb:Ext W W'):RcU W' x c:=by
 obtain ⟨b,bn,q,qn,rfl,h1,h2⟩:=h
 exact ⟨b,bn,q,qn,rfl,h1.ext hb,h2.ext hb⟩
theorem LtU.ext {W W':World} {x:RL} {m:Lt} (h:LtU W x m) (hb:Ext W W'):LtU W' x m:=by
 obtain ⟨a,n,rfl,h1⟩:=h
 exact ⟨a,n,rfl,h1.ext hb⟩
structure WU (W:World) (w:Wd) (L:Option Addr) (ln:Nat) (C:Option Addr) (cc:Nat) (N:Option Addr) (nc:Nat) (xs:List RC) (ys:List RL):Prop where
 log:Rd W L ln w.log
 crd:Rd W C cc xs
 cls:All2 (RcU W) xs w.cls
 nrd:Rd W N nc ys
 nets:All2 (LtU W) ys w.nets
theorem WU.ext {W W':World} {w:Wd} {L C N:Option Addr} {ln cc nc:Nat} {xs:List RC} {ys:List RL} (h:WU W w L ln C cc N nc xs ys) (hb:Ext W W'):WU W' w L ln C cc N nc xs ys:=
 ⟨h.log.ext hb,h.crd.ext hb,h.cls.imp (fun _ _ h=>h.ext hb),h.nrd.ext hb,h.nets.imp (fun _ _ h=>h.ext hb)⟩
theorem WR.wu {W:World} {w:Wd} {L C N:Option Addr} {ln cc nc:Nat} {xs:List RC} {ys:List RL} (h:WR W w L ln C cc N nc xs ys):WU W w L ln C cc N nc xs ys:=
 ⟨h.log.1,h.cls.rd.1,h.cls.cls.imp fun _ _ ⟨b,bn,q,qn,e,h1,h2⟩=>⟨b,bn,q,qn,e,h1.1,h2.1⟩,h.nrd.1,h.nets.imp fun _ _ ⟨a,n,e,h1⟩=>⟨a,n,e,h1.1⟩⟩
set_option maxHeartbeats 400000 in
theorem szServer_c (L:Option Addr) (ln:Nat) (log:List Entry) (safe:Int) (up:Bool) (left:Int) (w:World) (hr:Rd w L ln log) (h0:0≤left) (h1:left≤2000000) :
  Calls Tryz.prog 52 #[.agg #[.slice L log.length ln,.int .i64 safe,.bool up],.int .i64 left] w fun x w'=>∃ v:Int,x=.returned (.int .i64 v)∧-1≤v∧v≤left∧(0≤v→((log).length:Int)≤left)∧Ext w w':=by
 have HE:Hid (Ext w (w.alloc (.cells #[.slice L log.length ln,.int .i64 safe,.bool up] 50))):=(Below.refl _ w).alloc (Nat.le_refl _) _
 have HO:=Lib.hid (szEntryS_c L ln log left (w.alloc (.cells #[.slice L log.length ln,.int .i64 safe,.bool up] 50)) (hr.ext HE.out) h0 h1)
 clear hr
 go_enter Tryz.func52,Tryz.ntmps52
 go_wp2_with fail
 refine HO.out.mono ?_
 rintro x w1 ⟨v,rfl,hv0,hv1,hvv,hb1⟩
 have HB:=Lib.hid (HE.out.trans (hb1.mono HE.out.size));have HV:=Lib.hid hvv
 clear hb1 HO hvv
 by_cases hn:v<0
 ·go_wp2_with fail
  go_ret
  exact ⟨-1,rfl,by omega,by omega,by omega,HB.out⟩
 ·go_wp2_with fail
  go_ret
  exact ⟨v,rfl,by omega,by omega,HV.out,HB.out⟩
set_option maxHeartbeats 400000 in
theorem szLetter_c (m:Lt) (A:Option Addr) (an:Nat) (left:Int) (w:World) (hr:Rd w A an m.list) (h0:0≤left) (h1:left≤2000000) :
  Calls Tryz.prog 95 #[.agg (cL m A an),.int .i64 left] w fun x w'=>∃ v:Int,x=.returned (.int .i64 v)∧-1≤v∧v≤left∧(0≤v→((m.list).length:Int)≤left)∧Ext w w':=by
 have HE:Hid (Ext w (w.alloc (.cells (cL m A an) 158))):=(Below.refl _ w).alloc (Nat.le_refl _) _
 have HO:=Lib.hid (szEntryS_c A an m.list left (w.alloc (.cells (cL m A an) 158)) (hr.ext HE.out) h0 h1)
 clear hr
 go_enter Tryz.func95,Tryz.ntmps95
 go_wp2_with fail
 refine HO.out.mono ?_
 rintro x w1 ⟨v,rfl,hv0,hv1,hvv,hb1⟩
 have HB:=Lib.hid (HE.out.trans (hb1.mono HE.out.size));have HV:=Lib.hid hvv
 clear hb1 HO hvv
 by_cases hn:v<0
 ·go_wp2_with fail
  go_ret
  exact ⟨-1,rfl,by omega,by omega,by omega,HB.out⟩
 ·go_wp2_with fail
  go_ret
  exact ⟨v,rfl,by omega,by omega,HV.out,HB.out⟩
set_option maxRecDepth 100000 in
set_option maxHeartbeats 1000000 in
theorem szClientS_c (A:Option Addr) (c:Nat) (xs:List RC) (l:List Client) (left:Int) (w:World) (hr:Rd w A c xs) (hl:All2 (RcU w) xs l) (h0:0≤left) (h1:left≤2000000) :
  Calls Tryz.prog 53 #[.slice A xs.length c,.int .i64 left] w fun x w'=>∃ v:Int,x=.returned (.int .i64 v)∧-1≤v∧v≤left∧(0≤v→(xs.length:Int)≤left∧∀ y∈l,(y.base.length:Int)≤left∧(y.wait.length:Int)≤left)∧Ext w w':=by
 have hm:xs.length≤maxLen:=Nat.le_trans hr.1 hr.2.1
 unfold maxLen at hm
 have HR:=Lib.hid hr;have HA:=Lib.hid hl
 clear hr hl
 have hw:IntKind.i64.wrap (left - (xs.length:Int))=left - (xs.length:Int):=by rw [IntKind.wrap_i64];omega
 go_enter Tryz.func53,Tryz.ntmps53
 by_cases hn:left - (xs.length:Int)<0
 ·go_wp2_with fail
  go_ret
  exact ⟨-1,rfl,by omega,by omega,by omega,Below.refl _ _⟩
 have hll:(xs.length:Int)≤left:=by omega
 go_wp2_with fail
 clear hw
 go_loopg [1,5] xs.length (fun gk a i wr=>∃ (k:Nat) (y:Int),k≤xs.length∧Hid (gk=xs.length - k)∧a=.int .i64 y∧0≤y∧y≤left∧i=.int .i64 k∧Hid (∀ (j:Nat) (hj:j<l.length),j<k→(fun y:Client=>(y.base.length:Int)≤left∧(y.wait.length:Int)≤left) l[j])∧Hid (Ext w wr))
 case atStart=>exact ⟨0,left - xs.length,Nat.zero_le _,rfl,rfl,by omega,by omega,rfl,fun j _ h=>by omega,Below.refl _ _⟩
 case round=>
  obtain ⟨k,y,hk,HK,rfl,hy0,hy1,rfl,HG,HB⟩:=hrel
  by_cases hlt:k<xs.length
  ·have hkl:k<l.length:=by rw [←HA.out.1];exact hlt
   obtain ⟨b,off,rfl,hbl,c0,c1,c2,c3,c4,c5⟩:=rc_at (HR.out.ext HB.out) k hlt
   obtain ⟨A1,n1,A2,n2,e9,g1,g2⟩:=HA.out.2 k hlt hkl
   rw [e9] at c0 c1 c2 c3 c4 c5
   have HC:=Lib.hid (szClient_c l[k] (.agg (cC l[k] A1 n1 A2 n2)) y wr ⟨A1,n1,A2,n2,rfl,g1.ext HB.out,g2.ext HB.out⟩ hy0 (by omega))
   clear e9 g1 g2
   have hlt':(k:Int)<xs.length:=by omega
   go_wp2_with fail
   refine HC.out.mono ?_
   rintro x w1 ⟨v,rfl,hv0,hv1,hvv,hb1⟩
   have HV:=Lib.hid hvv
   have HB1:=Lib.hid (HB.out.trans (hb1.mono HB.out.size))
   clear hb1 HC hvv c0 c1 c2 c3 c4 c5
   by_cases hv:v<0
   ·go_wp2_with fail
    go_ret
    exact ⟨-1,rfl,by omega,by omega,by omega,HB1.out⟩
   ·go_wp2_with fail
    go_roundg (xs.length - (k+1))
    case measure=>have:=HK.out;omega
    case rel=>
     refine ⟨k+1,v,by omega,rfl,rfl,by omega,by omega,by go_num,Lib.hid (fun j hj hjk=>?_),HB1.out⟩
     rcases Nat.lt_or_eq_of_le (Nat.le_of_lt_succ hjk) with h | h
     ·exact HG.out j hj h
     ·subst h;have:=HV.out (by omega);show (l[j].base.length:Int)≤left∧(l[j].wait.length:Int)≤left;omega
  ·have HFIN:Hid (∀ y∈l,(y.base.length:Int)≤left∧(y.wait.length:Int)≤left):=fun y hy=>by
    obtain ⟨j,hj,rfl⟩:=List.getElem_of_mem hy
    exact HG.out j hj (by have:=HA.out.1;omega)
   go_wp2_with fail
   go_ret
   exact ⟨y,rfl,by omega,by omega,fun _=>by first | exact ⟨hll,HFIN.out⟩ | exact HFIN.out,HB.out⟩
set_option maxRecDepth 100000 in
set_option maxHeartbeats 1000000 in
theorem szLetterS_c (A:Option Addr) (c:Nat) (xs:List RL) (l:List Lt) (left:Int) (w:World) (hr:Rd w A c xs) (hl:All2 (LtU w) xs l) (h0:0≤left) (h1:left≤2000000) :
  Calls Tryz.prog 54 #[.slice A xs.length c,.int .i64 left] w fun x w'=>∃ v:Int,x=.returned (.int .i64 v)∧-1≤v∧v≤left∧(0≤v→(xs.length:Int)≤left∧∀ y∈l,(y.list.length:Int)≤left)∧Ext w w':=by
 have hm:xs.length≤maxLen:=Nat.le_trans hr.1 hr.2.1
 unfold maxLen at hm
 have HR:=Lib.hid hr;have HA:=Lib.hid hl
 clear hr hl
 have hw:IntKind.i64.wrap (left - (xs.length:Int))=left - (xs.length:Int):=by rw [IntKind.wrap_i64];omega
 go_enter Tryz.func54,Tryz.ntmps54
 by_cases hn:left - (xs.length:Int)<0
 ·go_wp2_with fail
  go_ret
  exact ⟨-1,rfl,by omega,by omega,by omega,Below.refl _ _⟩
 have hll:(xs.length:Int)≤left:=by omega
 go_wp2_with fail
 clear hw
 go_loopg [1,5] xs.length (fun gk a i wr=>∃ (k:Nat) (y:Int),k≤xs.length∧Hid (gk=xs.length - k)∧a=.int .i64 y∧0≤y∧y≤left∧i=.int .i64 k∧Hid (∀ (j:Nat) (hj:j<l.length),j<k→(fun y:Lt=>(y.list.length:Int)≤left) l[j])∧Hid (Ext w wr))
 case atStart=>exact ⟨0,left - xs.length,Nat.zero_le _,rfl,rfl,by omega,by omega,rfl,fun j _ h=>by omega,Below.refl _ _⟩
 case round=>
  obtain ⟨k,y,hk,HK,rfl,hy0,hy1,rfl,HG,HB⟩:=hrel
  by_cases hlt:k<xs.length
  ·have hkl:k<l.length:=by rw [←HA.out.1];exact hlt
   obtain ⟨b,off,rfl,hbl,c0,c1,c2⟩:=rl_at (HR.out.ext HB.out) k hlt
   obtain ⟨A1,n1,e9,g1⟩:=HA.out.2 k hlt hkl
   rw [e9] at c0 c1 c2
   have HC:=Lib.hid (szLetter_c l[k] A1 n1 y wr (g1.ext HB.out) hy0 (by omega))
   clear e9 g1
   have hlt':(k:Int)<xs.length:=by omega
   go_wp2_with fail
   refine HC.out.mono ?_
   rintro x w1 ⟨v,rfl,hv0,hv1,hvv,hb1⟩
   have HV:=Lib.hid hvv
   have HB1:=Lib.hid (HB.out.trans (hb1.mono HB.out.size))
   clear hb1 HC hvv c0 c1 c2
   by_cases hv:v<0
   ·go_wp2_with fail
    go_ret
    exact ⟨-1,rfl,by omega,by omega,by omega,HB1.out⟩
   ·go_wp2_with fail
    go_roundg (xs.length - (k+1))
    case measure=>have:=HK.out;omega
    case rel=>
     refine ⟨k+1,v,by omega,rfl,rfl,by omega,by omega,by go_num,Lib.hid (fun j hj hjk=>?_),HB1.out⟩
     rcases Nat.lt_or_eq_of_le (Nat.le_of_lt_succ hjk) with h | h
     ·exact HG.out j hj h
     ·subst h;have:=HV.out (by omega);show (l[j].list.length:Int)≤left;omega
  ·have HFIN:Hid (∀ y∈l,(y.list.length:Int)≤left):=fun y hy=>by
    obtain ⟨j,hj,rfl⟩:=List.getElem_of_mem hy
    exact HG.out j hj (by have:=HA.out.1;omega)
   go_wp2_with fail
   go_ret
   exact ⟨y,rfl,by omega,by omega,fun _=>by first | exact ⟨hll,HFIN.out⟩ | exact HFIN.out,HB.out⟩
def Small (w:Wd) (left:Int):Prop:=(w.log.length:Int)≤left∧(w.cls.length:Int)≤left∧(w.nets.length:Int)≤left∧(∀ c∈w.cls,(c.base.length:Int)≤left∧(c.wait.length:Int)≤left)∧∀ m∈w.nets,(m.list.length:Int)≤left
set_option maxHeartbeats 1000000 in
theorem szWorld_c (wd:Wd) (L:Option Addr) (ln:Nat) (C:Option Addr) (cc:Nat) (N:Option Addr) (nc:Nat) (xs:List RC) (ys:List RL) (left:Int) (w:World) (h:WU w wd L ln C cc N nc xs ys) (h0:0≤left) (h1:left≤2000000) :
  Calls Tryz.prog 21 #[.agg (wA wd L ln C xs.length cc N ys.length nc),.int .i64 left] w fun x w'=>∃ v:Int,x=.returned (.int .i64 v)∧-1≤v∧v≤left∧(0≤v→Small wd left)∧Ext w w':=by
 have hx:=World.alloc_heap_new w (.cells (wA wd L ln C xs.length cc N ys.length nc) 54)
 have hE:Ext w (w.alloc (.cells (wA wd L ln C xs.length cc N ys.length nc) 54)):=(Below.refl _ w).alloc (Nat.le_refl _) _
 have HX:=Lib.hid hx;have HE:=Lib.hid hE;have HU:=Lib.hid (h.ext hE)
 have HXL:=Lib.hid h.cls.1;have HYL:=Lib.hid h.nets.1
 have HO:=Lib.hid (szServer_c L ln wd.log wd.safe wd.up left _ HU.out.log h0 h1)
 clear hE h
 generalize hW:(w.alloc (.cells (wA wd L ln C xs.length cc N ys.length nc) 54))=W at *
 have hs:∀ w':World,Ext W w'→w'.cell? ⟨w.heap.size,0,none⟩=some (.slice L wd.log.length ln)∧w'.cell? ⟨w.heap.size,1,none⟩=some (.int .i64 wd.safe)∧w'.cell? ⟨w.heap.size,2,none⟩=some (.bool wd.up)∧w'.cell? ⟨w.heap.size,3,none⟩=some (.slice C xs.length cc)∧w'.cell? ⟨w.heap.size,4,none⟩=some (.slice N ys.length nc):=fun w' h=>by
  obtain ⟨b0,b1,b2,b3,b4,-⟩:=five_cells ((h.block _ (blk_lt HX.out)).trans HX.out)
  exact ⟨b0,b1,b2,b3,b4⟩
 have HS:=Lib.hid hs
 clear hx hs
 go_enter Tryz.func21,Tryz.ntmps21
 obtain ⟨b0,b1,b2,b3,b4⟩:=HS.out W (Below.refl _ _)
 subst hW
 go_wp2_with fail
 refine HO.out.mono ?_
 rintro x w1 ⟨v,rfl,hv0,hv1,hvv,hb1⟩
 have HV:=Lib.hid hvv;have HB1:=Lib.hid hb1
 clear b0 b1 b2 b3 b4 hb1 hvv HO
 obtain ⟨b0,b1,b2,b3,b4⟩:=HS.out w1 HB1.out
 by_cases hn:v<0
 ·go_wp2_with fail
  go_ret
  exact ⟨-1,rfl,by omega,by omega,by omega,HE.out.trans (HB1.out.mono HE.out.size)⟩
 have HO:=Lib.hid (szClientS_c C cc xs wd.cls v w1 (HU.out.crd.ext HB1.out) (HU.out.cls.imp fun _ _ h=>h.ext HB1.out) (by omega) (by omega))
 go_wp2_with fail
 refine HO.out.mono ?_
 rintro x w2 ⟨v2,rfl,hv20,hv21,hvv,hb1⟩
 have HV2:=Lib.hid hvv;have HB2:=Lib.hid (HB1.out.trans (hb1.mono HB1.out.size))
 clear b0 b1 b2 b3 b4 hb1 hvv HO
 obtain ⟨b0,b1,b2,b3,b4⟩:=HS.out w2 HB2.out
 by_cases hn2:v2<0
 ·go_wp2_with fail
  go_ret
  exact ⟨-1,rfl,by omega,by omega,by omega,HE.out.trans (HB2.out.mono HE.out.size)⟩
 have HO:=Lib.hid (szLetterS_c N nc ys wd.nets v2 w2 (HU.out.nrd.ext HB2.out) (HU.out.nets.imp fun _ _ h=>h.ext HB2.out) (by omega) (by omega))
 go_wp2_with fail
 refine HO.out.mono ?_
 rintro x w3 ⟨v3,rfl,hv30,hv31,hvv,hb1⟩
 have HV3:=Lib.hid hvv;have HB3:=Lib.hid (HB2.out.trans (hb1.mono HB2.out.size))
 clear b0 b1 b2 b3 b4 hb1 hvv HO
 by_cases hn3:v3<0
 ·go_wp2_with fail
  go_ret
  exact ⟨-1,rfl,by omega,by omega,by omega,HE.out.trans (HB3.out.mono HE.out.size)⟩
 ·go_wp2_with fail
  go_ret
  refine ⟨v3,rfl,by omega,by omega,fun _=>?_,HE.out.trans (HB3.out.mono HE.out.size)⟩
  have e1:=HV.out (by omega);have e2:=HV2.out (by omega);have e3:=HV3.out (by omega)
  have f1:=HXL.out;have f2:=HYL.out
  exact ⟨e1,by omega,by omega,fun c hc=>by have:=e2.2 c hc;omega,fun m hm=>by have:=e3.2 m hm;omega⟩
open Go.RowKit
theorem op_ext {a b:Op} (h1:a.kind=b.kind) (h2:a.id=b.id) (h3:a.up=b.up) (h4:a.pos=b.pos) (h5:a.text.toList=b.text.toList):a=b:=by
 have h:=row_ext (a:=⟨0,0,a.text⟩) (b:=⟨0,0,b.text⟩) rfl rfl h5
 have h6:a.text=b.text:=congrArg Row.text h
 cases a;cases b;simp_all
set_option maxHeartbeats 1000000 in
theorem eqRow_c (a b:Row) (w:World) :
  Calls Tryz.prog 150 #[.agg #[.int .i64 a.id,.int .i64 a.depth,.string a.text],.agg #[.int .i64 b.id,.int .i64 b.depth,.string b.text]] w fun x w'=>x=.returned (.bool (decide (a=b)))∧Ext w w':=by
 have HE:Hid (Ext w ((w.alloc (.cells #[.int .i64 a.id,.int .i64 a.depth,.string a.text] 46)).alloc (.cells #[.int .i64 b.id,.int .i64 b.depth,.string b.text] 46))):=((Below.refl _ w).alloc (Nat.le_refl _) _).alloc (by simp) _
 have hX:=two_new w (.cells #[.int .i64 a.id,.int .i64 a.depth,.string a.text] 46) (.cells #[.int .i64 b.id,.int .i64 b.depth,.string b.text] 46)
 go_enter Tryz.func150,Tryz.ntmps150
 by_cases e0:a.id=b.id
 rotate_left
 ·have hn:Hid (decide (a=b)=false):=by show _=_;rw [decide_eq_false];intro h;exact e0 (by rw [h])
  have e':(a.id != b.id)=true:=by simp [e0]
  go_wp2_with fail
  go_ret
  exact ⟨by rw [hn.out];rfl,HE.out⟩
 have E0:=Lib.hid e0
 have g0:(a.id != b.id)=false:=by simp [e0]
 clear e0
 by_cases e1:a.depth=b.depth
 rotate_left
 ·have hn:Hid (decide (a=b)=false):=by show _=_;rw [decide_eq_false];intro h;exact e1 (by rw [h])
  have e':(a.depth != b.depth)=true:=by simp [e1]
  go_wp2_with fail
  go_ret
  exact ⟨by rw [hn.out];rfl,HE.out⟩
 have E1:=Lib.hid e1
 have g1:(a.depth != b.depth)=false:=by simp [e1]
 clear e1
 by_cases ht:a.text.toList=b.text.toList
 ·have hy:Hid (decide (a=b)=true):=by show _=_;rw [decide_eq_true];exact row_ext E0.out E1.out ht
  have ht':(a.text.toList == b.text.toList)=true:=by simp [ht]
  clear ht
  go_wp2_with fail
  go_ret
  exact ⟨by rw [hy.out];rfl,HE.out⟩
 ·have hn:Hid (decide (a=b)=false):=by show _=_;rw [decide_eq_false];intro h;exact ht (by rw [h])
  have ht':(a.text.toList == b.text.toList)=false:=by simp [ht]
  clear ht
  go_wp2_with fail
  go_ret
  exact ⟨by rw [hn.out];rfl,HE.out⟩
set_option maxHeartbeats 1000000 in
theorem eqOp_c (a b:Op) (w:World) :
  Calls Tryz.prog 149 #[.agg (cO a),.agg (cO b)] w fun x w'=>x=.returned (.bool (decide (a=b)))∧Ext w w':=by
 have HE:Hid (Ext w ((w.alloc (oO a)).alloc (oO b))):=((Below.refl _ w).alloc (Nat.le_refl _) _).alloc (by simp) _
 have hX:=two_new w (oO a) (oO b)
 go_enter Tryz.func149,Tryz.ntmps149
 by_cases e0:a.kind=b.kind
 rotate_left
 ·have hn:Hid (decide (a=b)=false):=by show _=_;rw [decide_eq_false];intro h;exact e0 (by rw [h])
  have e':(a.kind != b.kind)=true:=by simp [e0]
  go_wp2_with fail
  go_ret
  exact ⟨by rw [hn.out];rfl,HE.out⟩
 have E0:=Lib.hid e0
 have g0:(a.kind != b.kind)=false:=by simp [e0]
 clear e0
 by_cases e1:a.id=b.id
 rotate_left
 ·have hn:Hid (decide (a=b)=false):=by show _=_;rw [decide_eq_false];intro h;exact e1 (by rw [h])
  have e':(a.id != b.id)=true:=by simp [e1]
  go_wp2_with fail
  go_ret
  exact ⟨by rw [hn.out];rfl,HE.out⟩
 have E1:=Lib.hid e1
 have g1:(a.id != b.id)=false:=by simp [e1]
 clear e1
 by_cases e2:a.up=b.up
 rotate_left
 ·have hn:Hid (decide (a=b)=false):=by show _=_;rw [decide_eq_false];intro h;exact e2 (by rw [h])
  have e':(a.up != b.up)=true:=by simp [e2]
  go_wp2_with fail
  go_ret
  exact ⟨by rw [hn.out];rfl,HE.out⟩
 have E2:=Lib.hid e2
 have g2:(a.up != b.up)=false:=by simp [e2]
 clear e2
 by_cases e3:a.pos=b.pos
 rotate_left
 ·have hn:Hid (decide (a=b)=false):=by show _=_;rw [decide_eq_false];intro h;exact e3 (by rw [h])
  have e':(a.pos != b.pos)=true:=by simp [e3]
  go_wp2_with fail
  go_ret
  exact ⟨by rw [hn.out];rfl,HE.out⟩
 have E3:=Lib.hid e3
 have g3:(a.pos != b.pos)=false:=by simp [e3]
 clear e3
 by_cases ht:a.text.toList=b.text.toList
 ·have hy:Hid (decide (a=b)=true):=by show _=_;rw [decide_eq_true];exact op_ext E0.out E1.out E2.out E3.out ht
  have ht':(a.text.toList == b.text.toList)=true:=by simp [ht]
  clear ht
  go_wp2_with fail
  go_ret
  exact ⟨by rw [hy.out];rfl,HE.out⟩
 ·have hn:Hid (decide (a=b)=false):=by show _=_;rw [decide_eq_false];intro h;exact ht (by rw [h])
  have ht':(a.text.toList == b.text.toList)=false:=by simp [ht]
  clear ht
  go_wp2_with fail
  go_ret
  exact ⟨by rw [hn.out];rfl,HE.out⟩
set_option maxHeartbeats 1000000 in
theorem eqEntry_c (a b:Entry) (w:World) :
  Calls Tryz.prog 137 #[.agg (cN a),.agg (cN b)] w fun x w'=>x=.returned (.bool (decide (a=b)))∧Ext w w':=by
 have HE:Hid (Ext w ((w.alloc (oN a)).alloc (oN b))):=((Below.refl _ w).alloc (Nat.le_refl _) _).alloc (by simp) _
 have HO:=Lib.hid (eqOp_c a.op b.op ((w.alloc (oN a)).alloc (oN b)))
 go_enter Tryz.func137,Tryz.ntmps137
 by_cases e0:a.who=b.who
 rotate_left
 ·have hn:Hid (decide (a=b)=false):=by show _=_;rw [decide_eq_false];intro h;exact e0 (by rw [h])
  have e':(a.who != b.who)=true:=by simp [e0]
  go_wp2_with fail
  go_ret
  exact ⟨by rw [hn.out];rfl,HE.out⟩
 have E0:=Lib.hid e0
 have g0:(a.who != b.who)=false:=by simp [e0]
 clear e0
 by_cases e1:a.seq=b.seq
 rotate_left
 ·have hn:Hid (decide (a=b)=false):=by show _=_;rw [decide_eq_false];intro h;exact e1 (by rw [h])
  have e':(a.seq != b.seq)=true:=by simp [e1]
  go_wp2_with fail
  go_ret
  exact ⟨by rw [hn.out];rfl,HE.out⟩
 have E1:=Lib.hid e1
 have g1:(a.seq != b.seq)=false:=by simp [e1]
 clear e1
 have HD:Hid (decide (a=b)=decide (a.op=b.op)):=by
  show _=_
  rw [decide_eq_decide]
  constructor
  ·intro h;rw [h]
  ·intro h;have h0:=E0.out;have h1:=E1.out;cases a;cases b;simp_all
 go_wp2_with fail
 refine HO.out.mono ?_
 rintro x w1 ⟨rfl,hb1⟩
 have HB:=Lib.hid (HE.out.trans (hb1.mono HE.out.size))
 clear hb1 HO
 cases ho:decide (a.op=b.op)
 ·rw [ho] at HD
  go_wp2_with fail
  go_ret
  exact ⟨by rw [HD.out];rfl,HB.out⟩
 ·rw [ho] at HD
  go_wp2_with fail
  go_ret
  exact ⟨by rw [HD.out];rfl,HB.out⟩
set_option maxRecDepth 100000 in
set_option maxHeartbeats 4000000 in
theorem eqRowS_c (A:Option Addr) (c:Nat) (l:List Row) (B:Option Addr) (d:Nat) (m:List Row) (w:World) (hr:Rd w A c l) (hr2:Rd w B d m) :
  Calls Tryz.prog 138 #[.slice A l.length c,.slice B m.length d] w fun x w'=>x=.returned (.bool (decide (l=m)))∧Ext w w':=by
 have hm:l.length≤maxLen:=Nat.le_trans hr.1 hr.2.1
 have hm2:m.length≤maxLen:=Nat.le_trans hr2.1 hr2.2.1
 unfold maxLen at hm hm2
 have HR:=Lib.hid hr;have HR2:=Lib.hid hr2
 clear hr hr2
 go_enter Tryz.func138,Tryz.ntmps138
 by_cases hl:l.length=m.length
 rotate_left
 ·have hn:Hid (decide (l=m)=false):=by show _=_;rw [decide_eq_false];intro h;exact hl (by rw [h])
  have hl':((l.length:Int) != m.length)=true:=by simp;omega
  go_wp2_with fail
  go_ret
  exact ⟨by rw [hn.out];rfl,Below.refl _ _⟩
 have HL:=Lib.hid hl
 have hl':((l.length:Int) != m.length)=false:=by simp;omega
 clear hl
 go_wp2_with fail
 clear hl'
 go_loopg [5] l.length (fun gk i wr=>∃ k:Nat,k≤l.length∧Hid (gk=l.length - k)∧i=.int .i64 k∧Hid (l.take k=m.take k)∧Hid (Ext w wr))
 case atStart=>exact ⟨0,Nat.zero_le _,rfl,rfl,rfl,Below.refl _ _⟩
 case round=>
  obtain ⟨k,hk,HK,rfl,HQ,HB⟩:=hrel
  by_cases hlt:k<l.length
  ·have hlt2:k<m.length:=by have:=HL.out;omega
   obtain ⟨b,off,rfl,hbl,c0,c1,c2⟩:=row_at (HR.out.ext HB.out) k hlt
   obtain ⟨b2,off2,rfl,hbl2,d0,d1,d2⟩:=row_at (HR2.out.ext HB.out) k hlt2
   have HC:=Lib.hid (eqRow_c l[k] m[k] wr.drew)
   have hli:(k:Int)<l.length:=by omega
   have hli2:(k:Int)<m.length:=by omega
   have hT1:=List.take_succ_eq_append_getElem hlt
   have hT2:=List.take_succ_eq_append_getElem hlt2
   have HT1:=Lib.hid hT1;have HT2:=Lib.hid hT2
   clear hT1 hT2
   go_wp2_with fail
   have E0:wr.drew.cell? ⟨b,off+k*3,none⟩=some (.int .i64 l[k].id)∧wr.drew.cell? ⟨b,off+k*3+1,none⟩=some (.int .i64 l[k].depth)∧wr.drew.cell? ⟨b,off+k*3+2,none⟩=some (.string l[k].text)∧wr.drew.cell? ⟨b2,off2+k*3,none⟩=some (.int .i64 m[k].id)∧wr.drew.cell? ⟨b2,off2+k*3+1,none⟩=some (.int .i64 m[k].depth)∧wr.drew.cell? ⟨b2,off2+k*3+2,none⟩=some (.string m[k].text):=⟨c0,c1,c2,d0,d1,d2⟩
   cases he:decide (l[k]=m[k])
   all_goals
    rw [he] at HC
    go_region_held3 (fun w'=>w'.cell? ⟨b,off+k*3,none⟩=some (.int .i64 l[k].id)∧w'.cell? ⟨b,off+k*3+1,none⟩=some (.int .i64 l[k].depth)∧w'.cell? ⟨b,off+k*3+2,none⟩=some (.string l[k].text)∧w'.cell? ⟨b2,off2+k*3,none⟩=some (.int .i64 m[k].id)∧w'.cell? ⟨b2,off2+k*3+1,none⟩=some (.int .i64 m[k].depth)∧w'.cell? ⟨b2,off2+k*3+2,none⟩=some (.string m[k].text))
     (first | exact E1 | exact E0 | go_keep)
     (first
      |(go_at_call 150;refine HC.out.mono ?_;rintro e w1 ⟨rfl,hb1⟩;obtain ⟨hc1,hf1⟩:=bcell hb1
        have E1:w1.cell? ⟨b,off+k*3,none⟩=some (.int .i64 l[k].id)∧w1.cell? ⟨b,off+k*3+1,none⟩=some (.int .i64 l[k].depth)∧w1.cell? ⟨b,off+k*3+2,none⟩=some (.string l[k].text)∧w1.cell? ⟨b2,off2+k*3,none⟩=some (.int .i64 m[k].id)∧w1.cell? ⟨b2,off2+k*3+1,none⟩=some (.int .i64 m[k].depth)∧w1.cell? ⟨b2,off2+k*3+2,none⟩=some (.string m[k].text):=⟨(hc1 _ _ hbl).trans c0,(hc1 _ _ hbl).trans c1,(hc1 _ _ hbl).trans c2,(hc1 _ _ hbl2).trans d0,(hc1 _ _ hbl2).trans d1,(hc1 _ _ hbl2).trans d2⟩
        have HB1:=Lib.hid hb1;clear hc1 hf1 hb1))
   ·have hn:Hid (decide (l=m)=false):=by show _=_;rw [decide_eq_false];intro h;exact of_decide_eq_false he (by simp only [h])
    clear he
    go_wp2_with fail
    go_ret
    exact ⟨by rw [hn.out];rfl,HB.out.trans ((Ext.drewN (Below.refl _ _) 1).trans (HB1.out.mono HB.out.size))⟩
   ·have HE:=Lib.hid (of_decide_eq_true he)
    clear he
    go_wp2_with fail
    go_roundg (l.length - (k+1))
    case measure=>have:=HK.out;omega
    case rel=>
     refine ⟨k+1,by omega,rfl,by go_num,?_,HB.out.trans ((Ext.drewN (Below.refl _ _) 1).trans (HB1.out.mono HB.out.size))⟩
     show _=_
     rw [HT1.out,HT2.out,HQ.out,HE.out]
  ·have hy:Hid (decide (l=m)=true):=by
    show _=_
    rw [decide_eq_true]
    have h:=HQ.out
    have hl:=HL.out
    rwa [List.take_of_length_le (by omega),List.take_of_length_le (by omega)] at h
   go_wp2_with fail
   go_ret
   exact ⟨by rw [hy.out];rfl,HB.out⟩
set_option maxRecDepth 100000 in
set_option maxHeartbeats 4000000 in
theorem eqEntryS_c (A:Option Addr) (c:Nat) (l:List Entry) (B:Option Addr) (d:Nat) (m:List Entry) (w:World) (hr:Rd w A c l) (hr2:Rd w B d m) :
  Calls Tryz.prog 112 #[.slice A l.length c,.slice B m.length d] w fun x w'=>x=.returned (.bool (decide (l=m)))∧Ext w w':=by
 have hm:l.length≤maxLen:=Nat.le_trans hr.1 hr.2.1
 have hm2:m.length≤maxLen:=Nat.le_trans hr2.1 hr2.2.1
 unfold maxLen at hm hm2
 have HR:=Lib.hid hr;have HR2:=Lib.hid hr2
 clear hr hr2
 go_enter Tryz.func112,Tryz.ntmps112
 by_cases hl:l.length=m.length
 rotate_left
 ·have hn:Hid (decide (l=m)=false):=by show _=_;rw [decide_eq_false];intro h;exact hl (by rw [h])
  have hl':((l.length:Int) != m.length)=true:=by simp;omega
  go_wp2_with fail
  go_ret
  exact ⟨by rw [hn.out];rfl,Below.refl _ _⟩
 have HL:=Lib.hid hl
 have hl':((l.length:Int) != m.length)=false:=by simp;omega
 clear hl
 go_wp2_with fail
 clear hl'
 go_loopg [5] l.length (fun gk i wr=>∃ k:Nat,k≤l.length∧Hid (gk=l.length - k)∧i=.int .i64 k∧Hid (l.take k=m.take k)∧Hid (Ext w wr))
 case atStart=>exact ⟨0,Nat.zero_le _,rfl,rfl,rfl,Below.refl _ _⟩
 case round=>
  obtain ⟨k,hk,HK,rfl,HQ,HB⟩:=hrel
  by_cases hlt:k<l.length
  ·have hlt2:k<m.length:=by have:=HL.out;omega
   obtain ⟨b,off,rfl,hbl,c0,c1,c2,c3,c4,c5,c6⟩:=ent_at (HR.out.ext HB.out) k hlt
   obtain ⟨b2,off2,rfl,hbl2,d0,d1,d2,d3,d4,d5,d6⟩:=ent_at (HR2.out.ext HB.out) k hlt2
   have HC:=Lib.hid (eqEntry_c l[k] m[k] wr.drew)
   have hli:(k:Int)<l.length:=by omega
   have hli2:(k:Int)<m.length:=by omega
   have hT1:=List.take_succ_eq_append_getElem hlt
   have hT2:=List.take_succ_eq_append_getElem hlt2
   have HT1:=Lib.hid hT1;have HT2:=Lib.hid hT2
   clear hT1 hT2
   go_wp2_with fail
   have E0:wr.drew.cell? ⟨b,off+k*7,none⟩=some (.int .i64 l[k].who)∧wr.drew.cell? ⟨b,off+k*7+1,none⟩=some (.int .i64 l[k].seq)∧wr.drew.cell? ⟨b,off+k*7+2,none⟩=some (.int .i64 l[k].op.kind)∧wr.drew.cell? ⟨b,off+k*7+3,none⟩=some (.int .i64 l[k].op.id)∧wr.drew.cell? ⟨b,off+k*7+4,none⟩=some (.int .i64 l[k].op.up)∧wr.drew.cell? ⟨b,off+k*7+5,none⟩=some (.int .i64 l[k].op.pos)∧wr.drew.cell? ⟨b,off+k*7+6,none⟩=some (.string l[k].op.text)∧wr.drew.cell? ⟨b2,off2+k*7,none⟩=some (.int .i64 m[k].who)∧wr.drew.cell? ⟨b2,off2+k*7+1,none⟩=some (.int .i64 m[k].seq)∧wr.drew.cell? ⟨b2,off2+k*7+2,none⟩=some (.int .i64 m[k].op.kind)∧wr.drew.cell? ⟨b2,off2+k*7+3,none⟩=some (.int .i64 m[k].op.id)∧wr.drew.cell? ⟨b2,off2+k*7+4,none⟩=some (.int .i64 m[k].op.up)∧wr.drew.cell? ⟨b2,off2+k*7+5,none⟩=some (.int .i64 m[k].op.pos)∧wr.drew.cell? ⟨b2,off2+k*7+6,none⟩=some (.string m[k].op.text):=⟨c0,c1,c2,c3,c4,c5,c6,d0,d1,d2,d3,d4,d5,d6⟩
   cases he:decide (l[k]=m[k])
   all_goals
    rw [he] at HC
    go_region_held3 (fun w'=>w'.cell? ⟨b,off+k*7,none⟩=some (.int .i64 l[k].who)∧w'.cell? ⟨b,off+k*7+1,none⟩=some (.int .i64 l[k].seq)∧w'.cell? ⟨b,off+k*7+2,none⟩=some (.int .i64 l[k].op.kind)∧w'.cell? ⟨b,off+k*7+3,none⟩=some (.int .i64 l[k].op.id)∧w'.cell? ⟨b,off+k*7+4,none⟩=some (.int .i64 l[k].op.up)∧w'.cell? ⟨b,off+k*7+5,none⟩=some (.int .i64 l[k].op.pos)∧w'.cell? ⟨b,off+k*7+6,none⟩=some (.string l[k].op.text)∧w'.cell? ⟨b2,off2+k*7,none⟩=some (.int .i64 m[k].who)∧w'.cell? ⟨b2,off2+k*7+1,none⟩=some (.int .i64 m[k].seq)∧w'.cell? ⟨b2,off2+k*7+2,none⟩=some (.int .i64 m[k].op.kind)∧w'.cell? ⟨b2,off2+k*7+3,none⟩=some (.int .i64 m[k].op.id)∧w'.cell? ⟨b2,off2+k*7+4,none⟩=some (.int .i64 m[k].op.up)∧w'.cell? ⟨b2,off2+k*7+5,none⟩=some (.int .i64 m[k].op.pos)∧w'.cell? ⟨b2,off2+k*7+6,none⟩=some (.string m[k].op.text))
     (first | exact E1 | exact E0 | go_keep)
     (first
      |(go_at_call 137;refine HC.out.mono ?_;rintro e w1 ⟨rfl,hb1⟩;obtain ⟨hc1,hf1⟩:=bcell hb1
        have E1:w1.cell? ⟨b,off+k*7,none⟩=some (.int .i64 l[k].who)∧w1.cell? ⟨b,off+k*7+1,none⟩=some (.int .i64 l[k].seq)∧w1.cell? ⟨b,off+k*7+2,none⟩=some (.int .i64 l[k].op.kind)∧w1.cell? ⟨b,off+k*7+3,none⟩=some (.int .i64 l[k].op.id)∧w1.cell? ⟨b,off+k*7+4,none⟩=some (.int .i64 l[k].op.up)∧w1.cell? ⟨b,off+k*7+5,none⟩=some (.int .i64 l[k].op.pos)∧w1.cell? ⟨b,off+k*7+6,none⟩=some (.string l[k].op.text)∧w1.cell? ⟨b2,off2+k*7,none⟩=some (.int .i64 m[k].who)∧w1.cell? ⟨b2,off2+k*7+1,none⟩=some (.int .i64 m[k].seq)∧w1.cell? ⟨b2,off2+k*7+2,none⟩=some (.int .i64 m[k].op.kind)∧w1.cell? ⟨b2,off2+k*7+3,none⟩=some (.int .i64 m[k].op.id)∧w1.cell? ⟨b2,off2+k*7+4,none⟩=some (.int .i64 m[k].op.up)∧w1.cell? ⟨b2,off2+k*7+5,none⟩=some (.int .i64 m[k].op.pos)∧w1.cell? ⟨b2,off2+k*7+6,none⟩=some (.string m[k].op.text):=⟨(hc1 _ _ hbl).trans c0,(hc1 _ _ hbl).trans c1,(hc1 _ _ hbl).trans c2,(hc1 _ _ hbl).trans c3,(hc1 _ _ hbl).trans c4,(hc1 _ _ hbl).trans c5,(hc1 _ _ hbl).trans c6,(hc1 _ _ hbl2).trans d0,(hc1 _ _ hbl2).trans d1,(hc1 _ _ hbl2).trans d2,(hc1 _ _ hbl2).trans d3,(hc1 _ _ hbl2).trans d4,(hc1 _ _ hbl2).trans d5,(hc1 _ _ hbl2).trans d6⟩
        have HB1:=Lib.hid hb1;clear hc1 hf1 hb1))
   ·have hn:Hid (decide (l=m)=false):=by show _=_;rw [decide_eq_false];intro h;exact of_decide_eq_false he (by simp only [h])
    clear he
    go_wp2_with fail
    go_ret
    exact ⟨by rw [hn.out];rfl,HB.out.trans ((Ext.drewN (Below.refl _ _) 1).trans (HB1.out.mono HB.out.size))⟩
   ·have HE:=Lib.hid (of_decide_eq_true he)
    clear he
    go_wp2_with fail
    go_roundg (l.length - (k+1))
    case measure=>have:=HK.out;omega
    case rel=>
     refine ⟨k+1,by omega,rfl,by go_num,?_,HB.out.trans ((Ext.drewN (Below.refl _ _) 1).trans (HB1.out.mono HB.out.size))⟩
     show _=_
     rw [HT1.out,HT2.out,HQ.out,HE.out]
  ·have hy:Hid (decide (l=m)=true):=by
    show _=_
    rw [decide_eq_true]
    have h:=HQ.out
    have hl:=HL.out
    rwa [List.take_of_length_le (by omega),List.take_of_length_le (by omega)] at h
   go_wp2_with fail
   go_ret
   exact ⟨by rw [hy.out];rfl,HB.out⟩
open Go.RowKit
instance:DecidableEq Client:=fun a b=>by
 obtain ⟨a1,a2,a3,a4,a5,a6⟩:=a;obtain ⟨b1,b2,b3,b4,b5,b6⟩:=b
 exact decidable_of_iff (a1=b1∧a2=b2∧a3=b3∧a4=b4∧a5=b5∧a6=b6) (by simp)
theorem client_ext {a b:Client} (h1:a.who=b.who) (h2:a.seen=b.seen) (h3:a.base=b.base) (h4:a.wait=b.wait) (h5:a.done=b.done) (h6:a.made=b.made):a=b:=by
 obtain ⟨a1,a2,a3,a4,a5,a6⟩:=a;obtain ⟨b1,b2,b3,b4,b5,b6⟩:=b
 simp only at h1 h2 h3 h4 h5 h6
 subst h1 h2 h3 h4 h5 h6;rfl
set_option maxRecDepth 100000 in
set_option maxHeartbeats 2000000 in
theorem eqClient_c (a b:Client) (va vb:Value) (w:World) (ha:CV w a va) (hb:CV w b vb) :
  Calls Tryz.prog 113 #[va,vb] w fun x w'=>x=.returned (.bool (decide (a=b)))∧Ext w w':=by
 obtain ⟨A1,n1,A2,n2,rfl,ha1,ha2⟩:=ha
 obtain ⟨B1,m1,B2,m2,rfl,hb1,hb2⟩:=hb
 have HE:Hid (Ext w ((w.alloc (oC a A1 n1 A2 n2)).alloc (oC b B1 m1 B2 m2))):=((Below.refl _ w).alloc (Nat.le_refl _) _).alloc (by simp) _
 have hX:=two_new w (oC a A1 n1 A2 n2) (oC b B1 m1 B2 m2)
 have HA1:=Lib.hid ha1;have HA2:=Lib.hid ha2;have HBB1:=Lib.hid hb1;have HBB2:=Lib.hid hb2
 clear ha1 ha2 hb1 hb2
 go_enter Tryz.func113,Tryz.ntmps113
 by_cases ewho:a.who=b.who
 rotate_left
 ·have hn:Hid (decide (a=b)=false):=by show _=_;rw [decide_eq_false];intro h;exact ewho (by rw [h])
  have e':(a.who != b.who)=true:=by simp [ewho]
  go_wp2_with fail
  go_ret
  exact ⟨by rw [hn.out];rfl,HE.out⟩
 have Ewho:=Lib.hid ewho
 have gwho:(a.who != b.who)=false:=by simp [ewho]
 clear ewho
 by_cases eseen:a.seen=b.seen
 rotate_left
 ·have hn:Hid (decide (a=b)=false):=by show _=_;rw [decide_eq_false];intro h;exact eseen (by rw [h])
  have e':(a.seen != b.seen)=true:=by simp [eseen]
  go_wp2_with fail
  go_ret
  exact ⟨by rw [hn.out];rfl,HE.out⟩
 have Eseen:=Lib.hid eseen
 have gseen:(a.seen != b.seen)=false:=by simp [eseen]
 clear eseen
 have HC1:=Lib.hid (eqRowS_c A1 n1 a.base B1 m1 b.base _ (HA1.out.ext HE.out) (HBB1.out.ext HE.out))
 go_wp2_with fail
 refine HC1.out.mono ?_
 rintro x w1 ⟨rfl,hb1⟩
 have HF1:=Lib.hid (HE.out.trans (hb1.mono HE.out.size))
 have hx1:=(hb1.block w.heap.size (blk_lt hX.1)).trans hX.1
 have hy1:=(hb1.block (w.heap.size+1) (blk_lt hX.2)).trans hX.2
 obtain ⟨c0,c1,c2,c3,c4,c5,cf⟩:=six_cells hx1
 obtain ⟨d0,d1,d2,d3,d4,d5,df⟩:=six_cells hy1
 have HXa:=Lib.hid hx1;have HXb:=Lib.hid hy1
 clear hx1 hy1 hb1 HC1
 cases ebase:decide (a.base=b.base)
 ·have hn:Hid (decide (a=b)=false):=by show _=_;rw [decide_eq_false];intro h;exact of_decide_eq_false ebase (by rw [h])
  clear ebase
  go_wp2_with fail
  go_ret
  exact ⟨by rw [hn.out];rfl,HF1.out⟩
 have Ebase:=Lib.hid (of_decide_eq_true ebase)
 clear ebase
 have HC2:=Lib.hid (eqEntryS_c A2 n2 a.wait B2 m2 b.wait _ (HA2.out.ext HF1.out) (HBB2.out.ext HF1.out))
 go_wp2_with fail
 refine HC2.out.mono ?_
 rintro x w2 ⟨rfl,hb2⟩
 have HF2:=Lib.hid (HF1.out.trans (hb2.mono HF1.out.size))
 have hx2:=(hb2.block w.heap.size (blk_lt HXa.out)).trans HXa.out
 have hy2:=(hb2.block (w.heap.size+1) (blk_lt HXb.out)).trans HXb.out
 clear c0 c1 c2 c3 c4 c5 cf d0 d1 d2 d3 d4 d5 df
 obtain ⟨c0,c1,c2,c3,c4,c5,cf⟩:=six_cells hx2
 obtain ⟨d0,d1,d2,d3,d4,d5,df⟩:=six_cells hy2
 clear hx2 hy2 hb2 HC2
 cases ewait:decide (a.wait=b.wait)
 ·have hn:Hid (decide (a=b)=false):=by show _=_;rw [decide_eq_false];intro h;exact of_decide_eq_false ewait (by rw [h])
  clear ewait
  go_wp2_with fail
  go_ret
  exact ⟨by rw [hn.out];rfl,HF2.out⟩
 have Ewait:=Lib.hid (of_decide_eq_true ewait)
 clear ewait
 by_cases edone:a.done=b.done
 rotate_left
 ·have hn:Hid (decide (a=b)=false):=by show _=_;rw [decide_eq_false];intro h;exact edone (by rw [h])
  have e':(a.done != b.done)=true:=by simp [edone]
  go_wp2_with fail
  go_ret
  exact ⟨by rw [hn.out];rfl,HF2.out⟩
 have Edone:=Lib.hid edone
 have gdone:(a.done != b.done)=false:=by simp [edone]
 clear edone
 by_cases emade:a.made=b.made
 rotate_left
 ·have hn:Hid (decide (a=b)=false):=by show _=_;rw [decide_eq_false];intro h;exact emade (by rw [h])
  have e':(a.made != b.made)=true:=by simp [emade]
  go_wp2_with fail
  go_ret
  exact ⟨by rw [hn.out];rfl,HF2.out⟩
 have Emade:=Lib.hid emade
 have gmade:(a.made != b.made)=false:=by simp [emade]
 clear emade
 have hy:Hid (decide (a=b)=true):=by show _=_;rw [decide_eq_true];exact client_ext Ewho.out Eseen.out Ebase.out Ewait.out Edone.out Emade.out
 go_wp2_with fail
 go_ret
 exact ⟨by rw [hy.out];rfl,HF2.out⟩
open Go.RowKit Go.Lib
set_option maxRecDepth 100000 in
set_option maxHeartbeats 1000000 in
theorem toServer_c (L:Option Addr) (ln:Nat) (log:List Entry) (safe:Int) (up:Bool) (w:World) (hr:Rd w L ln log) (hl:(log).length≤2000000) :
  Calls Tryz.prog 58 #[.agg #[.slice L log.length ln,.int .i64 safe,.bool up]] w fun x w'=>∃ L' ln',x=.returned (.agg #[.slice L' log.length ln',.int .i64 safe,.bool up])∧RdT 35 w' L' ln' log∧Ext w w':=by
 have h3:=three_all w (.cells #[.slice L log.length ln,.int .i64 safe,.bool up] 50) (.cells #[.slice none 0 0,.int .i64 0,.bool false] 58) (.cells #[.slice none 0 0,.int .i64 0,.bool false] 58)
 have hE0:=ext3 w (.cells #[.slice L log.length ln,.int .i64 safe,.bool up] 50) (.cells #[.slice none 0 0,.int .i64 0,.bool false] 58) (.cells #[.slice none 0 0,.int .i64 0,.bool false] 58)
 have hz:(((w.alloc (.cells #[.slice L log.length ln,.int .i64 safe,.bool up] 50)).alloc (.cells #[.slice none 0 0,.int .i64 0,.bool false] 58)).alloc (.cells #[.slice none 0 0,.int .i64 0,.bool false] 58)).heap.size=w.heap.size+3:=by simp only [alloc_sz]
 have HC:=Lib.hid (toEntryS_c L ln log _ (hr.ext hE0) hl)
 go_enter Tryz.func58,Tryz.ntmps58
 go_wp2_with fail
 generalize (((w.alloc (.cells #[.slice L log.length ln,.int .i64 safe,.bool up] 50)).alloc (.cells #[.slice none 0 0,.int .i64 0,.bool false] 58)).alloc (.cells #[.slice none 0 0,.int .i64 0,.bool false] 58))=W3 at *
 refine HC.out.mono ?_
 rintro e w1 ⟨v,rfl,ho,hb⟩
 obtain ⟨L',ln',rfl,hv⟩:=ho.rd
 have hT:=ho.rdT
 have x1:=(hb.block w.heap.size (blk_lt h3.1)).trans h3.1
 have y1:=(hb.block (w.heap.size+1) (blk_lt h3.2.1)).trans h3.2.1
 have z1:=(hb.block (w.heap.size+1+1) (blk_lt h3.2.2)).trans h3.2.2
 have HE:=Lib.hid (hE0.trans (hb.mono hE0.size));have X1:=Lib.hid x1;have Y1:=Lib.hid y1;have Z1:=Lib.hid z1;have HT:=Lib.hid hT
 obtain ⟨c0,c1,c2,cf⟩:=tri_cells x1
 obtain ⟨d0,d1,d2,df⟩:=tri_cells z1
 obtain ⟨b0,b1,b2,bf⟩:=tri_cells y1
 have hs:=HE.out.size
 have ha2:w.heap.size≤w.heap.size+1+1:=by omega
 have ha1:w.heap.size≤w.heap.size+1:=by omega
 clear h3 hE0 hz ho hb hv hT x1 y1 z1 hr HC
 go_wp2_with fail
 have hz2:(((w1.setCell ⟨w.heap.size+1+1,0,none⟩ (.slice L' log.length ln')).setCell ⟨w.heap.size+1+1,1,none⟩ (.int .i64 safe)).setCell ⟨w.heap.size+1+1,2,none⟩ (.bool up)).heap[w.heap.size+1+1]?=some (.cells #[.slice L' log.length ln',.int .i64 safe,.bool up] 58 (0,0)):=by
  have h:=Z1.out
  exact tri_set h
 have hy2:(((w1.setCell ⟨w.heap.size+1+1,0,none⟩ (.slice L' log.length ln')).setCell ⟨w.heap.size+1+1,1,none⟩ (.int .i64 safe)).setCell ⟨w.heap.size+1+1,2,none⟩ (.bool up)).heap[w.heap.size+1]?=some (.cells #[.slice none 0 0,.int .i64 0,.bool false] 58 (0,0)):=(setx (by omega)).trans ((setx (by omega)).trans ((setx (by omega)).trans (Y1.out)))
 have hF:=tri_set (v0:=(.slice L' log.length ln')) (v1:=(.int .i64 safe)) (v2:=(.bool up)) hy2
 obtain ⟨k0,k1,k2,kf⟩:=tri_cells hF
 refine bodyPost_ret (v:=.agg #[.slice L' log.length ln',.int .i64 safe,.bool up]) ?_ rfl ?_
 ·simp [results,Tryz.f58,go_sem,k0,k1,k2]
 ·have g1:Turn (fun k=>k=w.heap.size+1+1) w1 (((w1.setCell ⟨w.heap.size+1+1,0,none⟩ (.slice L' log.length ln')).setCell ⟨w.heap.size+1+1,1,none⟩ (.int .i64 safe)).setCell ⟨w.heap.size+1+1,2,none⟩ (.bool up)):=Turn.grown (row:=some (w.heap.size+1+1)) (gset (gset (gset_any _ _ _ _) _ _) _ _) (fun k h=>(Option.some.inj h).symm)
  have t1:=HT.out.turn g1 (fun k h cs m=>by subst h;rw [Z1.out];intro e;injection e with e;injection e with _ e;exact absurd e (by decide))
  have g2:Turn (fun k=>k=w.heap.size+1) (((w1.setCell ⟨w.heap.size+1+1,0,none⟩ (.slice L' log.length ln')).setCell ⟨w.heap.size+1+1,1,none⟩ (.int .i64 safe)).setCell ⟨w.heap.size+1+1,2,none⟩ (.bool up)) ((((((w1.setCell ⟨w.heap.size+1+1,0,none⟩ (.slice L' log.length ln')).setCell ⟨w.heap.size+1+1,1,none⟩ (.int .i64 safe)).setCell ⟨w.heap.size+1+1,2,none⟩ (.bool up)).setCell ⟨w.heap.size+1,0,none⟩ (.slice L' log.length ln')).setCell ⟨w.heap.size+1,1,none⟩ (.int .i64 safe)).setCell ⟨w.heap.size+1,2,none⟩ (.bool up)):=Turn.grown (row:=some (w.heap.size+1)) (gset (gset (gset_any _ _ _ _) _ _) _ _) (fun k h=>(Option.some.inj h).symm)
  have t2:=t1.turn g2 (fun k h cs m=>by subst h;rw [hy2];intro e;injection e with e;injection e with _ e;exact absurd e (by decide))
  exact ⟨_,_,rfl,t2,((((((HE.out.setCell ha2 _).setCell ha2 _).setCell ha2 _).setCell ha1 _).setCell ha1 _).setCell ha1 _)⟩
set_option maxRecDepth 100000 in
set_option maxHeartbeats 1000000 in
theorem toLetter_c (m:Lt) (A:Option Addr) (an:Nat) (w:World) (hr:Rd w A an m.list) (hl:(m.list).length≤2000000) :
  Calls Tryz.prog 104 #[.agg (cL m A an)] w fun x w'=>∃ A' an',x=.returned (.agg (cL m A' an'))∧RdT 35 w' A' an' m.list∧Ext w w':=by
 have h3:=three_all w (.cells (cL m A an) 158) (.cells #[.int .i64 0,.int .i64 0,.slice none 0 0] 104) (.cells #[.int .i64 m.dst,.int .i64 m.frm,.slice none 0 0] 104)
 have hE0:=ext3 w (.cells (cL m A an) 158) (.cells #[.int .i64 0,.int .i64 0,.slice none 0 0] 104) (.cells #[.int .i64 m.dst,.int .i64 m.frm,.slice none 0 0] 104)
 have hz:(((w.alloc (.cells (cL m A an) 158)).alloc (.cells #[.int .i64 0,.int .i64 0,.slice none 0 0] 104)).alloc (.cells #[.int .i64 m.dst,.int .i64 m.frm,.slice none 0 0] 104)).heap.size=w.heap.size+3:=by simp only [alloc_sz]
 have HC:=Lib.hid (toEntryS_c A an m.list _ (hr.ext hE0) hl)
 go_enter Tryz.func104,Tryz.ntmps104
 go_wp2_with fail
 generalize (((w.alloc (.cells (cL m A an) 158)).alloc (.cells #[.int .i64 0,.int .i64 0,.slice none 0 0] 104)).alloc (.cells #[.int .i64 m.dst,.int .i64 m.frm,.slice none 0 0] 104))=W3 at *
 refine HC.out.mono ?_
 rintro e w1 ⟨v,rfl,ho,hb⟩
 obtain ⟨A',an',rfl,hv⟩:=ho.rd
 have hT:=ho.rdT
 have x1:=(hb.block w.heap.size (blk_lt h3.1)).trans h3.1
 have y1:=(hb.block (w.heap.size+1) (blk_lt h3.2.1)).trans h3.2.1
 have z1:=(hb.block (w.heap.size+1+1) (blk_lt h3.2.2)).trans h3.2.2
 have HE:=Lib.hid (hE0.trans (hb.mono hE0.size));have X1:=Lib.hid x1;have Y1:=Lib.hid y1;have Z1:=Lib.hid z1;have HT:=Lib.hid hT
 obtain ⟨c0,c1,c2,cf⟩:=tri_cells x1
 obtain ⟨d0,d1,d2,df⟩:=tri_cells z1
 obtain ⟨b0,b1,b2,bf⟩:=tri_cells y1
 have hs:=HE.out.size
 have ha2:w.heap.size≤w.heap.size+1+1:=by omega
 have ha1:w.heap.size≤w.heap.size+1:=by omega
 clear h3 hE0 hz ho hb hv hT x1 y1 z1 hr HC
 go_wp2_with fail
 have hz2:(w1.setCell ⟨w.heap.size+1+1,2,none⟩ (.slice A' m.list.length an')).heap[w.heap.size+1+1]?=some (.cells (cL m A' an') 104 (0,0)):=by
  have h:=Z1.out
  exact set_at h
 have hy2:(w1.setCell ⟨w.heap.size+1+1,2,none⟩ (.slice A' m.list.length an')).heap[w.heap.size+1]?=some (.cells #[.int .i64 0,.int .i64 0,.slice none 0 0] 104 (0,0)):=(setx (by omega)).trans (Y1.out)
 have hF:=tri_set (v0:=(.int .i64 m.dst)) (v1:=(.int .i64 m.frm)) (v2:=(.slice A' m.list.length an')) hy2
 obtain ⟨k0,k1,k2,kf⟩:=tri_cells hF
 refine bodyPost_ret (v:=.agg (cL m A' an')) ?_ rfl ?_
 ·simp [results,Tryz.f104,go_sem,k0,k1,k2]
 ·have g1:Turn (fun k=>k=w.heap.size+1+1) w1 (w1.setCell ⟨w.heap.size+1+1,2,none⟩ (.slice A' m.list.length an')):=Turn.grown (row:=some (w.heap.size+1+1)) (gset_any _ _ _ _) (fun k h=>(Option.some.inj h).symm)
  have t1:=HT.out.turn g1 (fun k h cs m=>by subst h;rw [Z1.out];intro e;injection e with e;injection e with _ e;exact absurd e (by decide))
  have g2:Turn (fun k=>k=w.heap.size+1) (w1.setCell ⟨w.heap.size+1+1,2,none⟩ (.slice A' m.list.length an')) ((((w1.setCell ⟨w.heap.size+1+1,2,none⟩ (.slice A' m.list.length an')).setCell ⟨w.heap.size+1,0,none⟩ (.int .i64 m.dst)).setCell ⟨w.heap.size+1,1,none⟩ (.int .i64 m.frm)).setCell ⟨w.heap.size+1,2,none⟩ (.slice A' m.list.length an')):=Turn.grown (row:=some (w.heap.size+1)) (gset (gset (gset_any _ _ _ _) _ _) _ _) (fun k h=>(Option.some.inj h).symm)
  have t2:=t1.turn g2 (fun k h cs m=>by subst h;rw [hy2];intro e;injection e with e;injection e with _ e;exact absurd e (by decide))
  exact ⟨_,_,rfl,t2,((((HE.out.setCell ha2 _).setCell ha1 _).setCell ha1 _).setCell ha1 _)⟩
open Go.RowKit Go.Lib
theorem RcOk.ext {W W':World} {x:RC} {c:Client} (h:RcOk W x c) (hb:Ext W W'):RcOk W' x c:=h.keep (KeepT.ext hb)
theorem LtOk.ext {W W':World} {x:RL} {c:Lt} (h:LtOk W x c) (hb:Ext W W'):LtOk W' x c:=h.keep (KeepT.ext hb)
theorem RcOk.turn {S:Nat→Prop} {W W':World} {x:RC} {c:Client} (h:RcOk W x c) (ht:Turn S W W') (hs:∀ q,S q→∀ cs (m:Nat × Nat),W.heap[q]?≠some (.cells cs 46 m)∧W.heap[q]?≠some (.cells cs 35 m)):RcOk W' x c:=by
 obtain ⟨b,bn,q,qn,rfl,h1,h2⟩:=h
 exact ⟨b,bn,q,qn,rfl,h1.turn ht fun k hk cs m=>(hs k hk cs m).1,h2.turn ht fun k hk cs m=>(hs k hk cs m).2⟩
theorem LtOk.turn {S:Nat→Prop} {W W':World} {x:RL} {c:Lt} (h:LtOk W x c) (ht:Turn S W W') (hs:∀ q,S q→∀ cs (m:Nat × Nat),W.heap[q]?≠some (.cells cs 46 m)∧W.heap[q]?≠some (.cells cs 35 m)):LtOk W' x c:=by
 obtain ⟨a,n,rfl,h1⟩:=h
 exact ⟨a,n,rfl,h1.turn ht fun k hk cs m=>(hs k hk cs m).2⟩
theorem CO.typed {w:World} {base:Nat} {c:Client} {v:Value} (h:CO w base c v):∃ A1 n1 A2 n2,v=.agg (cC c A1 n1 A2 n2)∧RdT 46 w A1 n1 c.base∧RdT 35 w A2 n2 c.wait:=by
 obtain ⟨A1,n1,A2,n2,rfl,h1,h2⟩:=h
 exact ⟨A1,n1,A2,n2,rfl,h1.rdT,h2.rdT⟩
theorem own_put_rc {w:World} {base g cap n:Nat} {L:List RC} (h:Own 26 w base (.slice (some ⟨g,0,none⟩) n cap) L) (hn:L.length=n) (k:Nat) (hk:k<n) (x:RC) :
  Own 26 ((((((w.setCell ⟨g,k*6,none⟩ (.int .i64 x.who)).setCell ⟨g,k*6+1,none⟩ (.int .i64 x.seen)).setCell ⟨g,k*6+2,none⟩ (.slice x.b x.bl x.bn)).setCell ⟨g,k*6+3,none⟩ (.slice x.q x.ql x.qn)).setCell ⟨g,k*6+4,none⟩ (.int .i64 x.done)).setCell ⟨g,k*6+5,none⟩ (.int .i64 x.made)) base (.slice (some ⟨g,0,none⟩) n cap) (L.set k x):=by
 subst hn
 have e0:=(Own.store h k hk ⟨x.who,L[k].seen,L[k].b,L[k].bl,L[k].bn,L[k].q,L[k].ql,L[k].qn,L[k].done,L[k].made⟩ trivial 0 (.int .i64 x.who) (by decide) rfl).1
 have e1:=(Own.store (l:=L.set k ⟨x.who,L[k].seen,L[k].b,L[k].bl,L[k].bn,L[k].q,L[k].ql,L[k].qn,L[k].done,L[k].made⟩) (by rw [List.length_set] at *;exact e0) k (by rw [List.length_set];exact hk) ⟨x.who,x.seen,L[k].b,L[k].bl,L[k].bn,L[k].q,L[k].ql,L[k].qn,L[k].done,L[k].made⟩ trivial 1 (.int .i64 x.seen) (by decide) (by rw [List.getElem_set_self];rfl)).1
 rw [List.set_set] at e1
 have e2:=(Own.store (l:=L.set k ⟨x.who,x.seen,L[k].b,L[k].bl,L[k].bn,L[k].q,L[k].ql,L[k].qn,L[k].done,L[k].made⟩) (by rw [List.length_set] at *;exact e1) k (by rw [List.length_set];exact hk) ⟨x.who,x.seen,x.b,x.bl,x.bn,L[k].q,L[k].ql,L[k].qn,L[k].done,L[k].made⟩ trivial 2 (.slice x.b x.bl x.bn) (by decide) (by rw [List.getElem_set_self];rfl)).1
 rw [List.set_set] at e2
 have e3:=(Own.store (l:=L.set k ⟨x.who,x.seen,x.b,x.bl,x.bn,L[k].q,L[k].ql,L[k].qn,L[k].done,L[k].made⟩) (by rw [List.length_set] at *;exact e2) k (by rw [List.length_set];exact hk) ⟨x.who,x.seen,x.b,x.bl,x.bn,x.q,x.ql,x.qn,L[k].done,L[k].made⟩ trivial 3 (.slice x.q x.ql x.qn) (by decide) (by rw [List.getElem_set_self];rfl)).1
 rw [List.set_set] at e3
 have e4:=(Own.store (l:=L.set k ⟨x.who,x.seen,x.b,x.bl,x.bn,x.q,x.ql,x.qn,L[k].done,L[k].made⟩) (by rw [List.length_set] at *;exact e3) k (by rw [List.length_set];exact hk) ⟨x.who,x.seen,x.b,x.bl,x.bn,x.q,x.ql,x.qn,x.done,L[k].made⟩ trivial 4 (.int .i64 x.done) (by decide) (by rw [List.getElem_set_self];rfl)).1
 rw [List.set_set] at e4
 have e5:=(Own.store (l:=L.set k ⟨x.who,x.seen,x.b,x.bl,x.bn,x.q,x.ql,x.qn,x.done,L[k].made⟩) (by rw [List.length_set] at *;exact e4) k (by rw [List.length_set];exact hk) ⟨x.who,x.seen,x.b,x.bl,x.bn,x.q,x.ql,x.qn,x.done,x.made⟩ trivial 5 (.int .i64 x.made) (by decide) (by rw [List.getElem_set_self];rfl)).1
 rw [List.set_set] at e5
 rw [List.length_set] at e5
 exact e5
theorem own_put_rl {w:World} {base g cap n:Nat} {L:List RL} (h:Own 104 w base (.slice (some ⟨g,0,none⟩) n cap) L) (hn:L.length=n) (k:Nat) (hk:k<n) (x:RL) :
  Own 104 (((w.setCell ⟨g,k*3,none⟩ (.int .i64 x.dst)).setCell ⟨g,k*3+1,none⟩ (.int .i64 x.frm)).setCell ⟨g,k*3+2,none⟩ (.slice x.a x.n x.c)) base (.slice (some ⟨g,0,none⟩) n cap) (L.set k x):=by
 subst hn
 have e0:=(Own.store h k hk ⟨x.dst,L[k].frm,L[k].a,L[k].n,L[k].c⟩ trivial 0 (.int .i64 x.dst) (by decide) rfl).1
 have e1:=(Own.store (l:=L.set k ⟨x.dst,L[k].frm,L[k].a,L[k].n,L[k].c⟩) (by rw [List.length_set] at *;exact e0) k (by rw [List.length_set];exact hk) ⟨x.dst,x.frm,L[k].a,L[k].n,L[k].c⟩ trivial 1 (.int .i64 x.frm) (by decide) (by rw [List.getElem_set_self];rfl)).1
 rw [List.set_set] at e1
 have e2:=(Own.store (l:=L.set k ⟨x.dst,x.frm,L[k].a,L[k].n,L[k].c⟩) (by rw [List.length_set] at *;exact e1) k (by rw [List.length_set];exact hk) ⟨x.dst,x.frm,x.a,x.n,x.c⟩ trivial 2 (.slice x.a x.n x.c) (by decide) (by rw [List.getElem_set_self];rfl)).1
 rw [List.set_set] at e2
 rw [List.length_set] at e2
 exact e2
set_option maxRecDepth 100000 in
set_option maxHeartbeats 2000000 in
theorem toClientS_c (A:Option Addr) (c:Nat) (xs:List RC) (l:List Client) (w:World) (hr:Rd w A c xs) (hl:All2 (RcU w) xs l) (hb:l.length≤2000000) (hs:∀ y∈l,y.base.length≤2000000∧y.wait.length≤2000000) :
  Calls Tryz.prog 59 #[.slice A xs.length c] w fun x w'=>∃ g n zs,x=.returned (.slice (some ⟨g,0,none⟩) zs.length n)∧RdT 26 w' (some ⟨g,0,none⟩) n zs∧All2 (RcOk w') zs l∧Ext w w':=by
 obtain ⟨i0,hi,hz0,hz1,hz2⟩:=cli_info
 have HXL:=Lib.hid hl.1;have HR:=Lib.hid hr;have HA:=Lib.hid hl;have HSM:=Lib.hid hs
 have hxb:xs.length≤2000000:=by have:=hl.1;omega
 clear hr hl hs
 go_enter Tryz.func59,Tryz.ntmps59
 go_wp2_with (first
  |(refine wpList_make_full _ rfl _ _ 59 rfl w.heap.size 26 i0 _ 6 el_cli.und hi hz0 hz1 .i64 .i64 _ _ xs.length rfl rfl rfl rfl (by rw [hz2];omega) (by unfold maxLen;omega) (Nat.le_refl _) ?_;intro w0 hown0 hgrow0;have HO:=Lib.hid hown0;have HG:=Lib.hid hgrow0;clear hown0 hgrow0))
 have hown:Own 26 w0 w.heap.size (.slice (some ⟨w.heap.size,0,none⟩) xs.length xs.length) (List.replicate xs.length (⟨0,0,none,0,0,none,0,0,0,0⟩:RC)):=by
  refine ⟨?_,fun x hx=>trivial⟩
  rw [List.length_replicate,←flat_made (⟨0,0,none,0,0,none,0,0,0,0⟩:RC) xs.length cC0 rfl]
  exact HO.out
 have HB0:Hid (Ext w w0):=(Below.refl w.heap.size w).grown HG.out (Nat.le_refl _) (by simp)
 have HOW:=Lib.hid hown
 clear hown hi hz0 hz1 hz2 HO HG
 go_loopg [4] xs.length (fun gk i wr=>∃ (k:Nat) (zs:List RC),k≤xs.length∧Hid (gk=xs.length - k)∧i=.int .i64 k∧Hid (zs.length=xs.length)∧Hid (Own 26 wr w.heap.size (.slice (some ⟨w.heap.size,0,none⟩) xs.length xs.length) zs)∧Hid (∀ (j:Nat) (hj:j<zs.length) (hj2:j<l.length),j<k→RcOk wr zs[j] l[j])∧Hid (Ext w wr))
 case atStart=>exact ⟨0,List.replicate xs.length ⟨0,0,none,0,0,none,0,0,0,0⟩,Nat.zero_le _,rfl,rfl,by show _=_;simp,HOW.out,fun j _ _ h=>by omega,HB0.out⟩
 case round=>
  obtain ⟨k,zs,hk,HK,rfl,HZL,HQ,HJ,HB⟩:=hrel
  by_cases hlt:k<xs.length
  ·have hkl:k<l.length:=by have:=HXL.out;omega
   obtain ⟨b,off,rfl,hbl,c0,c1,c2,c3,c4,c5⟩:=rc_at (HR.out.ext HB.out) k hlt
   obtain ⟨A1,n1,A2,n2,ex,g1,g2⟩:=HA.out.2 k hlt hkl
   rw [ex] at c0 c1 c2 c3 c4 c5
   have hsm:=HSM.out _ (List.getElem_mem hkl)
   have HT:=Lib.hid (toClient_c l[k] (.agg (cC l[k] A1 n1 A2 n2)) wr ⟨A1,n1,A2,n2,rfl,g1.ext HB.out,g2.ext HB.out⟩ hsm.1 hsm.2)
   clear ex g1 g2 hsm
   have hlt':(k:Int)<xs.length:=by omega
   go_wp2_with fail
   refine HT.out.mono ?_
   rintro e w1 ⟨v,rfl,ho,hb1⟩
   obtain ⟨B1,m1,B2,m2,rfl,t1,t2⟩:=ho.typed
   have HOKN:Hid (RcOk w1 ⟨l[k].who,l[k].seen,B1,l[k].base.length,m1,B2,l[k].wait.length,m2,l[k].done,l[k].made⟩ l[k]):=⟨B1,m1,B2,m2,rfl,t1,t2⟩
   clear ho t1 t2
   have hq1:=HQ.out.below hb1
   have hf1:=hq1.frz
   obtain ⟨b9,off9,e9,-,y0,y1,y2,y3,y4,y5⟩:=rc_at hq1.slice_rd.1 k (by have:=HZL.out;omega)
   injection e9 with e9;injection e9 with e91 e92;subst e91;subst e92
   simp only [Nat.zero_add] at y0 y1 y2 y3 y4 y5
   have HQ1:=Lib.hid hq1;have HB1:=Lib.hid (HB.out.trans (hb1.mono HB.out.size));have HX:=Lib.hid hb1
   clear hq1 hb1 c0 c1 c2 c3 c4 c5 HT
   go_wp2_with fail
   go_roundg (xs.length - (k+1))
   case measure=>have:=HK.out;omega
   case rel=>
    have hput:=own_put_rc HQ1.out HZL.out k hlt ⟨l[k].who,l[k].seen,B1,l[k].base.length,m1,B2,l[k].wait.length,m2,l[k].done,l[k].made⟩
    have hty:=HQ1.out.ty w.heap.size rfl
    have hg:∀ u0 u1 u2 u3 u4 u5,Turn (fun q=>q=w.heap.size) w1 ((((((w1.setCell ⟨w.heap.size,k*6,none⟩ u0).setCell ⟨w.heap.size,k*6+1,none⟩ u1).setCell ⟨w.heap.size,k*6+2,none⟩ u2).setCell ⟨w.heap.size,k*6+3,none⟩ u3).setCell ⟨w.heap.size,k*6+4,none⟩ u4).setCell ⟨w.heap.size,k*6+5,none⟩ u5):=fun u0 u1 u2 u3 u4 u5=>Turn.grown (row:=some w.heap.size) (gset (gset (gset (gset (gset (gset_any _ _ _ _) _ _) _ _) _ _) _ _) _ _) (fun k h=>(Option.some.inj h).symm)
    have hne:∀ q,q=w.heap.size→∀ cs (m:Nat × Nat),w1.heap[q]?≠some (.cells cs 46 m)∧w1.heap[q]?≠some (.cells cs 35 m):=fun q hq cs m=>by
     subst hq
     obtain ⟨cs9,m9,h9⟩:=hty
     rw [h9]
     exact ⟨fun e=>by injection e with e;injection e with _ e;exact absurd e (by decide),fun e=>by injection e with e;injection e with _ e;exact absurd e (by decide)⟩
    refine ⟨k+1,zs.set k ⟨l[k].who,l[k].seen,B1,l[k].base.length,m1,B2,l[k].wait.length,m2,l[k].done,l[k].made⟩,by omega,rfl,by go_num,by show _=_;rw [List.length_set];exact HZL.out,hput,Lib.hid (fun j hj hj2 hjk=>?_),((((((HB1.out.setCell (Nat.le_refl _) _).setCell (Nat.le_refl _) _).setCell (Nat.le_refl _) _).setCell (Nat.le_refl _) _).setCell (Nat.le_refl _) _).setCell (Nat.le_refl _) _)⟩
    rw [List.length_set] at hj
    by_cases hjk2:j=k
    ·subst hjk2
     rw [List.getElem_set_self]
     exact RcOk.turn HOKN.out (hg _ _ _ _ _ _) hne
    ·rw [List.getElem_set_ne (fun e=>hjk2 e.symm)]
     exact RcOk.turn ((HJ.out j hj hj2 (by omega)).ext HX.out) (hg _ _ _ _ _ _) hne
  ·have hkl:k=xs.length:=by omega
   subst hkl
   have HF:=Lib.hid (show RdT 26 wr (some ⟨w.heap.size,0,none⟩) xs.length zs from by have h:=HQ.out;have hz:=HZL.out;rw [←hz] at h ⊢;exact h.rdT)
   have HALL:Hid (All2 (RcOk wr) zs l):=⟨by rw [HZL.out];exact HXL.out,fun i h1 h2=>HJ.out i h1 h2 (by have:=HZL.out;omega)⟩
   have hzl:=HZL.out
   go_wp2_with fail
   go_ret
   exact ⟨w.heap.size,xs.length,zs,by rw [hzl];rfl,HF.out,HALL.out,HB.out⟩
set_option maxRecDepth 100000 in
set_option maxHeartbeats 2000000 in
theorem toLetterS_c (A:Option Addr) (c:Nat) (xs:List RL) (l:List Lt) (w:World) (hr:Rd w A c xs) (hl:All2 (LtU w) xs l) (hb:l.length≤2000000) (hs:∀ y∈l,y.list.length≤2000000) :
  Calls Tryz.prog 60 #[.slice A xs.length c] w fun x w'=>∃ g n zs,x=.returned (.slice (some ⟨g,0,none⟩) zs.length n)∧RdT 104 w' (some ⟨g,0,none⟩) n zs∧All2 (LtOk w') zs l∧Ext w w':=by
 obtain ⟨i0,hi,hz0,hz1,hz2⟩:=let_info
 have HXL:=Lib.hid hl.1;have HR:=Lib.hid hr;have HA:=Lib.hid hl;have HSM:=Lib.hid hs
 have hxb:xs.length≤2000000:=by have:=hl.1;omega
 clear hr hl hs
 go_enter Tryz.func60,Tryz.ntmps60
 go_wp2_with (first
  |(refine wpList_make_full _ rfl _ _ 60 rfl w.heap.size 104 i0 _ 3 el_let.und hi hz0 hz1 .i64 .i64 _ _ xs.length rfl rfl rfl rfl (by rw [hz2];omega) (by unfold maxLen;omega) (Nat.le_refl _) ?_;intro w0 hown0 hgrow0;have HO:=Lib.hid hown0;have HG:=Lib.hid hgrow0;clear hown0 hgrow0))
 have hown:Own 104 w0 w.heap.size (.slice (some ⟨w.heap.size,0,none⟩) xs.length xs.length) (List.replicate xs.length (⟨0,0,none,0,0⟩:RL)):=by
  refine ⟨?_,fun x hx=>trivial⟩
  rw [List.length_replicate,←flat_made (⟨0,0,none,0,0⟩:RL) xs.length #[.int .i64 0,.int .i64 0,.slice none 0 0] rfl]
  exact HO.out
 have HB0:Hid (Ext w w0):=(Below.refl w.heap.size w).grown HG.out (Nat.le_refl _) (by simp)
 have HOW:=Lib.hid hown
 clear hown hi hz0 hz1 hz2 HO HG
 go_loopg [4] xs.length (fun gk i wr=>∃ (k:Nat) (zs:List RL),k≤xs.length∧Hid (gk=xs.length - k)∧i=.int .i64 k∧Hid (zs.length=xs.length)∧Hid (Own 104 wr w.heap.size (.slice (some ⟨w.heap.size,0,none⟩) xs.length xs.length) zs)∧Hid (∀ (j:Nat) (hj:j<zs.length) (hj2:j<l.length),j<k→LtOk wr zs[j] l[j])∧Hid (Ext w wr))
 case atStart=>exact ⟨0,List.replicate xs.length ⟨0,0,none,0,0⟩,Nat.zero_le _,rfl,rfl,by show _=_;simp,HOW.out,fun j _ _ h=>by omega,HB0.out⟩
 case round=>
  obtain ⟨k,zs,hk,HK,rfl,HZL,HQ,HJ,HB⟩:=hrel
  by_cases hlt:k<xs.length
  ·have hkl:k<l.length:=by have:=HXL.out;omega
   obtain ⟨b,off,rfl,hbl,c0,c1,c2⟩:=rl_at (HR.out.ext HB.out) k hlt
   obtain ⟨A1,n1,ex,g1⟩:=HA.out.2 k hlt hkl
   rw [ex] at c0 c1 c2
   have hsm:=HSM.out _ (List.getElem_mem hkl)
   have HT:=Lib.hid (toLetter_c l[k] A1 n1 wr (g1.ext HB.out) hsm)
   clear ex g1 hsm
   have hlt':(k:Int)<xs.length:=by omega
   go_wp2_with fail
   refine HT.out.mono ?_
   rintro e w1 ⟨B1,m1,rfl,t1,hb1⟩
   have HOKN:Hid (LtOk w1 ⟨l[k].dst,l[k].frm,B1,l[k].list.length,m1⟩ l[k]):=⟨B1,m1,rfl,t1⟩
   clear t1
   have hq1:=HQ.out.below hb1
   have hf1:=hq1.frz
   obtain ⟨b9,off9,e9,-,y0,y1,y2⟩:=rl_at hq1.slice_rd.1 k (by have:=HZL.out;omega)
   injection e9 with e9;injection e9 with e91 e92;subst e91;subst e92
   simp only [Nat.zero_add] at y0 y1 y2
   have HQ1:=Lib.hid hq1;have HB1:=Lib.hid (HB.out.trans (hb1.mono HB.out.size));have HX:=Lib.hid hb1
   clear hq1 hb1 c0 c1 c2 HT
   go_wp2_with fail
   go_roundg (xs.length - (k+1))
   case measure=>have:=HK.out;omega
   case rel=>
    have hput:=own_put_rl HQ1.out HZL.out k hlt ⟨l[k].dst,l[k].frm,B1,l[k].list.length,m1⟩
    have hty:=HQ1.out.ty w.heap.size rfl
    have hg:∀ u0 u1 u2,Turn (fun q=>q=w.heap.size) w1 (((w1.setCell ⟨w.heap.size,k*3,none⟩ u0).setCell ⟨w.heap.size,k*3+1,none⟩ u1).setCell ⟨w.heap.size,k*3+2,none⟩ u2):=fun u0 u1 u2=>Turn.grown (row:=some w.heap.size) (gset (gset (gset_any _ _ _ _) _ _) _ _) (fun k h=>(Option.some.inj h).symm)
    have hne:∀ q,q=w.heap.size→∀ cs (m:Nat × Nat),w1.heap[q]?≠some (.cells cs 46 m)∧w1.heap[q]?≠some (.cells cs 35 m):=fun q hq cs m=>by
     subst hq
     obtain ⟨cs9,m9,h9⟩:=hty
     rw [h9]
     exact ⟨fun e=>by injection e with e;injection e with _ e;exact absurd e (by decide),fun e=>by injection e with e;injection e with _ e;exact absurd e (by decide)⟩
    refine ⟨k+1,zs.set k ⟨l[k].dst,l[k].frm,B1,l[k].list.length,m1⟩,by omega,rfl,by go_num,by show _=_;rw [List.length_set];exact HZL.out,hput,Lib.hid (fun j hj hj2 hjk=>?_),(((HB1.out.setCell (Nat.le_refl _) _).setCell (Nat.le_refl _) _).setCell (Nat.le_refl _) _)⟩
    rw [List.length_set] at hj
    by_cases hjk2:j=k
    ·subst hjk2
     rw [List.getElem_set_self]
     exact LtOk.turn HOKN.out (hg _ _ _) hne
    ·rw [List.getElem_set_ne (fun e=>hjk2 e.symm)]
     exact LtOk.turn ((HJ.out j hj hj2 (by omega)).ext HX.out) (hg _ _ _) hne
  ·have hkl:k=xs.length:=by omega
   subst hkl
   have HF:=Lib.hid (show RdT 104 wr (some ⟨w.heap.size,0,none⟩) xs.length zs from by have h:=HQ.out;have hz:=HZL.out;rw [←hz] at h ⊢;exact h.rdT)
   have HALL:Hid (All2 (LtOk wr) zs l):=⟨by rw [HZL.out];exact HXL.out,fun i h1 h2=>HJ.out i h1 h2 (by have:=HZL.out;omega)⟩
   have hzl:=HZL.out
   go_wp2_with fail
   go_ret
   exact ⟨w.heap.size,xs.length,zs,by rw [hzl];rfl,HF.out,HALL.out,HB.out⟩
end Go.Proofs.YtecmcjfdaipfcaaGreatDoor
