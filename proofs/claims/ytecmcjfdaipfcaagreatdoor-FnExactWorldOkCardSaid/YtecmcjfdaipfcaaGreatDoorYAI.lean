/- Appending to a slice of the call's own, one law for all kinds of elements; what a slice's cut reads. .. Walks of the reference's rows and outlines: they are ok. -/
import Derived.Test.YtecmcjfdaipfcaaGreatDoorYAH
import Derived.Laws.OwnMore
import Derived.Test.YtecmcjfdaipfcaaGreatDoorYAA
import Derived.Deep.QuietTactic
import Derived.BigQuiet
import Derived.Laws.Bits64
import Derived.Test.YtecmcjfdaipfcaaGreatDoorCards
import Derived.Test.YtecmcjfdaipfcaaGreatDoorTie
import Derived.WalkKit
import Derived.ProofKit
import Derived.OpenShut
import Derived.OpenVars
import Derived.ChangeVars
import Derived.ChangeSlices
import Derived.ChangeOld
import Derived.Below
import Derived.Carry
import Derived.Deep.DeepHandedRow
import Derived.Lib.LaidTab
import Derived.Test.YtecmcjfdaipfcaaGreatDoorYAB
import Derived.Deep.LoopGhost
namespace Go.Proofs.YtecmcjfdaipfcaaGreatDoor
open Go.RowKit Go.Lib
set_option linter.unusedVariables false
open Flat
structure El (α:Type) [Flat α] (e s:TypeId):Prop where
 und:Tryz.prog.underlying s=some (.slice e)
 info:∃ (i:TypeInfo) (z:Value),Tryz.prog.info? e=some i∧i.zero=some z∧i.size=sz α∧i.bytes≤200∧z.cells.size=sz α
theorem info_of {e:TypeId} {z:Value} {n b m:Nat} (h:∃ i:TypeInfo,Tryz.prog.info? e=some i∧i.zero=some z∧i.size=n∧i.bytes=b) (hb:b≤200) (hz:z.cells.size=m) (hm:n=m):∃ (i:TypeInfo) (z:Value),Tryz.prog.info? e=some i∧i.zero=some z∧i.size=m∧i.bytes≤200∧z.cells.size=m:=by
 obtain ⟨i,h1,h2,h3,h4⟩:=h
 exact ⟨i,z,h1,h2,by omega,by omega,hz⟩
theorem el_row:El Row 46 23:=⟨und_rows,info_of row_info (by decide) rfl rfl⟩
theorem el_ent:El Entry 35 24:=⟨und_ents,info_of ent_info (by decide) rfl rfl⟩
theorem int_info:∃ i:TypeInfo,Tryz.prog.info? 3=some i∧i.zero=some (.int .i64 0)∧i.size=1∧i.bytes=8:=info_parts (by kernel_rfl)
theorem el_int:El Int 3 118:=⟨by kernel_rfl,info_of int_info (by decide) rfl rfl⟩
section
variable {α:Type} [Flat α] {e s:TypeId}
theorem run_app_none (E:El α e s) {w:World} {base:Nat} {v:Value} {l:List α} (h:Own e w base v l) (c:Nat):(Builtin.append_ #[s,s] s #[v,.slice none 0 c]).run Tryz.prog w=.ok v w:=by
 obtain ⟨i,z,hi,hz,hs,-,-⟩:=E.info
 rcases h.1.2 with ⟨rfl,_⟩ | ⟨g,cap,cur,rfl,_,_,hnc,_⟩
 ·simp [Builtin.append_,run_underlying E.und,sizeOf,typeInfo,hi,Builtin.lenOf,Builtin.firstCells]
 ·simp [Builtin.append_,run_underlying E.und,sizeOf,typeInfo,hi,Builtin.lenOf,Builtin.firstCells,hnc,storeCells]
theorem grown_refl (w:World) (row:Option Nat):w.grownBy w row:=⟨rfl,rfl,rfl,Nat.le_refl _,fun _ _ _=>rfl⟩
theorem Own.over {w w1:World} {base B:Nat} {v:Value} {l:List α} (h:Own e w base v l) {w0:World} (hb:Below B w0 w) (hg:w.grownBy w1 v.ownBlock) (hB:B≤base) (hs:B≤w.heap.size):Below B w0 w1:=
 ext_grown hb hg hs (fun k hk=>Nat.le_trans hB (h.blk k hk).1)
theorem app_at (E:El α e s) {w:World} {base:Nat} {v:Value} {l:List α} (h:Own e w base v l) {A:Option Addr} {c:Nat} {m:List α} (hr:Rd w A c m) (hl:l.length+m.length≤1000000) (hb:base≤w.heap.size) :
  ∃ v' w',(Builtin.append_ #[s,s] s #[v,.slice A m.length c]).run Tryz.prog w=.ok v' w'∧Own e w' base v' (l++m)∧w.grownBy w' v.ownBlock:=by
 cases A with
 |none=>
  have hm:m=[]:=by
   cases m with
   |nil=>rfl
   |cons x m=>obtain ⟨b,off,h,_⟩:=hr.2.2.1 (by simp);cases h
  subst hm
  exact ⟨v,w,run_app_none E h c,by simpa using h,grown_refl _ _⟩
 |some a=>
  obtain ⟨i,z,hi,hz,hs,hby,hzs⟩:=E.info
  have hn:∀ j u,(flat m)[j]?=some u→w.cell? (a.add j)=some u:=by
   intro j u hj
   have hml:0<m.length:=by
    cases m with
    |nil=>simp [flat] at hj
    |cons x m=>simp
   obtain ⟨b,off,h,hc⟩:=hr.2.2.1 hml
   cases h
   have e1:(⟨b,off,none⟩:Addr).add j=⟨b,off+j,none⟩:=by unfold Addr.add;split <;> simp_all
   rw [e1]
   exact hc j u hj
  have hbb:(l.length+m.length)*i.bytes≤1000000*200:=Nat.mul_le_mul hl hby
  obtain ⟨v',w',hrun,hown,hgrow,-,-⟩:=run_append_own_at (P:=Tryz.prog) (w:=w) base s s e i z (sz α) i.bytes E.und hi hz hs rfl hzs Flat.pos v l.length (flat l) h.1 a m.length c (flat m) (flat_length m) hn (flat_one_cell m) (by unfold maxLen;omega) (by omega) hb
  refine ⟨v',w',hrun,⟨?_,?_⟩,hgrow⟩
  ·rw [List.length_append,flat_append];exact hown
  ·intro x hx
   rcases List.mem_append.1 hx with h1 | h1
   ·exact h.2 x h1
   ·exact hr.ok x h1
theorem rd_box (w:World) (x:α) (hx:okE x) (cs:Array Value) (hc:cs.toList=enc x) (ty:TypeId):Rd (w.alloc (.cells cs ty)) (some ⟨w.heap.size,0,none⟩) 1 [x]:=by
 refine ⟨by simp,by simp [maxLen],fun _=>⟨w.heap.size,0,rfl,fun j v hv=>?_⟩,by simpa using hx⟩
 rw [flat_one,←hc] at hv
 have hj:j<cs.size:=by have:=(List.getElem?_eq_some_iff.1 hv).1;simpa using this
 rw [Array.getElem?_toList] at hv
 have h9:=World.alloc_heap_new w (.cells cs ty)
 unfold World.cell?
 simp only [h9,Nat.zero_add]
 exact hv
theorem app_one (E:El α e s) {w:World} {base:Nat} {v:Value} {l:List α} (h:Own e w base v l) (x:α) (hx:okE x) (hl:l.length<1000000) (hb:base≤w.heap.size) (cs:Array Value) (hc:cs.toList=enc x) :
  ∃ v' w',(Builtin.append_ #[s,s] s #[v,.slice (some ⟨w.heap.size,0,none⟩) 1 1]).run Tryz.prog (w.alloc (.cells cs e))=.ok v' w'∧Own e w' base v' (l++[x])∧(w.alloc (.cells cs e)).grownBy w' v.ownBlock:=by
 have h9:=app_at E (h.below ((Below.refl _ _).alloc (Nat.le_refl _) (.cells cs e))) (rd_box w x hx cs hc e) (by simp;omega) (by rw [alloc_sz];omega)
 rw [List.length_singleton] at h9
 exact h9
theorem Own.over_one {w w1:World} {base B:Nat} {v:Value} {l:List α} (h:Own e w base v l) {o:Obj} {w0:World} (hb:Below B w0 w) (hg:(w.alloc o).grownBy w1 v.ownBlock) (hB:B≤base) (hs:B≤w.heap.size):Below B w0 w1:=
 (h.below ((Below.refl _ _).alloc (Nat.le_refl _) o)).over (hb.alloc hs o) hg hB (by rw [alloc_sz];omega)
theorem own_made (w:World) (base:Nat) (hb:base≤w.heap.size):Own e (w.alloc (.cells #[] e)) base (.slice (some ⟨w.heap.size,0,none⟩) 0 0) ([]:List α):=
 ⟨World.ownsRow_made w #[] 0 hb (Nat.zero_le _) (by simp),by simp⟩
end
/-! ### cuts -/
theorem run_cut {α:Type} [Flat α] {e s:TypeId} (E:El α e s) (A:Option Addr) (n c k:Nat) (hk:k≤n) (w:World):(Instr.slice s (.slice A n c) (some (.int .i64 k)) none none).run Tryz.prog w=.ok (.slice (fromA A c k (sz α)) (n - k) (c - k)) w:=by
 obtain ⟨i,z,hi,hz,hs,hby,hzs⟩:=E.info
 have he:Tryz.prog.elem s=e:=by unfold Program.elem;rw [E.und]
 have hu:Tryz.prog.underlying s=some (.slice (Tryz.prog.elem s)):=by rw [he];exact E.und
 rw [run_slice_l w s A n c hu .i64 k (by omega) (by omega),he]
 have h2:(sizeOf e).run Tryz.prog w=.ok (sz α) w:=by simp [sizeOf,typeInfo,hi,hs]
 rw [h2]
 rfl
theorem run_head {α:Type} [Flat α] {e s:TypeId} (E:El α e s) (A:Option Addr) (n c k:Nat) (hk:k≤c) (w:World):(Instr.slice s (.slice A n c) none (some (.int .i64 k)) none).run Tryz.prog w=.ok (.slice (fromA A c 0 (sz α)) k c) w:=by
 obtain ⟨i,z,hi,hz,hs,hby,hzs⟩:=E.info
 have he:Tryz.prog.elem s=e:=by unfold Program.elem;rw [E.und]
 have hu:Tryz.prog.underlying s=some (.slice (Tryz.prog.elem s)):=by rw [he];exact E.und
 rw [run_slice_h w s A n c hu .i64 k (by omega) (by omega),he]
 have h2:(sizeOf e).run Tryz.prog w=.ok (sz α) w:=by simp [sizeOf,typeInfo,hi,hs]
 rw [h2]
 rfl
theorem run_mid {α:Type} [Flat α] {e s:TypeId} (E:El α e s) (A:Option Addr) (n c k m:Nat) (hk:k≤m) (hm:m≤c) (w:World):(Instr.slice s (.slice A n c) (some (.int .i64 k)) (some (.int .i64 m)) none).run Tryz.prog w=.ok (.slice (fromA A c k (sz α)) (m - k) (c - k)) w:=by
 obtain ⟨i,z,hi,hz,hs,hby,hzs⟩:=E.info
 have he:Tryz.prog.elem s=e:=by unfold Program.elem;rw [E.und]
 have hu:Tryz.prog.underlying s=some (.slice (Tryz.prog.elem s)):=by rw [he];exact E.und
 rw [run_slice_lh w s A n c hu .i64 .i64 k m (by omega) (by omega) (by omega),he]
 have h2:(sizeOf e).run Tryz.prog w=.ok (sz α) w:=by simp [sizeOf,typeInfo,hi,hs]
 rw [h2]
 rfl
theorem Rd.head {α:Type} [Flat α] {w:World} {A:Option Addr} {c:Nat} {l:List α} (h:Rd w A c l) (k:Nat):Rd w (fromA A c 0 (sz α)) c (l.take k):=by
 have h1:=(h.from_ 0 (by omega)).take k
 simpa using h1
theorem Rd.mid {α:Type} [Flat α] {w:World} {A:Option Addr} {c:Nat} {l:List α} (h:Rd w A c l) (k m:Nat) (hk:k≤l.length):Rd w (fromA A c k (sz α)) (c - k) ((l.drop k).take (m - k)):=(h.from_ k hk).take _
/-! ### storing into a slice of the call's own -/
section
variable {α:Type} [Flat α] {e s:TypeId}
theorem flat_set (l:List α) (k:Nat) (hk:k<l.length) (x:α) (j:Nat) (u:Value) (hj:j<sz α) (h:enc x=(enc l[k]).set j u):flat (l.set k x)=(flat l).set (k*sz α+j) u:=by
 induction l generalizing k with
 |nil=>simp at hk
 |cons y l ih=>
  cases k with
  |zero=>
   simp only [List.getElem_cons_zero] at h
   rw [List.set_cons_zero,flat_cons,flat_cons,h,Nat.zero_mul,Nat.zero_add,List.set_append_left _ _ (by rw [Flat.len];exact hj)]
  |succ k=>
   simp only [List.getElem_cons_succ] at h
   have hk':k<l.length:=by simpa using hk
   rw [List.set_cons_succ,flat_cons,flat_cons,ih k hk' h,List.set_append_right _ _ (by rw [Flat.len,Nat.add_mul];omega)]
   congr 2
   rw [Flat.len,Nat.add_mul];omega
theorem Own.some_ {w:World} {base:Nat} {v:Value} {l:List α} (h:Own e w base v l) (hl:0<l.length):∃ g cap,v=.slice (some ⟨g,0,none⟩) l.length cap∧base≤g∧g<w.heap.size∧(∀ o,w.frozen? ⟨g,o,none⟩=false)∧l.length≤cap:=by
 rcases h.1.2 with ⟨_,h0⟩ | ⟨g,cap,cur,rfl,hb,hh,hn,hc,hs,ht⟩
 ·omega
 ·exact ⟨g,cap,rfl,hb,blk_lt hh,fun o=>h.1.frozenAt o,hn⟩
theorem Own.store {w:World} {base g cap:Nat} {l:List α} (h:Own e w base (.slice (some ⟨g,0,none⟩) l.length cap) l) (k:Nat) (hk:k<l.length) (x:α) (hx:okE x) (j:Nat) (u:Value) (hj:j<sz α) (he:enc x=(enc l[k]).set j u) :
  Own e (w.setCell ⟨g,k*sz α+j,none⟩ u) base (.slice (some ⟨g,0,none⟩) l.length cap) (l.set k x)∧w.grownBy (w.setCell ⟨g,k*sz α+j,none⟩ u) (some g):=by
 obtain ⟨h1,h2⟩:=h.1.stored (k*sz α+j) u
 refine ⟨⟨?_,fun y hy=>?_⟩,h2⟩
 ·rw [List.length_set,flat_set l k hk x j u hj he];exact h1
 ·rcases List.mem_or_eq_of_mem_set hy with h3 | h3
  ·exact h.2 y h3
  ·rw [h3];exact hx
end
open Go.RowKit
def i64 (x:Int):Prop:=-9223372036854775808≤x∧x≤9223372036854775807
def OpW (o:Op):Prop:=i64 o.id∧i64 o.up∧i64 o.pos
def inR (n a b:Int):Bool:=decide (a≤n∧n≤b)
def dv (a b:Int):Int:=a.tdiv b
def rm (a b:Int):Int:=a.tmod b
theorem in_c (n a b:Int) (w:World) :
  Calls Tryz.prog 47 #[.int .i64 n,.int .i64 a,.int .i64 b] w fun e w'=>e=.returned (.bool (inR n a b))∧w'=w:=by
 by_cases h1:a≤n <;> by_cases h2:n≤b
 all_goals
  go_enter Tryz.func47,Tryz.ntmps47
  go_wp2
  go_ret
  exact ⟨by simp [inR,h1,h2],rfl⟩
theorem made_s (id:Int) (w:World) (hi:i64 id) :
  Calls Tryz.prog 72 #[.int .i64 id] w fun e w'=>e=.returned (.bool (isMade id))∧w'=w:=by
 obtain ⟨hi1,hi2⟩:=hi
 by_cases h0:0≤id
 ·have hq:0≤id / 10∧id / 10≤922337203685477580:=by omega
  obtain ⟨hq0,hq1⟩:=hq
  have e1:isMade id=(inR (id / 10) 1 3&&inR (id % 10) 1 6):=by
   rw [Bool.eq_iff_iff,Bool.and_eq_true]
   simp only [inR,isMade_iff,decide_eq_true_eq]
   omega
  rw [e1]
  cases h3:inR (id / 10) 1 3
  ·have HC:=Lib.hid (in_c (id / 10) 1 3 w)
   rw [h3] at HC
   clear h3 e1
   go_enter Tryz.func72,Tryz.ntmps72
   go_wp2_with (go_at_call 47;refine HC.out.mono ?_;rintro e w' ⟨rfl,rfl⟩)
   go_ret
   exact ⟨rfl,rfl⟩
  ·have HC:=Lib.hid (in_c (id / 10) 1 3 w)
   rw [h3] at HC
   clear h3 e1
   go_enter Tryz.func72,Tryz.ntmps72
   go_wp2_with fail
   refine HC.out.mono ?_;rintro e w' ⟨rfl,rfl⟩
   go_wp2_with fail
   refine (in_c (id % 10) 1 6 _).mono ?_;rintro e w' ⟨rfl,rfl⟩
   go_wp2_with fail
   go_ret
   exact ⟨by simp,rfl⟩
 ·have e1:isMade id=false:=by simp [isMade];omega
  have hq:id.tdiv 10≤0∧-922337203685477580≤id.tdiv 10:=by
   have e2:id.tdiv 10=-((-id) / 10):=by rw [←Int.tdiv_eq_ediv_of_nonneg (by omega),Int.neg_tdiv,Int.neg_neg]
   omega
  obtain ⟨hq0,hq1⟩:=hq
  have h3:inR (id.tdiv 10) 1 3=false:=by simp [inR];omega
  rw [e1]
  have HC:=Lib.hid (in_c (id.tdiv 10) 1 3 w)
  rw [h3] at HC
  clear h3 e1
  go_enter Tryz.func72,Tryz.ntmps72
  go_wp2_with fail
  refine HC.out.mono ?_;rintro e w' ⟨rfl,rfl⟩
  go_wp2_with fail
  go_ret
  exact ⟨rfl,rfl⟩
theorem root_s (id:Int) (w:World) :
  Calls Tryz.prog 90 #[.int .i64 id] w fun e w'=>e=.returned (.bool (isRoot id))∧w'=w:=by
 go_enter Tryz.func90,Tryz.ntmps90
 go_wp2_with fail
 refine (in_c id 1 3 _).mono ?_;rintro e w' ⟨rfl,rfl⟩
 go_wp2_with fail
 go_ret
 exact ⟨by rfl,rfl⟩
def idOk (id:Int):Bool:=isRoot id || isMade id
theorem id_s (id:Int) (w:World) (hi:i64 id) :
  Calls Tryz.prog 127 #[.int .i64 id] w fun e w'=>e=.returned (.bool (idOk id))∧w'=w:=by
 cases hr:isRoot id
 ·have HC:=Lib.hid (root_s id w)
  rw [hr] at HC
  have HM:=Lib.hid (made_s id w hi)
  have he:idOk id=isMade id:=by simp [idOk,hr]
  have HE:=Lib.hid he
  clear hr he hi
  go_enter Tryz.func127,Tryz.ntmps127
  go_wp2_with fail
  refine HC.out.mono ?_;rintro e w' ⟨rfl,rfl⟩
  go_wp2_with fail
  refine HM.out.mono ?_;rintro e w' ⟨rfl,rfl⟩
  go_wp2_with fail
  go_ret
  exact ⟨by rw [HE.out];rfl,rfl⟩
 ·have HC:=Lib.hid (root_s id w)
  rw [hr] at HC
  have he:idOk id=true:=by simp [idOk,hr]
  have HE:=Lib.hid he
  clear hr he hi
  go_enter Tryz.func127,Tryz.ntmps127
  go_wp2_with fail
  refine HC.out.mono ?_;rintro e w' ⟨rfl,rfl⟩
  go_wp2_with fail
  go_ret
  exact ⟨by rw [HE.out];rfl,rfl⟩
theorem rowMade_s (who n:Int) (w:World) (h1:i64 who) (h2:i64 n) :
  Calls Tryz.prog 73 #[.int .i64 who,.int .i64 n] w fun e w'=>e=.returned (.int .i64 (rowMade who n))∧w'=w:=by
 cases ha:inR who 1 3
 ·have HC:=Lib.hid (in_c who 1 3 w)
  rw [ha] at HC
  have he:rowMade who n=0:=by unfold rowMade;rw [if_neg];intro ⟨a,b,_⟩;simp [inR,a,b] at ha
  rw [he]
  clear ha he h1 h2
  go_enter Tryz.func73,Tryz.ntmps73
  go_wp2_with fail
  refine HC.out.mono ?_;rintro e w' ⟨rfl,rfl⟩
  go_wp2_with fail
  go_ret
  exact ⟨rfl,rfl⟩
 ·have HC:=Lib.hid (in_c who 1 3 w)
  rw [ha] at HC
  have ha':1≤who∧who≤3:=by simpa [inR] using ha
  obtain ⟨ha0,ha1⟩:=ha'
  cases hb:inR n 1 6
  ·have HD:=Lib.hid (in_c n 1 6 w)
   rw [hb] at HD
   have he:rowMade who n=0:=by unfold rowMade;rw [if_neg];intro ⟨_,_,a,b⟩;simp [inR,a,b] at hb
   rw [he]
   clear ha he h1 h2 hb
   go_enter Tryz.func73,Tryz.ntmps73
   go_wp2_with fail
   refine HC.out.mono ?_;rintro e w' ⟨rfl,rfl⟩
   go_wp2_with fail
   refine HD.out.mono ?_;rintro e w' ⟨rfl,rfl⟩
   go_wp2_with fail
   go_ret
   exact ⟨rfl,rfl⟩
  ·have HD:=Lib.hid (in_c n 1 6 w)
   rw [hb] at HD
   have hb':1≤n∧n≤6:=by simpa [inR] using hb
   obtain ⟨hb0,hb1⟩:=hb'
   have he:rowMade who n=10*who+n:=by unfold rowMade;rw [if_pos ⟨ha0,ha1,hb0,hb1⟩]
   rw [he]
   clear ha he h1 h2 hb
   go_enter Tryz.func73,Tryz.ntmps73
   go_wp2_with fail
   refine HC.out.mono ?_;rintro e w' ⟨rfl,rfl⟩
   go_wp2_with fail
   refine HD.out.mono ?_;rintro e w' ⟨rfl,rfl⟩
   go_wp2_with fail
   go_ret
   exact ⟨rfl,rfl⟩
set_option maxHeartbeats 400000 in
theorem text_s (s:ByteArray) (w:World) (hs:s.size≤maxLen) :
  Calls Tryz.prog 71 #[.string s] w fun e w'=>e=.returned (.bool (textOk s))∧w'=w:=by
 unfold maxLen at hs
 go_enter Tryz.func71,Tryz.ntmps71
 go_wp2_with fail
 go_loop [3] (fun i=>∃ k:Nat,k≤s.size∧i=.int .i64 k∧Hid ((s.data.toList.take k).all letter=true)) (fun i=>s.size - (RowKit.intOf i).toNat)
 case atStart=>exact ⟨0,Nat.zero_le _,rfl,rfl⟩
 case round=>
  obtain ⟨k,hk,rfl,HA⟩:=hrel
  by_cases hlt:k<s.size
  ·have HT:=Lib.hid (take_all s k hlt)
   have hub:(s[k].toNat:Int)<256:=by have:=s[k].toNat_lt;omega
   cases hl:letter s[k]
   ·have HB:=Lib.hid (all_bad s.data.toList k (by simpa using hlt) hl)
    have HC:=Lib.hid (in_c (s[k].toNat:Int) 97 100 w)
    have h9:inR (s[k].toNat:Int) 97 100=false:=by simp [letter] at hl;simp [inR];omega
    rw [h9] at HC
    clear hl h9
    go_wp2_with fail
    refine HC.out.mono ?_;rintro e w' ⟨rfl,rfl⟩
    go_wp2_with fail
    go_ret
    exact ⟨by rw [textOk,HB.out,Bool.and_false];rfl,rfl⟩
   ·have HL:=Lib.hid hl
    have HC:=Lib.hid (in_c (s[k].toNat:Int) 97 100 w)
    have h9:inR (s[k].toNat:Int) 97 100=true:=by simp [letter] at hl;simp [inR];omega
    rw [h9] at HC
    clear hl h9
    go_wp2_with fail
    refine HC.out.mono ?_;rintro e w' ⟨rfl,rfl⟩
    go_wp2_with fail
    go_round
    case rel=>exact ⟨k+1,by omega,by go_num,by show _=_;rw [HT.out,HA.out,HL.out];rfl⟩
    case measure=>simp [RowKit.intOf];omega
  ·have hall:s.data.toList.all letter=true:=by have:=HA.out;rwa [List.take_of_length_le (by simp;omega)] at this
   have HALL:=Lib.hid hall
   clear hall
   by_cases h4:s.size≤4
   ·have HE:Hid (textOk s=true):=by show _=_;rw [textOk,HALL.out,Bool.and_true];simp [h4]
    go_wp2_with fail
    go_ret
    exact ⟨by rw [HE.out];simp;omega,rfl⟩
   ·have HE:Hid (textOk s=false):=by show _=_;rw [textOk,HALL.out,Bool.and_true];simp;omega
    go_wp2_with fail
    go_ret
    exact ⟨by rw [HE.out];simp;omega,rfl⟩
open Go.RowKit
instance:Flat UInt8:=⟨fun x=>[.int .u8 x.toNat],1,fun _=>rfl,fun _ u hu=>by simp at hu;subst hu;rfl,by omega,fun _=>True⟩
theorem byte_at {w:World} {A:Option Addr} {c:Nat} {l:List UInt8} (h:Rd w A c l) (k:Nat) (hk:k<l.length) :
  ∃ b off,A=some ⟨b,off,none⟩∧b<w.heap.size∧w.cell? ⟨b,off+k,none⟩=some (.int .u8 l[k].toNat):=by
 obtain ⟨b,off,rfl,hb,hc⟩:=h.at_ k hk
 have h0:=hc 0 _ rfl
 exact ⟨b,off,rfl,hb,by
  have e:off+(k*1+0)=off+k:=by omega
  rw [←e];exact h0⟩
theorem str_at {w:World} {A:Option Addr} {c:Nat} {l:List ByteArray} (h:Rd w A c l) (k:Nat) (hk:k<l.length) :
  ∃ b off,A=some ⟨b,off,none⟩∧b<w.heap.size∧w.cell? ⟨b,off+k,none⟩=some (.string l[k]):=by
 obtain ⟨b,off,rfl,hb,hc⟩:=h.at_ k hk
 have h0:=hc 0 _ rfl
 exact ⟨b,off,rfl,hb,by
  have e:off+(k*1+0)=off+k:=by omega
  rw [←e];exact h0⟩
def Rdr (w:World) (r p:Nat):Prop:=
 ∃ (A:Option Addr) (c:Nat) (bs:List UInt8),w.heap[r]?=some (.cells #[.slice A bs.length c,.int .i64 p] 114 (0,0))∧Rd w A c bs∧bs.length≤2000∧∀ b off,A=some ⟨b,off,none⟩→b<r
theorem Rdr.lt {w:World} {r p:Nat} (h:Rdr w r p):r<w.heap.size:=by
 obtain ⟨A,c,bs,h1,_⟩:=h;exact blk_lt h1
theorem Rdr.ext {w w':World} {r p:Nat} (h:Rdr w r p) (hb:Ext w w'):Rdr w' r p:=by
 obtain ⟨A,c,bs,h1,h2,h3⟩:=h
 exact ⟨A,c,bs,(hb.block r (blk_lt h1)).trans h1,h2.ext hb,h3⟩
theorem two_cells {W:World} {b:Nat} {v0 v1:Value} {ty:TypeId} (h:W.heap[b]?=some (.cells #[v0,v1] ty (0,0))) :
  W.cell? ⟨b,0,none⟩=some v0∧W.cell? ⟨b,1,none⟩=some v1∧∀ o,W.frozen? ⟨b,o,none⟩=false:=by
 refine ⟨by simp [World.cell?,h],by simp [World.cell?,h],fun o=>by simp [World.frozen?,h]⟩
def PickP (r p:Nat) (n:Int) (w:World) (e:Ending) (w':World):Prop:=
 ∃ v:Int,e=.returned (.int .i64 v)∧0≤v∧(1≤n→v<n)∧(n<1→v=0)∧Rdr w' r (p+1)∧w.grownBy w' (some r)
theorem xor_i64 (X:Nat) (hX:X<4611686018427387904):∃ Y:Nat,bits .xor .i64 (X:Int) ((X:Int) / 64)=(Y:Int)∧Y<4611686018427387904:=by
 have d:((X:Int) / 64)=((X / 64:Nat):Int):=by omega
 have hb:X / 64<4611686018427387904:=by omega
 have hx:X ^^^ (X / 64)<2 ^ 62:=Nat.xor_lt_two_pow (by omega) (by omega)
 have h1:(BitVec.ofInt 64 (X:Int)).toNat=X:=by
  rw [BitVec.ofInt_natCast,BitVec.toNat_ofNat];exact Nat.mod_eq_of_lt (by omega)
 have h2:(BitVec.ofInt 64 ((X / 64:Nat):Int)).toNat=X / 64:=by
  rw [BitVec.ofInt_natCast,BitVec.toNat_ofNat];exact Nat.mod_eq_of_lt (by omega)
 refine ⟨X ^^^ (X / 64),?_,by omega⟩
 rw [d]
 show IntKind.i64.wrap ((BitVec.ofInt 64 (X:Int) ^^^ BitVec.ofInt 64 ((X / 64:Nat):Int)).toNat:Int)=_
 rw [BitVec.toNat_xor,h1,h2,IntKind.wrap_i64]
 omega
set_option maxRecDepth 100000 in
set_option maxHeartbeats 4000000 in
theorem pick_c (r p:Nat) (n:Int) (w:World) (h:Rdr w r p) (hp:p<1000000000) (hn:i64 n) :
  Calls Tryz.prog 28 #[.pointer (some ⟨r,0,none⟩),.int .i64 n] w (PickP r p n w):=by
 obtain ⟨A,c,bs,hbk,hrd,hl,hlow⟩:=h
 obtain ⟨hn0,hn1⟩:=hn
 obtain ⟨c0,c1,cf⟩:=two_cells hbk
 have hset:(w.setCell ⟨r,1,none⟩ (.int .i64 ((p:Int)+1))).heap[r]?=some (.cells #[.slice A bs.length c,.int .i64 ((p:Int)+1)] 114 (0,0)):=set_at hbk
 obtain ⟨d0,d1,df⟩:=two_cells hset
 have hg:w.grownBy (w.setCell ⟨r,1,none⟩ (.int .i64 ((p:Int)+1))) (some r):=gset_any w r 1 _
 have hrd2:Rd (w.setCell ⟨r,1,none⟩ (.int .i64 ((p:Int)+1))) A c bs:=hrd.grown hg (fun b off e h=>by have:=hlow b off e;injection h with h;omega)
 have hR2:Rdr (w.setCell ⟨r,1,none⟩ (.int .i64 ((p:Int)+1))) r (p+1):=⟨A,c,bs,by rw [hset];rfl,hrd2,hl,hlow⟩
 generalize hW:w.setCell ⟨r,1,none⟩ (.int .i64 ((p:Int)+1))=W at hset d0 d1 df hg hrd2 hR2
 have HW:=Lib.hid hW;have HG:=Lib.hid hg;have HR2:=Lib.hid hR2;have HRD:=Lib.hid hrd2
 have hne:r<w.heap.size:=blk_lt hbk
 clear hset hg hrd2 hR2 hrd hW hbk
 have hp1:(p:Int)+1≤1000000000:=by omega
 by_cases h1:n<1
 ·have FIN:Hid (PickP r p n w (.returned (.int .i64 0)) W):=⟨0,rfl,Int.le_refl _,fun h=>by omega,fun _=>rfl,HR2.out,HG.out⟩
  go_enter Tryz.func28,Tryz.ntmps28
  go_wp2_with fail
  rw [HW.out]
  go_ret
  exact FIN.out
 have FIN:Hid (∀ v:Int,0≤v→v<n→PickP r p n w (.returned (.int .i64 v)) W):=fun v h0 h2=>⟨v,rfl,h0,fun _=>h2,fun h=>by omega,HR2.out,HG.out⟩
 have FIN0:Hid (PickP r p n w (.returned (.int .i64 0)) W):=FIN.out 0 (Int.le_refl _) (by omega)
 by_cases hb0:bs.length=0
 ·have hb0':((bs.length:Int) == 0)=true:=by simp [hb0]
  have HB:=Lib.hid hb0
  clear hb0
  go_enter Tryz.func28,Tryz.ntmps28
  go_wp2_with fail
  rw [HW.out]
  go_ret
  exact FIN0.out
 have hb0':((bs.length:Int) == 0)=false:=beq_eq_false_iff_ne.2 (by omega)
 by_cases hpl:p<bs.length
 ·obtain ⟨b,off,rfl,hbl,x0⟩:=byte_at HRD.out p hpl
  have hbr:=hlow b off rfl
  have hub:(bs[p].toNat:Int)<256:=by have:=bs[p].toNat_lt;omega
  have y0:w.cell? ⟨b,off+p,none⟩=some (.int .u8 bs[p].toNat):=by
   have:=(cell_blk (HG.out.block b (by omega) (fun e=>Nat.ne_of_lt hbr (Option.some.inj e))) (off+p)).symm.trans x0
   exact this
  have hm0:0≤(bs[p].toNat:Int) % n:=Int.emod_nonneg _ (by omega)
  have hm1:(bs[p].toNat:Int) % n<n:=Int.emod_lt_of_pos _ (by omega)
  clear hlow x0
  go_enter Tryz.func28,Tryz.ntmps28
  go_wp2_with fail
  rw [HW.out]
  go_ret
  exact FIN.out _ hm0 hm1
 ·have hpos:0<bs.length:=by omega
  have hi1:p % bs.length<bs.length:=Nat.mod_lt _ hpos
  have hi2:(p*7+3) % bs.length<bs.length:=Nat.mod_lt _ hpos
  obtain ⟨b,off,rfl,hbl,x0⟩:=byte_at HRD.out _ hi1
  obtain ⟨b',off',e',hbl',x1⟩:=byte_at HRD.out _ hi2
  cases e'
  have hbr:=hlow b off rfl
  clear hlow
  go_enter Tryz.func28,Tryz.ntmps28
  go_wp2_with fail
  rw [HW.out]
  generalize hb1:bs[p % bs.length].toNat=B1 at x0
  generalize hb2:bs[(p*7+3) % bs.length].toNat=B2 at x1
  have hub1:B1<256:=by rw [←hb1];exact UInt8.toNat_lt _
  have hub2:B2<256:=by rw [←hb2];exact UInt8.toNat_lt _
  clear hb1 hb2
  generalize hl9:bs.length=N at *
  have hdv:p / N≤p:=Nat.div_le_self _ _
  have g1:IntKind.i64.wrap (B1:Int)=B1:=by rw [IntKind.wrap_i64];omega
  have g2:IntKind.i64.wrap (B2:Int)=B2:=by rw [IntKind.wrap_i64];omega
  have g3:IntKind.i64.wrap ((B1:Int)*131)=(B1:Int)*131:=by rw [IntKind.wrap_i64];omega
  have g4:IntKind.i64.wrap ((B2:Int)*1117)=(B2:Int)*1117:=by rw [IntKind.wrap_i64];omega
  have g5:IntKind.i64.wrap ((B1:Int)*131+(B2:Int)*1117)=(B1:Int)*131+(B2:Int)*1117:=by rw [IntKind.wrap_i64];omega
  have g6:IntKind.i64.wrap ((p:Int)*7)=(p:Int)*7:=by rw [IntKind.wrap_i64];omega
  have g7:IntKind.i64.wrap ((p:Int)*7+3)=(p:Int)*7+3:=by rw [IntKind.wrap_i64];omega
  have g8:IntKind.i64.wrap ((p:Int)*29)=(p:Int)*29:=by rw [IntKind.wrap_i64];omega
  have g9:IntKind.i64.wrap ((B1:Int)*131+(B2:Int)*1117+(p:Int)*29)=(B1:Int)*131+(B2:Int)*1117+(p:Int)*29:=by rw [IntKind.wrap_i64];omega
  have hN0:(0:Int)<N:=by omega
  have t1:(p:Int).tmod N=(p:Int) % N:=Int.tmod_eq_emod_of_nonneg (by omega)
  have t2:((p:Int)*7+3).tmod N=((p:Int)*7+3) % N:=Int.tmod_eq_emod_of_nonneg (by omega)
  have m0:0≤(p:Int) % N:=Int.emod_nonneg _ (by omega)
  have m1:(p:Int) % N<N:=Int.emod_lt_of_pos _ hN0
  have m2:((p:Int) % N).toNat=p % N:=by rw [show (p:Int) % N=((p % N:Nat):Int) from rfl];rfl
  have m3:0≤((p:Int)*7+3) % N:=Int.emod_nonneg _ (by omega)
  have m4:((p:Int)*7+3) % N<N:=Int.emod_lt_of_pos _ hN0
  have m5:(((p:Int)*7+3) % N).toNat=(p*7+3) % N:=by rw [show ((p:Int)*7+3) % N=(((p*7+3) % N:Nat):Int) from rfl];rfl
  have t3:(p:Int).tdiv N=((p / N:Nat):Int):=by rw [Int.tdiv_eq_ediv_of_nonneg (by omega)];rfl
  generalize hD:p / N=D at t3 hdv
  have g10:IntKind.i64.wrap ((D:Int)*53)=(D:Int)*53:=by rw [IntKind.wrap_i64];omega
  have g11:IntKind.i64.wrap ((B1:Int)*131+(B2:Int)*1117+(p:Int)*29+(D:Int)*53)=(B1:Int)*131+(B2:Int)*1117+(p:Int)*29+(D:Int)*53:=by rw [IntKind.wrap_i64];omega
  clear hi1 hi2
  go_quiet (fail)
  have hXb:0≤(B1:Int)*131+(B2:Int)*1117+(p:Int)*29+(D:Int)*53∧(B1:Int)*131+(B2:Int)*1117+(p:Int)*29+(D:Int)*53<1000000000000:=by omega
  generalize (B1:Int)*131+(B2:Int)*1117+(p:Int)*29+(D:Int)*53=XI at *
  obtain ⟨X,rfl⟩:∃ X:Nat,XI=X:=⟨XI.toNat,by omega⟩
  obtain ⟨hX0,hX1⟩:=hXb
  obtain ⟨Y,hY,hYb⟩:=xor_i64 X (by omega)
  have hy0:0≤(Y:Int) % n:=Int.emod_nonneg _ (by omega)
  have hy1:(Y:Int) % n<n:=Int.emod_lt_of_pos _ (by omega)
  have HF:Hid (PickP r p n w (.returned (.int .i64 ((Y:Int) % n))) (W.drewN nq)):=⟨_,rfl,hy0,fun _=>hy1,fun h=>by omega,HR2.out,⟨HG.out.os,HG.out.tape,HG.out.output,HG.out.size,HG.out.block⟩⟩
  clear g1 g2 g3 g4 g5 g6 g7 g8 g9 g10 g11 t1 t2 t3 m0 m1 m2 m3 m4 m5 hy0 hy1
  go_wp2_with fail
  go_ret
  exact HF.out
theorem gtrans {w w1 w2:World} {row:Option Nat} (h:w.grownBy w1 row) (k:w1.grownBy w2 row):w.grownBy w2 row:=
 ⟨k.os.trans h.os,k.tape.trans h.tape,k.output.trans h.output,Nat.le_trans h.size k.size,fun i hi hne=>(k.block i (Nat.lt_of_lt_of_le hi h.size) hne).trans (h.block i hi hne)⟩
theorem gext {w w':World} {row:Option Nat} (h:Ext w w'):w.grownBy w' row:=⟨h.os,h.tape,h.output,h.size,fun i hi _=>h.block i hi⟩
def OfP (r p:Nat) (ss:List ByteArray) (w:World) (e:Ending) (w':World):Prop:=∃ s,s∈ss∧e=.returned (.string s)∧Rdr w' r (p+1)∧w.grownBy w' (some r)
set_option maxRecDepth 100000 in
set_option maxHeartbeats 1000000 in
theorem of_c (r p:Nat) (A:Option Addr) (c:Nat) (ss:List ByteArray) (w:World) (h:Rdr w r p) (hp:p<1000000000) (hr:Rd w A c ss) (h0:0<ss.length) (hl:ss.length≤1000) (hA:∀ b off,A=some ⟨b,off,none⟩→b≠r) :
  Calls Tryz.prog 117 #[.pointer (some ⟨r,0,none⟩),.slice A ss.length c] w (OfP r p ss w):=by
 have HP:=Lib.hid (pick_c r p ss.length w h hp ⟨by omega,by omega⟩)
 have HR:=Lib.hid hr;have HA:=Lib.hid hA
 clear hr hA h
 go_enter Tryz.func117,Tryz.ntmps117
 go_wp2_with fail
 refine HP.out.mono ?_
 rintro e w1 ⟨v,rfl,hv0,hv1,-,hr1,hg1⟩
 have hvl:=hv1 (by omega)
 obtain ⟨k,rfl⟩:∃ k:Nat,v=k:=⟨v.toNat,by omega⟩
 have hk:k<ss.length:=by omega
 have hR1:=HR.out.grown hg1 (fun b off e h=>HA.out b off e (Option.some.inj h))
 obtain ⟨b,off,rfl,hbl,x0⟩:=str_at hR1 k hk
 have HF:Hid (OfP r p ss w (.returned (.string ss[k])) w1):=⟨_,List.getElem_mem hk,rfl,hr1,hg1⟩
 clear hv1 hr1 hg1 hR1 HP
 go_wp2_with fail
 go_ret
 exact HF.out
open Go.RowKit Go.ChangeShapes Go.WideShapes Go.ChangeAt
theorem laidOut:laidOutB Tryz.prog=true:=by kernel_rfl
theorem own:ownKnob Tryz.prog.godebug=none:=by kernel_rfl
theorem gTab : Tryz.prog.globalNamed "loop.example/plashet/impl.rowOwners" = some 0 := by kernel_rfl
theorem gTabType:(Tryz.prog.globals[0]?).map (·.type)=some 149:=by kernel_rfl
theorem cellsTab:Tryz.prog.cellsOf 149=37:=by kernel_rfl
theorem cellsInt:Tryz.prog.cellsOf 3=1:=by kernel_rfl
def owners:List Int:=[0,1,1,1,0,0,0,0,0,0,0,2,2,2,2,2,2,0,0,0,0,3,3,3,3,3,3,0,0,0,0,4,4,4,4,4,4]
theorem owners_at (n:Nat) (h:n<37):owners.getD n 0=ownerOf n:=by
 have h0:∀ n:Fin 37,owners.getD n 0=ownerOf (n:Nat):=by decide
 exact h0 ⟨n,h⟩
theorem tab_of {W : World} (h : laidMetH Tryz.prog [("loop.example/plashet/impl.rowOwners", Rows.laid_loop_example_plashet_impl_rowOwners)] W) : Tab W := by
 have ht : Lib.TabIs Tryz.prog W "loop.example/plashet/impl.rowOwners" .i64 owners := Lib.tabIs_of_head (rest := []) gTab gTabType Tryz.underlying149 Tryz.underlying3 cellsInt cellsTab h
 intro id h0 h1
 have hn:id.toNat<37:=by omega
 rw [ht.cell gTab id.toNat (by simpa [owners] using hn),owners_at _ hn,show ((id.toNat:Nat):Int)=id by omega]
set_option maxRecDepth 100000 in
theorem arg_slice {W:World} {base:Nat} {t e:TypeId} {v:Value} (ht:Tryz.prog.underlying t=some (.slice e)) (h:Value.okWide Tryz.prog W .any base t v) :
  ∃ A len cap,v=.slice A len cap∧∀ a,A=some a→a.spot=none∧a.block<W.heap.size:=by
 obtain ⟨A,len,cap,rfl⟩:=okWide_slice ht h
 refine ⟨A,len,cap,rfl,?_⟩
 rintro a rfl
 simp only [Value.okWide,ht,Cell.okWide,Cell.ok,World.has] at h
 obtain ⟨_,_,_,hs,row,cells,hsh,_⟩:=h
 refine ⟨hs,?_⟩
 unfold World.shape? at hsh
 cases hb:W.heap[a.block]? with
 |none=>rw [hb] at hsh;cases hsh
 |some o=>exact (Array.getElem?_eq_some_iff.1 hb).1
set_option maxRecDepth 100000 in
theorem arg_bytes {H:Type} {enc:TypeId × Value→H} {W:World} {base:Nat} {v:Value} {d:DataW H} {p:List MemPlace}
  (h:Value.okWide Tryz.prog W .any base 22 v) (hr:DataW.Trod enc Tryz.prog W 0 (fun _=>true) true 22 v d p) :
  ∃ (A:Option Addr) (cap:Nat) (bs:List UInt8),v=.slice A bs.length cap∧Rd W A cap bs∧∀ b off,A=some ⟨b,off,none⟩→b<W.heap.size:=by
 obtain ⟨A,len,cap,rfl,hA⟩:=arg_slice Tryz.underlying22 h
 obtain ⟨fuel,hf⟩:=hr
 rcases open_ints Tryz.underlying22 Tryz.underlying5 (by kernel_rfl) hf with ⟨hcs,_⟩ | ⟨x,l,c,zs,hcs,_,hl,hm,hz,_,hcell,hwz⟩
 ·simp [Value.cells] at hcs
  obtain ⟨rfl,rfl,rfl⟩:=hcs
  exact ⟨none,0,[],rfl,⟨by simp,by simp,fun h=>absurd h (by simp),by simp⟩,by simp⟩
 ·simp [Value.cells] at hcs
  obtain ⟨rfl,rfl,rfl⟩:=hcs
  obtain ⟨b,off,spot⟩:=x
  obtain ⟨hs,hb⟩:=hA _ rfl
  simp only at hs hb hz
  subst hs
  have hlen:((zs.take len).map fun z=>UInt8.ofNat z.toNat).length=len:=by simp at hz;simp;omega
  refine ⟨some ⟨b,off,none⟩,cap,(zs.take len).map fun z=>UInt8.ofNat z.toNat,by rw [hlen],⟨by rw [hlen];exact hl,hm,fun _=>⟨b,off,rfl,?_⟩,fun _ _=>trivial⟩,?_⟩
  ·intro j v hv
   have hfl:flat ((zs.take len).map fun z=>UInt8.ofNat z.toNat)=(zs.take len).map fun z=>Value.int .u8 ((UInt8.ofNat z.toNat).toNat:Int):=by
    unfold flat;rw [List.flatMap_map]
    show (zs.take len).flatMap (fun a=>[Value.int .u8 ((UInt8.ofNat a.toNat).toNat:Int)])=_
    induction zs.take len with
    |nil=>rfl
    |cons a r ih=>rw [List.flatMap_cons,ih];rfl
   rw [hfl,List.getElem?_map,Option.map_eq_some_iff] at hv
   obtain ⟨z,hz1,rfl⟩:=hv
   have hj:j<zs.length∧j<len:=by
    have:=(List.getElem?_eq_some_iff.1 hz1).1
    simp at this
    omega
   rw [List.getElem?_take,if_pos hj.2] at hz1
   have hzj:zs.getD j 0=z:=by simp [List.getD,hz1]
   have hw:=hwz z (List.mem_of_getElem? hz1)
   have:=hcell j hj.1
   rw [hzj] at this
   have hadd:(⟨b,off,none⟩:Addr).add j=⟨b,off+j,none⟩:=by unfold Addr.add;split <;> simp_all
   rw [hadd] at this
   have hz2:((UInt8.ofNat z.toNat).toNat:Int)=z:=by
    have h1:=of_decide_eq_true (show decide ((0:Int)≤z)=true by simp [Lit.wf,IntKind.min,IntKind.signed] at hw;simpa using hw.1)
    have h2:=of_decide_eq_true (show decide (z≤(255:Int))=true by simp [Lit.wf,IntKind.max,IntKind.signed,IntKind.bits] at hw;simpa using hw.2)
    have h3:(UInt8.ofNat z.toNat).toNat=z.toNat % 256:=by simp [UInt8.toNat_ofNat']
    rw [h3]
    omega
   rw [hz2];exact this
  ·rintro b' off' e;simp at e;omega
open Go.RowKit
theorem placeOk_id (up pos:Int):placeOk up pos=(idOk up&&(decide (pos=0) || isMade pos)):=by simp [placeOk,idOk,Bool.or_comm]
theorem opOk_1 {o:Op} (hk:o.kind=1):opOk o=(isMade o.id&&(textOk o.text&&(idOk o.up&&(decide (o.pos=0) || isMade o.pos)))):=by
 simp only [opOk,hk,placeOk_id];simp [Bool.and_comm]
theorem opOk_2 {o:Op} (hk:o.kind=2):opOk o=(isMade o.id&&(textOk o.text&&(decide (o.up=0)&&decide (o.pos=0)))):=by
 simp only [opOk,hk];simp [Bool.and_comm,Bool.and_left_comm]
theorem textOk_nil:textOk ⟨#[]⟩=true:=by decide
theorem opOk_3 {o:Op} (hk:o.kind=3):opOk o=(isMade o.id&&(textOk o.text&&((idOk o.up&&(decide (o.pos=0) || isMade o.pos))&&decide (o.text=⟨#[]⟩)))):=by
 simp only [opOk,hk,placeOk_id]
 by_cases h:o.text=⟨#[]⟩
 ·simp [h,textOk_nil]
 ·simp [h]
theorem opOk_0 {o:Op} (h1:o.kind≠1) (h2:o.kind≠2) (h3:o.kind≠3):opOk o=false:=by simp [opOk,h1,h2,h3]
set_option maxRecDepth 100000 in
set_option maxHeartbeats 2000000 in
theorem opOk_s (o:Op) (w:World) (hs:o.text.size≤maxLen) (hw:OpW o) :
  Calls Tryz.prog 91 #[o.val] w fun e w'=>e=.returned (.bool (opOk o))∧Ext w w':=by
 have hE:Ext w (w.alloc (oO o)):=(Below.refl _ w).alloc (Nat.le_refl _) _
 have hM:=made_s o.id (w.alloc (oO o)) hw.1
 have hX:=text_s o.text (w.alloc (oO o)) hs
 have hI:=id_s o.up (w.alloc (oO o)) hw.2.1
 have hP:=made_s o.pos (w.alloc (oO o)) hw.2.2
 have HE:=Lib.hid hE
 have HI:=Lib.hid hI;have HP:=Lib.hid hP
 clear hE hI hP hw
 show Calls Tryz.prog 91 #[.agg (cO o)] w _
 cases hm:isMade o.id
 ·have HR:Hid (opOk o=false):=by show _=_;simp [opOk,hm]
  rw [hm] at hM
  have HM:=Lib.hid hM
  clear hM hX hm
  go_enter Tryz.func91,Tryz.ntmps91
  go_wp2_with fail
  refine HM.out.mono ?_;rintro e w' ⟨rfl,rfl⟩
  go_wp2_with fail
  go_ret
  exact ⟨by rw [HR.out];rfl,HE.out⟩
 rw [hm] at hM
 have HM:=Lib.hid hM
 have HMM:=Lib.hid hm
 clear hM hm
 cases hx:textOk o.text
 ·have HR:Hid (opOk o=false):=by
   show _=_
   by_cases h1:o.kind=1
   ·rw [opOk_1 h1];simp [hx]
   by_cases h2:o.kind=2
   ·rw [opOk_2 h2];simp [hx]
   by_cases h3:o.kind=3
   ·rw [opOk_3 h3];simp [hx]
   exact opOk_0 h1 h2 h3
  rw [hx] at hX
  have HX:=Lib.hid hX
  clear hX hx
  go_enter Tryz.func91,Tryz.ntmps91
  go_wp2_with fail
  refine HM.out.mono ?_;rintro e w' ⟨rfl,rfl⟩
  go_wp2_with fail
  refine HX.out.mono ?_;rintro e w' ⟨rfl,rfl⟩
  go_wp2_with fail
  go_ret
  exact ⟨by rw [HR.out];rfl,HE.out⟩
 rw [hx] at hX
 have HX:=Lib.hid hX
 have HXX:=Lib.hid hx
 clear hX hx
 by_cases h1:o.kind=1
 ·have hk1:(o.kind == 1)=true:=by simp [h1]
  have HR:Hid (opOk o=(idOk o.up&&(decide (o.pos=0) || isMade o.pos))):=by show _=_;rw [opOk_1 h1,HMM.out,HXX.out];simp
  clear h1
  cases hi:idOk o.up
  ·rw [hi] at HI HR
   clear hi
   go_enter Tryz.func91,Tryz.ntmps91
   go_wp2_with fail
   refine HM.out.mono ?_;rintro e w' ⟨rfl,rfl⟩
   go_wp2_with fail
   refine HX.out.mono ?_;rintro e w' ⟨rfl,rfl⟩
   go_wp2_with fail
   refine HI.out.mono ?_;rintro e w' ⟨rfl,rfl⟩
   go_wp2_with fail
   go_ret
   exact ⟨by rw [HR.out];rfl,HE.out⟩
  ·rw [hi] at HI HR
   clear hi
   by_cases h0:o.pos=0
   ·have hp0:(o.pos == 0)=true:=by simp [h0]
    have HR2:Hid (opOk o=true):=by show _=_;rw [HR.out];simp [h0]
    clear h0
    go_enter Tryz.func91,Tryz.ntmps91
    go_wp2_with fail
    refine HM.out.mono ?_;rintro e w' ⟨rfl,rfl⟩
    go_wp2_with fail
    refine HX.out.mono ?_;rintro e w' ⟨rfl,rfl⟩
    go_wp2_with fail
    refine HI.out.mono ?_;rintro e w' ⟨rfl,rfl⟩
    go_wp2_with fail
    go_ret
    exact ⟨by rw [HR2.out];rfl,HE.out⟩
   ·have hp0:(o.pos == 0)=false:=by simp [h0]
    have HR2:Hid (opOk o=isMade o.pos):=by show _=_;rw [HR.out];simp [h0]
    clear h0
    go_enter Tryz.func91,Tryz.ntmps91
    go_wp2_with fail
    refine HM.out.mono ?_;rintro e w' ⟨rfl,rfl⟩
    go_wp2_with fail
    refine HX.out.mono ?_;rintro e w' ⟨rfl,rfl⟩
    go_wp2_with fail
    refine HI.out.mono ?_;rintro e w' ⟨rfl,rfl⟩
    go_wp2_with fail
    refine HP.out.mono ?_;rintro e w' ⟨rfl,rfl⟩
    go_wp2_with fail
    go_ret
    exact ⟨by rw [HR2.out];rfl,HE.out⟩
 have hk1:(o.kind == 1)=false:=by simp [h1]
 by_cases h2:o.kind=2
 ·have hk2:(o.kind == 2)=true:=by simp [h2]
  have HR:Hid (opOk o=(decide (o.up=0)&&decide (o.pos=0))):=by show _=_;rw [opOk_2 h2,HMM.out,HXX.out];simp
  clear h1 h2
  by_cases hu:o.up=0
  ·have hu0:(o.up == 0)=true:=by simp [hu]
   have HR2:Hid (opOk o=(o.pos == 0)):=by show _=_;rw [HR.out];simp [hu];rfl
   clear hu
   go_enter Tryz.func91,Tryz.ntmps91
   go_wp2_with fail
   refine HM.out.mono ?_;rintro e w' ⟨rfl,rfl⟩
   go_wp2_with fail
   refine HX.out.mono ?_;rintro e w' ⟨rfl,rfl⟩
   go_wp2_with fail
   go_ret
   exact ⟨by rw [HR2.out];rfl,HE.out⟩
  ·have hu0:(o.up == 0)=false:=by simp [hu]
   have HR2:Hid (opOk o=false):=by show _=_;rw [HR.out];simp [hu]
   clear hu
   go_enter Tryz.func91,Tryz.ntmps91
   go_wp2_with fail
   refine HM.out.mono ?_;rintro e w' ⟨rfl,rfl⟩
   go_wp2_with fail
   refine HX.out.mono ?_;rintro e w' ⟨rfl,rfl⟩
   go_wp2_with fail
   go_ret
   exact ⟨by rw [HR2.out];rfl,HE.out⟩
 have hk2:(o.kind == 2)=false:=by simp [h2]
 by_cases h3:o.kind=3
 ·have hk3:(o.kind == 3)=true:=by simp [h3]
  have HR:Hid (opOk o=((idOk o.up&&(decide (o.pos=0) || isMade o.pos))&&decide (o.text=⟨#[]⟩))):=by show _=_;rw [opOk_3 h3,HMM.out,HXX.out];simp
  have HT:Hid (decide (o.text=⟨#[]⟩)=o.text.toList.isEmpty):=decide_eq_emptyBytes o.text
  clear h1 h2 h3
  cases hi:idOk o.up
  ·rw [hi] at HI HR
   clear hi
   go_enter Tryz.func91,Tryz.ntmps91
   go_wp2_with fail
   refine HM.out.mono ?_;rintro e w' ⟨rfl,rfl⟩
   go_wp2_with fail
   refine HX.out.mono ?_;rintro e w' ⟨rfl,rfl⟩
   go_wp2_with fail
   refine HI.out.mono ?_;rintro e w' ⟨rfl,rfl⟩
   go_wp2_with fail
   go_ret
   exact ⟨by rw [HR.out];rfl,HE.out⟩
  ·rw [hi] at HI HR
   clear hi
   by_cases h0:o.pos=0
   ·have hp0:(o.pos == 0)=true:=by simp [h0]
    have HR2:Hid (opOk o=o.text.toList.isEmpty):=by show _=_;rw [HR.out,HT.out];simp [h0]
    clear h0
    go_enter Tryz.func91,Tryz.ntmps91
    go_wp2_with fail
    refine HM.out.mono ?_;rintro e w' ⟨rfl,rfl⟩
    go_wp2_with fail
    refine HX.out.mono ?_;rintro e w' ⟨rfl,rfl⟩
    go_wp2_with fail
    refine HI.out.mono ?_;rintro e w' ⟨rfl,rfl⟩
    go_wp2_with fail
    go_ret
    exact ⟨by rw [HR2.out];rfl,HE.out⟩
   ·have hp0:(o.pos == 0)=false:=by simp [h0]
    cases hpm:isMade o.pos
    ·rw [hpm] at HP
     have HR2:Hid (opOk o=false):=by show _=_;rw [HR.out];simp [h0,hpm]
     clear h0 hpm
     go_enter Tryz.func91,Tryz.ntmps91
     go_wp2_with fail
     refine HM.out.mono ?_;rintro e w' ⟨rfl,rfl⟩
     go_wp2_with fail
     refine HX.out.mono ?_;rintro e w' ⟨rfl,rfl⟩
     go_wp2_with fail
     refine HI.out.mono ?_;rintro e w' ⟨rfl,rfl⟩
     go_wp2_with fail
     refine HP.out.mono ?_;rintro e w' ⟨rfl,rfl⟩
     go_wp2_with fail
     go_ret
     exact ⟨by rw [HR2.out];rfl,HE.out⟩
    ·rw [hpm] at HP
     have HR2:Hid (opOk o=o.text.toList.isEmpty):=by show _=_;rw [HR.out,HT.out];simp [hpm]
     clear h0 hpm
     go_enter Tryz.func91,Tryz.ntmps91
     go_wp2_with fail
     refine HM.out.mono ?_;rintro e w' ⟨rfl,rfl⟩
     go_wp2_with fail
     refine HX.out.mono ?_;rintro e w' ⟨rfl,rfl⟩
     go_wp2_with fail
     refine HI.out.mono ?_;rintro e w' ⟨rfl,rfl⟩
     go_wp2_with fail
     refine HP.out.mono ?_;rintro e w' ⟨rfl,rfl⟩
     go_wp2_with fail
     go_ret
     exact ⟨by rw [HR2.out];rfl,HE.out⟩
 ·have hk3:(o.kind == 3)=false:=by simp [h3]
  have HR:Hid (opOk o=false):=opOk_0 h1 h2 h3
  clear h1 h2 h3
  go_enter Tryz.func91,Tryz.ntmps91
  go_wp2_with fail
  refine HM.out.mono ?_;rintro e w' ⟨rfl,rfl⟩
  go_wp2_with fail
  refine HX.out.mono ?_;rintro e w' ⟨rfl,rfl⟩
  go_wp2_with fail
  go_ret
  exact ⟨by rw [HR.out];rfl,HE.out⟩
theorem isWho_in (a:Int):isWho a=inR a 1 3:=rfl
set_option maxRecDepth 100000 in
set_option maxHeartbeats 2000000 in
theorem entryOk_s (e:Entry) (w:World) (hs:e.op.text.size≤maxLen) (hw:OpW e.op) :
  Calls Tryz.prog 49 #[e.val] w fun x w'=>x=.returned (.bool (entryOk e))∧Ext w w':=by
 have hE:Ext w (w.alloc (oN e)):=(Below.refl _ w).alloc (Nat.le_refl _) _
 have hbx:=World.alloc_heap_new w (oN e)
 have hW:=in_c e.who 1 3 (w.alloc (oN e))
 have hQ:=in_c e.seq 1 40 (w.alloc (oN e))
 have hO:=opOk_s e.op (w.alloc (oN e)) hs hw
 have HE:=Lib.hid hE;have HBX:=Lib.hid hbx
 have HK:Hid (entryOk e=(inR e.who 1 3&&inR e.seq 1 40&&opOk e.op&&(decide (e.op.kind≠1) || decide (whoOf e.op.id=e.who)))):=rfl
 have hsz:=alloc_sz w (oN e)
 have HSZ:=Lib.hid hsz
 clear hE hbx hw hsz
 show Calls Tryz.prog 49 #[.agg (cN e)] w _
 cases h1:inR e.who 1 3
 ·rw [h1] at hW HK
  have HW:=Lib.hid hW
  clear hW h1 hQ hO
  go_enter Tryz.func49,Tryz.ntmps49
  go_wp2_with fail
  refine HW.out.mono ?_;rintro x w' ⟨rfl,rfl⟩
  go_wp2_with fail
  go_ret
  exact ⟨by rw [HK.out];rfl,HE.out⟩
 rw [h1] at hW HK
 have HW:=Lib.hid hW
 clear hW h1
 cases h2:inR e.seq 1 40
 ·rw [h2] at hQ HK
  have HQ:=Lib.hid hQ
  clear hQ h2 hO
  go_enter Tryz.func49,Tryz.ntmps49
  go_wp2_with fail
  refine HW.out.mono ?_;rintro x w' ⟨rfl,rfl⟩
  go_wp2_with fail
  refine HQ.out.mono ?_;rintro x w' ⟨rfl,rfl⟩
  go_wp2_with fail
  go_ret
  exact ⟨by rw [HK.out];rfl,HE.out⟩
 rw [h2] at hQ HK
 have HQ:=Lib.hid hQ
 clear hQ h2
 cases h3:opOk e.op
 ·rw [h3] at hO HK
  have HO:=Lib.hid hO
  clear hO h3
  go_enter Tryz.func49,Tryz.ntmps49
  go_wp2_with fail
  refine HW.out.mono ?_;rintro x w' ⟨rfl,rfl⟩
  go_wp2_with fail
  refine HQ.out.mono ?_;rintro x w' ⟨rfl,rfl⟩
  go_wp2_with fail
  refine HO.out.mono ?_;rintro x w' ⟨rfl,hb⟩
  have HB:=Lib.hid (HE.out.trans (hb.mono (by rw [HSZ.out];omega)))
  clear hb
  go_wp2_with fail
  go_ret
  exact ⟨by rw [HK.out];rfl,HB.out⟩
 have hm:=(T.opOk_kind h3).1
 have hwo:whoOf e.op.id=e.op.id / 10:=by simp [whoOf,hm]
 have hid:11≤e.op.id∧e.op.id≤36:=by rw [isMade_iff] at hm;omega
 obtain ⟨hid0,hid1⟩:=hid
 rw [h3] at hO HK
 rw [hwo] at HK
 have HO:=Lib.hid hO
 clear hO h3 hwo hm
 by_cases hk:e.op.kind=1
 ·have hk1:(e.op.kind != 1)=false:=by simp [hk]
  have HR:Hid (entryOk e=(e.op.id / 10 == e.who)):=by show _=_;rw [HK.out,hk];simp;rfl
  clear hk
  go_enter Tryz.func49,Tryz.ntmps49
  go_wp2_with fail
  refine HW.out.mono ?_;rintro x w' ⟨rfl,rfl⟩
  go_wp2_with fail
  refine HQ.out.mono ?_;rintro x w' ⟨rfl,rfl⟩
  go_wp2_with fail
  refine HO.out.mono ?_;rintro x w' ⟨rfl,hb⟩
  have HB:=Lib.hid (HE.out.trans (hb.mono (by rw [HSZ.out];omega)))
  obtain ⟨d0,d1,d2,d3,d4,d5,d6,df⟩:=seven_cells ((hb.block w.heap.size (by rw [HSZ.out];omega)).trans HBX.out)
  clear hb
  go_wp2_with fail
  go_ret
  exact ⟨by rw [HR.out];rfl,HB.out⟩
 ·have hk1:(e.op.kind != 1)=true:=by simp [hk]
  have HR:Hid (entryOk e=true):=by show _=_;rw [HK.out];simp [hk]
  clear hk
  go_enter Tryz.func49,Tryz.ntmps49
  go_wp2_with fail
  refine HW.out.mono ?_;rintro x w' ⟨rfl,rfl⟩
  go_wp2_with fail
  refine HQ.out.mono ?_;rintro x w' ⟨rfl,rfl⟩
  go_wp2_with fail
  refine HO.out.mono ?_;rintro x w' ⟨rfl,hb⟩
  have HB:=Lib.hid (HE.out.trans (hb.mono (by rw [HSZ.out];omega)))
  obtain ⟨d0,d1,d2,d3,d4,d5,d6,df⟩:=seven_cells ((hb.block w.heap.size (by rw [HSZ.out];omega)).trans HBX.out)
  clear hb
  go_wp2_with fail
  go_ret
  exact ⟨by rw [HR.out];rfl,HB.out⟩
open Go.RowKit
def atI (t:List Row) (id:Int):Int:=match idx t id with | some k=>k | none=>-1
theorem idx_first (t:List Row) (id:Int) (k:Nat) (hk:k<t.length) (h:∀ j (hj:j<t.length),j<k→t[j].id≠id) (he:t[k].id=id):idx t id=some k:=by
 unfold idx
 rw [List.findIdx?_eq_some_iff_getElem]
 exact ⟨hk,by simp [he],fun j hj=>by simpa using h j (by omega) hj⟩
theorem idx_no (t:List Row) (id:Int) (h:∀ j (hj:j<t.length),t[j].id≠id):idx t id=none:=by
 rw [idx_none]
 intro hm
 obtain ⟨r,hr,e⟩:=List.mem_map.1 hm
 obtain ⟨j,hj,rfl⟩:=List.getElem_of_mem hr
 exact h j hj e
theorem idx_lt {t:List Row} {id:Int} {k:Nat} (h:idx t id=some k):k<t.length:=by
 unfold idx at h
 exact (List.findIdx?_eq_some_iff_getElem.1 h).1
theorem idx_id {t:List Row} {id:Int} {k:Nat} (h:idx t id=some k):t[k]'(idx_lt h)=t[k]'(idx_lt h)∧(t[k]'(idx_lt h)).id=id:=by
 unfold idx at h
 obtain ⟨h1,h2,_⟩:=List.findIdx?_eq_some_iff_getElem.1 h
 exact ⟨rfl,by simpa using h2⟩
theorem atI_range (t:List Row) (id:Int):-1≤atI t id∧atI t id<t.length:=by
 unfold atI
 cases h:idx t id with
 |none=>simp;omega
 |some k=>have:=idx_lt h;simp;omega
set_option maxRecDepth 100000 in
set_option maxHeartbeats 400000 in
theorem at_s (A:Option Addr) (c:Nat) (t:List Row) (id:Int) (w:World) (hr:Rd w A c t) :
  Calls Tryz.prog 118 #[.slice A t.length c,.int .i64 id] w fun e w'=>e=.returned (.int .i64 (atI t id))∧w'=w:=by
 have hm:t.length≤maxLen:=Nat.le_trans hr.1 hr.2.1
 unfold maxLen at hm
 have HR:=Lib.hid hr
 clear hr
 go_enter Tryz.func118,Tryz.ntmps118
 go_wp2_with fail
 go_loop [5] (fun i=>∃ k:Nat,k≤t.length∧i=.int .i64 k∧Hid (∀ j (hj:j<t.length),j<k→t[j].id≠id)) (fun i=>t.length - (RowKit.intOf i).toNat)
 case atStart=>exact ⟨0,Nat.zero_le _,rfl,fun j _ h=>by omega⟩
 case round=>
  obtain ⟨k,hk,rfl,HA⟩:=hrel
  by_cases hlt:k<t.length
  ·obtain ⟨b,off,rfl,hbl,c0,c1,c2⟩:=row_at HR.out k hlt
   by_cases he:t[k].id=id
   ·have he':(t[k].id == id)=true:=by simp [he]
    have HX:Hid (atI t id=k):=by show _=_;unfold atI;rw [idx_first t id k hlt HA.out he]
    clear he c1 c2
    go_wp2_with fail
    go_ret
    exact ⟨by rw [HX.out];rfl,rfl⟩
   ·have he':(t[k].id == id)=false:=by simp [he]
    have HN:Hid (∀ j (hj:j<t.length),j<k+1→t[j].id≠id):=fun j hj hjk=>by
     by_cases e:j=k
     ·subst e;exact he
     ·exact HA.out j hj (by omega)
    clear he c1 c2
    go_wp2_with fail
    go_round
    case rel=>exact ⟨k+1,by omega,by go_num,HN⟩
    case measure=>simp [RowKit.intOf];omega
  ·have HX:Hid (atI t id=-1):=by show _=_;unfold atI;rw [idx_no t id (fun j hj=>HA.out j hj (by omega))]
   go_wp2_with fail
   go_ret
   exact ⟨by rw [HX.out];rfl,rfl⟩
theorem endOf_first (t:List Row) (a k:Nat) (ha:a<k) (hk:k≤t.length) (h:∀ j (hj:j<t.length),a<j→j<k→t[a].depth<t[j].depth) (he:∀ hk':k<t.length,t[k].depth≤t[a].depth):endOf t a=k:=by
 unfold endOf below
 have hd:depAt t a=t[a].depth:=by unfold depAt;rw [List.getD_eq_getElem?_getD,List.getElem?_eq_getElem (by omega:a<t.length)];rfl
 rw [hd]
 have hsp:t.drop (a+1)=(t.take k).drop (a+1)++t.drop k:=by
  rw [←List.drop_append_of_le_length (by rw [List.length_take];omega),List.take_append_drop]
 rw [hsp,List.takeWhile_append_of_pos]
 ·have h0:(t.drop k).takeWhile (fun r=>decide (t[a].depth<r.depth))=[]:=by
   by_cases hkl:k<t.length
   ·rw [List.drop_eq_getElem_cons hkl,List.takeWhile_cons]
    rw [if_neg]
    have:=he hkl;simp;omega
   ·rw [List.drop_of_length_le (by omega)];rfl
  rw [h0]
  simp [List.length_take];omega
 ·intro r hr
  obtain ⟨j,hj,rfl⟩:=List.getElem_of_mem hr
  simp only [List.length_drop,List.length_take] at hj
  simp only [List.getElem_drop,List.getElem_take,decide_eq_true_eq]
  exact h _ (by omega) (by omega) (by omega)
theorem endOf_range (t:List Row) (a:Nat) (ha:a<t.length):a<endOf t a∧endOf t a≤t.length:=by
 unfold endOf below
 have:((t.drop (a+1)).takeWhile (fun r=>decide (depAt t a<r.depth))).length≤(t.drop (a+1)).length:=(List.takeWhile_sublist _).length_le
 rw [List.length_drop] at this
 omega
set_option maxRecDepth 100000 in
set_option maxHeartbeats 1000000 in
theorem end_s (A:Option Addr) (c:Nat) (t:List Row) (a:Nat) (w:World) (hr:Rd w A c t) (ha:a<t.length) :
  Calls Tryz.prog 119 #[.slice A t.length c,.int .i64 a] w fun e w'=>e=.returned (.int .i64 (endOf t a))∧∃ n,w'=w.drewN n:=by
 have hm:t.length≤maxLen:=Nat.le_trans hr.1 hr.2.1
 unfold maxLen at hm
 have HR:=Lib.hid hr
 clear hr
 go_enter Tryz.func119,Tryz.ntmps119
 go_wp2_with fail
 go_loopg [5] (t.length - (a+1)) (fun gk i wr=>∃ (k n:Nat),wr=w.drewN n∧k≤t.length∧a<k∧Hid (gk=t.length - k)∧i=.int .i64 k∧Hid (∀ j (hj:j<t.length),a<j→j<k→t[a].depth<t[j].depth))
 case atStart=>exact ⟨a+1,0,rfl,by omega,by omega,rfl,by go_num,fun j hj h1 h2=>by omega⟩
 case round=>
  obtain ⟨k,n,rfl,hk,hak,HK,rfl,HA⟩:=hrel
  obtain ⟨b,off,rfl,hbl,a0,a1,a2⟩:=row_at HR.out a ha
  by_cases hlt:k<t.length
  ·obtain ⟨b',off',e',hbl',c0,c1,c2⟩:=row_at HR.out k hlt
   cases e'
   have hlt':(k:Int)<t.length:=by omega
   have ha':(a:Int)<t.length:=by omega
   have hdl:decide ((k:Int)<t.length)=true:=by simpa using hlt
   clear a0 a2 c0 c2
   by_cases hd:t[a].depth<t[k].depth
   ·have HN:Hid (∀ j (hj:j<t.length),a<j→j<k+1→t[a].depth<t[j].depth):=fun j hj h1 h2=>by
     by_cases e:j=k
     ·subst e;exact hd
     ·exact HA.out j hj h1 (by omega)
    go_wp2_with fail
    go_quiet (fail)
    go_wp2_with fail
    go_roundg (t.length - (k+1))
    case measure=>have:=HK.out;omega
    case rel=>exact ⟨k+1,_,rfl,by omega,by omega,rfl,by go_num,HN⟩
   ·have hd':t[k].depth≤t[a].depth:=by omega
    have HX:Hid (endOf t a=k):=endOf_first t a k hak hk HA.out (fun _=>hd')
    clear hd
    go_wp2_with fail
    go_quiet (fail)
    go_wp2_with fail
    go_ret
    exact ⟨by rw [HX.out];rfl,_,by rw [World.drewN_drewN]⟩
  ·have HX:Hid (endOf t a=k):=endOf_first t a k hak hk HA.out (fun h=>absurd h hlt)
   have hlt':¬(k:Int)<t.length:=by omega
   have hd:decide ((k:Int)<t.length)=false:=by simpa using hlt'
   clear a0 a1 a2
   go_wp2_with fail
   go_quiet (fail)
   go_wp2_with fail
   go_ret
   exact ⟨by rw [HX.out];rfl,_,by rw [World.drewN_drewN]⟩
open Go.RowKit
set_option maxHeartbeats 400000 in
theorem rowOk_s (r:Row) (w:World) (hi:i64 r.id) (hs:r.text.size≤maxLen) :
  Calls Tryz.prog 89 #[.agg #[.int .i64 r.id,.int .i64 r.depth,.string r.text]] w fun x w'=>x=.returned (.bool (rowOk r))∧Ext w w':=by
 have HE:Hid (Ext w (w.alloc (.cells #[.int .i64 r.id,.int .i64 r.depth,.string r.text] 46))):=(Below.refl _ w).alloc (Nat.le_refl _) _
 have HC:=Lib.hid (root_s r.id (w.alloc (.cells #[.int .i64 r.id,.int .i64 r.depth,.string r.text] 46)))
 have HBX:=Lib.hid (World.alloc_heap_new w (.cells #[.int .i64 r.id,.int .i64 r.depth,.string r.text] 46))
 cases hroot:isRoot r.id
 ·rw [hroot] at HC
  have HM:=Lib.hid (made_s r.id (w.alloc (.cells #[.int .i64 r.id,.int .i64 r.depth,.string r.text] 46)) hi)
  have HD:=Lib.hid (in_c r.depth 1 18 (w.alloc (.cells #[.int .i64 r.id,.int .i64 r.depth,.string r.text] 46)))
  have HT:=Lib.hid (text_s r.text (w.alloc (.cells #[.int .i64 r.id,.int .i64 r.depth,.string r.text] 46)) hs)
  have HK:Hid (rowOk r=(isMade r.id&&inR r.depth 1 18&&textOk r.text)):=by show _=_;unfold rowOk;rw [hroot];rfl
  clear hroot hi hs
  cases hm:isMade r.id
  ·rw [hm] at HM HK
   clear hm
   go_enter Tryz.func89,Tryz.ntmps89
   go_wp2_with fail
   refine HC.out.mono ?_;rintro x w' ⟨rfl,rfl⟩
   go_wp2_with fail
   refine HM.out.mono ?_;rintro x w' ⟨rfl,rfl⟩
   go_wp2_with fail
   go_ret
   exact ⟨by rw [HK.out];rfl,HE.out⟩
  ·rw [hm] at HM HK
   clear hm
   cases hd:inR r.depth 1 18
   ·rw [hd] at HD HK
    clear hd
    go_enter Tryz.func89,Tryz.ntmps89
    go_wp2_with fail
    refine HC.out.mono ?_;rintro x w' ⟨rfl,rfl⟩
    go_wp2_with fail
    refine HM.out.mono ?_;rintro x w' ⟨rfl,rfl⟩
    go_wp2_with fail
    refine HD.out.mono ?_;rintro x w' ⟨rfl,rfl⟩
    go_wp2_with fail
    go_ret
    exact ⟨by rw [HK.out];rfl,HE.out⟩
   ·rw [hd] at HD HK
    clear hd
    go_enter Tryz.func89,Tryz.ntmps89
    go_wp2_with fail
    refine HC.out.mono ?_;rintro x w' ⟨rfl,rfl⟩
    go_wp2_with fail
    refine HM.out.mono ?_;rintro x w' ⟨rfl,rfl⟩
    go_wp2_with fail
    refine HD.out.mono ?_;rintro x w' ⟨rfl,rfl⟩
    go_wp2_with fail
    refine HT.out.mono ?_;rintro x w' ⟨rfl,rfl⟩
    go_wp2_with fail
    go_ret
    exact ⟨by rw [HK.out];rfl,HE.out⟩
 ·rw [hroot] at HC
  have HK:Hid (rowOk r=(decide (r.depth=0)&&r.text.toList.isEmpty)):=by show _=_;unfold rowOk;rw [hroot,←decide_eq_emptyBytes r.text];rfl
  clear hroot hi hs
  by_cases hd:r.depth=0
  ·have hd':(r.depth == 0)=true:=by simp [hd]
   have HR:Hid (rowOk r=r.text.toList.isEmpty):=by show _=_;rw [HK.out,decide_eq_true hd];rfl
   clear hd
   go_enter Tryz.func89,Tryz.ntmps89
   go_wp2_with fail
   refine HC.out.mono ?_;rintro x w' ⟨rfl,rfl⟩
   go_wp2_with fail
   go_ret
   exact ⟨by rw [HR.out];first | rfl | simp [hd'],HE.out⟩
  ·have hd':(r.depth == 0)=false:=by simp [hd]
   have HR:Hid (rowOk r=false):=by show _=_;rw [HK.out,decide_eq_false hd];rfl
   clear hd
   go_enter Tryz.func89,Tryz.ntmps89
   go_wp2_with fail
   refine HC.out.mono ?_;rintro x w' ⟨rfl,rfl⟩
   go_wp2_with fail
   go_ret
   exact ⟨by rw [HR.out];first | rfl | simp [hd'],HE.out⟩
end Go.Proofs.YtecmcjfdaipfcaaGreatDoor
