/- What a row gives: a client as an argument, and a slice of rows or entries. .. Walk of the reference: somebody hears. -/
import Derived.Test.YtecmcjfdaipfcaaGreatDoorYAI
import Derived.Test.YtecmcjfdaipfcaaGreatDoorYAK
import Derived.Deep.Slices
import Derived.Deep.Strs
import Derived.Test.YtecmcjfdaipfcaaGreatDoorYAH
import Derived.Test.YtecmcjfdaipfcaaGreatDoorYAG
import Derived.Deep.RegionWith
import Derived.Deep.RegionHeld3
import Derived.Deep.DeepCutAuto
import Derived.Deep.CutBlock
namespace Go.Proofs.YtecmcjfdaipfcaaGreatDoor
open Go.RowKit Go.ChangeShapes Go.WideShapes Go.ChangeAt
set_option linter.unusedVariables false
section
variable {H:Type} {enc:TypeId × Value→H} {W:World} {base:Nat} {sp:Nat→Bool} {hd:Bool}
theorem i64_wf {n:Int} (h:(Lit.int .i64 n).wf=true):i64 n:=by
 simp [Lit.wf,IntKind.min,IntKind.max,IntKind.signed,IntKind.bits] at h
 unfold i64;omega
theorem cell_int {t:TypeId} {fuel:Nat} {a:Value} {y:DataW H × List MemPlace} (ht:Tryz.prog.underlying t=some (.int .i64)) (h:DataW.trod enc Tryz.prog W 0 sp hd fuel t [a]=some y):∃ z:Int,a=.int .i64 z∧i64 z:=by
 obtain ⟨n,e,_,hw⟩:=DataW.trod_int ht h
 obtain rfl:=List.cons.inj e |>.1
 exact ⟨n,rfl,i64_wf hw⟩
theorem cell_text {t:TypeId} {fuel:Nat} {a:Value} {y:DataW H × List MemPlace} (ht:Tryz.prog.underlying t=some .string) (h:DataW.trod enc Tryz.prog W 0 sp hd fuel t [a]=some y):∃ z:ByteArray,a=.string z∧z.size≤maxLen:=by
 obtain ⟨n,e,_,hw⟩:=DataW.trod_string ht h
 obtain rfl:=List.cons.inj e |>.1
 exact ⟨n,rfl,hw⟩
set_option maxRecDepth 100000 in
theorem arg_flat {α:Type} [Flat α] {t e:TypeId} {v:Value} {fuel:Nat} {x:DataW H × List MemPlace} (ht:Tryz.prog.underlying t=some (.slice e)) (hce:Tryz.prog.cellsOf e=Flat.sz α) (ok:α→Prop)
  (hE:∀ n cs y,DataW.trod enc Tryz.prog W 0 sp hd n e cs=some y→∃ r:α,cs=Flat.enc r∧Flat.okE r∧ok r)
  (hv:Value.okWide Tryz.prog W .any base t v) (h:DataW.trod enc Tryz.prog W 0 sp hd fuel t [v]=some x) :
  ∃ (A:Option Addr) (n:Nat) (l:List α),v=.slice A l.length n∧Rd W A n l∧∀ r∈l,ok r:=by
 obtain ⟨A,len,cap,rfl,hA⟩:=arg_slice ht hv
 rcases Go.Deep.open_slice ht h with ⟨e0,_⟩ | ⟨a,len',cap',m,n,D,Pl,e0,_,hl,hm,hmm,_,hx⟩
 ·simp only [List.cons.injEq,Value.slice.injEq,and_true] at e0
  obtain ⟨rfl,rfl,rfl⟩:=e0
  exact ⟨none,0,[],rfl,Rd.nil W,by simp⟩
 ·simp only [List.cons.injEq,Value.slice.injEq,and_true] at e0
  obtain ⟨rfl,rfl,rfl⟩:=e0
  obtain ⟨b,off,spot⟩:=a
  obtain ⟨hs,hb⟩:=hA _ rfl
  simp only at hs hb
  subst hs
  have hlm:len≤m:=by rw [hmm];split <;> omega
  have key:∀ i,i<len→∃ r:α,(∀ j,j<Flat.sz α→W.cell? ⟨b,off+(i*Flat.sz α+j),none⟩=(Flat.enc r)[j]?)∧Flat.okE r∧ok r:=by
   intro i hi
   obtain ⟨cs',h1,h2⟩:=hx i (by omega)
   obtain ⟨r,rfl,hr1,hr2⟩:=hE _ _ _ h2
   refine ⟨r,fun j hj=>?_,hr1,hr2⟩
   rw [hce] at h1
   have h3:=(World.cells?_some h1).2.2 j hj
   rw [←h3]
   have hadd:∀ (o k:Nat),(⟨b,o,none⟩:Addr).add k=⟨b,o+k,none⟩:=by intro o k;unfold Addr.add;split <;> simp_all
   rw [hadd,hadd,Nat.add_assoc]
  have key':∀ i:Fin len,∃ r:α,(∀ j,j<Flat.sz α→W.cell? ⟨b,off+(i.1*Flat.sz α+j),none⟩=(Flat.enc r)[j]?)∧Flat.okE r∧ok r:=fun i=>key i.1 i.2
  have hR:=Classical.skolem.1 key'
  obtain ⟨R,hR⟩:=hR
  have hlen:(List.ofFn R).length=len:=List.length_ofFn
  refine ⟨some ⟨b,off,none⟩,cap,List.ofFn R,by rw [hlen],⟨by rw [hlen];exact hl,hm,fun _=>⟨b,off,rfl,fun j v hv=>?_⟩,fun r hr=>?_⟩,fun r hr=>?_⟩
  ·have hpos:=Flat.pos (α:=α)
   have hjl:j<(flat (List.ofFn R)).length:=(List.getElem?_eq_some_iff.1 hv).1
   rw [flat_length,hlen] at hjl
   have hmd:j % Flat.sz α<Flat.sz α:=Nat.mod_lt _ hpos
   have hdv:j / Flat.sz α<len:=Nat.div_lt_of_lt_mul (by rw [Nat.mul_comm];exact hjl)
   have he:j=j / Flat.sz α*Flat.sz α+j % Flat.sz α:=by rw [Nat.mul_comm];exact (Nat.div_add_mod _ _).symm
   have h1:=flat_at (List.ofFn R) (j / Flat.sz α) (by rw [hlen];exact hdv) (j % Flat.sz α) hmd
   rw [←he,hv,List.getElem_ofFn] at h1
   have h2:=(hR ⟨j / Flat.sz α,hdv⟩).1 (j % Flat.sz α) hmd
   rw [←h1] at h2
   rw [he];exact h2
  ·obtain ⟨i,rfl⟩:=List.mem_ofFn.1 hr
   exact (hR i).2.1
  ·obtain ⟨i,rfl⟩:=List.mem_ofFn.1 hr
   exact (hR i).2.2
theorem cellsRow:Tryz.prog.cellsOf 211=3:=by kernel_rfl
theorem cellsEntry:Tryz.prog.cellsOf 189=7:=by kernel_rfl
theorem cellsOp:Tryz.prog.cellsOf 187=5:=by kernel_rfl
theorem cellsClient:Tryz.prog.cellsOf 155=6:=by kernel_rfl
theorem cellsRows:Tryz.prog.cellsOf 153=1:=by kernel_rfl
theorem cellsEntries:Tryz.prog.cellsOf 48=1:=by kernel_rfl
theorem cellsText:Tryz.prog.cellsOf 9=1:=by kernel_rfl
theorem trod_struct5 {t:TypeId} {f0 f1 f2 f3 f4:Field} {fuel:Nat} {cs:List Value} {x:DataW H × List MemPlace} (ht:Tryz.prog.underlying t=some (.struct #[f0,f1,f2,f3,f4])) (h:DataW.trod enc Tryz.prog W 0 sp hd fuel t cs=some x) :
  ∃ y0 y1 y2 y3 y4 n,cs.length=Tryz.prog.cellsOf t∧DataW.trod enc Tryz.prog W 0 sp hd n f0.type ((cs.drop f0.offset).take (Tryz.prog.cellsOf f0.type))=some y0∧DataW.trod enc Tryz.prog W 0 sp hd n f1.type ((cs.drop f1.offset).take (Tryz.prog.cellsOf f1.type))=some y1 ∧
   DataW.trod enc Tryz.prog W 0 sp hd n f2.type ((cs.drop f2.offset).take (Tryz.prog.cellsOf f2.type))=some y2∧DataW.trod enc Tryz.prog W 0 sp hd n f3.type ((cs.drop f3.offset).take (Tryz.prog.cellsOf f3.type))=some y3∧DataW.trod enc Tryz.prog W 0 sp hd n f4.type ((cs.drop f4.offset).take (Tryz.prog.cellsOf f4.type))=some y4:=by
 obtain ⟨xs,n,_,rfl,hl,hlen,hf⟩:=DataW.trod_struct ht h
 match xs,hlen with
 |[y0,y1,y2,y3,y4],_=>exact ⟨y0,y1,y2,y3,y4,n,hl,by simpa using hf 0 f0 rfl,by simpa using hf 1 f1 rfl,by simpa using hf 2 f2 rfl,by simpa using hf 3 f3 rfl,by simpa using hf 4 f4 rfl⟩
theorem trod_struct6 {t:TypeId} {f0 f1 f2 f3 f4 f5:Field} {fuel:Nat} {cs:List Value} {x:DataW H × List MemPlace} (ht:Tryz.prog.underlying t=some (.struct #[f0,f1,f2,f3,f4,f5])) (h:DataW.trod enc Tryz.prog W 0 sp hd fuel t cs=some x) :
  ∃ y0 y1 y2 y3 y4 y5 n,cs.length=Tryz.prog.cellsOf t∧DataW.trod enc Tryz.prog W 0 sp hd n f0.type ((cs.drop f0.offset).take (Tryz.prog.cellsOf f0.type))=some y0∧DataW.trod enc Tryz.prog W 0 sp hd n f1.type ((cs.drop f1.offset).take (Tryz.prog.cellsOf f1.type))=some y1 ∧
   DataW.trod enc Tryz.prog W 0 sp hd n f2.type ((cs.drop f2.offset).take (Tryz.prog.cellsOf f2.type))=some y2∧DataW.trod enc Tryz.prog W 0 sp hd n f3.type ((cs.drop f3.offset).take (Tryz.prog.cellsOf f3.type))=some y3∧DataW.trod enc Tryz.prog W 0 sp hd n f4.type ((cs.drop f4.offset).take (Tryz.prog.cellsOf f4.type))=some y4 ∧
   DataW.trod enc Tryz.prog W 0 sp hd n f5.type ((cs.drop f5.offset).take (Tryz.prog.cellsOf f5.type))=some y5:=by
 obtain ⟨xs,n,_,rfl,hl,hlen,hf⟩:=DataW.trod_struct ht h
 match xs,hlen with
 |[y0,y1,y2,y3,y4,y5],_=>exact ⟨y0,y1,y2,y3,y4,y5,n,hl,by simpa using hf 0 f0 rfl,by simpa using hf 1 f1 rfl,by simpa using hf 2 f2 rfl,by simpa using hf 3 f3 rfl,by simpa using hf 4 f4 rfl,by simpa using hf 5 f5 rfl⟩
set_option maxRecDepth 100000 in
theorem row_in {fuel:Nat} {cs:List Value} {y:DataW H × List MemPlace} (h:DataW.trod enc Tryz.prog W 0 sp hd fuel 211 cs=some y):∃ r:Row,cs=rowE r∧r.text.size≤maxLen∧(i64 r.id∧i64 r.depth):=by
 obtain ⟨y0,y1,y2,n,_,hl,h0,h1,h2⟩:=Go.Deep.trod_struct3 Tryz.underlying211 h
 rw [cellsRow] at hl
 match cs,hl with
 |[a,b,c],_=>
  simp only [cellsInt,cellsText,List.drop,List.take] at h0 h1 h2
  obtain ⟨z0,rfl,w0⟩:=cell_int Tryz.underlying3 h0
  obtain ⟨z1,rfl,w1⟩:=cell_int Tryz.underlying3 h1
  obtain ⟨z2,rfl,w2⟩:=cell_text Tryz.underlying9 h2
  exact ⟨⟨z0,z1,z2⟩,rfl,w2,w0,w1⟩
set_option maxRecDepth 100000 in
theorem op_in {fuel:Nat} {cs:List Value} {y:DataW H × List MemPlace} (h:DataW.trod enc Tryz.prog W 0 sp hd fuel 187 cs=some y):∃ o:Op,cs=[.int .i64 o.kind,.int .i64 o.id,.int .i64 o.up,.int .i64 o.pos,.string o.text]∧o.text.size≤maxLen∧(i64 o.kind∧OpW o):=by
 obtain ⟨y0,y1,y2,y3,y4,n,hl,h0,h1,h2,h3,h4⟩:=trod_struct5 Tryz.underlying187 h
 rw [cellsOp] at hl
 match cs,hl with
 |[a,b,c,d,e],_=>
  simp only [cellsInt,cellsText,List.drop,List.take] at h0 h1 h2 h3 h4
  obtain ⟨z0,rfl,w0⟩:=cell_int Tryz.underlying3 h0
  obtain ⟨z1,rfl,w1⟩:=cell_int Tryz.underlying3 h1
  obtain ⟨z2,rfl,w2⟩:=cell_int Tryz.underlying3 h2
  obtain ⟨z3,rfl,w3⟩:=cell_int Tryz.underlying3 h3
  obtain ⟨z4,rfl,w4⟩:=cell_text Tryz.underlying9 h4
  exact ⟨⟨z0,z1,z2,z3,z4⟩,rfl,w4,w0,w1,w2,w3⟩
set_option maxRecDepth 100000 in
theorem ent_in {fuel:Nat} {cs:List Value} {y:DataW H × List MemPlace} (h:DataW.trod enc Tryz.prog W 0 sp hd fuel 189 cs=some y):∃ e:Entry,cs=entE e∧e.op.text.size≤maxLen∧(i64 e.who∧i64 e.seq∧i64 e.op.kind∧OpW e.op):=by
 obtain ⟨y0,y1,y2,n,_,hl,h0,h1,h2⟩:=Go.Deep.trod_struct3 Tryz.underlying189 h
 rw [cellsEntry] at hl
 match cs,hl with
 |[a,b,c,d,e,f,g],_=>
  simp only [cellsInt,cellsOp,List.drop,List.take] at h0 h1 h2
  obtain ⟨z0,rfl,w0⟩:=cell_int Tryz.underlying3 h0
  obtain ⟨z1,rfl,w1⟩:=cell_int Tryz.underlying3 h1
  obtain ⟨o,e,w2,w3,w4⟩:=op_in h2
  simp only [List.cons.injEq,and_true] at e
  obtain ⟨rfl,rfl,rfl,rfl,rfl⟩:=e
  exact ⟨⟨z0,z1,o⟩,rfl,w2,w0,w1,w3,w4⟩
set_option maxRecDepth 100000 in
theorem arg_rows {v:Value} {fuel:Nat} {x:DataW H × List MemPlace} (hv:Value.okWide Tryz.prog W .any base 153 v) (h:DataW.trod enc Tryz.prog W 0 sp hd fuel 153 [v]=some x) :
  ∃ (A:Option Addr) (n:Nat) (l:List Row),v=.slice A l.length n∧Rd W A n l∧∀ r∈l,i64 r.id∧i64 r.depth:=
 arg_flat Tryz.underlying153 cellsRow _ (fun _ _ _=>row_in) hv h
set_option maxRecDepth 100000 in
theorem arg_entries {v:Value} {fuel:Nat} {x:DataW H × List MemPlace} (hv:Value.okWide Tryz.prog W .any base 48 v) (h:DataW.trod enc Tryz.prog W 0 sp hd fuel 48 [v]=some x) :
  ∃ (A:Option Addr) (n:Nat) (l:List Entry),v=.slice A l.length n∧Rd W A n l∧∀ e∈l,i64 e.who∧i64 e.seq∧i64 e.op.kind∧OpW e.op:=
 arg_flat Tryz.underlying48 cellsEntry _ (fun _ _ _=>ent_in) hv h
theorem client_cells:Tryz.prog.cellTypes Tryz.prog.depth 155=some [3,3,153,48,3,3]:=by kernel_rfl
set_option maxRecDepth 100000 in
theorem arg_client {v:Value} {d:DataW H} {p:List MemPlace} (hv:Value.okWide Tryz.prog W .any base 155 v) (h:DataW.Trod enc Tryz.prog W 0 sp hd 155 v d p) :
  ∃ c:Client,CV W c v∧(i64 c.who∧i64 c.seen∧i64 c.done∧i64 c.made)∧(∀ r∈c.base,i64 r.id∧i64 r.depth)∧∀ e∈c.wait,i64 e.who∧i64 e.seq∧i64 e.op.kind∧OpW e.op:=by
 obtain ⟨fuel,h⟩:=h
 unfold Value.okWide at hv
 rw [Tryz.underlying155] at hv
 obtain ⟨cs,rfl,hsz,ts,hts,_,hcell⟩:=hv
 rw [client_cells] at hts
 obtain rfl:=Option.some.inj hts
 obtain ⟨y0,y1,y2,y3,y4,y5,n,hl,h0,h1,h2,h3,h4,h5⟩:=trod_struct6 Tryz.underlying155 h
 obtain ⟨cs⟩:=cs
 rw [cellsClient] at hsz
 simp only [Value.cells] at h0 h1 h2 h3 h4 h5
 match cs,hsz with
 |[a,b,c,d,e,f],_=>
  simp only [cellsInt,cellsRows,cellsEntries,List.drop,List.take] at h0 h1 h2 h3 h4 h5
  obtain ⟨z0,rfl,w0⟩:=cell_int Tryz.underlying3 h0
  obtain ⟨z1,rfl,w1⟩:=cell_int Tryz.underlying3 h1
  obtain ⟨z4,rfl,w4⟩:=cell_int Tryz.underlying3 h4
  obtain ⟨z5,rfl,w5⟩:=cell_int Tryz.underlying3 h5
  obtain ⟨u2,hu2,ok2⟩:=hcell 2 c rfl
  obtain ⟨u3,hu3,ok3⟩:=hcell 3 d rfl
  obtain rfl:=Option.some.inj hu2
  obtain rfl:=Option.some.inj hu3
  obtain ⟨A1,n1,l1,rfl,hr1,hi1⟩:=arg_rows (base:=base) (by unfold Value.okWide;rw [Tryz.underlying153];exact ok2) h2
  obtain ⟨A2,n2,l2,rfl,hr2,hi2⟩:=arg_entries (base:=base) (by unfold Value.okWide;rw [Tryz.underlying48];exact ok3) h3
  exact ⟨⟨z0,z1,l1,l2,z4,z5⟩,⟨A1,n1,A2,n2,rfl,hr1,hr2⟩,⟨w0,w1,w4,w5⟩,hi1,hi2⟩
end
open Go.RowKit
def runOps (t:List Row) (l:List Entry):List Row:=l.foldl (fun t e=>opDo t e.op) t
theorem runOps_take (t:List Row) (l:List Entry) (k:Nat) (hk:k<l.length):runOps t (l.take (k+1))=opDo (runOps t (l.take k)) l[k].op:=by
 unfold runOps;rw [List.take_succ_eq_append_getElem hk,List.foldl_append];rfl
theorem gtrans0 {w w1 w2:World} {row:Option Nat} (h:w.grownBy w1 row) (k:w1.grownBy w2 row):w.grownBy w2 row:=
 ⟨k.os.trans h.os,k.tape.trans h.tape,k.output.trans h.output,Nat.le_trans h.size k.size,fun i hi hne=>(k.block i (Nat.lt_of_lt_of_le hi h.size) hne).trans (h.block i hi hne)⟩
theorem gext0 {w w':World} {row:Option Nat} (h:Ext w w'):w.grownBy w' row:=⟨h.os,h.tape,h.output,h.size,fun i hi _=>h.block i hi⟩
theorem tab_grown {w w':World} {p:Nat} (h:Tab w) (hg:w.grownBy w' (some p)) (hp:0<p):Tab w':=
 h.below (B:=1) ⟨hg.os,hg.tape,hg.output,hg.size,fun k hk=>hg.block k (by have:=h.pos;omega) (fun e=>by injection e;omega)⟩ (by omega)
set_option maxRecDepth 100000 in
set_option maxHeartbeats 2000000 in
theorem each_do (b h:Nat) (f:Nat→Value) (q:List Entry) (n0 p:Nat) (t0:List Row) (w:World) (ht:Tab w) (hR:Ring w b h f q) (hc:Page w n0 p t0) (hn0:n0≤w.heap.size) (hbx:n0≤p) (hbp:b≠p) (h0:0<n0) :
  Calls Tryz.prog 39 #[.pointer (some ⟨b,0,none⟩),.func (.func 40) #[.pointer (some ⟨p,0,none⟩)] #[]] w fun r w'=>r=.returned (.tuple #[])∧Page w' n0 p (runOps t0 q)∧w.grownBy w' (some p):=by
 have c1:=hR.row.cell (i:=281) (by omega)
 rw [hR.cSz] at c1
 have hlt:=hR.row.lt
 have hd:=hR.hd
 have hl40:=hR.len
 have HR:=Lib.hid hR;have HC:=Lib.hid hc;have HT:=Lib.hid ht
 clear hR hc ht
 go_enter Tryz.func39,Tryz.ntmps39
 go_wp2
 go_loopg [9] q.length (fun gk i wr=>∃ k:Nat,k≤q.length∧Hid (gk=q.length - k)∧i=.int .i64 k∧Hid (Page wr n0 p (runOps t0 (q.take k)))∧Hid (w.grownBy wr (some p)))
 case atStart=>exact ⟨0,Nat.zero_le _,rfl,rfl,HC.out,grown_refl _ _⟩
 case round=>
  obtain ⟨k,hk,HK,rfl,HQ,HB⟩:=hrel
  by_cases hkl:k<q.length
  ·have hring:=HR.out.of_block (HB.out.block b hlt (by simpa using hbp))
   have c0:=hring.row.cell (i:=280) (by omega)
   rw [hring.cHd] at c0
   have hk40:k<40:=by omega
   have hwr:IntKind.i64.wrap ((h:Int)+(k:Int))=(h:Int)+(k:Int):=by rw [IntKind.wrap_i64];omega
   have hrem:Int.tmod ((h:Int)+(k:Int)) 40=(((h+k) % 40:Nat):Int):=by rw [Int.tmod_eq_emod_of_nonneg (by omega)];omega
   have e0:=hring.slot k hkl 0 _ rfl;have e1:=hring.slot k hkl 1 _ rfl;have e2:=hring.slot k hkl 2 _ rfl;have e3:=hring.slot k hkl 3 _ rfl;have e4:=hring.slot k hkl 4 _ rfl;have e5:=hring.slot k hkl 5 _ rfl;have e6:=hring.slot k hkl 6 _ rfl
   rw [Nat.add_zero] at e0
   have hm1:(h+k) % 40<40:=Nat.mod_lt _ (by omega)
   generalize hm:(h+k) % 40=m at *
   have hmm1:(m:Int)<40:=by omega
   have hmm0:(0:Int)≤(m:Int):=by omega
   have hsz:=HB.out.size
   have hC:=fun (W:World) (hw:W=wr.drew)=>pageDo_c n0 p (runOps t0 (q.take k)) q[k] W (hw▸(tab_grown HT.out HB.out (by omega)).drewN 1) (hw▸(HQ.out.ext (Ext.drewN (Below.refl _ wr) 1))) (by rw [hw];exact Nat.le_trans hn0 hsz) hbx (HR.out.ok _ (List.getElem_mem hkl))
   have HCC:=Lib.hid hC
   clear hring hC hm1 hm
   go_wp2
   refine wp_region_any (by kernel_rfl) ?_
   change wpAny _ _ _ _ _ _ _ (World.drew _)
   refine wpAny_take (i:=0) (v:=?_) rfl (by kernel_rfl) (by kernel_rfl) (by kernel_rfl) (fun _ _ _ h=>h) (Or.inl ⟨by rfl,?_⟩) ?_
   rotate_left
   ·(intro w;go_simp;try with_reducible rfl)
   refine wpAny_take (i:=1) (v:=?_) rfl (by kernel_rfl) (by kernel_rfl) (by kernel_rfl) (fun _ _ _ h=>h) (Or.inl ⟨by rfl,?_⟩) ?_
   rotate_left
   ·(intro w;go_simp;try with_reducible rfl)
   refine wpAny_take (i:=2) (v:=?_) rfl (by kernel_rfl) (by kernel_rfl) (by kernel_rfl) (fun _ _ _ h=>h) (Or.inl ⟨by rfl,?_⟩) ?_
   rotate_left
   ·(intro w;go_simp;try with_reducible rfl)
   refine wpAny_take (i:=3) (v:=?_) rfl (by kernel_rfl) (by kernel_rfl) (by kernel_rfl) (fun _ _ _ h=>h) (Or.inl ⟨by rfl,?_⟩) ?_
   rotate_left
   ·(intro w;go_simp;try with_reducible rfl)
   refine wpAny_take (i:=4) (v:=?_) rfl (by kernel_rfl) (by kernel_rfl) (by kernel_rfl) (fun _ _ _ h=>h) (Or.inl ⟨by rfl,?_⟩) ?_
   rotate_left
   ·(intro w;go_simp;try with_reducible rfl)
   refine wpAny_take (i:=6) (v:=?_) rfl (by kernel_rfl) (by kernel_rfl) (by kernel_rfl) (fun _ _ _ h=>h) (Or.inl ⟨by rfl,?_⟩) ?_
   rotate_left
   ·(intro w;go_simp;try with_reducible rfl)
   refine wpAny_take (i:=9) (v:=?_) rfl (by kernel_rfl) (by kernel_rfl) (by kernel_rfl) (fun _ _ _ h=>h) (Or.inl ⟨by rfl,?_⟩) ?_
   rotate_left
   ·(intro w;go_simp;try with_reducible rfl)
   refine wpAny_take (i:=10) (v:=?_) rfl (by kernel_rfl) (by kernel_rfl) (by kernel_rfl) (fun _ _ _ h=>h) (Or.inl ⟨by rfl,?_⟩) ?_
   rotate_left
   ·(intro w;go_simp;try with_reducible rfl)
   refine wpAny_ready (rs:=[5]) (by kernel_rfl) (by simp) ?_
   refine AllReady.cons rfl (fun K hK=>?_) AllReady.nil
   go_simp
   refine hK _ _ ?_;clear hK K
   refine wpAny_take (i:=7) (v:=?_) rfl (by kernel_rfl) (by kernel_rfl) (by kernel_rfl) (fun _ _ _ h=>h) (Or.inl ⟨by rfl,?_⟩) ?_
   rotate_left
   ·(intro w;go_simp;try with_reducible rfl)
   refine wpAny_take (i:=8) (v:=?_) rfl (by kernel_rfl) (by kernel_rfl) (by kernel_rfl) (fun _ _ _ h=>h) (Or.inl ⟨by rfl,?_⟩) ?_
   rotate_left
   ·(intro w;go_simp;try with_reducible rfl)
   refine wpAny_take (i:=11) (v:=?_) rfl (by kernel_rfl) (by kernel_rfl) (by kernel_rfl) (fun _ _ _ h=>h) (Or.inl ⟨by rfl,?_⟩) ?_
   rotate_left
   ·(intro w;go_simp;try with_reducible rfl)
   refine wpAny_ready (rs:=[12]) (by kernel_rfl) (by simp) ?_
   refine AllReady.cons rfl (fun K hK=>?_) AllReady.nil
   go_simp
   refine hK _ _ ?_;clear hK K
   refine wpAny_ready (rs:=[13]) (by kernel_rfl) (by simp) ?_
   refine AllReady.cons rfl (fun K hK=>?_) AllReady.nil
   go_simp
   go_wp2_with (go_at_call 40;refine (HCC.out _ rfl).mono ?_;rintro r w2 ⟨rfl,hq2,hb2⟩;have HQ2:=Lib.hid hq2;have HB2:=Lib.hid hb2;clear hq2 hb2)
   refine wpAny_done (by kernel_rfl) ?_ _
   go_wp2
   go_roundg (q.length - (k+1))
   case measure=>have:=HK.out;omega
   case rel=>
    refine ⟨k+1,by omega,rfl,by go_num,?_,?_⟩
    ·show Page _ _ _ _
     rw [runOps_take t0 q k hkl];exact HQ2.out
    ·exact gtrans0 HB.out (gtrans0 (gext0 (Ext.drewN (Below.refl _ wr) 1)) HB2.out)
  ·have:k=q.length:=by omega
   subst this
   rw [List.take_length] at HQ
   go_wp2
   go_end0
   exact ⟨rfl,HQ.out,HB.out⟩
def showL (c:Client):List Row:=if clientOk c then runOps c.base c.wait else []
set_option maxRecDepth 100000 in
set_option maxHeartbeats 1000000 in
theorem clientShow_c (c:Client) (v:Value) (w:World) (ht:Tab w) (h:CV w c v) :
  Calls Tryz.prog 12 #[v] w fun r w'=>∃ v',r=.returned v'∧Own 46 w' w.heap.size v' (showL c)∧Ext w w':=by
 have HCV:=Lib.hid h;have HT:=Lib.hid ht
 obtain ⟨A1,n1,A2,n2,rfl,h1,h2⟩:=h
 have H1:=Lib.hid h1;have H2:=Lib.hid h2
 have hE0:Ext w (w.alloc (oC c A1 n1 A2 n2)):=(Below.refl _ w).alloc (Nat.le_refl _) _
 have hbox:=World.alloc_heap_new w (oC c A1 n1 A2 n2)
 have HC:=Lib.hid (clientOk_c c _ (w.alloc (oC c A1 n1 A2 n2)) (HT.out.alloc _) (HCV.out.ext hE0))
 have HE0:=Lib.hid hE0;have HBX:=Lib.hid hbox
 have hsz:=alloc_sz w (oC c A1 n1 A2 n2)
 have HSZ:=Lib.hid hsz
 clear h1 h2 ht hE0 hbox hsz
 go_enter Tryz.func12,Tryz.ntmps12
 go_wp2_with fail
 refine HC.out.mono ?_
 rintro e w1 ⟨rfl,hb1⟩
 have hx1:=(hb1.block w.heap.size (by rw [HSZ.out];omega)).trans HBX.out
 have hE1:=HE0.out.trans (hb1.mono HE0.out.size)
 have HX1:=Lib.hid hx1;have HE1:=Lib.hid hE1
 obtain ⟨c0,c1,c2,c3,c4,c5,cf⟩:=six_cells hx1
 clear hb1 hx1 hE1 HC
 cases hok:clientOk c
 ·have HR:Hid (showL c=[]):=by show _=_;unfold showL;rw [hok];rfl
  clear hok
  go_wp2_with fail
  go_ret
  exact ⟨_,rfl,by rw [HR.out];exact Own.nil _ _ _,HE1.out⟩
 ·obtain ⟨hw9,hs0,hs40,htr,hd0,hd1,hwl,hm0,hm1,hwt⟩:=clientOk_parts hok
  have hbl:=treeOk_len htr
  have HR:Hid (showL c=runOps c.base c.wait):=by show _=_;unfold showL;rw [hok];rfl
  have HCL:=Lib.hid (clone_row A1 n1 c.base w1 (H1.out.ext HE1.out) (by omega))
  have hw40:c.wait.length≤40:=by omega
  clear hw9 hs0 hs40 htr hd0 hd1 hwl hm0 hm1 hwt hok hbl
  go_wp2_with fail
  refine HCL.out.mono ?_
  rintro e w2 ⟨v2,rfl,hown2,hb2⟩
  obtain ⟨A3,n3,rfl,hr3⟩:=hown2.rd
  have hx2:=(hb2.block _ (blk_lt HX1.out)).trans HX1.out
  have hE2:=HE1.out.trans (hb2.mono HE1.out.size)
  have hEp:Ext w2 (w2.alloc (.cells #[.slice A3 c.base.length n3] 79)):=(Below.refl _ w2).alloc (Nat.le_refl _) _
  have hpage:Page (w2.alloc (.cells #[.slice A3 c.base.length n3] 79)) w.heap.size w2.heap.size c.base:=⟨_,World.alloc_heap_new w2 _,(hown2.below hEp).lower HE1.out.size⟩
  have hx3:=(hEp.block _ (blk_lt hx2)).trans hx2
  have hsp:=alloc_sz w2 (.cells #[.slice A3 c.base.length n3] 79)
  have hgt:=blk_lt hx2
  obtain ⟨d0,d1,d2,d3,d4,d5,df⟩:=six_cells hx3
  have HX3:=Lib.hid hx3;have HE3:=Lib.hid (hE2.trans (hEp.mono hE2.size));have HPG:=Lib.hid hpage;have HSP:=Lib.hid hsp;have HGT:=Lib.hid hgt
  have HE2:=Lib.hid hE2
  clear c0 c1 c2 c3 c4 c5 cf hown2 hr3 hb2 hx2 hE2 hEp hpage hx3 hsp hgt HCL
  go_wp2_with fail
  refine (ringOf_c A2 n2 c.wait _ (H2.out.ext HE3.out) hw40).mono ?_
  rintro e w4 ⟨rb,f4,rfl,hring,hrb,hb4⟩
  have HRG:=Lib.hid hring;have HB4:=Lib.hid hb4;have HRB:=Lib.hid hrb
  clear hring hb4 hrb d0 d1 d2 d3 d4 d5 df
  have hn:=HE2.out.size
  have hE4:=HE3.out.trans (HB4.out.mono HE3.out.size)
  have hsp:=HSP.out;have hrb:=HRB.out
  have hD:=each_do rb 0 f4 c.wait w.heap.size w2.heap.size c.base w4 (HT.out.below hE4 HT.out.pos) HRG.out (HPG.out.ext HB4.out) hE4.size hn (by omega) HT.out.pos
  have HD:=Lib.hid hD;have HE4:=Lib.hid hE4
  clear hD hE4 hsp hrb
  go_wp2_with fail
  refine HD.out.mono ?_
  rintro e w5 ⟨rfl,⟨v5,hbx5,hown5⟩,hg5⟩
  have q0:=hbx5.cell
  have HG5:=Lib.hid hg5;have HO5:=Lib.hid hown5
  clear HD hbx5 hown5 hg5 HPG HRG
  go_wp2_with fail
  go_ret
  refine ⟨_,rfl,by rw [HR.out];exact HO5.out,?_⟩
  exact ext_grown HE4.out HG5.out HE4.out.size (fun k hk=>by injection hk with hk;subst hk;exact hn)
open Go.RowKit
theorem mid3_new (w:World) (x y z:Obj):(((w.alloc x).alloc y).alloc z).heap[w.heap.size+1]?=some y:=by
 have h:=(two_new w x y).2
 have hs:=blk_lt h
 exact (Below.heap_alloc _ z _ hs).trans h
theorem cells3 {W:World} {b:Nat} {v0 v1 v2:Value} {ty:TypeId} (h:W.heap[b]?=some (.cells #[v0,v1,v2] ty (0,0))) :
  W.cell? ⟨b,0,none⟩=some v0∧W.cell? ⟨b,1,none⟩=some v1∧W.cell? ⟨b,2,none⟩=some v2:=by
 refine ⟨by simp [World.cell?,h],by simp [World.cell?,h],by simp [World.cell?,h]⟩
theorem ext3 (w:World) (x y z:Obj):Ext w (((w.alloc x).alloc y).alloc z):=(((Below.refl _ w).alloc (Nat.le_refl _) x).alloc (by simp) y).alloc (by simp only [alloc_sz];omega) z
theorem three_all (w:World) (x y z:Obj):(((w.alloc x).alloc y).alloc z).heap[w.heap.size]?=some x∧(((w.alloc x).alloc y).alloc z).heap[w.heap.size+1]?=some y∧(((w.alloc x).alloc y).alloc z).heap[w.heap.size+2]?=some z:=by
 have h:=two_new w x y
 have hs:((w.alloc x).alloc y).heap.size=w.heap.size+2:=by simp only [alloc_sz]
 have hz:(((w.alloc x).alloc y).alloc z).heap[((w.alloc x).alloc y).heap.size]?=some z:=(MapKept.heap_alloc _ z).1
 rw [hs] at hz
 exact ⟨(Below.heap_alloc _ z _ (by omega)).trans h.1,(Below.heap_alloc _ z _ (by omega)).trans h.2,hz⟩
open Go.RowKit Go.Lib
set_option maxRecDepth 100000 in
set_option maxHeartbeats 2000000 in
theorem copy_s (c:Client) (v:Value) (w:World) (h:CV w c v) (hb:c.base.length≤1000000) (hw:c.wait.length≤1000000) :
  Calls Tryz.prog 33 #[v] w fun r w'=>∃ v',r=.returned v'∧CO w' w.heap.size c v'∧Ext w w':=by
 obtain ⟨A1,n1,A2,n2,rfl,h1,h2⟩:=h
 have H1:=Lib.hid h1;have H2:=Lib.hid h2
 have hX:=two_new w (oC c A1 n1 A2 n2) oC0
 have hE0:Ext w ((w.alloc (oC c A1 n1 A2 n2)).alloc oC0):=((Below.refl _ w).alloc (Nat.le_refl _) _).alloc (by rw [alloc_sz];omega) _
 have hs0:((w.alloc (oC c A1 n1 A2 n2)).alloc oC0).heap.size=w.heap.size+2:=by rw [alloc_sz,alloc_sz]
 obtain ⟨v3,w3,hrun,hown3,hg3⟩:=app_at el_row (own_made (e:=46) (α:=Row) ((w.alloc (oC c A1 n1 A2 n2)).alloc oC0) (w.heap.size+2) (by omega)) ((h1.ext hE0).alloc (.cells #[] 46)) (by simp;omega) (by rw [alloc_sz];omega)
 have hs3:=hg3.size
 rw [alloc_sz,hs0] at hs3
 have hE3:=ext_grown (hE0.alloc (by omega) (.cells #[] 46)) hg3 (by rw [alloc_sz];omega) (fun k hk=>by simp only [Value.ownBlock,Option.some.injEq] at hk;omega)
 have hx3:=(hg3.block w.heap.size (by rw [alloc_sz];omega) (fun e=>by simp only [Value.ownBlock,Option.some.injEq] at e;omega)).trans ((Below.heap_alloc _ (.cells #[] 46) w.heap.size (by omega)).trans hX.1)
 have hy3:=(hg3.block (w.heap.size+1) (by rw [alloc_sz];omega) (fun e=>by simp only [Value.ownBlock,Option.some.injEq] at e;omega)).trans ((Below.heap_alloc _ (.cells #[] 46) (w.heap.size+1) (by omega)).trans hX.2)
 rw [List.nil_append] at hown3
 obtain ⟨A3,n3,rfl,hr3⟩:=hown3.rd
 have HO3:=Lib.hid hown3;have HE3:=Lib.hid hE3;have HX3:=Lib.hid hx3;have HY3:=Lib.hid hy3
 simp only [alloc_sz] at hrun
 obtain ⟨c0,c1,c2,c3,c4,c5,cf⟩:=six_cells hx3
 have hlt1:w.heap.size<w3.heap.size:=by omega
 have hlt2:w.heap.size+1<w3.heap.size:=by omega
 have hE4:Ext w (w3.setCell ⟨w.heap.size,2,none⟩ (.slice A3 c.base.length n3)):=HE3.out.setCell (Nat.le_refl _) _
 have hs4:(w3.setCell ⟨w.heap.size,2,none⟩ (.slice A3 c.base.length n3)).heap.size=w3.heap.size:=setsz _ _ _
 obtain ⟨v5,w5,hrun5,hown5,hg5⟩:=app_at el_ent (own_made (e:=35) (α:=Entry) (w3.setCell ⟨w.heap.size,2,none⟩ (.slice A3 c.base.length n3)) w3.heap.size (by omega)) ((h2.ext hE4).alloc (.cells #[] 35)) (by simp;omega) (by rw [alloc_sz];omega)
 have hs5:=hg5.size
 rw [alloc_sz,hs4] at hs5
 have hE5:=ext_grown (hE4.alloc (by omega) (.cells #[] 35)) hg5 (by rw [alloc_sz];omega) (fun k hk=>by simp only [Value.ownBlock,Option.some.injEq] at hk;omega)
 have hx5:=(hg5.block w.heap.size (by rw [alloc_sz];omega) (fun e=>by simp only [Value.ownBlock,Option.some.injEq] at e;omega)).trans ((Below.heap_alloc _ (.cells #[] 35) w.heap.size (by omega)).trans (set_at hx3))
 have hy5:=(hg5.block (w.heap.size+1) (by rw [alloc_sz];omega) (fun e=>by simp only [Value.ownBlock,Option.some.injEq] at e;omega)).trans ((Below.heap_alloc _ (.cells #[] 35) (w.heap.size+1) (by omega)).trans ((setx (by omega)).trans hy3))
 have ho3:=hown3.of_blocks (w':=w5) (fun k hk hkl=>(hg5.block k (by rw [alloc_sz];omega) (fun e=>by simp only [Value.ownBlock,Option.some.injEq] at e;omega)).trans ((Below.heap_alloc _ (.cells #[] 35) k (by omega)).trans (setx (by omega))))
 rw [List.nil_append] at hown5
 obtain ⟨A5,n5,rfl,hr5⟩:=hown5.rd
 have HO5:=Lib.hid hown5;have HE5:=Lib.hid hE5;have HY5:=Lib.hid hy5;have HO3b:=Lib.hid ho3
 rw [hs4] at hrun5
 have hx5':w5.heap[w.heap.size]?=some (.cells (cC c A3 n3 A2 n2) 26 (0,0)):=hx5
 obtain ⟨d0,d1,d2,d3,d4,d5,df⟩:=six_cells hx5'
 obtain ⟨e0,e1,e2,e3,e4,e5,ef⟩:=six_cells hy5
 clear h1 h2 hX hE0 hs0 hown3 hr3 hg3 hE3 hx3 hy3 hE4 hs4 hown5 hg5 hE5 hx5 hy5 ho3 hr5 hx5'
 go_enter Tryz.func33,Tryz.ntmps33
 go_wp2_with (at_builtin;first | refine wpList_append_run rfl _ _ _ rfl rfl rfl hrun ?_ | refine wpList_append_run rfl _ _ _ rfl rfl rfl hrun5 ?_)
 have hz:=set_at (v:=.int .i64 c.made) (i:=5) (set_at (v:=.int .i64 c.done) (i:=4) (set_at (v:=.slice A5 c.wait.length n5) (i:=3) (set_at (v:=.slice A3 c.base.length n3) (i:=2) (set_at (v:=.int .i64 c.seen) (i:=1) (set_at (v:=.int .i64 c.who) (i:=0) ((setx (o:=3) (v:=.slice A5 c.wait.length n5) (b:=w.heap.size) (by omega)).trans HY5.out))))))
 obtain ⟨k0,k1,k2,k3,k4,k5,kf⟩:=six_cells (v0:=.int .i64 c.who) (v1:=.int .i64 c.seen) (v2:=.slice A3 c.base.length n3) (v3:=.slice A5 c.wait.length n5) (v4:=.int .i64 c.done) (v5:=.int .i64 c.made) hz
 refine bodyPost_ret (v:=.agg (cC c A3 n3 A5 n5)) ?_ rfl ?_
 ·simp [results,Tryz.f33,go_sem,k0,k1,k2,k3,k4,k5]
 ·have hfar:∀ k,w.heap.size+2≤k→(((((((w5.setCell ⟨w.heap.size,3,none⟩ (.slice A5 c.wait.length n5)).setCell ⟨w.heap.size+1,0,none⟩ (.int .i64 c.who)).setCell ⟨w.heap.size+1,1,none⟩ (.int .i64 c.seen)).setCell ⟨w.heap.size+1,2,none⟩ (.slice A3 c.base.length n3)).setCell ⟨w.heap.size+1,3,none⟩ (.slice A5 c.wait.length n5)).setCell ⟨w.heap.size+1,4,none⟩ (.int .i64 c.done)).setCell ⟨w.heap.size+1,5,none⟩ (.int .i64 c.made)).heap[k]?=w5.heap[k]?:=fun k hk=>
   (setx (by omega)).trans ((setx (by omega)).trans ((setx (by omega)).trans ((setx (by omega)).trans ((setx (by omega)).trans ((setx (by omega)).trans (setx (by omega)))))))
  have r1:=(HO3b.out.of_blocks (w':=_) (fun k hk hkl=>hfar k (by omega))).lower (base':=w.heap.size) (by omega)
  have r2:=(HO5.out.of_blocks (w':=_) (fun k hk hkl=>hfar k (by omega))).lower (base':=w.heap.size) (by omega)
  refine ⟨_,rfl,⟨_,_,_,_,rfl,r1,r2⟩,?_⟩
  exact (((((((HE5.out.setCell (Nat.le_refl _) _).setCell (Nat.le_succ _) _).setCell (Nat.le_succ _) _).setCell (Nat.le_succ _) _).setCell (Nat.le_succ _) _).setCell (Nat.le_succ _) _).setCell (Nat.le_succ _) _)
open Go.RowKit
theorem clientHear_c (c:Client) (v:Value) (frm:Int) (A:Option Addr) (cap:Nat) (l:List Entry) (w:World) (ht:Tab w) (h:CV w c v) (hr:Rd w A cap l) :
  Calls Tryz.prog 18 #[v,.int .i64 frm,.slice A l.length cap] w fun r w'=>∃ v',r=.returned (.tuple #[v',.bool (clientHear c frm l).2])∧CO w' w.heap.size (clientHear c frm l).1 v'∧Ext w w':=by
 by_cases hb:clientOk c=false∨frm<0∨40<frm
 ·exact clientHear_bad c v frm A cap l w ht h hr hb
 ·have hok:clientOk c=true:=by
   cases h9:clientOk c
   ·exact absurd (.inl h9) hb
   ·rfl
  have h0:¬frm<0:=fun e=>hb (.inr (.inl e))
  have h1:¬40<frm:=fun e=>hb (.inr (.inr e))
  cases hall:l.all entryOk
  ·exact clientHear_entry c v frm A cap l w ht h hr hok h0 h1 hall
  ·have hall':∀ x∈l,entryOk x=true:=List.all_eq_true.1 hall
   by_cases hf:c.seen<frm∨40 - frm<l.length
   ·exact clientHear_far c v frm A cap l w ht h hr hok h0 h1 hall' hf
   ·exact clientHear_go c v frm A cap l w ht h hr hok h0 h1 hall' (fun e=>hf (.inl e)) (fun e=>hf (.inr e))
open Go.RowKit Go.Lib
def hearS (c:Client) (frm:Int) (l:List Entry):Client × Bool:=
 if c.seen<frm∨40 - frm<l.length then (c,false)
 else match hearL c.who (l.drop (c.seen - frm).toNat) c.wait c.base c.done c.seen with
  |none=>(c,false)
  |some (q,t,d,n)=>(⟨c.who,n,t,q,d,c.made⟩,true)
def RdT {α:Type} [Flat α] (e:TypeId) (w:World) (A:Option Addr) (c:Nat) (l:List α):Prop:=Rd w A c l∧(0<l.length→∀ bb off,A=some ⟨bb,off,none⟩→∃ cs m,w.heap[bb]?=some (.cells cs e m))
section
variable {α:Type} [Flat α] {e:TypeId} {w w':World} {A:Option Addr} {c:Nat} {l:List α}
theorem RdT.ext (h:RdT e w A c l) (hb:Ext w w'):RdT e w' A c l:=by
 refine ⟨h.1.ext hb,fun h0 bb off e0=>?_⟩
 obtain ⟨cs,m,h1⟩:=h.2 h0 bb off e0
 exact ⟨cs,m,(hb.block bb (blk_lt h1)).trans h1⟩
theorem RdT.far {b:Nat} {cs:Array Value} {ty:TypeId} {m:Nat × Nat} (h:RdT e w A c l) (hb:w.heap[b]?=some (.cells cs ty m)) (hne:ty≠e) (h0:0<l.length) (bb off:Nat) (e0:A=some ⟨bb,off,none⟩):bb≠b:=by
 obtain ⟨cs',m',h1⟩:=h.2 h0 bb off e0
 rintro rfl
 rw [hb] at h1
 injection h1 with h1;injection h1 with _ h1
 exact hne h1
theorem RdT.set {b:Nat} {cs:Array Value} {ty:TypeId} {m:Nat × Nat} (h:RdT e w A c l) (hb:w.heap[b]?=some (.cells cs ty m)) (hne:ty≠e) (i:Nat) (v:Value):RdT e (w.setCell ⟨b,i,none⟩ v) A c l:=by
 refine ⟨⟨h.1.1,h.1.2.1,fun h0=>?_,h.1.2.2.2⟩,fun h0 bb off e0=>?_⟩
 ·obtain ⟨bb,off,rfl,hh⟩:=h.1.2.2.1 h0
  have:=h.far hb hne h0 bb off rfl
  exact ⟨bb,off,rfl,fun j v hv=>(World.cell?_of_block (setx (by show bb≠b;exact this))).trans (hh j v hv)⟩
 ·obtain ⟨cs',m',h1⟩:=h.2 h0 bb off e0
  exact ⟨cs',m',(setx (h.far hb hne h0 bb off e0)).trans h1⟩
theorem RdT.put6 {b:Nat} {a0 a1 a2 a3 a4 a5:Value} {ty:TypeId} (h:RdT e w A c l) (hb:w.heap[b]?=some (.cells #[a0,a1,a2,a3,a4,a5] ty (0,0))) (hne:ty≠e) (v0 v1 v2 v3 v4 v5:Value):RdT e (Proofs.YtecmcjfdaipfcaaGreatDoor.put6 w b v0 v1 v2 v3 v4 v5) A c l:=
 (((((h.set hb hne _ _).set (set_at hb) hne _ _).set (set_at (set_at hb)) hne _ _).set (set_at (set_at (set_at hb))) hne _ _).set (set_at (set_at (set_at (set_at hb)))) hne _ _).set (set_at (set_at (set_at (set_at (set_at hb))))) hne _ _
theorem RdT.nil (e:TypeId) (w:World):RdT e w none 0 ([]:List α):=⟨Rd.nil w,fun h=>by simp at h⟩
theorem RdT.tail (h:RdT e w A c l):RdT e w (fromA A c 1 (Flat.sz α)) (c - 1) (l.drop 1):=by
 by_cases hl:1≤l.length
 ·refine ⟨h.1.from_ 1 hl,fun h0 bb off e0=>?_⟩
  rw [List.length_drop] at h0
  obtain ⟨b',off',rfl,_⟩:=h.1.2.2.1 (by omega)
  have h2:=h.2 (by omega) b' off' rfl
  have hbb:bb=b':=by
   unfold fromA at e0
   split at e0
   ·injection e0 with e0;injection e0 with e1 _;exact e1.symm
   ·simp only [Option.map_some,Option.some.injEq] at e0
    unfold Addr.add at e0
    split at e0
    ·injection e0 with e1 _;exact e1.symm
    ·injection e0 with e1 _;exact e1.symm
  rw [hbb];exact h2
 ·have h0:l=[]:=by cases l with
   |nil=>rfl
   |cons x l=>simp at hl
  subst h0
  refine ⟨⟨by simp,by have:=h.1.2.1;omega,fun h0=>by simp at h0,by simp⟩,fun h0=>by simp at h0⟩
end
theorem Own.rdT {α:Type} [Flat α] {e:TypeId} {base:Nat} {w:World} {A:Option Addr} {c n:Nat} {l:List α} (h:Own e w base (.slice A n c) l):RdT e w A c l:=by
 obtain ⟨A',c',e',hr⟩:=h.rd
 simp only [Value.slice.injEq] at e'
 obtain ⟨rfl,-,rfl⟩:=e'
 refine ⟨hr,fun h0 bb off e0=>?_⟩
 subst e0
 rcases h.1.2 with ⟨h9,_⟩ | ⟨g,cap,cur,h9,_,hh,_⟩
 ·cases h9
 ·simp only [Value.slice.injEq,Option.some.injEq,Addr.mk.injEq] at h9
  obtain ⟨⟨rfl,_⟩,_⟩:=h9
  exact ⟨cur,_,hh⟩
def CT (w:World) (c:Client) (v:Value):Prop:=
 ∃ A1 n1 A2 n2,v=.agg #[.int .i64 c.who,.int .i64 c.seen,.slice A1 c.base.length n1,.slice A2 c.wait.length n2,.int .i64 c.done,.int .i64 c.made]∧RdT 46 w A1 n1 c.base∧RdT 35 w A2 n2 c.wait
theorem CT.cv {w:World} {c:Client} {v:Value} (h:CT w c v):CV w c v:=by
 obtain ⟨A1,n1,A2,n2,rfl,h1,h2⟩:=h
 exact ⟨A1,n1,A2,n2,rfl,h1.1,h2.1⟩
theorem CT.ext {w w':World} {c:Client} {v:Value} (h:CT w c v) (hb:Ext w w'):CT w' c v:=by
 obtain ⟨A1,n1,A2,n2,rfl,h1,h2⟩:=h
 exact ⟨A1,n1,A2,n2,rfl,h1.ext hb,h2.ext hb⟩
theorem CO.ct {w:World} {base:Nat} {c:Client} {v:Value} (h:CO w base c v):CT w c v:=by
 obtain ⟨A1,n1,A2,n2,rfl,h1,h2⟩:=h
 exact ⟨_,_,_,_,rfl,h1.rdT,h2.rdT⟩
def Sh (b:Nat) (W0 W:World) (c:Client) (B:Option Addr) (cb:Nat) (t:List Row) (Q:Option Addr) (cq:Nat) (q:List Entry) (d n:Int):Prop:=
 W.heap[b]?=some (.cells #[.int .i64 c.who,.int .i64 n,.slice B t.length cb,.slice Q q.length cq,.int .i64 d,.int .i64 c.made] 26 (0,0))∧RdT 46 W B cb t∧RdT 35 W Q cq q∧Below b W0 W
set_option maxRecDepth 100000 in
set_option maxHeartbeats 1000000 in
theorem hear_s (c:Client) (v:Value) (frm:Int) (A:Option Addr) (cap:Nat) (l:List Entry) (w:World) (h:CT w c v) (hr:Rd w A cap l) (hok:clientOk c=true) (hf0:0≤frm) (hf1:frm≤40) (hall:∀ x∈l,entryOk x=true) (hll:l.length≤2000000) :
  Calls Tryz.prog 162 #[v,.int .i64 frm,.slice A l.length cap] w fun r w'=>∃ v',r=.returned (.tuple #[v',.bool (hearS c frm l).2])∧CT w' (hearS c frm l).1 v'∧Ext w w':=by
 have HALL:=Lib.hid hall
 obtain ⟨hw9,hs0,hs40,htr,hd0,hd1,hwl,hm0,hm1,hwt⟩:=clientOk_parts hok
 have HTR:=Lib.hid htr
 obtain ⟨A1,n1,A2,n2,rfl,h1,h2⟩:=h
 have hX:=two_new w (oC c A1 n1 A2 n2) oC0
 have hE0:Ext w ((w.alloc (oC c A1 n1 A2 n2)).alloc oC0):=((Below.refl _ w).alloc (Nat.le_refl _) _).alloc (by rw [alloc_sz];omega) _
 have hz0:((w.alloc (oC c A1 n1 A2 n2)).alloc oC0).heap.size=w.heap.size+2:=by rw [alloc_sz,alloc_sz]
 have HR:=Lib.hid hr;have H1:=Lib.hid h1;have H2:=Lib.hid h2
 clear hw9 htr hm0 hm1 hwt hok hall
 by_cases hfar:c.seen<frm∨40 - frm<l.length
 ·have HRES:Hid (hearS c frm l=(c,false)):=by show _=_;unfold hearS;rw [if_pos hfar]
  have hz:=(two_new w (oC c A1 n1 A2 n2) (oC c A1 n1 A2 n2)).2
  have hE:Ext w ((w.alloc (oC c A1 n1 A2 n2)).alloc (oC c A1 n1 A2 n2)):=((Below.refl _ w).alloc (Nat.le_refl _) _).alloc (by rw [alloc_sz];omega) _
  have hcv:CT ((w.alloc (oC c A1 n1 A2 n2)).alloc (oC c A1 n1 A2 n2)) c (.agg (cC c A1 n1 A2 n2)):=⟨A1,n1,A2,n2,rfl,h1.ext hE,h2.ext hE⟩
  have HZ:=Lib.hid hz;have HE:=Lib.hid hE;have HCV:=Lib.hid hcv
  clear hX hE0 hz hE h1 h2 hr hcv
  by_cases hs:c.seen<frm
  ·clear hfar
   go_enter Tryz.func162,Tryz.ntmps162
   go_wp2_with fail
   obtain ⟨k0,k1,k2,k3,k4,k5,kf⟩:=six_cells HZ.out
   refine bodyPost_ret (v:=.tuple #[(.agg (cC c A1 n1 A2 n2)),.bool false]) ?_ rfl ?_
   ·simp [results,Tryz.f162,go_sem,k0,k1,k2,k3,k4,k5]
   ·exact ⟨_,by rw [HRES.out],by rw [HRES.out];exact HCV.out,HE.out⟩
  ·have hlong:(40:Int)<frm+l.length:=by omega
   clear hfar
   go_enter Tryz.func162,Tryz.ntmps162
   go_wp2_with fail
   obtain ⟨k0,k1,k2,k3,k4,k5,kf⟩:=six_cells HZ.out
   refine bodyPost_ret (v:=.tuple #[(.agg (cC c A1 n1 A2 n2)),.bool false]) ?_ rfl ?_
   ·simp [results,Tryz.f162,go_sem,k0,k1,k2,k3,k4,k5]
   ·exact ⟨_,by rw [HRES.out],by rw [HRES.out];exact HCV.out,HE.out⟩
 ·have hn1:¬c.seen<frm:=fun e=>hfar (.inl e)
  have hn2:¬(40:Int)<frm+l.length:=fun e=>hfar (.inr (by omega))
  obtain ⟨k0,hk0⟩:∃ k0:Nat,k0=(c.seen - frm).toNat:=⟨_,rfl⟩
  have hk1:frm+(k0:Int)=c.seen:=by omega
  have hmax:max (c.seen - frm) 0=(k0:Int):=by omega
  have hres:hearS c frm l=(match hearL c.who (l.drop k0) c.wait c.base c.done c.seen with | none=>(c,false) | some (q,t,d,n)=>(⟨c.who,n,t,q,d,c.made⟩,true)):=by
   unfold hearS;rw [if_neg hfar,hk0]
  have HRES:=Lib.hid hres
  obtain ⟨c0,c1,c2,c3,c4,c5,cf⟩:=six_cells hX.1
  have h3:=three_all w (oC c A1 n1 A2 n2) oC0 (oC c A1 n1 A2 n2)
  have hE3:Ext w (((w.alloc (oC c A1 n1 A2 n2)).alloc oC0).alloc (oC c A1 n1 A2 n2)):=hE0.alloc (by omega) _
  have hz3:(((w.alloc (oC c A1 n1 A2 n2)).alloc oC0).alloc (oC c A1 n1 A2 n2)).heap.size=w.heap.size+3:=by rw [alloc_sz,hz0]
  have hst:Sh (w.heap.size+1+1) (((w.alloc (oC c A1 n1 A2 n2)).alloc oC0).alloc (oC c A1 n1 A2 n2)) (((w.alloc (oC c A1 n1 A2 n2)).alloc oC0).alloc (oC c A1 n1 A2 n2)) c A1 n1 c.base A2 n2 c.wait c.done c.seen:=⟨h3.2.2,h1.ext hE3,h2.ext hE3,Below.refl _ _⟩
  have HST:=Lib.hid hst;have HE3:=Lib.hid hE3;have H31:=Lib.hid h3.1;have H32:=Lib.hid h3.2.1
  clear hX hE0 h1 h2 hr hres hfar hk0 h3 hE3 hst hz0
  go_enter Tryz.func162,Tryz.ntmps162
  go_wp2_with fail
  clear c0 c1 c2 c3 c4 c5 cf
  generalize (((w.alloc (oC c A1 n1 A2 n2)).alloc oC0).alloc (oC c A1 n1 A2 n2))=W3 at *
  have hne9:∀ W6:World,Below (w.heap.size+1+1) W3 W6→(put6 W6 (w.heap.size+1) (.int .i64 c.who) (.int .i64 c.seen) (.slice A1 c.base.length n1) (.slice A2 c.wait.length n2) (.int .i64 c.done) (.int .i64 c.made)).heap[w.heap.size+1]?=some (.cells (cC c A1 n1 A2 n2) 26 (0,0)) ∧
    CT (put6 W6 (w.heap.size+1) (.int .i64 c.who) (.int .i64 c.seen) (.slice A1 c.base.length n1) (.slice A2 c.wait.length n2) (.int .i64 c.done) (.int .i64 c.made)) c (.agg (cC c A1 n1 A2 n2))∧Ext w (put6 W6 (w.heap.size+1) (.int .i64 c.who) (.int .i64 c.seen) (.slice A1 c.base.length n1) (.slice A2 c.wait.length n2) (.int .i64 c.done) (.int .i64 c.made)):=fun W6 h6=>by
   have hE:Ext w (put6 W6 (w.heap.size+1) (.int .i64 c.who) (.int .i64 c.seen) (.slice A1 c.base.length n1) (.slice A2 c.wait.length n2) (.int .i64 c.done) (.int .i64 c.made)):=put6_below _ _ _ _ _ _ (HE3.out.trans (h6.mono (by omega))) (Nat.le_succ _)
   exact ⟨put6_at _ _ _ _ _ _ ((h6.block (w.heap.size+1) (by omega)).trans H32.out),⟨A1,n1,A2,n2,rfl,H1.out.ext hE,H2.out.ext hE⟩,hE⟩
  have HNE:=Lib.hid hne9
  clear hne9
  go_loopg [9] (l.length - k0) (fun gk i wr=>∃ (k:Nat) (B:Option Addr) (cb:Nat) (t:List Row) (Q:Option Addr) (cq:Nat) (q:List Entry) (d:Int),k0≤k∧(k≤l.length∨k=k0)∧Hid (gk=l.length - k)∧i=.int .i64 k∧Hid (Sh (w.heap.size+1+1) W3 wr c B cb t Q cq q d (frm+k))∧Hid (treeOk t=true)∧Hid (hearL c.who (l.drop k) q t d (frm+k)=hearL c.who (l.drop k0) c.wait c.base c.done c.seen)∧0≤d∧d≤c.done+k)
  case atStart=>exact ⟨k0,A1,n1,c.base,A2,n2,c.wait,c.done,Nat.le_refl _,.inr rfl,rfl,rfl,by show Sh _ _ _ _ _ _ _ _ _ _ _ _;rw [hk1];exact HST.out,HTR.out,by show _=_;rw [hk1],hd0,by omega⟩
  case round=>
   obtain ⟨k,B,cb,t,Q,cq,q,d,hk,hkl,HK,rfl,HS,HT,HH,hd2,hd3⟩:=hrel
   have hbW:=HS.out.2.2.2
   have hEr:Ext w wr:=HE3.out.trans (hbW.mono (by omega))
   have hbx:=(hbW.block w.heap.size (by omega)).trans H31.out
   have hby:=(hbW.block (w.heap.size+1) (by omega)).trans H32.out
   have hlt2:=blk_lt HS.out.1
   have hltb:=blk_lt hbx
   have HER:=Lib.hid hEr;have HBX:=Lib.hid hbx;have HBY:=Lib.hid hby;have HBW:=Lib.hid hbW
   clear hbW hEr
   by_cases hlt:k<l.length
   ·obtain ⟨b,off,rfl,hbl,e0,e1,e2,e3,e4,e5,e6⟩:=ent_at (HR.out.ext HER.out) k hlt
    obtain ⟨c0,c1,c2,c3,c4,c5,cf⟩:=six_cells hbx
    obtain ⟨x0,x1,x2,x3,x4,x5,xf⟩:=six_cells HS.out.1
    have hHH:=HH.out
    rw [List.drop_eq_getElem_cons hlt] at hHH
    have HHH:=Lib.hid hHH
    have hli:(k:Int)<l.length:=by omega
    have hek:=HALL.out _ (List.getElem_mem hlt)
    have HEK:=Lib.hid hek
    have hoe:=HR.out.okAt k hlt
    have HOE:=Lib.hid hoe
    have hfl:(frm+(k:Int))<40:=by omega
    have hcx:(frm+(k:Int))+1=frm+((k+1:Nat):Int):=by omega
    have HCX:=Lib.hid hcx
    clear hbx hby hHH hek hoe hcx
    by_cases hwho:l[k].who=c.who
    ·have hwho':(l[k].who == c.who)=true:=by simp [hwho]
     have HWHO:=Lib.hid hwho
     clear hwho
     cases q with
     |nil=>
      have hnone:hearL c.who (l.drop k0) c.wait c.base c.done c.seen=none:=by rw [←HHH.out];simp [hearL,HWHO.out]
      have HNONE:=Lib.hid hnone
      simp only [List.length_nil] at x3
      clear hnone
      go_wp2_with fail
      go_region
      go_wp2_with fail
      go_region
      obtain ⟨d0,d1,d2,d3,d4,d5,df⟩:=six_cells HBY.out
      go_wp2_with fail
      obtain ⟨hz,hco,hE⟩:=HNE.out wr HBW.out
      obtain ⟨k0',k1,k2,k3,k4,k5,kf⟩:=six_cells hz
      refine bodyPost_ret (v:=.tuple #[(.agg (cC c A1 n1 A2 n2)),.bool false]) ?_ rfl ?_
      ·simp [results,Tryz.f162,go_sem,k0',k1,k2,k3,k4,k5]
      ·have hr9:hearS c frm l=(c,false):=by rw [HRES.out,HNONE.out]
       exact ⟨_,by rw [hr9],by rw [hr9];exact hco.ext ((Below.refl _ _).drew.drew),Below.drew (Below.drew hE)⟩
     |cons y q=>
      obtain ⟨b2,off2,rfl,hbl2,q0,q1,q2,q3,q4,q5,q6⟩:=ent_at HS.out.2.2.1.1 0 (by simp)
      simp only [Nat.zero_mul,Nat.add_zero,List.getElem_cons_zero] at q0 q1 q2 q3 q4 q5 q6
      simp only [List.length_cons] at x3
      have hqc:=HS.out.2.2.1.1.1
      have hqm:=HS.out.2.2.1.1.2.1
      unfold maxLen at hqm
      simp only [List.length_cons] at hqc
      have hsz0:(((q.length:Int)+1) == 0)=false:=by rw [beq_eq_false_iff_ne];omega
      have hne:=neq_ent y l[k]
      by_cases hy:y=l[k]
      ·rw [decide_eq_true hy] at hne
       have hnext:hearL c.who (l.drop (k+1)) q (opDo t l[k].op) (d+1) (frm+((k+1:Nat):Int))=hearL c.who (l.drop k0) c.wait c.base c.done c.seen:=by rw [←HHH.out,←HCX.out];simp [hearL,HWHO.out,hy]
       have HNX:=Lib.hid hnext
       have hsl:∀ W:World,(Instr.slice 24 (.slice (some ⟨b2,off2,none⟩) (q.length+1) cq) (some (.int .i64 1)) none none).run Tryz.prog W=.ok (.slice (fromA (some ⟨b2,off2,none⟩) cq 1 7) q.length (cq - 1)) W:=fun W=>run_from (some ⟨b2,off2,none⟩) (q.length+1) cq 1 (by omega) W
       have hRQ:=HS.out.2.2.1.tail
       clear hnext hy
       have hRQ2:RdT 35 wr (fromA (some ⟨b2,off2,none⟩) cq 1 7) (cq - 1) q:=hRQ
       clear hRQ
       generalize fromA (some ⟨b2,off2,none⟩) cq 1 7=Q2 at hsl hRQ2
       have hRQ:=hRQ2
       clear hRQ2
       go_wp2_with fail
       go_region
       go_wp2_with fail
       go_region
       go_upto_region 12 with fail
       have hS2:Sh (w.heap.size+1+1) W3 ((wr.setCell ⟨w.heap.size+1+1,3,none⟩ (.slice Q2 q.length (cq - 1))).setCell ⟨w.heap.size+1+1,4,none⟩ (.int .i64 (d+1))).drew.drew c B cb t Q2 (cq - 1) q (d+1) (frm+k):=⟨set_at (set_at HS.out.1),((HS.out.2.1.set HS.out.1 (by decide) _ _).set (set_at HS.out.1) (by decide) _ _).ext ((Below.refl _ _).drew.drew),((hRQ.set HS.out.1 (by decide) _ _).set (set_at HS.out.1) (by decide) _ _).ext ((Below.refl _ _).drew.drew),((HBW.out.setCell (Nat.le_refl _) _).setCell (Nat.le_refl _) _).drew.drew⟩
       have hE2:Ext w ((wr.setCell ⟨w.heap.size+1+1,3,none⟩ (.slice Q2 q.length (cq - 1))).setCell ⟨w.heap.size+1+1,4,none⟩ (.int .i64 (d+1))).drew.drew:=HE3.out.trans (hS2.2.2.2.mono (by omega))
       have hT:=HT.out
       have hop:=entryOk_op HEK.out
       have hod:opDo t l[k].op=doL t l[k].op:=by unfold opDo;rw [hT,hop];rfl
       have htn:treeOk (opDo t l[k].op)=true:=by rw [hod];exact treeOk_do t _ hT hop
       clear e0 e1 e2 e3 e4 e5 e6 x0 x1 x2 x3 x4 x5 xf c0 c1 c2 c3 c4 c5 cf hsl hne q0 q1 q2 q3 q4 q5 q6
       generalize ((wr.setCell ⟨w.heap.size+1+1,3,none⟩ (.slice Q2 q.length (cq - 1))).setCell ⟨w.heap.size+1+1,4,none⟩ (.int .i64 (d+1))).drew.drew=wt at *
       have hC:=do_s B cb t l[k].op wt.drew (hS2.2.1.1.ext ((Below.refl _ _).drew)) hT hop HOE.out
       rw [←hod] at hC
       obtain ⟨b9,off9,e9,hbl9,e0,e1,e2,e3,e4,e5,e6⟩:=ent_at (HR.out.ext hE2) k hlt
       injection e9 with e9;injection e9 with e91 e92;subst e91;subst e92
       obtain ⟨x0,x1,x2,x3,x4,x5,xf⟩:=six_cells hS2.1
       have hltx:=blk_lt hS2.1
       have hfin:∀ (w5:World) (B2:Option Addr) (cb2:Nat),Own 46 w5 wt.drew.heap.size (.slice B2 (opDo t l[k].op).length cb2) (opDo t l[k].op)→Ext wt.drew w5→Sh (w.heap.size+1+1) W3 (w5.setCell ⟨w.heap.size+1+1,2,none⟩ (.slice B2 (opDo t l[k].op).length cb2)) c B2 cb2 (opDo t l[k].op) Q2 (cq - 1) q (d+1) (frm+k):=fun w5 B2 cb2 ho5 hb5=>by
        have hx:Ext wt w5:=((Below.refl _ _).drew).trans hb5
        exact ⟨set_at ((hx.block _ hltx).trans hS2.1),ho5.rdT.set ((hx.block _ hltx).trans hS2.1) (by decide) _ _,(hS2.2.2.1.ext hx).set ((hx.block _ hltx).trans hS2.1) (by decide) _ _,(hS2.2.2.2.trans (hx.mono (Nat.le_of_lt hltx))).setCell (Nat.le_refl _) _⟩
       have HFIN:=Lib.hid hfin;have HC:=Lib.hid hC;have HS2:=Lib.hid hS2;have HTN:=Lib.hid htn;have HX2:=Lib.hid hS2.1
       clear hfin hC hS2 hE2 hT hop hod htn
       go_cut [73] (fun s wx=>∃ (B2:Option Addr) (cb2:Nat),s=.slice B2 (opDo t l[k].op).length cb2∧Hid (Sh (w.heap.size+1+1) W3 wx c B2 cb2 (opDo t l[k].op) Q2 (cq - 1) q (d+1) (frm+k)))
       case first=>
        go_region_with (go_at_call 74;refine HC.out.mono ?_;rintro e w5 ⟨v5,rfl,ho5,hb5⟩;obtain ⟨B2,cb2,rfl,-⟩:=ho5.rd;have hx5:=(hb5.block _ hltx).trans HX2.out;obtain ⟨z0,z1,z2,z3,z4,z5,zf⟩:=six_cells hx5;have HO5:=Lib.hid ho5;have HB5:=Lib.hid hb5;clear ho5 hb5 hx5 z0 z1 z3 z4 z5)
        all_goals
         go_wp2_with fail
         go_meet
         exact ⟨_,_,rfl,HFIN.out _ _ _ HO5.out HB5.out⟩
       case rest=>
        obtain ⟨B2,cb2,rfl,HS9⟩:=hcut
        clear e0 e1 e2 e3 e4 e5 e6 x0 x1 x2 x3 x4 x5 xf
        obtain ⟨x0,x1,x2,x3,x4,x5,xf⟩:=six_cells HS9.out.1
        go_wp2_with fail
        go_roundg (l.length - (k+1))
        case measure=>have:=HK.out;omega
        case rel=>
         refine ⟨k+1,B2,cb2,opDo t l[k].op,Q2,(cq - 1),q,(d+1),by omega,.inl (by omega),rfl,by go_num,?_,HTN.out,HNX.out,by omega,by omega⟩
         show Sh _ _ _ _ _ _ _ _ _ _ _ _
         rw [←HCX.out]
         exact ⟨set_at HS9.out.1,HS9.out.2.1.set HS9.out.1 (by decide) _ _,HS9.out.2.2.1.set HS9.out.1 (by decide) _ _,HS9.out.2.2.2.setCell (Nat.le_refl _) _⟩
      ·rw [decide_eq_false hy] at hne
       have hnone:hearL c.who (l.drop k0) c.wait c.base c.done c.seen=none:=by rw [←HHH.out];simp [hearL,HWHO.out,hy]
       have HNONE:=Lib.hid hnone
       clear hnone hy
       go_wp2_with fail
       go_region
       go_wp2_with fail
       go_region
       obtain ⟨d0,d1,d2,d3,d4,d5,df⟩:=six_cells HBY.out
       go_wp2_with fail
       obtain ⟨hz,hco,hE⟩:=HNE.out wr HBW.out
       obtain ⟨k0',k1,k2,k3,k4,k5,kf⟩:=six_cells hz
       refine bodyPost_ret (v:=.tuple #[(.agg (cC c A1 n1 A2 n2)),.bool false]) ?_ rfl ?_
       ·simp [results,Tryz.f162,go_sem,k0',k1,k2,k3,k4,k5]
       ·have hr9:hearS c frm l=(c,false):=by rw [HRES.out,HNONE.out]
        exact ⟨_,by rw [hr9],by rw [hr9];exact hco.ext ((Below.refl _ _).drew.drew),Below.drew (Below.drew hE)⟩
    ·have hwho':(l[k].who == c.who)=false:=by simp [hwho]
     have HWHO:=Lib.hid hwho
     have hnext:hearL c.who (l.drop (k+1)) q (opDo t l[k].op) d (frm+((k+1:Nat):Int))=hearL c.who (l.drop k0) c.wait c.base c.done c.seen:=by rw [←HHH.out,←HCX.out];simp [hearL,hwho]
     have HNX:=Lib.hid hnext
     clear hwho hnext
     go_wp2_with fail
     go_region
     go_upto_region 12 with fail
     have hS2:Sh (w.heap.size+1+1) W3 wr.drew c B cb t Q cq q d (frm+k):=⟨HS.out.1,HS.out.2.1.ext ((Below.refl _ _).drew),HS.out.2.2.1.ext ((Below.refl _ _).drew),HBW.out.drew⟩
     have hE2:Ext w wr.drew:=HE3.out.trans (hS2.2.2.2.mono (by omega))
     have hT:=HT.out
     have hop:=entryOk_op HEK.out
     have hod:opDo t l[k].op=doL t l[k].op:=by unfold opDo;rw [hT,hop];rfl
     have htn:treeOk (opDo t l[k].op)=true:=by rw [hod];exact treeOk_do t _ hT hop
     clear e0 e1 e2 e3 e4 e5 e6 x0 x1 x2 x3 x4 x5 xf c0 c1 c2 c3 c4 c5 cf
     generalize wr.drew=wt at *
     have hC:=do_s B cb t l[k].op wt.drew (hS2.2.1.1.ext ((Below.refl _ _).drew)) hT hop HOE.out
     rw [←hod] at hC
     obtain ⟨b9,off9,e9,hbl9,e0,e1,e2,e3,e4,e5,e6⟩:=ent_at (HR.out.ext hE2) k hlt
     injection e9 with e9;injection e9 with e91 e92;subst e91;subst e92
     obtain ⟨x0,x1,x2,x3,x4,x5,xf⟩:=six_cells hS2.1
     have hltx:=blk_lt hS2.1
     have hfin:∀ (w5:World) (B2:Option Addr) (cb2:Nat),Own 46 w5 wt.drew.heap.size (.slice B2 (opDo t l[k].op).length cb2) (opDo t l[k].op)→Ext wt.drew w5→Sh (w.heap.size+1+1) W3 (w5.setCell ⟨w.heap.size+1+1,2,none⟩ (.slice B2 (opDo t l[k].op).length cb2)) c B2 cb2 (opDo t l[k].op) Q cq q d (frm+k):=fun w5 B2 cb2 ho5 hb5=>by
      have hx:Ext wt w5:=((Below.refl _ _).drew).trans hb5
      exact ⟨set_at ((hx.block _ hltx).trans hS2.1),ho5.rdT.set ((hx.block _ hltx).trans hS2.1) (by decide) _ _,(hS2.2.2.1.ext hx).set ((hx.block _ hltx).trans hS2.1) (by decide) _ _,(hS2.2.2.2.trans (hx.mono (Nat.le_of_lt hltx))).setCell (Nat.le_refl _) _⟩
     have HFIN:=Lib.hid hfin;have HC:=Lib.hid hC;have HS2:=Lib.hid hS2;have HTN:=Lib.hid htn;have HX2:=Lib.hid hS2.1
     clear hfin hC hS2 hE2 hT hop hod htn
     go_cut [73] (fun s wx=>∃ (B2:Option Addr) (cb2:Nat),s=.slice B2 (opDo t l[k].op).length cb2∧Hid (Sh (w.heap.size+1+1) W3 wx c B2 cb2 (opDo t l[k].op) Q cq q d (frm+k)))
     case first=>
      go_region_with (go_at_call 74;refine HC.out.mono ?_;rintro e w5 ⟨v5,rfl,ho5,hb5⟩;obtain ⟨B2,cb2,rfl,-⟩:=ho5.rd;have hx5:=(hb5.block _ hltx).trans HX2.out;obtain ⟨z0,z1,z2,z3,z4,z5,zf⟩:=six_cells hx5;have HO5:=Lib.hid ho5;have HB5:=Lib.hid hb5;clear ho5 hb5 hx5 z0 z1 z3 z4 z5)
      all_goals
       go_wp2_with fail
       go_meet
       exact ⟨_,_,rfl,HFIN.out _ _ _ HO5.out HB5.out⟩
     case rest=>
      obtain ⟨B2,cb2,rfl,HS9⟩:=hcut
      clear e0 e1 e2 e3 e4 e5 e6 x0 x1 x2 x3 x4 x5 xf
      obtain ⟨x0,x1,x2,x3,x4,x5,xf⟩:=six_cells HS9.out.1
      go_wp2_with fail
      go_roundg (l.length - (k+1))
      case measure=>have:=HK.out;omega
      case rel=>
       refine ⟨k+1,B2,cb2,opDo t l[k].op,Q,cq,q,d,by omega,.inl (by omega),rfl,by go_num,?_,HTN.out,HNX.out,by omega,by omega⟩
       show Sh _ _ _ _ _ _ _ _ _ _ _ _
       rw [←HCX.out]
       exact ⟨set_at HS9.out.1,HS9.out.2.1.set HS9.out.1 (by decide) _ _,HS9.out.2.2.1.set HS9.out.1 (by decide) _ _,HS9.out.2.2.2.setCell (Nat.le_refl _) _⟩
   ·have hres:hearS c frm l=(⟨c.who,frm+k,t,q,d,c.made⟩,true):=by
     rw [HRES.out,←HH.out,List.drop_of_length_le (by omega)];rfl
    obtain ⟨x0,x1,x2,x3,x4,x5,xf⟩:=six_cells HS.out.1
    obtain ⟨d0,d1,d2,d3,d4,d5,df⟩:=six_cells hby
    have hz:=put6_at (.int .i64 c.who) (.int .i64 (frm+k)) (.slice B t.length cb) (.slice Q q.length cq) (.int .i64 d) (.int .i64 c.made) hby
    have hE:Ext w (put6 wr (w.heap.size+1) (.int .i64 c.who) (.int .i64 (frm+k)) (.slice B t.length cb) (.slice Q q.length cq) (.int .i64 d) (.int .i64 c.made)):=put6_below _ _ _ _ _ _ HER.out (Nat.le_succ _)
    have hcv:CT (put6 wr (w.heap.size+1) (.int .i64 c.who) (.int .i64 (frm+k)) (.slice B t.length cb) (.slice Q q.length cq) (.int .i64 d) (.int .i64 c.made)) ⟨c.who,frm+k,t,q,d,c.made⟩ (.agg #[.int .i64 c.who,.int .i64 (frm+k),.slice B t.length cb,.slice Q q.length cq,.int .i64 d,.int .i64 c.made]):=⟨B,cb,Q,cq,rfl,HS.out.2.1.put6 hby (by decide) _ _ _ _ _ _,HS.out.2.2.1.put6 hby (by decide) _ _ _ _ _ _⟩
    have HCV:=Lib.hid hcv
    have HZ:=Lib.hid hz;have HE:=Lib.hid hE;have HRS:=Lib.hid hres
    have hli:¬((k:Int)<l.length):=by omega
    clear hbx hby hz hE hres hcv
    go_wp2_with fail
    obtain ⟨k0',k1,k2,k3,k4,k5,kf⟩:=six_cells HZ.out
    refine bodyPost_ret (v:=.tuple #[.agg #[.int .i64 c.who,.int .i64 (frm+k),.slice B t.length cb,.slice Q q.length cq,.int .i64 d,.int .i64 c.made],.bool true]) ?_ rfl ?_
    ·simp [results,Tryz.f162,go_sem,k0',k1,k2,k3,k4,k5]
    ·exact ⟨_,by rw [HRS.out],by rw [HRS.out];exact HCV.out,HE.out⟩
end Go.Proofs.YtecmcjfdaipfcaaGreatDoor
