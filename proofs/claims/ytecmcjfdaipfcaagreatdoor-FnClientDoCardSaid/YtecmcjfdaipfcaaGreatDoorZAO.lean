/- Walks of the reference's draws: the reader is made; entries are drawn. .. Walks of the reference: a new server, somebody new. -/
import Derived.Test.YtecmcjfdaipfcaaGreatDoorZAN
import Derived.Deep.RegionLaw
import Derived.BigRegion
import Derived.Test.YtecmcjfdaipfcaaGreatDoorZAM
import Derived.Test.YtecmcjfdaipfcaaGreatDoorZAL
namespace Go.Proofs.YtecmcjfdaipfcaaGreatDoor
open Go.RowKit
set_option linter.unusedVariables false
set_option maxRecDepth 100000 in
theorem open_d (A:Option Addr) (c:Nat) (bs:List UInt8) (w:World) (hr:Rd w A c bs) (hA:∀ b off,A=some ⟨b,off,none⟩→b<w.heap.size) :
  Calls Tryz.prog 26 #[.slice A bs.length c] w fun e w'=>e=.returned (.pointer (some ⟨w.heap.size,0,none⟩))∧Rdr w' w.heap.size 0∧Ext w w':=by
 have hm:bs.length≤maxLen:=Nat.le_trans hr.1 hr.2.1
 unfold maxLen at hm
 have hcap:=hr.1
 by_cases hl:2000<bs.length
 ·obtain ⟨b,off,rfl,-,-⟩:=byte_at hr 0 (by omega)
  have hl':(2000:Int)<bs.length:=by omega
  have hlen:(bs.take 2000).length=2000:=by rw [List.length_take];omega
  have HF:Hid (Rdr (w.alloc (.cells #[.slice (some ⟨b,off,none⟩) 2000 c,.int .i64 0] 114)) w.heap.size 0∧Ext w (w.alloc (.cells #[.slice (some ⟨b,off,none⟩) 2000 c,.int .i64 0] 114))):=
   ⟨⟨some ⟨b,off,none⟩,c,bs.take 2000,by rw [World.alloc_heap_new,hlen];rfl,(hr.alloc _).take 2000,by omega,hA⟩,(Below.refl _ _).alloc (Nat.le_refl _) _⟩
  clear hr hA hlen
  go_enter Tryz.func26,Tryz.ntmps26
  go_wp2_with fail
  go_ret
  exact ⟨rfl,HF.out⟩
 ·have hl':¬(2000:Int)<bs.length:=by omega
  have HF:Hid (Rdr (w.alloc (.cells #[.slice A bs.length c,.int .i64 0] 114)) w.heap.size 0∧Ext w (w.alloc (.cells #[.slice A bs.length c,.int .i64 0] 114))):=
   ⟨⟨A,c,bs,by rw [World.alloc_heap_new];rfl,hr.alloc _,by omega,hA⟩,(Below.refl _ _).alloc (Nat.le_refl _) _⟩
  clear hr hA
  go_enter Tryz.func26,Tryz.ntmps26
  go_wp2_with fail
  go_ret
  exact ⟨rfl,HF.out⟩
theorem own_new {α:Type} [Flat α] {e:TypeId} (w:World) (l:List α) (cs:Array Value) (base:Nat) (hb:base≤w.heap.size) (h:cs.toList=flat l) (hl:l.length≤1000) (hok:∀ x∈l,Flat.okE x):Own e (w.alloc (.cells cs e)) base (.slice (some ⟨w.heap.size,0,none⟩) l.length l.length) l:=
 ⟨by rw [←h];exact World.ownsRow_lit w cs l.length hb (by unfold maxLen;omega) (by rw [←Array.length_toList,h,flat_length]),hok⟩
theorem Own.off {α:Type} [Flat α] {e:TypeId} {w:World} {base:Nat} {v:Value} {l:List α} (h:Own e w base v l) {r:Nat} (hr:r<base):v.ownBlock=none∨v.ownBlock≠some r:=by
 cases hv:v.ownBlock with
 |none=>exact .inl rfl
 |some k=>exact .inr fun e=>by have:=(h.blk k hv).1;injection e with e;omega
def LSt (w0:World) (r gm m:Nat) (vo vt:Value) (l:List Entry) (tr:List Row) (ms:List Int) (q:Nat) (w:World):Prop:=
 Rdr w r q∧w0.grownBy w (some r)∧Own 35 w w0.heap.size vo l∧Own 46 w w0.heap.size vt tr∧Own 3 w w0.heap.size (.slice (some ⟨gm,0,none⟩) 3 3) ms∧treeOk tr=true∧ms.length=3∧(∀ x∈ms,0≤x∧x+m≤13)∧(∀ e∈l,OpW e.op)∧l.length+m≤13
theorem LSt.grown {w0 w w':World} {r gm m q q':Nat} {vo vt:Value} {l:List Entry} {tr:List Row} {ms:List Int} (hr:r<w0.heap.size) (h:LSt w0 r gm m vo vt l tr ms q w) (hg:w.grownBy w' (some r)) (hR:Rdr w' r q'):LSt w0 r gm m vo vt l tr ms q' w':=by
 obtain ⟨h1,h2,h3,h4,h5,h6⟩:=h
 exact ⟨hR,gtrans h2 hg,h3.grown hg (h3.off hr),h4.grown hg (h4.off hr),h5.grown hg (h5.off hr),h6⟩
theorem LSt.ext {w0 w w':World} {r gm m q:Nat} {vo vt:Value} {l:List Entry} {tr:List Row} {ms:List Int} (h:LSt w0 r gm m vo vt l tr ms q w) (hb:Ext w w'):LSt w0 r gm m vo vt l tr ms q w':=by
 obtain ⟨h1,h2,h3,h4,h5,h6⟩:=h
 exact ⟨h1.ext hb,gtrans h2 (gext hb),h3.below hb,h4.below hb,h5.below hb,h6⟩
theorem own_ty {α:Type} [Flat α] {e:TypeId} {w:World} {base:Nat} {v:Value} {l:List α} (h:Own e w base v l) {b:Nat} (hb:v.ownBlock=some b):∃ cs,w.heap[b]?=some (.cells cs e (0,0)):=by
 rcases h.1.2 with ⟨h9,_⟩ | ⟨g,cap,cur,h9,_,hh,_⟩
 ·rw [h9] at hb;simp [Value.ownBlock] at hb
 ·rw [h9] at hb
  simp only [Value.ownBlock,Option.some.injEq] at hb
  subst hb
  exact ⟨cur,hh⟩
theorem own_own {α β:Type} [Flat α] [Flat β] {e e':TypeId} {w:World} {base base':Nat} {v v':Value} {l:List α} {l':List β} (h:Own e w base v l) (h':Own e' w base' v' l') (hne:e'≠e):v.ownBlock=none∨v.ownBlock≠v'.ownBlock:=by
 cases hv:v'.ownBlock with
 |none=>cases hv2:v.ownBlock with
  |none=>exact .inl rfl
  |some k=>exact .inr (by simp)
 |some b=>
  obtain ⟨cs,hcs⟩:=own_ty h' hv
  exact own_ne h hcs hne
theorem Rdr.row {w w':World} {r p:Nat} (h:Rdr w r p) {row:Option Nat} (hg:w.grownBy w' row) (hb:∀ b,row=some b→r<b):Rdr w' r p:=by
 obtain ⟨A,c,bs,h1,h2,h3,h4⟩:=h
 exact ⟨A,c,bs,(hg.block r (blk_lt h1) (fun e=>by have:=hb r e.symm;omega)).trans h1,h2.grown hg (fun b' off e h=>by have:=h4 b' off e;have:=hb b' h.symm;omega),h3,h4⟩
theorem gmix {w0 w w':World} {r:Nat} (h:w0.grownBy w (some r)) {row:Option Nat} (hg:w.grownBy w' row) (hb:∀ b,row=some b→w0.heap.size≤b):w0.grownBy w' (some r):=
 ⟨hg.os.trans h.os,hg.tape.trans h.tape,hg.output.trans h.output,Nat.le_trans h.size hg.size,fun i hi hne=>(hg.block i (Nat.lt_of_lt_of_le hi h.size) (fun e=>by have:=hb i e.symm;omega)).trans (h.block i hi hne)⟩
theorem LSt.app {w0 w w':World} {r gm m q:Nat} {vo vt vo':Value} {l l':List Entry} {tr:List Row} {ms:List Int} (hr:r<w0.heap.size) (h:LSt w0 r gm m vo vt l tr ms q w) (hg:w.grownBy w' vo.ownBlock) (ho:Own 35 w' w0.heap.size vo' l') (hl:∀ e∈l',OpW e.op) (hn:l'.length+m≤13):LSt w0 r gm m vo' vt l' tr ms q w':=by
 obtain ⟨h1,h2,h3,h4,h5,h6,h7,h8,h9,h10⟩:=h
 have hb:∀ b,vo.ownBlock=some b→w0.heap.size≤b:=fun b e=>(h3.blk b e).1
 exact ⟨h1.row hg (fun b e=>by have:=hb b e;omega),gmix h2 hg hb,ho,h4.grown hg (own_own h4 h3 (by decide)),h5.grown hg (own_own h5 h3 (by decide)),h6,h7,h8,hl,hn⟩
theorem LSt.tree {w0 w:World} {r gm m q:Nat} {vo vt vt':Value} {l:List Entry} {tr tr':List Row} {ms:List Int} (h:LSt w0 r gm m vo vt l tr ms q w) (ho:Own 46 w w0.heap.size vt' tr') (ht:treeOk tr'=true):LSt w0 r gm m vo vt' l tr' ms q w:=by
 obtain ⟨h1,h2,h3,h4,h5,h6,h7⟩:=h
 exact ⟨h1,h2,h3,ho,h5,ht,h7⟩
theorem LSt.less {w0 w:World} {r gm m q:Nat} {vo vt:Value} {l:List Entry} {tr:List Row} {ms:List Int} (h:LSt w0 r gm m vo vt l tr ms q w) {m':Nat} (hm:m'≤m):LSt w0 r gm m' vo vt l tr ms q w:=by
 obtain ⟨h1,h2,h3,h4,h5,h6,h7,h8,h9,h10⟩:=h
 exact ⟨h1,h2,h3,h4,h5,h6,h7,fun x hx=>by have:=h8 x hx;omega,h9,by omega⟩
theorem LSt.made {w0 w:World} {r gm m q:Nat} {vo vt:Value} {l:List Entry} {tr:List Row} {ms:List Int} (hr:r<w0.heap.size) (h:LSt w0 r gm (m+1) vo vt l tr ms q w) (k:Nat) (hk:k<ms.length):LSt w0 r gm m vo vt l tr (ms.set k (ms[k]+1)) q (w.setCell ⟨gm,k,none⟩ (.int .i64 (ms[k]+1))):=by
 obtain ⟨h1,h2,h3,h4,h5,h6,h7,h8,h9,h10⟩:=h
 have h5':Own 3 w w0.heap.size (.slice (some ⟨gm,0,none⟩) ms.length 3) ms:=by rw [h7];exact h5
 obtain ⟨hst,hg⟩:=h5'.store k hk (ms[k]+1) trivial 0 (.int .i64 (ms[k]+1)) (by decide) rfl
 have e1:k*Flat.sz Int+0=k:=Nat.mul_one k
 rw [e1] at hst hg
 rw [h7] at hst
 obtain ⟨cs,hcs⟩:=own_ty h5 (b:=gm) rfl
 have hgm:=(h5.blk gm rfl).1
 have hmem:=h8 ms[k] (List.getElem_mem hk)
 refine ⟨h1.other hg (by omega),gset_new h2 hgm _ _,own_put h3 hcs (by decide) _ _,own_put h4 hcs (by decide) _ _,hst,h6,by rw [List.length_set];exact h7,fun x hx=>?_,h9,by omega⟩
 rcases List.mem_or_eq_of_mem_set hx with hx | hx
 ·have:=h8 x hx;omega
 ·subst hx;omega
def LogP (r p:Nat) (w:World) (e:Ending) (w':World):Prop:=∃ (l:List Entry) (v:Value) (p':Nat),e=.returned v∧Own 35 w' w.heap.size v l∧l.length≤14∧(∀ e∈l,OpW e.op)∧p≤p'∧p'≤p+1000∧Rdr w' r p'∧w.grownBy w' (some r)
theorem OpD.w {who made:Int} {o:Op} (h:OpD who made o):OpW o:=by
 have h1:=h.1
 obtain ⟨hm,hk,-,hp⟩:=T.opOk_kind h1
 rw [isMade_iff] at hm
 have hup:o.kind≠2→idOk o.up=true:=fun hk2=>by
  rcases hk with h | h | h
  ·rw [opOk_1 h] at h1;simp only [Bool.and_eq_true] at h1;exact h1.2.2.1
  ·exact absurd h hk2
  ·rw [opOk_3 h] at h1;simp only [Bool.and_eq_true] at h1;exact h1.2.2.1.1
 by_cases h2:o.kind=2
 ·rw [opOk_2 h2] at h1
  simp only [Bool.and_eq_true,decide_eq_true_eq] at h1
  unfold OpW i64;omega
 ·have hu:=hup h2
  unfold idOk at hu
  rw [Bool.or_eq_true,isRoot_iff,isMade_iff] at hu
  have hp2:=hp h2
  rw [isMade_iff] at hp2
  unfold OpW i64;omega
theorem Sm.w {o:Op} (h:Sm o):OpW o:=by obtain ⟨h1,h2,h3,h4,h5⟩:=h;unfold OpW i64;omega
set_option maxRecDepth 100000 in
set_option maxHeartbeats 4000000 in
theorem log_d (r p:Nat) (w:World) (h:Rdr w r p) (hp:p<999900000) :
  Calls Tryz.prog 116 #[.pointer (some ⟨r,0,none⟩)] w (LogP r p w):=by
 have hrl:=h.lt
 have hea:Ext w (w.alloc (.cells #[] 35)):=(Below.refl _ _).alloc (Nat.le_refl _) _
 have HN:=Lib.hid (new_s (w.alloc (.cells #[] 35)))
 have HO0:Hid (Own 35 (w.alloc (.cells #[] 35)) w.heap.size (.slice (some ⟨w.heap.size,0,none⟩) 0 0) ([]:List Entry)):=own_made w w.heap.size (Nat.le_refl _)
 have HEA:=Lib.hid hea;have HR:=Lib.hid h
 clear h hea
 go_enter Tryz.func116,Tryz.ntmps116
 go_wp2_with fail
 refine HN.out.mono ?_
 rintro e w1 ⟨v1,rfl,hown1,hb1⟩
 have hE1:Ext w w1:=HEA.out.trans (hb1.mono HEA.out.size)
 have hea2:Ext w1 (w1.alloc (.cells #[.int .i64 0,.int .i64 0,.int .i64 0] 3)):=(Below.refl _ _).alloc (Nat.le_refl _) _
 have hL1:LSt w r w1.heap.size 13 (.slice (some ⟨w.heap.size,0,none⟩) 0 0) v1 [] treeNew [0,0,0] p (w1.alloc (.cells #[.int .i64 0,.int .i64 0,.int .i64 0] 3)):=
  ⟨(HR.out.ext hE1).ext hea2,gext (hE1.trans (hea2.mono hE1.size)),(HO0.out.below hb1).below hea2,(hown1.lower HEA.out.size).below hea2,own_new (α:=Int) w1 [0,0,0] _ w.heap.size hE1.size rfl (by simp) (fun _ _=>trivial),treeOk_new,rfl,by intro x hx;simp at hx;omega,by simp,by simp⟩
 have HP:=Lib.hid (pick_c r p 14 _ hL1.1 (by omega) ⟨by omega,by omega⟩)
 have HL1:=Lib.hid hL1
 have hgm:w.heap.size≤w1.heap.size:=hE1.size
 obtain ⟨gm,hgme⟩:∃ gm,gm=w1.heap.size:=⟨_,rfl⟩
 have HGM:=Lib.hid hgme
 rw [←hgme] at hgm HL1
 clear hown1 hb1 hE1 hea2 hL1 HN HR HO0 HEA hgme
 go_wp2_with fail
 rw [←HGM.out]
 refine HP.out.mono ?_
 rintro e w2 ⟨v,rfl,hv0,hv1,-,hr2,hg2⟩
 have hvl:=hv1 (by omega)
 obtain ⟨m0,rfl⟩:∃ k:Nat,v=k:=⟨v.toNat,by omega⟩
 have hL2:=HL1.out.grown hrl hg2 hr2
 have HL2:=Lib.hid hL2
 clear hv1 hr2 hg2 hL2 HL1 HP
 go_wp2_with fail
 go_loopg [3,4,6] m0 (fun gk vo vt n wr=>∃ (m q:Nat) (l:List Entry) (tr:List Row) (ms:List Int),Hid (gk=m)∧n=.int .i64 m∧m≤13∧p≤q∧q+m*40≤p+600∧Hid (LSt w r gm m vo vt l tr ms q wr))
 case atStart=>
  refine ⟨m0,p+1,[],treeNew,[0,0,0],rfl,rfl,by omega,by omega,by omega,?_⟩
  obtain ⟨h1,h2,h3,h4,h5,h6,h7,h8,h9,h10⟩:=HL2.out
  exact ⟨h1,h2,h3,h4,h5,h6,h7,by intro x hx;simp at hx;omega,h9,by simp;omega⟩
 case round=>
  obtain ⟨m,q,l,tr,ms,HK,rfl,hm,hq0,hq1,HL⟩:=hrel
  by_cases hm0:0<m
  ·obtain ⟨m,rfl⟩:∃ k,m=k+1:=⟨m - 1,by omega⟩
   have hLo:=HL.out
   obtain ⟨hR,hg,ho,ht,hms,htr,hml,hmb,hew,hll⟩:=hLo
   obtain ⟨Ao,co,rfl,hro⟩:=ho.rd
   obtain ⟨At,ct,rfl,hrt⟩:=ht.rd
   have HP3:=Lib.hid (pick_c r q 3 wr hR (by omega) ⟨by omega,by omega⟩)
   have hAt:∀ b off,At=some ⟨b,off,none⟩→b≠r:=fun b off e=>by
    have:=(ht.blk b (by rw [e];rfl)).1
    omega
   have HAT:=Lib.hid hAt;have HTR:=Lib.hid htr;have HMB:=Lib.hid hmb;have HML:=Lib.hid hml;have HLL:=Lib.hid hll
   have hmz:(0:Int)<((m+1:Nat):Int):=by omega
   clear hR hg ho ht hms htr hml hmb hew hll hro hrt hAt
   go_wp2_with fail
   refine HP3.out.mono ?_
   rintro e w3 ⟨v,rfl,hv0,hv1,-,hr3,hg3⟩
   have hvl:=hv1 (by omega)
   obtain ⟨k,rfl⟩:∃ k:Nat,v=k:=⟨v.toNat,by omega⟩
   have hL3:=HL.out.grown hrl hg3 hr3
   have HL3:=Lib.hid hL3
   obtain ⟨hR3,hgg3,ho3,ht3,hms3,-⟩:=hL3
   have hk:k<ms.length:=by rw [HML.out];omega
   obtain ⟨A9,c9,e9,hrm⟩:=hms3.rd
   simp only [Value.slice.injEq] at e9
   obtain ⟨rfl,-,rfl⟩:=e9
   have hrm':Rd w3 (some ⟨gm,0,none⟩) 3 ms:=hrm
   obtain ⟨b9,o9,e9,-,x0⟩:=int_at hrm' k hk
   cases e9
   simp only [Nat.zero_add] at x0
   obtain ⟨A8,c8,e8,hrt3⟩:=ht3.rd
   cases e8
   have hmk:=HMB.out ms[k] (List.getElem_mem hk)
   obtain ⟨hmk0,hmk1⟩:=hmk
   have HOP:=Lib.hid (op_d r (q+1) At ct tr (1+k) ms[k] w3 hR3 (by omega) hrt3 HTR.out HAT.out ⟨by omega,by omega⟩ ⟨hmk0,by omega⟩)
   clear hv1 hr3 hg3 hR3 hgg3 ho3 ht3 hms3 hrm hrm' hrt3 HP3 HL
   go_wp2_with fail
   refine HOP.out.mono ?_
   rintro e w4 ⟨o,q4,rfl,hod,hq40,hq41,hr4,hg4⟩
   have hval:o.val=.agg (cO o):=rfl
   rw [hval]
   clear hval
   have hL4:=(HL3.out.grown hrl hg4 hr4).ext ((Below.refl _ _).alloc (Nat.le_refl _) (opO o))
   have hbo4:=World.alloc_heap_new w4 (opO o)
   have hgmb:gm<w4.heap.size:=by
    have:=(HL3.out.grown hrl hg4 hr4).2.2.2.2.1.blk gm rfl
    exact this.2
   have HL4:=Lib.hid hL4;have HBO4:=Lib.hid hbo4;have HOD:=Lib.hid hod
   obtain ⟨bo,hboe⟩:∃ bo,bo=w4.heap.size:=⟨_,rfl⟩
   rw [←hboe] at hgmb HBO4
   have HBE:=Lib.hid hboe
   obtain ⟨d0,d1,d2,d3,d4,df⟩:=five_cells hbo4
   rw [←hboe] at d0 d1 d2 d3 d4 df
   clear hr4 hg4 hL4 hbo4 hod hboe HOP HL3
   go_upto_if 32 with fail
   rw [←HBE.out]
   go_cut [8] (fun s wx=>∃ ms':List Int,s=.pointer (some ⟨bo,0,none⟩)∧Hid (LSt w r gm m (.slice Ao l.length co) (.slice At tr.length ct) l tr ms' q4 wx∧wx.heap[bo]?=some (opO o)))
   case first=>
    by_cases hk1:o.kind=1
    ·have hk1':(o.kind == 1)=true:=by simp [hk1]
     have hmade:=LSt.made hrl HL4.out k hk
     have hbo5:((w4.alloc (opO o)).setCell ⟨gm,k,none⟩ (.int .i64 (ms[k]+1))).heap[bo]?=some (opO o):=(setx (by omega)).trans HBO4.out
     have HMD:=Lib.hid hmade;have HBO5:=Lib.hid hbo5
     obtain ⟨cs,hcs⟩:=own_ty HL4.out.2.2.2.2.1 (b:=gm) rfl
     have hfz:(w4.alloc (opO o)).frozen? ⟨gm,k,none⟩=false:=by simp [World.frozen?,hcs]
     have x1:(w4.alloc (opO o)).cell? ⟨gm,k,none⟩=some (.int .i64 ms[k]):=by
      obtain ⟨A9,c9,e9,hrm⟩:=HL4.out.2.2.2.2.1.rd
      simp only [Value.slice.injEq] at e9
      obtain ⟨rfl,-,rfl⟩:=e9
      obtain ⟨b9,o9,e9,-,x0⟩:=int_at hrm k hk
      cases e9
      simpa using x0
     clear hk1 hmade hbo5 hcs
     go_wp2_with fail
     go_meet
     exact ⟨_,rfl,HMD.out,HBO5.out⟩
    ·have hk1':(o.kind == 1)=false:=by simp [hk1]
     clear hk1
     go_wp2_with fail
     go_meet
     exact ⟨ms,rfl,HL4.out.less (Nat.le_succ _),HBO4.out⟩
   case rest=>
    obtain ⟨ms',rfl,HC⟩:=hcut
    have hCo:=HC.out
    obtain ⟨hLc,hbc⟩:=hCo
    have hown:=hLc.2.2.1
    obtain ⟨A7,c7,e7,hroc⟩:=hown.rd
    cases e7
    have HSQ:=Lib.hid (seq_s Ao co l (1+(k:Int)) wc.drew (hroc.drewN 1))
    have hcl:=cntW_le l (1+(k:Int))
    have hll:=hLc.2.2.2.2.2.2.2.2.2
    have hqw:IntKind.i64.wrap ((cntW l (1+(k:Int)):Int)+1)=(cntW l (1+(k:Int)):Int)+1:=by rw [IntKind.wrap_i64];omega
    have hsz:=hLc.2.1.size
    have hoke:Flat.okE (⟨1+(k:Int),(cntW l (1+(k:Int)):Int)+1,o⟩:Entry):=Nat.le_trans HOD.out.2.1 (by decide)
    obtain ⟨v6,w6,hrun,hown6,hg6⟩:∃ v' w',(Builtin.append_ #[24,24] 24 #[.slice Ao l.length co,.slice (some ⟨wc.heap.size,0,none⟩) 1 1]).run Tryz.prog (wc.alloc (.cells #[.int .i64 (1+(k:Int)),.int .i64 ((cntW l (1+(k:Int)):Int)+1),.int .i64 o.kind,.int .i64 o.id,.int .i64 o.up,.int .i64 o.pos,.string o.text] 35)).drew=.ok v' w' ∧
      Own 35 w' w.heap.size v' (l++[(⟨1+(k:Int),(cntW l (1+(k:Int)):Int)+1,o⟩:Entry)])∧(wc.drew.alloc (.cells #[.int .i64 (1+(k:Int)),.int .i64 ((cntW l (1+(k:Int)):Int)+1),.int .i64 o.kind,.int .i64 o.id,.int .i64 o.up,.int .i64 o.pos,.string o.text] 35)).grownBy w' (Value.slice Ao l.length co).ownBlock:=
     app_one (w:=wc.drew) el_ent (hown.below (Ext.drewN (Below.refl _ _) 1)) ⟨1+(k:Int),(cntW l (1+(k:Int)):Int)+1,o⟩ hoke (by omega) hsz #[.int .i64 (1+(k:Int)),.int .i64 ((cntW l (1+(k:Int)):Int)+1),.int .i64 o.kind,.int .i64 o.id,.int .i64 o.up,.int .i64 o.pos,.string o.text] rfl
    have hea9:Ext wc (wc.drew.alloc (.cells #[.int .i64 (1+(k:Int)),.int .i64 ((cntW l (1+(k:Int)):Int)+1),.int .i64 o.kind,.int .i64 o.id,.int .i64 o.up,.int .i64 o.pos,.string o.text] 35)):=(Ext.drewN (Below.refl wc.heap.size wc) 1).alloc (Nat.le_refl _) _
    have hL6:=LSt.app hrl (hLc.ext hea9) hg6 hown6 (by
     intro e he
     rcases List.mem_append.1 he with he | he
     ·exact hLc.2.2.2.2.2.2.2.2.1 e he
     ·rw [List.mem_singleton] at he;subst he;exact HOD.out.w) (m:=m) (by rw [List.length_append,List.length_singleton];have:=HLL.out;omega)
    have hbo6:w6.heap[bo]?=some (opO o):=(hg6.block bo (by rw [alloc_sz];exact Nat.lt_succ_of_lt (blk_lt hbc)) (fun e=>by
     rcases own_ne hown hbc (by decide) with h | h
     ·rw [h] at e;cases e
     ·exact h e.symm)).trans ((hea9.block bo (blk_lt hbc)).trans hbc)
    have HL6:=Lib.hid hL6;have HBO6:=Lib.hid hbo6
    have hrt6:=hL6.2.2.2.1
    obtain ⟨A7,c7,e7,hrt6⟩:=hrt6.rd
    cases e7
    have HDO:=Lib.hid (do_s At ct tr o w6 hrt6 HTR.out HOD.out.1 (Nat.le_trans HOD.out.2.1 (by decide)))
    have hhid:=hL6.2.1.size
    obtain ⟨d0,d1,d2,d3,d4,df⟩:=five_cells hbc
    clear hLc hbc hown hroc hg6 hown6 hL6 hbo6 hrt6 hea9 hoke HC HL4 HBO4
    go_wp2_with fail
    go_region_law (first | (refine step_append_run rfl _ _ _ rfl rfl rfl hrun ?_) | (go_simp;go_at_call 97;refine HSQ.out.mono ?_;rintro e w9 ⟨rfl,hw9⟩;rw [hw9];clear hw9))
    all_goals
     clear d0 d1 d2 d3 d4 df
     obtain ⟨d0,d1,d2,d3,d4,df⟩:=five_cells HBO6.out
     go_wp2_with fail
     refine HDO.out.mono ?_
     rintro e w7 ⟨v7,rfl,hown7,hb7⟩
     have HL7:=Lib.hid ((HL6.out.ext hb7).tree (hown7.lower hhid) (treeOk_do tr o HTR.out HOD.out.1))
     clear hown7 hb7
     go_wp2_with fail
     go_roundg m
     case measure=>have:=HK.out;omega
     case rel=>exact ⟨m,q4,_,_,ms',rfl,by first | rfl | (congr 1;omega),by omega,by omega,by omega,HL7.out⟩
  ·have hmz:¬(0:Int)<(m:Int):=by omega
   have hLo:=HL.out
   obtain ⟨hR,hg,ho,-,-,-,-,-,hew,hll⟩:=hLo
   obtain ⟨Ao,co,rfl,hro⟩:=ho.rd
   have HP3:=Lib.hid (pick_c r q 24 wr hR (by omega) ⟨by omega,by omega⟩)
   have HG:=Lib.hid hg;have HO:=Lib.hid ho;have HEW:=Lib.hid hew
   clear hR hg ho hew hro HL
   go_wp2_with fail
   refine HP3.out.mono ?_
   rintro e w3 ⟨v,rfl,hv0,hv1,-,hr3,hg3⟩
   have hG3:=gtrans HG.out hg3
   have hO3:=HO.out.grown hg3 (HO.out.off hrl)
   have HG3:=Lib.hid hG3;have HO3:=Lib.hid hO3;have HR3:=Lib.hid hr3
   have hs3:=hG3.size
   clear hv1 hr3 hg3 hG3 hO3 HG HO HP3
   rcases (by omega:v=0∨v=1∨2≤v) with rfl | rfl | h2
   ·have HPA:=Lib.hid (pick_c r (q+1) 3 w3 HR3.out (by omega) ⟨by omega,by omega⟩)
    go_wp2_with fail
    refine HPA.out.mono ?_
    rintro e w4 ⟨a,rfl,ha0,ha1,-,hr4,hg4⟩
    have hal:=ha1 (by omega)
    have HPB:=Lib.hid (pick_c r (q+2) 4 w4 hr4 (by omega) ⟨by omega,by omega⟩)
    have HG4:=Lib.hid (gtrans HG3.out hg4);have HO4:=Lib.hid (HO3.out.grown hg4 (HO3.out.off hrl))
    clear ha1 hr4 hg4 HPA HG3 HO3 HR3
    go_wp2_with fail
    refine HPB.out.mono ?_
    rintro e w5 ⟨b,rfl,hb0,hb1,-,hr5,hg5⟩
    have hbl:=hb1 (by omega)
    have HPC:=Lib.hid (opx_d r (q+3) w5 hr5 (by omega))
    have HG5:=Lib.hid (gtrans HG4.out hg5);have HO5:=Lib.hid (HO4.out.grown hg5 (HO4.out.off hrl))
    clear hb1 hr5 hg5 HPB HG4 HO4
    go_wp2_with fail
    refine HPC.out.mono ?_
    rintro e w6 ⟨o,q6,rfl,hsm,hq60,hq61,hr6,hg6⟩
    have hval:o.val=.agg (cO o):=rfl
    rw [hval]
    have hG6:=gtrans HG5.out hg6
    have hO6:=HO5.out.grown hg6 (HO5.out.off hrl)
    obtain ⟨v7,w7,hrun,hown7,hg7⟩:=app_one el_ent hO6 ⟨1+a,1+b,o⟩ (Nat.le_trans hsm.2.2.2.2 (by decide)) (by omega) hG6.size #[.int .i64 (1+a),.int .i64 (1+b),.int .i64 o.kind,.int .i64 o.id,.int .i64 o.up,.int .i64 o.pos,.string o.text] rfl
    have hea:Ext w6 (w6.alloc (.cells #[.int .i64 (1+a),.int .i64 (1+b),.int .i64 o.kind,.int .i64 o.id,.int .i64 o.up,.int .i64 o.pos,.string o.text] 35)):=(Below.refl _ _).alloc (Nat.le_refl _) _
    have hblk:∀ b',(Value.slice Ao l.length co).ownBlock=some b'→w.heap.size≤b':=fun b' e=>(hO6.blk b' e).1
    have HF:Hid (LogP r p w (.returned v7) w7):=⟨_,v7,q6,rfl,hown7,by rw [List.length_append,List.length_singleton];omega,(by
     intro e he
     rcases List.mem_append.1 he with he | he
     ·exact HEW.out e he
     ·rw [List.mem_singleton] at he;subst he;exact hsm.w),by omega,by omega,(hr6.ext hea).row hg7 (fun b' e=>by have:=hblk b' e;omega),gmix (gtrans hG6 (gext hea)) hg7 hblk⟩
    clear hval hG6 hO6 hown7 hg7 hea hblk hsm hr6 hg6 HPC HG5 HO5
    go_wp2_with (at_builtin;refine wpList_append_run rfl _ _ _ rfl rfl rfl hrun ?_)
    go_ret
    exact HF.out
   ·by_cases hl0:0<l.length
    ·have HPA:=Lib.hid (pick_c r (q+1) l.length w3 HR3.out (by omega) ⟨by omega,by omega⟩)
     go_wp2_with fail
     refine HPA.out.mono ?_
     rintro e w4 ⟨a,rfl,ha0,ha1,-,hr4,hg4⟩
     have hal:=ha1 (by omega)
     obtain ⟨j,rfl⟩:∃ k:Nat,a=k:=⟨a.toNat,by omega⟩
     have HPB:=Lib.hid (pick_c r (q+2) 4 w4 hr4 (by omega) ⟨by omega,by omega⟩)
     have HG4:=Lib.hid (gtrans HG3.out hg4);have HO4:=Lib.hid (HO3.out.grown hg4 (HO3.out.off hrl))
     clear ha1 hr4 hg4 HPA HG3 HO3 HR3
     go_wp2_with fail
     refine HPB.out.mono ?_
     rintro e w5 ⟨y,rfl,hy0,hy1,-,hr5,hg5⟩
     have hjl:j<l.length:=by omega
     have hG5:=gtrans HG4.out hg5
     have hO5:=HO4.out.grown hg5 (HO4.out.off hrl)
     obtain ⟨g,cap,e9,hg0,hg1,hfz,hgc⟩:=hO5.some_ hl0
     simp only [Value.slice.injEq] at e9
     obtain ⟨rfl,-,rfl⟩:=e9
     obtain ⟨hst,hgs⟩:=hO5.store j hjl ⟨l[j].who,y,l[j].op⟩ (by exact hO5.2 l[j] (List.getElem_mem hjl)) 1 (.int .i64 y) (by decide) rfl
     have f3:=hfz (j*7+1)
     obtain ⟨A9,c9,e9,r9⟩:=hO5.rd
     simp only [Value.slice.injEq] at e9
     obtain ⟨rfl,-,rfl⟩:=e9
     obtain ⟨bb,oo,ee,hbb,x0,x1,x2,x3,x4,x5,x6⟩:=ent_at r9 j hjl
     cases ee
     simp only [Nat.zero_add] at x0 x1
     have hgs':w5.grownBy (w5.setCell ⟨g,j*7+1,none⟩ (.int .i64 y)) (some g):=hgs
     have HF:Hid (LogP r p w (.returned (.slice (some ⟨g,0,none⟩) l.length co)) (w5.setCell ⟨g,j*7+1,none⟩ (.int .i64 y))):=⟨_,_,q+3,rfl,hst,by rw [List.length_set];omega,(by
      intro e he
      rcases List.mem_or_eq_of_mem_set he with he | he
      ·exact HEW.out e he
      ·subst he;exact HEW.out l[j] (List.getElem_mem hjl)),by omega,by omega,hr5.row hgs' (fun b' e=>by injection e with e;omega),gmix hG5 hgs' (fun b' e=>by injection e with e;omega)⟩
     clear hG5 hO5 hst hgs hgs' hfz r9 x2 x3 x4 x5 x6 hr5 hg5 hy1 HPB HG4 HO4
     go_wp2_with fail
     go_ret
     exact HF.out
    ·have hl0':¬(0:Int)<l.length:=by omega
     have HF:Hid (LogP r p w (.returned (.slice Ao l.length co)) w3):=⟨l,_,q+1,rfl,HO3.out,by omega,HEW.out,by omega,by omega,HR3.out,HG3.out⟩
     go_wp2_with fail
     go_ret
     exact HF.out
   ·have n0:(v == 0)=false:=beq_eq_false_iff_ne.2 (by omega)
    have n1:(v == 1)=false:=beq_eq_false_iff_ne.2 (by omega)
    have HF:Hid (LogP r p w (.returned (.slice Ao l.length co)) w3):=⟨l,_,q+1,rfl,HO3.out,by omega,HEW.out,by omega,by omega,HR3.out,HG3.out⟩
    go_wp2_with fail
    go_ret
    exact HF.out
def DLogP (w:World) (e:Ending) (w':World):Prop:=∃ (l:List Entry) (v:Value),e=.returned v∧Own 35 w' w.heap.size v l∧l.length≤14∧(∀ e∈l,OpW e.op)∧Ext w w'
open Go.RowKit Go.Lib
theorem opOk_w {o:Op} (h1:opOk o=true):OpW o:=by
 obtain ⟨hm,hk,-,hp⟩:=T.opOk_kind h1
 rw [isMade_iff] at hm
 have hup:o.kind≠2→idOk o.up=true:=fun hk2=>by
  rcases hk with h | h | h
  ·rw [opOk_1 h] at h1;simp only [Bool.and_eq_true] at h1;exact h1.2.2.1
  ·exact absurd h hk2
  ·rw [opOk_3 h] at h1;simp only [Bool.and_eq_true] at h1;exact h1.2.2.1.1
 by_cases h2:o.kind=2
 ·rw [opOk_2 h2] at h1
  simp only [Bool.and_eq_true,decide_eq_true_eq] at h1
  unfold OpW i64;omega
 ·have hu:=hup h2
  unfold idOk at hu
  rw [Bool.or_eq_true,isRoot_iff,isMade_iff] at hu
  have hp2:=hp h2
  rw [isMade_iff] at hp2
  unfold OpW i64;omega
set_option maxRecDepth 100000 in
set_option maxHeartbeats 2000000 in
theorem serverOk_s (L:Option Addr) (ln:Nat) (l:List Entry) (safe:Int) (up:Bool) (w:World) (hr:RdT 35 w L ln l) (hall:∀ e∈l,entryOk e=true) :
  Calls Tryz.prog 55 #[.agg #[.slice L l.length ln,.int .i64 safe,.bool up]] w fun x w'=>∃ b:Bool,x=.returned (.bool b)∧Ext w w':=by
 have hE:Ext w (w.alloc (.cells #[.slice L l.length ln,.int .i64 safe,.bool up] 58)):=(Below.refl _ w).alloc (Nat.le_refl _) _
 have hX:=World.alloc_heap_new w (.cells #[.slice L l.length ln,.int .i64 safe,.bool up] 58)
 have HL:=Lib.hid (logOk_s L ln l _ (hr.ext hE).1 (fun e he=>opOk_w (entryOk_op (hall e he))))
 have HE:=Lib.hid hE;have HX:=Lib.hid hX
 clear hr hall hE hX
 go_enter Tryz.func55,Tryz.ntmps55
 go_wp2_with fail
 generalize (w.alloc (.cells #[.slice L l.length ln,.int .i64 safe,.bool up] 58))=W at *
 refine HL.out.mono ?_
 rintro x w1 ⟨rfl,hb1⟩
 have hx1:=(hb1.block w.heap.size (blk_lt HX.out)).trans HX.out
 obtain ⟨c0,c1,c2,cf⟩:=tri_cells hx1
 have HE1:=Lib.hid (HE.out.trans (hb1.mono HE.out.size))
 clear hb1 hx1 HL
 cases logOk l
 ·go_wp2_with fail
  go_ret
  exact ⟨false,rfl,HE1.out⟩
 ·go_wp2_with fail
  refine (in_c safe 0 l.length w1).mono ?_
  rintro x w2 ⟨rfl,hw2⟩
  rw [hw2];clear hw2
  go_wp2_with fail
  go_ret
  exact ⟨_,rfl,HE1.out⟩
set_option maxRecDepth 100000 in
set_option maxHeartbeats 2000000 in
theorem news_s (L:Option Addr) (ln:Nat) (l:List Entry) (safe:Int) (up:Bool) (frm:Int) (w:World) (hr:RdT 35 w L ln l) (hall:∀ e∈l,entryOk e=true) (hl:l.length≤1000) (h0:0≤safe) (h1:safe≤l.length) :
  Calls Tryz.prog 159 #[.agg #[.slice L l.length ln,.int .i64 safe,.bool up],.int .i64 frm] w fun x w'=>∃ (N:Option Addr) (n':Nat) (m:List Entry),x=.returned (.slice N m.length n')∧RdT 35 w' N n' m∧(∀ e∈m,e∈l)∧m.length≤l.length∧Ext w w':=by
 have hE:Ext w (w.alloc (.cells #[.slice L l.length ln,.int .i64 safe,.bool up] 58)):=(Below.refl _ w).alloc (Nat.le_refl _) _
 have hX:=World.alloc_heap_new w (.cells #[.slice L l.length ln,.int .i64 safe,.bool up] 58)
 have HOK:=Lib.hid (serverOk_s L ln l safe up (w.alloc (.cells #[.slice L l.length ln,.int .i64 safe,.bool up] 58)) (hr.ext hE) hall)
 have HE:=Lib.hid hE;have HX:=Lib.hid hX;have HR:=Lib.hid (hr.ext hE)
 clear hr hall hE hX
 go_enter Tryz.func159,Tryz.ntmps159
 obtain ⟨d0,d1,d2,df⟩:=tri_cells HX.out
 go_wp2_with fail
 generalize (w.alloc (.cells #[.slice L l.length ln,.int .i64 safe,.bool up] 58))=W at *
 refine HOK.out.mono ?_
 rintro x w1 ⟨b,rfl,hb1⟩
 have hx1:=(hb1.block w.heap.size (blk_lt HX.out)).trans HX.out
 clear d0 d1 d2 df
 obtain ⟨c0,c1,c2,cf⟩:=tri_cells hx1
 have HE1:=Lib.hid (HE.out.trans (hb1.mono HE.out.size));have HR1:=Lib.hid (HR.out.ext hb1)
 have hno:∃ (N:Option Addr) (n':Nat) (m:List Entry),Ending.returned (Value.slice (some ⟨w1.heap.size,0,none⟩) 0 0)=Ending.returned (.slice N m.length n')∧RdT 35 (w1.alloc (.cells #[] 35)) N n' m∧(∀ e∈m,e∈l)∧m.length≤l.length∧Ext w (w1.alloc (.cells #[] 35)):=
  ⟨_,0,[],rfl,(own_made (e:=35) (α:=Entry) w1 w1.heap.size (Nat.le_refl _)).rdT,by simp,by simp,HE1.out.alloc HE1.out.size _⟩
 have HNO:=Lib.hid hno
 have hlt:=blk_lt hx1
 clear hb1 hx1 HOK hno
 cases b
 ·go_wp2_with fail
  go_ret
  exact HNO.out
 cases up
 ·go_wp2_with fail
  go_ret
  exact HNO.out
 go_wp2_with fail
 refine (in_c frm 0 safe w1).mono ?_
 rintro x w2 ⟨rfl,hw2⟩
 rw [hw2];clear hw2
 cases hin:inR frm 0 safe
 ·clear hin
  go_wp2_with fail
  go_ret
  exact HNO.out
 have hfr:=of_decide_eq_true (show decide (0≤frm∧frm≤safe)=true from hin)
 obtain ⟨f,rfl⟩:∃ f:Nat,frm=(f:Int):=⟨frm.toNat,by omega⟩
 obtain ⟨s,rfl⟩:∃ s:Nat,safe=(s:Int):=⟨safe.toNat,by omega⟩
 clear hin
 have hcap:=HR1.out.1.1
 have hsl:=fun (W:World)=>run_mid el_ent L l.length ln f s (by omega) (by omega) W
 have hrm:=(HR1.out.1.alloc (.cells #[] 35)).mid f s (by omega)
 have hszr:Flat.sz Entry=7:=rfl
 simp only [hszr] at hsl hrm
 generalize fromA L ln f 7=L7 at hsl hrm
 have hlm:((l.drop f).take (s - f)).length=s - f:=by rw [List.length_take,List.length_drop];omega
 obtain ⟨m,hm⟩:∃ m,m=(l.drop f).take (s - f):=⟨_,rfl⟩
 rw [←hm] at hrm hlm
 obtain ⟨v3,w3,hrun,hown3,hg3⟩:=app_at el_ent (own_made (e:=35) (α:=Entry) w1 w1.heap.size (Nat.le_refl _)) hrm (by rw [hlm];simp;omega) (by rw [alloc_sz];omega)
 have hB3:=(own_made (e:=35) (α:=Entry) w1 w1.heap.size (Nat.le_refl _)).over (HE1.out.alloc HE1.out.size (.cells #[] 35)) hg3 HE1.out.size (by rw [alloc_sz];have:=HE1.out.size;omega)
 rw [List.nil_append] at hown3
 rw [hlm] at hrun
 have hin2:∀ e∈m,e∈l:=fun e he=>by rw [hm] at he;exact List.mem_of_mem_drop (List.mem_of_mem_take he)
 have hml:m.length≤l.length:=by omega
 obtain ⟨N,n',rfl,-⟩:=hown3.rd
 have HO:=Lib.hid hown3.rdT;have HB:=Lib.hid hB3;have HI:=Lib.hid hin2
 clear hm hown3 hg3 hB3 hrm hin2 HNO
 go_wp2_with (at_builtin;refine wpList_append_run rfl _ _ _ rfl rfl rfl hrun ?_)
 go_ret
 exact ⟨N,n',m,by rw [hlm];rfl,HO.out,HI.out,hml,HB.out⟩
open Go.RowKit Go.Lib
structure RC where
 who:Int
 seen:Int
 b:Option Addr
 bl:Nat
 bn:Nat
 q:Option Addr
 ql:Nat
 qn:Nat
 done:Int
 made:Int
structure RL where
 dst:Int
 frm:Int
 a:Option Addr
 n:Nat
 c:Nat
instance:Flat RC:=⟨fun x=>[.int .i64 x.who,.int .i64 x.seen,.slice x.b x.bl x.bn,.slice x.q x.ql x.qn,.int .i64 x.done,.int .i64 x.made],6,fun _=>rfl,fun _ u hu=>by simp at hu;rcases hu with rfl | rfl | rfl | rfl | rfl | rfl <;> rfl,by omega,fun _=>True⟩
instance:Flat RL:=⟨fun x=>[.int .i64 x.dst,.int .i64 x.frm,.slice x.a x.n x.c],3,fun _=>rfl,fun _ u hu=>by simp at hu;rcases hu with rfl | rfl | rfl <;> rfl,by omega,fun _=>True⟩
theorem cli_info:∃ i:TypeInfo,Tryz.prog.info? 26=some i∧i.zero=some (.agg cC0)∧i.size=6∧i.bytes=80:=info_parts (by kernel_rfl)
theorem let_info:∃ i:TypeInfo,Tryz.prog.info? 104=some i∧i.zero=some (.agg #[.int .i64 0,.int .i64 0,.slice none 0 0])∧i.size=3∧i.bytes=40:=info_parts (by kernel_rfl)
theorem el_cli:El RC 26 59:=⟨by kernel_rfl,info_of cli_info (by decide) rfl rfl⟩
theorem el_let:El RL 104 60:=⟨by kernel_rfl,info_of let_info (by decide) rfl rfl⟩
theorem rc_at {w:World} {A:Option Addr} {c:Nat} {l:List RC} (h:Rd w A c l) (k:Nat) (hk:k<l.length) :
  ∃ b off,A=some ⟨b,off,none⟩∧b<w.heap.size∧w.cell? ⟨b,off+k*6,none⟩=some (.int .i64 l[k].who)∧w.cell? ⟨b,off+k*6+1,none⟩=some (.int .i64 l[k].seen)∧w.cell? ⟨b,off+k*6+2,none⟩=some (.slice l[k].b l[k].bl l[k].bn) ∧
   w.cell? ⟨b,off+k*6+3,none⟩=some (.slice l[k].q l[k].ql l[k].qn)∧w.cell? ⟨b,off+k*6+4,none⟩=some (.int .i64 l[k].done)∧w.cell? ⟨b,off+k*6+5,none⟩=some (.int .i64 l[k].made):=by
 obtain ⟨b,off,rfl,hb,hc⟩:=h.at_ k hk
 exact ⟨b,off,rfl,hb,hc 0 _ rfl,hc 1 _ rfl,hc 2 _ rfl,hc 3 _ rfl,hc 4 _ rfl,hc 5 _ rfl⟩
theorem rl_at {w:World} {A:Option Addr} {c:Nat} {l:List RL} (h:Rd w A c l) (k:Nat) (hk:k<l.length) :
  ∃ b off,A=some ⟨b,off,none⟩∧b<w.heap.size∧w.cell? ⟨b,off+k*3,none⟩=some (.int .i64 l[k].dst)∧w.cell? ⟨b,off+k*3+1,none⟩=some (.int .i64 l[k].frm)∧w.cell? ⟨b,off+k*3+2,none⟩=some (.slice l[k].a l[k].n l[k].c):=by
 obtain ⟨b,off,rfl,hb,hc⟩:=h.at_ k hk
 exact ⟨b,off,rfl,hb,hc 0 _ rfl,hc 1 _ rfl,hc 2 _ rfl⟩
/-! ### lists side by side -/
def All2 {α β:Type} (P:α→β→Prop) (xs:List α) (cs:List β):Prop:=xs.length=cs.length∧∀ (i:Nat) (h:i<xs.length) (h':i<cs.length),P xs[i] cs[i]
section
variable {α β:Type} {P Q:α→β→Prop} {xs ys:List α} {cs ds:List β}
theorem All2.imp (h:All2 P xs cs) (hi:∀ x c,P x c→Q x c):All2 Q xs cs:=⟨h.1,fun i h1 h2=>hi _ _ (h.2 i h1 h2)⟩
theorem All2.nil:All2 P [] []:=⟨rfl,fun i h _=>by simp at h⟩
theorem All2.append (h:All2 P xs cs) (k:All2 P ys ds):All2 P (xs++ys) (cs++ds):=by
 refine ⟨by rw [List.length_append,List.length_append,h.1,k.1],fun i h1 h2=>?_⟩
 by_cases hi:i<xs.length
 ·rw [List.getElem_append_left hi,List.getElem_append_left (by rw [←h.1];exact hi)]
  exact h.2 i _ _
 ·rw [List.getElem_append_right (by omega),List.getElem_append_right (by rw [←h.1];omega)]
  have:=k.2 (i - xs.length) (by rw [List.length_append] at h1;omega) (by rw [List.length_append,←h.1] at h2;omega)
  simpa only [h.1] using this
theorem All2.one {x:α} {c:β} (h:P x c):All2 P [x] [c]:=⟨rfl,fun i h1 _=>by
 have:i=0:=by simpa using h1
 subst this;exact h⟩
theorem All2.set (h:All2 P xs cs) (k:Nat) {x:α} {c:β} (hx:P x c):All2 P (xs.set k x) (cs.set k c):=by
 refine ⟨by rw [List.length_set,List.length_set,h.1],fun i h1 h2=>?_⟩
 rw [List.length_set] at h1 h2
 by_cases hi:k=i
 ·subst hi;rw [List.getElem_set_self,List.getElem_set_self];exact hx
 ·rw [List.getElem_set_ne hi,List.getElem_set_ne hi];exact h.2 i h1 h2
theorem All2.take (h:All2 P xs cs) (k:Nat):All2 P (xs.take k) (cs.take k):=by
 refine ⟨by rw [List.length_take,List.length_take,h.1],fun i h1 h2=>?_⟩
 rw [List.getElem_take,List.getElem_take];exact h.2 i _ _
theorem All2.drop (h:All2 P xs cs) (k:Nat):All2 P (xs.drop k) (cs.drop k):=by
 refine ⟨by rw [List.length_drop,List.length_drop,h.1],fun i h1 h2=>?_⟩
 rw [List.getElem_drop,List.getElem_drop];exact h.2 _ _ _
end
/-! ### what stays -/
structure Turn (S:Nat→Prop) (w w':World):Prop where
 os:w'.os=w.os
 tape:w'.tape=w.tape
 output:w'.output=w.output
 size:w.heap.size≤w'.heap.size
 block:∀ k,k<w.heap.size→¬S k→w'.heap[k]?=w.heap[k]?
theorem Turn.refl (S:Nat→Prop) (w:World):Turn S w w:=⟨rfl,rfl,rfl,Nat.le_refl _,fun _ _ _=>rfl⟩
theorem Turn.ext {S:Nat→Prop} {w w':World} (h:Ext w w'):Turn S w w':=⟨h.os,h.tape,h.output,h.size,fun k hk _=>h.block k hk⟩
theorem Turn.then {S S':Nat→Prop} {a b c:World} (h:Turn S a b) (k:Turn S' b c) (hs:∀ i,S' i→S i∨a.heap.size≤i):Turn S a c:=
 ⟨k.os.trans h.os,k.tape.trans h.tape,k.output.trans h.output,Nat.le_trans h.size k.size,fun i hi hn=>(k.block i (Nat.lt_of_lt_of_le hi h.size) (fun e=>by rcases hs i e with h1 | h1;exact hn h1;omega)).trans (h.block i hi hn)⟩
theorem Turn.thenE {S:Nat→Prop} {a b c:World} (h:Turn S a b) (k:Ext b c):Turn S a c:=h.then (S':=S) (Turn.ext k) (fun i hi=>.inl hi)
theorem Turn.grown {S:Nat→Prop} {w w':World} {row:Option Nat} (h:w.grownBy w' row) (hr:∀ k,row=some k→S k):Turn S w w':=
 ⟨h.os,h.tape,h.output,h.size,fun k hk hn=>h.block k hk (fun e=>hn (hr k e.symm))⟩
theorem Turn.below {S:Nat→Prop} {B:Nat} {w0 w w':World} (h:Turn S w w') (h0:Below B w0 w) (hS:∀ k,S k→B≤k) (hs:B≤w.heap.size):Below B w0 w':=
 ⟨h.os.trans h0.os,h.tape.trans h0.tape,h.output.trans h0.output,Nat.le_trans h0.size h.size,fun k hk=>(h.block k (by omega) (fun e=>by have:=hS k e;omega)).trans (h0.block k hk)⟩
theorem Turn.mono {S S':Nat→Prop} {w w':World} (h:Turn S w w') (hs:∀ k,S k→S' k):Turn S' w w':=⟨h.os,h.tape,h.output,h.size,fun k hk hn=>h.block k hk (fun e=>hn (hs k e))⟩
def KeepT (w w':World):Prop:=∀ (k:Nat) (cs:Array Value) (ty:TypeId) (m:Nat × Nat),w.heap[k]?=some (.cells cs ty m)→(ty=46∨ty=35∨ty=26∨ty=104)→w'.heap[k]?=some (.cells cs ty m)
theorem KeepT.ext {w w':World} (h:Ext w w'):KeepT w w':=fun k cs ty m hk _=>(h.block k (blk_lt hk)).trans hk
theorem KeepT.trans {a b c:World} (h:KeepT a b) (k:KeepT b c):KeepT a c:=fun i cs ty m hi ht=>k i cs ty m (h i cs ty m hi ht) ht
theorem KeepT.grown {w w':World} {r:Nat} {cs0:Array Value} {ty0:TypeId} {m0:Nat × Nat} (h:w.grownBy w' (some r)) (hr:w.heap[r]?=some (.cells cs0 ty0 m0)) (h1:ty0≠46) (h2:ty0≠35) (h3:ty0≠26) (h4:ty0≠104):KeepT w w':=by
 intro k cs ty m hk ht
 refine (h.block k (blk_lt hk) (fun e=>?_)).trans hk
 injection e with e
 subst e
 rw [hr] at hk
 injection hk with hk;injection hk with _ hk
 subst hk
 rcases ht with h | h | h | h
 ·exact h1 h
 ·exact h2 h
 ·exact h3 h
 ·exact h4 h
section
variable {α:Type} [Flat α] {e:TypeId} {w w':World} {A:Option Addr} {c:Nat} {l:List α}
theorem RdT.blk (h:RdT e w A c l) (hb:0<l.length→∀ bb off cs m,A=some ⟨bb,off,none⟩→w.heap[bb]?=some (.cells cs e m)→w'.heap[bb]?=w.heap[bb]?):RdT e w' A c l:=by
 refine ⟨⟨h.1.1,h.1.2.1,fun h0=>?_,h.1.2.2.2⟩,fun h0 bb off e0=>?_⟩
 ·obtain ⟨bb,off,rfl,hh⟩:=h.1.2.2.1 h0
  obtain ⟨cs,m,h1⟩:=h.2 h0 bb off rfl
  exact ⟨bb,off,rfl,fun j v hv=>(World.cell?_of_block (hb h0 bb off cs m rfl h1)).trans (hh j v hv)⟩
 ·obtain ⟨cs,m,h1⟩:=h.2 h0 bb off e0
  exact ⟨cs,m,(hb h0 bb off cs m e0 h1).trans h1⟩
theorem RdT.keep (h:RdT e w A c l) (hk:KeepT w w') (he:e=46∨e=35∨e=26∨e=104):RdT e w' A c l:=
 h.blk fun _ bb _ cs m _ h1=>(hk bb cs e m h1 he).trans h1.symm
theorem RdT.turn {S:Nat→Prop} (h:RdT e w A c l) (ht:Turn S w w') (hs:∀ k,S k→∀ cs m,w.heap[k]?≠some (.cells cs e m)):RdT e w' A c l:=
 h.blk fun _ bb _ cs m _ h1=>ht.block bb (blk_lt h1) (fun e0=>hs bb e0 cs m h1)
theorem Own.keep {base:Nat} {v:Value} (h:Own e w base v l) (hk:KeepT w w') (he:e=46∨e=35∨e=26∨e=104):Own e w' base v l:=by
 refine ⟨⟨h.1.1,?_⟩,h.2⟩
 rcases h.1.2 with h1 | ⟨g,cap,cur,h1,h2,h3,h4⟩
 ·exact .inl h1
 ·exact .inr ⟨g,cap,cur,h1,h2,hk g _ _ _ h3 he,h4⟩
theorem Own.turn {S:Nat→Prop} {base:Nat} {v:Value} (h:Own e w base v l) (ht:Turn S w w') (hs:∀ k,v.ownBlock=some k→¬S k):Own e w' base v l:=by
 refine ⟨⟨h.1.1,?_⟩,h.2⟩
 rcases h.1.2 with h1 | ⟨g,cap,cur,h1,h2,h3,h4⟩
 ·exact .inl h1
 ·exact .inr ⟨g,cap,cur,h1,h2,(ht.block g (blk_lt h3) (hs g (by rw [h1];rfl))).trans h3,h4⟩
theorem Own.ty {base:Nat} {v:Value} (h:Own e w base v l) (k:Nat) (hk:v.ownBlock=some k):∃ cs m,w.heap[k]?=some (.cells cs e m):=by
 rcases h.1.2 with ⟨rfl,_⟩ | ⟨g,cap,cur,rfl,_,h3,_⟩
 ·cases hk
 ·simp only [Value.ownBlock,Option.some.injEq] at hk
  subst hk;exact ⟨_,_,h3⟩
end
/-! ### worlds -/
structure Lt where
 dst:Int
 frm:Int
 list:List Entry
structure Wd where
 log:List Entry
 safe:Int
 up:Bool
 cls:List Client
 nets:List Lt
abbrev cR (x:RC):Array Value:=#[.int .i64 x.who,.int .i64 x.seen,.slice x.b x.bl x.bn,.slice x.q x.ql x.qn,.int .i64 x.done,.int .i64 x.made]
abbrev oR (x:RC):Obj:=.cells #[.int .i64 x.who,.int .i64 x.seen,.slice x.b x.bl x.bn,.slice x.q x.ql x.qn,.int .i64 x.done,.int .i64 x.made] 26
abbrev cL (m:Lt) (A:Option Addr) (n:Nat):Array Value:=#[.int .i64 m.dst,.int .i64 m.frm,.slice A m.list.length n]
abbrev oL (m:Lt) (A:Option Addr) (n:Nat):Obj:=.cells #[.int .i64 m.dst,.int .i64 m.frm,.slice A m.list.length n] 104
abbrev cW (w:Wd) (L:Option Addr) (l:Nat) (C:Option Addr) (x:List RC) (c:Nat) (N:Option Addr) (y:List RL) (n:Nat):Array Value:=#[.slice L w.log.length l,.int .i64 w.safe,.bool w.up,.slice C x.length c,.slice N y.length n]
abbrev oW (w:Wd) (L:Option Addr) (l:Nat) (C:Option Addr) (x:List RC) (c:Nat) (N:Option Addr) (y:List RL) (n:Nat):Obj:=.cells #[.slice L w.log.length l,.int .i64 w.safe,.bool w.up,.slice C x.length c,.slice N y.length n] 62
abbrev cW0:Array Value:=#[.slice none 0 0,.int .i64 0,.bool false,.slice none 0 0,.slice none 0 0]
abbrev oW0:Obj:=.cells #[.slice none 0 0,.int .i64 0,.bool false,.slice none 0 0,.slice none 0 0] 62
def RcOk (W:World) (x:RC) (c:Client):Prop:=∃ b bn q qn,x=⟨c.who,c.seen,b,c.base.length,bn,q,c.wait.length,qn,c.done,c.made⟩∧RdT 46 W b bn c.base∧RdT 35 W q qn c.wait
def LtOk (W:World) (x:RL) (m:Lt):Prop:=∃ a n,x=⟨m.dst,m.frm,a,m.list.length,n⟩∧RdT 35 W a n m.list
structure WP (W:World) (base:Nat) (w:Wd) (L:Option Addr) (ln:Nat) (C:Option Addr) (cc:Nat) (N:Option Addr) (nc:Nat) (xs:List RC) (ys:List RL):Prop where
 log:RdT 35 W L ln w.log
 cli:Own 26 W base (.slice C xs.length cc) xs
 let_:Own 104 W base (.slice N ys.length nc) ys
 cls:All2 (RcOk W) xs w.cls
 nets:All2 (LtOk W) ys w.nets
def WV (W:World) (base:Nat) (w:Wd) (v:Value):Prop:=
 ∃ L ln C cc N nc xs ys,v=.agg #[.slice L w.log.length ln,.int .i64 w.safe,.bool w.up,.slice C xs.length cc,.slice N ys.length nc]∧WP W base w L ln C cc N nc xs ys
theorem RcOk.keep {W W':World} {x:RC} {c:Client} (h:RcOk W x c) (hk:KeepT W W'):RcOk W' x c:=by
 obtain ⟨b,bn,q,qn,rfl,h1,h2⟩:=h
 exact ⟨b,bn,q,qn,rfl,h1.keep hk (.inl rfl),h2.keep hk (.inr (.inl rfl))⟩
theorem LtOk.keep {W W':World} {x:RL} {m:Lt} (h:LtOk W x m) (hk:KeepT W W'):LtOk W' x m:=by
 obtain ⟨a,n,rfl,h1⟩:=h
 exact ⟨a,n,rfl,h1.keep hk (.inr (.inl rfl))⟩
theorem WP.keep {W W':World} {base:Nat} {w:Wd} {L C N:Option Addr} {ln cc nc:Nat} {xs:List RC} {ys:List RL} (h:WP W base w L ln C cc N nc xs ys) (hk:KeepT W W'):WP W' base w L ln C cc N nc xs ys:=
 ⟨h.log.keep hk (.inr (.inl rfl)),h.cli.keep hk (.inr (.inr (.inl rfl))),h.let_.keep hk (.inr (.inr (.inr rfl))),h.cls.imp (fun _ _ h=>h.keep hk),h.nets.imp (fun _ _ h=>h.keep hk)⟩
theorem WV.keep {W W':World} {base:Nat} {w:Wd} {v:Value} (h:WV W base w v) (hk:KeepT W W'):WV W' base w v:=by
 obtain ⟨L,ln,C,cc,N,nc,xs,ys,rfl,hp⟩:=h
 exact ⟨L,ln,C,cc,N,nc,xs,ys,rfl,hp.keep hk⟩
theorem WP.ext {W W':World} {base:Nat} {w:Wd} {L C N:Option Addr} {ln cc nc:Nat} {xs:List RC} {ys:List RL} (h:WP W base w L ln C cc N nc xs ys) (hb:Ext W W'):WP W' base w L ln C cc N nc xs ys:=h.keep (KeepT.ext hb)
theorem WV.ext {W W':World} {base:Nat} {w:Wd} {v:Value} (h:WV W base w v) (hb:Ext W W'):WV W' base w v:=h.keep (KeepT.ext hb)
theorem WP.ct {W:World} {base:Nat} {w:Wd} {L C N:Option Addr} {ln cc nc:Nat} {xs:List RC} {ys:List RL} (h:WP W base w L ln C cc N nc xs ys) (k:Nat) (hk:k<xs.length) (hk':k<w.cls.length) :
  CT W w.cls[k] (.agg (cR xs[k])):=by
 obtain ⟨b,bn,q,qn,e,h1,h2⟩:=h.cls.2 k hk hk'
 rw [e]
 exact ⟨b,bn,q,qn,rfl,h1,h2⟩
/-! ### what is kept of a world -/
def LInv (m:Lt):Prop:=(0≤m.dst∧m.dst≤3)∧(0≤m.frm∧m.frm≤40)∧(∀ e∈m.list,entryOk e=true)∧m.list.length≤40∧(m.dst=0→0<m.list.length)
structure WInv (w:Wd):Prop where
 log:∀ e∈w.log,entryOk e=true
 len:w.log.length≤40
 safe0:0≤w.safe
 safe1:w.safe≤w.log.length
 three:w.cls.length=3
 cls:∀ c∈w.cls,clientOk c=true
 net:w.nets.length≤12
 nets:∀ m∈w.nets,LInv m
open Go.RowKit Go.Lib
set_option maxRecDepth 100000 in
theorem serverNew_s (w:World) :
  Calls Tryz.prog 151 #[] w fun x w'=>∃ L n,x=.returned (.agg #[.slice L 0 n,.int .i64 0,.bool true])∧RdT 35 w' L n ([]:List Entry)∧Ext w w':=by
 have hz:=(two_new w (.cells #[.slice (some ⟨w.heap.size+1,0,none⟩) 0 0,.int .i64 0,.bool true] 58) (.cells #[] 35)).1
 have hE:Ext w ((w.alloc (.cells #[.slice (some ⟨w.heap.size+1,0,none⟩) 0 0,.int .i64 0,.bool true] 58)).alloc (.cells #[] 35)):=((Below.refl _ w).alloc (Nat.le_refl _) _).alloc (by rw [alloc_sz];omega) _
 have HE:=Lib.hid hE
 clear hE
 go_enter Tryz.func151,Tryz.ntmps151
 go_wp2_with fail
 obtain ⟨k0,k1,k2,kf⟩:=tri_cells hz
 refine bodyPost_ret (v:=.agg #[.slice (some ⟨w.heap.size+1,0,none⟩) 0 0,.int .i64 0,.bool true]) ?_ rfl ?_
 ·simp [results,Tryz.f151,go_sem]
 ·exact ⟨_,_,rfl,⟨⟨by simp,by simp,fun h=>by simp at h,by simp⟩,fun h=>by simp at h⟩,HE.out⟩
set_option maxRecDepth 100000 in
theorem clientNewS_s (who:Int) (w:World) (h:1≤who∧who≤3) :
  Calls Tryz.prog 152 #[.int .i64 who] w fun x w'=>∃ v,x=.returned (.tuple #[v,.bool true])∧CT w' ⟨who,0,treeNew,[],0,0⟩ v∧Ext w w':=by
 have HI:=Lib.hid (fun W=>in_c who 1 3 W)
 have hin:inR who 1 3=true:=by unfold inR;rw [decide_eq_true_eq];exact h
 rw [hin] at HI
 go_enter Tryz.func152,Tryz.ntmps152
 go_wp2_with fail
 refine (HI.out _).mono ?_
 rintro x w1 ⟨rfl,rfl⟩
 go_wp2_with fail
 refine (new_s _).mono ?_
 rintro x w2 ⟨v2,rfl,ho,hb2⟩
 obtain ⟨A3,n3,rfl,-⟩:=ho.rd
 have hx:=(hb2.block w.heap.size (by rw [alloc_sz];omega)).trans (World.alloc_heap_new w oC0)
 obtain ⟨d0,d1,d2,d3,d4,d5,df⟩:=six_cells hx
 have HX:=Lib.hid hx;have HO:=Lib.hid ho;have hlt:=blk_lt hx
 have HE:=Lib.hid (((Below.refl w.heap.size w).alloc (Nat.le_refl _) oC0).trans (hb2.mono (by rw [alloc_sz];omega)))
 clear hx ho hb2 HI hin
 go_wp2_with fail
 have hz6:=put6_at (.int .i64 who) (.int .i64 0) (.slice A3 treeNew.length n3) (.slice (some ⟨w2.heap.size,0,none⟩) 0 0) (.int .i64 0) (.int .i64 0) HX.out
 have hz:=(Below.heap_alloc (put6 w2 w.heap.size (.int .i64 who) (.int .i64 0) (.slice A3 treeNew.length n3) (.slice (some ⟨w2.heap.size,0,none⟩) 0 0) (.int .i64 0) (.int .i64 0)) (.cells #[] 35) w.heap.size (by rw [put6_size];exact hlt)).trans hz6
 have hA:Ext (put6 w2 w.heap.size (.int .i64 who) (.int .i64 0) (.slice A3 treeNew.length n3) (.slice (some ⟨w2.heap.size,0,none⟩) 0 0) (.int .i64 0) (.int .i64 0)) ((put6 w2 w.heap.size (.int .i64 who) (.int .i64 0) (.slice A3 treeNew.length n3) (.slice (some ⟨w2.heap.size,0,none⟩) 0 0) (.int .i64 0) (.int .i64 0)).alloc (.cells #[] 35)):=(Below.refl _ _).alloc (Nat.le_refl _) _
 have hE:=(put6_below (.int .i64 who) (.int .i64 0) (.slice A3 treeNew.length n3) (.slice (some ⟨w2.heap.size,0,none⟩) 0 0) (.int .i64 0) (.int .i64 0) HE.out (Nat.le_refl _)).trans (hA.mono (by rw [put6_size];omega))
 have hq:=(HO.out.rdT.put6 HX.out (by decide) (.int .i64 who) (.int .i64 0) (.slice A3 treeNew.length n3) (.slice (some ⟨w2.heap.size,0,none⟩) 0 0) (.int .i64 0) (.int .i64 0)).ext hA
 obtain ⟨k0,k1,k2,k3,k4,k5,kf⟩:=six_cells hz
 refine bodyPost_ret (v:=.tuple #[.agg #[.int .i64 who,.int .i64 0,.slice A3 treeNew.length n3,.slice (some ⟨w2.heap.size,0,none⟩) 0 0,.int .i64 0,.int .i64 0],.bool true]) ?_ rfl ?_
 ·simp [results,Tryz.f152,go_sem,k0,k1,k2,k3,k4,k5]
 ·exact ⟨_,rfl,⟨_,_,_,_,rfl,hq,⟨⟨by simp,by simp,fun h=>by simp at h,by simp⟩,fun h=>by simp at h⟩⟩,hE⟩
end Go.Proofs.YtecmcjfdaipfcaaGreatDoor
