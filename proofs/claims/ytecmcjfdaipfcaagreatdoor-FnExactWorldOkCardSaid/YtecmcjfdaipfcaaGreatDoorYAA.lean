/- The plain model: rows, changes, entries as Lean data, and what the program's functions answer, as plain Lean functions. No program, no memory. .. Outlines as first-child, next-sibling trees: plain Lean. -/
import Derived.RowKit
import Derived.Test.YtecmcjfdaipfcaaGreatDoorProg
import Derived.WalkKit
import Derived.KernelRfl
import Derived.Lib.Hide
import Derived.Deep.QuietTactic
import Derived.BigQuiet
import Derived.Maps.Own
import Derived.Maps.OwnOps
import Derived.Maps.Views
namespace Go.Proofs.YtecmcjfdaipfcaaGreatDoor
set_option linter.unusedVariables false
structure Row where
 id:Int
 depth:Int
 text:ByteArray
 deriving DecidableEq
structure Op where
 kind:Int
 id:Int
 up:Int
 pos:Int
 text:ByteArray
 deriving DecidableEq
structure Entry where
 who:Int
 seq:Int
 op:Op
 deriving DecidableEq
instance:Inhabited Row:=⟨⟨0,0,⟨#[]⟩⟩⟩
instance:Inhabited Op:=⟨⟨0,0,0,0,⟨#[]⟩⟩⟩
instance:Inhabited Entry:=⟨⟨0,0,default⟩⟩
abbrev cO (o:Op):Array Value:=#[.int .i64 o.kind,.int .i64 o.id,.int .i64 o.up,.int .i64 o.pos,.string o.text]
abbrev cN (e:Entry):Array Value:=#[.int .i64 e.who,.int .i64 e.seq,.int .i64 e.op.kind,.int .i64 e.op.id,.int .i64 e.op.up,.int .i64 e.op.pos,.string e.op.text]
abbrev oO (o:Op):Obj:=.cells #[.int .i64 o.kind,.int .i64 o.id,.int .i64 o.up,.int .i64 o.pos,.string o.text] 28
abbrev oN (e:Entry):Obj:=.cells #[.int .i64 e.who,.int .i64 e.seq,.int .i64 e.op.kind,.int .i64 e.op.id,.int .i64 e.op.up,.int .i64 e.op.pos,.string e.op.text] 35
def isRoot (id:Int):Bool:=decide (1≤id∧id≤3)
def isMade (id:Int):Bool:=decide (11≤id∧id≤16∨21≤id∧id≤26∨31≤id∧id≤36)
def whoOf (id:Int):Int:=if isMade id then id / 10 else 0
def isWho (a:Int):Bool:=decide (1≤a∧a≤3)
def rowMade (who n:Int):Int:=if 1≤who∧who≤3∧1≤n∧n≤6 then 10*who+n else 0
def letter (c:UInt8):Bool:=decide (97≤c.toNat∧c.toNat≤100)
def textOk (s:ByteArray):Bool:=decide (s.size≤4)&&s.data.toList.all letter
def rowOk (r:Row):Bool:=if isRoot r.id then decide (r.depth=0)&&decide (r.text=⟨#[]⟩) else isMade r.id&&decide (1≤r.depth∧r.depth≤18)&&textOk r.text
theorem isRoot_iff (id:Int):isRoot id=true↔1≤id∧id≤3:=by simp [isRoot]
theorem isMade_iff (id:Int):isMade id=true↔11≤id∧id≤16∨21≤id∧id≤26∨31≤id∧id≤36:=by simp [isMade]
theorem not_both (id:Int) (h:isRoot id=true):isMade id=false:=by
 rw [isRoot_iff] at h;simp [isMade];omega
theorem made_not_root (id:Int) (h:isMade id=true):isRoot id=false:=by
 rw [isMade_iff] at h;simp [isRoot];omega
def ownerOf (id:Int):Int:=if isRoot id then 1 else if isMade id then id / 10+1 else 0
def placeOk (up pos:Int):Bool:=(isMade up || isRoot up)&&(decide (pos=0) || isMade pos)
def opOk (o:Op):Bool:=
 isMade o.id &&
  if o.kind=1 then placeOk o.up o.pos&&textOk o.text
  else if o.kind=2 then decide (o.up=0)&&decide (o.pos=0)&&textOk o.text
  else if o.kind=3 then placeOk o.up o.pos&&decide (o.text=⟨#[]⟩)
  else false
def entryOk (e:Entry):Bool:=isWho e.who&&decide (1≤e.seq∧e.seq≤40)&&opOk e.op&&(decide (e.op.kind≠1) || decide (whoOf e.op.id=e.who))
/-! ### outlines -/
def treeOkF (seen:List Int) (roots depth:Int):List Row→Bool
 |[]=>decide (roots=3)
 |r::rest=>rowOk r&&!(seen.contains r.id)&&decide (r.depth≤depth+1) &&
   (if isRoot r.id then decide (r.id=roots+1)&&treeOkF (r.id::seen) (roots+1) r.depth rest else treeOkF (r.id::seen) roots r.depth rest)
def treeOk (t:List Row):Bool:=treeOkF [] 0 (-1) t
def treeNew:List Row:=[⟨1,0,⟨#[]⟩⟩,⟨2,0,⟨#[]⟩⟩,⟨3,0,⟨#[]⟩⟩]
/-! ### the log -/
def cntW (l:List Entry) (who:Int):Nat:=l.countP (fun e=>e.who == who)
def goodAt (l:List Entry) (i:Nat):Bool:=match l[i]? with
 |some e=>entryOk e&&decide (e.seq=cntW (l.take i) e.who+1)
 |none=>true
def logOk (l:List Entry):Bool:=decide (l.length≤40)&&(List.range l.length).all (goodAt l)
theorem cntW_le (l:List Entry) (who:Int):cntW l who≤l.length:=List.countP_le_length
theorem cntW_snoc (l:List Entry) (e:Entry) (who:Int):cntW (l++[e]) who=cntW l who+if e.who=who then 1 else 0:=by
 simp [cntW,List.countP_append,List.countP_cons]
theorem cntW_take (l:List Entry) (k:Nat) (hk:k<l.length) (who:Int):cntW (l.take (k+1)) who=cntW (l.take k) who+if l[k].who=who then 1 else 0:=by
 rw [List.take_succ_eq_append_getElem hk,cntW_snoc]
theorem goodAt_lt (l:List Entry) (k:Nat) (hk:k<l.length):goodAt l k=(entryOk l[k]&&decide (l[k].seq=cntW (l.take k) l[k].who+1)):=by
 simp [goodAt,List.getElem?_eq_getElem hk]
theorem logOk_false (l:List Entry) (k:Nat) (hk:k<l.length) (h:goodAt l k=false):logOk l=false:=by
 have:(List.range l.length).all (goodAt l)=false:=by
  rw [List.all_eq_false];exact ⟨k,List.mem_range.2 hk,by simp [h]⟩
 simp [logOk,this]
theorem logOk_true (l:List Entry) (h0:l.length≤40) (h:∀ k,k<l.length→goodAt l k=true):logOk l=true:=by
 simp [logOk,h0];exact h
theorem logOk_iff (l:List Entry):logOk l=true↔l.length≤40∧∀ k,k<l.length→goodAt l k=true:=by simp [logOk]
open Go.RowKit
def Tab (w:World):Prop:=∀ id:Int,0≤id→id<37→w.cell? ⟨0,id.toNat,none⟩=some (.int .i64 (ownerOf id))
theorem whoOk_c (a:Int) (w:World) :
  Calls Tryz.prog 45 #[.int .i64 a] w fun e w'=>e=.returned (.bool (isWho a))∧w'=w:=by
 by_cases h1:1≤a <;> by_cases h2:a≤3
 all_goals
  go_enter Tryz.func45,Tryz.ntmps45
  go_wp2
  go_ret
  exact ⟨by simp [isWho,h1,h2],rfl⟩
theorem rowWho_c (id:Int) (w:World) (ht:Tab w) :
  Calls Tryz.prog 77 #[.int .i64 id] w fun e w'=>e=.returned (.tuple #[.int .i64 (whoOf id),.bool (isRoot id || isMade id)])∧w'=w:=by
 by_cases h0:0≤id
 ·by_cases h1:id<37
  ·have hc:=ht id h0 h1
   clear ht
   cases hr:isRoot id
   ·cases hm:isMade id
    ·have h2:ownerOf id=0:=by simp [ownerOf,hr,hm]
     have hw:whoOf id=0:=by simp [whoOf,hm]
     rw [h2] at hc
     rw [hw]
     clear h2 hw
     go_enter Tryz.func77,Tryz.ntmps77
     go_wp2
     go_ret2
     exact ⟨rfl,rfl⟩
    ·have h2:ownerOf id=id / 10+1:=by simp [ownerOf,hr,hm]
     have hw:whoOf id=id / 10:=by simp [whoOf,hm]
     rw [h2] at hc
     rw [hw]
     have h3:((id / 10+1:Int) == 0)=false:=beq_eq_false_iff_ne.2 (by omega)
     have h4:wrap64 (id / 10+1 - 1)=id / 10:=by unfold wrap64;omega
     clear h2 hw
     go_enter Tryz.func77,Tryz.ntmps77
     go_wp2
     go_ret2
     exact ⟨by simp,rfl⟩
   ·have hm:=not_both id hr
    have h2:ownerOf id=1:=by simp [ownerOf,hr]
    have hw:whoOf id=0:=by simp [whoOf,hm]
    rw [h2] at hc
    rw [hw]
    clear h2 hw
    go_enter Tryz.func77,Tryz.ntmps77
    go_wp2
    go_ret2
    exact ⟨by simp,rfl⟩
  ·have hm:isMade id=false:=by simp [isMade];omega
   have hr:isRoot id=false:=by simp [isRoot];omega
   have hw:whoOf id=0:=by simp [whoOf,hm]
   rw [hw,hm,hr]
   clear hw ht
   go_enter Tryz.func77,Tryz.ntmps77
   go_wp2
   go_ret2
   exact ⟨rfl,rfl⟩
 ·have hm:isMade id=false:=by simp [isMade];omega
  have hr:isRoot id=false:=by simp [isRoot];omega
  have hw:whoOf id=0:=by simp [whoOf,hm]
  rw [hw,hm,hr]
  clear hw ht
  go_enter Tryz.func77,Tryz.ntmps77
  go_wp2
  go_ret2
  exact ⟨rfl,rfl⟩
theorem isRoot_c (id:Int) (w:World) (ht:Tab w) :
  Calls Tryz.prog 88 #[.int .i64 id] w fun e w'=>e=.returned (.bool (isRoot id))∧w'=w:=by
 have hc:=rowWho_c id w ht
 clear ht
 cases hr:isRoot id
 ·cases hm:isMade id
  ·rw [hr,hm] at hc
   have HC:=Lib.hid hc;clear hc
   go_enter Tryz.func88,Tryz.ntmps88
   go_wp2_with (go_at_call 77;refine HC.out.mono ?_;rintro e w' ⟨rfl,rfl⟩)
   go_ret
   exact ⟨rfl,rfl⟩
  ·rw [hr,hm] at hc
   have hw:(whoOf id == 0)=false:=by rw [isMade_iff] at hm;simp [whoOf,isMade];omega
   have HC:=Lib.hid hc;clear hc
   go_enter Tryz.func88,Tryz.ntmps88
   go_wp2_with (go_at_call 77;refine HC.out.mono ?_;rintro e w' ⟨rfl,rfl⟩)
   go_ret
   exact ⟨rfl,rfl⟩
 ·have hm:=not_both id hr
  have hw:whoOf id=0:=by simp [whoOf,hm]
  rw [hr,hm,hw] at hc
  clear hw
  have HC:=Lib.hid hc;clear hc
  go_enter Tryz.func88,Tryz.ntmps88
  go_wp2_with (go_at_call 77;refine HC.out.mono ?_;rintro e w' ⟨rfl,rfl⟩)
  go_ret
  exact ⟨rfl,rfl⟩
theorem isMade_c (id:Int) (w:World) (ht:Tab w) :
  Calls Tryz.prog 79 #[.int .i64 id] w fun e w'=>e=.returned (.bool (isMade id))∧w'=w:=by
 have hc:=rowWho_c id w ht
 clear ht
 cases hm:isMade id
 ·have hw:whoOf id=0:=by simp [whoOf,hm]
  rw [hm,hw] at hc
  clear hw
  cases hr:isRoot id
  all_goals
   rw [hr] at hc
   have HC:=Lib.hid hc;clear hc
   go_enter Tryz.func79,Tryz.ntmps79
   go_wp2_with (go_at_call 77;refine HC.out.mono ?_;rintro e w' ⟨rfl,rfl⟩)
   go_ret
   exact ⟨rfl,rfl⟩
 ·have hr:=made_not_root id hm
  rw [hr,hm] at hc
  have hw:(whoOf id != 0)=true:=by rw [isMade_iff] at hm;simp [whoOf,isMade];omega
  have HC:=Lib.hid hc;clear hc
  go_enter Tryz.func79,Tryz.ntmps79
  go_wp2_with (go_at_call 77;refine HC.out.mono ?_;rintro e w' ⟨rfl,rfl⟩)
  go_ret
  exact ⟨rfl,rfl⟩
open Go.RowKit
abbrev Ext (w w':World):Prop:=Below w.heap.size w w'
theorem bcell {B:Nat} {W w1:World} (hb:Below B W w1):(∀ b o,b<B→w1.cell? ⟨b,o,none⟩=W.cell? ⟨b,o,none⟩)∧(∀ b o,b<B→w1.frozen? ⟨b,o,none⟩=W.frozen? ⟨b,o,none⟩):=
 ⟨fun b o h=>hb.cell (p:=⟨b,o,none⟩) h,fun b o h=>hb.frozen (p:=⟨b,o,none⟩) h⟩
theorem Tab.below {B:Nat} {w w':World} (h:Tab w) (hb:Below B w w') (hB:0<B):Tab w':=fun id h0 h1=>(hb.cell (p:=⟨0,id.toNat,none⟩) hB).trans (h id h0 h1)
theorem Tab.pos {w:World} (h:Tab w):0<w.heap.size:=World.block_lt_of_cell? w ⟨0,0,none⟩ (h 0 (by omega) (by omega))
theorem take_all (s:ByteArray) (k:Nat) (h:k<s.size):((s.data.toList.take (k+1)).all letter)=((s.data.toList.take k).all letter&&letter s[k]):=by
 rw [List.take_succ_eq_append_getElem (by simpa using h),List.all_append];simp;rfl
theorem all_bad (l:List UInt8) (k:Nat) (h:k<l.length) (hb:letter l[k]=false):l.all letter=false:=by
 rw [List.all_eq_false];exact ⟨l[k],List.getElem_mem h,by simp [hb]⟩
set_option maxHeartbeats 400000 in
theorem textOk_c (s:ByteArray) (w:World) (hs:s.size≤maxLen) :
  Calls Tryz.prog 81 #[.string s] w fun e w'=>e=.returned (.bool (textOk s))∧w'=w:=by
 unfold maxLen at hs
 by_cases h4:s.size≤4
 ·go_enter Tryz.func81,Tryz.ntmps81
  go_wp2
  go_loop [3] (fun i=>∃ k:Nat,k≤s.size∧i=.int .i64 k∧(s.data.toList.take k).all letter=true) (fun i=>s.size - (intOf i).toNat)
  case atStart=>exact ⟨0,Nat.zero_le _,rfl,by simp⟩
  case round=>
   obtain ⟨k,hk,rfl,ha⟩:=hrel
   have HA:=Lib.hid ha;clear ha
   by_cases hlt:k<s.size
   ·have HT:=Lib.hid (take_all s k hlt)
    cases hl:letter s[k]
    ·have HB:=Lib.hid (all_bad s.data.toList k (by simpa using hlt) hl)
     have hl':¬(97≤s[k].toNat∧s[k].toNat≤100):=by simpa [letter] using hl
     clear hl
     by_cases h1:(s[k].toNat:Int)<97
     ·go_wp2
      go_ret
      exact ⟨by rw [textOk,HB.out,Bool.and_false];rfl,rfl⟩
     ·have h2:(100:Int)<(s[k].toNat:Int):=by omega
      go_wp2
      go_ret
      exact ⟨by rw [textOk,HB.out,Bool.and_false];rfl,rfl⟩
    ·have HL:=Lib.hid hl
     have hl':(97≤s[k].toNat∧s[k].toNat≤100):=by simpa [letter] using hl
     clear hl
     have h1:¬(s[k].toNat:Int)<97:=by omega
     have h2:¬(100:Int)<(s[k].toNat:Int):=by omega
     go_wp2
     go_round
     case rel=>exact ⟨k+1,by omega,by go_num,by rw [HT.out,HA.out,HL.out];rfl⟩
     case measure=>simp [intOf];omega
   ·go_wp2
    go_ret
    exact ⟨by rw [textOk,decide_eq_true h4,Bool.true_and,←HA.out,List.take_of_length_le (by simp;omega)];rfl,rfl⟩
 ·go_enter Tryz.func81,Tryz.ntmps81
  go_wp2
  go_ret
  exact ⟨by simp [textOk,h4],rfl⟩
def Row.val (r:Row):Value:=.agg #[.int .i64 r.id,.int .i64 r.depth,.string r.text]
def Op.val (o:Op):Value:=.agg #[.int .i64 o.kind,.int .i64 o.id,.int .i64 o.up,.int .i64 o.pos,.string o.text]
def Entry.val (e:Entry):Value:=.agg #[.int .i64 e.who,.int .i64 e.seq,.int .i64 e.op.kind,.int .i64 e.op.id,.int .i64 e.op.up,.int .i64 e.op.pos,.string e.op.text]
theorem bytes_empty (s:ByteArray):decide (s=⟨#[]⟩)=s.toList.isEmpty:=by
 exact decide_eq_emptyBytes s
theorem rowOk_c (a b:Int) (s:ByteArray) (w:World) (ht:Tab w) (hs:s.size≤maxLen) :
  Calls Tryz.prog 87 #[.agg #[.int .i64 a,.int .i64 b,.string s]] w fun e w'=>e=.returned (.bool (rowOk ⟨a,b,s⟩))∧Ext w w':=by
 have hi:=isRoot_c a (w.alloc (.cells #[.int .i64 a,.int .i64 b,.string s] 46)) (ht.below ((Below.refl _ _).alloc (Nat.le_refl _) _) ht.pos)
 have hm:=isMade_c a (w.alloc (.cells #[.int .i64 a,.int .i64 b,.string s] 46)) (ht.below ((Below.refl _ _).alloc (Nat.le_refl _) _) ht.pos)
 have hx:=textOk_c s (w.alloc (.cells #[.int .i64 a,.int .i64 b,.string s] 46)) hs
 cases hr:isRoot a
 ·rw [hr] at hi
  cases hmm:isMade a
  ·rw [hmm] at hm
   have HI:=Lib.hid hi;have HM:=Lib.hid hm;have HX:=Lib.hid hx;clear hi hm hx ht
   go_enter Tryz.func87,Tryz.ntmps87
   go_wp2_with (first | (go_at_call 88;refine HI.out.mono ?_;rintro e w' ⟨rfl,rfl⟩) | (go_at_call 79;refine HM.out.mono ?_;rintro e w' ⟨rfl,rfl⟩) | (go_at_call 81;refine HX.out.mono ?_;rintro e w' ⟨rfl,rfl⟩))
   go_ret
   exact ⟨by simp [rowOk,hr,hmm],(Below.refl _ _).alloc (Nat.le_refl _) _⟩
  ·rw [hmm] at hm
   have HI:=Lib.hid hi;have HM:=Lib.hid hm;have HX:=Lib.hid hx;clear hi hm hx ht
   by_cases h1:1≤b∧b≤18
   ·obtain ⟨h1,h2⟩:=h1
    go_enter Tryz.func87,Tryz.ntmps87
    go_wp2_with (first | (go_at_call 88;refine HI.out.mono ?_;rintro e w' ⟨rfl,rfl⟩) | (go_at_call 79;refine HM.out.mono ?_;rintro e w' ⟨rfl,rfl⟩) | (go_at_call 81;refine HX.out.mono ?_;rintro e w' ⟨rfl,rfl⟩))
    go_ret
    exact ⟨by simp [rowOk,hr,hmm,h1,h2],(Below.refl _ _).alloc (Nat.le_refl _) _⟩
   ·go_enter Tryz.func87,Tryz.ntmps87
    go_wp2_with (first | (go_at_call 88;refine HI.out.mono ?_;rintro e w' ⟨rfl,rfl⟩) | (go_at_call 79;refine HM.out.mono ?_;rintro e w' ⟨rfl,rfl⟩))
    all_goals go_ret
    all_goals exact ⟨by simp [rowOk,hr,hmm];omega,(Below.refl _ _).alloc (Nat.le_refl _) _⟩
 ·rw [hr] at hi
  have hmm:=not_both a hr
  have HX:=Lib.hid hx;clear hx hm
  cases hb:(b == 0)
  ·have hb':b≠0:=beq_eq_false_iff_ne.1 hb
   have HI:=Lib.hid hi;clear hi
   go_enter Tryz.func87,Tryz.ntmps87
   go_wp2_with (go_at_call 88;refine HI.out.mono ?_;rintro e w' ⟨rfl,rfl⟩)
   go_ret
   exact ⟨by simp [rowOk,hr,hb'],(Below.refl _ _).alloc (Nat.le_refl _) _⟩
  ·have hb':b=0:=beq_iff_eq.1 hb
   have HI:=Lib.hid hi;have HB:=Lib.hid hb';clear hi hb'
   go_enter Tryz.func87,Tryz.ntmps87
   go_wp2_with (go_at_call 88;refine HI.out.mono ?_;rintro e w' ⟨rfl,rfl⟩)
   go_ret
   exact ⟨by simp [rowOk,hr,HB.out,bytes_empty],(Below.refl _ _).alloc (Nat.le_refl _) _⟩
theorem placeOk_c (a b:Int) (w:World) (ht:Tab w) :
  Calls Tryz.prog 80 #[.int .i64 a,.int .i64 b] w fun e w'=>e=.returned (.bool (placeOk a b))∧w'=w:=by
 have h1:=isMade_c a w ht
 have h2:=isRoot_c a w ht
 have h3:=isMade_c b w ht
 clear ht
 cases ha:isMade a <;> cases hr:isRoot a <;> cases hb:(b == 0) <;> cases hm:isMade b
 all_goals
  rw [ha] at h1;rw [hr] at h2;rw [hm] at h3
  have hq:decide (b=0)=(b == 0):=by rw [Bool.eq_iff_iff];simp
  have HP:=Lib.hid (show placeOk a b=((isMade a || isRoot a)&&((b == 0) || isMade b)) by rw [placeOk,hq])
  have H1:=Lib.hid h1;have H2:=Lib.hid h2;have H3:=Lib.hid h3;have HA:=Lib.hid ha;have HR:=Lib.hid hr;have HM:=Lib.hid hm;have HB:=Lib.hid hb
  clear h1 h2 h3 ha hr hm hq
  go_enter Tryz.func80,Tryz.ntmps80
  go_wp2_with (first | (go_at_call 88;refine H2.out.mono ?_;rintro e w' ⟨rfl,rfl⟩) | (go_at_call 79;first | (with_reducible refine H1.out.mono ?_;rintro e w' ⟨rfl,rfl⟩) | (with_reducible refine H3.out.mono ?_;rintro e w' ⟨rfl,rfl⟩)))
  go_ret
  exact ⟨by rw [HP.out,HA.out,HR.out,HM.out,HB.out];rfl,rfl⟩
def Op.chg (o:Op):Value:=
 if isMade o.id then
  if o.kind=1 then .iface 129 (.agg #[.int .i64 o.id,.int .i64 o.up,.int .i64 o.pos,.string o.text])
  else if o.kind=2 then .iface 132 (.agg #[.int .i64 o.id,.string o.text])
  else if o.kind=3 then .iface 134 (.agg #[.int .i64 o.id,.int .i64 o.up,.int .i64 o.pos])
  else .nilIface
 else .nilIface
open Go.RowKit
theorem Tab.drewN {w:World} (h:Tab w) (n:Nat):Tab (w.drewN n):=fun id h0 h1=>h id h0 h1
theorem Tab.alloc {w:World} (h:Tab w) (o:Obj):Tab (w.alloc o):=h.below ((Below.refl _ _).alloc (Nat.le_refl _) _) h.pos
theorem Ext.drewN {B:Nat} {w w':World} (h:Below B w w') (n:Nat):Below B w (w'.drewN n):=⟨h.os,h.tape,h.output,h.size,h.block⟩
theorem Ext.drew {B:Nat} {w w':World} (h:Below B w w'):Below B w w'.drew:=⟨h.os,h.tape,h.output,h.size,h.block⟩
theorem changeOf_make (o:Op) (w:World) (ht:Tab w) (hs:o.text.size≤maxLen) (hm:isMade o.id=true) (hk:o.kind=1) :
  Calls Tryz.prog 41 #[o.val] w fun e w'=>e=.returned (.tuple #[o.chg,.bool (opOk o)])∧Ext w w':=by
 obtain ⟨k,a,up,pos,s⟩:=o
 subst hk
 have hc:Op.chg ⟨1,a,up,pos,s⟩=.iface 129 (.agg #[.int .i64 a,.int .i64 up,.int .i64 pos,.string s]):=by simp [Op.chg,hm]
 have hv:opOk ⟨1,a,up,pos,s⟩=(placeOk up pos&&textOk s):=by simp [opOk,hm]
 rw [hc,hv]
 clear hc hv
 simp only [Op.val]
 have HT:=Lib.hid ((ht.alloc (.cells #[.int .i64 1,.int .i64 a,.int .i64 up,.int .i64 pos,.string s] 28)))
 have hM:=isMade_c a (w.alloc (.cells #[.int .i64 1,.int .i64 a,.int .i64 up,.int .i64 pos,.string s] 28)) HT.out
 rw [show isMade a=true from hm] at hM
 have HM:=Lib.hid hM;have HS:=Lib.hid hs
 clear ht hM hs hm
 cases hp:placeOk up pos
 all_goals
  have hP:∀ n,Calls Tryz.prog 80 #[.int .i64 up,.int .i64 pos] ((w.alloc (.cells #[.int .i64 1,.int .i64 a,.int .i64 up,.int .i64 pos,.string s] 28)).drewN n) _:=fun n=>placeOk_c up pos _ (HT.out.drewN n)
  rw [hp] at hP
  have HP:=Lib.hid hP;clear hP hp
  go_enter Tryz.func41,Tryz.ntmps41
  go_wp2_with (go_at_call 79;refine HM.out.mono ?_;rintro e w' ⟨rfl,rfl⟩)
  go_quiet (first | (go_at_call 80;exact Calls.quiet_of_same (HP.out _)) | (go_at_call 81;exact Calls.quiet_of_same (textOk_c _ _ HS.out)))
  go_wp2
  go_ret2
  exact ⟨by simp,Ext.drewN ((Below.refl _ _).alloc (Nat.le_refl _) _) _⟩
theorem changeOf_text (o:Op) (w:World) (ht:Tab w) (hs:o.text.size≤maxLen) (hm:isMade o.id=true) (hk:o.kind=2) :
  Calls Tryz.prog 41 #[o.val] w fun e w'=>e=.returned (.tuple #[o.chg,.bool (opOk o)])∧Ext w w':=by
 obtain ⟨k,a,up,pos,s⟩:=o
 subst hk
 have hc:Op.chg ⟨2,a,up,pos,s⟩=.iface 132 (.agg #[.int .i64 a,.string s]):=by simp [Op.chg,hm]
 have hv:opOk ⟨2,a,up,pos,s⟩=((up == 0)&&(pos == 0)&&textOk s):=by simp [opOk,hm];rw [Bool.eq_iff_iff];simp
 rw [hc,hv]
 clear hc hv
 simp only [Op.val]
 have HT:=Lib.hid ((ht.alloc (.cells #[.int .i64 2,.int .i64 a,.int .i64 up,.int .i64 pos,.string s] 28)))
 have hM:=isMade_c a (w.alloc (.cells #[.int .i64 2,.int .i64 a,.int .i64 up,.int .i64 pos,.string s] 28)) HT.out
 rw [show isMade a=true from hm] at hM
 have HM:=Lib.hid hM;have HS:=Lib.hid hs
 clear ht hM hs hm
 cases h1:(up == 0) <;> cases h2:(pos == 0)
 all_goals
  go_enter Tryz.func41,Tryz.ntmps41
  go_wp2_with (go_at_call 79;refine HM.out.mono ?_;rintro e w' ⟨rfl,rfl⟩)
  go_quiet ((go_at_call 81;exact Calls.quiet_of_same (textOk_c _ _ HS.out)))
  go_wp2
  go_ret2
  exact ⟨by simp,Ext.drewN ((Below.refl _ _).alloc (Nat.le_refl _) _) _⟩
theorem changeOf_move (o:Op) (w:World) (ht:Tab w) (hs:o.text.size≤maxLen) (hm:isMade o.id=true) (hk:o.kind=3) :
  Calls Tryz.prog 41 #[o.val] w fun e w'=>e=.returned (.tuple #[o.chg,.bool (opOk o)])∧Ext w w':=by
 obtain ⟨k,a,up,pos,s⟩:=o
 subst hk
 have hc:Op.chg ⟨3,a,up,pos,s⟩=.iface 134 (.agg #[.int .i64 a,.int .i64 up,.int .i64 pos]):=by simp [Op.chg,hm]
 have hv:opOk ⟨3,a,up,pos,s⟩=(placeOk up pos&&s.toList.isEmpty):=by simp [opOk,hm,bytes_empty]
 rw [hc,hv]
 clear hc hv
 simp only [Op.val]
 have HT:=Lib.hid ((ht.alloc (.cells #[.int .i64 3,.int .i64 a,.int .i64 up,.int .i64 pos,.string s] 28)))
 have hM:=isMade_c a (w.alloc (.cells #[.int .i64 3,.int .i64 a,.int .i64 up,.int .i64 pos,.string s] 28)) HT.out
 rw [show isMade a=true from hm] at hM
 have HM:=Lib.hid hM
 clear ht hM hs hm
 cases hp:placeOk up pos
 all_goals
  have hP:∀ n,Calls Tryz.prog 80 #[.int .i64 up,.int .i64 pos] ((w.alloc (.cells #[.int .i64 3,.int .i64 a,.int .i64 up,.int .i64 pos,.string s] 28)).drewN n) _:=fun n=>placeOk_c up pos _ (HT.out.drewN n)
  rw [hp] at hP
  have HP:=Lib.hid hP;clear hP hp
  go_enter Tryz.func41,Tryz.ntmps41
  go_wp2_with (go_at_call 79;refine HM.out.mono ?_;rintro e w' ⟨rfl,rfl⟩)
  go_quiet ((go_at_call 80;exact Calls.quiet_of_same (HP.out _)))
  go_wp2
  go_ret2
  exact ⟨by simp,Ext.drewN ((Below.refl _ _).alloc (Nat.le_refl _) _) _⟩
theorem changeOf_none (o:Op) (w:World) (ht:Tab w) (hb:isMade o.id=false∨o.kind≠1∧o.kind≠2∧o.kind≠3) :
  Calls Tryz.prog 41 #[o.val] w fun e w'=>e=.returned (.tuple #[o.chg,.bool (opOk o)])∧Ext w w':=by
 obtain ⟨k,a,up,pos,s⟩:=o
 simp only at hb
 have hc:Op.chg ⟨k,a,up,pos,s⟩=.nilIface:=by
  rcases hb with h | ⟨h1,h2,h3⟩
  ·simp [Op.chg,h]
  ·simp [Op.chg,h1,h2,h3]
 have hv:opOk ⟨k,a,up,pos,s⟩=false:=by
  rcases hb with h | ⟨h1,h2,h3⟩
  ·simp [opOk,h]
  ·simp [opOk,h1,h2,h3]
 rw [hc,hv]
 clear hc hv
 simp only [Op.val]
 have HT:=Lib.hid ((ht.alloc (.cells #[.int .i64 k,.int .i64 a,.int .i64 up,.int .i64 pos,.string s] 28)))
 have hM:=isMade_c a (w.alloc (.cells #[.int .i64 k,.int .i64 a,.int .i64 up,.int .i64 pos,.string s] 28)) HT.out
 cases hm:isMade a
 ·rw [hm] at hM
  have HM:=Lib.hid hM
  clear ht hM hm hb
  go_enter Tryz.func41,Tryz.ntmps41
  go_wp2_with (go_at_call 79;refine HM.out.mono ?_;rintro e w' ⟨rfl,rfl⟩)
  go_ret2
  exact ⟨rfl,(Below.refl _ _).alloc (Nat.le_refl _) _⟩
 ·have h123:k≠1∧k≠2∧k≠3:=by
   rcases hb with h | h
   ·rw [hm] at h;cases h
   ·exact h
  obtain ⟨h1,h2,h3⟩:=h123
  have b1:(k == 1)=false:=beq_eq_false_iff_ne.2 h1
  have b2:(k == 2)=false:=beq_eq_false_iff_ne.2 h2
  have b3:(k == 3)=false:=beq_eq_false_iff_ne.2 h3
  rw [hm] at hM
  have HM:=Lib.hid hM
  clear ht hM hm hb h1 h2 h3
  go_enter Tryz.func41,Tryz.ntmps41
  go_wp2_with (go_at_call 79;refine HM.out.mono ?_;rintro e w' ⟨rfl,rfl⟩)
  go_ret2
  exact ⟨rfl,(Below.refl _ _).alloc (Nat.le_refl _) _⟩
theorem changeOf_c (o:Op) (w:World) (ht:Tab w) (hs:o.text.size≤maxLen) :
  Calls Tryz.prog 41 #[o.val] w fun e w'=>e=.returned (.tuple #[o.chg,.bool (opOk o)])∧Ext w w':=by
 by_cases hb:isMade o.id=false∨o.kind≠1∧o.kind≠2∧o.kind≠3
 ·exact changeOf_none o w ht hb
 ·have hm:isMade o.id=true:=by
   cases h:isMade o.id
   ·exact absurd (.inl h) hb
   ·rfl
  by_cases h1:o.kind=1
  ·exact changeOf_make o w ht hs hm h1
  ·by_cases h2:o.kind=2
   ·exact changeOf_text o w ht hs hm h2
   ·by_cases h3:o.kind=3
    ·exact changeOf_move o w ht hs hm h3
    ·exact absurd (.inr ⟨h1,h2,h3⟩) hb
theorem opOk_c (o:Op) (w:World) (ht:Tab w) (hs:o.text.size≤maxLen) :
  Calls Tryz.prog 76 #[o.val] w fun e w'=>e=.returned (.bool (opOk o))∧Ext w w':=by
 have hC:=changeOf_c o (w.alloc (oO o)) (ht.alloc _) hs
 have HC:=Lib.hid hC
 clear hC ht hs
 simp only [Op.val] at HC ⊢
 go_enter Tryz.func76,Tryz.ntmps76
 go_wp2_with (go_at_call 41;refine HC.out.mono ?_;rintro e w' ⟨rfl,hb⟩)
 go_ret
 exact ⟨rfl,((Below.refl _ _).alloc (Nat.le_refl _) _).trans (hb.mono (by simp))⟩
set_option maxHeartbeats 1000000 in
theorem entryOk_c (e:Entry) (w:World) (ht:Tab w) (hs:e.op.text.size≤maxLen) :
  Calls Tryz.prog 35 #[e.val] w fun x w'=>x=.returned (.bool (entryOk e))∧Ext w w':=by
 obtain ⟨who,seq,k,a,up,pos,s⟩:=e
 simp only [Entry.val]
 have ht1:=ht.alloc (.cells #[.int .i64 who,.int .i64 seq,.int .i64 k,.int .i64 a,.int .i64 up,.int .i64 pos,.string s] 35)
 have hW:=whoOk_c who (w.alloc (.cells #[.int .i64 who,.int .i64 seq,.int .i64 k,.int .i64 a,.int .i64 up,.int .i64 pos,.string s] 35))
 have hO:=opOk_c ⟨k,a,up,pos,s⟩ (w.alloc (.cells #[.int .i64 who,.int .i64 seq,.int .i64 k,.int .i64 a,.int .i64 up,.int .i64 pos,.string s] 35)) ht1 hs
 simp only [Op.val] at hO
 cases hw:isWho who
 ·rw [hw] at hW
  have HW:=Lib.hid hW;clear hW hO ht ht1 hs
  go_enter Tryz.func35,Tryz.ntmps35
  go_wp2_with (go_at_call 45;refine HW.out.mono ?_;rintro e w' ⟨rfl,rfl⟩)
  go_ret
  exact ⟨by simp [entryOk,hw],(Below.refl _ _).alloc (Nat.le_refl _) _⟩
 ·rw [hw] at hW
  have HW:=Lib.hid hW
  by_cases hq:1≤seq∧seq≤40
  ·obtain ⟨hq1,hq2⟩:=hq
   cases ho:opOk ⟨k,a,up,pos,s⟩
   ·rw [ho] at hO
    have HO:=Lib.hid hO;clear hW hO ht ht1 hs
    go_enter Tryz.func35,Tryz.ntmps35
    go_wp2_with (first | (go_at_call 45;refine HW.out.mono ?_;rintro e w' ⟨rfl,rfl⟩) | (go_at_call 76;refine HO.out.mono ?_;rintro e w' ⟨rfl,hb⟩))
    go_ret
    exact ⟨by simp [entryOk,ho],((Below.refl _ _).alloc (Nat.le_refl _) _).trans (hb.mono (by simp))⟩
   ·rw [ho] at hO
    have HO:=Lib.hid hO
    have HT:=Lib.hid ht1
    have hv:entryOk ⟨who,seq,k,a,up,pos,s⟩=((k != 1) || (whoOf a == who)):=by
     simp [entryOk,ho,hw,hq1,hq2];rw [Bool.eq_iff_iff];simp
    rw [hv]
    clear hW hO ht ht1 hs hv
    cases hk:(k != 1)
    all_goals
     go_enter Tryz.func35,Tryz.ntmps35
     go_wp2_with (first | (go_at_call 45;refine HW.out.mono ?_;rintro e w' ⟨rfl,rfl⟩) | (go_at_call 76;refine HO.out.mono ?_;rintro e w' ⟨rfl,hb⟩;obtain ⟨hc1,hf1⟩:=bcell hb) | (go_at_call 77;refine (rowWho_c a _ (HT.out.below hb (by simp))).mono ?_;rintro e w' ⟨rfl,rfl⟩))
     go_ret
     exact ⟨by simp,((Below.refl _ _).alloc (Nat.le_refl _) _).trans (hb.mono (by simp))⟩
  ·clear hW hO ht ht1 hs
   by_cases hq1:1≤seq
   ·have hq2:40<seq:=by omega
    go_enter Tryz.func35,Tryz.ntmps35
    go_wp2_with (first | (go_at_call 45;refine HW.out.mono ?_;rintro e w' ⟨rfl,rfl⟩))
    go_ret
    exact ⟨by simp [entryOk];omega,(Below.refl _ _).alloc (Nat.le_refl _) _⟩
   ·have hq2:seq<1:=by omega
    go_enter Tryz.func35,Tryz.ntmps35
    go_wp2_with (first | (go_at_call 45;refine HW.out.mono ?_;rintro e w' ⟨rfl,rfl⟩))
    go_ret
    exact ⟨by simp [entryOk];omega,(Below.refl _ _).alloc (Nat.le_refl _) _⟩
open Go.RowKit
/-! ### flat structs -/
def rowE (r:Row):List Value:=[.int .i64 r.id,.int .i64 r.depth,.string r.text]
def entE (e:Entry):List Value:=[.int .i64 e.who,.int .i64 e.seq,.int .i64 e.op.kind,.int .i64 e.op.id,.int .i64 e.op.up,.int .i64 e.op.pos,.string e.op.text]
class Flat (α:Type) where
 enc:α→List Value
 sz:Nat
 len:∀ x,(enc x).length=sz
 one:∀ x,∀ u∈enc x,u.oneCell'=true
 pos:0<sz
 okE:α→Prop
instance:Flat Row:=⟨rowE,3,fun _=>rfl,fun _ u hu=>by simp [rowE] at hu;rcases hu with rfl | rfl | rfl <;> rfl,by omega,fun r=>r.text.size≤maxLen⟩
instance:Flat Entry:=⟨entE,7,fun _=>rfl,fun _ u hu=>by simp [entE] at hu;rcases hu with rfl | rfl | rfl | rfl | rfl | rfl | rfl <;> rfl,by omega,fun e=>e.op.text.size≤maxLen⟩
instance:Flat Int:=⟨fun x=>[.int .i64 x],1,fun _=>rfl,fun _ u hu=>by simp at hu;subst hu;rfl,by omega,fun _=>True⟩
instance:Flat ByteArray:=⟨fun x=>[.string x],1,fun _=>rfl,fun _ u hu=>by simp at hu;subst hu;rfl,by omega,fun s=>s.size≤maxLen⟩
section
variable {α:Type} [Flat α]
open Flat
def flat (l:List α):List Value:=l.flatMap enc
theorem flat_nil:flat ([]:List α)=[]:=rfl
theorem flat_append (l m:List α):flat (l++m)=flat l++flat m:=by simp [flat]
theorem flat_one (x:α):flat [x]=enc x:=by simp [flat]
theorem flat_cons (x:α) (l:List α):flat (x::l)=enc x++flat l:=by simp [flat]
theorem flat_length (l:List α):(flat l).length=l.length*sz α:=by
 induction l with
 |nil=>simp [flat]
 |cons x l ih=>rw [flat_cons,List.length_append,ih,Flat.len,List.length_cons,Nat.add_mul];omega
theorem flat_one_cell (l:List α):∀ u∈flat l,u.oneCell'=true:=by
 intro u hu
 simp only [flat,List.mem_flatMap] at hu
 obtain ⟨x,_,hx⟩:=hu
 exact Flat.one x u hx
theorem flat_at (l:List α) (k:Nat) (hk:k<l.length) (j:Nat) (hj:j<sz α):(flat l)[k*sz α+j]?=(enc l[k])[j]?:=by
 induction l generalizing k with
 |nil=>simp at hk
 |cons x l ih=>
  rw [flat_cons]
  cases k with
  |zero=>simp only [Nat.zero_mul,Nat.zero_add,List.getElem_cons_zero];rw [List.getElem?_append_left (by rw [Flat.len];exact hj)]
  |succ k=>
   have h1:(k+1)*sz α+j=(enc x).length+(k*sz α+j):=by rw [Flat.len,Nat.add_mul];omega
   rw [h1,List.getElem?_append_right (by omega),Nat.add_sub_cancel_left]
   simpa using ih k (by simpa using hk)
theorem flat_take (l:List α) (k:Nat):flat (l.take k)=(flat l).take (k*sz α):=by
 induction l generalizing k with
 |nil=>simp [flat]
 |cons x l ih=>
  cases k with
  |zero=>simp [flat]
  |succ k=>
   rw [List.take_succ_cons,flat_cons,flat_cons,ih,Nat.add_mul,Nat.one_mul,Nat.add_comm,List.take_append,Flat.len]
   rw [List.take_of_length_le (i:=sz α+k*sz α) (by rw [Flat.len];omega),Nat.add_sub_cancel_left]
theorem flat_drop (l:List α) (k:Nat):flat (l.drop k)=(flat l).drop (k*sz α):=by
 induction l generalizing k with
 |nil=>simp [flat]
 |cons x l ih=>
  cases k with
  |zero=>simp [flat]
  |succ k=>
   rw [List.drop_succ_cons,flat_cons,ih,Nat.add_mul,Nat.one_mul,Nat.add_comm (k*sz α),List.drop_append,Flat.len]
   rw [List.drop_of_length_le (i:=sz α+k*sz α) (by rw [Flat.len];omega),Nat.add_sub_cancel_left,List.nil_append]
/-! ### what is read -/
def Rd (w:World) (A:Option Addr) (c:Nat) (l:List α):Prop:=
 l.length≤c∧c≤maxLen∧(0<l.length→∃ b off,A=some ⟨b,off,none⟩∧∀ j v,(flat l)[j]?=some v→w.cell? ⟨b,off+j,none⟩=some v)∧∀ x∈l,okE x
theorem Rd.ok {w:World} {A:Option Addr} {c:Nat} {l:List α} (h:Rd w A c l):∀ x∈l,okE x:=h.2.2.2
theorem Rd.okAt {w:World} {A:Option Addr} {c:Nat} {l:List α} (h:Rd w A c l) (k:Nat) (hk:k<l.length):okE l[k]:=h.2.2.2 _ (List.getElem_mem hk)
theorem Rd.at_ {w:World} {A:Option Addr} {c:Nat} {l:List α} (h:Rd w A c l) (k:Nat) (hk:k<l.length) :
  ∃ b off,A=some ⟨b,off,none⟩∧b<w.heap.size∧∀ j v,(enc l[k])[j]?=some v→w.cell? ⟨b,off+(k*sz α+j),none⟩=some v:=by
 obtain ⟨b,off,rfl,hc⟩:=h.2.2.1 (by omega)
 have key:∀ j v,(enc l[k])[j]?=some v→w.cell? ⟨b,off+(k*sz α+j),none⟩=some v:=by
  intro j v hv
  have hj:j<sz α:=by
   have:=(List.getElem?_eq_some_iff.1 hv).1
   rwa [Flat.len] at this
  exact hc _ v (by rw [flat_at l k hk j hj];exact hv)
 refine ⟨b,off,rfl,?_,key⟩
 have h0:=key 0 ((enc l[k])[0]'(by rw [Flat.len];exact Flat.pos)) (List.getElem?_eq_getElem _)
 exact World.block_lt_of_cell? w _ h0
theorem Rd.mono {w w':World} {A:Option Addr} {c:Nat} {l:List α} (h:Rd w A c l) (hc:∀ a v,w.cell? a=some v→(∀ b off,A=some ⟨b,off,none⟩→a.block=b)→w'.cell? a=some v):Rd w' A c l:=by
 refine ⟨h.1,h.2.1,fun h0=>?_,h.2.2.2⟩
 obtain ⟨b,off,rfl,hh⟩:=h.2.2.1 h0
 exact ⟨b,off,rfl,fun j v hv=>hc _ _ (hh j v hv) (fun b' off' e=>by cases e;rfl)⟩
theorem Rd.ext {w w':World} {A:Option Addr} {c:Nat} {l:List α} (h:Rd w A c l) (hb:Below w.heap.size w w'):Rd w' A c l:=
 h.mono fun a v hv _=>(hb.cell (World.block_lt_of_cell? w a hv)).trans hv
theorem Rd.grown {w w':World} {A:Option Addr} {c:Nat} {l:List α} (h:Rd w A c l) {row:Option Nat} (hg:w.grownBy w' row) (hne:∀ b off,A=some ⟨b,off,none⟩→some b≠row):Rd w' A c l:=by
 refine ⟨h.1,h.2.1,fun h0=>?_,h.2.2.2⟩
 obtain ⟨b,off,rfl,hh⟩:=h.2.2.1 h0
 exact ⟨b,off,rfl,fun j v hv=>hg.cell (hh j v hv) (hne b off rfl)⟩
theorem Rd.alloc {w:World} {A:Option Addr} {c:Nat} {l:List α} (h:Rd w A c l) (o:Obj):Rd (w.alloc o) A c l:=h.ext ((Below.refl _ _).alloc (Nat.le_refl _) o)
theorem Rd.drewN {w:World} {A:Option Addr} {c:Nat} {l:List α} (h:Rd w A c l) (n:Nat):Rd (w.drewN n) A c l:=h
theorem Rd.nil (w:World):Rd w none 0 ([]:List α):=⟨by simp,by simp [maxLen],fun h=>by simp at h,by simp⟩
theorem Rd.take {w:World} {A:Option Addr} {c:Nat} {l:List α} (h:Rd w A c l) (k:Nat):Rd w A c (l.take k):=by
 refine ⟨by rw [List.length_take];have:=h.1;omega,h.2.1,fun h0=>?_,fun x hx=>h.2.2.2 x (List.mem_of_mem_take hx)⟩
 obtain ⟨b,off,rfl,hh⟩:=h.2.2.1 (by rw [List.length_take] at h0;omega)
 refine ⟨b,off,rfl,fun j v hv=>hh j v ?_⟩
 rw [flat_take,List.getElem?_take] at hv
 split at hv
 ·exact hv
 ·cases hv
theorem Rd.drop {w:World} {b off c:Nat} {l:List α} (h:Rd w (some ⟨b,off,none⟩) c l) (k:Nat) (hk:k≤l.length):Rd w (some ⟨b,off+k*sz α,none⟩) (c - k) (l.drop k):=by
 refine ⟨by rw [List.length_drop];have:=h.1;omega,by have:=h.2.1;omega,fun h0=>?_,fun x hx=>h.2.2.2 x (List.mem_of_mem_drop hx)⟩
 obtain ⟨b',off',e,hh⟩:=h.2.2.1 (by rw [List.length_drop] at h0;omega)
 injection e with e;injection e with e1 e2;subst e1;subst e2
 refine ⟨b,off+k*sz α,rfl,fun j v hv=>?_⟩
 rw [flat_drop,List.getElem?_drop] at hv
 rw [Nat.add_assoc]
 exact hh _ v hv
/-! ### what is owned -/
def Own (e:TypeId) (w:World) (base:Nat) (v:Value) (l:List α):Prop:=w.ownsRow base e (sz α) v l.length (flat l)∧∀ x∈l,okE x
theorem Own.rd {e:TypeId} {w:World} {base:Nat} {v:Value} {l:List α} (h:Own e w base v l):∃ A c,v=.slice A l.length c∧Rd w A c l:=by
 rcases h.1.2 with ⟨rfl,h0⟩ | ⟨g,cap,cur,rfl,hb,hh,hn,hc,hs,ht⟩
 ·exact ⟨none,0,by rw [h0],⟨by omega,by simp [maxLen],fun hp=>by omega,h.2⟩⟩
 ·refine ⟨_,cap,rfl,hn,hc,fun h0=>⟨g,0,rfl,fun j v hv=>?_⟩,h.2⟩
  have:=World.ownsRow.cells h.1 (g:=g) rfl j v hv
  have ha:(⟨g,0,none⟩:Addr).add j=⟨g,0+j,none⟩:=by unfold Addr.add;split <;> simp_all
  rwa [ha] at this
theorem Own.below {e:TypeId} {w w':World} {base:Nat} {v:Value} {l:List α} (h:Own e w base v l) (hb:Below w.heap.size w w'):Own e w' base v l:=
 ⟨World.ownsRow.kept (row:=none) h.1 ⟨hb.os,hb.tape,hb.output,hb.size,fun i hi _=>hb.block i hi⟩ (by cases v.ownBlock <;> simp),h.2⟩
theorem Own.grown {e:TypeId} {w w':World} {base:Nat} {v:Value} {l:List α} (h:Own e w base v l) {row:Option Nat} (hg:w.grownBy w' row) (hne:v.ownBlock=none∨v.ownBlock≠row):Own e w' base v l:=⟨World.ownsRow.kept h.1 hg hne,h.2⟩
theorem Own.nil (e:TypeId) (w:World) (base:Nat):Own e w base (.slice none 0 0) ([]:List α):=⟨World.ownsRow_nil _ _ _ _,by simp⟩
theorem Own.lower {e:TypeId} {w:World} {base base':Nat} {v:Value} {l:List α} (h:Own e w base v l) (hb:base'≤base):Own e w base' v l:=by
 refine ⟨⟨h.1.1,?_⟩,h.2⟩
 rcases h.1.2 with h | ⟨g,cap,cur,h1,h2,h3⟩
 ·exact .inl h
 ·exact .inr ⟨g,cap,cur,h1,by omega,h3⟩
theorem Own.blk {e:TypeId} {w:World} {base:Nat} {v:Value} {l:List α} (h:Own e w base v l) (k:Nat) (hk:v.ownBlock=some k):base≤k∧k<w.heap.size:=World.ownsRow.lt h.1 k hk
end
theorem ext_box {w w1:World} {o:Obj} (h:Ext (w.alloc o) w1):Ext w w1:=((Below.refl _ _).alloc (Nat.le_refl _) _).trans (h.mono (by simp))
theorem ext_boxd {w w1:World} {o:Obj} (h:Ext (w.alloc o).drew w1):Ext w w1:=((Below.refl _ _).alloc (Nat.le_refl _) _).drew.trans (h.mono (by simp))
theorem ext_then {B:Nat} {a b c:World} (h:Below B a b) (k:Ext b c) (hB:B≤b.heap.size):Below B a c:=h.trans (k.mono hB)
theorem ent_at {w:World} {A:Option Addr} {c:Nat} {l:List Entry} (h:Rd w A c l) (k:Nat) (hk:k<l.length) :
  ∃ b off,A=some ⟨b,off,none⟩∧b<w.heap.size∧w.cell? ⟨b,off+k*7,none⟩=some (.int .i64 l[k].who)∧w.cell? ⟨b,off+k*7+1,none⟩=some (.int .i64 l[k].seq)∧w.cell? ⟨b,off+k*7+2,none⟩=some (.int .i64 l[k].op.kind) ∧
   w.cell? ⟨b,off+k*7+3,none⟩=some (.int .i64 l[k].op.id)∧w.cell? ⟨b,off+k*7+4,none⟩=some (.int .i64 l[k].op.up)∧w.cell? ⟨b,off+k*7+5,none⟩=some (.int .i64 l[k].op.pos)∧w.cell? ⟨b,off+k*7+6,none⟩=some (.string l[k].op.text):=by
 obtain ⟨b,off,rfl,hb,hc⟩:=h.at_ k hk
 exact ⟨b,off,rfl,hb,hc 0 _ rfl,hc 1 _ rfl,hc 2 _ rfl,hc 3 _ rfl,hc 4 _ rfl,hc 5 _ rfl,hc 6 _ rfl⟩
theorem row_at {w:World} {A:Option Addr} {c:Nat} {l:List Row} (h:Rd w A c l) (k:Nat) (hk:k<l.length) :
  ∃ b off,A=some ⟨b,off,none⟩∧b<w.heap.size∧w.cell? ⟨b,off+k*3,none⟩=some (.int .i64 l[k].id)∧w.cell? ⟨b,off+k*3+1,none⟩=some (.int .i64 l[k].depth)∧w.cell? ⟨b,off+k*3+2,none⟩=some (.string l[k].text):=by
 obtain ⟨b,off,rfl,hb,hc⟩:=h.at_ k hk
 exact ⟨b,off,rfl,hb,hc 0 _ rfl,hc 1 _ rfl,hc 2 _ rfl⟩
theorem grown_of_ext {w w':World} (h:Below w.heap.size w w'):w.grownBy w' none:=⟨h.os,h.tape,h.output,h.size,fun i hi _=>h.block i hi⟩
theorem ext_grown {B:Nat} {w0 w w':World} (h:Below B w0 w) {row:Option Nat} (hg:w.grownBy w' row) (hB:B≤w.heap.size) (hr:∀ k,row=some k→B≤k):Below B w0 w':=h.grown hg hB hr
theorem ext_trans {B:Nat} {a b c:World} (h:Below B a b) (hB:B≤b.heap.size) (k:Below b.heap.size b c):Below B a c:=h.trans (k.mono hB)
/-! ### the tally -/
abbrev intD (n:Int):DataW Unit:=.lit (.int .i64 n)
def Tal (w:World) (b n:Nat) (f:Int→Int):Prop:=
 ∃ D:DataW Unit,w.ownsMap Tryz.prog 3 (plainElem Tryz.prog 3) b n D∧Maps.IsMap D∧∀ x:Int,(Lit.int .i64 x).wf=true→D.atKey (.int .i64 x) (intD 0)=intD (f x)
theorem under_int:Tryz.prog.underlying 3=some (.int .i64):=Tryz.underlying3
theorem zero_int (W:World):(zeroValue 3).run Tryz.prog W=.ok (.int .i64 0) W:=by kernel_rfl
theorem Tal.made (w:World):Tal (w.alloc (.map #[] 0)) w.heap.size 0 (fun _=>0):=
 ⟨.map [],World.ownsMap_made _ _ _ _,Maps.isMap_empty,fun _ _=>rfl⟩
theorem Tal.grown {w w':World} {b n:Nat} {f:Int→Int} (h:Tal w b n f) {row:Option Nat} (hg:w.grownBy w' row) (hne:some b≠row):Tal w' b n f:=by
 obtain ⟨D,h1,h2⟩:=h
 exact ⟨D,h1.kept hg hne,h2⟩
theorem Tal.below {w w':World} {b n:Nat} {f:Int→Int} (h:Tal w b n f) (hb:Below w.heap.size w w'):Tal w' b n f:=h.grown (grown_of_ext hb) (by simp)
theorem Tal.lt {w:World} {b n:Nat} {f:Int→Int} (h:Tal w b n f):b<w.heap.size:=by
 obtain ⟨D,h1,_⟩:=h;exact h1.lt
theorem Tal.look {w:World} {b n:Nat} {f:Int→Int} (h:Tal w b n f) (k:Int) (hk:(Lit.int .i64 k).wf=true) :
  (Instr.lookup 196 (.map (some b)) (.int .i64 k) false).run Tryz.prog w=.ok (.int .i64 (f k)) w:=by
 obtain ⟨D,h1,_,h3⟩:=h
 obtain ⟨c,hrun,hat,_⟩:=h1.lookup_int (t:=196) (q:=.i64) (Maps.int_keyed under_int) Tryz.underlying196 under_int (zero_int w) (Maps.keyOf_int_mk under_int hk)
 have hc:=(h3 k hk).symm.trans hat
 have hc':f k=c:=(Lit.int.inj (DataW.lit.inj hc)).2
 rw [hc']
 exact hrun
def upd (f:Int→Int) (k v:Int):Int→Int:=fun x=>if x=k then v else f x
theorem Tal.put {w:World} {b n:Nat} {f:Int→Int} (h:Tal w b n f) (hn:n<maxLen) (k v:Int) (hk:(Lit.int .i64 k).wf=true) (hv:(Lit.int .i64 v).wf=true) :
  ∃ w',(Instr.mapUpdate 196 (.map (some b)) (.int .i64 k) (.int .i64 v)).run Tryz.prog w=.ok () w'∧Tal w' b (n+1) (upd f k v)∧w.grownBy w' (some b):=by
 obtain ⟨D,h1,h2,h3⟩:=h
 obtain ⟨w',hrun,ho,hg⟩:=h1.update (t:=196) (Maps.int_keyed under_int) Tryz.underlying196 hn (key:=.int .i64 k) (val:=.int .i64 v) (Maps.keyOf_int_mk under_int hk) (plainElem_int under_int hv)
 refine ⟨w',hrun,⟨_,ho,h2.put _ _,fun x hx=>?_⟩,hg⟩
 by_cases he:x=k
 ·subst he
  rw [Maps.atKey_put_same (k:=.int .i64 x) h2 (show WideAt.IsKeyLit (.int .i64 x) from trivial)]
  simp [upd]
 ·rw [Maps.atKey_put_other (k:=.int .i64 k) (k':=.int .i64 x) (fun e=>he (Lit.int.inj e).2),h3 x hx]
  simp [upd,he]
theorem add_c (b n:Nat) (f:Int→Int) (k:Int) (w:World) (h:Tal w b n f) (hn:n<maxLen) (hk:(Lit.int .i64 k).wf=true) (h0:0≤f k) (h1:f k<1000) :
  Calls Tryz.prog 134 #[.map (some b),.int .i64 k] w fun e w'=>e=.returned (.int .i64 (f k+1))∧Tal w' b (n+1) (upd f k (f k+1))∧w.grownBy w' (some b):=by
 have hl:=h.look k hk
 obtain ⟨w1,hp,ht,hg⟩:=h.put hn k (f k+1) hk (WalkArith.wf_i64 (by omega))
 have hl1:=ht.look k hk
 have he:upd f k (f k+1) k=f k+1:=by simp [upd]
 rw [he] at hl1
 clear he
 have HT:=Lib.hid ht;have HG:=Lib.hid hg;clear ht hg h
 go_enter Tryz.func134,Tryz.ntmps134
 go_wp2
 go_ret
 exact ⟨rfl,HT.out,HG.out⟩
inductive T where
 |nil
 |node (id:Int) (tx:ByteArray) (first next:T)
namespace T
def ids:T→List Int
 |nil=>[]
 |node id _ f n=>id::(ids f++ids n)
def rows (d:Int):T→List Row
 |nil=>[]
 |node id tx f n=>⟨id,d,tx⟩::(rows (d+1) f++rows d n)
def chain:T→List Int
 |nil=>[]
 |node id _ _ n=>id::chain n
def get (m:Int):T→Option (ByteArray × T)
 |nil=>none
 |node id tx f n=>if id=m then some (tx,f) else (get m f).or (get m n)
def upOf (m:Int) (up:Option Int):T→Option (Option Int)
 |nil=>none
 |node id tx f n=>if id=m then some up else (upOf m (some id) f).or (upOf m up n)
def cut (m:Int):T→T
 |nil=>nil
 |node id tx f n=>if id=m then n else node id tx (cut m f) (cut m n)
def insF (u:Int) (id:Int) (tx:ByteArray) (s:T):T→T
 |nil=>nil
 |node i x f n=>if i=u then node i x (node id tx s f) n else node i x (insF u id tx s f) (insF u id tx s n)
def insN (a:Int) (id:Int) (tx:ByteArray) (s:T):T→T
 |nil=>nil
 |node i x f n=>if i=a then node i x f (node id tx s n) else node i x (insN a id tx s f) (insN a id tx s n)
def setT (m:Int) (tx:ByteArray):T→T
 |nil=>nil
 |node i x f n=>if i=m then node i tx f n else node i x (setT m tx f) (setT m tx n)
theorem rows_ids (d:Int) (t:T):(rows d t).map (·.id)=ids t:=by
 induction t generalizing d with
 |nil=>rfl
 |node id tx f n ihf ihn=>simp [rows,ids,ihf,ihn]
theorem rows_depth (d:Int) (t:T):∀ r∈rows d t,d≤r.depth:=by
 induction t generalizing d with
 |nil=>simp [rows]
 |node id tx f n ihf ihn=>
  intro r hr
  simp only [rows,List.mem_cons,List.mem_append] at hr
  rcases hr with rfl | hr | hr
  ·exact Int.le_refl _
  ·have:=ihf (d+1) r hr;omega
  ·exact ihn d r hr
theorem rows_head (d:Int) (t:T):∀ r,(rows d t).head?=some r→r.depth=d:=by
 cases t with
 |nil=>simp [rows]
 |node id tx f n=>intro r hr;simp [rows] at hr;rw [←hr]
theorem cut_not (m:Int) (t:T) (h:m∉ids t):cut m t=t:=by
 induction t with
 |nil=>rfl
 |node id tx f n ihf ihn=>
  simp only [ids,List.mem_cons,List.mem_append,not_or] at h
  rw [cut,if_neg (fun e=>h.1 e.symm),ihf h.2.1,ihn h.2.2]
theorem insF_not (u id:Int) (tx:ByteArray) (s t:T) (h:u∉ids t):insF u id tx s t=t:=by
 induction t with
 |nil=>rfl
 |node i x f n ihf ihn=>
  simp only [ids,List.mem_cons,List.mem_append,not_or] at h
  rw [insF,if_neg (fun e=>h.1 e.symm),ihf h.2.1,ihn h.2.2]
theorem insN_not (u id:Int) (tx:ByteArray) (s t:T) (h:u∉ids t):insN u id tx s t=t:=by
 induction t with
 |nil=>rfl
 |node i x f n ihf ihn=>
  simp only [ids,List.mem_cons,List.mem_append,not_or] at h
  rw [insN,if_neg (fun e=>h.1 e.symm),ihf h.2.1,ihn h.2.2]
theorem setT_not (u:Int) (tx:ByteArray) (t:T) (h:u∉ids t):setT u tx t=t:=by
 induction t with
 |nil=>rfl
 |node i x f n ihf ihn=>
  simp only [ids,List.mem_cons,List.mem_append,not_or] at h
  rw [setT,if_neg (fun e=>h.1 e.symm),ihf h.2.1,ihn h.2.2]
theorem get_not (m:Int) (t:T) (h:m∉ids t):get m t=none:=by
 induction t with
 |nil=>rfl
 |node i x f n ihf ihn=>
  simp only [ids,List.mem_cons,List.mem_append,not_or] at h
  rw [get,if_neg (fun e=>h.1 e.symm),ihf h.2.1,ihn h.2.2];rfl
theorem upOf_not (m:Int) (up:Option Int) (t:T) (h:m∉ids t):upOf m up t=none:=by
 induction t generalizing up with
 |nil=>rfl
 |node i x f n ihf ihn=>
  simp only [ids,List.mem_cons,List.mem_append,not_or] at h
  rw [upOf,if_neg (fun e=>h.1 e.symm),ihf _ h.2.1,ihn _ h.2.2];rfl
structure Split (d:Int) (t:T) (m:Int) (pre:List Row) (k:Int) (x:ByteArray) (f n:T) (post:List Row):Prop where
 all:rows d t=pre++⟨m,k,x⟩::(rows (k+1) f++(rows k n++post))
 got:get m t=some (x,f)
 deep:d≤k
 ends:∀ r,post.head?=some r→r.depth<k
 cut:rows d (cut m t)=pre++(rows k n++post)
 insF:∀ id tx s,rows d (insF m id tx s t)=pre++⟨m,k,x⟩::(rows (k+1) (node id tx s f)++(rows k n++post))
 insN:∀ id tx s,rows d (insN m id tx s t)=pre++⟨m,k,x⟩::(rows (k+1) f++(rows k (node id tx s n)++post))
 setT:∀ tx,rows d (setT m tx t)=pre++⟨m,k,tx⟩::(rows (k+1) f++(rows k n++post))
theorem split (m:Int) (t:T) (hm:m∈ids t) (nd:(ids t).Nodup):∀ d,∃ pre k x f n post,Split d t m pre k x f n post:=by
 induction t with
 |nil=>simp [ids] at hm
 |node id tx f n ihf ihn=>
  intro d
  simp only [ids,List.nodup_cons,List.nodup_append,List.mem_append,not_or] at nd
  obtain ⟨⟨h1,h2⟩,ndf,ndn,hd⟩:=nd
  by_cases he:id=m
  ·subst he
   exact ⟨[],d,tx,f,n,[],⟨by simp [rows],by simp [get],Int.le_refl _,by simp,by simp [T.cut],by intro a b c;simp [T.insF,rows],by intro a b c;simp [T.insN,rows],by intro a;simp [T.setT,rows]⟩⟩
  ·simp only [ids,List.mem_cons,List.mem_append] at hm
   have hm':m∈ids f∨m∈ids n:=by
    rcases hm with h | h
    ·exact absurd h.symm he
    ·exact h
   rcases hm' with hmf | hmn
   ·have hmn:m∉ids n:=fun h=>hd m hmf m h rfl
    obtain ⟨pre,k,x,f',n',post,s⟩:=ihf hmf ndf (d+1)
    refine ⟨⟨id,d,tx⟩::pre,k,x,f',n',post++rows d n,?_⟩
    refine ⟨by simp [rows,s.all],by simp [get,he,s.got],by have:=s.deep;omega,?_,?_,?_,?_,?_⟩
    ·intro r hr
     rw [List.head?_append] at hr
     cases hp:post.head? with
     |none=>rw [hp] at hr;have h3:=rows_head d n r (by simpa using hr);have:=s.deep;omega
     |some q=>rw [hp] at hr;simp at hr;rw [←hr];exact s.ends q hp
    ·simp [T.cut,he,rows,s.cut,cut_not m n hmn]
    ·intro a b c;simp [T.insF,he,rows,s.insF,insF_not m a b c n hmn]
    ·intro a b c;simp [T.insN,he,rows,s.insN,insN_not m a b c n hmn]
    ·intro a;simp [T.setT,he,rows,s.setT,setT_not m a n hmn]
   ·have hmf:m∉ids f:=fun h=>hd m h m hmn rfl
    obtain ⟨pre,k,x,f',n',post,s⟩:=ihn hmn ndn d
    refine ⟨⟨id,d,tx⟩::(rows (d+1) f++pre),k,x,f',n',post,?_⟩
    refine ⟨by simp [rows,s.all],by simp [get,he,s.got,get_not m f hmf],s.deep,s.ends,?_,?_,?_,?_⟩
    ·simp [T.cut,he,rows,s.cut,cut_not m f hmf]
    ·intro a b c;simp [T.insF,he,rows,s.insF,insF_not m a b c f hmf]
    ·intro a b c;simp [T.insN,he,rows,s.insN,insN_not m a b c f hmf]
    ·intro a;simp [T.setT,he,rows,s.setT,setT_not m a f hmf]
end T
end Go.Proofs.YtecmcjfdaipfcaaGreatDoor
