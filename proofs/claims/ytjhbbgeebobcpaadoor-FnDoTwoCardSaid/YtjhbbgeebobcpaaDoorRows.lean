/-
  NARROWER THAN 'FOR EVERY INPUT', by the rows' own cells (each row's printed sentence says how): FnHearAll: laid · FnClientShow: laid · FnShowOwn: laid · FnHearShow: laid · FnHearIn: laid · FnHearCut: laid · FnHearGap: laid · FnHearTwice: laid · FnDoTwo: laid.
  DERIVED. THE GIVEN ROWS OF THIS SEAT. 9 by the template 'for every input the law returns true; each argument reads behind the call as it read before'; 0 by the template 'total and deterministic' (their statements: YtjhbbgeebobcpaaDoorTotals.lean).
  GIVEN WITH THE SEED: the statements are not yours to turn. If you find one false, say at which input.
  Laid BY PROGRAM, IN A SANDBOX (cutbox-rows.mjs): the forced cells as the released guide's own fill.sh prints them over the translation 14f49a6d10ae50d8… (all of the seat's roots in one cut). By AI agents, Wed Nov 11 2026. No macro, syntax, notation, axiom, sorry.
-/
import Derived.Test.YtjhbbgeebobcpaaDoorChecked
import GoSem.Claim
import GoSem.ClaimJoined
import GoSem.ClaimMapViews
import Derived.JoinedTies
import Derived.KernelRfl
namespace Go.Proofs.YtjhbbgeebobcpaaDoor
/- THE CELL 'sum', in the pinned program and in every row, IS THE sha256 OF THE DUMP (.gsa) THAT YtjhbbgeebobcpaaDoorProg.lean LOADS. Nothing in Lean hashes anything: it is a label: what it is worth is what the hold of that sum in a sandbox is worth. -/
noncomputable def Tryd.pinned : Pinned := { name := "ytjhbbgeebobcpaadoor", sum := "14f49a6d10ae50d89aea7fac075ebae5719d938f69e2f3464cbc89a044b84cea", checked := Tryd.checked }
namespace Rows
def none {H : Type} : Left H := { results := [], args := [] }

/- WHAT THE LISTED PACKAGE-LEVEL VARIABLES READ AS WHEN THE CALL BEGINS. Each datum BY PROGRAM (the guide's laid-datum.mjs) off the statement by which the dump's own 'gosem.cut.vars' lays the variable. In a bare row this is a premise. The card (YtjhbbgeebobcpaaDoorCards.lean) ties it to the program's text. -/
def laid_loop_example_plashet_impl_rowOwners {H : Type} : DataW H := .agg [.lit (.int .i64 0), .lit (.int .i64 1), .lit (.int .i64 1), .lit (.int .i64 1), .lit (.int .i64 0), .lit (.int .i64 0), .lit (.int .i64 0), .lit (.int .i64 0), .lit (.int .i64 0), .lit (.int .i64 0), .lit (.int .i64 0), .lit (.int .i64 2), .lit (.int .i64 2), .lit (.int .i64 2), .lit (.int .i64 2), .lit (.int .i64 2), .lit (.int .i64 2), .lit (.int .i64 0), .lit (.int .i64 0), .lit (.int .i64 0), .lit (.int .i64 0), .lit (.int .i64 3), .lit (.int .i64 3), .lit (.int .i64 3), .lit (.int .i64 3), .lit (.int .i64 3), .lit (.int .i64 3), .lit (.int .i64 0), .lit (.int .i64 0), .lit (.int .i64 0), .lit (.int .i64 0), .lit (.int .i64 4), .lit (.int .i64 4), .lit (.int .i64 4), .lit (.int .i64 4), .lit (.int .i64 4), .lit (.int .i64 4)]

/-- 'laws.FnHearAll': WHATEVER THE INPUT: true; the input reads as it did. -/
def fnHearAllSpec : ChangeSpec := { name := "fnHearAll", vars := ["loop.example/plashet/impl.rowOwners"], fn := fun _ => fun
  | [d1, d2, g1] => { results := [.lit (.bool true)], args := [d1, d2], vars := [g1] }
  | _ => none }
def fnHearAllRow : OpenClaim := { program := "ytjhbbgeebobcpaadoor", sum := "14f49a6d10ae50d89aea7fac075ebae5719d938f69e2f3464cbc89a044b84cea", func := "loop.example/plashet/laws.FnHearAll", spec := "fnHearAll", unfollowed := true, recurses := true, named := ["loop.example/plashet/impl.rowOwners"], apart := false, laid := [("loop.example/plashet/impl.rowOwners", laid_loop_example_plashet_impl_rowOwners)] }
def FnHearAllSaid : Prop := fnHearAllRow.holds Tryd.pinned (OpenSpec.ofChange fnHearAllSpec)

/-- ITS FALSE NEIGHBOUR: 'it returns false'. Refute it at one input. -/
def fnHearAllWrong : ChangeSpec := { name := "fnHearAll", vars := ["loop.example/plashet/impl.rowOwners"], fn := fun _ => fun
  | [d1, d2, g1] => { results := [.lit (.bool false)], args := [d1, d2], vars := [g1] }
  | _ => none }
def FnHearAllWrongFalsely : Prop := fnHearAllRow.holds Tryd.pinned (OpenSpec.ofChange fnHearAllWrong)

/-- 'laws.FnClientShow': WHATEVER THE INPUT: true; the input reads as it did. -/
def fnClientShowSpec : ChangeSpec := { name := "fnClientShow", vars := ["loop.example/plashet/impl.rowOwners"], fn := fun _ => fun
  | [d, g1] => { results := [.lit (.bool true)], args := [d], vars := [g1] }
  | _ => none }
def fnClientShowRow : OpenClaim := { program := "ytjhbbgeebobcpaadoor", sum := "14f49a6d10ae50d89aea7fac075ebae5719d938f69e2f3464cbc89a044b84cea", func := "loop.example/plashet/laws.FnClientShow", spec := "fnClientShow", unfollowed := true, recurses := true, named := ["loop.example/plashet/impl.rowOwners"], apart := false, laid := [("loop.example/plashet/impl.rowOwners", laid_loop_example_plashet_impl_rowOwners)] }
def FnClientShowSaid : Prop := fnClientShowRow.holds Tryd.pinned (OpenSpec.ofChange fnClientShowSpec)

/-- ITS FALSE NEIGHBOUR: 'it returns false'. Refute it at one input. -/
def fnClientShowWrong : ChangeSpec := { name := "fnClientShow", vars := ["loop.example/plashet/impl.rowOwners"], fn := fun _ => fun
  | [d, g1] => { results := [.lit (.bool false)], args := [d], vars := [g1] }
  | _ => none }
def FnClientShowWrongFalsely : Prop := fnClientShowRow.holds Tryd.pinned (OpenSpec.ofChange fnClientShowWrong)

/-- 'laws.FnShowOwn': WHATEVER THE INPUT: true; the input reads as it did. -/
def fnShowOwnSpec : ChangeSpec := { name := "fnShowOwn", vars := ["loop.example/plashet/impl.rowOwners"], fn := fun _ => fun
  | [d, g1] => { results := [.lit (.bool true)], args := [d], vars := [g1] }
  | _ => none }
def fnShowOwnRow : OpenClaim := { program := "ytjhbbgeebobcpaadoor", sum := "14f49a6d10ae50d89aea7fac075ebae5719d938f69e2f3464cbc89a044b84cea", func := "loop.example/plashet/laws.FnShowOwn", spec := "fnShowOwn", unfollowed := true, recurses := true, named := ["loop.example/plashet/impl.rowOwners"], apart := false, laid := [("loop.example/plashet/impl.rowOwners", laid_loop_example_plashet_impl_rowOwners)] }
def FnShowOwnSaid : Prop := fnShowOwnRow.holds Tryd.pinned (OpenSpec.ofChange fnShowOwnSpec)

/-- ITS FALSE NEIGHBOUR: 'it returns false'. Refute it at one input. -/
def fnShowOwnWrong : ChangeSpec := { name := "fnShowOwn", vars := ["loop.example/plashet/impl.rowOwners"], fn := fun _ => fun
  | [d, g1] => { results := [.lit (.bool false)], args := [d], vars := [g1] }
  | _ => none }
def FnShowOwnWrongFalsely : Prop := fnShowOwnRow.holds Tryd.pinned (OpenSpec.ofChange fnShowOwnWrong)

/-- 'laws.FnHearShow': WHATEVER THE INPUT: true; the input reads as it did. -/
def fnHearShowSpec : ChangeSpec := { name := "fnHearShow", vars := ["loop.example/plashet/impl.rowOwners"], fn := fun _ => fun
  | [d, g1] => { results := [.lit (.bool true)], args := [d], vars := [g1] }
  | _ => none }
def fnHearShowRow : OpenClaim := { program := "ytjhbbgeebobcpaadoor", sum := "14f49a6d10ae50d89aea7fac075ebae5719d938f69e2f3464cbc89a044b84cea", func := "loop.example/plashet/laws.FnHearShow", spec := "fnHearShow", unfollowed := true, recurses := true, named := ["loop.example/plashet/impl.rowOwners"], apart := false, laid := [("loop.example/plashet/impl.rowOwners", laid_loop_example_plashet_impl_rowOwners)] }
def FnHearShowSaid : Prop := fnHearShowRow.holds Tryd.pinned (OpenSpec.ofChange fnHearShowSpec)

/-- ITS FALSE NEIGHBOUR: 'it returns false'. Refute it at one input. -/
def fnHearShowWrong : ChangeSpec := { name := "fnHearShow", vars := ["loop.example/plashet/impl.rowOwners"], fn := fun _ => fun
  | [d, g1] => { results := [.lit (.bool false)], args := [d], vars := [g1] }
  | _ => none }
def FnHearShowWrongFalsely : Prop := fnHearShowRow.holds Tryd.pinned (OpenSpec.ofChange fnHearShowWrong)

/-- 'laws.FnHearIn': WHATEVER THE INPUT: true; the input reads as it did. -/
def fnHearInSpec : ChangeSpec := { name := "fnHearIn", vars := ["loop.example/plashet/impl.rowOwners"], fn := fun _ => fun
  | [d, g1] => { results := [.lit (.bool true)], args := [d], vars := [g1] }
  | _ => none }
def fnHearInRow : OpenClaim := { program := "ytjhbbgeebobcpaadoor", sum := "14f49a6d10ae50d89aea7fac075ebae5719d938f69e2f3464cbc89a044b84cea", func := "loop.example/plashet/laws.FnHearIn", spec := "fnHearIn", unfollowed := true, recurses := true, named := ["loop.example/plashet/impl.rowOwners"], apart := false, laid := [("loop.example/plashet/impl.rowOwners", laid_loop_example_plashet_impl_rowOwners)] }
def FnHearInSaid : Prop := fnHearInRow.holds Tryd.pinned (OpenSpec.ofChange fnHearInSpec)

/-- ITS FALSE NEIGHBOUR: 'it returns false'. Refute it at one input. -/
def fnHearInWrong : ChangeSpec := { name := "fnHearIn", vars := ["loop.example/plashet/impl.rowOwners"], fn := fun _ => fun
  | [d, g1] => { results := [.lit (.bool false)], args := [d], vars := [g1] }
  | _ => none }
def FnHearInWrongFalsely : Prop := fnHearInRow.holds Tryd.pinned (OpenSpec.ofChange fnHearInWrong)

/-- 'laws.FnHearCut': WHATEVER THE INPUT: true; the input reads as it did. -/
def fnHearCutSpec : ChangeSpec := { name := "fnHearCut", vars := ["loop.example/plashet/impl.rowOwners"], fn := fun _ => fun
  | [d1, d2, g1] => { results := [.lit (.bool true)], args := [d1, d2], vars := [g1] }
  | _ => none }
def fnHearCutRow : OpenClaim := { program := "ytjhbbgeebobcpaadoor", sum := "14f49a6d10ae50d89aea7fac075ebae5719d938f69e2f3464cbc89a044b84cea", func := "loop.example/plashet/laws.FnHearCut", spec := "fnHearCut", unfollowed := true, recurses := true, named := ["loop.example/plashet/impl.rowOwners"], apart := false, laid := [("loop.example/plashet/impl.rowOwners", laid_loop_example_plashet_impl_rowOwners)] }
def FnHearCutSaid : Prop := fnHearCutRow.holds Tryd.pinned (OpenSpec.ofChange fnHearCutSpec)

/-- ITS FALSE NEIGHBOUR: 'it returns false'. Refute it at one input. -/
def fnHearCutWrong : ChangeSpec := { name := "fnHearCut", vars := ["loop.example/plashet/impl.rowOwners"], fn := fun _ => fun
  | [d1, d2, g1] => { results := [.lit (.bool false)], args := [d1, d2], vars := [g1] }
  | _ => none }
def FnHearCutWrongFalsely : Prop := fnHearCutRow.holds Tryd.pinned (OpenSpec.ofChange fnHearCutWrong)

/-- 'laws.FnHearGap': WHATEVER THE INPUT: true; the input reads as it did. -/
def fnHearGapSpec : ChangeSpec := { name := "fnHearGap", vars := ["loop.example/plashet/impl.rowOwners"], fn := fun _ => fun
  | [d, g1] => { results := [.lit (.bool true)], args := [d], vars := [g1] }
  | _ => none }
def fnHearGapRow : OpenClaim := { program := "ytjhbbgeebobcpaadoor", sum := "14f49a6d10ae50d89aea7fac075ebae5719d938f69e2f3464cbc89a044b84cea", func := "loop.example/plashet/laws.FnHearGap", spec := "fnHearGap", unfollowed := true, recurses := true, named := ["loop.example/plashet/impl.rowOwners"], apart := false, laid := [("loop.example/plashet/impl.rowOwners", laid_loop_example_plashet_impl_rowOwners)] }
def FnHearGapSaid : Prop := fnHearGapRow.holds Tryd.pinned (OpenSpec.ofChange fnHearGapSpec)

/-- ITS FALSE NEIGHBOUR: 'it returns false'. Refute it at one input. -/
def fnHearGapWrong : ChangeSpec := { name := "fnHearGap", vars := ["loop.example/plashet/impl.rowOwners"], fn := fun _ => fun
  | [d, g1] => { results := [.lit (.bool false)], args := [d], vars := [g1] }
  | _ => none }
def FnHearGapWrongFalsely : Prop := fnHearGapRow.holds Tryd.pinned (OpenSpec.ofChange fnHearGapWrong)

/-- 'laws.FnHearTwice': WHATEVER THE INPUT: true; the input reads as it did. -/
def fnHearTwiceSpec : ChangeSpec := { name := "fnHearTwice", vars := ["loop.example/plashet/impl.rowOwners"], fn := fun _ => fun
  | [d, g1] => { results := [.lit (.bool true)], args := [d], vars := [g1] }
  | _ => none }
def fnHearTwiceRow : OpenClaim := { program := "ytjhbbgeebobcpaadoor", sum := "14f49a6d10ae50d89aea7fac075ebae5719d938f69e2f3464cbc89a044b84cea", func := "loop.example/plashet/laws.FnHearTwice", spec := "fnHearTwice", unfollowed := true, recurses := true, named := ["loop.example/plashet/impl.rowOwners"], apart := false, laid := [("loop.example/plashet/impl.rowOwners", laid_loop_example_plashet_impl_rowOwners)] }
def FnHearTwiceSaid : Prop := fnHearTwiceRow.holds Tryd.pinned (OpenSpec.ofChange fnHearTwiceSpec)

/-- ITS FALSE NEIGHBOUR: 'it returns false'. Refute it at one input. -/
def fnHearTwiceWrong : ChangeSpec := { name := "fnHearTwice", vars := ["loop.example/plashet/impl.rowOwners"], fn := fun _ => fun
  | [d, g1] => { results := [.lit (.bool false)], args := [d], vars := [g1] }
  | _ => none }
def FnHearTwiceWrongFalsely : Prop := fnHearTwiceRow.holds Tryd.pinned (OpenSpec.ofChange fnHearTwiceWrong)

/-- 'laws.FnDoTwo': WHATEVER THE INPUT: true; the input reads as it did. -/
def fnDoTwoSpec : ChangeSpec := { name := "fnDoTwo", vars := ["loop.example/plashet/impl.rowOwners"], fn := fun _ => fun
  | [d1, d2, g1] => { results := [.lit (.bool true)], args := [d1, d2], vars := [g1] }
  | _ => none }
def fnDoTwoRow : OpenClaim := { program := "ytjhbbgeebobcpaadoor", sum := "14f49a6d10ae50d89aea7fac075ebae5719d938f69e2f3464cbc89a044b84cea", func := "loop.example/plashet/laws.FnDoTwo", spec := "fnDoTwo", unfollowed := true, recurses := true, named := ["loop.example/plashet/impl.rowOwners"], apart := false, laid := [("loop.example/plashet/impl.rowOwners", laid_loop_example_plashet_impl_rowOwners)] }
def FnDoTwoSaid : Prop := fnDoTwoRow.holds Tryd.pinned (OpenSpec.ofChange fnDoTwoSpec)

/-- ITS FALSE NEIGHBOUR: 'it returns false'. Refute it at one input. -/
def fnDoTwoWrong : ChangeSpec := { name := "fnDoTwo", vars := ["loop.example/plashet/impl.rowOwners"], fn := fun _ => fun
  | [d1, d2, g1] => { results := [.lit (.bool false)], args := [d1, d2], vars := [g1] }
  | _ => none }
def FnDoTwoWrongFalsely : Prop := fnDoTwoRow.holds Tryd.pinned (OpenSpec.ofChange fnDoTwoWrong)

/- THE SECOND FORM. 'bulk': how many values and letters a reading holds, each counted each time it is reached (what is shared counts as often as it is met; a slice's spare places count too). A statement '..UptoSaid' is the law's where the arguments, and the package variables that the reading takes, are together of bulk at most 1048576: NARROWER than '..Said'. Prove '..Said' where nothing that the law and all that it calls make is longer than what came in: it says more and counts as full. Else prove '..UptoSaid'. A law counts once. -/
mutual
def uptoBulk {H : Type} : DataW H → Nat
  | .lit (.string bytes) => bytes.length + 1
  | .lit _ => 1
  | .nil => 1
  | .ptr d => uptoBulk d + 1
  | .slice elems spare => uptoBulkAll elems + uptoBulkAll spare + 1
  | .agg parts => uptoBulkAll parts + 1
  | .iface _ d => uptoBulk d + 1
  | .map entries => uptoBulkEntries entries + 1
  | .held _ => 1
def uptoBulkAll {H : Type} : List (DataW H) → Nat
  | [] => 0
  | d :: r => uptoBulk d + uptoBulkAll r
def uptoBulkEntries {H : Type} : List (Lit × DataW H) → Nat
  | [] => 0
  | x :: r => uptoBulkEntry x + uptoBulkEntries r
def uptoBulkEntry {H : Type} : Lit × DataW H → Nat
  | (.string bytes, d) => bytes.length + uptoBulk d + 1
  | (_, d) => uptoBulk d + 1
 end
def uptoSmall : (H : Type) → List (DataW H) → Bool := fun _ ds => decide (uptoBulkAll ds ≤ 1048576)
def OpenSpec.upto (s : _root_.Go.ChangeSpec) : _root_.Go.OpenSpec := { _root_.Go.OpenSpec.ofChange s with cond := some uptoSmall }

/-- 'laws.FnHearAll', WHERE WHAT IT READS IS OF BULK AT MOST 1048576: true; the input reads as it did. -/
def fnHearAllUptoRow : OpenClaim := { program := "ytjhbbgeebobcpaadoor", sum := "14f49a6d10ae50d89aea7fac075ebae5719d938f69e2f3464cbc89a044b84cea", func := "loop.example/plashet/laws.FnHearAll", spec := "fnHearAll", unfollowed := true, recurses := true, named := ["loop.example/plashet/impl.rowOwners"], apart := false, laid := [("loop.example/plashet/impl.rowOwners", laid_loop_example_plashet_impl_rowOwners)], narrowed := true }
def FnHearAllUptoSaid : Prop := fnHearAllUptoRow.holds Tryd.pinned (OpenSpec.upto fnHearAllSpec)

/-- 'laws.FnClientShow', WHERE WHAT IT READS IS OF BULK AT MOST 1048576: true; the input reads as it did. -/
def fnClientShowUptoRow : OpenClaim := { program := "ytjhbbgeebobcpaadoor", sum := "14f49a6d10ae50d89aea7fac075ebae5719d938f69e2f3464cbc89a044b84cea", func := "loop.example/plashet/laws.FnClientShow", spec := "fnClientShow", unfollowed := true, recurses := true, named := ["loop.example/plashet/impl.rowOwners"], apart := false, laid := [("loop.example/plashet/impl.rowOwners", laid_loop_example_plashet_impl_rowOwners)], narrowed := true }
def FnClientShowUptoSaid : Prop := fnClientShowUptoRow.holds Tryd.pinned (OpenSpec.upto fnClientShowSpec)

/-- 'laws.FnShowOwn', WHERE WHAT IT READS IS OF BULK AT MOST 1048576: true; the input reads as it did. -/
def fnShowOwnUptoRow : OpenClaim := { program := "ytjhbbgeebobcpaadoor", sum := "14f49a6d10ae50d89aea7fac075ebae5719d938f69e2f3464cbc89a044b84cea", func := "loop.example/plashet/laws.FnShowOwn", spec := "fnShowOwn", unfollowed := true, recurses := true, named := ["loop.example/plashet/impl.rowOwners"], apart := false, laid := [("loop.example/plashet/impl.rowOwners", laid_loop_example_plashet_impl_rowOwners)], narrowed := true }
def FnShowOwnUptoSaid : Prop := fnShowOwnUptoRow.holds Tryd.pinned (OpenSpec.upto fnShowOwnSpec)

/-- 'laws.FnHearShow', WHERE WHAT IT READS IS OF BULK AT MOST 1048576: true; the input reads as it did. -/
def fnHearShowUptoRow : OpenClaim := { program := "ytjhbbgeebobcpaadoor", sum := "14f49a6d10ae50d89aea7fac075ebae5719d938f69e2f3464cbc89a044b84cea", func := "loop.example/plashet/laws.FnHearShow", spec := "fnHearShow", unfollowed := true, recurses := true, named := ["loop.example/plashet/impl.rowOwners"], apart := false, laid := [("loop.example/plashet/impl.rowOwners", laid_loop_example_plashet_impl_rowOwners)], narrowed := true }
def FnHearShowUptoSaid : Prop := fnHearShowUptoRow.holds Tryd.pinned (OpenSpec.upto fnHearShowSpec)

/-- 'laws.FnHearIn', WHERE WHAT IT READS IS OF BULK AT MOST 1048576: true; the input reads as it did. -/
def fnHearInUptoRow : OpenClaim := { program := "ytjhbbgeebobcpaadoor", sum := "14f49a6d10ae50d89aea7fac075ebae5719d938f69e2f3464cbc89a044b84cea", func := "loop.example/plashet/laws.FnHearIn", spec := "fnHearIn", unfollowed := true, recurses := true, named := ["loop.example/plashet/impl.rowOwners"], apart := false, laid := [("loop.example/plashet/impl.rowOwners", laid_loop_example_plashet_impl_rowOwners)], narrowed := true }
def FnHearInUptoSaid : Prop := fnHearInUptoRow.holds Tryd.pinned (OpenSpec.upto fnHearInSpec)

/-- 'laws.FnHearCut', WHERE WHAT IT READS IS OF BULK AT MOST 1048576: true; the input reads as it did. -/
def fnHearCutUptoRow : OpenClaim := { program := "ytjhbbgeebobcpaadoor", sum := "14f49a6d10ae50d89aea7fac075ebae5719d938f69e2f3464cbc89a044b84cea", func := "loop.example/plashet/laws.FnHearCut", spec := "fnHearCut", unfollowed := true, recurses := true, named := ["loop.example/plashet/impl.rowOwners"], apart := false, laid := [("loop.example/plashet/impl.rowOwners", laid_loop_example_plashet_impl_rowOwners)], narrowed := true }
def FnHearCutUptoSaid : Prop := fnHearCutUptoRow.holds Tryd.pinned (OpenSpec.upto fnHearCutSpec)

/-- 'laws.FnHearGap', WHERE WHAT IT READS IS OF BULK AT MOST 1048576: true; the input reads as it did. -/
def fnHearGapUptoRow : OpenClaim := { program := "ytjhbbgeebobcpaadoor", sum := "14f49a6d10ae50d89aea7fac075ebae5719d938f69e2f3464cbc89a044b84cea", func := "loop.example/plashet/laws.FnHearGap", spec := "fnHearGap", unfollowed := true, recurses := true, named := ["loop.example/plashet/impl.rowOwners"], apart := false, laid := [("loop.example/plashet/impl.rowOwners", laid_loop_example_plashet_impl_rowOwners)], narrowed := true }
def FnHearGapUptoSaid : Prop := fnHearGapUptoRow.holds Tryd.pinned (OpenSpec.upto fnHearGapSpec)

/-- 'laws.FnHearTwice', WHERE WHAT IT READS IS OF BULK AT MOST 1048576: true; the input reads as it did. -/
def fnHearTwiceUptoRow : OpenClaim := { program := "ytjhbbgeebobcpaadoor", sum := "14f49a6d10ae50d89aea7fac075ebae5719d938f69e2f3464cbc89a044b84cea", func := "loop.example/plashet/laws.FnHearTwice", spec := "fnHearTwice", unfollowed := true, recurses := true, named := ["loop.example/plashet/impl.rowOwners"], apart := false, laid := [("loop.example/plashet/impl.rowOwners", laid_loop_example_plashet_impl_rowOwners)], narrowed := true }
def FnHearTwiceUptoSaid : Prop := fnHearTwiceUptoRow.holds Tryd.pinned (OpenSpec.upto fnHearTwiceSpec)

/-- 'laws.FnDoTwo', WHERE WHAT IT READS IS OF BULK AT MOST 1048576: true; the input reads as it did. -/
def fnDoTwoUptoRow : OpenClaim := { program := "ytjhbbgeebobcpaadoor", sum := "14f49a6d10ae50d89aea7fac075ebae5719d938f69e2f3464cbc89a044b84cea", func := "loop.example/plashet/laws.FnDoTwo", spec := "fnDoTwo", unfollowed := true, recurses := true, named := ["loop.example/plashet/impl.rowOwners"], apart := false, laid := [("loop.example/plashet/impl.rowOwners", laid_loop_example_plashet_impl_rowOwners)], narrowed := true }
def FnDoTwoUptoSaid : Prop := fnDoTwoUptoRow.holds Tryd.pinned (OpenSpec.upto fnDoTwoSpec)

end Rows
end Go.Proofs.YtjhbbgeebobcpaaDoor
