/-
  NARROWER THAN 'FOR EVERY INPUT', by the rows' own cells (each row's printed sentence says how): FnHearAll: laid · FnExactClientShow: laid · FnExactClientHear: laid.
  DERIVED. THE GIVEN ROWS OF THIS SEAT. 3 by the template 'for every input the law returns true; each argument reads behind the call as it read before'; 0 by the template 'total and deterministic' (their statements: YtikcnbkoeglecaaDoorTotals.lean).
  GIVEN WITH THE SEED: the statements are not yours to turn. If you find one false, say at which input.
  Laid BY PROGRAM, IN A SANDBOX (cutbox-rows.mjs): the forced cells as the released guide's own fill.sh prints them over the translation bc5228217f3fb2ef… (all of the seat's roots in one cut). By AI agents, Wed Nov 11 2026. No macro, syntax, notation, axiom, sorry.
-/
import Derived.Test.YtikcnbkoeglecaaDoorChecked
import GoSem.Claim
import GoSem.ClaimJoined
import GoSem.ClaimMapViews
import Derived.JoinedTies
import Derived.KernelRfl
namespace Go.Proofs.YtikcnbkoeglecaaDoor
/- THE CELL 'sum', in the pinned program and in every row, IS THE sha256 OF THE DUMP (.gsa) THAT YtikcnbkoeglecaaDoorProg.lean LOADS. Nothing in Lean hashes anything: it is a label: what it is worth is what the hold of that sum in a sandbox is worth. -/
noncomputable def Tryd.pinned : Pinned := { name := "ytikcnbkoeglecaadoor", sum := "bc5228217f3fb2ef65c87f4cc0f35dddea13c89b77def7253cea355d227b1a7c", checked := Tryd.checked }
namespace Rows
def none {H : Type} : Left H := { results := [], args := [] }

/- WHAT THE LISTED PACKAGE-LEVEL VARIABLES READ AS WHEN THE CALL BEGINS. Each datum BY PROGRAM (the guide's laid-datum.mjs) off the statement by which the dump's own 'gosem.cut.vars' lays the variable. In a bare row this is a premise. The card (YtikcnbkoeglecaaDoorCards.lean) ties it to the program's text. -/
def laid_loop_example_plashet_impl_rowOwners {H : Type} : DataW H := .agg [.lit (.int .i64 0), .lit (.int .i64 1), .lit (.int .i64 1), .lit (.int .i64 1), .lit (.int .i64 0), .lit (.int .i64 0), .lit (.int .i64 0), .lit (.int .i64 0), .lit (.int .i64 0), .lit (.int .i64 0), .lit (.int .i64 0), .lit (.int .i64 2), .lit (.int .i64 2), .lit (.int .i64 2), .lit (.int .i64 2), .lit (.int .i64 2), .lit (.int .i64 2), .lit (.int .i64 0), .lit (.int .i64 0), .lit (.int .i64 0), .lit (.int .i64 0), .lit (.int .i64 3), .lit (.int .i64 3), .lit (.int .i64 3), .lit (.int .i64 3), .lit (.int .i64 3), .lit (.int .i64 3), .lit (.int .i64 0), .lit (.int .i64 0), .lit (.int .i64 0), .lit (.int .i64 0), .lit (.int .i64 4), .lit (.int .i64 4), .lit (.int .i64 4), .lit (.int .i64 4), .lit (.int .i64 4), .lit (.int .i64 4)]

/-- 'laws.FnHearAll': WHATEVER THE INPUT: true; the input reads as it did. -/
def fnHearAllSpec : ChangeSpec := { name := "fnHearAll", vars := ["loop.example/plashet/impl.rowOwners"], fn := fun _ => fun
  | [d1, d2, g1] => { results := [.lit (.bool true)], args := [d1, d2], vars := [g1] }
  | _ => none }
def fnHearAllRow : OpenClaim := { program := "ytikcnbkoeglecaadoor", sum := "bc5228217f3fb2ef65c87f4cc0f35dddea13c89b77def7253cea355d227b1a7c", func := "loop.example/plashet/laws.FnHearAll", spec := "fnHearAll", unfollowed := true, recurses := true, named := ["loop.example/plashet/impl.rowOwners"], apart := false, laid := [("loop.example/plashet/impl.rowOwners", laid_loop_example_plashet_impl_rowOwners)] }
def FnHearAllSaid : Prop := fnHearAllRow.holds Tryd.pinned (OpenSpec.ofChange fnHearAllSpec)

/-- ITS FALSE NEIGHBOUR: 'it returns false'. Refute it at one input. -/
def fnHearAllWrong : ChangeSpec := { name := "fnHearAll", vars := ["loop.example/plashet/impl.rowOwners"], fn := fun _ => fun
  | [d1, d2, g1] => { results := [.lit (.bool false)], args := [d1, d2], vars := [g1] }
  | _ => none }
def FnHearAllWrongFalsely : Prop := fnHearAllRow.holds Tryd.pinned (OpenSpec.ofChange fnHearAllWrong)

/-- 'laws.FnExactClientShow': WHATEVER THE INPUT: true; the input reads as it did. -/
def fnExactClientShowSpec : ChangeSpec := { name := "fnExactClientShow", vars := ["loop.example/plashet/impl.rowOwners"], fn := fun _ => fun
  | [d, g1] => { results := [.lit (.bool true)], args := [d], vars := [g1] }
  | _ => none }
def fnExactClientShowRow : OpenClaim := { program := "ytikcnbkoeglecaadoor", sum := "bc5228217f3fb2ef65c87f4cc0f35dddea13c89b77def7253cea355d227b1a7c", func := "loop.example/plashet/laws.FnExactClientShow", spec := "fnExactClientShow", unfollowed := true, recurses := true, named := ["loop.example/plashet/impl.rowOwners"], apart := false, laid := [("loop.example/plashet/impl.rowOwners", laid_loop_example_plashet_impl_rowOwners)] }
def FnExactClientShowSaid : Prop := fnExactClientShowRow.holds Tryd.pinned (OpenSpec.ofChange fnExactClientShowSpec)

/-- ITS FALSE NEIGHBOUR: 'it returns false'. Refute it at one input. -/
def fnExactClientShowWrong : ChangeSpec := { name := "fnExactClientShow", vars := ["loop.example/plashet/impl.rowOwners"], fn := fun _ => fun
  | [d, g1] => { results := [.lit (.bool false)], args := [d], vars := [g1] }
  | _ => none }
def FnExactClientShowWrongFalsely : Prop := fnExactClientShowRow.holds Tryd.pinned (OpenSpec.ofChange fnExactClientShowWrong)

/-- 'laws.FnExactClientHear': WHATEVER THE INPUT: true; the input reads as it did. -/
def fnExactClientHearSpec : ChangeSpec := { name := "fnExactClientHear", vars := ["loop.example/plashet/impl.rowOwners"], fn := fun _ => fun
  | [d1, d2, d3, g1] => { results := [.lit (.bool true)], args := [d1, d2, d3], vars := [g1] }
  | _ => none }
def fnExactClientHearRow : OpenClaim := { program := "ytikcnbkoeglecaadoor", sum := "bc5228217f3fb2ef65c87f4cc0f35dddea13c89b77def7253cea355d227b1a7c", func := "loop.example/plashet/laws.FnExactClientHear", spec := "fnExactClientHear", unfollowed := true, recurses := true, named := ["loop.example/plashet/impl.rowOwners"], apart := false, laid := [("loop.example/plashet/impl.rowOwners", laid_loop_example_plashet_impl_rowOwners)] }
def FnExactClientHearSaid : Prop := fnExactClientHearRow.holds Tryd.pinned (OpenSpec.ofChange fnExactClientHearSpec)

/-- ITS FALSE NEIGHBOUR: 'it returns false'. Refute it at one input. -/
def fnExactClientHearWrong : ChangeSpec := { name := "fnExactClientHear", vars := ["loop.example/plashet/impl.rowOwners"], fn := fun _ => fun
  | [d1, d2, d3, g1] => { results := [.lit (.bool false)], args := [d1, d2, d3], vars := [g1] }
  | _ => none }
def FnExactClientHearWrongFalsely : Prop := fnExactClientHearRow.holds Tryd.pinned (OpenSpec.ofChange fnExactClientHearWrong)

/- THE SECOND FORM. 'bulk': how many values and letters a reading holds, each counted each time it is reached (what is shared counts as often as it is met; a slice's spare places count too). A statement '..UptoSaid' is the law's where the arguments, and the package variables that the reading takes, are together of bulk at most 1048576: NARROWER than '..Said'. Prove '..Said' where nothing that the law and all that it calls make is longer than what came in: it says more and counts as full. Else prove '..UptoSaid'. A law counts once. -/
mutual
def uptoBulk {H : Type} : DataW H → Nat
  | .lit (.string bytes) => bytes.length + 1
  | .lit _ => 1
  | .nil => 1
  | .ptr d => uptoBulk d + 1
  | .slice elems spare => uptoBulkAll elems + uptoBulkAll spare + 1
  | .agg parts => uptoBulkAll parts + 1
  | .iface _ d => uptoBulk d + 1
  | .map entries => uptoBulkEntries entries + 1
  | .held _ => 1
def uptoBulkAll {H : Type} : List (DataW H) → Nat
  | [] => 0
  | d :: r => uptoBulk d + uptoBulkAll r
def uptoBulkEntries {H : Type} : List (Lit × DataW H) → Nat
  | [] => 0
  | x :: r => uptoBulkEntry x + uptoBulkEntries r
def uptoBulkEntry {H : Type} : Lit × DataW H → Nat
  | (.string bytes, d) => bytes.length + uptoBulk d + 1
  | (_, d) => uptoBulk d + 1
 end
def uptoSmall : (H : Type) → List (DataW H) → Bool := fun _ ds => decide (uptoBulkAll ds ≤ 1048576)
def OpenSpec.upto (s : _root_.Go.ChangeSpec) : _root_.Go.OpenSpec := { _root_.Go.OpenSpec.ofChange s with cond := some uptoSmall }

/-- 'laws.FnHearAll', WHERE WHAT IT READS IS OF BULK AT MOST 1048576: true; the input reads as it did. -/
def fnHearAllUptoRow : OpenClaim := { program := "ytikcnbkoeglecaadoor", sum := "bc5228217f3fb2ef65c87f4cc0f35dddea13c89b77def7253cea355d227b1a7c", func := "loop.example/plashet/laws.FnHearAll", spec := "fnHearAll", unfollowed := true, recurses := true, named := ["loop.example/plashet/impl.rowOwners"], apart := false, laid := [("loop.example/plashet/impl.rowOwners", laid_loop_example_plashet_impl_rowOwners)], narrowed := true }
def FnHearAllUptoSaid : Prop := fnHearAllUptoRow.holds Tryd.pinned (OpenSpec.upto fnHearAllSpec)

/-- 'laws.FnExactClientShow', WHERE WHAT IT READS IS OF BULK AT MOST 1048576: true; the input reads as it did. -/
def fnExactClientShowUptoRow : OpenClaim := { program := "ytikcnbkoeglecaadoor", sum := "bc5228217f3fb2ef65c87f4cc0f35dddea13c89b77def7253cea355d227b1a7c", func := "loop.example/plashet/laws.FnExactClientShow", spec := "fnExactClientShow", unfollowed := true, recurses := true, named := ["loop.example/plashet/impl.rowOwners"], apart := false, laid := [("loop.example/plashet/impl.rowOwners", laid_loop_example_plashet_impl_rowOwners)], narrowed := true }
def FnExactClientShowUptoSaid : Prop := fnExactClientShowUptoRow.holds Tryd.pinned (OpenSpec.upto fnExactClientShowSpec)

/-- 'laws.FnExactClientHear', WHERE WHAT IT READS IS OF BULK AT MOST 1048576: true; the input reads as it did. -/
def fnExactClientHearUptoRow : OpenClaim := { program := "ytikcnbkoeglecaadoor", sum := "bc5228217f3fb2ef65c87f4cc0f35dddea13c89b77def7253cea355d227b1a7c", func := "loop.example/plashet/laws.FnExactClientHear", spec := "fnExactClientHear", unfollowed := true, recurses := true, named := ["loop.example/plashet/impl.rowOwners"], apart := false, laid := [("loop.example/plashet/impl.rowOwners", laid_loop_example_plashet_impl_rowOwners)], narrowed := true }
def FnExactClientHearUptoSaid : Prop := fnExactClientHearUptoRow.holds Tryd.pinned (OpenSpec.upto fnExactClientHearSpec)

end Rows
end Go.Proofs.YtikcnbkoeglecaaDoor
