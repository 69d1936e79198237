/-
  DERIVED. GIVEN WITH THE SEED: THE CARDS: each row of YtecmcjfdaipfcaaGreatDoorRows.lean that lists a variable, with what it lists TIED to the program's text (the seventh form; the later family's looks); each row that meets fmt, with fmt's text TOLD by the authors' own Lean function (tested against real Go, not proved from fmt's source: count such statements apart). THE CARD IS WHAT COUNTS. Prove the row's statement (the work); the ties are given (YtecmcjfdaipfcaaGreatDoorTie.lean); close each card by the builder's one call (the guide's Derived/Test/ToyasCard.lean, 'card_holds'). Laid BY PROGRAM, IN A SANDBOX (cutbox-door.mjs). By AI agents, Wed Nov 11 2026. No macro, syntax, notation, axiom, sorry.
-/
import Derived.Test.YtecmcjfdaipfcaaGreatDoorRows
import GoSem.ClaimSeven
namespace Go.Proofs.YtecmcjfdaipfcaaGreatDoor
namespace Rows

/-- THE TIED CARD OF 'laws.FnClientDo'. -/
def fnClientDoCard : Claim7 := { stood := { row := fnClientDoRow, standIns := [], harness := (true, "da8161c5809cf8b91571a95f927284ab940f90e9957b86f1f6d9596a3db9d9dd"), looks := true }, kinds := [], alts := [], laidByText := true, laidKinds := [.data], laidTests := true, laidLooks := .later }
def FnClientDoCardSaid : Prop := Claim7.holds Tryz.pinned (.plain (OpenSpec.ofChange fnClientDoSpec)) fnClientDoCard

/-- THE TIED CARD OF 'laws.FnHearOthers'. -/
def fnHearOthersCard : Claim7 := { stood := { row := fnHearOthersRow, standIns := [], harness := (true, "da8161c5809cf8b91571a95f927284ab940f90e9957b86f1f6d9596a3db9d9dd"), looks := true }, kinds := [], alts := [], laidByText := true, laidKinds := [.data], laidTests := true, laidLooks := .later }
def FnHearOthersCardSaid : Prop := Claim7.holds Tryz.pinned (.plain (OpenSpec.ofChange fnHearOthersSpec)) fnHearOthersCard

/-- THE TIED CARD OF 'laws.FnExactWorldOk'. -/
def fnExactWorldOkCard : Claim7 := { stood := { row := fnExactWorldOkRow, standIns := [], harness := (true, "da8161c5809cf8b91571a95f927284ab940f90e9957b86f1f6d9596a3db9d9dd"), looks := true }, kinds := [], alts := [], laidByText := true, laidKinds := [.data], laidTests := true, laidLooks := .later }
def FnExactWorldOkCardSaid : Prop := Claim7.holds Tryz.pinned (.plain (OpenSpec.ofChange fnExactWorldOkSpec)) fnExactWorldOkCard

/-- THE SECOND FORM's CARD OF 'laws.FnClientDo'. -/
def fnClientDoUptoCard : Claim7 := { stood := { row := fnClientDoUptoRow, standIns := [], harness := (true, "da8161c5809cf8b91571a95f927284ab940f90e9957b86f1f6d9596a3db9d9dd"), looks := true }, kinds := [], alts := [], laidByText := true, laidKinds := [.data], laidTests := true, laidLooks := .later }
def FnClientDoUptoCardSaid : Prop := Claim7.holds Tryz.pinned (.plain (OpenSpec.upto fnClientDoSpec)) fnClientDoUptoCard

/-- THE SECOND FORM's CARD OF 'laws.FnHearOthers'. -/
def fnHearOthersUptoCard : Claim7 := { stood := { row := fnHearOthersUptoRow, standIns := [], harness := (true, "da8161c5809cf8b91571a95f927284ab940f90e9957b86f1f6d9596a3db9d9dd"), looks := true }, kinds := [], alts := [], laidByText := true, laidKinds := [.data], laidTests := true, laidLooks := .later }
def FnHearOthersUptoCardSaid : Prop := Claim7.holds Tryz.pinned (.plain (OpenSpec.upto fnHearOthersSpec)) fnHearOthersUptoCard

/-- THE SECOND FORM's CARD OF 'laws.FnExactWorldOk'. -/
def fnExactWorldOkUptoCard : Claim7 := { stood := { row := fnExactWorldOkUptoRow, standIns := [], harness := (true, "da8161c5809cf8b91571a95f927284ab940f90e9957b86f1f6d9596a3db9d9dd"), looks := true }, kinds := [], alts := [], laidByText := true, laidKinds := [.data], laidTests := true, laidLooks := .later }
def FnExactWorldOkUptoCardSaid : Prop := Claim7.holds Tryz.pinned (.plain (OpenSpec.upto fnExactWorldOkSpec)) fnExactWorldOkUptoCard
end Rows
end Go.Proofs.YtecmcjfdaipfcaaGreatDoor
