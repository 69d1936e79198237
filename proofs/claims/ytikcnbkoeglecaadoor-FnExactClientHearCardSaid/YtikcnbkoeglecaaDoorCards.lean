/-
  DERIVED. GIVEN WITH THE SEED: THE CARDS: each row of YtikcnbkoeglecaaDoorRows.lean that lists a variable, with what it lists TIED to the program's text (the seventh form; the later family's looks); each row that meets fmt, with fmt's text TOLD by the authors' own Lean function (tested against real Go, not proved from fmt's source: count such statements apart). THE CARD IS WHAT COUNTS. Prove the row's statement (the work); the ties are given (YtikcnbkoeglecaaDoorTie.lean); close each card by the builder's one call (the guide's Derived/Test/ToyasCard.lean, 'card_holds'). Laid BY PROGRAM, IN A SANDBOX (cutbox-door.mjs). By AI agents, Wed Nov 11 2026. No macro, syntax, notation, axiom, sorry.
-/
import Derived.Test.YtikcnbkoeglecaaDoorRows
import GoSem.ClaimSeven
namespace Go.Proofs.YtikcnbkoeglecaaDoor
namespace Rows

/-- THE TIED CARD OF 'laws.FnHearAll'. -/
def fnHearAllCard : Claim7 := { stood := { row := fnHearAllRow, standIns := [], harness := (true, "e45f9babd1c3e812b18d06fae3b2577e680d034899303c7aa83a8043c377174d"), looks := true }, kinds := [], alts := [], laidByText := true, laidKinds := [.data], laidTests := true, laidLooks := .later }
def FnHearAllCardSaid : Prop := Claim7.holds Tryd.pinned (.plain (OpenSpec.ofChange fnHearAllSpec)) fnHearAllCard

/-- THE TIED CARD OF 'laws.FnExactClientShow'. -/
def fnExactClientShowCard : Claim7 := { stood := { row := fnExactClientShowRow, standIns := [], harness := (true, "e45f9babd1c3e812b18d06fae3b2577e680d034899303c7aa83a8043c377174d"), looks := true }, kinds := [], alts := [], laidByText := true, laidKinds := [.data], laidTests := true, laidLooks := .later }
def FnExactClientShowCardSaid : Prop := Claim7.holds Tryd.pinned (.plain (OpenSpec.ofChange fnExactClientShowSpec)) fnExactClientShowCard

/-- THE TIED CARD OF 'laws.FnExactClientHear'. -/
def fnExactClientHearCard : Claim7 := { stood := { row := fnExactClientHearRow, standIns := [], harness := (true, "e45f9babd1c3e812b18d06fae3b2577e680d034899303c7aa83a8043c377174d"), looks := true }, kinds := [], alts := [], laidByText := true, laidKinds := [.data], laidTests := true, laidLooks := .later }
def FnExactClientHearCardSaid : Prop := Claim7.holds Tryd.pinned (.plain (OpenSpec.ofChange fnExactClientHearSpec)) fnExactClientHearCard

/-- THE SECOND FORM's CARD OF 'laws.FnHearAll'. -/
def fnHearAllUptoCard : Claim7 := { stood := { row := fnHearAllUptoRow, standIns := [], harness := (true, "e45f9babd1c3e812b18d06fae3b2577e680d034899303c7aa83a8043c377174d"), looks := true }, kinds := [], alts := [], laidByText := true, laidKinds := [.data], laidTests := true, laidLooks := .later }
def FnHearAllUptoCardSaid : Prop := Claim7.holds Tryd.pinned (.plain (OpenSpec.upto fnHearAllSpec)) fnHearAllUptoCard

/-- THE SECOND FORM's CARD OF 'laws.FnExactClientShow'. -/
def fnExactClientShowUptoCard : Claim7 := { stood := { row := fnExactClientShowUptoRow, standIns := [], harness := (true, "e45f9babd1c3e812b18d06fae3b2577e680d034899303c7aa83a8043c377174d"), looks := true }, kinds := [], alts := [], laidByText := true, laidKinds := [.data], laidTests := true, laidLooks := .later }
def FnExactClientShowUptoCardSaid : Prop := Claim7.holds Tryd.pinned (.plain (OpenSpec.upto fnExactClientShowSpec)) fnExactClientShowUptoCard

/-- THE SECOND FORM's CARD OF 'laws.FnExactClientHear'. -/
def fnExactClientHearUptoCard : Claim7 := { stood := { row := fnExactClientHearUptoRow, standIns := [], harness := (true, "e45f9babd1c3e812b18d06fae3b2577e680d034899303c7aa83a8043c377174d"), looks := true }, kinds := [], alts := [], laidByText := true, laidKinds := [.data], laidTests := true, laidLooks := .later }
def FnExactClientHearUptoCardSaid : Prop := Claim7.holds Tryd.pinned (.plain (OpenSpec.upto fnExactClientHearSpec)) fnExactClientHearUptoCard
end Rows
end Go.Proofs.YtikcnbkoeglecaaDoor
