/-
  DERIVED. GIVEN WITH THE SEED: THE CARDS: each row of YtddpckkpaolpnaaDoorRows.lean that lists a variable, with what it lists TIED to the program's text (the seventh form; the later family's looks); each row that meets fmt, with fmt's text TOLD by the authors' own Lean function (tested against real Go, not proved from fmt's source: count such statements apart). THE CARD IS WHAT COUNTS. Prove the row's statement (the work); the ties are given (YtddpckkpaolpnaaDoorTie.lean); close each card by the builder's one call (the guide's Derived/Test/ToyasCard.lean, 'card_holds'). Laid BY PROGRAM, IN A SANDBOX (cutbox-door.mjs). By AI agents, Wed Nov 11 2026. No macro, syntax, notation, axiom, sorry.
-/
import Derived.Test.YtddpckkpaolpnaaDoorRows
import GoSem.ClaimSeven
namespace Go.Proofs.YtddpckkpaolpnaaDoor
namespace Rows

/-- THE TIED CARD OF 'laws.FnHearAll'. -/
def fnHearAllCard : Claim7 := { stood := { row := fnHearAllRow, standIns := [], harness := (true, "065cd352acabd3105a12bf4af4b295792f8ba044e850e862a4b6c1c86a77ae24"), looks := true }, kinds := [], alts := [], laidByText := true, laidKinds := [.data], laidTests := true, laidLooks := .later }
def FnHearAllCardSaid : Prop := Claim7.holds Tryd.pinned (.plain (OpenSpec.ofChange fnHearAllSpec)) fnHearAllCard

/-- THE SECOND FORM's CARD OF 'laws.FnHearAll'. -/
def fnHearAllUptoCard : Claim7 := { stood := { row := fnHearAllUptoRow, standIns := [], harness := (true, "065cd352acabd3105a12bf4af4b295792f8ba044e850e862a4b6c1c86a77ae24"), looks := true }, kinds := [], alts := [], laidByText := true, laidKinds := [.data], laidTests := true, laidLooks := .later }
def FnHearAllUptoCardSaid : Prop := Claim7.holds Tryd.pinned (.plain (OpenSpec.upto fnHearAllSpec)) fnHearAllUptoCard
end Rows
end Go.Proofs.YtddpckkpaolpnaaDoor
