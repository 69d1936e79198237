/-
  DERIVED. GIVEN WITH THE SEED: THE CARDS: each row of YtjhbbgeebobcpaaDoorRows.lean that lists a variable, with what it lists TIED to the program's text (the seventh form; the later family's looks); each row that meets fmt, with fmt's text TOLD by the authors' own Lean function (tested against real Go, not proved from fmt's source: count such statements apart). THE CARD IS WHAT COUNTS. Prove the row's statement (the work); the ties are given (YtjhbbgeebobcpaaDoorTie.lean); close each card by the builder's one call (the guide's Derived/Test/ToyasCard.lean, 'card_holds'). Laid BY PROGRAM, IN A SANDBOX (cutbox-door.mjs). By AI agents, Wed Nov 11 2026. No macro, syntax, notation, axiom, sorry.
-/
import Derived.Test.YtjhbbgeebobcpaaDoorRows
import GoSem.ClaimSeven
namespace Go.Proofs.YtjhbbgeebobcpaaDoor
namespace Rows

/-- THE TIED CARD OF 'laws.FnHearAll'. -/
def fnHearAllCard : Claim7 := { stood := { row := fnHearAllRow, standIns := [], harness := (true, "a82f4c9f5544ac8bd328bb832325acb901633f8a6507ae7c2c54e5c87f5f9aa3"), looks := true }, kinds := [], alts := [], laidByText := true, laidKinds := [.data], laidTests := true, laidLooks := .later }
def FnHearAllCardSaid : Prop := Claim7.holds Tryd.pinned (.plain (OpenSpec.ofChange fnHearAllSpec)) fnHearAllCard

/-- THE TIED CARD OF 'laws.FnClientShow'. -/
def fnClientShowCard : Claim7 := { stood := { row := fnClientShowRow, standIns := [], harness := (true, "a82f4c9f5544ac8bd328bb832325acb901633f8a6507ae7c2c54e5c87f5f9aa3"), looks := true }, kinds := [], alts := [], laidByText := true, laidKinds := [.data], laidTests := true, laidLooks := .later }
def FnClientShowCardSaid : Prop := Claim7.holds Tryd.pinned (.plain (OpenSpec.ofChange fnClientShowSpec)) fnClientShowCard

/-- THE TIED CARD OF 'laws.FnShowOwn'. -/
def fnShowOwnCard : Claim7 := { stood := { row := fnShowOwnRow, standIns := [], harness := (true, "a82f4c9f5544ac8bd328bb832325acb901633f8a6507ae7c2c54e5c87f5f9aa3"), looks := true }, kinds := [], alts := [], laidByText := true, laidKinds := [.data], laidTests := true, laidLooks := .later }
def FnShowOwnCardSaid : Prop := Claim7.holds Tryd.pinned (.plain (OpenSpec.ofChange fnShowOwnSpec)) fnShowOwnCard

/-- THE TIED CARD OF 'laws.FnHearShow'. -/
def fnHearShowCard : Claim7 := { stood := { row := fnHearShowRow, standIns := [], harness := (true, "a82f4c9f5544ac8bd328bb832325acb901633f8a6507ae7c2c54e5c87f5f9aa3"), looks := true }, kinds := [], alts := [], laidByText := true, laidKinds := [.data], laidTests := true, laidLooks := .later }
def FnHearShowCardSaid : Prop := Claim7.holds Tryd.pinned (.plain (OpenSpec.ofChange fnHearShowSpec)) fnHearShowCard

/-- THE TIED CARD OF 'laws.FnHearIn'. -/
def fnHearInCard : Claim7 := { stood := { row := fnHearInRow, standIns := [], harness := (true, "a82f4c9f5544ac8bd328bb832325acb901633f8a6507ae7c2c54e5c87f5f9aa3"), looks := true }, kinds := [], alts := [], laidByText := true, laidKinds := [.data], laidTests := true, laidLooks := .later }
def FnHearInCardSaid : Prop := Claim7.holds Tryd.pinned (.plain (OpenSpec.ofChange fnHearInSpec)) fnHearInCard

/-- THE TIED CARD OF 'laws.FnHearCut'. -/
def fnHearCutCard : Claim7 := { stood := { row := fnHearCutRow, standIns := [], harness := (true, "a82f4c9f5544ac8bd328bb832325acb901633f8a6507ae7c2c54e5c87f5f9aa3"), looks := true }, kinds := [], alts := [], laidByText := true, laidKinds := [.data], laidTests := true, laidLooks := .later }
def FnHearCutCardSaid : Prop := Claim7.holds Tryd.pinned (.plain (OpenSpec.ofChange fnHearCutSpec)) fnHearCutCard

/-- THE TIED CARD OF 'laws.FnHearGap'. -/
def fnHearGapCard : Claim7 := { stood := { row := fnHearGapRow, standIns := [], harness := (true, "a82f4c9f5544ac8bd328bb832325acb901633f8a6507ae7c2c54e5c87f5f9aa3"), looks := true }, kinds := [], alts := [], laidByText := true, laidKinds := [.data], laidTests := true, laidLooks := .later }
def FnHearGapCardSaid : Prop := Claim7.holds Tryd.pinned (.plain (OpenSpec.ofChange fnHearGapSpec)) fnHearGapCard

/-- THE TIED CARD OF 'laws.FnHearTwice'. -/
def fnHearTwiceCard : Claim7 := { stood := { row := fnHearTwiceRow, standIns := [], harness := (true, "a82f4c9f5544ac8bd328bb832325acb901633f8a6507ae7c2c54e5c87f5f9aa3"), looks := true }, kinds := [], alts := [], laidByText := true, laidKinds := [.data], laidTests := true, laidLooks := .later }
def FnHearTwiceCardSaid : Prop := Claim7.holds Tryd.pinned (.plain (OpenSpec.ofChange fnHearTwiceSpec)) fnHearTwiceCard

/-- THE TIED CARD OF 'laws.FnDoTwo'. -/
def fnDoTwoCard : Claim7 := { stood := { row := fnDoTwoRow, standIns := [], harness := (true, "a82f4c9f5544ac8bd328bb832325acb901633f8a6507ae7c2c54e5c87f5f9aa3"), looks := true }, kinds := [], alts := [], laidByText := true, laidKinds := [.data], laidTests := true, laidLooks := .later }
def FnDoTwoCardSaid : Prop := Claim7.holds Tryd.pinned (.plain (OpenSpec.ofChange fnDoTwoSpec)) fnDoTwoCard

/-- THE SECOND FORM's CARD OF 'laws.FnHearAll'. -/
def fnHearAllUptoCard : Claim7 := { stood := { row := fnHearAllUptoRow, standIns := [], harness := (true, "a82f4c9f5544ac8bd328bb832325acb901633f8a6507ae7c2c54e5c87f5f9aa3"), looks := true }, kinds := [], alts := [], laidByText := true, laidKinds := [.data], laidTests := true, laidLooks := .later }
def FnHearAllUptoCardSaid : Prop := Claim7.holds Tryd.pinned (.plain (OpenSpec.upto fnHearAllSpec)) fnHearAllUptoCard

/-- THE SECOND FORM's CARD OF 'laws.FnClientShow'. -/
def fnClientShowUptoCard : Claim7 := { stood := { row := fnClientShowUptoRow, standIns := [], harness := (true, "a82f4c9f5544ac8bd328bb832325acb901633f8a6507ae7c2c54e5c87f5f9aa3"), looks := true }, kinds := [], alts := [], laidByText := true, laidKinds := [.data], laidTests := true, laidLooks := .later }
def FnClientShowUptoCardSaid : Prop := Claim7.holds Tryd.pinned (.plain (OpenSpec.upto fnClientShowSpec)) fnClientShowUptoCard

/-- THE SECOND FORM's CARD OF 'laws.FnShowOwn'. -/
def fnShowOwnUptoCard : Claim7 := { stood := { row := fnShowOwnUptoRow, standIns := [], harness := (true, "a82f4c9f5544ac8bd328bb832325acb901633f8a6507ae7c2c54e5c87f5f9aa3"), looks := true }, kinds := [], alts := [], laidByText := true, laidKinds := [.data], laidTests := true, laidLooks := .later }
def FnShowOwnUptoCardSaid : Prop := Claim7.holds Tryd.pinned (.plain (OpenSpec.upto fnShowOwnSpec)) fnShowOwnUptoCard

/-- THE SECOND FORM's CARD OF 'laws.FnHearShow'. -/
def fnHearShowUptoCard : Claim7 := { stood := { row := fnHearShowUptoRow, standIns := [], harness := (true, "a82f4c9f5544ac8bd328bb832325acb901633f8a6507ae7c2c54e5c87f5f9aa3"), looks := true }, kinds := [], alts := [], laidByText := true, laidKinds := [.data], laidTests := true, laidLooks := .later }
def FnHearShowUptoCardSaid : Prop := Claim7.holds Tryd.pinned (.plain (OpenSpec.upto fnHearShowSpec)) fnHearShowUptoCard

/-- THE SECOND FORM's CARD OF 'laws.FnHearIn'. -/
def fnHearInUptoCard : Claim7 := { stood := { row := fnHearInUptoRow, standIns := [], harness := (true, "a82f4c9f5544ac8bd328bb832325acb901633f8a6507ae7c2c54e5c87f5f9aa3"), looks := true }, kinds := [], alts := [], laidByText := true, laidKinds := [.data], laidTests := true, laidLooks := .later }
def FnHearInUptoCardSaid : Prop := Claim7.holds Tryd.pinned (.plain (OpenSpec.upto fnHearInSpec)) fnHearInUptoCard

/-- THE SECOND FORM's CARD OF 'laws.FnHearCut'. -/
def fnHearCutUptoCard : Claim7 := { stood := { row := fnHearCutUptoRow, standIns := [], harness := (true, "a82f4c9f5544ac8bd328bb832325acb901633f8a6507ae7c2c54e5c87f5f9aa3"), looks := true }, kinds := [], alts := [], laidByText := true, laidKinds := [.data], laidTests := true, laidLooks := .later }
def FnHearCutUptoCardSaid : Prop := Claim7.holds Tryd.pinned (.plain (OpenSpec.upto fnHearCutSpec)) fnHearCutUptoCard

/-- THE SECOND FORM's CARD OF 'laws.FnHearGap'. -/
def fnHearGapUptoCard : Claim7 := { stood := { row := fnHearGapUptoRow, standIns := [], harness := (true, "a82f4c9f5544ac8bd328bb832325acb901633f8a6507ae7c2c54e5c87f5f9aa3"), looks := true }, kinds := [], alts := [], laidByText := true, laidKinds := [.data], laidTests := true, laidLooks := .later }
def FnHearGapUptoCardSaid : Prop := Claim7.holds Tryd.pinned (.plain (OpenSpec.upto fnHearGapSpec)) fnHearGapUptoCard

/-- THE SECOND FORM's CARD OF 'laws.FnHearTwice'. -/
def fnHearTwiceUptoCard : Claim7 := { stood := { row := fnHearTwiceUptoRow, standIns := [], harness := (true, "a82f4c9f5544ac8bd328bb832325acb901633f8a6507ae7c2c54e5c87f5f9aa3"), looks := true }, kinds := [], alts := [], laidByText := true, laidKinds := [.data], laidTests := true, laidLooks := .later }
def FnHearTwiceUptoCardSaid : Prop := Claim7.holds Tryd.pinned (.plain (OpenSpec.upto fnHearTwiceSpec)) fnHearTwiceUptoCard

/-- THE SECOND FORM's CARD OF 'laws.FnDoTwo'. -/
def fnDoTwoUptoCard : Claim7 := { stood := { row := fnDoTwoUptoRow, standIns := [], harness := (true, "a82f4c9f5544ac8bd328bb832325acb901633f8a6507ae7c2c54e5c87f5f9aa3"), looks := true }, kinds := [], alts := [], laidByText := true, laidKinds := [.data], laidTests := true, laidLooks := .later }
def FnDoTwoUptoCardSaid : Prop := Claim7.holds Tryd.pinned (.plain (OpenSpec.upto fnDoTwoSpec)) fnDoTwoUptoCard
end Rows
end Go.Proofs.YtjhbbgeebobcpaaDoor
