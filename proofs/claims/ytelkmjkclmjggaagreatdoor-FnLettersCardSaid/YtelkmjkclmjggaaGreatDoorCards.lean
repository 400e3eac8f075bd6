/-
  DERIVED. GIVEN WITH THE SEED: THE CARDS: each row of YtelkmjkclmjggaaGreatDoorRows.lean that lists a variable, with what it lists TIED to the program's text (the seventh form; the later family's looks); each row that meets fmt, with fmt's text TOLD by the authors' own Lean function (tested against real Go, not proved from fmt's source: count such statements apart). THE CARD IS WHAT COUNTS. Prove the row's statement (the work); the ties are given (YtelkmjkclmjggaaGreatDoorTie.lean); close each card by the builder's one call (the guide's Derived/Test/ToyasCard.lean, 'card_holds'). Laid BY PROGRAM, IN A SANDBOX (cutbox-door.mjs). By AI agents, Wed Nov 11 2026. No macro, syntax, notation, axiom, sorry.
-/
import Derived.Test.YtelkmjkclmjggaaGreatDoorRows
import GoSem.ClaimSeven
namespace Go.Proofs.YtelkmjkclmjggaaGreatDoor
namespace Rows

/-- THE TIED CARD OF 'laws.FnLetters'. -/
def fnLettersCard : Claim7 := { stood := { row := fnLettersRow, standIns := [], harness := (true, "8f0375a026ae7c3a84cc068b19bcb008edc06ff2347f4b1a9a9297055b6d1bd1"), looks := true }, kinds := [], alts := [], laidByText := true, laidKinds := [.data, .data, .data, .sentinel, .sentinel], laidTests := true, laidLooks := .later }
def FnLettersCardSaid : Prop := Claim7.holds Tryz.pinned (.plain (OpenSpec.ofChange fnLettersSpec)) fnLettersCard

/-- THE TIED CARD OF 'laws.FnMatchMade'. -/
def fnMatchMadeCard : Claim7 := { stood := { row := fnMatchMadeRow, standIns := [], harness := (true, "8f0375a026ae7c3a84cc068b19bcb008edc06ff2347f4b1a9a9297055b6d1bd1"), looks := true }, kinds := [], alts := [], laidByText := true, laidKinds := [.data, .data, .data, .sentinel, .sentinel], laidTests := true, laidLooks := .later }
def FnMatchMadeCardSaid : Prop := Claim7.holds Tryz.pinned (.plain (OpenSpec.ofChange fnMatchMadeSpec)) fnMatchMadeCard

/-- THE TIED CARD OF 'laws.FnMatched'. -/
def fnMatchedCard : Claim7 := { stood := { row := fnMatchedRow, standIns := [], harness := (true, "8f0375a026ae7c3a84cc068b19bcb008edc06ff2347f4b1a9a9297055b6d1bd1"), looks := true }, kinds := [], alts := [], laidByText := true, laidKinds := [.data, .data, .data, .sentinel, .sentinel], laidTests := true, laidLooks := .later }
def FnMatchedCardSaid : Prop := Claim7.holds Tryz.pinned (.plain (OpenSpec.ofChange fnMatchedSpec)) fnMatchedCard

/-- THE TIED CARD OF 'laws.FnInst'. -/
def fnInstCard : Claim7 := { stood := { row := fnInstRow, standIns := [], harness := (true, "8f0375a026ae7c3a84cc068b19bcb008edc06ff2347f4b1a9a9297055b6d1bd1"), looks := true }, kinds := [], alts := [], laidByText := true, laidKinds := [.data, .data, .data, .sentinel, .sentinel], laidTests := true, laidLooks := .later }
def FnInstCardSaid : Prop := Claim7.holds Tryz.pinned (.plain (OpenSpec.ofChange fnInstSpec)) fnInstCard

/-- THE TIED CARD OF 'laws.FnRecipeOf'. -/
def fnRecipeOfCard : Claim7 := { stood := { row := fnRecipeOfRow, standIns := [], harness := (true, "8f0375a026ae7c3a84cc068b19bcb008edc06ff2347f4b1a9a9297055b6d1bd1"), looks := true }, kinds := [], alts := [], laidByText := true, laidKinds := [.data, .data, .data, .sentinel, .sentinel], laidTests := true, laidLooks := .later }
def FnRecipeOfCardSaid : Prop := Claim7.holds Tryz.pinned (.plain (OpenSpec.ofChange fnRecipeOfSpec)) fnRecipeOfCard

/-- THE TIED CARD OF 'laws.FnTaken'. -/
def fnTakenCard : Claim7 := { stood := { row := fnTakenRow, standIns := [], harness := (true, "8f0375a026ae7c3a84cc068b19bcb008edc06ff2347f4b1a9a9297055b6d1bd1"), looks := true }, kinds := [], alts := [], laidByText := true, laidKinds := [.data, .data, .data, .sentinel, .sentinel], laidTests := true, laidLooks := .later }
def FnTakenCardSaid : Prop := Claim7.holds Tryz.pinned (.plain (OpenSpec.ofChange fnTakenSpec)) fnTakenCard

/-- THE TIED CARD OF 'laws.FnGone'. -/
def fnGoneCard : Claim7 := { stood := { row := fnGoneRow, standIns := [], harness := (true, "8f0375a026ae7c3a84cc068b19bcb008edc06ff2347f4b1a9a9297055b6d1bd1"), looks := true }, kinds := [], alts := [], laidByText := true, laidKinds := [.data, .data, .data, .sentinel, .sentinel], laidTests := true, laidLooks := .later }
def FnGoneCardSaid : Prop := Claim7.holds Tryz.pinned (.plain (OpenSpec.ofChange fnGoneSpec)) fnGoneCard

/-- THE TIED CARD OF 'laws.FnActions'. -/
def fnActionsCard : Claim7 := { stood := { row := fnActionsRow, standIns := [], harness := (true, "8f0375a026ae7c3a84cc068b19bcb008edc06ff2347f4b1a9a9297055b6d1bd1"), looks := true }, kinds := [], alts := [], laidByText := true, laidKinds := [.data, .data, .data, .sentinel, .sentinel], laidTests := true, laidLooks := .later }
def FnActionsCardSaid : Prop := Claim7.holds Tryz.pinned (.plain (OpenSpec.ofChange fnActionsSpec)) fnActionsCard

/-- THE TIED CARD OF 'laws.FnExactStreamDo'. -/
def fnExactStreamDoCard : Claim7 := { stood := { row := fnExactStreamDoRow, standIns := [], harness := (true, "8f0375a026ae7c3a84cc068b19bcb008edc06ff2347f4b1a9a9297055b6d1bd1"), looks := true }, kinds := [], alts := [], laidByText := true, laidKinds := [.data, .data, .data, .sentinel, .sentinel], laidTests := true, laidLooks := .later }
def FnExactStreamDoCardSaid : Prop := Claim7.holds Tryz.pinned (.plain (OpenSpec.ofChange fnExactStreamDoSpec)) fnExactStreamDoCard

/-- THE TIED CARD OF 'laws.FnDeedText'. -/
def fnDeedTextCard : Claim7 := { stood := { row := fnDeedTextRow, standIns := [], harness := (true, "8f0375a026ae7c3a84cc068b19bcb008edc06ff2347f4b1a9a9297055b6d1bd1"), looks := true }, kinds := [], alts := [], laidByText := true, laidKinds := [.data, .data, .data, .data, .sentinel, .sentinel, .pinned], laidTests := true, laidLooks := .later }
def FnDeedTextCardSaid : Prop := Claim7.holds Tryz.pinned (.plain (OpenSpec.ofChange fnDeedTextSpec)) fnDeedTextCard

/-- THE TIED CARD OF 'laws.FnExactStreamRun'. -/
def fnExactStreamRunCard : Claim7 := { stood := { row := fnExactStreamRunRow, standIns := [], harness := (true, "8f0375a026ae7c3a84cc068b19bcb008edc06ff2347f4b1a9a9297055b6d1bd1"), looks := true }, kinds := [], alts := [], laidByText := true, laidKinds := [.data, .data, .data, .sentinel, .sentinel], laidTests := true, laidLooks := .later }
def FnExactStreamRunCardSaid : Prop := Claim7.holds Tryz.pinned (.plain (OpenSpec.ofChange fnExactStreamRunSpec)) fnExactStreamRunCard

/-- THE SECOND FORM's CARD OF 'laws.FnLetters'. -/
def fnLettersUptoCard : Claim7 := { stood := { row := fnLettersUptoRow, standIns := [], harness := (true, "8f0375a026ae7c3a84cc068b19bcb008edc06ff2347f4b1a9a9297055b6d1bd1"), looks := true }, kinds := [], alts := [], laidByText := true, laidKinds := [.data, .data, .data, .sentinel, .sentinel], laidTests := true, laidLooks := .later }
def FnLettersUptoCardSaid : Prop := Claim7.holds Tryz.pinned (.plain (OpenSpec.upto fnLettersSpec)) fnLettersUptoCard

/-- THE SECOND FORM's CARD OF 'laws.FnMatchMade'. -/
def fnMatchMadeUptoCard : Claim7 := { stood := { row := fnMatchMadeUptoRow, standIns := [], harness := (true, "8f0375a026ae7c3a84cc068b19bcb008edc06ff2347f4b1a9a9297055b6d1bd1"), looks := true }, kinds := [], alts := [], laidByText := true, laidKinds := [.data, .data, .data, .sentinel, .sentinel], laidTests := true, laidLooks := .later }
def FnMatchMadeUptoCardSaid : Prop := Claim7.holds Tryz.pinned (.plain (OpenSpec.upto fnMatchMadeSpec)) fnMatchMadeUptoCard

/-- THE SECOND FORM's CARD OF 'laws.FnMatched'. -/
def fnMatchedUptoCard : Claim7 := { stood := { row := fnMatchedUptoRow, standIns := [], harness := (true, "8f0375a026ae7c3a84cc068b19bcb008edc06ff2347f4b1a9a9297055b6d1bd1"), looks := true }, kinds := [], alts := [], laidByText := true, laidKinds := [.data, .data, .data, .sentinel, .sentinel], laidTests := true, laidLooks := .later }
def FnMatchedUptoCardSaid : Prop := Claim7.holds Tryz.pinned (.plain (OpenSpec.upto fnMatchedSpec)) fnMatchedUptoCard

/-- THE SECOND FORM's CARD OF 'laws.FnInst'. -/
def fnInstUptoCard : Claim7 := { stood := { row := fnInstUptoRow, standIns := [], harness := (true, "8f0375a026ae7c3a84cc068b19bcb008edc06ff2347f4b1a9a9297055b6d1bd1"), looks := true }, kinds := [], alts := [], laidByText := true, laidKinds := [.data, .data, .data, .sentinel, .sentinel], laidTests := true, laidLooks := .later }
def FnInstUptoCardSaid : Prop := Claim7.holds Tryz.pinned (.plain (OpenSpec.upto fnInstSpec)) fnInstUptoCard

/-- THE SECOND FORM's CARD OF 'laws.FnRecipeOf'. -/
def fnRecipeOfUptoCard : Claim7 := { stood := { row := fnRecipeOfUptoRow, standIns := [], harness := (true, "8f0375a026ae7c3a84cc068b19bcb008edc06ff2347f4b1a9a9297055b6d1bd1"), looks := true }, kinds := [], alts := [], laidByText := true, laidKinds := [.data, .data, .data, .sentinel, .sentinel], laidTests := true, laidLooks := .later }
def FnRecipeOfUptoCardSaid : Prop := Claim7.holds Tryz.pinned (.plain (OpenSpec.upto fnRecipeOfSpec)) fnRecipeOfUptoCard

/-- THE SECOND FORM's CARD OF 'laws.FnTaken'. -/
def fnTakenUptoCard : Claim7 := { stood := { row := fnTakenUptoRow, standIns := [], harness := (true, "8f0375a026ae7c3a84cc068b19bcb008edc06ff2347f4b1a9a9297055b6d1bd1"), looks := true }, kinds := [], alts := [], laidByText := true, laidKinds := [.data, .data, .data, .sentinel, .sentinel], laidTests := true, laidLooks := .later }
def FnTakenUptoCardSaid : Prop := Claim7.holds Tryz.pinned (.plain (OpenSpec.upto fnTakenSpec)) fnTakenUptoCard

/-- THE SECOND FORM's CARD OF 'laws.FnGone'. -/
def fnGoneUptoCard : Claim7 := { stood := { row := fnGoneUptoRow, standIns := [], harness := (true, "8f0375a026ae7c3a84cc068b19bcb008edc06ff2347f4b1a9a9297055b6d1bd1"), looks := true }, kinds := [], alts := [], laidByText := true, laidKinds := [.data, .data, .data, .sentinel, .sentinel], laidTests := true, laidLooks := .later }
def FnGoneUptoCardSaid : Prop := Claim7.holds Tryz.pinned (.plain (OpenSpec.upto fnGoneSpec)) fnGoneUptoCard

/-- THE SECOND FORM's CARD OF 'laws.FnActions'. -/
def fnActionsUptoCard : Claim7 := { stood := { row := fnActionsUptoRow, standIns := [], harness := (true, "8f0375a026ae7c3a84cc068b19bcb008edc06ff2347f4b1a9a9297055b6d1bd1"), looks := true }, kinds := [], alts := [], laidByText := true, laidKinds := [.data, .data, .data, .sentinel, .sentinel], laidTests := true, laidLooks := .later }
def FnActionsUptoCardSaid : Prop := Claim7.holds Tryz.pinned (.plain (OpenSpec.upto fnActionsSpec)) fnActionsUptoCard

/-- THE SECOND FORM's CARD OF 'laws.FnExactStreamDo'. -/
def fnExactStreamDoUptoCard : Claim7 := { stood := { row := fnExactStreamDoUptoRow, standIns := [], harness := (true, "8f0375a026ae7c3a84cc068b19bcb008edc06ff2347f4b1a9a9297055b6d1bd1"), looks := true }, kinds := [], alts := [], laidByText := true, laidKinds := [.data, .data, .data, .sentinel, .sentinel], laidTests := true, laidLooks := .later }
def FnExactStreamDoUptoCardSaid : Prop := Claim7.holds Tryz.pinned (.plain (OpenSpec.upto fnExactStreamDoSpec)) fnExactStreamDoUptoCard

/-- THE SECOND FORM's CARD OF 'laws.FnDeedText'. -/
def fnDeedTextUptoCard : Claim7 := { stood := { row := fnDeedTextUptoRow, standIns := [], harness := (true, "8f0375a026ae7c3a84cc068b19bcb008edc06ff2347f4b1a9a9297055b6d1bd1"), looks := true }, kinds := [], alts := [], laidByText := true, laidKinds := [.data, .data, .data, .data, .sentinel, .sentinel, .pinned], laidTests := true, laidLooks := .later }
def FnDeedTextUptoCardSaid : Prop := Claim7.holds Tryz.pinned (.plain (OpenSpec.upto fnDeedTextSpec)) fnDeedTextUptoCard

/-- THE SECOND FORM's CARD OF 'laws.FnExactStreamRun'. -/
def fnExactStreamRunUptoCard : Claim7 := { stood := { row := fnExactStreamRunUptoRow, standIns := [], harness := (true, "8f0375a026ae7c3a84cc068b19bcb008edc06ff2347f4b1a9a9297055b6d1bd1"), looks := true }, kinds := [], alts := [], laidByText := true, laidKinds := [.data, .data, .data, .sentinel, .sentinel], laidTests := true, laidLooks := .later }
def FnExactStreamRunUptoCardSaid : Prop := Claim7.holds Tryz.pinned (.plain (OpenSpec.upto fnExactStreamRunSpec)) fnExactStreamRunUptoCard
end Rows
end Go.Proofs.YtelkmjkclmjggaaGreatDoor
