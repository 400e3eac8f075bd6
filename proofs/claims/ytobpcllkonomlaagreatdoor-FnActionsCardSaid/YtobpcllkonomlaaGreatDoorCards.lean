/-
  DERIVED. GIVEN WITH THE SEED: THE CARDS: each row of YtobpcllkonomlaaGreatDoorRows.lean that lists a variable, with what it lists TIED to the program's text (the seventh form; the later family's looks); each row that meets fmt, with fmt's text TOLD by the authors' own Lean function (tested against real Go, not proved from fmt's source: count such statements apart). THE CARD IS WHAT COUNTS. Prove the row's statement (the work); the ties are given (YtobpcllkonomlaaGreatDoorTie.lean); close each card by the builder's one call (the guide's Derived/Test/ToyasCard.lean, 'card_holds'). Laid BY PROGRAM, IN A SANDBOX (cutbox-door.mjs). By AI agents, Wed Nov 11 2026. No macro, syntax, notation, axiom, sorry.
-/
import Derived.Test.YtobpcllkonomlaaGreatDoorRows
import GoSem.ClaimSeven
namespace Go.Proofs.YtobpcllkonomlaaGreatDoor
namespace Rows

/-- THE TIED CARD OF 'laws.FnInst'. -/
def fnInstCard : Claim7 := { stood := { row := fnInstRow, standIns := [], harness := (true, "b16f536e2639e0b53371bb03f6b3aa4686182a25511be8ecf70d071e54048d23"), looks := true }, kinds := [], alts := [], laidByText := true, laidKinds := [.data, .data, .data, .sentinel, .sentinel], laidTests := true, laidLooks := .later }
def FnInstCardSaid : Prop := Claim7.holds Tryz.pinned (.plain (OpenSpec.ofChange fnInstSpec)) fnInstCard

/-- THE TIED CARD OF 'laws.FnActions'. -/
def fnActionsCard : Claim7 := { stood := { row := fnActionsRow, standIns := [], harness := (true, "b16f536e2639e0b53371bb03f6b3aa4686182a25511be8ecf70d071e54048d23"), looks := true }, kinds := [], alts := [], laidByText := true, laidKinds := [.data, .data, .data, .sentinel, .sentinel], laidTests := true, laidLooks := .later }
def FnActionsCardSaid : Prop := Claim7.holds Tryz.pinned (.plain (OpenSpec.ofChange fnActionsSpec)) fnActionsCard

/-- THE TIED CARD OF 'laws.FnRecipeOf'. -/
def fnRecipeOfCard : Claim7 := { stood := { row := fnRecipeOfRow, standIns := [], harness := (true, "b16f536e2639e0b53371bb03f6b3aa4686182a25511be8ecf70d071e54048d23"), looks := true }, kinds := [], alts := [], laidByText := true, laidKinds := [.data, .data, .data, .sentinel, .sentinel], laidTests := true, laidLooks := .later }
def FnRecipeOfCardSaid : Prop := Claim7.holds Tryz.pinned (.plain (OpenSpec.ofChange fnRecipeOfSpec)) fnRecipeOfCard

/-- THE TIED CARD OF 'laws.FnRecipe'. -/
def fnRecipeCard : Claim7 := { stood := { row := fnRecipeRow, standIns := [], harness := (true, "b16f536e2639e0b53371bb03f6b3aa4686182a25511be8ecf70d071e54048d23"), looks := true }, kinds := [], alts := [], laidByText := true, laidKinds := [.data, .data, .data, .sentinel, .sentinel], laidTests := true, laidLooks := .later }
def FnRecipeCardSaid : Prop := Claim7.holds Tryz.pinned (.plain (OpenSpec.ofChange fnRecipeSpec)) fnRecipeCard

/-- THE SECOND FORM's CARD OF 'laws.FnInst'. -/
def fnInstUptoCard : Claim7 := { stood := { row := fnInstUptoRow, standIns := [], harness := (true, "b16f536e2639e0b53371bb03f6b3aa4686182a25511be8ecf70d071e54048d23"), looks := true }, kinds := [], alts := [], laidByText := true, laidKinds := [.data, .data, .data, .sentinel, .sentinel], laidTests := true, laidLooks := .later }
def FnInstUptoCardSaid : Prop := Claim7.holds Tryz.pinned (.plain (OpenSpec.upto fnInstSpec)) fnInstUptoCard

/-- THE SECOND FORM's CARD OF 'laws.FnActions'. -/
def fnActionsUptoCard : Claim7 := { stood := { row := fnActionsUptoRow, standIns := [], harness := (true, "b16f536e2639e0b53371bb03f6b3aa4686182a25511be8ecf70d071e54048d23"), looks := true }, kinds := [], alts := [], laidByText := true, laidKinds := [.data, .data, .data, .sentinel, .sentinel], laidTests := true, laidLooks := .later }
def FnActionsUptoCardSaid : Prop := Claim7.holds Tryz.pinned (.plain (OpenSpec.upto fnActionsSpec)) fnActionsUptoCard

/-- THE SECOND FORM's CARD OF 'laws.FnRecipeOf'. -/
def fnRecipeOfUptoCard : Claim7 := { stood := { row := fnRecipeOfUptoRow, standIns := [], harness := (true, "b16f536e2639e0b53371bb03f6b3aa4686182a25511be8ecf70d071e54048d23"), looks := true }, kinds := [], alts := [], laidByText := true, laidKinds := [.data, .data, .data, .sentinel, .sentinel], laidTests := true, laidLooks := .later }
def FnRecipeOfUptoCardSaid : Prop := Claim7.holds Tryz.pinned (.plain (OpenSpec.upto fnRecipeOfSpec)) fnRecipeOfUptoCard

/-- THE SECOND FORM's CARD OF 'laws.FnRecipe'. -/
def fnRecipeUptoCard : Claim7 := { stood := { row := fnRecipeUptoRow, standIns := [], harness := (true, "b16f536e2639e0b53371bb03f6b3aa4686182a25511be8ecf70d071e54048d23"), looks := true }, kinds := [], alts := [], laidByText := true, laidKinds := [.data, .data, .data, .sentinel, .sentinel], laidTests := true, laidLooks := .later }
def FnRecipeUptoCardSaid : Prop := Claim7.holds Tryz.pinned (.plain (OpenSpec.upto fnRecipeSpec)) fnRecipeUptoCard
end Rows
end Go.Proofs.YtobpcllkonomlaaGreatDoor
