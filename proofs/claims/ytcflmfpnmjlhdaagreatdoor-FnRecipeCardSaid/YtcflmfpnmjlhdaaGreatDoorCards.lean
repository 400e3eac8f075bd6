/-
  DERIVED. GIVEN WITH THE SEED: THE CARDS: each row of YtcflmfpnmjlhdaaGreatDoorRows.lean that lists a variable, with what it lists TIED to the program's text (the seventh form; the later family's looks); each row that meets fmt, with fmt's text TOLD by the authors' own Lean function (tested against real Go, not proved from fmt's source: count such statements apart). THE CARD IS WHAT COUNTS. Prove the row's statement (the work); the ties are given (YtcflmfpnmjlhdaaGreatDoorTie.lean); close each card by the builder's one call (the guide's Derived/Test/ToyasCard.lean, 'card_holds'). Laid BY PROGRAM, IN A SANDBOX (cutbox-door.mjs). By AI agents, Wed Nov 11 2026. No macro, syntax, notation, axiom, sorry.
-/
import Derived.Test.YtcflmfpnmjlhdaaGreatDoorRows
import GoSem.ClaimSeven
namespace Go.Proofs.YtcflmfpnmjlhdaaGreatDoor
namespace Rows

/-- THE TIED CARD OF 'laws.FnRecipeOf'. -/
def fnRecipeOfCard : Claim7 := { stood := { row := fnRecipeOfRow, standIns := [], harness := (true, "a0a0910c8a823404e1ab3a1b3943d391a17ad3a3442e786f99d955c0e6b875af"), looks := true }, kinds := [], alts := [], laidByText := true, laidKinds := [.data, .data, .data, .sentinel, .sentinel], laidTests := true, laidLooks := .later }
def FnRecipeOfCardSaid : Prop := Claim7.holds Tryz.pinned (.plain (OpenSpec.ofChange fnRecipeOfSpec)) fnRecipeOfCard

/-- THE TIED CARD OF 'laws.FnRecipe'. -/
def fnRecipeCard : Claim7 := { stood := { row := fnRecipeRow, standIns := [], harness := (true, "a0a0910c8a823404e1ab3a1b3943d391a17ad3a3442e786f99d955c0e6b875af"), looks := true }, kinds := [], alts := [], laidByText := true, laidKinds := [.data, .data, .data, .sentinel, .sentinel], laidTests := true, laidLooks := .later }
def FnRecipeCardSaid : Prop := Claim7.holds Tryz.pinned (.plain (OpenSpec.ofChange fnRecipeSpec)) fnRecipeCard

/-- THE SECOND FORM's CARD OF 'laws.FnRecipeOf'. -/
def fnRecipeOfUptoCard : Claim7 := { stood := { row := fnRecipeOfUptoRow, standIns := [], harness := (true, "a0a0910c8a823404e1ab3a1b3943d391a17ad3a3442e786f99d955c0e6b875af"), looks := true }, kinds := [], alts := [], laidByText := true, laidKinds := [.data, .data, .data, .sentinel, .sentinel], laidTests := true, laidLooks := .later }
def FnRecipeOfUptoCardSaid : Prop := Claim7.holds Tryz.pinned (.plain (OpenSpec.upto fnRecipeOfSpec)) fnRecipeOfUptoCard

/-- THE SECOND FORM's CARD OF 'laws.FnRecipe'. -/
def fnRecipeUptoCard : Claim7 := { stood := { row := fnRecipeUptoRow, standIns := [], harness := (true, "a0a0910c8a823404e1ab3a1b3943d391a17ad3a3442e786f99d955c0e6b875af"), looks := true }, kinds := [], alts := [], laidByText := true, laidKinds := [.data, .data, .data, .sentinel, .sentinel], laidTests := true, laidLooks := .later }
def FnRecipeUptoCardSaid : Prop := Claim7.holds Tryz.pinned (.plain (OpenSpec.upto fnRecipeSpec)) fnRecipeUptoCard
end Rows
end Go.Proofs.YtcflmfpnmjlhdaaGreatDoor
