/-
  DERIVED. GIVEN WITH THE SEED: THE CARDS: each row of YtlnbedamfbnkaaaGreatDoorRows.lean that lists a variable, with what it lists TIED to the program's text (the seventh form; the later family's looks); each row that meets fmt, with fmt's text TOLD by the authors' own Lean function (tested against real Go, not proved from fmt's source: count such statements apart). THE CARD IS WHAT COUNTS. Prove the row's statement (the work); the ties are given (YtlnbedamfbnkaaaGreatDoorTie.lean); close each card by the builder's one call (the guide's Derived/Test/ToyasCard.lean, 'card_holds'). Laid BY PROGRAM, IN A SANDBOX (cutbox-door.mjs). By AI agents, Wed Nov 11 2026. No macro, syntax, notation, axiom, sorry.
-/
import Derived.Test.YtlnbedamfbnkaaaGreatDoorRows
import GoSem.ClaimSeven
namespace Go.Proofs.YtlnbedamfbnkaaaGreatDoor
namespace Rows

/-- THE TIED CARD OF 'laws.FnInst'. -/
def fnInstCard : Claim7 := { stood := { row := fnInstRow, standIns := [], harness := (true, "fb822a94d07af012e738d2011c93a9f68fe8d6007133648c57a82714b0061997"), looks := true }, kinds := [], alts := [], laidByText := true, laidKinds := [.data, .data, .data, .sentinel, .sentinel], laidTests := true, laidLooks := .later }
def FnInstCardSaid : Prop := Claim7.holds Tryz.pinned (.plain (OpenSpec.ofChange fnInstSpec)) fnInstCard

/-- THE TIED CARD OF 'laws.FnExactInstGo'. -/
def fnExactInstGoCard : Claim7 := { stood := { row := fnExactInstGoRow, standIns := [], harness := (true, "fb822a94d07af012e738d2011c93a9f68fe8d6007133648c57a82714b0061997"), looks := true }, kinds := [], alts := [], laidByText := true, laidKinds := [.data, .data, .data, .sentinel, .sentinel], laidTests := true, laidLooks := .later }
def FnExactInstGoCardSaid : Prop := Claim7.holds Tryz.pinned (.plain (OpenSpec.ofChange fnExactInstGoSpec)) fnExactInstGoCard

/-- THE SECOND FORM's CARD OF 'laws.FnInst'. -/
def fnInstUptoCard : Claim7 := { stood := { row := fnInstUptoRow, standIns := [], harness := (true, "fb822a94d07af012e738d2011c93a9f68fe8d6007133648c57a82714b0061997"), looks := true }, kinds := [], alts := [], laidByText := true, laidKinds := [.data, .data, .data, .sentinel, .sentinel], laidTests := true, laidLooks := .later }
def FnInstUptoCardSaid : Prop := Claim7.holds Tryz.pinned (.plain (OpenSpec.upto fnInstSpec)) fnInstUptoCard

/-- THE SECOND FORM's CARD OF 'laws.FnExactInstGo'. -/
def fnExactInstGoUptoCard : Claim7 := { stood := { row := fnExactInstGoUptoRow, standIns := [], harness := (true, "fb822a94d07af012e738d2011c93a9f68fe8d6007133648c57a82714b0061997"), looks := true }, kinds := [], alts := [], laidByText := true, laidKinds := [.data, .data, .data, .sentinel, .sentinel], laidTests := true, laidLooks := .later }
def FnExactInstGoUptoCardSaid : Prop := Claim7.holds Tryz.pinned (.plain (OpenSpec.upto fnExactInstGoSpec)) fnExactInstGoUptoCard
end Rows
end Go.Proofs.YtlnbedamfbnkaaaGreatDoor
