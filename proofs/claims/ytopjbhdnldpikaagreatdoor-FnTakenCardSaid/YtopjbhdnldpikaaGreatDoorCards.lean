/-
  DERIVED. GIVEN WITH THE SEED: THE CARDS: each row of YtopjbhdnldpikaaGreatDoorRows.lean that lists a variable, with what it lists TIED to the program's text (the seventh form; the later family's looks); each row that meets fmt, with fmt's text TOLD by the authors' own Lean function (tested against real Go, not proved from fmt's source: count such statements apart). THE CARD IS WHAT COUNTS. Prove the row's statement (the work); the ties are given (YtopjbhdnldpikaaGreatDoorTie.lean); close each card by the builder's one call (the guide's Derived/Test/ToyasCard.lean, 'card_holds'). Laid BY PROGRAM, IN A SANDBOX (cutbox-door.mjs). By AI agents, Wed Nov 11 2026. No macro, syntax, notation, axiom, sorry.
-/
import Derived.Test.YtopjbhdnldpikaaGreatDoorRows
import GoSem.ClaimSeven
namespace Go.Proofs.YtopjbhdnldpikaaGreatDoor
namespace Rows

/-- THE TIED CARD OF 'laws.FnTaken'. -/
def fnTakenCard : Claim7 := { stood := { row := fnTakenRow, standIns := [], harness := (true, "a053992d2dfa99c71b8dd5e6e9bc89bf5e8f327b96df33ab0083aeb6cc5218ae"), looks := true }, kinds := [], alts := [], laidByText := true, laidKinds := [.data, .data, .data, .sentinel, .sentinel], laidTests := true, laidLooks := .later }
def FnTakenCardSaid : Prop := Claim7.holds Tryz.pinned (.plain (OpenSpec.ofChange fnTakenSpec)) fnTakenCard

/-- THE TIED CARD OF 'laws.FnGone'. -/
def fnGoneCard : Claim7 := { stood := { row := fnGoneRow, standIns := [], harness := (true, "a053992d2dfa99c71b8dd5e6e9bc89bf5e8f327b96df33ab0083aeb6cc5218ae"), looks := true }, kinds := [], alts := [], laidByText := true, laidKinds := [.data, .data, .data, .sentinel, .sentinel], laidTests := true, laidLooks := .later }
def FnGoneCardSaid : Prop := Claim7.holds Tryz.pinned (.plain (OpenSpec.ofChange fnGoneSpec)) fnGoneCard

/-- THE SECOND FORM's CARD OF 'laws.FnTaken'. -/
def fnTakenUptoCard : Claim7 := { stood := { row := fnTakenUptoRow, standIns := [], harness := (true, "a053992d2dfa99c71b8dd5e6e9bc89bf5e8f327b96df33ab0083aeb6cc5218ae"), looks := true }, kinds := [], alts := [], laidByText := true, laidKinds := [.data, .data, .data, .sentinel, .sentinel], laidTests := true, laidLooks := .later }
def FnTakenUptoCardSaid : Prop := Claim7.holds Tryz.pinned (.plain (OpenSpec.upto fnTakenSpec)) fnTakenUptoCard

/-- THE SECOND FORM's CARD OF 'laws.FnGone'. -/
def fnGoneUptoCard : Claim7 := { stood := { row := fnGoneUptoRow, standIns := [], harness := (true, "a053992d2dfa99c71b8dd5e6e9bc89bf5e8f327b96df33ab0083aeb6cc5218ae"), looks := true }, kinds := [], alts := [], laidByText := true, laidKinds := [.data, .data, .data, .sentinel, .sentinel], laidTests := true, laidLooks := .later }
def FnGoneUptoCardSaid : Prop := Claim7.holds Tryz.pinned (.plain (OpenSpec.upto fnGoneSpec)) fnGoneUptoCard
end Rows
end Go.Proofs.YtopjbhdnldpikaaGreatDoor
