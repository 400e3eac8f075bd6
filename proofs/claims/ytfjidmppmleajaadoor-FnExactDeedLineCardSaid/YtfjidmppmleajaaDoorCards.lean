/-
  DERIVED. GIVEN WITH THE SEED: THE CARDS: each row of YtfjidmppmleajaaDoorRows.lean that lists a variable, with what it lists TIED to the program's text (the seventh form; the later family's looks); each row that meets fmt, with fmt's text TOLD by the authors' own Lean function (tested against real Go, not proved from fmt's source: count such statements apart). THE CARD IS WHAT COUNTS. Prove the row's statement (the work); the ties are given (YtfjidmppmleajaaDoorTie.lean); close each card by the builder's one call (the guide's Derived/Test/ToyasCard.lean, 'card_holds'). Laid BY PROGRAM, IN A SANDBOX (cutbox-door.mjs). By AI agents, Wed Nov 11 2026. No macro, syntax, notation, axiom, sorry.
-/
import Derived.Test.YtfjidmppmleajaaDoorRows
import GoSem.ClaimSeven
namespace Go.Proofs.YtfjidmppmleajaaDoor
namespace Rows

/-- THE TIED CARD OF 'laws.FnExactDeedLine'. -/
def fnExactDeedLineCard : Claim7 := { stood := { row := fnExactDeedLineRow, standIns := [], harness := (true, "d621919128106f4bb53f3cabfedb49e327f9261d7064f298714aa15d204f55b8"), looks := true }, kinds := [], alts := [], laidByText := true, laidKinds := [.data, .data, .data], laidTests := true, laidLooks := .later }
def FnExactDeedLineCardSaid : Prop := Claim7.holds Tryd.pinned (.plain (OpenSpec.ofChange fnExactDeedLineSpec)) fnExactDeedLineCard

/-- THE TIED CARD OF 'laws.FnExactParseDeed'. -/
def fnExactParseDeedCard : Claim7 := { stood := { row := fnExactParseDeedRow, standIns := [], harness := (true, "d621919128106f4bb53f3cabfedb49e327f9261d7064f298714aa15d204f55b8"), looks := true }, kinds := [], alts := [], laidByText := true, laidKinds := [.data, .data, .data, .data, .sentinel, .sentinel, .pinned], laidTests := true, laidLooks := .later }
def FnExactParseDeedCardSaid : Prop := Claim7.holds Tryd.pinned (.plain (OpenSpec.ofChange fnExactParseDeedSpec)) fnExactParseDeedCard

/-- THE SECOND FORM's CARD OF 'laws.FnExactDeedLine'. -/
def fnExactDeedLineUptoCard : Claim7 := { stood := { row := fnExactDeedLineUptoRow, standIns := [], harness := (true, "d621919128106f4bb53f3cabfedb49e327f9261d7064f298714aa15d204f55b8"), looks := true }, kinds := [], alts := [], laidByText := true, laidKinds := [.data, .data, .data], laidTests := true, laidLooks := .later }
def FnExactDeedLineUptoCardSaid : Prop := Claim7.holds Tryd.pinned (.plain (OpenSpec.upto fnExactDeedLineSpec)) fnExactDeedLineUptoCard

/-- THE SECOND FORM's CARD OF 'laws.FnExactParseDeed'. -/
def fnExactParseDeedUptoCard : Claim7 := { stood := { row := fnExactParseDeedUptoRow, standIns := [], harness := (true, "d621919128106f4bb53f3cabfedb49e327f9261d7064f298714aa15d204f55b8"), looks := true }, kinds := [], alts := [], laidByText := true, laidKinds := [.data, .data, .data, .data, .sentinel, .sentinel, .pinned], laidTests := true, laidLooks := .later }
def FnExactParseDeedUptoCardSaid : Prop := Claim7.holds Tryd.pinned (.plain (OpenSpec.upto fnExactParseDeedSpec)) fnExactParseDeedUptoCard
end Rows
end Go.Proofs.YtfjidmppmleajaaDoor
