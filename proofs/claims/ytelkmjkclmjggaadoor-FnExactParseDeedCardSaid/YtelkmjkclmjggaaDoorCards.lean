/-
  DERIVED. GIVEN WITH THE SEED: THE CARDS: each row of YtelkmjkclmjggaaDoorRows.lean that lists a variable, with what it lists TIED to the program's text (the seventh form; the later family's looks); each row that meets fmt, with fmt's text TOLD by the authors' own Lean function (tested against real Go, not proved from fmt's source: count such statements apart). THE CARD IS WHAT COUNTS. Prove the row's statement (the work); the ties are given (YtelkmjkclmjggaaDoorTie.lean); close each card by the builder's one call (the guide's Derived/Test/ToyasCard.lean, 'card_holds'). Laid BY PROGRAM, IN A SANDBOX (cutbox-door.mjs). By AI agents, Wed Nov 11 2026. No macro, syntax, notation, axiom, sorry.
-/
import Derived.Test.YtelkmjkclmjggaaDoorRows
import GoSem.ClaimSeven
namespace Go.Proofs.YtelkmjkclmjggaaDoor
namespace Rows

/-- THE TIED CARD OF 'laws.FnExactParseDeed'. -/
def fnExactParseDeedCard : Claim7 := { stood := { row := fnExactParseDeedRow, standIns := [], harness := (true, "edc8e3c541669f7d1647ae8971a6173c847b757b1d1e8c2dcab05760dbb4c7f4"), looks := true }, kinds := [], alts := [], laidByText := true, laidKinds := [.data, .data, .data, .data, .sentinel, .sentinel, .pinned], laidTests := true, laidLooks := .later }
def FnExactParseDeedCardSaid : Prop := Claim7.holds Tryd.pinned (.plain (OpenSpec.ofChange fnExactParseDeedSpec)) fnExactParseDeedCard

/-- THE SECOND FORM's CARD OF 'laws.FnExactParseDeed'. -/
def fnExactParseDeedUptoCard : Claim7 := { stood := { row := fnExactParseDeedUptoRow, standIns := [], harness := (true, "edc8e3c541669f7d1647ae8971a6173c847b757b1d1e8c2dcab05760dbb4c7f4"), looks := true }, kinds := [], alts := [], laidByText := true, laidKinds := [.data, .data, .data, .data, .sentinel, .sentinel, .pinned], laidTests := true, laidLooks := .later }
def FnExactParseDeedUptoCardSaid : Prop := Claim7.holds Tryd.pinned (.plain (OpenSpec.upto fnExactParseDeedSpec)) fnExactParseDeedUptoCard
end Rows
end Go.Proofs.YtelkmjkclmjggaaDoor
