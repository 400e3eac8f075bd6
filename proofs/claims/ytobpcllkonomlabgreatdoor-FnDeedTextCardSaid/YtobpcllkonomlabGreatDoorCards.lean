/-
  DERIVED. GIVEN WITH THE SEED: THE CARDS: each row of YtobpcllkonomlabGreatDoorRows.lean that lists a variable, with what it lists TIED to the program's text (the seventh form; the later family's looks); each row that meets fmt, with fmt's text TOLD by the authors' own Lean function (tested against real Go, not proved from fmt's source: count such statements apart). THE CARD IS WHAT COUNTS. Prove the row's statement (the work); the ties are given (YtobpcllkonomlabGreatDoorTie.lean); close each card by the builder's one call (the guide's Derived/Test/ToyasCard.lean, 'card_holds'). Laid BY PROGRAM, IN A SANDBOX (cutbox-door.mjs). By AI agents, Wed Nov 11 2026. No macro, syntax, notation, axiom, sorry.
-/
import Derived.Test.YtobpcllkonomlabGreatDoorRows
import GoSem.ClaimSeven
namespace Go.Proofs.YtobpcllkonomlabGreatDoor
namespace Rows

/-- THE TIED CARD OF 'laws.FnExactJudgeSecret'. -/
def fnExactJudgeSecretCard : Claim7 := { stood := { row := fnExactJudgeSecretRow, standIns := [], harness := (true, "1d8926da2008b27b87ad9c6cbab103722229d6f668ce0054dd5d3ba45b999fc5"), looks := true }, kinds := [], alts := [], laidByText := true, laidKinds := [.data, .data, .data, .sentinel, .sentinel], laidTests := true, laidLooks := .later }
def FnExactJudgeSecretCardSaid : Prop := Claim7.holds Tryz.pinned (.plain (OpenSpec.ofChange fnExactJudgeSecretSpec)) fnExactJudgeSecretCard

/-- THE TIED CARD OF 'laws.FnExactNewsOf'. -/
def fnExactNewsOfCard : Claim7 := { stood := { row := fnExactNewsOfRow, standIns := [], harness := (true, "1d8926da2008b27b87ad9c6cbab103722229d6f668ce0054dd5d3ba45b999fc5"), looks := true }, kinds := [], alts := [], laidByText := true, laidKinds := [.data, .data, .data, .sentinel, .sentinel], laidTests := true, laidLooks := .later }
def FnExactNewsOfCardSaid : Prop := Claim7.holds Tryz.pinned (.plain (OpenSpec.ofChange fnExactNewsOfSpec)) fnExactNewsOfCard

/-- THE TIED CARD OF 'laws.FnExactPartners'. -/
def fnExactPartnersCard : Claim7 := { stood := { row := fnExactPartnersRow, standIns := [], harness := (true, "1d8926da2008b27b87ad9c6cbab103722229d6f668ce0054dd5d3ba45b999fc5"), looks := true }, kinds := [], alts := [], laidByText := true, laidKinds := [.data, .data, .data, .sentinel, .sentinel], laidTests := true, laidLooks := .later }
def FnExactPartnersCardSaid : Prop := Claim7.holds Tryz.pinned (.plain (OpenSpec.ofChange fnExactPartnersSpec)) fnExactPartnersCard

/-- THE TIED CARD OF 'laws.FnDeedText'. -/
def fnDeedTextCard : Claim7 := { stood := { row := fnDeedTextRow, standIns := [], harness := (true, "1d8926da2008b27b87ad9c6cbab103722229d6f668ce0054dd5d3ba45b999fc5"), looks := true }, kinds := [], alts := [], laidByText := true, laidKinds := [.data, .data, .data, .data, .sentinel, .sentinel, .pinned], laidTests := true, laidLooks := .later }
def FnDeedTextCardSaid : Prop := Claim7.holds Tryz.pinned (.plain (OpenSpec.ofChange fnDeedTextSpec)) fnDeedTextCard

/-- THE SECOND FORM's CARD OF 'laws.FnExactJudgeSecret'. -/
def fnExactJudgeSecretUptoCard : Claim7 := { stood := { row := fnExactJudgeSecretUptoRow, standIns := [], harness := (true, "1d8926da2008b27b87ad9c6cbab103722229d6f668ce0054dd5d3ba45b999fc5"), looks := true }, kinds := [], alts := [], laidByText := true, laidKinds := [.data, .data, .data, .sentinel, .sentinel], laidTests := true, laidLooks := .later }
def FnExactJudgeSecretUptoCardSaid : Prop := Claim7.holds Tryz.pinned (.plain (OpenSpec.upto fnExactJudgeSecretSpec)) fnExactJudgeSecretUptoCard

/-- THE SECOND FORM's CARD OF 'laws.FnExactNewsOf'. -/
def fnExactNewsOfUptoCard : Claim7 := { stood := { row := fnExactNewsOfUptoRow, standIns := [], harness := (true, "1d8926da2008b27b87ad9c6cbab103722229d6f668ce0054dd5d3ba45b999fc5"), looks := true }, kinds := [], alts := [], laidByText := true, laidKinds := [.data, .data, .data, .sentinel, .sentinel], laidTests := true, laidLooks := .later }
def FnExactNewsOfUptoCardSaid : Prop := Claim7.holds Tryz.pinned (.plain (OpenSpec.upto fnExactNewsOfSpec)) fnExactNewsOfUptoCard

/-- THE SECOND FORM's CARD OF 'laws.FnExactPartners'. -/
def fnExactPartnersUptoCard : Claim7 := { stood := { row := fnExactPartnersUptoRow, standIns := [], harness := (true, "1d8926da2008b27b87ad9c6cbab103722229d6f668ce0054dd5d3ba45b999fc5"), looks := true }, kinds := [], alts := [], laidByText := true, laidKinds := [.data, .data, .data, .sentinel, .sentinel], laidTests := true, laidLooks := .later }
def FnExactPartnersUptoCardSaid : Prop := Claim7.holds Tryz.pinned (.plain (OpenSpec.upto fnExactPartnersSpec)) fnExactPartnersUptoCard

/-- THE SECOND FORM's CARD OF 'laws.FnDeedText'. -/
def fnDeedTextUptoCard : Claim7 := { stood := { row := fnDeedTextUptoRow, standIns := [], harness := (true, "1d8926da2008b27b87ad9c6cbab103722229d6f668ce0054dd5d3ba45b999fc5"), looks := true }, kinds := [], alts := [], laidByText := true, laidKinds := [.data, .data, .data, .data, .sentinel, .sentinel, .pinned], laidTests := true, laidLooks := .later }
def FnDeedTextUptoCardSaid : Prop := Claim7.holds Tryz.pinned (.plain (OpenSpec.upto fnDeedTextSpec)) fnDeedTextUptoCard
end Rows
end Go.Proofs.YtobpcllkonomlabGreatDoor
