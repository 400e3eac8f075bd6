/-
  DERIVED. GIVEN WITH THE SEED: THE CARDS: each row of YtoglpjkelbfjfaaGreatDoorRows.lean that lists a variable, with what it lists TIED to the program's text (the seventh form; the later family's looks); each row that meets fmt, with fmt's text TOLD by the authors' own Lean function (tested against real Go, not proved from fmt's source: count such statements apart). THE CARD IS WHAT COUNTS. Prove the row's statement (the work); the ties are given (YtoglpjkelbfjfaaGreatDoorTie.lean); close each card by the builder's one call (the guide's Derived/Test/ToyasCard.lean, 'card_holds'). Laid BY PROGRAM, IN A SANDBOX (cutbox-door.mjs). By AI agents, Wed Nov 11 2026. No macro, syntax, notation, axiom, sorry.
-/
import Derived.Test.YtoglpjkelbfjfaaGreatDoorRows
import GoSem.ClaimSeven
namespace Go.Proofs.YtoglpjkelbfjfaaGreatDoor
namespace Rows

/-- THE TIED CARD OF 'laws.FnExactInstTake'. -/
def fnExactInstTakeCard : Claim7 := { stood := { row := fnExactInstTakeRow, standIns := [], harness := (true, "e9081a401c06fee75acf7191ed3c09febc2279b7f238606984c48239027933ea"), looks := true }, kinds := [], alts := [], laidByText := true, laidKinds := [.data, .data, .data, .sentinel, .sentinel], laidTests := true, laidLooks := .later }
def FnExactInstTakeCardSaid : Prop := Claim7.holds Tryz.pinned (.plain (OpenSpec.ofChange fnExactInstTakeSpec)) fnExactInstTakeCard

/-- THE TIED CARD OF 'laws.FnExactInstGo'. -/
def fnExactInstGoCard : Claim7 := { stood := { row := fnExactInstGoRow, standIns := [], harness := (true, "e9081a401c06fee75acf7191ed3c09febc2279b7f238606984c48239027933ea"), looks := true }, kinds := [], alts := [], laidByText := true, laidKinds := [.data, .data, .data, .sentinel, .sentinel], laidTests := true, laidLooks := .later }
def FnExactInstGoCardSaid : Prop := Claim7.holds Tryz.pinned (.plain (OpenSpec.ofChange fnExactInstGoSpec)) fnExactInstGoCard

/-- THE TIED CARD OF 'laws.FnExactNewsOf'. -/
def fnExactNewsOfCard : Claim7 := { stood := { row := fnExactNewsOfRow, standIns := [], harness := (true, "e9081a401c06fee75acf7191ed3c09febc2279b7f238606984c48239027933ea"), looks := true }, kinds := [], alts := [], laidByText := true, laidKinds := [.data, .data, .data, .sentinel, .sentinel], laidTests := true, laidLooks := .later }
def FnExactNewsOfCardSaid : Prop := Claim7.holds Tryz.pinned (.plain (OpenSpec.ofChange fnExactNewsOfSpec)) fnExactNewsOfCard

/-- THE TIED CARD OF 'laws.FnExactKeyOf'. -/
def fnExactKeyOfCard : Claim7 := { stood := { row := fnExactKeyOfRow, standIns := [], harness := (true, "e9081a401c06fee75acf7191ed3c09febc2279b7f238606984c48239027933ea"), looks := true }, kinds := [], alts := [], laidByText := true, laidKinds := [.data, .data, .data, .sentinel, .sentinel], laidTests := true, laidLooks := .later }
def FnExactKeyOfCardSaid : Prop := Claim7.holds Tryz.pinned (.plain (OpenSpec.ofChange fnExactKeyOfSpec)) fnExactKeyOfCard

/-- THE TIED CARD OF 'laws.FnExactStreamDo'. -/
def fnExactStreamDoCard : Claim7 := { stood := { row := fnExactStreamDoRow, standIns := [], harness := (true, "e9081a401c06fee75acf7191ed3c09febc2279b7f238606984c48239027933ea"), looks := true }, kinds := [], alts := [], laidByText := true, laidKinds := [.data, .data, .data, .sentinel, .sentinel], laidTests := true, laidLooks := .later }
def FnExactStreamDoCardSaid : Prop := Claim7.holds Tryz.pinned (.plain (OpenSpec.ofChange fnExactStreamDoSpec)) fnExactStreamDoCard

/-- THE TIED CARD OF 'laws.FnExactJudgeAgree'. -/
def fnExactJudgeAgreeCard : Claim7 := { stood := { row := fnExactJudgeAgreeRow, standIns := [], harness := (true, "e9081a401c06fee75acf7191ed3c09febc2279b7f238606984c48239027933ea"), looks := true }, kinds := [], alts := [], laidByText := true, laidKinds := [.data, .data, .data, .sentinel, .sentinel], laidTests := true, laidLooks := .later }
def FnExactJudgeAgreeCardSaid : Prop := Claim7.holds Tryz.pinned (.plain (OpenSpec.ofChange fnExactJudgeAgreeSpec)) fnExactJudgeAgreeCard

/-- THE TIED CARD OF 'laws.FnExactPartners'. -/
def fnExactPartnersCard : Claim7 := { stood := { row := fnExactPartnersRow, standIns := [], harness := (true, "e9081a401c06fee75acf7191ed3c09febc2279b7f238606984c48239027933ea"), looks := true }, kinds := [], alts := [], laidByText := true, laidKinds := [.data, .data, .data, .sentinel, .sentinel], laidTests := true, laidLooks := .later }
def FnExactPartnersCardSaid : Prop := Claim7.holds Tryz.pinned (.plain (OpenSpec.ofChange fnExactPartnersSpec)) fnExactPartnersCard

/-- THE TIED CARD OF 'laws.FnExactStreamRun'. -/
def fnExactStreamRunCard : Claim7 := { stood := { row := fnExactStreamRunRow, standIns := [], harness := (true, "e9081a401c06fee75acf7191ed3c09febc2279b7f238606984c48239027933ea"), looks := true }, kinds := [], alts := [], laidByText := true, laidKinds := [.data, .data, .data, .sentinel, .sentinel], laidTests := true, laidLooks := .later }
def FnExactStreamRunCardSaid : Prop := Claim7.holds Tryz.pinned (.plain (OpenSpec.ofChange fnExactStreamRunSpec)) fnExactStreamRunCard

/-- THE TIED CARD OF 'laws.FnLetters'. -/
def fnLettersCard : Claim7 := { stood := { row := fnLettersRow, standIns := [], harness := (true, "e9081a401c06fee75acf7191ed3c09febc2279b7f238606984c48239027933ea"), looks := true }, kinds := [], alts := [], laidByText := true, laidKinds := [.data, .data, .data, .sentinel, .sentinel], laidTests := true, laidLooks := .later }
def FnLettersCardSaid : Prop := Claim7.holds Tryz.pinned (.plain (OpenSpec.ofChange fnLettersSpec)) fnLettersCard

/-- THE TIED CARD OF 'laws.FnMatchMade'. -/
def fnMatchMadeCard : Claim7 := { stood := { row := fnMatchMadeRow, standIns := [], harness := (true, "e9081a401c06fee75acf7191ed3c09febc2279b7f238606984c48239027933ea"), looks := true }, kinds := [], alts := [], laidByText := true, laidKinds := [.data, .data, .data, .sentinel, .sentinel], laidTests := true, laidLooks := .later }
def FnMatchMadeCardSaid : Prop := Claim7.holds Tryz.pinned (.plain (OpenSpec.ofChange fnMatchMadeSpec)) fnMatchMadeCard

/-- THE TIED CARD OF 'laws.FnMatched'. -/
def fnMatchedCard : Claim7 := { stood := { row := fnMatchedRow, standIns := [], harness := (true, "e9081a401c06fee75acf7191ed3c09febc2279b7f238606984c48239027933ea"), looks := true }, kinds := [], alts := [], laidByText := true, laidKinds := [.data, .data, .data, .sentinel, .sentinel], laidTests := true, laidLooks := .later }
def FnMatchedCardSaid : Prop := Claim7.holds Tryz.pinned (.plain (OpenSpec.ofChange fnMatchedSpec)) fnMatchedCard

/-- THE SECOND FORM's CARD OF 'laws.FnExactInstTake'. -/
def fnExactInstTakeUptoCard : Claim7 := { stood := { row := fnExactInstTakeUptoRow, standIns := [], harness := (true, "e9081a401c06fee75acf7191ed3c09febc2279b7f238606984c48239027933ea"), looks := true }, kinds := [], alts := [], laidByText := true, laidKinds := [.data, .data, .data, .sentinel, .sentinel], laidTests := true, laidLooks := .later }
def FnExactInstTakeUptoCardSaid : Prop := Claim7.holds Tryz.pinned (.plain (OpenSpec.upto fnExactInstTakeSpec)) fnExactInstTakeUptoCard

/-- THE SECOND FORM's CARD OF 'laws.FnExactInstGo'. -/
def fnExactInstGoUptoCard : Claim7 := { stood := { row := fnExactInstGoUptoRow, standIns := [], harness := (true, "e9081a401c06fee75acf7191ed3c09febc2279b7f238606984c48239027933ea"), looks := true }, kinds := [], alts := [], laidByText := true, laidKinds := [.data, .data, .data, .sentinel, .sentinel], laidTests := true, laidLooks := .later }
def FnExactInstGoUptoCardSaid : Prop := Claim7.holds Tryz.pinned (.plain (OpenSpec.upto fnExactInstGoSpec)) fnExactInstGoUptoCard

/-- THE SECOND FORM's CARD OF 'laws.FnExactNewsOf'. -/
def fnExactNewsOfUptoCard : Claim7 := { stood := { row := fnExactNewsOfUptoRow, standIns := [], harness := (true, "e9081a401c06fee75acf7191ed3c09febc2279b7f238606984c48239027933ea"), looks := true }, kinds := [], alts := [], laidByText := true, laidKinds := [.data, .data, .data, .sentinel, .sentinel], laidTests := true, laidLooks := .later }
def FnExactNewsOfUptoCardSaid : Prop := Claim7.holds Tryz.pinned (.plain (OpenSpec.upto fnExactNewsOfSpec)) fnExactNewsOfUptoCard

/-- THE SECOND FORM's CARD OF 'laws.FnExactKeyOf'. -/
def fnExactKeyOfUptoCard : Claim7 := { stood := { row := fnExactKeyOfUptoRow, standIns := [], harness := (true, "e9081a401c06fee75acf7191ed3c09febc2279b7f238606984c48239027933ea"), looks := true }, kinds := [], alts := [], laidByText := true, laidKinds := [.data, .data, .data, .sentinel, .sentinel], laidTests := true, laidLooks := .later }
def FnExactKeyOfUptoCardSaid : Prop := Claim7.holds Tryz.pinned (.plain (OpenSpec.upto fnExactKeyOfSpec)) fnExactKeyOfUptoCard

/-- THE SECOND FORM's CARD OF 'laws.FnExactStreamDo'. -/
def fnExactStreamDoUptoCard : Claim7 := { stood := { row := fnExactStreamDoUptoRow, standIns := [], harness := (true, "e9081a401c06fee75acf7191ed3c09febc2279b7f238606984c48239027933ea"), looks := true }, kinds := [], alts := [], laidByText := true, laidKinds := [.data, .data, .data, .sentinel, .sentinel], laidTests := true, laidLooks := .later }
def FnExactStreamDoUptoCardSaid : Prop := Claim7.holds Tryz.pinned (.plain (OpenSpec.upto fnExactStreamDoSpec)) fnExactStreamDoUptoCard

/-- THE SECOND FORM's CARD OF 'laws.FnExactJudgeAgree'. -/
def fnExactJudgeAgreeUptoCard : Claim7 := { stood := { row := fnExactJudgeAgreeUptoRow, standIns := [], harness := (true, "e9081a401c06fee75acf7191ed3c09febc2279b7f238606984c48239027933ea"), looks := true }, kinds := [], alts := [], laidByText := true, laidKinds := [.data, .data, .data, .sentinel, .sentinel], laidTests := true, laidLooks := .later }
def FnExactJudgeAgreeUptoCardSaid : Prop := Claim7.holds Tryz.pinned (.plain (OpenSpec.upto fnExactJudgeAgreeSpec)) fnExactJudgeAgreeUptoCard

/-- THE SECOND FORM's CARD OF 'laws.FnExactPartners'. -/
def fnExactPartnersUptoCard : Claim7 := { stood := { row := fnExactPartnersUptoRow, standIns := [], harness := (true, "e9081a401c06fee75acf7191ed3c09febc2279b7f238606984c48239027933ea"), looks := true }, kinds := [], alts := [], laidByText := true, laidKinds := [.data, .data, .data, .sentinel, .sentinel], laidTests := true, laidLooks := .later }
def FnExactPartnersUptoCardSaid : Prop := Claim7.holds Tryz.pinned (.plain (OpenSpec.upto fnExactPartnersSpec)) fnExactPartnersUptoCard

/-- THE SECOND FORM's CARD OF 'laws.FnExactStreamRun'. -/
def fnExactStreamRunUptoCard : Claim7 := { stood := { row := fnExactStreamRunUptoRow, standIns := [], harness := (true, "e9081a401c06fee75acf7191ed3c09febc2279b7f238606984c48239027933ea"), looks := true }, kinds := [], alts := [], laidByText := true, laidKinds := [.data, .data, .data, .sentinel, .sentinel], laidTests := true, laidLooks := .later }
def FnExactStreamRunUptoCardSaid : Prop := Claim7.holds Tryz.pinned (.plain (OpenSpec.upto fnExactStreamRunSpec)) fnExactStreamRunUptoCard

/-- THE SECOND FORM's CARD OF 'laws.FnLetters'. -/
def fnLettersUptoCard : Claim7 := { stood := { row := fnLettersUptoRow, standIns := [], harness := (true, "e9081a401c06fee75acf7191ed3c09febc2279b7f238606984c48239027933ea"), looks := true }, kinds := [], alts := [], laidByText := true, laidKinds := [.data, .data, .data, .sentinel, .sentinel], laidTests := true, laidLooks := .later }
def FnLettersUptoCardSaid : Prop := Claim7.holds Tryz.pinned (.plain (OpenSpec.upto fnLettersSpec)) fnLettersUptoCard

/-- THE SECOND FORM's CARD OF 'laws.FnMatchMade'. -/
def fnMatchMadeUptoCard : Claim7 := { stood := { row := fnMatchMadeUptoRow, standIns := [], harness := (true, "e9081a401c06fee75acf7191ed3c09febc2279b7f238606984c48239027933ea"), looks := true }, kinds := [], alts := [], laidByText := true, laidKinds := [.data, .data, .data, .sentinel, .sentinel], laidTests := true, laidLooks := .later }
def FnMatchMadeUptoCardSaid : Prop := Claim7.holds Tryz.pinned (.plain (OpenSpec.upto fnMatchMadeSpec)) fnMatchMadeUptoCard

/-- THE SECOND FORM's CARD OF 'laws.FnMatched'. -/
def fnMatchedUptoCard : Claim7 := { stood := { row := fnMatchedUptoRow, standIns := [], harness := (true, "e9081a401c06fee75acf7191ed3c09febc2279b7f238606984c48239027933ea"), looks := true }, kinds := [], alts := [], laidByText := true, laidKinds := [.data, .data, .data, .sentinel, .sentinel], laidTests := true, laidLooks := .later }
def FnMatchedUptoCardSaid : Prop := Claim7.holds Tryz.pinned (.plain (OpenSpec.upto fnMatchedSpec)) fnMatchedUptoCard
end Rows
end Go.Proofs.YtoglpjkelbfjfaaGreatDoor
