/-
  DERIVED. GIVEN WITH THE SEED: THE CARDS: each row of YtpcdcnmmkfhliaaGreatDoorRows.lean that lists a variable, with what it lists TIED to the program's text (the seventh form; the later family's looks); each row that meets fmt, with fmt's text TOLD by the authors' own Lean function (tested against real Go, not proved from fmt's source: count such statements apart). THE CARD IS WHAT COUNTS. Prove the row's statement (the work); the ties are given (YtpcdcnmmkfhliaaGreatDoorTie.lean); close each card by the builder's one call (the guide's Derived/Test/ToyasCard.lean, 'card_holds'). Laid BY PROGRAM, IN A SANDBOX (cutbox-door.mjs). By AI agents, Wed Nov 11 2026. No macro, syntax, notation, axiom, sorry.
-/
import Derived.Test.YtpcdcnmmkfhliaaGreatDoorRows
import GoSem.ClaimSeven
namespace Go.Proofs.YtpcdcnmmkfhliaaGreatDoor
namespace Rows

/-- THE TIED CARD OF 'laws.FnExactInstOk'. -/
def fnExactInstOkCard : Claim7 := { stood := { row := fnExactInstOkRow, standIns := [], harness := (true, "fe1e70e1ff61d491be04ffb790c0e3e3b7f58ec23ee976eed25b38710a087151"), looks := true }, kinds := [], alts := [], laidByText := true, laidKinds := [.data, .data, .data, .sentinel, .sentinel], laidTests := true, laidLooks := .later }
def FnExactInstOkCardSaid : Prop := Claim7.holds Tryz.pinned (.plain (OpenSpec.ofChange fnExactInstOkSpec)) fnExactInstOkCard

/-- THE TIED CARD OF 'laws.FnExactWorldOk'. -/
def fnExactWorldOkCard : Claim7 := { stood := { row := fnExactWorldOkRow, standIns := [], harness := (true, "fe1e70e1ff61d491be04ffb790c0e3e3b7f58ec23ee976eed25b38710a087151"), looks := true }, kinds := [], alts := [], laidByText := true, laidKinds := [.data, .data, .data, .sentinel, .sentinel], laidTests := true, laidLooks := .later }
def FnExactWorldOkCardSaid : Prop := Claim7.holds Tryz.pinned (.plain (OpenSpec.ofChange fnExactWorldOkSpec)) fnExactWorldOkCard

/-- THE TIED CARD OF 'laws.FnExactWasGiven'. -/
def fnExactWasGivenCard : Claim7 := { stood := { row := fnExactWasGivenRow, standIns := [], harness := (true, "fe1e70e1ff61d491be04ffb790c0e3e3b7f58ec23ee976eed25b38710a087151"), looks := true }, kinds := [], alts := [], laidByText := true, laidKinds := [.data, .data, .data, .sentinel, .sentinel], laidTests := true, laidLooks := .later }
def FnExactWasGivenCardSaid : Prop := Claim7.holds Tryz.pinned (.plain (OpenSpec.ofChange fnExactWasGivenSpec)) fnExactWasGivenCard

/-- THE TIED CARD OF 'laws.FnExactClaimOf'. -/
def fnExactClaimOfCard : Claim7 := { stood := { row := fnExactClaimOfRow, standIns := [], harness := (true, "fe1e70e1ff61d491be04ffb790c0e3e3b7f58ec23ee976eed25b38710a087151"), looks := true }, kinds := [], alts := [], laidByText := true, laidKinds := [.data, .data, .data, .sentinel, .sentinel], laidTests := true, laidLooks := .later }
def FnExactClaimOfCardSaid : Prop := Claim7.holds Tryz.pinned (.plain (OpenSpec.ofChange fnExactClaimOfSpec)) fnExactClaimOfCard

/-- THE TIED CARD OF 'laws.FnExactTrusted'. -/
def fnExactTrustedCard : Claim7 := { stood := { row := fnExactTrustedRow, standIns := [], harness := (true, "fe1e70e1ff61d491be04ffb790c0e3e3b7f58ec23ee976eed25b38710a087151"), looks := true }, kinds := [], alts := [], laidByText := true, laidKinds := [.data, .data, .data, .sentinel, .sentinel], laidTests := true, laidLooks := .later }
def FnExactTrustedCardSaid : Prop := Claim7.holds Tryz.pinned (.plain (OpenSpec.ofChange fnExactTrustedSpec)) fnExactTrustedCard

/-- THE TIED CARD OF 'laws.FnExactKeyShown'. -/
def fnExactKeyShownCard : Claim7 := { stood := { row := fnExactKeyShownRow, standIns := [], harness := (true, "fe1e70e1ff61d491be04ffb790c0e3e3b7f58ec23ee976eed25b38710a087151"), looks := true }, kinds := [], alts := [], laidByText := true, laidKinds := [.data, .data, .data, .sentinel, .sentinel], laidTests := true, laidLooks := .later }
def FnExactKeyShownCardSaid : Prop := Claim7.holds Tryz.pinned (.plain (OpenSpec.ofChange fnExactKeyShownSpec)) fnExactKeyShownCard

/-- THE TIED CARD OF 'laws.FnExactShowInst'. -/
def fnExactShowInstCard : Claim7 := { stood := { row := fnExactShowInstRow, standIns := [], harness := (true, "fe1e70e1ff61d491be04ffb790c0e3e3b7f58ec23ee976eed25b38710a087151"), looks := true }, kinds := [], alts := [], laidByText := true, laidKinds := [.data, .data, .data, .sentinel, .sentinel], laidTests := true, laidLooks := .later }
def FnExactShowInstCardSaid : Prop := Claim7.holds Tryz.pinned (.plain (OpenSpec.ofChange fnExactShowInstSpec)) fnExactShowInstCard

/-- THE TIED CARD OF 'laws.FnExactJudgeOnce'. -/
def fnExactJudgeOnceCard : Claim7 := { stood := { row := fnExactJudgeOnceRow, standIns := [], harness := (true, "fe1e70e1ff61d491be04ffb790c0e3e3b7f58ec23ee976eed25b38710a087151"), looks := true }, kinds := [], alts := [], laidByText := true, laidKinds := [.data, .data, .data, .sentinel, .sentinel], laidTests := true, laidLooks := .later }
def FnExactJudgeOnceCardSaid : Prop := Claim7.holds Tryz.pinned (.plain (OpenSpec.ofChange fnExactJudgeOnceSpec)) fnExactJudgeOnceCard

/-- THE TIED CARD OF 'laws.FnExactSecret'. -/
def fnExactSecretCard : Claim7 := { stood := { row := fnExactSecretRow, standIns := [], harness := (true, "fe1e70e1ff61d491be04ffb790c0e3e3b7f58ec23ee976eed25b38710a087151"), looks := true }, kinds := [], alts := [], laidByText := true, laidKinds := [.data, .data, .data, .sentinel, .sentinel], laidTests := true, laidLooks := .later }
def FnExactSecretCardSaid : Prop := Claim7.holds Tryz.pinned (.plain (OpenSpec.ofChange fnExactSecretSpec)) fnExactSecretCard

/-- THE TIED CARD OF 'laws.FnExactKeyOf'. -/
def fnExactKeyOfCard : Claim7 := { stood := { row := fnExactKeyOfRow, standIns := [], harness := (true, "fe1e70e1ff61d491be04ffb790c0e3e3b7f58ec23ee976eed25b38710a087151"), looks := true }, kinds := [], alts := [], laidByText := true, laidKinds := [.data, .data, .data, .sentinel, .sentinel], laidTests := true, laidLooks := .later }
def FnExactKeyOfCardSaid : Prop := Claim7.holds Tryz.pinned (.plain (OpenSpec.ofChange fnExactKeyOfSpec)) fnExactKeyOfCard

/-- THE TIED CARD OF 'laws.FnExactJudgeAgree'. -/
def fnExactJudgeAgreeCard : Claim7 := { stood := { row := fnExactJudgeAgreeRow, standIns := [], harness := (true, "fe1e70e1ff61d491be04ffb790c0e3e3b7f58ec23ee976eed25b38710a087151"), looks := true }, kinds := [], alts := [], laidByText := true, laidKinds := [.data, .data, .data, .sentinel, .sentinel], laidTests := true, laidLooks := .later }
def FnExactJudgeAgreeCardSaid : Prop := Claim7.holds Tryz.pinned (.plain (OpenSpec.ofChange fnExactJudgeAgreeSpec)) fnExactJudgeAgreeCard

/-- THE TIED CARD OF 'laws.FnExactJudgeSecret'. -/
def fnExactJudgeSecretCard : Claim7 := { stood := { row := fnExactJudgeSecretRow, standIns := [], harness := (true, "fe1e70e1ff61d491be04ffb790c0e3e3b7f58ec23ee976eed25b38710a087151"), looks := true }, kinds := [], alts := [], laidByText := true, laidKinds := [.data, .data, .data, .sentinel, .sentinel], laidTests := true, laidLooks := .later }
def FnExactJudgeSecretCardSaid : Prop := Claim7.holds Tryz.pinned (.plain (OpenSpec.ofChange fnExactJudgeSecretSpec)) fnExactJudgeSecretCard

/-- THE SECOND FORM's CARD OF 'laws.FnExactInstOk'. -/
def fnExactInstOkUptoCard : Claim7 := { stood := { row := fnExactInstOkUptoRow, standIns := [], harness := (true, "fe1e70e1ff61d491be04ffb790c0e3e3b7f58ec23ee976eed25b38710a087151"), looks := true }, kinds := [], alts := [], laidByText := true, laidKinds := [.data, .data, .data, .sentinel, .sentinel], laidTests := true, laidLooks := .later }
def FnExactInstOkUptoCardSaid : Prop := Claim7.holds Tryz.pinned (.plain (OpenSpec.upto fnExactInstOkSpec)) fnExactInstOkUptoCard

/-- THE SECOND FORM's CARD OF 'laws.FnExactWorldOk'. -/
def fnExactWorldOkUptoCard : Claim7 := { stood := { row := fnExactWorldOkUptoRow, standIns := [], harness := (true, "fe1e70e1ff61d491be04ffb790c0e3e3b7f58ec23ee976eed25b38710a087151"), looks := true }, kinds := [], alts := [], laidByText := true, laidKinds := [.data, .data, .data, .sentinel, .sentinel], laidTests := true, laidLooks := .later }
def FnExactWorldOkUptoCardSaid : Prop := Claim7.holds Tryz.pinned (.plain (OpenSpec.upto fnExactWorldOkSpec)) fnExactWorldOkUptoCard

/-- THE SECOND FORM's CARD OF 'laws.FnExactWasGiven'. -/
def fnExactWasGivenUptoCard : Claim7 := { stood := { row := fnExactWasGivenUptoRow, standIns := [], harness := (true, "fe1e70e1ff61d491be04ffb790c0e3e3b7f58ec23ee976eed25b38710a087151"), looks := true }, kinds := [], alts := [], laidByText := true, laidKinds := [.data, .data, .data, .sentinel, .sentinel], laidTests := true, laidLooks := .later }
def FnExactWasGivenUptoCardSaid : Prop := Claim7.holds Tryz.pinned (.plain (OpenSpec.upto fnExactWasGivenSpec)) fnExactWasGivenUptoCard

/-- THE SECOND FORM's CARD OF 'laws.FnExactClaimOf'. -/
def fnExactClaimOfUptoCard : Claim7 := { stood := { row := fnExactClaimOfUptoRow, standIns := [], harness := (true, "fe1e70e1ff61d491be04ffb790c0e3e3b7f58ec23ee976eed25b38710a087151"), looks := true }, kinds := [], alts := [], laidByText := true, laidKinds := [.data, .data, .data, .sentinel, .sentinel], laidTests := true, laidLooks := .later }
def FnExactClaimOfUptoCardSaid : Prop := Claim7.holds Tryz.pinned (.plain (OpenSpec.upto fnExactClaimOfSpec)) fnExactClaimOfUptoCard

/-- THE SECOND FORM's CARD OF 'laws.FnExactTrusted'. -/
def fnExactTrustedUptoCard : Claim7 := { stood := { row := fnExactTrustedUptoRow, standIns := [], harness := (true, "fe1e70e1ff61d491be04ffb790c0e3e3b7f58ec23ee976eed25b38710a087151"), looks := true }, kinds := [], alts := [], laidByText := true, laidKinds := [.data, .data, .data, .sentinel, .sentinel], laidTests := true, laidLooks := .later }
def FnExactTrustedUptoCardSaid : Prop := Claim7.holds Tryz.pinned (.plain (OpenSpec.upto fnExactTrustedSpec)) fnExactTrustedUptoCard

/-- THE SECOND FORM's CARD OF 'laws.FnExactKeyShown'. -/
def fnExactKeyShownUptoCard : Claim7 := { stood := { row := fnExactKeyShownUptoRow, standIns := [], harness := (true, "fe1e70e1ff61d491be04ffb790c0e3e3b7f58ec23ee976eed25b38710a087151"), looks := true }, kinds := [], alts := [], laidByText := true, laidKinds := [.data, .data, .data, .sentinel, .sentinel], laidTests := true, laidLooks := .later }
def FnExactKeyShownUptoCardSaid : Prop := Claim7.holds Tryz.pinned (.plain (OpenSpec.upto fnExactKeyShownSpec)) fnExactKeyShownUptoCard

/-- THE SECOND FORM's CARD OF 'laws.FnExactShowInst'. -/
def fnExactShowInstUptoCard : Claim7 := { stood := { row := fnExactShowInstUptoRow, standIns := [], harness := (true, "fe1e70e1ff61d491be04ffb790c0e3e3b7f58ec23ee976eed25b38710a087151"), looks := true }, kinds := [], alts := [], laidByText := true, laidKinds := [.data, .data, .data, .sentinel, .sentinel], laidTests := true, laidLooks := .later }
def FnExactShowInstUptoCardSaid : Prop := Claim7.holds Tryz.pinned (.plain (OpenSpec.upto fnExactShowInstSpec)) fnExactShowInstUptoCard

/-- THE SECOND FORM's CARD OF 'laws.FnExactJudgeOnce'. -/
def fnExactJudgeOnceUptoCard : Claim7 := { stood := { row := fnExactJudgeOnceUptoRow, standIns := [], harness := (true, "fe1e70e1ff61d491be04ffb790c0e3e3b7f58ec23ee976eed25b38710a087151"), looks := true }, kinds := [], alts := [], laidByText := true, laidKinds := [.data, .data, .data, .sentinel, .sentinel], laidTests := true, laidLooks := .later }
def FnExactJudgeOnceUptoCardSaid : Prop := Claim7.holds Tryz.pinned (.plain (OpenSpec.upto fnExactJudgeOnceSpec)) fnExactJudgeOnceUptoCard

/-- THE SECOND FORM's CARD OF 'laws.FnExactSecret'. -/
def fnExactSecretUptoCard : Claim7 := { stood := { row := fnExactSecretUptoRow, standIns := [], harness := (true, "fe1e70e1ff61d491be04ffb790c0e3e3b7f58ec23ee976eed25b38710a087151"), looks := true }, kinds := [], alts := [], laidByText := true, laidKinds := [.data, .data, .data, .sentinel, .sentinel], laidTests := true, laidLooks := .later }
def FnExactSecretUptoCardSaid : Prop := Claim7.holds Tryz.pinned (.plain (OpenSpec.upto fnExactSecretSpec)) fnExactSecretUptoCard

/-- THE SECOND FORM's CARD OF 'laws.FnExactKeyOf'. -/
def fnExactKeyOfUptoCard : Claim7 := { stood := { row := fnExactKeyOfUptoRow, standIns := [], harness := (true, "fe1e70e1ff61d491be04ffb790c0e3e3b7f58ec23ee976eed25b38710a087151"), looks := true }, kinds := [], alts := [], laidByText := true, laidKinds := [.data, .data, .data, .sentinel, .sentinel], laidTests := true, laidLooks := .later }
def FnExactKeyOfUptoCardSaid : Prop := Claim7.holds Tryz.pinned (.plain (OpenSpec.upto fnExactKeyOfSpec)) fnExactKeyOfUptoCard

/-- THE SECOND FORM's CARD OF 'laws.FnExactJudgeAgree'. -/
def fnExactJudgeAgreeUptoCard : Claim7 := { stood := { row := fnExactJudgeAgreeUptoRow, standIns := [], harness := (true, "fe1e70e1ff61d491be04ffb790c0e3e3b7f58ec23ee976eed25b38710a087151"), looks := true }, kinds := [], alts := [], laidByText := true, laidKinds := [.data, .data, .data, .sentinel, .sentinel], laidTests := true, laidLooks := .later }
def FnExactJudgeAgreeUptoCardSaid : Prop := Claim7.holds Tryz.pinned (.plain (OpenSpec.upto fnExactJudgeAgreeSpec)) fnExactJudgeAgreeUptoCard

/-- THE SECOND FORM's CARD OF 'laws.FnExactJudgeSecret'. -/
def fnExactJudgeSecretUptoCard : Claim7 := { stood := { row := fnExactJudgeSecretUptoRow, standIns := [], harness := (true, "fe1e70e1ff61d491be04ffb790c0e3e3b7f58ec23ee976eed25b38710a087151"), looks := true }, kinds := [], alts := [], laidByText := true, laidKinds := [.data, .data, .data, .sentinel, .sentinel], laidTests := true, laidLooks := .later }
def FnExactJudgeSecretUptoCardSaid : Prop := Claim7.holds Tryz.pinned (.plain (OpenSpec.upto fnExactJudgeSecretSpec)) fnExactJudgeSecretUptoCard
end Rows
end Go.Proofs.YtpcdcnmmkfhliaaGreatDoor
