/-
  DERIVED. GIVEN WITH THE SEED: THE CARDS: each row of YtpgigedclifoeaaGreatDoorRows.lean that lists a variable, with what it lists TIED to the program's text (the seventh form; the later family's looks); each row that meets fmt, with fmt's text TOLD by the authors' own Lean function (tested against real Go, not proved from fmt's source: count such statements apart). THE CARD IS WHAT COUNTS. Prove the row's statement (the work); the ties are given (YtpgigedclifoeaaGreatDoorTie.lean); close each card by the builder's one call (the guide's Derived/Test/ToyasCard.lean, 'card_holds'). Laid BY PROGRAM, IN A SANDBOX (cutbox-door.mjs). By AI agents, Wed Nov 11 2026. No macro, syntax, notation, axiom, sorry.
-/
import Derived.Test.YtpgigedclifoeaaGreatDoorRows
import GoSem.ClaimSeven
namespace Go.Proofs.YtpgigedclifoeaaGreatDoor
namespace Rows

/-- THE TIED CARD OF 'laws.FnClaims'. -/
def fnClaimsCard : Claim7 := { stood := { row := fnClaimsRow, standIns := [], harness := (true, "cbf68a25fc3a0ebd96966a93e9328667b9a10beffe2be68e91fba7f8cc4410ae"), looks := true }, kinds := [], alts := [], laidByText := true, laidKinds := [.data, .data, .data, .sentinel, .sentinel], laidTests := true, laidLooks := .later }
def FnClaimsCardSaid : Prop := Claim7.holds Tryz.pinned (.plain (OpenSpec.ofChange fnClaimsSpec)) fnClaimsCard

/-- THE TIED CARD OF 'laws.FnJudges'. -/
def fnJudgesCard : Claim7 := { stood := { row := fnJudgesRow, standIns := [], harness := (true, "cbf68a25fc3a0ebd96966a93e9328667b9a10beffe2be68e91fba7f8cc4410ae"), looks := true }, kinds := [], alts := [], laidByText := true, laidKinds := [.data, .data, .data, .sentinel, .sentinel], laidTests := true, laidLooks := .later }
def FnJudgesCardSaid : Prop := Claim7.holds Tryz.pinned (.plain (OpenSpec.ofChange fnJudgesSpec)) fnJudgesCard

/-- THE TIED CARD OF 'laws.FnNews'. -/
def fnNewsCard : Claim7 := { stood := { row := fnNewsRow, standIns := [], harness := (true, "cbf68a25fc3a0ebd96966a93e9328667b9a10beffe2be68e91fba7f8cc4410ae"), looks := true }, kinds := [], alts := [], laidByText := true, laidKinds := [.data, .data, .data, .sentinel, .sentinel], laidTests := true, laidLooks := .later }
def FnNewsCardSaid : Prop := Claim7.holds Tryz.pinned (.plain (OpenSpec.ofChange fnNewsSpec)) fnNewsCard

/-- THE TIED CARD OF 'laws.FnPartners'. -/
def fnPartnersCard : Claim7 := { stood := { row := fnPartnersRow, standIns := [], harness := (true, "cbf68a25fc3a0ebd96966a93e9328667b9a10beffe2be68e91fba7f8cc4410ae"), looks := true }, kinds := [], alts := [], laidByText := true, laidKinds := [.data, .data, .data, .sentinel, .sentinel], laidTests := true, laidLooks := .later }
def FnPartnersCardSaid : Prop := Claim7.holds Tryz.pinned (.plain (OpenSpec.ofChange fnPartnersSpec)) fnPartnersCard

/-- THE SECOND FORM's CARD OF 'laws.FnClaims'. -/
def fnClaimsUptoCard : Claim7 := { stood := { row := fnClaimsUptoRow, standIns := [], harness := (true, "cbf68a25fc3a0ebd96966a93e9328667b9a10beffe2be68e91fba7f8cc4410ae"), looks := true }, kinds := [], alts := [], laidByText := true, laidKinds := [.data, .data, .data, .sentinel, .sentinel], laidTests := true, laidLooks := .later }
def FnClaimsUptoCardSaid : Prop := Claim7.holds Tryz.pinned (.plain (OpenSpec.upto fnClaimsSpec)) fnClaimsUptoCard

/-- THE SECOND FORM's CARD OF 'laws.FnJudges'. -/
def fnJudgesUptoCard : Claim7 := { stood := { row := fnJudgesUptoRow, standIns := [], harness := (true, "cbf68a25fc3a0ebd96966a93e9328667b9a10beffe2be68e91fba7f8cc4410ae"), looks := true }, kinds := [], alts := [], laidByText := true, laidKinds := [.data, .data, .data, .sentinel, .sentinel], laidTests := true, laidLooks := .later }
def FnJudgesUptoCardSaid : Prop := Claim7.holds Tryz.pinned (.plain (OpenSpec.upto fnJudgesSpec)) fnJudgesUptoCard

/-- THE SECOND FORM's CARD OF 'laws.FnNews'. -/
def fnNewsUptoCard : Claim7 := { stood := { row := fnNewsUptoRow, standIns := [], harness := (true, "cbf68a25fc3a0ebd96966a93e9328667b9a10beffe2be68e91fba7f8cc4410ae"), looks := true }, kinds := [], alts := [], laidByText := true, laidKinds := [.data, .data, .data, .sentinel, .sentinel], laidTests := true, laidLooks := .later }
def FnNewsUptoCardSaid : Prop := Claim7.holds Tryz.pinned (.plain (OpenSpec.upto fnNewsSpec)) fnNewsUptoCard

/-- THE SECOND FORM's CARD OF 'laws.FnPartners'. -/
def fnPartnersUptoCard : Claim7 := { stood := { row := fnPartnersUptoRow, standIns := [], harness := (true, "cbf68a25fc3a0ebd96966a93e9328667b9a10beffe2be68e91fba7f8cc4410ae"), looks := true }, kinds := [], alts := [], laidByText := true, laidKinds := [.data, .data, .data, .sentinel, .sentinel], laidTests := true, laidLooks := .later }
def FnPartnersUptoCardSaid : Prop := Claim7.holds Tryz.pinned (.plain (OpenSpec.upto fnPartnersSpec)) fnPartnersUptoCard
end Rows
end Go.Proofs.YtpgigedclifoeaaGreatDoor
