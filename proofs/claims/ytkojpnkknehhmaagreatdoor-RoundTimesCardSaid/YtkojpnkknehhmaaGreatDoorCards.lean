/-
  DERIVED. GIVEN WITH THE SEED: THE CARDS: each row of YtkojpnkknehhmaaGreatDoorRows.lean that lists a variable, with what it lists TIED to the program's text (the seventh form; the later family's looks); each row that meets fmt, with fmt's text TOLD by the authors' own Lean function (tested against real Go, not proved from fmt's source: count such statements apart). THE CARD IS WHAT COUNTS. Prove the row's statement (the work); the ties are given (YtkojpnkknehhmaaGreatDoorTie.lean); close each card by the builder's one call (the guide's Derived/Test/ToyasCard.lean, 'card_holds'). Laid BY PROGRAM, IN A SANDBOX (cutbox-door.mjs). By AI agents, Wed Nov 11 2026. No macro, syntax, notation, axiom, sorry.
-/
import Derived.Test.YtkojpnkknehhmaaGreatDoorRows
import GoSem.ClaimSeven
namespace Go.Proofs.YtkojpnkknehhmaaGreatDoor
namespace Rows

/-- THE TIED CARD OF 'linkboylaw11.RoundChecks'. -/
def roundChecksCard : Claim7 := { stood := { row := roundChecksRow, standIns := [], harness := (true, "a5aa35419a5f576a935b452670612b7c2dbeacfc1bfcfd472910529ce3145968"), looks := false }, kinds := [], alts := [], laidByText := true, laidKinds := [.data], laidTests := true, laidLooks := .later }
def RoundChecksCardSaid : Prop := Claim7.holds Tryz.pinned (.plain (OpenSpec.ofChange roundChecksSpec)) roundChecksCard

/-- THE TIED CARD OF 'linkboylaw11.RoundTimes'. -/
def roundTimesCard : Claim7 := { stood := { row := roundTimesRow, standIns := [], harness := (true, "a5aa35419a5f576a935b452670612b7c2dbeacfc1bfcfd472910529ce3145968"), looks := false }, kinds := [], alts := [], laidByText := true, laidKinds := [.data], laidTests := true, laidLooks := .later }
def RoundTimesCardSaid : Prop := Claim7.holds Tryz.pinned (.plain (OpenSpec.ofChange roundTimesSpec)) roundTimesCard

/-- THE TIED CARD OF 'linkboylaw11.RoundJudges'. -/
def roundJudgesCard : Claim7 := { stood := { row := roundJudgesRow, standIns := [], harness := (true, "a5aa35419a5f576a935b452670612b7c2dbeacfc1bfcfd472910529ce3145968"), looks := false }, kinds := [], alts := [], laidByText := true, laidKinds := [.data], laidTests := true, laidLooks := .later }
def RoundJudgesCardSaid : Prop := Claim7.holds Tryz.pinned (.plain (OpenSpec.ofChange roundJudgesSpec)) roundJudgesCard

/-- THE TIED CARD OF 'linkboylaw11.RoundFinds'. -/
def roundFindsCard : Claim7 := { stood := { row := roundFindsRow, standIns := [], harness := (true, "a5aa35419a5f576a935b452670612b7c2dbeacfc1bfcfd472910529ce3145968"), looks := false }, kinds := [], alts := [], laidByText := true, laidKinds := [.data], laidTests := true, laidLooks := .later }
def RoundFindsCardSaid : Prop := Claim7.holds Tryz.pinned (.plain (OpenSpec.ofChange roundFindsSpec)) roundFindsCard

/-- THE TIED CARD OF 'linkboylaw11.RoundInserts'. -/
def roundInsertsCard : Claim7 := { stood := { row := roundInsertsRow, standIns := [], harness := (true, "a5aa35419a5f576a935b452670612b7c2dbeacfc1bfcfd472910529ce3145968"), looks := false }, kinds := [], alts := [], laidByText := true, laidKinds := [.data], laidTests := true, laidLooks := .later }
def RoundInsertsCardSaid : Prop := Claim7.holds Tryz.pinned (.plain (OpenSpec.ofChange roundInsertsSpec)) roundInsertsCard

/-- THE SECOND FORM's CARD OF 'linkboylaw11.RoundChecks'. -/
def roundChecksUptoCard : Claim7 := { stood := { row := roundChecksUptoRow, standIns := [], harness := (true, "a5aa35419a5f576a935b452670612b7c2dbeacfc1bfcfd472910529ce3145968"), looks := false }, kinds := [], alts := [], laidByText := true, laidKinds := [.data], laidTests := true, laidLooks := .later }
def RoundChecksUptoCardSaid : Prop := Claim7.holds Tryz.pinned (.plain (OpenSpec.upto roundChecksSpec)) roundChecksUptoCard

/-- THE SECOND FORM's CARD OF 'linkboylaw11.RoundTimes'. -/
def roundTimesUptoCard : Claim7 := { stood := { row := roundTimesUptoRow, standIns := [], harness := (true, "a5aa35419a5f576a935b452670612b7c2dbeacfc1bfcfd472910529ce3145968"), looks := false }, kinds := [], alts := [], laidByText := true, laidKinds := [.data], laidTests := true, laidLooks := .later }
def RoundTimesUptoCardSaid : Prop := Claim7.holds Tryz.pinned (.plain (OpenSpec.upto roundTimesSpec)) roundTimesUptoCard

/-- THE SECOND FORM's CARD OF 'linkboylaw11.RoundJudges'. -/
def roundJudgesUptoCard : Claim7 := { stood := { row := roundJudgesUptoRow, standIns := [], harness := (true, "a5aa35419a5f576a935b452670612b7c2dbeacfc1bfcfd472910529ce3145968"), looks := false }, kinds := [], alts := [], laidByText := true, laidKinds := [.data], laidTests := true, laidLooks := .later }
def RoundJudgesUptoCardSaid : Prop := Claim7.holds Tryz.pinned (.plain (OpenSpec.upto roundJudgesSpec)) roundJudgesUptoCard

/-- THE SECOND FORM's CARD OF 'linkboylaw11.RoundFinds'. -/
def roundFindsUptoCard : Claim7 := { stood := { row := roundFindsUptoRow, standIns := [], harness := (true, "a5aa35419a5f576a935b452670612b7c2dbeacfc1bfcfd472910529ce3145968"), looks := false }, kinds := [], alts := [], laidByText := true, laidKinds := [.data], laidTests := true, laidLooks := .later }
def RoundFindsUptoCardSaid : Prop := Claim7.holds Tryz.pinned (.plain (OpenSpec.upto roundFindsSpec)) roundFindsUptoCard

/-- THE SECOND FORM's CARD OF 'linkboylaw11.RoundInserts'. -/
def roundInsertsUptoCard : Claim7 := { stood := { row := roundInsertsUptoRow, standIns := [], harness := (true, "a5aa35419a5f576a935b452670612b7c2dbeacfc1bfcfd472910529ce3145968"), looks := false }, kinds := [], alts := [], laidByText := true, laidKinds := [.data], laidTests := true, laidLooks := .later }
def RoundInsertsUptoCardSaid : Prop := Claim7.holds Tryz.pinned (.plain (OpenSpec.upto roundInsertsSpec)) roundInsertsUptoCard
end Rows
end Go.Proofs.YtkojpnkknehhmaaGreatDoor
