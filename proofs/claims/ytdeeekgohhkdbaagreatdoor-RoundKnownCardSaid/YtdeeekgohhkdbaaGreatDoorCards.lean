/-
  DERIVED. GIVEN WITH THE SEED: THE CARDS: each row of YtdeeekgohhkdbaaGreatDoorRows.lean that lists a variable, with what it lists TIED to the program's text (the seventh form; the later family's looks); each row that meets fmt, with fmt's text TOLD by the authors' own Lean function (tested against real Go, not proved from fmt's source: count such statements apart). THE CARD IS WHAT COUNTS. Prove the row's statement (the work); the ties are given (YtdeeekgohhkdbaaGreatDoorTie.lean); close each card by the builder's one call (the guide's Derived/Test/ToyasCard.lean, 'card_holds'). Laid BY PROGRAM, IN A SANDBOX (cutbox-door.mjs). By AI agents, Wed Nov 11 2026. No macro, syntax, notation, axiom, sorry.
-/
import Derived.Test.YtdeeekgohhkdbaaGreatDoorRows
import GoSem.ClaimSeven
namespace Go.Proofs.YtdeeekgohhkdbaaGreatDoor
namespace Rows

/-- THE TIED CARD OF 'linkboylaw11.RoundBest'. -/
def roundBestCard : Claim7 := { stood := { row := roundBestRow, standIns := [], harness := (true, "f4e39b73c9ac14d2e8fd8a12ac0a5b567e61d23b25d9e4a9d8400f1c83b80bad"), looks := false }, kinds := [], alts := [], laidByText := true, laidKinds := [.data], laidTests := true, laidLooks := .later }
def RoundBestCardSaid : Prop := Claim7.holds Tryz.pinned (.plain (OpenSpec.ofChange roundBestSpec)) roundBestCard

/-- THE TIED CARD OF 'linkboylaw11.RoundEarlier'. -/
def roundEarlierCard : Claim7 := { stood := { row := roundEarlierRow, standIns := [], harness := (true, "f4e39b73c9ac14d2e8fd8a12ac0a5b567e61d23b25d9e4a9d8400f1c83b80bad"), looks := false }, kinds := [], alts := [], laidByText := true, laidKinds := [.data], laidTests := true, laidLooks := .later }
def RoundEarlierCardSaid : Prop := Claim7.holds Tryz.pinned (.plain (OpenSpec.ofChange roundEarlierSpec)) roundEarlierCard

/-- THE TIED CARD OF 'linkboylaw11.RoundMore'. -/
def roundMoreCard : Claim7 := { stood := { row := roundMoreRow, standIns := [], harness := (true, "f4e39b73c9ac14d2e8fd8a12ac0a5b567e61d23b25d9e4a9d8400f1c83b80bad"), looks := false }, kinds := [], alts := [], laidByText := true, laidKinds := [.data], laidTests := true, laidLooks := .later }
def RoundMoreCardSaid : Prop := Claim7.holds Tryz.pinned (.plain (OpenSpec.ofChange roundMoreSpec)) roundMoreCard

/-- THE TIED CARD OF 'linkboylaw11.RoundBenefits'. -/
def roundBenefitsCard : Claim7 := { stood := { row := roundBenefitsRow, standIns := [], harness := (true, "f4e39b73c9ac14d2e8fd8a12ac0a5b567e61d23b25d9e4a9d8400f1c83b80bad"), looks := false }, kinds := [], alts := [], laidByText := true, laidKinds := [.data], laidTests := true, laidLooks := .later }
def RoundBenefitsCardSaid : Prop := Claim7.holds Tryz.pinned (.plain (OpenSpec.ofChange roundBenefitsSpec)) roundBenefitsCard

/-- THE TIED CARD OF 'linkboylaw11.RoundAvoids'. -/
def roundAvoidsCard : Claim7 := { stood := { row := roundAvoidsRow, standIns := [], harness := (true, "f4e39b73c9ac14d2e8fd8a12ac0a5b567e61d23b25d9e4a9d8400f1c83b80bad"), looks := false }, kinds := [], alts := [], laidByText := true, laidKinds := [.data], laidTests := true, laidLooks := .later }
def RoundAvoidsCardSaid : Prop := Claim7.holds Tryz.pinned (.plain (OpenSpec.ofChange roundAvoidsSpec)) roundAvoidsCard

/-- THE TIED CARD OF 'linkboylaw11.RoundKeeps'. -/
def roundKeepsCard : Claim7 := { stood := { row := roundKeepsRow, standIns := [], harness := (true, "f4e39b73c9ac14d2e8fd8a12ac0a5b567e61d23b25d9e4a9d8400f1c83b80bad"), looks := false }, kinds := [], alts := [], laidByText := true, laidKinds := [.data], laidTests := true, laidLooks := .later }
def RoundKeepsCardSaid : Prop := Claim7.holds Tryz.pinned (.plain (OpenSpec.ofChange roundKeepsSpec)) roundKeepsCard

/-- THE TIED CARD OF 'linkboylaw11.RoundChooses'. -/
def roundChoosesCard : Claim7 := { stood := { row := roundChoosesRow, standIns := [], harness := (true, "f4e39b73c9ac14d2e8fd8a12ac0a5b567e61d23b25d9e4a9d8400f1c83b80bad"), looks := false }, kinds := [], alts := [], laidByText := true, laidKinds := [.data], laidTests := true, laidLooks := .later }
def RoundChoosesCardSaid : Prop := Claim7.holds Tryz.pinned (.plain (OpenSpec.ofChange roundChoosesSpec)) roundChoosesCard

/-- THE TIED CARD OF 'linkboylaw11.RoundRicher'. -/
def roundRicherCard : Claim7 := { stood := { row := roundRicherRow, standIns := [], harness := (true, "f4e39b73c9ac14d2e8fd8a12ac0a5b567e61d23b25d9e4a9d8400f1c83b80bad"), looks := false }, kinds := [], alts := [], laidByText := true, laidKinds := [.data], laidTests := true, laidLooks := .later }
def RoundRicherCardSaid : Prop := Claim7.holds Tryz.pinned (.plain (OpenSpec.ofChange roundRicherSpec)) roundRicherCard

/-- THE TIED CARD OF 'linkboylaw11.RoundCarries'. -/
def roundCarriesCard : Claim7 := { stood := { row := roundCarriesRow, standIns := [], harness := (true, "f4e39b73c9ac14d2e8fd8a12ac0a5b567e61d23b25d9e4a9d8400f1c83b80bad"), looks := false }, kinds := [], alts := [], laidByText := true, laidKinds := [.data], laidTests := true, laidLooks := .later }
def RoundCarriesCardSaid : Prop := Claim7.holds Tryz.pinned (.plain (OpenSpec.ofChange roundCarriesSpec)) roundCarriesCard

/-- THE TIED CARD OF 'linkboylaw11.RoundEnough'. -/
def roundEnoughCard : Claim7 := { stood := { row := roundEnoughRow, standIns := [], harness := (true, "f4e39b73c9ac14d2e8fd8a12ac0a5b567e61d23b25d9e4a9d8400f1c83b80bad"), looks := false }, kinds := [], alts := [], laidByText := true, laidKinds := [.data], laidTests := true, laidLooks := .later }
def RoundEnoughCardSaid : Prop := Claim7.holds Tryz.pinned (.plain (OpenSpec.ofChange roundEnoughSpec)) roundEnoughCard

/-- THE TIED CARD OF 'linkboylaw11.RoundBounds'. -/
def roundBoundsCard : Claim7 := { stood := { row := roundBoundsRow, standIns := [], harness := (true, "f4e39b73c9ac14d2e8fd8a12ac0a5b567e61d23b25d9e4a9d8400f1c83b80bad"), looks := false }, kinds := [], alts := [], laidByText := true, laidKinds := [.data], laidTests := true, laidLooks := .later }
def RoundBoundsCardSaid : Prop := Claim7.holds Tryz.pinned (.plain (OpenSpec.ofChange roundBoundsSpec)) roundBoundsCard

/-- THE TIED CARD OF 'linkboylaw11.RoundInserted'. -/
def roundInsertedCard : Claim7 := { stood := { row := roundInsertedRow, standIns := [], harness := (true, "f4e39b73c9ac14d2e8fd8a12ac0a5b567e61d23b25d9e4a9d8400f1c83b80bad"), looks := false }, kinds := [], alts := [], laidByText := true, laidKinds := [.data], laidTests := true, laidLooks := .later }
def RoundInsertedCardSaid : Prop := Claim7.holds Tryz.pinned (.plain (OpenSpec.ofChange roundInsertedSpec)) roundInsertedCard

/-- THE TIED CARD OF 'linkboylaw11.RoundKnown'. -/
def roundKnownCard : Claim7 := { stood := { row := roundKnownRow, standIns := [], harness := (true, "f4e39b73c9ac14d2e8fd8a12ac0a5b567e61d23b25d9e4a9d8400f1c83b80bad"), looks := false }, kinds := [], alts := [], laidByText := true, laidKinds := [.data], laidTests := true, laidLooks := .later }
def RoundKnownCardSaid : Prop := Claim7.holds Tryz.pinned (.plain (OpenSpec.ofChange roundKnownSpec)) roundKnownCard

/-- THE SECOND FORM's CARD OF 'linkboylaw11.RoundBest'. -/
def roundBestUptoCard : Claim7 := { stood := { row := roundBestUptoRow, standIns := [], harness := (true, "f4e39b73c9ac14d2e8fd8a12ac0a5b567e61d23b25d9e4a9d8400f1c83b80bad"), looks := false }, kinds := [], alts := [], laidByText := true, laidKinds := [.data], laidTests := true, laidLooks := .later }
def RoundBestUptoCardSaid : Prop := Claim7.holds Tryz.pinned (.plain (OpenSpec.upto roundBestSpec)) roundBestUptoCard

/-- THE SECOND FORM's CARD OF 'linkboylaw11.RoundEarlier'. -/
def roundEarlierUptoCard : Claim7 := { stood := { row := roundEarlierUptoRow, standIns := [], harness := (true, "f4e39b73c9ac14d2e8fd8a12ac0a5b567e61d23b25d9e4a9d8400f1c83b80bad"), looks := false }, kinds := [], alts := [], laidByText := true, laidKinds := [.data], laidTests := true, laidLooks := .later }
def RoundEarlierUptoCardSaid : Prop := Claim7.holds Tryz.pinned (.plain (OpenSpec.upto roundEarlierSpec)) roundEarlierUptoCard

/-- THE SECOND FORM's CARD OF 'linkboylaw11.RoundMore'. -/
def roundMoreUptoCard : Claim7 := { stood := { row := roundMoreUptoRow, standIns := [], harness := (true, "f4e39b73c9ac14d2e8fd8a12ac0a5b567e61d23b25d9e4a9d8400f1c83b80bad"), looks := false }, kinds := [], alts := [], laidByText := true, laidKinds := [.data], laidTests := true, laidLooks := .later }
def RoundMoreUptoCardSaid : Prop := Claim7.holds Tryz.pinned (.plain (OpenSpec.upto roundMoreSpec)) roundMoreUptoCard

/-- THE SECOND FORM's CARD OF 'linkboylaw11.RoundBenefits'. -/
def roundBenefitsUptoCard : Claim7 := { stood := { row := roundBenefitsUptoRow, standIns := [], harness := (true, "f4e39b73c9ac14d2e8fd8a12ac0a5b567e61d23b25d9e4a9d8400f1c83b80bad"), looks := false }, kinds := [], alts := [], laidByText := true, laidKinds := [.data], laidTests := true, laidLooks := .later }
def RoundBenefitsUptoCardSaid : Prop := Claim7.holds Tryz.pinned (.plain (OpenSpec.upto roundBenefitsSpec)) roundBenefitsUptoCard

/-- THE SECOND FORM's CARD OF 'linkboylaw11.RoundAvoids'. -/
def roundAvoidsUptoCard : Claim7 := { stood := { row := roundAvoidsUptoRow, standIns := [], harness := (true, "f4e39b73c9ac14d2e8fd8a12ac0a5b567e61d23b25d9e4a9d8400f1c83b80bad"), looks := false }, kinds := [], alts := [], laidByText := true, laidKinds := [.data], laidTests := true, laidLooks := .later }
def RoundAvoidsUptoCardSaid : Prop := Claim7.holds Tryz.pinned (.plain (OpenSpec.upto roundAvoidsSpec)) roundAvoidsUptoCard

/-- THE SECOND FORM's CARD OF 'linkboylaw11.RoundKeeps'. -/
def roundKeepsUptoCard : Claim7 := { stood := { row := roundKeepsUptoRow, standIns := [], harness := (true, "f4e39b73c9ac14d2e8fd8a12ac0a5b567e61d23b25d9e4a9d8400f1c83b80bad"), looks := false }, kinds := [], alts := [], laidByText := true, laidKinds := [.data], laidTests := true, laidLooks := .later }
def RoundKeepsUptoCardSaid : Prop := Claim7.holds Tryz.pinned (.plain (OpenSpec.upto roundKeepsSpec)) roundKeepsUptoCard

/-- THE SECOND FORM's CARD OF 'linkboylaw11.RoundChooses'. -/
def roundChoosesUptoCard : Claim7 := { stood := { row := roundChoosesUptoRow, standIns := [], harness := (true, "f4e39b73c9ac14d2e8fd8a12ac0a5b567e61d23b25d9e4a9d8400f1c83b80bad"), looks := false }, kinds := [], alts := [], laidByText := true, laidKinds := [.data], laidTests := true, laidLooks := .later }
def RoundChoosesUptoCardSaid : Prop := Claim7.holds Tryz.pinned (.plain (OpenSpec.upto roundChoosesSpec)) roundChoosesUptoCard

/-- THE SECOND FORM's CARD OF 'linkboylaw11.RoundRicher'. -/
def roundRicherUptoCard : Claim7 := { stood := { row := roundRicherUptoRow, standIns := [], harness := (true, "f4e39b73c9ac14d2e8fd8a12ac0a5b567e61d23b25d9e4a9d8400f1c83b80bad"), looks := false }, kinds := [], alts := [], laidByText := true, laidKinds := [.data], laidTests := true, laidLooks := .later }
def RoundRicherUptoCardSaid : Prop := Claim7.holds Tryz.pinned (.plain (OpenSpec.upto roundRicherSpec)) roundRicherUptoCard

/-- THE SECOND FORM's CARD OF 'linkboylaw11.RoundCarries'. -/
def roundCarriesUptoCard : Claim7 := { stood := { row := roundCarriesUptoRow, standIns := [], harness := (true, "f4e39b73c9ac14d2e8fd8a12ac0a5b567e61d23b25d9e4a9d8400f1c83b80bad"), looks := false }, kinds := [], alts := [], laidByText := true, laidKinds := [.data], laidTests := true, laidLooks := .later }
def RoundCarriesUptoCardSaid : Prop := Claim7.holds Tryz.pinned (.plain (OpenSpec.upto roundCarriesSpec)) roundCarriesUptoCard

/-- THE SECOND FORM's CARD OF 'linkboylaw11.RoundEnough'. -/
def roundEnoughUptoCard : Claim7 := { stood := { row := roundEnoughUptoRow, standIns := [], harness := (true, "f4e39b73c9ac14d2e8fd8a12ac0a5b567e61d23b25d9e4a9d8400f1c83b80bad"), looks := false }, kinds := [], alts := [], laidByText := true, laidKinds := [.data], laidTests := true, laidLooks := .later }
def RoundEnoughUptoCardSaid : Prop := Claim7.holds Tryz.pinned (.plain (OpenSpec.upto roundEnoughSpec)) roundEnoughUptoCard

/-- THE SECOND FORM's CARD OF 'linkboylaw11.RoundBounds'. -/
def roundBoundsUptoCard : Claim7 := { stood := { row := roundBoundsUptoRow, standIns := [], harness := (true, "f4e39b73c9ac14d2e8fd8a12ac0a5b567e61d23b25d9e4a9d8400f1c83b80bad"), looks := false }, kinds := [], alts := [], laidByText := true, laidKinds := [.data], laidTests := true, laidLooks := .later }
def RoundBoundsUptoCardSaid : Prop := Claim7.holds Tryz.pinned (.plain (OpenSpec.upto roundBoundsSpec)) roundBoundsUptoCard

/-- THE SECOND FORM's CARD OF 'linkboylaw11.RoundInserted'. -/
def roundInsertedUptoCard : Claim7 := { stood := { row := roundInsertedUptoRow, standIns := [], harness := (true, "f4e39b73c9ac14d2e8fd8a12ac0a5b567e61d23b25d9e4a9d8400f1c83b80bad"), looks := false }, kinds := [], alts := [], laidByText := true, laidKinds := [.data], laidTests := true, laidLooks := .later }
def RoundInsertedUptoCardSaid : Prop := Claim7.holds Tryz.pinned (.plain (OpenSpec.upto roundInsertedSpec)) roundInsertedUptoCard

/-- THE SECOND FORM's CARD OF 'linkboylaw11.RoundKnown'. -/
def roundKnownUptoCard : Claim7 := { stood := { row := roundKnownUptoRow, standIns := [], harness := (true, "f4e39b73c9ac14d2e8fd8a12ac0a5b567e61d23b25d9e4a9d8400f1c83b80bad"), looks := false }, kinds := [], alts := [], laidByText := true, laidKinds := [.data], laidTests := true, laidLooks := .later }
def RoundKnownUptoCardSaid : Prop := Claim7.holds Tryz.pinned (.plain (OpenSpec.upto roundKnownSpec)) roundKnownUptoCard
end Rows
end Go.Proofs.YtdeeekgohhkdbaaGreatDoor
