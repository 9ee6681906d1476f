/-
  DERIVED. GIVEN WITH THE SEED: THE CARDS: each row of YtpnljnmpocobjaaGreatDoorRows.lean that lists a variable, with what it lists TIED to the program's text (the seventh form; the later family's looks); each row that meets fmt, with fmt's text TOLD by the authors' own Lean function (tested against real Go, not proved from fmt's source: count such statements apart). THE CARD IS WHAT COUNTS. Prove the row's statement (the work); the ties are given (YtpnljnmpocobjaaGreatDoorTie.lean); close each card by the builder's one call (the guide's Derived/Test/ToyasCard.lean, 'card_holds'). Laid BY PROGRAM, IN A SANDBOX (cutbox-door.mjs). By AI agents, Wed Nov 11 2026. No macro, syntax, notation, axiom, sorry.
-/
import Derived.Test.YtpnljnmpocobjaaGreatDoorRows
import GoSem.ClaimSeven
namespace Go.Proofs.YtpnljnmpocobjaaGreatDoor
namespace Rows

/-- THE TIED CARD OF 'reckonerlaw16.RoundRounds'. -/
def roundRoundsCard : Claim7 := { stood := { row := roundRoundsRow, standIns := [], harness := (true, "e1bea1833ffd111c736350ec1557bb37b0295afc4db998c8dde5279c9cde7991"), looks := false }, kinds := [], alts := [], laidByText := true, laidKinds := [.data, .funcs], laidTests := true, laidLooks := .later }
def RoundRoundsCardSaid : Prop := Claim7.holds Tryz.pinned (.plain (OpenSpec.ofChange roundRoundsSpec)) roundRoundsCard

/-- THE TIED CARD OF 'reckonerlaw16.RoundRises'. -/
def roundRisesCard : Claim7 := { stood := { row := roundRisesRow, standIns := [], harness := (true, "e1bea1833ffd111c736350ec1557bb37b0295afc4db998c8dde5279c9cde7991"), looks := false }, kinds := [], alts := [], laidByText := true, laidKinds := [.data, .funcs], laidTests := true, laidLooks := .later }
def RoundRisesCardSaid : Prop := Claim7.holds Tryz.pinned (.plain (OpenSpec.ofChange roundRisesSpec)) roundRisesCard

/-- THE TIED CARD OF 'reckonerlaw16.RoundBetween'. -/
def roundBetweenCard : Claim7 := { stood := { row := roundBetweenRow, standIns := [], harness := (true, "e1bea1833ffd111c736350ec1557bb37b0295afc4db998c8dde5279c9cde7991"), looks := false }, kinds := [], alts := [], laidByText := true, laidKinds := [.data, .funcs], laidTests := true, laidLooks := .later }
def RoundBetweenCardSaid : Prop := Claim7.holds Tryz.pinned (.plain (OpenSpec.ofChange roundBetweenSpec)) roundBetweenCard

/-- THE TIED CARD OF 'reckonerlaw16.RoundStep'. -/
def roundStepCard : Claim7 := { stood := { row := roundStepRow, standIns := [], harness := (true, "e1bea1833ffd111c736350ec1557bb37b0295afc4db998c8dde5279c9cde7991"), looks := false }, kinds := [], alts := [], laidByText := true, laidKinds := [.data, .funcs], laidTests := true, laidLooks := .later }
def RoundStepCardSaid : Prop := Claim7.holds Tryz.pinned (.plain (OpenSpec.ofChange roundStepSpec)) roundStepCard

/-- THE TIED CARD OF 'reckonerlaw16.RoundEncloses'. -/
def roundEnclosesCard : Claim7 := { stood := { row := roundEnclosesRow, standIns := [], harness := (true, "e1bea1833ffd111c736350ec1557bb37b0295afc4db998c8dde5279c9cde7991"), looks := false }, kinds := [], alts := [], laidByText := true, laidKinds := [.data, .funcs], laidTests := true, laidLooks := .later }
def RoundEnclosesCardSaid : Prop := Claim7.holds Tryz.pinned (.plain (OpenSpec.ofChange roundEnclosesSpec)) roundEnclosesCard

/-- THE TIED CARD OF 'reckonerlaw16.RoundNearest'. -/
def roundNearestCard : Claim7 := { stood := { row := roundNearestRow, standIns := [], harness := (true, "e1bea1833ffd111c736350ec1557bb37b0295afc4db998c8dde5279c9cde7991"), looks := false }, kinds := [], alts := [], laidByText := true, laidKinds := [.data, .funcs], laidTests := true, laidLooks := .later }
def RoundNearestCardSaid : Prop := Claim7.holds Tryz.pinned (.plain (OpenSpec.ofChange roundNearestSpec)) roundNearestCard

/-- THE TIED CARD OF 'reckonerlaw22.DecimalQuantizes'. -/
def decimalQuantizesCard : Claim7 := { stood := { row := decimalQuantizesRow, standIns := [], harness := (true, "e1bea1833ffd111c736350ec1557bb37b0295afc4db998c8dde5279c9cde7991"), looks := false }, kinds := [], alts := [], laidByText := true, laidKinds := [.data, .funcs], laidTests := true, laidLooks := .later }
def DecimalQuantizesCardSaid : Prop := Claim7.holds Tryz.pinned (.plain (OpenSpec.ofChange decimalQuantizesSpec)) decimalQuantizesCard

/-- THE TIED CARD OF 'reckonerlaw22.DecimalAdds'. -/
def decimalAddsCard : Claim7 := { stood := { row := decimalAddsRow, standIns := [], harness := (true, "e1bea1833ffd111c736350ec1557bb37b0295afc4db998c8dde5279c9cde7991"), looks := false }, kinds := [], alts := [], laidByText := true, laidKinds := [.data, .funcs], laidTests := true, laidLooks := .later }
def DecimalAddsCardSaid : Prop := Claim7.holds Tryz.pinned (.plain (OpenSpec.ofChange decimalAddsSpec)) decimalAddsCard

/-- THE TIED CARD OF 'reckonerlaw22.DecimalPlus'. -/
def decimalPlusCard : Claim7 := { stood := { row := decimalPlusRow, standIns := [], harness := (true, "e1bea1833ffd111c736350ec1557bb37b0295afc4db998c8dde5279c9cde7991"), looks := false }, kinds := [], alts := [], laidByText := true, laidKinds := [.data, .funcs], laidTests := true, laidLooks := .later }
def DecimalPlusCardSaid : Prop := Claim7.holds Tryz.pinned (.plain (OpenSpec.ofChange decimalPlusSpec)) decimalPlusCard

/-- THE TIED CARD OF 'reckonerlaw22.DecimalMuls'. -/
def decimalMulsCard : Claim7 := { stood := { row := decimalMulsRow, standIns := [], harness := (true, "e1bea1833ffd111c736350ec1557bb37b0295afc4db998c8dde5279c9cde7991"), looks := false }, kinds := [], alts := [], laidByText := true, laidKinds := [.data, .funcs], laidTests := true, laidLooks := .later }
def DecimalMulsCardSaid : Prop := Claim7.holds Tryz.pinned (.plain (OpenSpec.ofChange decimalMulsSpec)) decimalMulsCard

/-- THE TIED CARD OF 'reckonerlaw22.DecimalFused'. -/
def decimalFusedCard : Claim7 := { stood := { row := decimalFusedRow, standIns := [], harness := (true, "e1bea1833ffd111c736350ec1557bb37b0295afc4db998c8dde5279c9cde7991"), looks := false }, kinds := [], alts := [], laidByText := true, laidKinds := [.data, .funcs], laidTests := true, laidLooks := .later }
def DecimalFusedCardSaid : Prop := Claim7.holds Tryz.pinned (.plain (OpenSpec.ofChange decimalFusedSpec)) decimalFusedCard

/-- THE TIED CARD OF 'reckonerlaw22.DecimalExact'. -/
def decimalExactCard : Claim7 := { stood := { row := decimalExactRow, standIns := [], harness := (true, "e1bea1833ffd111c736350ec1557bb37b0295afc4db998c8dde5279c9cde7991"), looks := false }, kinds := [], alts := [], laidByText := true, laidKinds := [.data, .funcs], laidTests := true, laidLooks := .later }
def DecimalExactCardSaid : Prop := Claim7.holds Tryz.pinned (.plain (OpenSpec.ofChange decimalExactSpec)) decimalExactCard

/-- THE TIED CARD OF 'reckonerlaw22.DecimalValue'. -/
def decimalValueCard : Claim7 := { stood := { row := decimalValueRow, standIns := [], harness := (true, "e1bea1833ffd111c736350ec1557bb37b0295afc4db998c8dde5279c9cde7991"), looks := false }, kinds := [], alts := [], laidByText := true, laidKinds := [.data, .funcs], laidTests := true, laidLooks := .later }
def DecimalValueCardSaid : Prop := Claim7.holds Tryz.pinned (.plain (OpenSpec.ofChange decimalValueSpec)) decimalValueCard

/-- THE SECOND FORM's CARD OF 'reckonerlaw16.RoundRounds'. -/
def roundRoundsUptoCard : Claim7 := { stood := { row := roundRoundsUptoRow, standIns := [], harness := (true, "e1bea1833ffd111c736350ec1557bb37b0295afc4db998c8dde5279c9cde7991"), looks := false }, kinds := [], alts := [], laidByText := true, laidKinds := [.data, .funcs], laidTests := true, laidLooks := .later }
def RoundRoundsUptoCardSaid : Prop := Claim7.holds Tryz.pinned (.plain (OpenSpec.upto roundRoundsSpec)) roundRoundsUptoCard

/-- THE SECOND FORM's CARD OF 'reckonerlaw16.RoundRises'. -/
def roundRisesUptoCard : Claim7 := { stood := { row := roundRisesUptoRow, standIns := [], harness := (true, "e1bea1833ffd111c736350ec1557bb37b0295afc4db998c8dde5279c9cde7991"), looks := false }, kinds := [], alts := [], laidByText := true, laidKinds := [.data, .funcs], laidTests := true, laidLooks := .later }
def RoundRisesUptoCardSaid : Prop := Claim7.holds Tryz.pinned (.plain (OpenSpec.upto roundRisesSpec)) roundRisesUptoCard

/-- THE SECOND FORM's CARD OF 'reckonerlaw16.RoundBetween'. -/
def roundBetweenUptoCard : Claim7 := { stood := { row := roundBetweenUptoRow, standIns := [], harness := (true, "e1bea1833ffd111c736350ec1557bb37b0295afc4db998c8dde5279c9cde7991"), looks := false }, kinds := [], alts := [], laidByText := true, laidKinds := [.data, .funcs], laidTests := true, laidLooks := .later }
def RoundBetweenUptoCardSaid : Prop := Claim7.holds Tryz.pinned (.plain (OpenSpec.upto roundBetweenSpec)) roundBetweenUptoCard

/-- THE SECOND FORM's CARD OF 'reckonerlaw16.RoundStep'. -/
def roundStepUptoCard : Claim7 := { stood := { row := roundStepUptoRow, standIns := [], harness := (true, "e1bea1833ffd111c736350ec1557bb37b0295afc4db998c8dde5279c9cde7991"), looks := false }, kinds := [], alts := [], laidByText := true, laidKinds := [.data, .funcs], laidTests := true, laidLooks := .later }
def RoundStepUptoCardSaid : Prop := Claim7.holds Tryz.pinned (.plain (OpenSpec.upto roundStepSpec)) roundStepUptoCard

/-- THE SECOND FORM's CARD OF 'reckonerlaw16.RoundEncloses'. -/
def roundEnclosesUptoCard : Claim7 := { stood := { row := roundEnclosesUptoRow, standIns := [], harness := (true, "e1bea1833ffd111c736350ec1557bb37b0295afc4db998c8dde5279c9cde7991"), looks := false }, kinds := [], alts := [], laidByText := true, laidKinds := [.data, .funcs], laidTests := true, laidLooks := .later }
def RoundEnclosesUptoCardSaid : Prop := Claim7.holds Tryz.pinned (.plain (OpenSpec.upto roundEnclosesSpec)) roundEnclosesUptoCard

/-- THE SECOND FORM's CARD OF 'reckonerlaw16.RoundNearest'. -/
def roundNearestUptoCard : Claim7 := { stood := { row := roundNearestUptoRow, standIns := [], harness := (true, "e1bea1833ffd111c736350ec1557bb37b0295afc4db998c8dde5279c9cde7991"), looks := false }, kinds := [], alts := [], laidByText := true, laidKinds := [.data, .funcs], laidTests := true, laidLooks := .later }
def RoundNearestUptoCardSaid : Prop := Claim7.holds Tryz.pinned (.plain (OpenSpec.upto roundNearestSpec)) roundNearestUptoCard

/-- THE SECOND FORM's CARD OF 'reckonerlaw22.DecimalQuantizes'. -/
def decimalQuantizesUptoCard : Claim7 := { stood := { row := decimalQuantizesUptoRow, standIns := [], harness := (true, "e1bea1833ffd111c736350ec1557bb37b0295afc4db998c8dde5279c9cde7991"), looks := false }, kinds := [], alts := [], laidByText := true, laidKinds := [.data, .funcs], laidTests := true, laidLooks := .later }
def DecimalQuantizesUptoCardSaid : Prop := Claim7.holds Tryz.pinned (.plain (OpenSpec.upto decimalQuantizesSpec)) decimalQuantizesUptoCard

/-- THE SECOND FORM's CARD OF 'reckonerlaw22.DecimalAdds'. -/
def decimalAddsUptoCard : Claim7 := { stood := { row := decimalAddsUptoRow, standIns := [], harness := (true, "e1bea1833ffd111c736350ec1557bb37b0295afc4db998c8dde5279c9cde7991"), looks := false }, kinds := [], alts := [], laidByText := true, laidKinds := [.data, .funcs], laidTests := true, laidLooks := .later }
def DecimalAddsUptoCardSaid : Prop := Claim7.holds Tryz.pinned (.plain (OpenSpec.upto decimalAddsSpec)) decimalAddsUptoCard

/-- THE SECOND FORM's CARD OF 'reckonerlaw22.DecimalPlus'. -/
def decimalPlusUptoCard : Claim7 := { stood := { row := decimalPlusUptoRow, standIns := [], harness := (true, "e1bea1833ffd111c736350ec1557bb37b0295afc4db998c8dde5279c9cde7991"), looks := false }, kinds := [], alts := [], laidByText := true, laidKinds := [.data, .funcs], laidTests := true, laidLooks := .later }
def DecimalPlusUptoCardSaid : Prop := Claim7.holds Tryz.pinned (.plain (OpenSpec.upto decimalPlusSpec)) decimalPlusUptoCard

/-- THE SECOND FORM's CARD OF 'reckonerlaw22.DecimalMuls'. -/
def decimalMulsUptoCard : Claim7 := { stood := { row := decimalMulsUptoRow, standIns := [], harness := (true, "e1bea1833ffd111c736350ec1557bb37b0295afc4db998c8dde5279c9cde7991"), looks := false }, kinds := [], alts := [], laidByText := true, laidKinds := [.data, .funcs], laidTests := true, laidLooks := .later }
def DecimalMulsUptoCardSaid : Prop := Claim7.holds Tryz.pinned (.plain (OpenSpec.upto decimalMulsSpec)) decimalMulsUptoCard

/-- THE SECOND FORM's CARD OF 'reckonerlaw22.DecimalFused'. -/
def decimalFusedUptoCard : Claim7 := { stood := { row := decimalFusedUptoRow, standIns := [], harness := (true, "e1bea1833ffd111c736350ec1557bb37b0295afc4db998c8dde5279c9cde7991"), looks := false }, kinds := [], alts := [], laidByText := true, laidKinds := [.data, .funcs], laidTests := true, laidLooks := .later }
def DecimalFusedUptoCardSaid : Prop := Claim7.holds Tryz.pinned (.plain (OpenSpec.upto decimalFusedSpec)) decimalFusedUptoCard

/-- THE SECOND FORM's CARD OF 'reckonerlaw22.DecimalExact'. -/
def decimalExactUptoCard : Claim7 := { stood := { row := decimalExactUptoRow, standIns := [], harness := (true, "e1bea1833ffd111c736350ec1557bb37b0295afc4db998c8dde5279c9cde7991"), looks := false }, kinds := [], alts := [], laidByText := true, laidKinds := [.data, .funcs], laidTests := true, laidLooks := .later }
def DecimalExactUptoCardSaid : Prop := Claim7.holds Tryz.pinned (.plain (OpenSpec.upto decimalExactSpec)) decimalExactUptoCard

/-- THE SECOND FORM's CARD OF 'reckonerlaw22.DecimalValue'. -/
def decimalValueUptoCard : Claim7 := { stood := { row := decimalValueUptoRow, standIns := [], harness := (true, "e1bea1833ffd111c736350ec1557bb37b0295afc4db998c8dde5279c9cde7991"), looks := false }, kinds := [], alts := [], laidByText := true, laidKinds := [.data, .funcs], laidTests := true, laidLooks := .later }
def DecimalValueUptoCardSaid : Prop := Claim7.holds Tryz.pinned (.plain (OpenSpec.upto decimalValueSpec)) decimalValueUptoCard
end Rows
end Go.Proofs.YtpnljnmpocobjaaGreatDoor
