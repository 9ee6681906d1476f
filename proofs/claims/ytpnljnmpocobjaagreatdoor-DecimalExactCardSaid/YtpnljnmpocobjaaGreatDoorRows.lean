/-
  NARROWER THAN 'FOR EVERY INPUT', by the rows' own cells (each row's printed sentence says how): RoundRounds: laid · RoundRises: laid · RoundBetween: laid · RoundStep: laid · RoundEncloses: laid · RoundNearest: laid · DecimalQuantizes: laid · DecimalAdds: laid · DecimalPlus: laid · DecimalMuls: laid · DecimalFused: laid · DecimalExact: laid · DecimalValue: laid.
  DERIVED. THE GIVEN ROWS OF THIS SEAT. 13 by the template 'for every input the law returns true; each argument reads behind the call as it read before'; 0 by the template 'total and deterministic' (their statements: YtpnljnmpocobjaaGreatDoorTotals.lean).
  GIVEN WITH THE SEED: the statements are not yours to turn. If you find one false, say at which input.
  Laid BY PROGRAM, IN A SANDBOX (cutbox-rows.mjs): the forced cells as the released guide's own fill.sh prints them over the translation 3b02a15a5b2ec64b… (all of the seat's roots in one cut). By AI agents, Wed Nov 11 2026. No macro, syntax, notation, axiom, sorry.
-/
import Derived.Test.YtpnljnmpocobjaaGreatDoorChecked
import GoSem.Claim
import GoSem.ClaimJoined
import GoSem.ClaimMapViews
import Derived.JoinedTies
import Derived.KernelRfl
namespace Go.Proofs.YtpnljnmpocobjaaGreatDoor
/- THE CELL 'sum', in the pinned program and in every row, IS THE sha256 OF THE DUMP (.gsa) THAT YtpnljnmpocobjaaGreatDoorProg.lean LOADS. Nothing in Lean hashes anything: it is a label: what it is worth is what the hold of that sum in a sandbox is worth. -/
noncomputable def Tryz.pinned : Pinned := { name := "ytpnljnmpocobjaagreatdoor", sum := "3b02a15a5b2ec64b9b28f753eb9a07fa2d19861b5104407e6f8ed9c0fccdbe40", checked := Tryz.checked }
namespace Rows
def none {H : Type} : Left H := { results := [], args := [] }

/- WHAT THE LISTED PACKAGE-LEVEL VARIABLES READ AS WHEN THE CALL BEGINS. Each datum BY PROGRAM (the guide's laid-datum.mjs) off the statement by which the dump's own 'gosem.cut.vars' lays the variable. In a bare row this is a premise. The card (YtpnljnmpocobjaaGreatDoorCards.lean) ties it to the program's text. -/
def laid_math_bits_deBruijn64tab {H : Type} : DataW H := .agg [.lit (.int .u8 0), .lit (.int .u8 1), .lit (.int .u8 56), .lit (.int .u8 2), .lit (.int .u8 57), .lit (.int .u8 49), .lit (.int .u8 28), .lit (.int .u8 3), .lit (.int .u8 61), .lit (.int .u8 58), .lit (.int .u8 42), .lit (.int .u8 50), .lit (.int .u8 38), .lit (.int .u8 29), .lit (.int .u8 17), .lit (.int .u8 4), .lit (.int .u8 62), .lit (.int .u8 47), .lit (.int .u8 59), .lit (.int .u8 36), .lit (.int .u8 45), .lit (.int .u8 43), .lit (.int .u8 51), .lit (.int .u8 22), .lit (.int .u8 53), .lit (.int .u8 39), .lit (.int .u8 33), .lit (.int .u8 30), .lit (.int .u8 24), .lit (.int .u8 18), .lit (.int .u8 12), .lit (.int .u8 5), .lit (.int .u8 63), .lit (.int .u8 55), .lit (.int .u8 48), .lit (.int .u8 27), .lit (.int .u8 60), .lit (.int .u8 41), .lit (.int .u8 37), .lit (.int .u8 16), .lit (.int .u8 46), .lit (.int .u8 35), .lit (.int .u8 44), .lit (.int .u8 21), .lit (.int .u8 52), .lit (.int .u8 32), .lit (.int .u8 23), .lit (.int .u8 11), .lit (.int .u8 54), .lit (.int .u8 26), .lit (.int .u8 40), .lit (.int .u8 15), .lit (.int .u8 34), .lit (.int .u8 20), .lit (.int .u8 31), .lit (.int .u8 10), .lit (.int .u8 25), .lit (.int .u8 14), .lit (.int .u8 19), .lit (.int .u8 9), .lit (.int .u8 13), .lit (.int .u8 8), .lit (.int .u8 7), .lit (.int .u8 6)]
def laid_reckoner_fin_more {H : Type} : DataW H := .iface "func table" (.agg [.iface "func" (.lit (.string [114, 101, 99, 107, 111, 110, 101, 114, 47, 102, 105, 110, 46, 109, 111, 114, 101, 36, 49])), .iface "func" (.lit (.string [114, 101, 99, 107, 111, 110, 101, 114, 47, 102, 105, 110, 46, 109, 111, 114, 101, 36, 50])), .iface "func" (.lit (.string [114, 101, 99, 107, 111, 110, 101, 114, 47, 102, 105, 110, 46, 109, 111, 114, 101, 36, 51])), .iface "func" (.lit (.string [114, 101, 99, 107, 111, 110, 101, 114, 47, 102, 105, 110, 46, 109, 111, 114, 101, 36, 52])), .iface "func" (.lit (.string [114, 101, 99, 107, 111, 110, 101, 114, 47, 102, 105, 110, 46, 109, 111, 114, 101, 36, 53]))])

/-- 'reckonerlaw16.RoundRounds': WHATEVER THE INPUT: true; the input reads as it did. -/
def roundRoundsSpec : ChangeSpec := { name := "roundRounds", fn := fun _ => fun
  | [d1, d2, d3] => { results := [.lit (.bool true)], args := [d1, d2, d3] }
  | _ => none }
def roundRoundsRow : OpenClaim := { program := "ytpnljnmpocobjaagreatdoor", sum := "3b02a15a5b2ec64b9b28f753eb9a07fa2d19861b5104407e6f8ed9c0fccdbe40", func := "reckoner/reckonerlaw16.RoundRounds", spec := "roundRounds", inPlace := ["math/bits.Add64", "math/bits.Sub64"], unfollowed := true, recurses := true, named := ["math/bits.divideError", "math/bits.overflowError", "math/bits.deBruijn64tab", "reckoner/fin.more"], apart := false, laid := [("math/bits.deBruijn64tab", laid_math_bits_deBruijn64tab), ("reckoner/fin.more", laid_reckoner_fin_more)] }
def RoundRoundsSaid : Prop := roundRoundsRow.holds Tryz.pinned (OpenSpec.ofChange roundRoundsSpec)

/-- ITS FALSE NEIGHBOUR: 'it returns false'. Refute it at one input. -/
def roundRoundsWrong : ChangeSpec := { name := "roundRounds", fn := fun _ => fun
  | [d1, d2, d3] => { results := [.lit (.bool false)], args := [d1, d2, d3] }
  | _ => none }
def RoundRoundsWrongFalsely : Prop := roundRoundsRow.holds Tryz.pinned (OpenSpec.ofChange roundRoundsWrong)

/-- 'reckonerlaw16.RoundRises': WHATEVER THE INPUT: true; the input reads as it did. -/
def roundRisesSpec : ChangeSpec := { name := "roundRises", fn := fun _ => fun
  | [d1, d2, d3, d4] => { results := [.lit (.bool true)], args := [d1, d2, d3, d4] }
  | _ => none }
def roundRisesRow : OpenClaim := { program := "ytpnljnmpocobjaagreatdoor", sum := "3b02a15a5b2ec64b9b28f753eb9a07fa2d19861b5104407e6f8ed9c0fccdbe40", func := "reckoner/reckonerlaw16.RoundRises", spec := "roundRises", inPlace := ["math/bits.Add64", "math/bits.Sub64"], unfollowed := true, recurses := true, named := ["math/bits.divideError", "math/bits.overflowError", "math/bits.deBruijn64tab", "reckoner/fin.more"], apart := false, laid := [("math/bits.deBruijn64tab", laid_math_bits_deBruijn64tab), ("reckoner/fin.more", laid_reckoner_fin_more)] }
def RoundRisesSaid : Prop := roundRisesRow.holds Tryz.pinned (OpenSpec.ofChange roundRisesSpec)

/-- ITS FALSE NEIGHBOUR: 'it returns false'. Refute it at one input. -/
def roundRisesWrong : ChangeSpec := { name := "roundRises", fn := fun _ => fun
  | [d1, d2, d3, d4] => { results := [.lit (.bool false)], args := [d1, d2, d3, d4] }
  | _ => none }
def RoundRisesWrongFalsely : Prop := roundRisesRow.holds Tryz.pinned (OpenSpec.ofChange roundRisesWrong)

/-- 'reckonerlaw16.RoundBetween': WHATEVER THE INPUT: true; the input reads as it did. -/
def roundBetweenSpec : ChangeSpec := { name := "roundBetween", fn := fun _ => fun
  | [d1, d2] => { results := [.lit (.bool true)], args := [d1, d2] }
  | _ => none }
def roundBetweenRow : OpenClaim := { program := "ytpnljnmpocobjaagreatdoor", sum := "3b02a15a5b2ec64b9b28f753eb9a07fa2d19861b5104407e6f8ed9c0fccdbe40", func := "reckoner/reckonerlaw16.RoundBetween", spec := "roundBetween", inPlace := ["math/bits.Add64", "math/bits.Sub64"], unfollowed := true, recurses := true, named := ["math/bits.divideError", "math/bits.overflowError", "math/bits.deBruijn64tab", "reckoner/fin.more"], apart := false, laid := [("math/bits.deBruijn64tab", laid_math_bits_deBruijn64tab), ("reckoner/fin.more", laid_reckoner_fin_more)] }
def RoundBetweenSaid : Prop := roundBetweenRow.holds Tryz.pinned (OpenSpec.ofChange roundBetweenSpec)

/-- ITS FALSE NEIGHBOUR: 'it returns false'. Refute it at one input. -/
def roundBetweenWrong : ChangeSpec := { name := "roundBetween", fn := fun _ => fun
  | [d1, d2] => { results := [.lit (.bool false)], args := [d1, d2] }
  | _ => none }
def RoundBetweenWrongFalsely : Prop := roundBetweenRow.holds Tryz.pinned (OpenSpec.ofChange roundBetweenWrong)

/-- 'reckonerlaw16.RoundStep': WHATEVER THE INPUT: true; the input reads as it did. -/
def roundStepSpec : ChangeSpec := { name := "roundStep", fn := fun _ => fun
  | [d1, d2] => { results := [.lit (.bool true)], args := [d1, d2] }
  | _ => none }
def roundStepRow : OpenClaim := { program := "ytpnljnmpocobjaagreatdoor", sum := "3b02a15a5b2ec64b9b28f753eb9a07fa2d19861b5104407e6f8ed9c0fccdbe40", func := "reckoner/reckonerlaw16.RoundStep", spec := "roundStep", inPlace := ["math/bits.Add64", "math/bits.Sub64"], unfollowed := true, recurses := true, named := ["math/bits.divideError", "math/bits.overflowError", "math/bits.deBruijn64tab", "reckoner/fin.more"], apart := false, laid := [("math/bits.deBruijn64tab", laid_math_bits_deBruijn64tab), ("reckoner/fin.more", laid_reckoner_fin_more)] }
def RoundStepSaid : Prop := roundStepRow.holds Tryz.pinned (OpenSpec.ofChange roundStepSpec)

/-- ITS FALSE NEIGHBOUR: 'it returns false'. Refute it at one input. -/
def roundStepWrong : ChangeSpec := { name := "roundStep", fn := fun _ => fun
  | [d1, d2] => { results := [.lit (.bool false)], args := [d1, d2] }
  | _ => none }
def RoundStepWrongFalsely : Prop := roundStepRow.holds Tryz.pinned (OpenSpec.ofChange roundStepWrong)

/-- 'reckonerlaw16.RoundEncloses': WHATEVER THE INPUT: true; the input reads as it did. -/
def roundEnclosesSpec : ChangeSpec := { name := "roundEncloses", fn := fun _ => fun
  | [d1, d2, d3] => { results := [.lit (.bool true)], args := [d1, d2, d3] }
  | _ => none }
def roundEnclosesRow : OpenClaim := { program := "ytpnljnmpocobjaagreatdoor", sum := "3b02a15a5b2ec64b9b28f753eb9a07fa2d19861b5104407e6f8ed9c0fccdbe40", func := "reckoner/reckonerlaw16.RoundEncloses", spec := "roundEncloses", inPlace := ["math/bits.Add64", "math/bits.Sub64"], unfollowed := true, recurses := true, named := ["math/bits.divideError", "math/bits.overflowError", "math/bits.deBruijn64tab", "reckoner/fin.more"], apart := false, laid := [("math/bits.deBruijn64tab", laid_math_bits_deBruijn64tab), ("reckoner/fin.more", laid_reckoner_fin_more)] }
def RoundEnclosesSaid : Prop := roundEnclosesRow.holds Tryz.pinned (OpenSpec.ofChange roundEnclosesSpec)

/-- ITS FALSE NEIGHBOUR: 'it returns false'. Refute it at one input. -/
def roundEnclosesWrong : ChangeSpec := { name := "roundEncloses", fn := fun _ => fun
  | [d1, d2, d3] => { results := [.lit (.bool false)], args := [d1, d2, d3] }
  | _ => none }
def RoundEnclosesWrongFalsely : Prop := roundEnclosesRow.holds Tryz.pinned (OpenSpec.ofChange roundEnclosesWrong)

/-- 'reckonerlaw16.RoundNearest': WHATEVER THE INPUT: true; the input reads as it did. -/
def roundNearestSpec : ChangeSpec := { name := "roundNearest", fn := fun _ => fun
  | [d1, d2, d3, d4] => { results := [.lit (.bool true)], args := [d1, d2, d3, d4] }
  | _ => none }
def roundNearestRow : OpenClaim := { program := "ytpnljnmpocobjaagreatdoor", sum := "3b02a15a5b2ec64b9b28f753eb9a07fa2d19861b5104407e6f8ed9c0fccdbe40", func := "reckoner/reckonerlaw16.RoundNearest", spec := "roundNearest", inPlace := ["math/bits.Add64", "math/bits.Sub64"], unfollowed := true, recurses := true, named := ["math/bits.divideError", "math/bits.overflowError", "math/bits.deBruijn64tab", "reckoner/fin.more"], apart := false, laid := [("math/bits.deBruijn64tab", laid_math_bits_deBruijn64tab), ("reckoner/fin.more", laid_reckoner_fin_more)] }
def RoundNearestSaid : Prop := roundNearestRow.holds Tryz.pinned (OpenSpec.ofChange roundNearestSpec)

/-- ITS FALSE NEIGHBOUR: 'it returns false'. Refute it at one input. -/
def roundNearestWrong : ChangeSpec := { name := "roundNearest", fn := fun _ => fun
  | [d1, d2, d3, d4] => { results := [.lit (.bool false)], args := [d1, d2, d3, d4] }
  | _ => none }
def RoundNearestWrongFalsely : Prop := roundNearestRow.holds Tryz.pinned (OpenSpec.ofChange roundNearestWrong)

/-- 'reckonerlaw22.DecimalQuantizes': WHATEVER THE INPUT: true; the input reads as it did. -/
def decimalQuantizesSpec : ChangeSpec := { name := "decimalQuantizes", fn := fun _ => fun
  | [d1, d2, d3] => { results := [.lit (.bool true)], args := [d1, d2, d3] }
  | _ => none }
def decimalQuantizesRow : OpenClaim := { program := "ytpnljnmpocobjaagreatdoor", sum := "3b02a15a5b2ec64b9b28f753eb9a07fa2d19861b5104407e6f8ed9c0fccdbe40", func := "reckoner/reckonerlaw22.DecimalQuantizes", spec := "decimalQuantizes", inPlace := ["math/bits.Add64", "math/bits.Sub64"], unfollowed := true, recurses := true, named := ["math/bits.deBruijn64tab", "math/bits.divideError", "math/bits.overflowError", "reckoner/fin.more"], apart := false, laid := [("math/bits.deBruijn64tab", laid_math_bits_deBruijn64tab), ("reckoner/fin.more", laid_reckoner_fin_more)] }
def DecimalQuantizesSaid : Prop := decimalQuantizesRow.holds Tryz.pinned (OpenSpec.ofChange decimalQuantizesSpec)

/-- ITS FALSE NEIGHBOUR: 'it returns false'. Refute it at one input. -/
def decimalQuantizesWrong : ChangeSpec := { name := "decimalQuantizes", fn := fun _ => fun
  | [d1, d2, d3] => { results := [.lit (.bool false)], args := [d1, d2, d3] }
  | _ => none }
def DecimalQuantizesWrongFalsely : Prop := decimalQuantizesRow.holds Tryz.pinned (OpenSpec.ofChange decimalQuantizesWrong)

/-- 'reckonerlaw22.DecimalAdds': WHATEVER THE INPUT: true; the input reads as it did. -/
def decimalAddsSpec : ChangeSpec := { name := "decimalAdds", fn := fun _ => fun
  | [d1, d2, d3] => { results := [.lit (.bool true)], args := [d1, d2, d3] }
  | _ => none }
def decimalAddsRow : OpenClaim := { program := "ytpnljnmpocobjaagreatdoor", sum := "3b02a15a5b2ec64b9b28f753eb9a07fa2d19861b5104407e6f8ed9c0fccdbe40", func := "reckoner/reckonerlaw22.DecimalAdds", spec := "decimalAdds", inPlace := ["math/bits.Add64", "math/bits.Sub64"], unfollowed := true, recurses := true, named := ["math/bits.deBruijn64tab", "math/bits.divideError", "math/bits.overflowError", "reckoner/fin.more"], apart := false, laid := [("math/bits.deBruijn64tab", laid_math_bits_deBruijn64tab), ("reckoner/fin.more", laid_reckoner_fin_more)] }
def DecimalAddsSaid : Prop := decimalAddsRow.holds Tryz.pinned (OpenSpec.ofChange decimalAddsSpec)

/-- ITS FALSE NEIGHBOUR: 'it returns false'. Refute it at one input. -/
def decimalAddsWrong : ChangeSpec := { name := "decimalAdds", fn := fun _ => fun
  | [d1, d2, d3] => { results := [.lit (.bool false)], args := [d1, d2, d3] }
  | _ => none }
def DecimalAddsWrongFalsely : Prop := decimalAddsRow.holds Tryz.pinned (OpenSpec.ofChange decimalAddsWrong)

/-- 'reckonerlaw22.DecimalPlus': WHATEVER THE INPUT: true; the input reads as it did. -/
def decimalPlusSpec : ChangeSpec := { name := "decimalPlus", fn := fun _ => fun
  | [d1, d2] => { results := [.lit (.bool true)], args := [d1, d2] }
  | _ => none }
def decimalPlusRow : OpenClaim := { program := "ytpnljnmpocobjaagreatdoor", sum := "3b02a15a5b2ec64b9b28f753eb9a07fa2d19861b5104407e6f8ed9c0fccdbe40", func := "reckoner/reckonerlaw22.DecimalPlus", spec := "decimalPlus", inPlace := ["math/bits.Add64", "math/bits.Sub64"], unfollowed := true, recurses := true, named := ["math/bits.deBruijn64tab", "math/bits.divideError", "math/bits.overflowError", "reckoner/fin.more"], apart := false, laid := [("math/bits.deBruijn64tab", laid_math_bits_deBruijn64tab), ("reckoner/fin.more", laid_reckoner_fin_more)] }
def DecimalPlusSaid : Prop := decimalPlusRow.holds Tryz.pinned (OpenSpec.ofChange decimalPlusSpec)

/-- ITS FALSE NEIGHBOUR: 'it returns false'. Refute it at one input. -/
def decimalPlusWrong : ChangeSpec := { name := "decimalPlus", fn := fun _ => fun
  | [d1, d2] => { results := [.lit (.bool false)], args := [d1, d2] }
  | _ => none }
def DecimalPlusWrongFalsely : Prop := decimalPlusRow.holds Tryz.pinned (OpenSpec.ofChange decimalPlusWrong)

/-- 'reckonerlaw22.DecimalMuls': WHATEVER THE INPUT: true; the input reads as it did. -/
def decimalMulsSpec : ChangeSpec := { name := "decimalMuls", fn := fun _ => fun
  | [d1, d2, d3] => { results := [.lit (.bool true)], args := [d1, d2, d3] }
  | _ => none }
def decimalMulsRow : OpenClaim := { program := "ytpnljnmpocobjaagreatdoor", sum := "3b02a15a5b2ec64b9b28f753eb9a07fa2d19861b5104407e6f8ed9c0fccdbe40", func := "reckoner/reckonerlaw22.DecimalMuls", spec := "decimalMuls", inPlace := ["math/bits.Add64", "math/bits.Sub64"], unfollowed := true, recurses := true, named := ["math/bits.deBruijn64tab", "math/bits.divideError", "math/bits.overflowError", "reckoner/fin.more"], apart := false, laid := [("math/bits.deBruijn64tab", laid_math_bits_deBruijn64tab), ("reckoner/fin.more", laid_reckoner_fin_more)] }
def DecimalMulsSaid : Prop := decimalMulsRow.holds Tryz.pinned (OpenSpec.ofChange decimalMulsSpec)

/-- ITS FALSE NEIGHBOUR: 'it returns false'. Refute it at one input. -/
def decimalMulsWrong : ChangeSpec := { name := "decimalMuls", fn := fun _ => fun
  | [d1, d2, d3] => { results := [.lit (.bool false)], args := [d1, d2, d3] }
  | _ => none }
def DecimalMulsWrongFalsely : Prop := decimalMulsRow.holds Tryz.pinned (OpenSpec.ofChange decimalMulsWrong)

/-- 'reckonerlaw22.DecimalFused': WHATEVER THE INPUT: true; the input reads as it did. -/
def decimalFusedSpec : ChangeSpec := { name := "decimalFused", fn := fun _ => fun
  | [d1, d2, d3, d4] => { results := [.lit (.bool true)], args := [d1, d2, d3, d4] }
  | _ => none }
def decimalFusedRow : OpenClaim := { program := "ytpnljnmpocobjaagreatdoor", sum := "3b02a15a5b2ec64b9b28f753eb9a07fa2d19861b5104407e6f8ed9c0fccdbe40", func := "reckoner/reckonerlaw22.DecimalFused", spec := "decimalFused", inPlace := ["math/bits.Add64", "math/bits.Sub64"], unfollowed := true, recurses := true, named := ["math/bits.deBruijn64tab", "math/bits.divideError", "math/bits.overflowError", "reckoner/fin.more"], apart := false, laid := [("math/bits.deBruijn64tab", laid_math_bits_deBruijn64tab), ("reckoner/fin.more", laid_reckoner_fin_more)] }
def DecimalFusedSaid : Prop := decimalFusedRow.holds Tryz.pinned (OpenSpec.ofChange decimalFusedSpec)

/-- ITS FALSE NEIGHBOUR: 'it returns false'. Refute it at one input. -/
def decimalFusedWrong : ChangeSpec := { name := "decimalFused", fn := fun _ => fun
  | [d1, d2, d3, d4] => { results := [.lit (.bool false)], args := [d1, d2, d3, d4] }
  | _ => none }
def DecimalFusedWrongFalsely : Prop := decimalFusedRow.holds Tryz.pinned (OpenSpec.ofChange decimalFusedWrong)

/-- 'reckonerlaw22.DecimalExact': WHATEVER THE INPUT: true; the input reads as it did. -/
def decimalExactSpec : ChangeSpec := { name := "decimalExact", fn := fun _ => fun
  | [d1, d2, d3, d4] => { results := [.lit (.bool true)], args := [d1, d2, d3, d4] }
  | _ => none }
def decimalExactRow : OpenClaim := { program := "ytpnljnmpocobjaagreatdoor", sum := "3b02a15a5b2ec64b9b28f753eb9a07fa2d19861b5104407e6f8ed9c0fccdbe40", func := "reckoner/reckonerlaw22.DecimalExact", spec := "decimalExact", inPlace := ["math/bits.Add64", "math/bits.Sub64"], unfollowed := true, recurses := true, named := ["math/bits.deBruijn64tab", "math/bits.divideError", "math/bits.overflowError", "reckoner/fin.more"], apart := false, laid := [("math/bits.deBruijn64tab", laid_math_bits_deBruijn64tab), ("reckoner/fin.more", laid_reckoner_fin_more)] }
def DecimalExactSaid : Prop := decimalExactRow.holds Tryz.pinned (OpenSpec.ofChange decimalExactSpec)

/-- ITS FALSE NEIGHBOUR: 'it returns false'. Refute it at one input. -/
def decimalExactWrong : ChangeSpec := { name := "decimalExact", fn := fun _ => fun
  | [d1, d2, d3, d4] => { results := [.lit (.bool false)], args := [d1, d2, d3, d4] }
  | _ => none }
def DecimalExactWrongFalsely : Prop := decimalExactRow.holds Tryz.pinned (OpenSpec.ofChange decimalExactWrong)

/-- 'reckonerlaw22.DecimalValue': WHATEVER THE INPUT: true; the input reads as it did. -/
def decimalValueSpec : ChangeSpec := { name := "decimalValue", fn := fun _ => fun
  | [d] => { results := [.lit (.bool true)], args := [d] }
  | _ => none }
def decimalValueRow : OpenClaim := { program := "ytpnljnmpocobjaagreatdoor", sum := "3b02a15a5b2ec64b9b28f753eb9a07fa2d19861b5104407e6f8ed9c0fccdbe40", func := "reckoner/reckonerlaw22.DecimalValue", spec := "decimalValue", inPlace := ["math/bits.Add64", "math/bits.Sub64"], unfollowed := true, recurses := true, named := ["math/bits.deBruijn64tab", "math/bits.divideError", "math/bits.overflowError", "reckoner/fin.more"], apart := false, laid := [("math/bits.deBruijn64tab", laid_math_bits_deBruijn64tab), ("reckoner/fin.more", laid_reckoner_fin_more)] }
def DecimalValueSaid : Prop := decimalValueRow.holds Tryz.pinned (OpenSpec.ofChange decimalValueSpec)

/-- ITS FALSE NEIGHBOUR: 'it returns false'. Refute it at one input. -/
def decimalValueWrong : ChangeSpec := { name := "decimalValue", fn := fun _ => fun
  | [d] => { results := [.lit (.bool false)], args := [d] }
  | _ => none }
def DecimalValueWrongFalsely : Prop := decimalValueRow.holds Tryz.pinned (OpenSpec.ofChange decimalValueWrong)

/- THE SECOND FORM. 'bulk': how many values and letters a reading holds, each counted each time it is reached (what is shared counts as often as it is met; a slice's spare places count too). A statement '..UptoSaid' is the law's where the arguments, and the package variables that the reading takes, are together of bulk at most 1048576: NARROWER than '..Said'. Prove '..Said' where nothing that the law and all that it calls make is longer than what came in: it says more and counts as full. Else prove '..UptoSaid'. A law counts once. -/
mutual
def uptoBulk {H : Type} : DataW H → Nat
  | .lit (.string bytes) => bytes.length + 1
  | .lit _ => 1
  | .nil => 1
  | .ptr d => uptoBulk d + 1
  | .slice elems spare => uptoBulkAll elems + uptoBulkAll spare + 1
  | .agg parts => uptoBulkAll parts + 1
  | .iface _ d => uptoBulk d + 1
  | .map entries => uptoBulkEntries entries + 1
  | .held _ => 1
def uptoBulkAll {H : Type} : List (DataW H) → Nat
  | [] => 0
  | d :: r => uptoBulk d + uptoBulkAll r
def uptoBulkEntries {H : Type} : List (Lit × DataW H) → Nat
  | [] => 0
  | x :: r => uptoBulkEntry x + uptoBulkEntries r
def uptoBulkEntry {H : Type} : Lit × DataW H → Nat
  | (.string bytes, d) => bytes.length + uptoBulk d + 1
  | (_, d) => uptoBulk d + 1
 end
def uptoSmall : (H : Type) → List (DataW H) → Bool := fun _ ds => decide (uptoBulkAll ds ≤ 1048576)
def OpenSpec.upto (s : _root_.Go.ChangeSpec) : _root_.Go.OpenSpec := { _root_.Go.OpenSpec.ofChange s with cond := some uptoSmall }

/-- 'reckonerlaw16.RoundRounds', WHERE WHAT IT READS IS OF BULK AT MOST 1048576: true; the input reads as it did. -/
def roundRoundsUptoRow : OpenClaim := { program := "ytpnljnmpocobjaagreatdoor", sum := "3b02a15a5b2ec64b9b28f753eb9a07fa2d19861b5104407e6f8ed9c0fccdbe40", func := "reckoner/reckonerlaw16.RoundRounds", spec := "roundRounds", inPlace := ["math/bits.Add64", "math/bits.Sub64"], unfollowed := true, recurses := true, named := ["math/bits.divideError", "math/bits.overflowError", "math/bits.deBruijn64tab", "reckoner/fin.more"], apart := false, laid := [("math/bits.deBruijn64tab", laid_math_bits_deBruijn64tab), ("reckoner/fin.more", laid_reckoner_fin_more)], narrowed := true }
def RoundRoundsUptoSaid : Prop := roundRoundsUptoRow.holds Tryz.pinned (OpenSpec.upto roundRoundsSpec)

/-- 'reckonerlaw16.RoundRises', WHERE WHAT IT READS IS OF BULK AT MOST 1048576: true; the input reads as it did. -/
def roundRisesUptoRow : OpenClaim := { program := "ytpnljnmpocobjaagreatdoor", sum := "3b02a15a5b2ec64b9b28f753eb9a07fa2d19861b5104407e6f8ed9c0fccdbe40", func := "reckoner/reckonerlaw16.RoundRises", spec := "roundRises", inPlace := ["math/bits.Add64", "math/bits.Sub64"], unfollowed := true, recurses := true, named := ["math/bits.divideError", "math/bits.overflowError", "math/bits.deBruijn64tab", "reckoner/fin.more"], apart := false, laid := [("math/bits.deBruijn64tab", laid_math_bits_deBruijn64tab), ("reckoner/fin.more", laid_reckoner_fin_more)], narrowed := true }
def RoundRisesUptoSaid : Prop := roundRisesUptoRow.holds Tryz.pinned (OpenSpec.upto roundRisesSpec)

/-- 'reckonerlaw16.RoundBetween', WHERE WHAT IT READS IS OF BULK AT MOST 1048576: true; the input reads as it did. -/
def roundBetweenUptoRow : OpenClaim := { program := "ytpnljnmpocobjaagreatdoor", sum := "3b02a15a5b2ec64b9b28f753eb9a07fa2d19861b5104407e6f8ed9c0fccdbe40", func := "reckoner/reckonerlaw16.RoundBetween", spec := "roundBetween", inPlace := ["math/bits.Add64", "math/bits.Sub64"], unfollowed := true, recurses := true, named := ["math/bits.divideError", "math/bits.overflowError", "math/bits.deBruijn64tab", "reckoner/fin.more"], apart := false, laid := [("math/bits.deBruijn64tab", laid_math_bits_deBruijn64tab), ("reckoner/fin.more", laid_reckoner_fin_more)], narrowed := true }
def RoundBetweenUptoSaid : Prop := roundBetweenUptoRow.holds Tryz.pinned (OpenSpec.upto roundBetweenSpec)

/-- 'reckonerlaw16.RoundStep', WHERE WHAT IT READS IS OF BULK AT MOST 1048576: true; the input reads as it did. -/
def roundStepUptoRow : OpenClaim := { program := "ytpnljnmpocobjaagreatdoor", sum := "3b02a15a5b2ec64b9b28f753eb9a07fa2d19861b5104407e6f8ed9c0fccdbe40", func := "reckoner/reckonerlaw16.RoundStep", spec := "roundStep", inPlace := ["math/bits.Add64", "math/bits.Sub64"], unfollowed := true, recurses := true, named := ["math/bits.divideError", "math/bits.overflowError", "math/bits.deBruijn64tab", "reckoner/fin.more"], apart := false, laid := [("math/bits.deBruijn64tab", laid_math_bits_deBruijn64tab), ("reckoner/fin.more", laid_reckoner_fin_more)], narrowed := true }
def RoundStepUptoSaid : Prop := roundStepUptoRow.holds Tryz.pinned (OpenSpec.upto roundStepSpec)

/-- 'reckonerlaw16.RoundEncloses', WHERE WHAT IT READS IS OF BULK AT MOST 1048576: true; the input reads as it did. -/
def roundEnclosesUptoRow : OpenClaim := { program := "ytpnljnmpocobjaagreatdoor", sum := "3b02a15a5b2ec64b9b28f753eb9a07fa2d19861b5104407e6f8ed9c0fccdbe40", func := "reckoner/reckonerlaw16.RoundEncloses", spec := "roundEncloses", inPlace := ["math/bits.Add64", "math/bits.Sub64"], unfollowed := true, recurses := true, named := ["math/bits.divideError", "math/bits.overflowError", "math/bits.deBruijn64tab", "reckoner/fin.more"], apart := false, laid := [("math/bits.deBruijn64tab", laid_math_bits_deBruijn64tab), ("reckoner/fin.more", laid_reckoner_fin_more)], narrowed := true }
def RoundEnclosesUptoSaid : Prop := roundEnclosesUptoRow.holds Tryz.pinned (OpenSpec.upto roundEnclosesSpec)

/-- 'reckonerlaw16.RoundNearest', WHERE WHAT IT READS IS OF BULK AT MOST 1048576: true; the input reads as it did. -/
def roundNearestUptoRow : OpenClaim := { program := "ytpnljnmpocobjaagreatdoor", sum := "3b02a15a5b2ec64b9b28f753eb9a07fa2d19861b5104407e6f8ed9c0fccdbe40", func := "reckoner/reckonerlaw16.RoundNearest", spec := "roundNearest", inPlace := ["math/bits.Add64", "math/bits.Sub64"], unfollowed := true, recurses := true, named := ["math/bits.divideError", "math/bits.overflowError", "math/bits.deBruijn64tab", "reckoner/fin.more"], apart := false, laid := [("math/bits.deBruijn64tab", laid_math_bits_deBruijn64tab), ("reckoner/fin.more", laid_reckoner_fin_more)], narrowed := true }
def RoundNearestUptoSaid : Prop := roundNearestUptoRow.holds Tryz.pinned (OpenSpec.upto roundNearestSpec)

/-- 'reckonerlaw22.DecimalQuantizes', WHERE WHAT IT READS IS OF BULK AT MOST 1048576: true; the input reads as it did. -/
def decimalQuantizesUptoRow : OpenClaim := { program := "ytpnljnmpocobjaagreatdoor", sum := "3b02a15a5b2ec64b9b28f753eb9a07fa2d19861b5104407e6f8ed9c0fccdbe40", func := "reckoner/reckonerlaw22.DecimalQuantizes", spec := "decimalQuantizes", inPlace := ["math/bits.Add64", "math/bits.Sub64"], unfollowed := true, recurses := true, named := ["math/bits.deBruijn64tab", "math/bits.divideError", "math/bits.overflowError", "reckoner/fin.more"], apart := false, laid := [("math/bits.deBruijn64tab", laid_math_bits_deBruijn64tab), ("reckoner/fin.more", laid_reckoner_fin_more)], narrowed := true }
def DecimalQuantizesUptoSaid : Prop := decimalQuantizesUptoRow.holds Tryz.pinned (OpenSpec.upto decimalQuantizesSpec)

/-- 'reckonerlaw22.DecimalAdds', WHERE WHAT IT READS IS OF BULK AT MOST 1048576: true; the input reads as it did. -/
def decimalAddsUptoRow : OpenClaim := { program := "ytpnljnmpocobjaagreatdoor", sum := "3b02a15a5b2ec64b9b28f753eb9a07fa2d19861b5104407e6f8ed9c0fccdbe40", func := "reckoner/reckonerlaw22.DecimalAdds", spec := "decimalAdds", inPlace := ["math/bits.Add64", "math/bits.Sub64"], unfollowed := true, recurses := true, named := ["math/bits.deBruijn64tab", "math/bits.divideError", "math/bits.overflowError", "reckoner/fin.more"], apart := false, laid := [("math/bits.deBruijn64tab", laid_math_bits_deBruijn64tab), ("reckoner/fin.more", laid_reckoner_fin_more)], narrowed := true }
def DecimalAddsUptoSaid : Prop := decimalAddsUptoRow.holds Tryz.pinned (OpenSpec.upto decimalAddsSpec)

/-- 'reckonerlaw22.DecimalPlus', WHERE WHAT IT READS IS OF BULK AT MOST 1048576: true; the input reads as it did. -/
def decimalPlusUptoRow : OpenClaim := { program := "ytpnljnmpocobjaagreatdoor", sum := "3b02a15a5b2ec64b9b28f753eb9a07fa2d19861b5104407e6f8ed9c0fccdbe40", func := "reckoner/reckonerlaw22.DecimalPlus", spec := "decimalPlus", inPlace := ["math/bits.Add64", "math/bits.Sub64"], unfollowed := true, recurses := true, named := ["math/bits.deBruijn64tab", "math/bits.divideError", "math/bits.overflowError", "reckoner/fin.more"], apart := false, laid := [("math/bits.deBruijn64tab", laid_math_bits_deBruijn64tab), ("reckoner/fin.more", laid_reckoner_fin_more)], narrowed := true }
def DecimalPlusUptoSaid : Prop := decimalPlusUptoRow.holds Tryz.pinned (OpenSpec.upto decimalPlusSpec)

/-- 'reckonerlaw22.DecimalMuls', WHERE WHAT IT READS IS OF BULK AT MOST 1048576: true; the input reads as it did. -/
def decimalMulsUptoRow : OpenClaim := { program := "ytpnljnmpocobjaagreatdoor", sum := "3b02a15a5b2ec64b9b28f753eb9a07fa2d19861b5104407e6f8ed9c0fccdbe40", func := "reckoner/reckonerlaw22.DecimalMuls", spec := "decimalMuls", inPlace := ["math/bits.Add64", "math/bits.Sub64"], unfollowed := true, recurses := true, named := ["math/bits.deBruijn64tab", "math/bits.divideError", "math/bits.overflowError", "reckoner/fin.more"], apart := false, laid := [("math/bits.deBruijn64tab", laid_math_bits_deBruijn64tab), ("reckoner/fin.more", laid_reckoner_fin_more)], narrowed := true }
def DecimalMulsUptoSaid : Prop := decimalMulsUptoRow.holds Tryz.pinned (OpenSpec.upto decimalMulsSpec)

/-- 'reckonerlaw22.DecimalFused', WHERE WHAT IT READS IS OF BULK AT MOST 1048576: true; the input reads as it did. -/
def decimalFusedUptoRow : OpenClaim := { program := "ytpnljnmpocobjaagreatdoor", sum := "3b02a15a5b2ec64b9b28f753eb9a07fa2d19861b5104407e6f8ed9c0fccdbe40", func := "reckoner/reckonerlaw22.DecimalFused", spec := "decimalFused", inPlace := ["math/bits.Add64", "math/bits.Sub64"], unfollowed := true, recurses := true, named := ["math/bits.deBruijn64tab", "math/bits.divideError", "math/bits.overflowError", "reckoner/fin.more"], apart := false, laid := [("math/bits.deBruijn64tab", laid_math_bits_deBruijn64tab), ("reckoner/fin.more", laid_reckoner_fin_more)], narrowed := true }
def DecimalFusedUptoSaid : Prop := decimalFusedUptoRow.holds Tryz.pinned (OpenSpec.upto decimalFusedSpec)

/-- 'reckonerlaw22.DecimalExact', WHERE WHAT IT READS IS OF BULK AT MOST 1048576: true; the input reads as it did. -/
def decimalExactUptoRow : OpenClaim := { program := "ytpnljnmpocobjaagreatdoor", sum := "3b02a15a5b2ec64b9b28f753eb9a07fa2d19861b5104407e6f8ed9c0fccdbe40", func := "reckoner/reckonerlaw22.DecimalExact", spec := "decimalExact", inPlace := ["math/bits.Add64", "math/bits.Sub64"], unfollowed := true, recurses := true, named := ["math/bits.deBruijn64tab", "math/bits.divideError", "math/bits.overflowError", "reckoner/fin.more"], apart := false, laid := [("math/bits.deBruijn64tab", laid_math_bits_deBruijn64tab), ("reckoner/fin.more", laid_reckoner_fin_more)], narrowed := true }
def DecimalExactUptoSaid : Prop := decimalExactUptoRow.holds Tryz.pinned (OpenSpec.upto decimalExactSpec)

/-- 'reckonerlaw22.DecimalValue', WHERE WHAT IT READS IS OF BULK AT MOST 1048576: true; the input reads as it did. -/
def decimalValueUptoRow : OpenClaim := { program := "ytpnljnmpocobjaagreatdoor", sum := "3b02a15a5b2ec64b9b28f753eb9a07fa2d19861b5104407e6f8ed9c0fccdbe40", func := "reckoner/reckonerlaw22.DecimalValue", spec := "decimalValue", inPlace := ["math/bits.Add64", "math/bits.Sub64"], unfollowed := true, recurses := true, named := ["math/bits.deBruijn64tab", "math/bits.divideError", "math/bits.overflowError", "reckoner/fin.more"], apart := false, laid := [("math/bits.deBruijn64tab", laid_math_bits_deBruijn64tab), ("reckoner/fin.more", laid_reckoner_fin_more)], narrowed := true }
def DecimalValueUptoSaid : Prop := decimalValueUptoRow.holds Tryz.pinned (OpenSpec.upto decimalValueSpec)

end Rows
end Go.Proofs.YtpnljnmpocobjaaGreatDoor
