/-
  NARROWER THAN 'FOR EVERY INPUT', by the rows' own cells (each row's printed sentence says how): RoundWhole: laid · RoundExact: laid · RoundMirror: laid · RoundKeeps: laid · DecimalMoney: laid · DecimalChecks: laid · DecimalHolds: laid · DecimalReduces: laid · DecimalOrder: laid · DecimalCompares: laid · DecimalKeeps: laid.
  DERIVED. THE GIVEN ROWS OF THIS SEAT. 11 by the template 'for every input the law returns true; each argument reads behind the call as it read before'; 0 by the template 'total and deterministic' (their statements: YtpnljnmpocobjaaDoorTotals.lean).
  GIVEN WITH THE SEED: the statements are not yours to turn. If you find one false, say at which input.
  Laid BY PROGRAM, IN A SANDBOX (cutbox-rows.mjs): the forced cells as the released guide's own fill.sh prints them over the translation aca7d0fe1d859006… (all of the seat's roots in one cut). By AI agents, Wed Nov 11 2026. No macro, syntax, notation, axiom, sorry.
-/
import Derived.Test.YtpnljnmpocobjaaDoorChecked
import GoSem.Claim
import GoSem.ClaimJoined
import GoSem.ClaimMapViews
import Derived.JoinedTies
import Derived.KernelRfl
namespace Go.Proofs.YtpnljnmpocobjaaDoor
/- THE CELL 'sum', in the pinned program and in every row, IS THE sha256 OF THE DUMP (.gsa) THAT YtpnljnmpocobjaaDoorProg.lean LOADS. Nothing in Lean hashes anything: it is a label: what it is worth is what the hold of that sum in a sandbox is worth. -/
noncomputable def Tryd.pinned : Pinned := { name := "ytpnljnmpocobjaadoor", sum := "aca7d0fe1d8590063f9d9e6eee607fc96b6bb6d1054026bf8aa40441f18ff55c", checked := Tryd.checked }
namespace Rows
def none {H : Type} : Left H := { results := [], args := [] }

/- WHAT THE LISTED PACKAGE-LEVEL VARIABLES READ AS WHEN THE CALL BEGINS. Each datum BY PROGRAM (the guide's laid-datum.mjs) off the statement by which the dump's own 'gosem.cut.vars' lays the variable. In a bare row this is a premise. The card (YtpnljnmpocobjaaDoorCards.lean) ties it to the program's text. -/
def laid_math_bits_deBruijn64tab {H : Type} : DataW H := .agg [.lit (.int .u8 0), .lit (.int .u8 1), .lit (.int .u8 56), .lit (.int .u8 2), .lit (.int .u8 57), .lit (.int .u8 49), .lit (.int .u8 28), .lit (.int .u8 3), .lit (.int .u8 61), .lit (.int .u8 58), .lit (.int .u8 42), .lit (.int .u8 50), .lit (.int .u8 38), .lit (.int .u8 29), .lit (.int .u8 17), .lit (.int .u8 4), .lit (.int .u8 62), .lit (.int .u8 47), .lit (.int .u8 59), .lit (.int .u8 36), .lit (.int .u8 45), .lit (.int .u8 43), .lit (.int .u8 51), .lit (.int .u8 22), .lit (.int .u8 53), .lit (.int .u8 39), .lit (.int .u8 33), .lit (.int .u8 30), .lit (.int .u8 24), .lit (.int .u8 18), .lit (.int .u8 12), .lit (.int .u8 5), .lit (.int .u8 63), .lit (.int .u8 55), .lit (.int .u8 48), .lit (.int .u8 27), .lit (.int .u8 60), .lit (.int .u8 41), .lit (.int .u8 37), .lit (.int .u8 16), .lit (.int .u8 46), .lit (.int .u8 35), .lit (.int .u8 44), .lit (.int .u8 21), .lit (.int .u8 52), .lit (.int .u8 32), .lit (.int .u8 23), .lit (.int .u8 11), .lit (.int .u8 54), .lit (.int .u8 26), .lit (.int .u8 40), .lit (.int .u8 15), .lit (.int .u8 34), .lit (.int .u8 20), .lit (.int .u8 31), .lit (.int .u8 10), .lit (.int .u8 25), .lit (.int .u8 14), .lit (.int .u8 19), .lit (.int .u8 9), .lit (.int .u8 13), .lit (.int .u8 8), .lit (.int .u8 7), .lit (.int .u8 6)]
def laid_reckoner_fin_more {H : Type} : DataW H := .iface "func table" (.agg [.iface "func" (.lit (.string [114, 101, 99, 107, 111, 110, 101, 114, 47, 102, 105, 110, 46, 109, 111, 114, 101, 36, 49])), .iface "func" (.lit (.string [114, 101, 99, 107, 111, 110, 101, 114, 47, 102, 105, 110, 46, 109, 111, 114, 101, 36, 50])), .iface "func" (.lit (.string [114, 101, 99, 107, 111, 110, 101, 114, 47, 102, 105, 110, 46, 109, 111, 114, 101, 36, 51])), .iface "func" (.lit (.string [114, 101, 99, 107, 111, 110, 101, 114, 47, 102, 105, 110, 46, 109, 111, 114, 101, 36, 52])), .iface "func" (.lit (.string [114, 101, 99, 107, 111, 110, 101, 114, 47, 102, 105, 110, 46, 109, 111, 114, 101, 36, 53]))])

/-- 'reckonerlaw16.RoundWhole': WHATEVER THE INPUT: true; the input reads as it did. -/
def roundWholeSpec : ChangeSpec := { name := "roundWhole", fn := fun _ => fun
  | [d1, d2] => { results := [.lit (.bool true)], args := [d1, d2] }
  | _ => none }
def roundWholeRow : OpenClaim := { program := "ytpnljnmpocobjaadoor", sum := "aca7d0fe1d8590063f9d9e6eee607fc96b6bb6d1054026bf8aa40441f18ff55c", func := "reckoner/reckonerlaw16.RoundWhole", spec := "roundWhole", inPlace := ["math/bits.Add64", "math/bits.Sub64"], unfollowed := true, recurses := true, named := ["math/bits.divideError", "math/bits.overflowError", "math/bits.deBruijn64tab", "reckoner/fin.more"], apart := false, laid := [("math/bits.deBruijn64tab", laid_math_bits_deBruijn64tab), ("reckoner/fin.more", laid_reckoner_fin_more)] }
def RoundWholeSaid : Prop := roundWholeRow.holds Tryd.pinned (OpenSpec.ofChange roundWholeSpec)

/-- ITS FALSE NEIGHBOUR: 'it returns false'. Refute it at one input. -/
def roundWholeWrong : ChangeSpec := { name := "roundWhole", fn := fun _ => fun
  | [d1, d2] => { results := [.lit (.bool false)], args := [d1, d2] }
  | _ => none }
def RoundWholeWrongFalsely : Prop := roundWholeRow.holds Tryd.pinned (OpenSpec.ofChange roundWholeWrong)

/-- 'reckonerlaw16.RoundExact': WHATEVER THE INPUT: true; the input reads as it did. -/
def roundExactSpec : ChangeSpec := { name := "roundExact", fn := fun _ => fun
  | [d1, d2] => { results := [.lit (.bool true)], args := [d1, d2] }
  | _ => none }
def roundExactRow : OpenClaim := { program := "ytpnljnmpocobjaadoor", sum := "aca7d0fe1d8590063f9d9e6eee607fc96b6bb6d1054026bf8aa40441f18ff55c", func := "reckoner/reckonerlaw16.RoundExact", spec := "roundExact", inPlace := ["math/bits.Add64", "math/bits.Sub64"], unfollowed := true, recurses := true, named := ["math/bits.divideError", "math/bits.overflowError", "math/bits.deBruijn64tab", "reckoner/fin.more"], apart := false, laid := [("math/bits.deBruijn64tab", laid_math_bits_deBruijn64tab), ("reckoner/fin.more", laid_reckoner_fin_more)] }
def RoundExactSaid : Prop := roundExactRow.holds Tryd.pinned (OpenSpec.ofChange roundExactSpec)

/-- ITS FALSE NEIGHBOUR: 'it returns false'. Refute it at one input. -/
def roundExactWrong : ChangeSpec := { name := "roundExact", fn := fun _ => fun
  | [d1, d2] => { results := [.lit (.bool false)], args := [d1, d2] }
  | _ => none }
def RoundExactWrongFalsely : Prop := roundExactRow.holds Tryd.pinned (OpenSpec.ofChange roundExactWrong)

/-- 'reckonerlaw16.RoundMirror': WHATEVER THE INPUT: true; the input reads as it did. -/
def roundMirrorSpec : ChangeSpec := { name := "roundMirror", fn := fun _ => fun
  | [d1, d2, d3] => { results := [.lit (.bool true)], args := [d1, d2, d3] }
  | _ => none }
def roundMirrorRow : OpenClaim := { program := "ytpnljnmpocobjaadoor", sum := "aca7d0fe1d8590063f9d9e6eee607fc96b6bb6d1054026bf8aa40441f18ff55c", func := "reckoner/reckonerlaw16.RoundMirror", spec := "roundMirror", inPlace := ["math/bits.Add64", "math/bits.Sub64"], unfollowed := true, recurses := true, named := ["math/bits.divideError", "math/bits.overflowError", "math/bits.deBruijn64tab", "reckoner/fin.more"], apart := false, laid := [("math/bits.deBruijn64tab", laid_math_bits_deBruijn64tab), ("reckoner/fin.more", laid_reckoner_fin_more)] }
def RoundMirrorSaid : Prop := roundMirrorRow.holds Tryd.pinned (OpenSpec.ofChange roundMirrorSpec)

/-- ITS FALSE NEIGHBOUR: 'it returns false'. Refute it at one input. -/
def roundMirrorWrong : ChangeSpec := { name := "roundMirror", fn := fun _ => fun
  | [d1, d2, d3] => { results := [.lit (.bool false)], args := [d1, d2, d3] }
  | _ => none }
def RoundMirrorWrongFalsely : Prop := roundMirrorRow.holds Tryd.pinned (OpenSpec.ofChange roundMirrorWrong)

/-- 'reckonerlaw16.RoundKeeps': WHATEVER THE INPUT: true; the input reads as it did. -/
def roundKeepsSpec : ChangeSpec := { name := "roundKeeps", fn := fun _ => fun
  | [d1, d2, d3] => { results := [.lit (.bool true)], args := [d1, d2, d3] }
  | _ => none }
def roundKeepsRow : OpenClaim := { program := "ytpnljnmpocobjaadoor", sum := "aca7d0fe1d8590063f9d9e6eee607fc96b6bb6d1054026bf8aa40441f18ff55c", func := "reckoner/reckonerlaw16.RoundKeeps", spec := "roundKeeps", inPlace := ["math/bits.Add64", "math/bits.Sub64"], unfollowed := true, recurses := true, named := ["math/bits.divideError", "math/bits.overflowError", "math/bits.deBruijn64tab", "reckoner/fin.more"], apart := false, laid := [("math/bits.deBruijn64tab", laid_math_bits_deBruijn64tab), ("reckoner/fin.more", laid_reckoner_fin_more)] }
def RoundKeepsSaid : Prop := roundKeepsRow.holds Tryd.pinned (OpenSpec.ofChange roundKeepsSpec)

/-- ITS FALSE NEIGHBOUR: 'it returns false'. Refute it at one input. -/
def roundKeepsWrong : ChangeSpec := { name := "roundKeeps", fn := fun _ => fun
  | [d1, d2, d3] => { results := [.lit (.bool false)], args := [d1, d2, d3] }
  | _ => none }
def RoundKeepsWrongFalsely : Prop := roundKeepsRow.holds Tryd.pinned (OpenSpec.ofChange roundKeepsWrong)

/-- 'reckonerlaw22.DecimalMoney': WHATEVER THE INPUT: true; the input reads as it did. -/
def decimalMoneySpec : ChangeSpec := { name := "decimalMoney", fn := fun _ => fun
  | [d1, d2] => { results := [.lit (.bool true)], args := [d1, d2] }
  | _ => none }
def decimalMoneyRow : OpenClaim := { program := "ytpnljnmpocobjaadoor", sum := "aca7d0fe1d8590063f9d9e6eee607fc96b6bb6d1054026bf8aa40441f18ff55c", func := "reckoner/reckonerlaw22.DecimalMoney", spec := "decimalMoney", inPlace := ["math/bits.Add64", "math/bits.Sub64"], unfollowed := true, recurses := true, named := ["math/bits.deBruijn64tab", "math/bits.divideError", "math/bits.overflowError", "reckoner/fin.more"], apart := false, laid := [("math/bits.deBruijn64tab", laid_math_bits_deBruijn64tab), ("reckoner/fin.more", laid_reckoner_fin_more)] }
def DecimalMoneySaid : Prop := decimalMoneyRow.holds Tryd.pinned (OpenSpec.ofChange decimalMoneySpec)

/-- ITS FALSE NEIGHBOUR: 'it returns false'. Refute it at one input. -/
def decimalMoneyWrong : ChangeSpec := { name := "decimalMoney", fn := fun _ => fun
  | [d1, d2] => { results := [.lit (.bool false)], args := [d1, d2] }
  | _ => none }
def DecimalMoneyWrongFalsely : Prop := decimalMoneyRow.holds Tryd.pinned (OpenSpec.ofChange decimalMoneyWrong)

/-- 'reckonerlaw22.DecimalChecks': WHATEVER THE INPUT: true; the input reads as it did. -/
def decimalChecksSpec : ChangeSpec := { name := "decimalChecks", fn := fun _ => fun
  | [d] => { results := [.lit (.bool true)], args := [d] }
  | _ => none }
def decimalChecksRow : OpenClaim := { program := "ytpnljnmpocobjaadoor", sum := "aca7d0fe1d8590063f9d9e6eee607fc96b6bb6d1054026bf8aa40441f18ff55c", func := "reckoner/reckonerlaw22.DecimalChecks", spec := "decimalChecks", inPlace := ["math/bits.Add64", "math/bits.Sub64"], unfollowed := true, recurses := true, named := ["math/bits.deBruijn64tab", "math/bits.divideError", "math/bits.overflowError", "reckoner/fin.more"], apart := false, laid := [("math/bits.deBruijn64tab", laid_math_bits_deBruijn64tab), ("reckoner/fin.more", laid_reckoner_fin_more)] }
def DecimalChecksSaid : Prop := decimalChecksRow.holds Tryd.pinned (OpenSpec.ofChange decimalChecksSpec)

/-- ITS FALSE NEIGHBOUR: 'it returns false'. Refute it at one input. -/
def decimalChecksWrong : ChangeSpec := { name := "decimalChecks", fn := fun _ => fun
  | [d] => { results := [.lit (.bool false)], args := [d] }
  | _ => none }
def DecimalChecksWrongFalsely : Prop := decimalChecksRow.holds Tryd.pinned (OpenSpec.ofChange decimalChecksWrong)

/-- 'reckonerlaw22.DecimalHolds': WHATEVER THE INPUT: true; the input reads as it did. -/
def decimalHoldsSpec : ChangeSpec := { name := "decimalHolds", fn := fun _ => fun
  | [d1, d2, d3] => { results := [.lit (.bool true)], args := [d1, d2, d3] }
  | _ => none }
def decimalHoldsRow : OpenClaim := { program := "ytpnljnmpocobjaadoor", sum := "aca7d0fe1d8590063f9d9e6eee607fc96b6bb6d1054026bf8aa40441f18ff55c", func := "reckoner/reckonerlaw22.DecimalHolds", spec := "decimalHolds", inPlace := ["math/bits.Add64", "math/bits.Sub64"], unfollowed := true, recurses := true, named := ["math/bits.deBruijn64tab", "math/bits.divideError", "math/bits.overflowError", "reckoner/fin.more"], apart := false, laid := [("math/bits.deBruijn64tab", laid_math_bits_deBruijn64tab), ("reckoner/fin.more", laid_reckoner_fin_more)] }
def DecimalHoldsSaid : Prop := decimalHoldsRow.holds Tryd.pinned (OpenSpec.ofChange decimalHoldsSpec)

/-- ITS FALSE NEIGHBOUR: 'it returns false'. Refute it at one input. -/
def decimalHoldsWrong : ChangeSpec := { name := "decimalHolds", fn := fun _ => fun
  | [d1, d2, d3] => { results := [.lit (.bool false)], args := [d1, d2, d3] }
  | _ => none }
def DecimalHoldsWrongFalsely : Prop := decimalHoldsRow.holds Tryd.pinned (OpenSpec.ofChange decimalHoldsWrong)

/-- 'reckonerlaw22.DecimalReduces': WHATEVER THE INPUT: true; the input reads as it did. -/
def decimalReducesSpec : ChangeSpec := { name := "decimalReduces", fn := fun _ => fun
  | [d1, d2] => { results := [.lit (.bool true)], args := [d1, d2] }
  | _ => none }
def decimalReducesRow : OpenClaim := { program := "ytpnljnmpocobjaadoor", sum := "aca7d0fe1d8590063f9d9e6eee607fc96b6bb6d1054026bf8aa40441f18ff55c", func := "reckoner/reckonerlaw22.DecimalReduces", spec := "decimalReduces", inPlace := ["math/bits.Add64", "math/bits.Sub64"], unfollowed := true, recurses := true, named := ["math/bits.deBruijn64tab", "math/bits.divideError", "math/bits.overflowError", "reckoner/fin.more"], apart := false, laid := [("math/bits.deBruijn64tab", laid_math_bits_deBruijn64tab), ("reckoner/fin.more", laid_reckoner_fin_more)] }
def DecimalReducesSaid : Prop := decimalReducesRow.holds Tryd.pinned (OpenSpec.ofChange decimalReducesSpec)

/-- ITS FALSE NEIGHBOUR: 'it returns false'. Refute it at one input. -/
def decimalReducesWrong : ChangeSpec := { name := "decimalReduces", fn := fun _ => fun
  | [d1, d2] => { results := [.lit (.bool false)], args := [d1, d2] }
  | _ => none }
def DecimalReducesWrongFalsely : Prop := decimalReducesRow.holds Tryd.pinned (OpenSpec.ofChange decimalReducesWrong)

/-- 'reckonerlaw22.DecimalOrder': WHATEVER THE INPUT: true; the input reads as it did. -/
def decimalOrderSpec : ChangeSpec := { name := "decimalOrder", fn := fun _ => fun
  | [d1, d2, d3] => { results := [.lit (.bool true)], args := [d1, d2, d3] }
  | _ => none }
def decimalOrderRow : OpenClaim := { program := "ytpnljnmpocobjaadoor", sum := "aca7d0fe1d8590063f9d9e6eee607fc96b6bb6d1054026bf8aa40441f18ff55c", func := "reckoner/reckonerlaw22.DecimalOrder", spec := "decimalOrder", inPlace := ["math/bits.Add64", "math/bits.Sub64"], unfollowed := true, recurses := true, named := ["math/bits.deBruijn64tab", "math/bits.divideError", "math/bits.overflowError", "reckoner/fin.more"], apart := false, laid := [("math/bits.deBruijn64tab", laid_math_bits_deBruijn64tab), ("reckoner/fin.more", laid_reckoner_fin_more)] }
def DecimalOrderSaid : Prop := decimalOrderRow.holds Tryd.pinned (OpenSpec.ofChange decimalOrderSpec)

/-- ITS FALSE NEIGHBOUR: 'it returns false'. Refute it at one input. -/
def decimalOrderWrong : ChangeSpec := { name := "decimalOrder", fn := fun _ => fun
  | [d1, d2, d3] => { results := [.lit (.bool false)], args := [d1, d2, d3] }
  | _ => none }
def DecimalOrderWrongFalsely : Prop := decimalOrderRow.holds Tryd.pinned (OpenSpec.ofChange decimalOrderWrong)

/-- 'reckonerlaw22.DecimalCompares': WHATEVER THE INPUT: true; the input reads as it did. -/
def decimalComparesSpec : ChangeSpec := { name := "decimalCompares", fn := fun _ => fun
  | [d1, d2] => { results := [.lit (.bool true)], args := [d1, d2] }
  | _ => none }
def decimalComparesRow : OpenClaim := { program := "ytpnljnmpocobjaadoor", sum := "aca7d0fe1d8590063f9d9e6eee607fc96b6bb6d1054026bf8aa40441f18ff55c", func := "reckoner/reckonerlaw22.DecimalCompares", spec := "decimalCompares", inPlace := ["math/bits.Add64", "math/bits.Sub64"], unfollowed := true, recurses := true, named := ["math/bits.deBruijn64tab", "math/bits.divideError", "math/bits.overflowError", "reckoner/fin.more"], apart := false, laid := [("math/bits.deBruijn64tab", laid_math_bits_deBruijn64tab), ("reckoner/fin.more", laid_reckoner_fin_more)] }
def DecimalComparesSaid : Prop := decimalComparesRow.holds Tryd.pinned (OpenSpec.ofChange decimalComparesSpec)

/-- ITS FALSE NEIGHBOUR: 'it returns false'. Refute it at one input. -/
def decimalComparesWrong : ChangeSpec := { name := "decimalCompares", fn := fun _ => fun
  | [d1, d2] => { results := [.lit (.bool false)], args := [d1, d2] }
  | _ => none }
def DecimalComparesWrongFalsely : Prop := decimalComparesRow.holds Tryd.pinned (OpenSpec.ofChange decimalComparesWrong)

/-- 'reckonerlaw22.DecimalKeeps': WHATEVER THE INPUT: true; the input reads as it did. -/
def decimalKeepsSpec : ChangeSpec := { name := "decimalKeeps", fn := fun _ => fun
  | [d1, d2] => { results := [.lit (.bool true)], args := [d1, d2] }
  | _ => none }
def decimalKeepsRow : OpenClaim := { program := "ytpnljnmpocobjaadoor", sum := "aca7d0fe1d8590063f9d9e6eee607fc96b6bb6d1054026bf8aa40441f18ff55c", func := "reckoner/reckonerlaw22.DecimalKeeps", spec := "decimalKeeps", inPlace := ["math/bits.Add64", "math/bits.Sub64"], unfollowed := true, recurses := true, named := ["math/bits.deBruijn64tab", "math/bits.divideError", "math/bits.overflowError", "reckoner/fin.more"], apart := false, laid := [("math/bits.deBruijn64tab", laid_math_bits_deBruijn64tab), ("reckoner/fin.more", laid_reckoner_fin_more)] }
def DecimalKeepsSaid : Prop := decimalKeepsRow.holds Tryd.pinned (OpenSpec.ofChange decimalKeepsSpec)

/-- ITS FALSE NEIGHBOUR: 'it returns false'. Refute it at one input. -/
def decimalKeepsWrong : ChangeSpec := { name := "decimalKeeps", fn := fun _ => fun
  | [d1, d2] => { results := [.lit (.bool false)], args := [d1, d2] }
  | _ => none }
def DecimalKeepsWrongFalsely : Prop := decimalKeepsRow.holds Tryd.pinned (OpenSpec.ofChange decimalKeepsWrong)

/- THE SECOND FORM. 'bulk': how many values and letters a reading holds, each counted each time it is reached (what is shared counts as often as it is met; a slice's spare places count too). A statement '..UptoSaid' is the law's where the arguments, and the package variables that the reading takes, are together of bulk at most 1048576: NARROWER than '..Said'. Prove '..Said' where nothing that the law and all that it calls make is longer than what came in: it says more and counts as full. Else prove '..UptoSaid'. A law counts once. -/
mutual
def uptoBulk {H : Type} : DataW H → Nat
  | .lit (.string bytes) => bytes.length + 1
  | .lit _ => 1
  | .nil => 1
  | .ptr d => uptoBulk d + 1
  | .slice elems spare => uptoBulkAll elems + uptoBulkAll spare + 1
  | .agg parts => uptoBulkAll parts + 1
  | .iface _ d => uptoBulk d + 1
  | .map entries => uptoBulkEntries entries + 1
  | .held _ => 1
def uptoBulkAll {H : Type} : List (DataW H) → Nat
  | [] => 0
  | d :: r => uptoBulk d + uptoBulkAll r
def uptoBulkEntries {H : Type} : List (Lit × DataW H) → Nat
  | [] => 0
  | x :: r => uptoBulkEntry x + uptoBulkEntries r
def uptoBulkEntry {H : Type} : Lit × DataW H → Nat
  | (.string bytes, d) => bytes.length + uptoBulk d + 1
  | (_, d) => uptoBulk d + 1
 end
def uptoSmall : (H : Type) → List (DataW H) → Bool := fun _ ds => decide (uptoBulkAll ds ≤ 1048576)
def OpenSpec.upto (s : _root_.Go.ChangeSpec) : _root_.Go.OpenSpec := { _root_.Go.OpenSpec.ofChange s with cond := some uptoSmall }

/-- 'reckonerlaw16.RoundWhole', WHERE WHAT IT READS IS OF BULK AT MOST 1048576: true; the input reads as it did. -/
def roundWholeUptoRow : OpenClaim := { program := "ytpnljnmpocobjaadoor", sum := "aca7d0fe1d8590063f9d9e6eee607fc96b6bb6d1054026bf8aa40441f18ff55c", func := "reckoner/reckonerlaw16.RoundWhole", spec := "roundWhole", inPlace := ["math/bits.Add64", "math/bits.Sub64"], unfollowed := true, recurses := true, named := ["math/bits.divideError", "math/bits.overflowError", "math/bits.deBruijn64tab", "reckoner/fin.more"], apart := false, laid := [("math/bits.deBruijn64tab", laid_math_bits_deBruijn64tab), ("reckoner/fin.more", laid_reckoner_fin_more)], narrowed := true }
def RoundWholeUptoSaid : Prop := roundWholeUptoRow.holds Tryd.pinned (OpenSpec.upto roundWholeSpec)

/-- 'reckonerlaw16.RoundExact', WHERE WHAT IT READS IS OF BULK AT MOST 1048576: true; the input reads as it did. -/
def roundExactUptoRow : OpenClaim := { program := "ytpnljnmpocobjaadoor", sum := "aca7d0fe1d8590063f9d9e6eee607fc96b6bb6d1054026bf8aa40441f18ff55c", func := "reckoner/reckonerlaw16.RoundExact", spec := "roundExact", inPlace := ["math/bits.Add64", "math/bits.Sub64"], unfollowed := true, recurses := true, named := ["math/bits.divideError", "math/bits.overflowError", "math/bits.deBruijn64tab", "reckoner/fin.more"], apart := false, laid := [("math/bits.deBruijn64tab", laid_math_bits_deBruijn64tab), ("reckoner/fin.more", laid_reckoner_fin_more)], narrowed := true }
def RoundExactUptoSaid : Prop := roundExactUptoRow.holds Tryd.pinned (OpenSpec.upto roundExactSpec)

/-- 'reckonerlaw16.RoundMirror', WHERE WHAT IT READS IS OF BULK AT MOST 1048576: true; the input reads as it did. -/
def roundMirrorUptoRow : OpenClaim := { program := "ytpnljnmpocobjaadoor", sum := "aca7d0fe1d8590063f9d9e6eee607fc96b6bb6d1054026bf8aa40441f18ff55c", func := "reckoner/reckonerlaw16.RoundMirror", spec := "roundMirror", inPlace := ["math/bits.Add64", "math/bits.Sub64"], unfollowed := true, recurses := true, named := ["math/bits.divideError", "math/bits.overflowError", "math/bits.deBruijn64tab", "reckoner/fin.more"], apart := false, laid := [("math/bits.deBruijn64tab", laid_math_bits_deBruijn64tab), ("reckoner/fin.more", laid_reckoner_fin_more)], narrowed := true }
def RoundMirrorUptoSaid : Prop := roundMirrorUptoRow.holds Tryd.pinned (OpenSpec.upto roundMirrorSpec)

/-- 'reckonerlaw16.RoundKeeps', WHERE WHAT IT READS IS OF BULK AT MOST 1048576: true; the input reads as it did. -/
def roundKeepsUptoRow : OpenClaim := { program := "ytpnljnmpocobjaadoor", sum := "aca7d0fe1d8590063f9d9e6eee607fc96b6bb6d1054026bf8aa40441f18ff55c", func := "reckoner/reckonerlaw16.RoundKeeps", spec := "roundKeeps", inPlace := ["math/bits.Add64", "math/bits.Sub64"], unfollowed := true, recurses := true, named := ["math/bits.divideError", "math/bits.overflowError", "math/bits.deBruijn64tab", "reckoner/fin.more"], apart := false, laid := [("math/bits.deBruijn64tab", laid_math_bits_deBruijn64tab), ("reckoner/fin.more", laid_reckoner_fin_more)], narrowed := true }
def RoundKeepsUptoSaid : Prop := roundKeepsUptoRow.holds Tryd.pinned (OpenSpec.upto roundKeepsSpec)

/-- 'reckonerlaw22.DecimalMoney', WHERE WHAT IT READS IS OF BULK AT MOST 1048576: true; the input reads as it did. -/
def decimalMoneyUptoRow : OpenClaim := { program := "ytpnljnmpocobjaadoor", sum := "aca7d0fe1d8590063f9d9e6eee607fc96b6bb6d1054026bf8aa40441f18ff55c", func := "reckoner/reckonerlaw22.DecimalMoney", spec := "decimalMoney", inPlace := ["math/bits.Add64", "math/bits.Sub64"], unfollowed := true, recurses := true, named := ["math/bits.deBruijn64tab", "math/bits.divideError", "math/bits.overflowError", "reckoner/fin.more"], apart := false, laid := [("math/bits.deBruijn64tab", laid_math_bits_deBruijn64tab), ("reckoner/fin.more", laid_reckoner_fin_more)], narrowed := true }
def DecimalMoneyUptoSaid : Prop := decimalMoneyUptoRow.holds Tryd.pinned (OpenSpec.upto decimalMoneySpec)

/-- 'reckonerlaw22.DecimalChecks', WHERE WHAT IT READS IS OF BULK AT MOST 1048576: true; the input reads as it did. -/
def decimalChecksUptoRow : OpenClaim := { program := "ytpnljnmpocobjaadoor", sum := "aca7d0fe1d8590063f9d9e6eee607fc96b6bb6d1054026bf8aa40441f18ff55c", func := "reckoner/reckonerlaw22.DecimalChecks", spec := "decimalChecks", inPlace := ["math/bits.Add64", "math/bits.Sub64"], unfollowed := true, recurses := true, named := ["math/bits.deBruijn64tab", "math/bits.divideError", "math/bits.overflowError", "reckoner/fin.more"], apart := false, laid := [("math/bits.deBruijn64tab", laid_math_bits_deBruijn64tab), ("reckoner/fin.more", laid_reckoner_fin_more)], narrowed := true }
def DecimalChecksUptoSaid : Prop := decimalChecksUptoRow.holds Tryd.pinned (OpenSpec.upto decimalChecksSpec)

/-- 'reckonerlaw22.DecimalHolds', WHERE WHAT IT READS IS OF BULK AT MOST 1048576: true; the input reads as it did. -/
def decimalHoldsUptoRow : OpenClaim := { program := "ytpnljnmpocobjaadoor", sum := "aca7d0fe1d8590063f9d9e6eee607fc96b6bb6d1054026bf8aa40441f18ff55c", func := "reckoner/reckonerlaw22.DecimalHolds", spec := "decimalHolds", inPlace := ["math/bits.Add64", "math/bits.Sub64"], unfollowed := true, recurses := true, named := ["math/bits.deBruijn64tab", "math/bits.divideError", "math/bits.overflowError", "reckoner/fin.more"], apart := false, laid := [("math/bits.deBruijn64tab", laid_math_bits_deBruijn64tab), ("reckoner/fin.more", laid_reckoner_fin_more)], narrowed := true }
def DecimalHoldsUptoSaid : Prop := decimalHoldsUptoRow.holds Tryd.pinned (OpenSpec.upto decimalHoldsSpec)

/-- 'reckonerlaw22.DecimalReduces', WHERE WHAT IT READS IS OF BULK AT MOST 1048576: true; the input reads as it did. -/
def decimalReducesUptoRow : OpenClaim := { program := "ytpnljnmpocobjaadoor", sum := "aca7d0fe1d8590063f9d9e6eee607fc96b6bb6d1054026bf8aa40441f18ff55c", func := "reckoner/reckonerlaw22.DecimalReduces", spec := "decimalReduces", inPlace := ["math/bits.Add64", "math/bits.Sub64"], unfollowed := true, recurses := true, named := ["math/bits.deBruijn64tab", "math/bits.divideError", "math/bits.overflowError", "reckoner/fin.more"], apart := false, laid := [("math/bits.deBruijn64tab", laid_math_bits_deBruijn64tab), ("reckoner/fin.more", laid_reckoner_fin_more)], narrowed := true }
def DecimalReducesUptoSaid : Prop := decimalReducesUptoRow.holds Tryd.pinned (OpenSpec.upto decimalReducesSpec)

/-- 'reckonerlaw22.DecimalOrder', WHERE WHAT IT READS IS OF BULK AT MOST 1048576: true; the input reads as it did. -/
def decimalOrderUptoRow : OpenClaim := { program := "ytpnljnmpocobjaadoor", sum := "aca7d0fe1d8590063f9d9e6eee607fc96b6bb6d1054026bf8aa40441f18ff55c", func := "reckoner/reckonerlaw22.DecimalOrder", spec := "decimalOrder", inPlace := ["math/bits.Add64", "math/bits.Sub64"], unfollowed := true, recurses := true, named := ["math/bits.deBruijn64tab", "math/bits.divideError", "math/bits.overflowError", "reckoner/fin.more"], apart := false, laid := [("math/bits.deBruijn64tab", laid_math_bits_deBruijn64tab), ("reckoner/fin.more", laid_reckoner_fin_more)], narrowed := true }
def DecimalOrderUptoSaid : Prop := decimalOrderUptoRow.holds Tryd.pinned (OpenSpec.upto decimalOrderSpec)

/-- 'reckonerlaw22.DecimalCompares', WHERE WHAT IT READS IS OF BULK AT MOST 1048576: true; the input reads as it did. -/
def decimalComparesUptoRow : OpenClaim := { program := "ytpnljnmpocobjaadoor", sum := "aca7d0fe1d8590063f9d9e6eee607fc96b6bb6d1054026bf8aa40441f18ff55c", func := "reckoner/reckonerlaw22.DecimalCompares", spec := "decimalCompares", inPlace := ["math/bits.Add64", "math/bits.Sub64"], unfollowed := true, recurses := true, named := ["math/bits.deBruijn64tab", "math/bits.divideError", "math/bits.overflowError", "reckoner/fin.more"], apart := false, laid := [("math/bits.deBruijn64tab", laid_math_bits_deBruijn64tab), ("reckoner/fin.more", laid_reckoner_fin_more)], narrowed := true }
def DecimalComparesUptoSaid : Prop := decimalComparesUptoRow.holds Tryd.pinned (OpenSpec.upto decimalComparesSpec)

/-- 'reckonerlaw22.DecimalKeeps', WHERE WHAT IT READS IS OF BULK AT MOST 1048576: true; the input reads as it did. -/
def decimalKeepsUptoRow : OpenClaim := { program := "ytpnljnmpocobjaadoor", sum := "aca7d0fe1d8590063f9d9e6eee607fc96b6bb6d1054026bf8aa40441f18ff55c", func := "reckoner/reckonerlaw22.DecimalKeeps", spec := "decimalKeeps", inPlace := ["math/bits.Add64", "math/bits.Sub64"], unfollowed := true, recurses := true, named := ["math/bits.deBruijn64tab", "math/bits.divideError", "math/bits.overflowError", "reckoner/fin.more"], apart := false, laid := [("math/bits.deBruijn64tab", laid_math_bits_deBruijn64tab), ("reckoner/fin.more", laid_reckoner_fin_more)], narrowed := true }
def DecimalKeepsUptoSaid : Prop := decimalKeepsUptoRow.holds Tryd.pinned (OpenSpec.upto decimalKeepsSpec)

end Rows
end Go.Proofs.YtpnljnmpocobjaaDoor
