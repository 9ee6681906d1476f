/-
  The card of CB_DecimalMuls is proved: for every input the law answers true and its arguments read as before; no condition beyond the row.
-/
import Derived.Test.YtpnljnmpocobjaaGreatDoorX11
set_option linter.unusedVariables false
set_option linter.unusedSimpArgs false
set_option maxRecDepth 100000
namespace Go.Proofs.YtpnljnmpocobjaaGreatDoor.Card
open Go Go.ChangeShapes Go.WideShapes Go.ChangeAt Go.RowKit Go.Ax Go.Proofs
theorem decimalMuls_andT {a b : Bool} (ha : a = true) (hb : b = true) : (a && b) = true := by rw [ha, hb]; rfl
theorem decimalMuls_f1 : (Rows.decimalMulsRow.inPlace == Tryz.pinned.checked.prog.inPlace 12) = true := by kernel_rfl
theorem decimalMuls_f2 : (Rows.decimalMulsRow.unfollowed == Tryz.pinned.checked.prog.unfollowed 12) = true := by kernel_rfl
theorem decimalMuls_f3 : (Rows.decimalMulsRow.recurses == Tryz.pinned.checked.prog.recurses 12) = true := by kernel_rfl
theorem decimalMuls_f4 : (Rows.decimalMulsRow.named == Tryz.pinned.checked.prog.varsNamed 12) = true := by kernel_rfl
theorem decimalMuls_f5 : (Rows.decimalMulsRow.plainKeys == Tryz.pinned.checked.prog.plainKeys) = true := by kernel_rfl
theorem decimalMuls_f6 : (Rows.decimalMulsRow.lifted == Tryz.pinned.checked.prog.liftsFinal) = true := by kernel_rfl
theorem decimalMuls_f7 : Tryz.pinned.checked.prog.stopsHeard = true := by kernel_rfl
theorem decimalMuls_f8 : Tryz.pinned.checked.prog.mayEnter = true := by kernel_rfl
theorem decimalMuls_f9 : laidOutB Tryz.pinned.checked.prog = true := by kernel_rfl
theorem decimalMuls_facts : joinedFacts Tryz.pinned.checked.prog 12 Tryz.f12 Rows.decimalMulsSpec Rows.decimalMulsRow = true := by
  unfold joinedFacts
  exact decimalMuls_andT (decimalMuls_andT (decimalMuls_andT (decimalMuls_andT (decimalMuls_andT (decimalMuls_andT (decimalMuls_andT (decimalMuls_andT (decimalMuls_andT (decimalMuls_andT (decimalMuls_andT (decimalMuls_andT (decimalMuls_andT (decimalMuls_andT (decimalMuls_andT (decimalMuls_andT (decimalMuls_andT (decimalMuls_andT (decimalMuls_andT (decimalMuls_andT (decimalMuls_andT (decimalMuls_andT (decimalMuls_andT (decimalMuls_andT (decimalMuls_andT (decimalMuls_andT (decimalMuls_andT (decimalMuls_andT (decimalMuls_andT (decimalMuls_andT (decimalMuls_andT (by kernel_rfl) decimalMuls_f9) (by kernel_rfl)) (by kernel_rfl)) (by kernel_rfl)) (by kernel_rfl)) (by kernel_rfl)) (by kernel_rfl)) (by kernel_rfl)) decimalMuls_f1) decimalMuls_f2) decimalMuls_f3) decimalMuls_f4) (by kernel_rfl)) (by kernel_rfl)) (by kernel_rfl)) (by kernel_rfl)) (by kernel_rfl)) (by kernel_rfl)) (by kernel_rfl)) (by kernel_rfl)) (by kernel_rfl)) decimalMuls_f5) (by kernel_rfl)) decimalMuls_f7) decimalMuls_f8) decimalMuls_f6) (by kernel_rfl)) (by kernel_rfl)) (by kernel_rfl)) (by kernel_rfl)) (by kernel_rfl)
end Go.Proofs.YtpnljnmpocobjaaGreatDoor.Card
