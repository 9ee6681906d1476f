/-
  The card of CB_DecimalValue is proved: for every input the law answers true and its arguments read as before; no condition beyond the row.
-/
import Derived.Test.YtpnljnmpocobjaaGreatDoorX11
set_option linter.unusedVariables false
set_option linter.unusedSimpArgs false
set_option maxRecDepth 100000
namespace Go.Proofs.YtpnljnmpocobjaaGreatDoor.Card
open Go Go.ChangeShapes Go.WideShapes Go.ChangeAt Go.RowKit Go.Ax Go.Proofs
theorem decimalValue_andT {a b : Bool} (ha : a = true) (hb : b = true) : (a && b) = true := by rw [ha, hb]; rfl
theorem decimalValue_f1 : (Rows.decimalValueRow.inPlace == Tryz.pinned.checked.prog.inPlace 15) = true := by kernel_rfl
theorem decimalValue_f2 : (Rows.decimalValueRow.unfollowed == Tryz.pinned.checked.prog.unfollowed 15) = true := by kernel_rfl
theorem decimalValue_f3 : (Rows.decimalValueRow.recurses == Tryz.pinned.checked.prog.recurses 15) = true := by kernel_rfl
theorem decimalValue_f4 : (Rows.decimalValueRow.named == Tryz.pinned.checked.prog.varsNamed 15) = true := by kernel_rfl
theorem decimalValue_f5 : (Rows.decimalValueRow.plainKeys == Tryz.pinned.checked.prog.plainKeys) = true := by kernel_rfl
theorem decimalValue_f6 : (Rows.decimalValueRow.lifted == Tryz.pinned.checked.prog.liftsFinal) = true := by kernel_rfl
theorem decimalValue_f7 : Tryz.pinned.checked.prog.stopsHeard = true := by kernel_rfl
theorem decimalValue_f8 : Tryz.pinned.checked.prog.mayEnter = true := by kernel_rfl
theorem decimalValue_f9 : laidOutB Tryz.pinned.checked.prog = true := by kernel_rfl
theorem decimalValue_facts : joinedFacts Tryz.pinned.checked.prog 15 Tryz.f15 Rows.decimalValueSpec Rows.decimalValueRow = true := by
  unfold joinedFacts
  exact decimalValue_andT (decimalValue_andT (decimalValue_andT (decimalValue_andT (decimalValue_andT (decimalValue_andT (decimalValue_andT (decimalValue_andT (decimalValue_andT (decimalValue_andT (decimalValue_andT (decimalValue_andT (decimalValue_andT (decimalValue_andT (decimalValue_andT (decimalValue_andT (decimalValue_andT (decimalValue_andT (decimalValue_andT (decimalValue_andT (decimalValue_andT (decimalValue_andT (decimalValue_andT (decimalValue_andT (decimalValue_andT (decimalValue_andT (decimalValue_andT (decimalValue_andT (decimalValue_andT (decimalValue_andT (decimalValue_andT (by kernel_rfl) decimalValue_f9) (by kernel_rfl)) (by kernel_rfl)) (by kernel_rfl)) (by kernel_rfl)) (by kernel_rfl)) (by kernel_rfl)) (by kernel_rfl)) decimalValue_f1) decimalValue_f2) decimalValue_f3) decimalValue_f4) (by kernel_rfl)) (by kernel_rfl)) (by kernel_rfl)) (by kernel_rfl)) (by kernel_rfl)) (by kernel_rfl)) (by kernel_rfl)) (by kernel_rfl)) (by kernel_rfl)) decimalValue_f5) (by kernel_rfl)) decimalValue_f7) decimalValue_f8) decimalValue_f6) (by kernel_rfl)) (by kernel_rfl)) (by kernel_rfl)) (by kernel_rfl)) (by kernel_rfl)
end Go.Proofs.YtpnljnmpocobjaaGreatDoor.Card
