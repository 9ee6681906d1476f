/-
  The card of CB_DecimalPlus is proved: for every input the law answers true and its arguments read as before; no condition beyond the row.
-/
import Derived.Test.YtpnljnmpocobjaaGreatDoorX11
set_option linter.unusedVariables false
set_option linter.unusedSimpArgs false
set_option maxRecDepth 100000
namespace Go.Proofs.YtpnljnmpocobjaaGreatDoor.Card
open Go Go.ChangeShapes Go.WideShapes Go.ChangeAt Go.RowKit Go.Ax Go.Proofs
theorem decimalPlus_andT {a b : Bool} (ha : a = true) (hb : b = true) : (a && b) = true := by rw [ha, hb]; rfl
theorem decimalPlus_f1 : (Rows.decimalPlusRow.inPlace == Tryz.pinned.checked.prog.inPlace 11) = true := by kernel_rfl
theorem decimalPlus_f2 : (Rows.decimalPlusRow.unfollowed == Tryz.pinned.checked.prog.unfollowed 11) = true := by kernel_rfl
theorem decimalPlus_f3 : (Rows.decimalPlusRow.recurses == Tryz.pinned.checked.prog.recurses 11) = true := by kernel_rfl
theorem decimalPlus_f4 : (Rows.decimalPlusRow.named == Tryz.pinned.checked.prog.varsNamed 11) = true := by kernel_rfl
theorem decimalPlus_f5 : (Rows.decimalPlusRow.plainKeys == Tryz.pinned.checked.prog.plainKeys) = true := by kernel_rfl
theorem decimalPlus_f6 : (Rows.decimalPlusRow.lifted == Tryz.pinned.checked.prog.liftsFinal) = true := by kernel_rfl
theorem decimalPlus_f7 : Tryz.pinned.checked.prog.stopsHeard = true := by kernel_rfl
theorem decimalPlus_f8 : Tryz.pinned.checked.prog.mayEnter = true := by kernel_rfl
theorem decimalPlus_f9 : laidOutB Tryz.pinned.checked.prog = true := by kernel_rfl
theorem decimalPlus_facts : joinedFacts Tryz.pinned.checked.prog 11 Tryz.f11 Rows.decimalPlusSpec Rows.decimalPlusRow = true := by
  unfold joinedFacts
  exact decimalPlus_andT (decimalPlus_andT (decimalPlus_andT (decimalPlus_andT (decimalPlus_andT (decimalPlus_andT (decimalPlus_andT (decimalPlus_andT (decimalPlus_andT (decimalPlus_andT (decimalPlus_andT (decimalPlus_andT (decimalPlus_andT (decimalPlus_andT (decimalPlus_andT (decimalPlus_andT (decimalPlus_andT (decimalPlus_andT (decimalPlus_andT (decimalPlus_andT (decimalPlus_andT (decimalPlus_andT (decimalPlus_andT (decimalPlus_andT (decimalPlus_andT (decimalPlus_andT (decimalPlus_andT (decimalPlus_andT (decimalPlus_andT (decimalPlus_andT (decimalPlus_andT (by kernel_rfl) decimalPlus_f9) (by kernel_rfl)) (by kernel_rfl)) (by kernel_rfl)) (by kernel_rfl)) (by kernel_rfl)) (by kernel_rfl)) (by kernel_rfl)) decimalPlus_f1) decimalPlus_f2) decimalPlus_f3) decimalPlus_f4) (by kernel_rfl)) (by kernel_rfl)) (by kernel_rfl)) (by kernel_rfl)) (by kernel_rfl)) (by kernel_rfl)) (by kernel_rfl)) (by kernel_rfl)) (by kernel_rfl)) decimalPlus_f5) (by kernel_rfl)) decimalPlus_f7) decimalPlus_f8) decimalPlus_f6) (by kernel_rfl)) (by kernel_rfl)) (by kernel_rfl)) (by kernel_rfl)) (by kernel_rfl)
end Go.Proofs.YtpnljnmpocobjaaGreatDoor.Card
