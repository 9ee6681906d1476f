/-
  The card of CB_DecimalQuantizes is proved: for every input the law answers true and its arguments read as before; no condition beyond the row.
-/
import Derived.Test.YtpnljnmpocobjaaGreatDoorX11
set_option linter.unusedVariables false
set_option linter.unusedSimpArgs false
set_option maxRecDepth 100000
namespace Go.Proofs.YtpnljnmpocobjaaGreatDoor.Card
open Go Go.ChangeShapes Go.WideShapes Go.ChangeAt Go.RowKit Go.Ax Go.Proofs
theorem decimalQuantizes_andT {a b : Bool} (ha : a = true) (hb : b = true) : (a && b) = true := by rw [ha, hb]; rfl
theorem decimalQuantizes_f1 : (Rows.decimalQuantizesRow.inPlace == Tryz.pinned.checked.prog.inPlace 9) = true := by kernel_rfl
theorem decimalQuantizes_f2 : (Rows.decimalQuantizesRow.unfollowed == Tryz.pinned.checked.prog.unfollowed 9) = true := by kernel_rfl
theorem decimalQuantizes_f3 : (Rows.decimalQuantizesRow.recurses == Tryz.pinned.checked.prog.recurses 9) = true := by kernel_rfl
theorem decimalQuantizes_f4 : (Rows.decimalQuantizesRow.named == Tryz.pinned.checked.prog.varsNamed 9) = true := by kernel_rfl
theorem decimalQuantizes_f5 : (Rows.decimalQuantizesRow.plainKeys == Tryz.pinned.checked.prog.plainKeys) = true := by kernel_rfl
theorem decimalQuantizes_f6 : (Rows.decimalQuantizesRow.lifted == Tryz.pinned.checked.prog.liftsFinal) = true := by kernel_rfl
theorem decimalQuantizes_f7 : Tryz.pinned.checked.prog.stopsHeard = true := by kernel_rfl
theorem decimalQuantizes_f8 : Tryz.pinned.checked.prog.mayEnter = true := by kernel_rfl
theorem decimalQuantizes_f9 : laidOutB Tryz.pinned.checked.prog = true := by kernel_rfl
theorem decimalQuantizes_facts : joinedFacts Tryz.pinned.checked.prog 9 Tryz.f9 Rows.decimalQuantizesSpec Rows.decimalQuantizesRow = true := by
  unfold joinedFacts
  exact decimalQuantizes_andT (decimalQuantizes_andT (decimalQuantizes_andT (decimalQuantizes_andT (decimalQuantizes_andT (decimalQuantizes_andT (decimalQuantizes_andT (decimalQuantizes_andT (decimalQuantizes_andT (decimalQuantizes_andT (decimalQuantizes_andT (decimalQuantizes_andT (decimalQuantizes_andT (decimalQuantizes_andT (decimalQuantizes_andT (decimalQuantizes_andT (decimalQuantizes_andT (decimalQuantizes_andT (decimalQuantizes_andT (decimalQuantizes_andT (decimalQuantizes_andT (decimalQuantizes_andT (decimalQuantizes_andT (decimalQuantizes_andT (decimalQuantizes_andT (decimalQuantizes_andT (decimalQuantizes_andT (decimalQuantizes_andT (decimalQuantizes_andT (decimalQuantizes_andT (decimalQuantizes_andT (by kernel_rfl) decimalQuantizes_f9) (by kernel_rfl)) (by kernel_rfl)) (by kernel_rfl)) (by kernel_rfl)) (by kernel_rfl)) (by kernel_rfl)) (by kernel_rfl)) decimalQuantizes_f1) decimalQuantizes_f2) decimalQuantizes_f3) decimalQuantizes_f4) (by kernel_rfl)) (by kernel_rfl)) (by kernel_rfl)) (by kernel_rfl)) (by kernel_rfl)) (by kernel_rfl)) (by kernel_rfl)) (by kernel_rfl)) (by kernel_rfl)) decimalQuantizes_f5) (by kernel_rfl)) decimalQuantizes_f7) decimalQuantizes_f8) decimalQuantizes_f6) (by kernel_rfl)) (by kernel_rfl)) (by kernel_rfl)) (by kernel_rfl)) (by kernel_rfl)
end Go.Proofs.YtpnljnmpocobjaaGreatDoor.Card
