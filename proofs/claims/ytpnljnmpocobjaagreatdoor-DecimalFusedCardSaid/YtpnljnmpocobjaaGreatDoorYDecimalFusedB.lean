/-
  The card of CB_DecimalFused is proved: for every input the law answers true and its arguments read as before; no condition beyond the row.
-/
import Derived.Test.YtpnljnmpocobjaaGreatDoorX11
set_option linter.unusedVariables false
set_option linter.unusedSimpArgs false
set_option maxRecDepth 100000
namespace Go.Proofs.YtpnljnmpocobjaaGreatDoor.Card
open Go Go.ChangeShapes Go.WideShapes Go.ChangeAt Go.RowKit Go.Ax Go.Proofs
theorem decimalFused_andT {a b : Bool} (ha : a = true) (hb : b = true) : (a && b) = true := by rw [ha, hb]; rfl
theorem decimalFused_f1 : (Rows.decimalFusedRow.inPlace == Tryz.pinned.checked.prog.inPlace 13) = true := by kernel_rfl
theorem decimalFused_f2 : (Rows.decimalFusedRow.unfollowed == Tryz.pinned.checked.prog.unfollowed 13) = true := by kernel_rfl
theorem decimalFused_f3 : (Rows.decimalFusedRow.recurses == Tryz.pinned.checked.prog.recurses 13) = true := by kernel_rfl
theorem decimalFused_f4 : (Rows.decimalFusedRow.named == Tryz.pinned.checked.prog.varsNamed 13) = true := by kernel_rfl
theorem decimalFused_f5 : (Rows.decimalFusedRow.plainKeys == Tryz.pinned.checked.prog.plainKeys) = true := by kernel_rfl
theorem decimalFused_f6 : (Rows.decimalFusedRow.lifted == Tryz.pinned.checked.prog.liftsFinal) = true := by kernel_rfl
theorem decimalFused_f7 : Tryz.pinned.checked.prog.stopsHeard = true := by kernel_rfl
theorem decimalFused_f8 : Tryz.pinned.checked.prog.mayEnter = true := by kernel_rfl
theorem decimalFused_f9 : laidOutB Tryz.pinned.checked.prog = true := by kernel_rfl
theorem decimalFused_facts : joinedFacts Tryz.pinned.checked.prog 13 Tryz.f13 Rows.decimalFusedSpec Rows.decimalFusedRow = true := by
  unfold joinedFacts
  exact decimalFused_andT (decimalFused_andT (decimalFused_andT (decimalFused_andT (decimalFused_andT (decimalFused_andT (decimalFused_andT (decimalFused_andT (decimalFused_andT (decimalFused_andT (decimalFused_andT (decimalFused_andT (decimalFused_andT (decimalFused_andT (decimalFused_andT (decimalFused_andT (decimalFused_andT (decimalFused_andT (decimalFused_andT (decimalFused_andT (decimalFused_andT (decimalFused_andT (decimalFused_andT (decimalFused_andT (decimalFused_andT (decimalFused_andT (decimalFused_andT (decimalFused_andT (decimalFused_andT (decimalFused_andT (decimalFused_andT (by kernel_rfl) decimalFused_f9) (by kernel_rfl)) (by kernel_rfl)) (by kernel_rfl)) (by kernel_rfl)) (by kernel_rfl)) (by kernel_rfl)) (by kernel_rfl)) decimalFused_f1) decimalFused_f2) decimalFused_f3) decimalFused_f4) (by kernel_rfl)) (by kernel_rfl)) (by kernel_rfl)) (by kernel_rfl)) (by kernel_rfl)) (by kernel_rfl)) (by kernel_rfl)) (by kernel_rfl)) (by kernel_rfl)) decimalFused_f5) (by kernel_rfl)) decimalFused_f7) decimalFused_f8) decimalFused_f6) (by kernel_rfl)) (by kernel_rfl)) (by kernel_rfl)) (by kernel_rfl)) (by kernel_rfl)
end Go.Proofs.YtpnljnmpocobjaaGreatDoor.Card
