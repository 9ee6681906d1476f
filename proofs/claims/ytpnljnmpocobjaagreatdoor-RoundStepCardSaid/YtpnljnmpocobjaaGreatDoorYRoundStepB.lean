/-
  The card of CB_RoundStep is proved: for every input the law answers true and its arguments read as before; no condition beyond the row.
-/
import Derived.Test.YtpnljnmpocobjaaGreatDoorX9
set_option linter.unusedVariables false
set_option linter.unusedSimpArgs false
set_option maxRecDepth 100000
namespace Go.Proofs.YtpnljnmpocobjaaGreatDoor.Card
open Go Go.ChangeShapes Go.WideShapes Go.ChangeAt Go.RowKit Go.Ax Go.Proofs
theorem roundStep_andT {a b : Bool} (ha : a = true) (hb : b = true) : (a && b) = true := by rw [ha, hb]; rfl
theorem roundStep_f1 : (Rows.roundStepRow.inPlace == Tryz.pinned.checked.prog.inPlace 6) = true := by kernel_rfl
theorem roundStep_f2 : (Rows.roundStepRow.unfollowed == Tryz.pinned.checked.prog.unfollowed 6) = true := by kernel_rfl
theorem roundStep_f3 : (Rows.roundStepRow.recurses == Tryz.pinned.checked.prog.recurses 6) = true := by kernel_rfl
theorem roundStep_f4 : (Rows.roundStepRow.named == Tryz.pinned.checked.prog.varsNamed 6) = true := by kernel_rfl
theorem roundStep_f5 : (Rows.roundStepRow.plainKeys == Tryz.pinned.checked.prog.plainKeys) = true := by kernel_rfl
theorem roundStep_f6 : (Rows.roundStepRow.lifted == Tryz.pinned.checked.prog.liftsFinal) = true := by kernel_rfl
theorem roundStep_f7 : Tryz.pinned.checked.prog.stopsHeard = true := by kernel_rfl
theorem roundStep_f8 : Tryz.pinned.checked.prog.mayEnter = true := by kernel_rfl
theorem roundStep_f9 : laidOutB Tryz.pinned.checked.prog = true := by kernel_rfl
theorem roundStep_facts : joinedFacts Tryz.pinned.checked.prog 6 Tryz.f6 Rows.roundStepSpec Rows.roundStepRow = true := by
  unfold joinedFacts
  exact roundStep_andT (roundStep_andT (roundStep_andT (roundStep_andT (roundStep_andT (roundStep_andT (roundStep_andT (roundStep_andT (roundStep_andT (roundStep_andT (roundStep_andT (roundStep_andT (roundStep_andT (roundStep_andT (roundStep_andT (roundStep_andT (roundStep_andT (roundStep_andT (roundStep_andT (roundStep_andT (roundStep_andT (roundStep_andT (roundStep_andT (roundStep_andT (roundStep_andT (roundStep_andT (roundStep_andT (roundStep_andT (roundStep_andT (roundStep_andT (roundStep_andT (by kernel_rfl) roundStep_f9) (by kernel_rfl)) (by kernel_rfl)) (by kernel_rfl)) (by kernel_rfl)) (by kernel_rfl)) (by kernel_rfl)) (by kernel_rfl)) roundStep_f1) roundStep_f2) roundStep_f3) roundStep_f4) (by kernel_rfl)) (by kernel_rfl)) (by kernel_rfl)) (by kernel_rfl)) (by kernel_rfl)) (by kernel_rfl)) (by kernel_rfl)) (by kernel_rfl)) (by kernel_rfl)) roundStep_f5) (by kernel_rfl)) roundStep_f7) roundStep_f8) roundStep_f6) (by kernel_rfl)) (by kernel_rfl)) (by kernel_rfl)) (by kernel_rfl)) (by kernel_rfl)
end Go.Proofs.YtpnljnmpocobjaaGreatDoor.Card
