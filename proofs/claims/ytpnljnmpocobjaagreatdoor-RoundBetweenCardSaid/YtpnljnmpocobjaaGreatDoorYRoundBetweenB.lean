/-
  The card of CB_RoundBetween is proved: for every input the law answers true and its arguments read as before; no condition beyond the row.
-/
import Derived.Test.YtpnljnmpocobjaaGreatDoorX9
set_option linter.unusedVariables false
set_option linter.unusedSimpArgs false
set_option maxRecDepth 100000
namespace Go.Proofs.YtpnljnmpocobjaaGreatDoor.Card
open Go Go.ChangeShapes Go.WideShapes Go.ChangeAt Go.RowKit Go.Ax Go.Proofs
theorem roundBetween_andT {a b : Bool} (ha : a = true) (hb : b = true) : (a && b) = true := by rw [ha, hb]; rfl
theorem roundBetween_f1 : (Rows.roundBetweenRow.inPlace == Tryz.pinned.checked.prog.inPlace 5) = true := by kernel_rfl
theorem roundBetween_f2 : (Rows.roundBetweenRow.unfollowed == Tryz.pinned.checked.prog.unfollowed 5) = true := by kernel_rfl
theorem roundBetween_f3 : (Rows.roundBetweenRow.recurses == Tryz.pinned.checked.prog.recurses 5) = true := by kernel_rfl
theorem roundBetween_f4 : (Rows.roundBetweenRow.named == Tryz.pinned.checked.prog.varsNamed 5) = true := by kernel_rfl
theorem roundBetween_f5 : (Rows.roundBetweenRow.plainKeys == Tryz.pinned.checked.prog.plainKeys) = true := by kernel_rfl
theorem roundBetween_f6 : (Rows.roundBetweenRow.lifted == Tryz.pinned.checked.prog.liftsFinal) = true := by kernel_rfl
theorem roundBetween_f7 : Tryz.pinned.checked.prog.stopsHeard = true := by kernel_rfl
theorem roundBetween_f8 : Tryz.pinned.checked.prog.mayEnter = true := by kernel_rfl
theorem roundBetween_f9 : laidOutB Tryz.pinned.checked.prog = true := by kernel_rfl
theorem roundBetween_facts : joinedFacts Tryz.pinned.checked.prog 5 Tryz.f5 Rows.roundBetweenSpec Rows.roundBetweenRow = true := by
  unfold joinedFacts
  exact roundBetween_andT (roundBetween_andT (roundBetween_andT (roundBetween_andT (roundBetween_andT (roundBetween_andT (roundBetween_andT (roundBetween_andT (roundBetween_andT (roundBetween_andT (roundBetween_andT (roundBetween_andT (roundBetween_andT (roundBetween_andT (roundBetween_andT (roundBetween_andT (roundBetween_andT (roundBetween_andT (roundBetween_andT (roundBetween_andT (roundBetween_andT (roundBetween_andT (roundBetween_andT (roundBetween_andT (roundBetween_andT (roundBetween_andT (roundBetween_andT (roundBetween_andT (roundBetween_andT (roundBetween_andT (roundBetween_andT (by kernel_rfl) roundBetween_f9) (by kernel_rfl)) (by kernel_rfl)) (by kernel_rfl)) (by kernel_rfl)) (by kernel_rfl)) (by kernel_rfl)) (by kernel_rfl)) roundBetween_f1) roundBetween_f2) roundBetween_f3) roundBetween_f4) (by kernel_rfl)) (by kernel_rfl)) (by kernel_rfl)) (by kernel_rfl)) (by kernel_rfl)) (by kernel_rfl)) (by kernel_rfl)) (by kernel_rfl)) (by kernel_rfl)) roundBetween_f5) (by kernel_rfl)) roundBetween_f7) roundBetween_f8) roundBetween_f6) (by kernel_rfl)) (by kernel_rfl)) (by kernel_rfl)) (by kernel_rfl)) (by kernel_rfl)
end Go.Proofs.YtpnljnmpocobjaaGreatDoor.Card
