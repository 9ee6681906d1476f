/-
  The card of CB_RoundEncloses is proved: for every input the law answers true and its arguments read as before; no condition beyond the row.
-/
import Derived.Test.YtpnljnmpocobjaaGreatDoorZ11
set_option linter.unusedVariables false
set_option linter.unusedSimpArgs false
set_option maxRecDepth 100000
namespace Go.Proofs.YtpnljnmpocobjaaGreatDoor.Card
open Go Go.ChangeShapes Go.WideShapes Go.ChangeAt Go.RowKit Go.Ax Go.Proofs
theorem roundEncloses_andT {a b : Bool} (ha : a = true) (hb : b = true) : (a && b) = true := by rw [ha, hb]; rfl
theorem roundEncloses_f1 : (Rows.roundEnclosesRow.inPlace == Tryz.pinned.checked.prog.inPlace 7) = true := by kernel_rfl
theorem roundEncloses_f2 : (Rows.roundEnclosesRow.unfollowed == Tryz.pinned.checked.prog.unfollowed 7) = true := by kernel_rfl
theorem roundEncloses_f3 : (Rows.roundEnclosesRow.recurses == Tryz.pinned.checked.prog.recurses 7) = true := by kernel_rfl
theorem roundEncloses_f4 : (Rows.roundEnclosesRow.named == Tryz.pinned.checked.prog.varsNamed 7) = true := by kernel_rfl
theorem roundEncloses_f5 : (Rows.roundEnclosesRow.plainKeys == Tryz.pinned.checked.prog.plainKeys) = true := by kernel_rfl
theorem roundEncloses_f6 : (Rows.roundEnclosesRow.lifted == Tryz.pinned.checked.prog.liftsFinal) = true := by kernel_rfl
theorem roundEncloses_f7 : Tryz.pinned.checked.prog.stopsHeard = true := by kernel_rfl
theorem roundEncloses_f8 : Tryz.pinned.checked.prog.mayEnter = true := by kernel_rfl
theorem roundEncloses_f9 : laidOutB Tryz.pinned.checked.prog = true := by kernel_rfl
theorem roundEncloses_facts : joinedFacts Tryz.pinned.checked.prog 7 Tryz.f7 Rows.roundEnclosesSpec Rows.roundEnclosesRow = true := by
  unfold joinedFacts
  exact roundEncloses_andT (roundEncloses_andT (roundEncloses_andT (roundEncloses_andT (roundEncloses_andT (roundEncloses_andT (roundEncloses_andT (roundEncloses_andT (roundEncloses_andT (roundEncloses_andT (roundEncloses_andT (roundEncloses_andT (roundEncloses_andT (roundEncloses_andT (roundEncloses_andT (roundEncloses_andT (roundEncloses_andT (roundEncloses_andT (roundEncloses_andT (roundEncloses_andT (roundEncloses_andT (roundEncloses_andT (roundEncloses_andT (roundEncloses_andT (roundEncloses_andT (roundEncloses_andT (roundEncloses_andT (roundEncloses_andT (roundEncloses_andT (roundEncloses_andT (roundEncloses_andT (by kernel_rfl) roundEncloses_f9) (by kernel_rfl)) (by kernel_rfl)) (by kernel_rfl)) (by kernel_rfl)) (by kernel_rfl)) (by kernel_rfl)) (by kernel_rfl)) roundEncloses_f1) roundEncloses_f2) roundEncloses_f3) roundEncloses_f4) (by kernel_rfl)) (by kernel_rfl)) (by kernel_rfl)) (by kernel_rfl)) (by kernel_rfl)) (by kernel_rfl)) (by kernel_rfl)) (by kernel_rfl)) (by kernel_rfl)) roundEncloses_f5) (by kernel_rfl)) roundEncloses_f7) roundEncloses_f8) roundEncloses_f6) (by kernel_rfl)) (by kernel_rfl)) (by kernel_rfl)) (by kernel_rfl)) (by kernel_rfl)
end Go.Proofs.YtpnljnmpocobjaaGreatDoor.Card
