/-
  The closed facts of the row of RoundRounds, one by one.
-/
import Derived.Test.YtpnljnmpocobjaaGreatDoorX9
set_option linter.unusedVariables false
set_option linter.unusedSimpArgs false
set_option maxRecDepth 100000
namespace Go.Proofs.YtpnljnmpocobjaaGreatDoor.Card
open Go Go.ChangeShapes Go.WideShapes Go.ChangeAt Go.RowKit Go.Ax Go.Proofs

theorem roundRounds_andT {a b : Bool} (ha : a = true) (hb : b = true) : (a && b) = true := by rw [ha, hb]; rfl
theorem roundRounds_f1 : (Rows.roundRoundsRow.inPlace == Tryz.pinned.checked.prog.inPlace 3) = true := by kernel_rfl
theorem roundRounds_f2 : (Rows.roundRoundsRow.unfollowed == Tryz.pinned.checked.prog.unfollowed 3) = true := by kernel_rfl
theorem roundRounds_f3 : (Rows.roundRoundsRow.recurses == Tryz.pinned.checked.prog.recurses 3) = true := by kernel_rfl
theorem roundRounds_f4 : (Rows.roundRoundsRow.named == Tryz.pinned.checked.prog.varsNamed 3) = true := by kernel_rfl
theorem roundRounds_f5 : (Rows.roundRoundsRow.plainKeys == Tryz.pinned.checked.prog.plainKeys) = true := by kernel_rfl
theorem roundRounds_f6 : (Rows.roundRoundsRow.lifted == Tryz.pinned.checked.prog.liftsFinal) = true := by kernel_rfl
theorem roundRounds_f7 : Tryz.pinned.checked.prog.stopsHeard = true := by kernel_rfl
theorem roundRounds_f8 : Tryz.pinned.checked.prog.mayEnter = true := by kernel_rfl
theorem roundRounds_f9 : laidOutB Tryz.pinned.checked.prog = true := by kernel_rfl
theorem roundRounds_facts : joinedFacts Tryz.pinned.checked.prog 3 Tryz.f3 Rows.roundRoundsSpec Rows.roundRoundsRow = true := by
  unfold joinedFacts
  exact roundRounds_andT (roundRounds_andT (roundRounds_andT (roundRounds_andT (roundRounds_andT (roundRounds_andT (roundRounds_andT (roundRounds_andT (roundRounds_andT (roundRounds_andT (roundRounds_andT (roundRounds_andT (roundRounds_andT (roundRounds_andT (roundRounds_andT (roundRounds_andT (roundRounds_andT (roundRounds_andT (roundRounds_andT (roundRounds_andT (roundRounds_andT (roundRounds_andT (roundRounds_andT (roundRounds_andT (roundRounds_andT (roundRounds_andT (roundRounds_andT (roundRounds_andT (roundRounds_andT (roundRounds_andT (roundRounds_andT (by kernel_rfl) roundRounds_f9) (by kernel_rfl)) (by kernel_rfl)) (by kernel_rfl)) (by kernel_rfl)) (by kernel_rfl)) (by kernel_rfl)) (by kernel_rfl)) roundRounds_f1) roundRounds_f2) roundRounds_f3) roundRounds_f4) (by kernel_rfl)) (by kernel_rfl)) (by kernel_rfl)) (by kernel_rfl)) (by kernel_rfl)) (by kernel_rfl)) (by kernel_rfl)) (by kernel_rfl)) (by kernel_rfl)) roundRounds_f5) (by kernel_rfl)) roundRounds_f7) roundRounds_f8) roundRounds_f6) (by kernel_rfl)) (by kernel_rfl)) (by kernel_rfl)) (by kernel_rfl)) (by kernel_rfl)

end Go.Proofs.YtpnljnmpocobjaaGreatDoor.Card
