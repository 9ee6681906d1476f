/-
  The card of CB_RoundLarge is proved: for every input the law answers true and its arguments read as before; no condition beyond the row.
-/
import Derived.Test.YtenfiehjbeojeaaGreatDoorX11
set_option linter.unusedVariables false
set_option linter.unusedSimpArgs false
set_option maxRecDepth 100000
namespace Go.Proofs.YtenfiehjbeojeaaGreatDoor.Card
open Go Go.ChangeShapes Go.WideShapes Go.ChangeAt Go.RowKit Go.Ax Go.Proofs
theorem roundLarge_andT {a b : Bool} (ha : a = true) (hb : b = true) : (a && b) = true := by rw [ha, hb]; rfl
theorem roundLarge_f1 : (Rows.roundLargeRow.inPlace == Tryz.pinned.checked.prog.inPlace 3) = true := by kernel_rfl
theorem roundLarge_f2 : (Rows.roundLargeRow.unfollowed == Tryz.pinned.checked.prog.unfollowed 3) = true := by kernel_rfl
theorem roundLarge_f3 : (Rows.roundLargeRow.recurses == Tryz.pinned.checked.prog.recurses 3) = true := by kernel_rfl
theorem roundLarge_f4 : (Rows.roundLargeRow.named == Tryz.pinned.checked.prog.varsNamed 3) = true := by kernel_rfl
theorem roundLarge_f5 : (Rows.roundLargeRow.plainKeys == Tryz.pinned.checked.prog.plainKeys) = true := by kernel_rfl
theorem roundLarge_f6 : (Rows.roundLargeRow.lifted == Tryz.pinned.checked.prog.liftsFinal) = true := by kernel_rfl
theorem roundLarge_f7 : Tryz.pinned.checked.prog.stopsHeard = true := by kernel_rfl
theorem roundLarge_f8 : Tryz.pinned.checked.prog.mayEnter = true := by kernel_rfl
theorem roundLarge_f9 : laidOutB Tryz.pinned.checked.prog = true := by kernel_rfl
theorem roundLarge_facts : joinedFacts Tryz.pinned.checked.prog 3 Tryz.f3 Rows.roundLargeSpec Rows.roundLargeRow = true := by
  unfold joinedFacts
  exact roundLarge_andT (roundLarge_andT (roundLarge_andT (roundLarge_andT (roundLarge_andT (roundLarge_andT (roundLarge_andT (roundLarge_andT (roundLarge_andT (roundLarge_andT (roundLarge_andT (roundLarge_andT (roundLarge_andT (roundLarge_andT (roundLarge_andT (roundLarge_andT (roundLarge_andT (roundLarge_andT (roundLarge_andT (roundLarge_andT (roundLarge_andT (roundLarge_andT (roundLarge_andT (roundLarge_andT (roundLarge_andT (roundLarge_andT (roundLarge_andT (roundLarge_andT (roundLarge_andT (roundLarge_andT (roundLarge_andT (by kernel_rfl) roundLarge_f9) (by kernel_rfl)) (by kernel_rfl)) (by kernel_rfl)) (by kernel_rfl)) (by kernel_rfl)) (by kernel_rfl)) (by kernel_rfl)) roundLarge_f1) roundLarge_f2) roundLarge_f3) roundLarge_f4) (by kernel_rfl)) (by kernel_rfl)) (by kernel_rfl)) (by kernel_rfl)) (by kernel_rfl)) (by kernel_rfl)) (by kernel_rfl)) (by kernel_rfl)) (by kernel_rfl)) roundLarge_f5) (by kernel_rfl)) roundLarge_f7) roundLarge_f8) roundLarge_f6) (by kernel_rfl)) (by kernel_rfl)) (by kernel_rfl)) (by kernel_rfl)) (by kernel_rfl)
end Go.Proofs.YtenfiehjbeojeaaGreatDoor.Card
