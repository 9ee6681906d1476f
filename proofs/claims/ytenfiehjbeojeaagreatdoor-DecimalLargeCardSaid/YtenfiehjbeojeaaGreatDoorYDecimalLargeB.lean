/-
  The card of DecimalLarge is proved: for every input the law answers true and its arguments read as before; no condition beyond the row.
-/
import Derived.Test.YtenfiehjbeojeaaGreatDoorV39
set_option linter.unusedVariables false
set_option linter.unusedSimpArgs false
set_option maxRecDepth 100000
namespace Go.Proofs.YtenfiehjbeojeaaGreatDoor.Card
open Go Go.ChangeShapes Go.WideShapes Go.ChangeAt Go.RowKit Go.Ax Go.Proofs
theorem decimalLarge_andT {a b : Bool} (ha : a = true) (hb : b = true) : (a && b) = true := by rw [ha, hb]; rfl
theorem decimalLarge_f1 : (Rows.decimalLargeRow.inPlace == Tryz.pinned.checked.prog.inPlace 4) = true := by kernel_rfl
theorem decimalLarge_f2 : (Rows.decimalLargeRow.unfollowed == Tryz.pinned.checked.prog.unfollowed 4) = true := by kernel_rfl
theorem decimalLarge_f3 : (Rows.decimalLargeRow.recurses == Tryz.pinned.checked.prog.recurses 4) = true := by kernel_rfl
theorem decimalLarge_f4 : (Rows.decimalLargeRow.named == Tryz.pinned.checked.prog.varsNamed 4) = true := by kernel_rfl
theorem decimalLarge_f5 : (Rows.decimalLargeRow.plainKeys == Tryz.pinned.checked.prog.plainKeys) = true := by kernel_rfl
theorem decimalLarge_f6 : (Rows.decimalLargeRow.lifted == Tryz.pinned.checked.prog.liftsFinal) = true := by kernel_rfl
theorem decimalLarge_f7 : Tryz.pinned.checked.prog.stopsHeard = true := by kernel_rfl
theorem decimalLarge_f8 : Tryz.pinned.checked.prog.mayEnter = true := by kernel_rfl
theorem decimalLarge_f9 : laidOutB Tryz.pinned.checked.prog = true := by kernel_rfl
theorem decimalLarge_facts : joinedFacts Tryz.pinned.checked.prog 4 Tryz.f4 Rows.decimalLargeSpec Rows.decimalLargeRow = true := by
  unfold joinedFacts
  exact decimalLarge_andT (decimalLarge_andT (decimalLarge_andT (decimalLarge_andT (decimalLarge_andT (decimalLarge_andT (decimalLarge_andT (decimalLarge_andT (decimalLarge_andT (decimalLarge_andT (decimalLarge_andT (decimalLarge_andT (decimalLarge_andT (decimalLarge_andT (decimalLarge_andT (decimalLarge_andT (decimalLarge_andT (decimalLarge_andT (decimalLarge_andT (decimalLarge_andT (decimalLarge_andT (decimalLarge_andT (decimalLarge_andT (decimalLarge_andT (decimalLarge_andT (decimalLarge_andT (decimalLarge_andT (decimalLarge_andT (decimalLarge_andT (decimalLarge_andT (decimalLarge_andT (by kernel_rfl) decimalLarge_f9) (by kernel_rfl)) (by kernel_rfl)) (by kernel_rfl)) (by kernel_rfl)) (by kernel_rfl)) (by kernel_rfl)) (by kernel_rfl)) decimalLarge_f1) decimalLarge_f2) decimalLarge_f3) decimalLarge_f4) (by kernel_rfl)) (by kernel_rfl)) (by kernel_rfl)) (by kernel_rfl)) (by kernel_rfl)) (by kernel_rfl)) (by kernel_rfl)) (by kernel_rfl)) (by kernel_rfl)) decimalLarge_f5) (by kernel_rfl)) decimalLarge_f7) decimalLarge_f8) decimalLarge_f6) (by kernel_rfl)) (by kernel_rfl)) (by kernel_rfl)) (by kernel_rfl)) (by kernel_rfl)
end Go.Proofs.YtenfiehjbeojeaaGreatDoor.Card
