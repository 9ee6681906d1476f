/-
  The card of CB_RoundNearest is proved: for every input the law answers true and its arguments read as before; no condition beyond the row.
-/
import Derived.Test.YtpnljnmpocobjaaGreatDoorX9
set_option linter.unusedVariables false
set_option linter.unusedSimpArgs false
set_option maxRecDepth 100000
namespace Go.Proofs.YtpnljnmpocobjaaGreatDoor.Card
open Go Go.ChangeShapes Go.WideShapes Go.ChangeAt Go.RowKit Go.Ax Go.Proofs
theorem roundNearest_andT {a b : Bool} (ha : a = true) (hb : b = true) : (a && b) = true := by rw [ha, hb]; rfl
theorem roundNearest_f1 : (Rows.roundNearestRow.inPlace == Tryz.pinned.checked.prog.inPlace 8) = true := by kernel_rfl
theorem roundNearest_f2 : (Rows.roundNearestRow.unfollowed == Tryz.pinned.checked.prog.unfollowed 8) = true := by kernel_rfl
theorem roundNearest_f3 : (Rows.roundNearestRow.recurses == Tryz.pinned.checked.prog.recurses 8) = true := by kernel_rfl
theorem roundNearest_f4 : (Rows.roundNearestRow.named == Tryz.pinned.checked.prog.varsNamed 8) = true := by kernel_rfl
theorem roundNearest_f5 : (Rows.roundNearestRow.plainKeys == Tryz.pinned.checked.prog.plainKeys) = true := by kernel_rfl
theorem roundNearest_f6 : (Rows.roundNearestRow.lifted == Tryz.pinned.checked.prog.liftsFinal) = true := by kernel_rfl
theorem roundNearest_f7 : Tryz.pinned.checked.prog.stopsHeard = true := by kernel_rfl
theorem roundNearest_f8 : Tryz.pinned.checked.prog.mayEnter = true := by kernel_rfl
theorem roundNearest_f9 : laidOutB Tryz.pinned.checked.prog = true := by kernel_rfl
theorem roundNearest_facts : joinedFacts Tryz.pinned.checked.prog 8 Tryz.f8 Rows.roundNearestSpec Rows.roundNearestRow = true := by
  unfold joinedFacts
  exact roundNearest_andT (roundNearest_andT (roundNearest_andT (roundNearest_andT (roundNearest_andT (roundNearest_andT (roundNearest_andT (roundNearest_andT (roundNearest_andT (roundNearest_andT (roundNearest_andT (roundNearest_andT (roundNearest_andT (roundNearest_andT (roundNearest_andT (roundNearest_andT (roundNearest_andT (roundNearest_andT (roundNearest_andT (roundNearest_andT (roundNearest_andT (roundNearest_andT (roundNearest_andT (roundNearest_andT (roundNearest_andT (roundNearest_andT (roundNearest_andT (roundNearest_andT (roundNearest_andT (roundNearest_andT (roundNearest_andT (by kernel_rfl) roundNearest_f9) (by kernel_rfl)) (by kernel_rfl)) (by kernel_rfl)) (by kernel_rfl)) (by kernel_rfl)) (by kernel_rfl)) (by kernel_rfl)) roundNearest_f1) roundNearest_f2) roundNearest_f3) roundNearest_f4) (by kernel_rfl)) (by kernel_rfl)) (by kernel_rfl)) (by kernel_rfl)) (by kernel_rfl)) (by kernel_rfl)) (by kernel_rfl)) (by kernel_rfl)) (by kernel_rfl)) roundNearest_f5) (by kernel_rfl)) roundNearest_f7) roundNearest_f8) roundNearest_f6) (by kernel_rfl)) (by kernel_rfl)) (by kernel_rfl)) (by kernel_rfl)) (by kernel_rfl)
end Go.Proofs.YtpnljnmpocobjaaGreatDoor.Card
