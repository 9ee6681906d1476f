/-
  The card of CB_RoundRises is proved: for every input the law answers true and its arguments read as before; no condition beyond the row.
-/
import Derived.Test.YtpnljnmpocobjaaGreatDoorX9
set_option linter.unusedVariables false
set_option linter.unusedSimpArgs false
set_option maxRecDepth 100000
namespace Go.Proofs.YtpnljnmpocobjaaGreatDoor.Card
open Go Go.ChangeShapes Go.WideShapes Go.ChangeAt Go.RowKit Go.Ax Go.Proofs
theorem roundRises_andT {a b : Bool} (ha : a = true) (hb : b = true) : (a && b) = true := by rw [ha, hb]; rfl
theorem roundRises_f1 : (Rows.roundRisesRow.inPlace == Tryz.pinned.checked.prog.inPlace 4) = true := by kernel_rfl
theorem roundRises_f2 : (Rows.roundRisesRow.unfollowed == Tryz.pinned.checked.prog.unfollowed 4) = true := by kernel_rfl
theorem roundRises_f3 : (Rows.roundRisesRow.recurses == Tryz.pinned.checked.prog.recurses 4) = true := by kernel_rfl
theorem roundRises_f4 : (Rows.roundRisesRow.named == Tryz.pinned.checked.prog.varsNamed 4) = true := by kernel_rfl
theorem roundRises_f5 : (Rows.roundRisesRow.plainKeys == Tryz.pinned.checked.prog.plainKeys) = true := by kernel_rfl
theorem roundRises_f6 : (Rows.roundRisesRow.lifted == Tryz.pinned.checked.prog.liftsFinal) = true := by kernel_rfl
theorem roundRises_f7 : Tryz.pinned.checked.prog.stopsHeard = true := by kernel_rfl
theorem roundRises_f8 : Tryz.pinned.checked.prog.mayEnter = true := by kernel_rfl
theorem roundRises_f9 : laidOutB Tryz.pinned.checked.prog = true := by kernel_rfl
theorem roundRises_facts : joinedFacts Tryz.pinned.checked.prog 4 Tryz.f4 Rows.roundRisesSpec Rows.roundRisesRow = true := by
  unfold joinedFacts
  exact roundRises_andT (roundRises_andT (roundRises_andT (roundRises_andT (roundRises_andT (roundRises_andT (roundRises_andT (roundRises_andT (roundRises_andT (roundRises_andT (roundRises_andT (roundRises_andT (roundRises_andT (roundRises_andT (roundRises_andT (roundRises_andT (roundRises_andT (roundRises_andT (roundRises_andT (roundRises_andT (roundRises_andT (roundRises_andT (roundRises_andT (roundRises_andT (roundRises_andT (roundRises_andT (roundRises_andT (roundRises_andT (roundRises_andT (roundRises_andT (roundRises_andT (by kernel_rfl) roundRises_f9) (by kernel_rfl)) (by kernel_rfl)) (by kernel_rfl)) (by kernel_rfl)) (by kernel_rfl)) (by kernel_rfl)) (by kernel_rfl)) roundRises_f1) roundRises_f2) roundRises_f3) roundRises_f4) (by kernel_rfl)) (by kernel_rfl)) (by kernel_rfl)) (by kernel_rfl)) (by kernel_rfl)) (by kernel_rfl)) (by kernel_rfl)) (by kernel_rfl)) (by kernel_rfl)) roundRises_f5) (by kernel_rfl)) roundRises_f7) roundRises_f8) roundRises_f6) (by kernel_rfl)) (by kernel_rfl)) (by kernel_rfl)) (by kernel_rfl)) (by kernel_rfl)
end Go.Proofs.YtpnljnmpocobjaaGreatDoor.Card
