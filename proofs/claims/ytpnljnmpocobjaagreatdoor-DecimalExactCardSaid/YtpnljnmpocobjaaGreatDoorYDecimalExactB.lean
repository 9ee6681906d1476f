/-
  The card of CB_DecimalExact is proved: for every input the law answers true and its arguments read as before; no condition beyond the row.
-/
import Derived.Test.YtpnljnmpocobjaaGreatDoorX11
set_option linter.unusedVariables false
set_option linter.unusedSimpArgs false
set_option maxRecDepth 100000
namespace Go.Proofs.YtpnljnmpocobjaaGreatDoor.Card
open Go Go.ChangeShapes Go.WideShapes Go.ChangeAt Go.RowKit Go.Ax Go.Proofs
theorem decimalExact_andT {a b : Bool} (ha : a = true) (hb : b = true) : (a && b) = true := by rw [ha, hb]; rfl
theorem decimalExact_f1 : (Rows.decimalExactRow.inPlace == Tryz.pinned.checked.prog.inPlace 14) = true := by kernel_rfl
theorem decimalExact_f2 : (Rows.decimalExactRow.unfollowed == Tryz.pinned.checked.prog.unfollowed 14) = true := by kernel_rfl
theorem decimalExact_f3 : (Rows.decimalExactRow.recurses == Tryz.pinned.checked.prog.recurses 14) = true := by kernel_rfl
theorem decimalExact_f4 : (Rows.decimalExactRow.named == Tryz.pinned.checked.prog.varsNamed 14) = true := by kernel_rfl
theorem decimalExact_f5 : (Rows.decimalExactRow.plainKeys == Tryz.pinned.checked.prog.plainKeys) = true := by kernel_rfl
theorem decimalExact_f6 : (Rows.decimalExactRow.lifted == Tryz.pinned.checked.prog.liftsFinal) = true := by kernel_rfl
theorem decimalExact_f7 : Tryz.pinned.checked.prog.stopsHeard = true := by kernel_rfl
theorem decimalExact_f8 : Tryz.pinned.checked.prog.mayEnter = true := by kernel_rfl
theorem decimalExact_f9 : laidOutB Tryz.pinned.checked.prog = true := by kernel_rfl
theorem decimalExact_facts : joinedFacts Tryz.pinned.checked.prog 14 Tryz.f14 Rows.decimalExactSpec Rows.decimalExactRow = true := by
  unfold joinedFacts
  exact decimalExact_andT (decimalExact_andT (decimalExact_andT (decimalExact_andT (decimalExact_andT (decimalExact_andT (decimalExact_andT (decimalExact_andT (decimalExact_andT (decimalExact_andT (decimalExact_andT (decimalExact_andT (decimalExact_andT (decimalExact_andT (decimalExact_andT (decimalExact_andT (decimalExact_andT (decimalExact_andT (decimalExact_andT (decimalExact_andT (decimalExact_andT (decimalExact_andT (decimalExact_andT (decimalExact_andT (decimalExact_andT (decimalExact_andT (decimalExact_andT (decimalExact_andT (decimalExact_andT (decimalExact_andT (decimalExact_andT (by kernel_rfl) decimalExact_f9) (by kernel_rfl)) (by kernel_rfl)) (by kernel_rfl)) (by kernel_rfl)) (by kernel_rfl)) (by kernel_rfl)) (by kernel_rfl)) decimalExact_f1) decimalExact_f2) decimalExact_f3) decimalExact_f4) (by kernel_rfl)) (by kernel_rfl)) (by kernel_rfl)) (by kernel_rfl)) (by kernel_rfl)) (by kernel_rfl)) (by kernel_rfl)) (by kernel_rfl)) (by kernel_rfl)) decimalExact_f5) (by kernel_rfl)) decimalExact_f7) decimalExact_f8) decimalExact_f6) (by kernel_rfl)) (by kernel_rfl)) (by kernel_rfl)) (by kernel_rfl)) (by kernel_rfl)
end Go.Proofs.YtpnljnmpocobjaaGreatDoor.Card
