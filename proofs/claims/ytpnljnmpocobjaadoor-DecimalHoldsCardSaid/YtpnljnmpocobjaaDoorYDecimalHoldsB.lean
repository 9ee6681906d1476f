/-
  The card of CB_DecimalHolds is proved: for every input the law answers true and its arguments read as before; no condition beyond the row.
-/
import Derived.Test.YtpnljnmpocobjaaDoorZ9
set_option linter.unusedVariables false
set_option linter.unusedSimpArgs false
set_option maxRecDepth 100000
namespace Go.Proofs.YtpnljnmpocobjaaDoor.Card
open Go Go.ChangeShapes Go.WideShapes Go.ChangeAt Go.RowKit Go.Ax Go.Proofs
theorem decimalHolds_andT {a b : Bool} (ha : a = true) (hb : b = true) : (a && b) = true := by rw [ha, hb]; rfl
theorem decimalHolds_f1 : (Rows.decimalHoldsRow.inPlace == Tryd.pinned.checked.prog.inPlace 9) = true := by kernel_rfl
theorem decimalHolds_f2 : (Rows.decimalHoldsRow.unfollowed == Tryd.pinned.checked.prog.unfollowed 9) = true := by kernel_rfl
theorem decimalHolds_f3 : (Rows.decimalHoldsRow.recurses == Tryd.pinned.checked.prog.recurses 9) = true := by kernel_rfl
theorem decimalHolds_f4 : (Rows.decimalHoldsRow.named == Tryd.pinned.checked.prog.varsNamed 9) = true := by kernel_rfl
theorem decimalHolds_f5 : (Rows.decimalHoldsRow.plainKeys == Tryd.pinned.checked.prog.plainKeys) = true := by kernel_rfl
theorem decimalHolds_f6 : (Rows.decimalHoldsRow.lifted == Tryd.pinned.checked.prog.liftsFinal) = true := by kernel_rfl
theorem decimalHolds_f7 : Tryd.pinned.checked.prog.stopsHeard = true := by kernel_rfl
theorem decimalHolds_f8 : Tryd.pinned.checked.prog.mayEnter = true := by kernel_rfl
theorem decimalHolds_f9 : laidOutB Tryd.pinned.checked.prog = true := by kernel_rfl
theorem decimalHolds_facts : joinedFacts Tryd.pinned.checked.prog 9 Tryd.f9 Rows.decimalHoldsSpec Rows.decimalHoldsRow = true := by
  unfold joinedFacts
  exact decimalHolds_andT (decimalHolds_andT (decimalHolds_andT (decimalHolds_andT (decimalHolds_andT (decimalHolds_andT (decimalHolds_andT (decimalHolds_andT (decimalHolds_andT (decimalHolds_andT (decimalHolds_andT (decimalHolds_andT (decimalHolds_andT (decimalHolds_andT (decimalHolds_andT (decimalHolds_andT (decimalHolds_andT (decimalHolds_andT (decimalHolds_andT (decimalHolds_andT (decimalHolds_andT (decimalHolds_andT (decimalHolds_andT (decimalHolds_andT (decimalHolds_andT (decimalHolds_andT (decimalHolds_andT (decimalHolds_andT (decimalHolds_andT (decimalHolds_andT (decimalHolds_andT (by kernel_rfl) decimalHolds_f9) (by kernel_rfl)) (by kernel_rfl)) (by kernel_rfl)) (by kernel_rfl)) (by kernel_rfl)) (by kernel_rfl)) (by kernel_rfl)) decimalHolds_f1) decimalHolds_f2) decimalHolds_f3) decimalHolds_f4) (by kernel_rfl)) (by kernel_rfl)) (by kernel_rfl)) (by kernel_rfl)) (by kernel_rfl)) (by kernel_rfl)) (by kernel_rfl)) (by kernel_rfl)) (by kernel_rfl)) decimalHolds_f5) (by kernel_rfl)) decimalHolds_f7) decimalHolds_f8) decimalHolds_f6) (by kernel_rfl)) (by kernel_rfl)) (by kernel_rfl)) (by kernel_rfl)) (by kernel_rfl)
end Go.Proofs.YtpnljnmpocobjaaDoor.Card
