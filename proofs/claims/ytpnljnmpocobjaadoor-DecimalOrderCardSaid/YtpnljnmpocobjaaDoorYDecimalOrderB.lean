/-
  The card of CB_DecimalOrder is proved: for every input the law answers true and its arguments read as before; no condition beyond the row.
-/
import Derived.Test.YtpnljnmpocobjaaDoorZ9
set_option linter.unusedVariables false
set_option linter.unusedSimpArgs false
set_option maxRecDepth 100000
namespace Go.Proofs.YtpnljnmpocobjaaDoor.Card
open Go Go.ChangeShapes Go.WideShapes Go.ChangeAt Go.RowKit Go.Ax Go.Proofs
theorem decimalOrder_andT {a b : Bool} (ha : a = true) (hb : b = true) : (a && b) = true := by rw [ha, hb]; rfl
theorem decimalOrder_f1 : (Rows.decimalOrderRow.inPlace == Tryd.pinned.checked.prog.inPlace 11) = true := by kernel_rfl
theorem decimalOrder_f2 : (Rows.decimalOrderRow.unfollowed == Tryd.pinned.checked.prog.unfollowed 11) = true := by kernel_rfl
theorem decimalOrder_f3 : (Rows.decimalOrderRow.recurses == Tryd.pinned.checked.prog.recurses 11) = true := by kernel_rfl
theorem decimalOrder_f4 : (Rows.decimalOrderRow.named == Tryd.pinned.checked.prog.varsNamed 11) = true := by kernel_rfl
theorem decimalOrder_f5 : (Rows.decimalOrderRow.plainKeys == Tryd.pinned.checked.prog.plainKeys) = true := by kernel_rfl
theorem decimalOrder_f6 : (Rows.decimalOrderRow.lifted == Tryd.pinned.checked.prog.liftsFinal) = true := by kernel_rfl
theorem decimalOrder_f7 : Tryd.pinned.checked.prog.stopsHeard = true := by kernel_rfl
theorem decimalOrder_f8 : Tryd.pinned.checked.prog.mayEnter = true := by kernel_rfl
theorem decimalOrder_f9 : laidOutB Tryd.pinned.checked.prog = true := by kernel_rfl
theorem decimalOrder_facts : joinedFacts Tryd.pinned.checked.prog 11 Tryd.f11 Rows.decimalOrderSpec Rows.decimalOrderRow = true := by
  unfold joinedFacts
  exact decimalOrder_andT (decimalOrder_andT (decimalOrder_andT (decimalOrder_andT (decimalOrder_andT (decimalOrder_andT (decimalOrder_andT (decimalOrder_andT (decimalOrder_andT (decimalOrder_andT (decimalOrder_andT (decimalOrder_andT (decimalOrder_andT (decimalOrder_andT (decimalOrder_andT (decimalOrder_andT (decimalOrder_andT (decimalOrder_andT (decimalOrder_andT (decimalOrder_andT (decimalOrder_andT (decimalOrder_andT (decimalOrder_andT (decimalOrder_andT (decimalOrder_andT (decimalOrder_andT (decimalOrder_andT (decimalOrder_andT (decimalOrder_andT (decimalOrder_andT (decimalOrder_andT (by kernel_rfl) decimalOrder_f9) (by kernel_rfl)) (by kernel_rfl)) (by kernel_rfl)) (by kernel_rfl)) (by kernel_rfl)) (by kernel_rfl)) (by kernel_rfl)) decimalOrder_f1) decimalOrder_f2) decimalOrder_f3) decimalOrder_f4) (by kernel_rfl)) (by kernel_rfl)) (by kernel_rfl)) (by kernel_rfl)) (by kernel_rfl)) (by kernel_rfl)) (by kernel_rfl)) (by kernel_rfl)) (by kernel_rfl)) decimalOrder_f5) (by kernel_rfl)) decimalOrder_f7) decimalOrder_f8) decimalOrder_f6) (by kernel_rfl)) (by kernel_rfl)) (by kernel_rfl)) (by kernel_rfl)) (by kernel_rfl)
end Go.Proofs.YtpnljnmpocobjaaDoor.Card
