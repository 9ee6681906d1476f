/-
  The card of CB_DecimalChecks is proved: for every input the law answers true and its arguments read as before; no condition beyond the row.
-/
import Derived.Test.YtpnljnmpocobjaaDoorX9
set_option linter.unusedVariables false
set_option linter.unusedSimpArgs false
set_option maxRecDepth 100000
namespace Go.Proofs.YtpnljnmpocobjaaDoor.Card
open Go Go.ChangeShapes Go.WideShapes Go.ChangeAt Go.RowKit Go.Ax Go.Proofs
theorem decimalChecks_andT {a b : Bool} (ha : a = true) (hb : b = true) : (a && b) = true := by rw [ha, hb]; rfl
theorem decimalChecks_f1 : (Rows.decimalChecksRow.inPlace == Tryd.pinned.checked.prog.inPlace 8) = true := by kernel_rfl
theorem decimalChecks_f2 : (Rows.decimalChecksRow.unfollowed == Tryd.pinned.checked.prog.unfollowed 8) = true := by kernel_rfl
theorem decimalChecks_f3 : (Rows.decimalChecksRow.recurses == Tryd.pinned.checked.prog.recurses 8) = true := by kernel_rfl
theorem decimalChecks_f4 : (Rows.decimalChecksRow.named == Tryd.pinned.checked.prog.varsNamed 8) = true := by kernel_rfl
theorem decimalChecks_f5 : (Rows.decimalChecksRow.plainKeys == Tryd.pinned.checked.prog.plainKeys) = true := by kernel_rfl
theorem decimalChecks_f6 : (Rows.decimalChecksRow.lifted == Tryd.pinned.checked.prog.liftsFinal) = true := by kernel_rfl
theorem decimalChecks_f7 : Tryd.pinned.checked.prog.stopsHeard = true := by kernel_rfl
theorem decimalChecks_f8 : Tryd.pinned.checked.prog.mayEnter = true := by kernel_rfl
theorem decimalChecks_f9 : laidOutB Tryd.pinned.checked.prog = true := by kernel_rfl
theorem decimalChecks_facts : joinedFacts Tryd.pinned.checked.prog 8 Tryd.f8 Rows.decimalChecksSpec Rows.decimalChecksRow = true := by
  unfold joinedFacts
  exact decimalChecks_andT (decimalChecks_andT (decimalChecks_andT (decimalChecks_andT (decimalChecks_andT (decimalChecks_andT (decimalChecks_andT (decimalChecks_andT (decimalChecks_andT (decimalChecks_andT (decimalChecks_andT (decimalChecks_andT (decimalChecks_andT (decimalChecks_andT (decimalChecks_andT (decimalChecks_andT (decimalChecks_andT (decimalChecks_andT (decimalChecks_andT (decimalChecks_andT (decimalChecks_andT (decimalChecks_andT (decimalChecks_andT (decimalChecks_andT (decimalChecks_andT (decimalChecks_andT (decimalChecks_andT (decimalChecks_andT (decimalChecks_andT (decimalChecks_andT (decimalChecks_andT (by kernel_rfl) decimalChecks_f9) (by kernel_rfl)) (by kernel_rfl)) (by kernel_rfl)) (by kernel_rfl)) (by kernel_rfl)) (by kernel_rfl)) (by kernel_rfl)) decimalChecks_f1) decimalChecks_f2) decimalChecks_f3) decimalChecks_f4) (by kernel_rfl)) (by kernel_rfl)) (by kernel_rfl)) (by kernel_rfl)) (by kernel_rfl)) (by kernel_rfl)) (by kernel_rfl)) (by kernel_rfl)) (by kernel_rfl)) decimalChecks_f5) (by kernel_rfl)) decimalChecks_f7) decimalChecks_f8) decimalChecks_f6) (by kernel_rfl)) (by kernel_rfl)) (by kernel_rfl)) (by kernel_rfl)) (by kernel_rfl)
end Go.Proofs.YtpnljnmpocobjaaDoor.Card
