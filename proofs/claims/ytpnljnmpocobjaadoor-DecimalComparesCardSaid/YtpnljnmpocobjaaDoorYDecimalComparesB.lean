/-
  The card of CB_DecimalCompares is proved: for every input the law answers true and its arguments read as before; no condition beyond the row.
-/
import Derived.Test.YtpnljnmpocobjaaDoorX9
set_option linter.unusedVariables false
set_option linter.unusedSimpArgs false
set_option maxRecDepth 100000
namespace Go.Proofs.YtpnljnmpocobjaaDoor.Card
open Go Go.ChangeShapes Go.WideShapes Go.ChangeAt Go.RowKit Go.Ax Go.Proofs
theorem decimalCompares_andT {a b : Bool} (ha : a = true) (hb : b = true) : (a && b) = true := by rw [ha, hb]; rfl
theorem decimalCompares_f1 : (Rows.decimalComparesRow.inPlace == Tryd.pinned.checked.prog.inPlace 12) = true := by kernel_rfl
theorem decimalCompares_f2 : (Rows.decimalComparesRow.unfollowed == Tryd.pinned.checked.prog.unfollowed 12) = true := by kernel_rfl
theorem decimalCompares_f3 : (Rows.decimalComparesRow.recurses == Tryd.pinned.checked.prog.recurses 12) = true := by kernel_rfl
theorem decimalCompares_f4 : (Rows.decimalComparesRow.named == Tryd.pinned.checked.prog.varsNamed 12) = true := by kernel_rfl
theorem decimalCompares_f5 : (Rows.decimalComparesRow.plainKeys == Tryd.pinned.checked.prog.plainKeys) = true := by kernel_rfl
theorem decimalCompares_f6 : (Rows.decimalComparesRow.lifted == Tryd.pinned.checked.prog.liftsFinal) = true := by kernel_rfl
theorem decimalCompares_f7 : Tryd.pinned.checked.prog.stopsHeard = true := by kernel_rfl
theorem decimalCompares_f8 : Tryd.pinned.checked.prog.mayEnter = true := by kernel_rfl
theorem decimalCompares_f9 : laidOutB Tryd.pinned.checked.prog = true := by kernel_rfl
theorem decimalCompares_facts : joinedFacts Tryd.pinned.checked.prog 12 Tryd.f12 Rows.decimalComparesSpec Rows.decimalComparesRow = true := by
  unfold joinedFacts
  exact decimalCompares_andT (decimalCompares_andT (decimalCompares_andT (decimalCompares_andT (decimalCompares_andT (decimalCompares_andT (decimalCompares_andT (decimalCompares_andT (decimalCompares_andT (decimalCompares_andT (decimalCompares_andT (decimalCompares_andT (decimalCompares_andT (decimalCompares_andT (decimalCompares_andT (decimalCompares_andT (decimalCompares_andT (decimalCompares_andT (decimalCompares_andT (decimalCompares_andT (decimalCompares_andT (decimalCompares_andT (decimalCompares_andT (decimalCompares_andT (decimalCompares_andT (decimalCompares_andT (decimalCompares_andT (decimalCompares_andT (decimalCompares_andT (decimalCompares_andT (decimalCompares_andT (by kernel_rfl) decimalCompares_f9) (by kernel_rfl)) (by kernel_rfl)) (by kernel_rfl)) (by kernel_rfl)) (by kernel_rfl)) (by kernel_rfl)) (by kernel_rfl)) decimalCompares_f1) decimalCompares_f2) decimalCompares_f3) decimalCompares_f4) (by kernel_rfl)) (by kernel_rfl)) (by kernel_rfl)) (by kernel_rfl)) (by kernel_rfl)) (by kernel_rfl)) (by kernel_rfl)) (by kernel_rfl)) (by kernel_rfl)) decimalCompares_f5) (by kernel_rfl)) decimalCompares_f7) decimalCompares_f8) decimalCompares_f6) (by kernel_rfl)) (by kernel_rfl)) (by kernel_rfl)) (by kernel_rfl)) (by kernel_rfl)
end Go.Proofs.YtpnljnmpocobjaaDoor.Card
