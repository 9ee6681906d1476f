/-
  The card of CB_DecimalReduces is proved: for every input the law answers true and its arguments read as before; no condition beyond the row.
-/
import Derived.Test.YtpnljnmpocobjaaDoorX9
set_option linter.unusedVariables false
set_option linter.unusedSimpArgs false
set_option maxRecDepth 100000
namespace Go.Proofs.YtpnljnmpocobjaaDoor.Card
open Go Go.ChangeShapes Go.WideShapes Go.ChangeAt Go.RowKit Go.Ax Go.Proofs
theorem decimalReduces_andT {a b : Bool} (ha : a = true) (hb : b = true) : (a && b) = true := by rw [ha, hb]; rfl
theorem decimalReduces_f1 : (Rows.decimalReducesRow.inPlace == Tryd.pinned.checked.prog.inPlace 10) = true := by kernel_rfl
theorem decimalReduces_f2 : (Rows.decimalReducesRow.unfollowed == Tryd.pinned.checked.prog.unfollowed 10) = true := by kernel_rfl
theorem decimalReduces_f3 : (Rows.decimalReducesRow.recurses == Tryd.pinned.checked.prog.recurses 10) = true := by kernel_rfl
theorem decimalReduces_f4 : (Rows.decimalReducesRow.named == Tryd.pinned.checked.prog.varsNamed 10) = true := by kernel_rfl
theorem decimalReduces_f5 : (Rows.decimalReducesRow.plainKeys == Tryd.pinned.checked.prog.plainKeys) = true := by kernel_rfl
theorem decimalReduces_f6 : (Rows.decimalReducesRow.lifted == Tryd.pinned.checked.prog.liftsFinal) = true := by kernel_rfl
theorem decimalReduces_f7 : Tryd.pinned.checked.prog.stopsHeard = true := by kernel_rfl
theorem decimalReduces_f8 : Tryd.pinned.checked.prog.mayEnter = true := by kernel_rfl
theorem decimalReduces_f9 : laidOutB Tryd.pinned.checked.prog = true := by kernel_rfl
theorem decimalReduces_facts : joinedFacts Tryd.pinned.checked.prog 10 Tryd.f10 Rows.decimalReducesSpec Rows.decimalReducesRow = true := by
  unfold joinedFacts
  exact decimalReduces_andT (decimalReduces_andT (decimalReduces_andT (decimalReduces_andT (decimalReduces_andT (decimalReduces_andT (decimalReduces_andT (decimalReduces_andT (decimalReduces_andT (decimalReduces_andT (decimalReduces_andT (decimalReduces_andT (decimalReduces_andT (decimalReduces_andT (decimalReduces_andT (decimalReduces_andT (decimalReduces_andT (decimalReduces_andT (decimalReduces_andT (decimalReduces_andT (decimalReduces_andT (decimalReduces_andT (decimalReduces_andT (decimalReduces_andT (decimalReduces_andT (decimalReduces_andT (decimalReduces_andT (decimalReduces_andT (decimalReduces_andT (decimalReduces_andT (decimalReduces_andT (by kernel_rfl) decimalReduces_f9) (by kernel_rfl)) (by kernel_rfl)) (by kernel_rfl)) (by kernel_rfl)) (by kernel_rfl)) (by kernel_rfl)) (by kernel_rfl)) decimalReduces_f1) decimalReduces_f2) decimalReduces_f3) decimalReduces_f4) (by kernel_rfl)) (by kernel_rfl)) (by kernel_rfl)) (by kernel_rfl)) (by kernel_rfl)) (by kernel_rfl)) (by kernel_rfl)) (by kernel_rfl)) (by kernel_rfl)) decimalReduces_f5) (by kernel_rfl)) decimalReduces_f7) decimalReduces_f8) decimalReduces_f6) (by kernel_rfl)) (by kernel_rfl)) (by kernel_rfl)) (by kernel_rfl)) (by kernel_rfl)
end Go.Proofs.YtpnljnmpocobjaaDoor.Card
