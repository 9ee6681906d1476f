/-
  The card of CB_DecimalKeeps is proved: for every input the law answers true and its arguments read as before; no condition beyond the row.
-/
import Derived.Test.YtpnljnmpocobjaaDoorX9
set_option linter.unusedVariables false
set_option linter.unusedSimpArgs false
set_option maxRecDepth 100000
namespace Go.Proofs.YtpnljnmpocobjaaDoor.Card
open Go Go.ChangeShapes Go.WideShapes Go.ChangeAt Go.RowKit Go.Ax Go.Proofs
theorem decimalKeeps_andT {a b : Bool} (ha : a = true) (hb : b = true) : (a && b) = true := by rw [ha, hb]; rfl
theorem decimalKeeps_f1 : (Rows.decimalKeepsRow.inPlace == Tryd.pinned.checked.prog.inPlace 13) = true := by kernel_rfl
theorem decimalKeeps_f2 : (Rows.decimalKeepsRow.unfollowed == Tryd.pinned.checked.prog.unfollowed 13) = true := by kernel_rfl
theorem decimalKeeps_f3 : (Rows.decimalKeepsRow.recurses == Tryd.pinned.checked.prog.recurses 13) = true := by kernel_rfl
theorem decimalKeeps_f4 : (Rows.decimalKeepsRow.named == Tryd.pinned.checked.prog.varsNamed 13) = true := by kernel_rfl
theorem decimalKeeps_f5 : (Rows.decimalKeepsRow.plainKeys == Tryd.pinned.checked.prog.plainKeys) = true := by kernel_rfl
theorem decimalKeeps_f6 : (Rows.decimalKeepsRow.lifted == Tryd.pinned.checked.prog.liftsFinal) = true := by kernel_rfl
theorem decimalKeeps_f7 : Tryd.pinned.checked.prog.stopsHeard = true := by kernel_rfl
theorem decimalKeeps_f8 : Tryd.pinned.checked.prog.mayEnter = true := by kernel_rfl
theorem decimalKeeps_f9 : laidOutB Tryd.pinned.checked.prog = true := by kernel_rfl
theorem decimalKeeps_facts : joinedFacts Tryd.pinned.checked.prog 13 Tryd.f13 Rows.decimalKeepsSpec Rows.decimalKeepsRow = true := by
  unfold joinedFacts
  exact decimalKeeps_andT (decimalKeeps_andT (decimalKeeps_andT (decimalKeeps_andT (decimalKeeps_andT (decimalKeeps_andT (decimalKeeps_andT (decimalKeeps_andT (decimalKeeps_andT (decimalKeeps_andT (decimalKeeps_andT (decimalKeeps_andT (decimalKeeps_andT (decimalKeeps_andT (decimalKeeps_andT (decimalKeeps_andT (decimalKeeps_andT (decimalKeeps_andT (decimalKeeps_andT (decimalKeeps_andT (decimalKeeps_andT (decimalKeeps_andT (decimalKeeps_andT (decimalKeeps_andT (decimalKeeps_andT (decimalKeeps_andT (decimalKeeps_andT (decimalKeeps_andT (decimalKeeps_andT (decimalKeeps_andT (decimalKeeps_andT (by kernel_rfl) decimalKeeps_f9) (by kernel_rfl)) (by kernel_rfl)) (by kernel_rfl)) (by kernel_rfl)) (by kernel_rfl)) (by kernel_rfl)) (by kernel_rfl)) decimalKeeps_f1) decimalKeeps_f2) decimalKeeps_f3) decimalKeeps_f4) (by kernel_rfl)) (by kernel_rfl)) (by kernel_rfl)) (by kernel_rfl)) (by kernel_rfl)) (by kernel_rfl)) (by kernel_rfl)) (by kernel_rfl)) (by kernel_rfl)) decimalKeeps_f5) (by kernel_rfl)) decimalKeeps_f7) decimalKeeps_f8) decimalKeeps_f6) (by kernel_rfl)) (by kernel_rfl)) (by kernel_rfl)) (by kernel_rfl)) (by kernel_rfl)
end Go.Proofs.YtpnljnmpocobjaaDoor.Card
