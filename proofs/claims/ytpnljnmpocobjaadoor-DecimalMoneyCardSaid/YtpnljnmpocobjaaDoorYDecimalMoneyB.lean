/-
  The card of DecimalMoney is proved: for every input the law answers true and its arguments read as before; no condition beyond the row.
-/
import Derived.Test.YtpnljnmpocobjaaDoorX9
set_option linter.unusedVariables false
set_option linter.unusedSimpArgs false
set_option maxRecDepth 100000
namespace Go.Proofs.YtpnljnmpocobjaaDoor.Card
open Go Go.ChangeShapes Go.WideShapes Go.ChangeAt Go.RowKit Go.Ax Go.Proofs
theorem decimalMoney_andT {a b : Bool} (ha : a = true) (hb : b = true) : (a && b) = true := by rw [ha, hb]; rfl
theorem decimalMoney_f1 : (Rows.decimalMoneyRow.inPlace == Tryd.pinned.checked.prog.inPlace 7) = true := by kernel_rfl
theorem decimalMoney_f2 : (Rows.decimalMoneyRow.unfollowed == Tryd.pinned.checked.prog.unfollowed 7) = true := by kernel_rfl
theorem decimalMoney_f3 : (Rows.decimalMoneyRow.recurses == Tryd.pinned.checked.prog.recurses 7) = true := by kernel_rfl
theorem decimalMoney_f4 : (Rows.decimalMoneyRow.named == Tryd.pinned.checked.prog.varsNamed 7) = true := by kernel_rfl
theorem decimalMoney_f5 : (Rows.decimalMoneyRow.plainKeys == Tryd.pinned.checked.prog.plainKeys) = true := by kernel_rfl
theorem decimalMoney_f6 : (Rows.decimalMoneyRow.lifted == Tryd.pinned.checked.prog.liftsFinal) = true := by kernel_rfl
theorem decimalMoney_f7 : Tryd.pinned.checked.prog.stopsHeard = true := by kernel_rfl
theorem decimalMoney_f8 : Tryd.pinned.checked.prog.mayEnter = true := by kernel_rfl
theorem decimalMoney_f9 : laidOutB Tryd.pinned.checked.prog = true := by kernel_rfl
theorem decimalMoney_facts : joinedFacts Tryd.pinned.checked.prog 7 Tryd.f7 Rows.decimalMoneySpec Rows.decimalMoneyRow = true := by
  unfold joinedFacts
  exact decimalMoney_andT (decimalMoney_andT (decimalMoney_andT (decimalMoney_andT (decimalMoney_andT (decimalMoney_andT (decimalMoney_andT (decimalMoney_andT (decimalMoney_andT (decimalMoney_andT (decimalMoney_andT (decimalMoney_andT (decimalMoney_andT (decimalMoney_andT (decimalMoney_andT (decimalMoney_andT (decimalMoney_andT (decimalMoney_andT (decimalMoney_andT (decimalMoney_andT (decimalMoney_andT (decimalMoney_andT (decimalMoney_andT (decimalMoney_andT (decimalMoney_andT (decimalMoney_andT (decimalMoney_andT (decimalMoney_andT (decimalMoney_andT (decimalMoney_andT (decimalMoney_andT (by kernel_rfl) decimalMoney_f9) (by kernel_rfl)) (by kernel_rfl)) (by kernel_rfl)) (by kernel_rfl)) (by kernel_rfl)) (by kernel_rfl)) (by kernel_rfl)) decimalMoney_f1) decimalMoney_f2) decimalMoney_f3) decimalMoney_f4) (by kernel_rfl)) (by kernel_rfl)) (by kernel_rfl)) (by kernel_rfl)) (by kernel_rfl)) (by kernel_rfl)) (by kernel_rfl)) (by kernel_rfl)) (by kernel_rfl)) decimalMoney_f5) (by kernel_rfl)) decimalMoney_f7) decimalMoney_f8) decimalMoney_f6) (by kernel_rfl)) (by kernel_rfl)) (by kernel_rfl)) (by kernel_rfl)) (by kernel_rfl)
end Go.Proofs.YtpnljnmpocobjaaDoor.Card
