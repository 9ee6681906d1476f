/-
  The card of CB_DecimalAdds is proved: for every input the law answers true and its arguments read as before; no condition beyond the row.
-/
import Derived.Test.YtpnljnmpocobjaaGreatDoorX11
set_option linter.unusedVariables false
set_option linter.unusedSimpArgs false
set_option maxRecDepth 100000
namespace Go.Proofs.YtpnljnmpocobjaaGreatDoor.Card
open Go Go.ChangeShapes Go.WideShapes Go.ChangeAt Go.RowKit Go.Ax Go.Proofs
theorem decimalAdds_andT {a b : Bool} (ha : a = true) (hb : b = true) : (a && b) = true := by rw [ha, hb]; rfl
theorem decimalAdds_f1 : (Rows.decimalAddsRow.inPlace == Tryz.pinned.checked.prog.inPlace 10) = true := by kernel_rfl
theorem decimalAdds_f2 : (Rows.decimalAddsRow.unfollowed == Tryz.pinned.checked.prog.unfollowed 10) = true := by kernel_rfl
theorem decimalAdds_f3 : (Rows.decimalAddsRow.recurses == Tryz.pinned.checked.prog.recurses 10) = true := by kernel_rfl
theorem decimalAdds_f4 : (Rows.decimalAddsRow.named == Tryz.pinned.checked.prog.varsNamed 10) = true := by kernel_rfl
theorem decimalAdds_f5 : (Rows.decimalAddsRow.plainKeys == Tryz.pinned.checked.prog.plainKeys) = true := by kernel_rfl
theorem decimalAdds_f6 : (Rows.decimalAddsRow.lifted == Tryz.pinned.checked.prog.liftsFinal) = true := by kernel_rfl
theorem decimalAdds_f7 : Tryz.pinned.checked.prog.stopsHeard = true := by kernel_rfl
theorem decimalAdds_f8 : Tryz.pinned.checked.prog.mayEnter = true := by kernel_rfl
theorem decimalAdds_f9 : laidOutB Tryz.pinned.checked.prog = true := by kernel_rfl
theorem decimalAdds_facts : joinedFacts Tryz.pinned.checked.prog 10 Tryz.f10 Rows.decimalAddsSpec Rows.decimalAddsRow = true := by
  unfold joinedFacts
  exact decimalAdds_andT (decimalAdds_andT (decimalAdds_andT (decimalAdds_andT (decimalAdds_andT (decimalAdds_andT (decimalAdds_andT (decimalAdds_andT (decimalAdds_andT (decimalAdds_andT (decimalAdds_andT (decimalAdds_andT (decimalAdds_andT (decimalAdds_andT (decimalAdds_andT (decimalAdds_andT (decimalAdds_andT (decimalAdds_andT (decimalAdds_andT (decimalAdds_andT (decimalAdds_andT (decimalAdds_andT (decimalAdds_andT (decimalAdds_andT (decimalAdds_andT (decimalAdds_andT (decimalAdds_andT (decimalAdds_andT (decimalAdds_andT (decimalAdds_andT (decimalAdds_andT (by kernel_rfl) decimalAdds_f9) (by kernel_rfl)) (by kernel_rfl)) (by kernel_rfl)) (by kernel_rfl)) (by kernel_rfl)) (by kernel_rfl)) (by kernel_rfl)) decimalAdds_f1) decimalAdds_f2) decimalAdds_f3) decimalAdds_f4) (by kernel_rfl)) (by kernel_rfl)) (by kernel_rfl)) (by kernel_rfl)) (by kernel_rfl)) (by kernel_rfl)) (by kernel_rfl)) (by kernel_rfl)) (by kernel_rfl)) decimalAdds_f5) (by kernel_rfl)) decimalAdds_f7) decimalAdds_f8) decimalAdds_f6) (by kernel_rfl)) (by kernel_rfl)) (by kernel_rfl)) (by kernel_rfl)) (by kernel_rfl)
end Go.Proofs.YtpnljnmpocobjaaGreatDoor.Card
