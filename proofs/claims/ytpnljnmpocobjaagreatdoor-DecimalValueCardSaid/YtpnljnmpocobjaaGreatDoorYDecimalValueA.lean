/-
  The card of CA_DecimalValue is proved: for every input the law answers true and its arguments read as before; no condition beyond the row.
-/
import Derived.Test.YtpnljnmpocobjaaGreatDoorX12
import Derived.Test.YtpnljnmpocobjaaGreatDoorX29
set_option linter.unusedVariables false
set_option linter.unusedSimpArgs false
set_option maxRecDepth 100000
namespace Go.Proofs.YtpnljnmpocobjaaGreatDoor.Card
open Go Go.ChangeShapes Go.WideShapes Go.ChangeAt Go.RowKit Go.Ax Go.Proofs
theorem decimalValue_lifted (os : Os) (started : os.Started) (H : Type) (enc : TypeId × Value → H) :
    ReturnsInHanded {} Tryz.checked os 15 .any (fun w args => (Rows.decimalValueSpec.pre enc Tryz.prog Tryz.f15 [] false w args ∧ laidMetH Tryz.prog laid w) ∧ sizedMet enc Tryz.prog Tryz.f15 (OpenSpec.ofChange Rows.decimalValueSpec) false w args)
      (Rows.decimalValueSpec.post enc Tryz.prog Tryz.f15 false true false false) := by
  refine returnsInHanded_of_change_and (C := Tryz.checked) (X := fun w _ => laidMetH Tryz.prog laid w) (fun _ _ _ hh h => h.of_heap hh) own started (by kernel_rfl) Tryz.func15
    (ChangeSpec.witness_shaped (enc := enc) (C := Tryz.checked) (os := os) (X := fun w _ => laidMetH Tryz.prog laid w) false (World.doorLaid Tryz.prog 600 os) #[.agg #[.int .i64 0, .bool false, .slice none 0 0, .int .i64 0]] 8 rfl (World.shaped_of_RefB (by kernel_rfl) (by kernel_rfl)) (by kernel_rfl) (by kernel_rfl) (by kernel_rfl) (door_met os _)) ?_
  intro W base args ds gs before hval0 hW _ _ hL _
  exact contract 15 Tryz.f15 Rows.decimalValueSpec [79] _ Tryz.params15 rfl rfl (fun H l h => by match l, h with | [a0], _ => exact ⟨rfl, rfl, rfl⟩) (by kernel_rfl) (opL_cons opn_dec opL_nil)
    (fun avs h => by obtain ⟨_, _, rfl, ⟨k1, n1, c1, e1, rfl, b1, w1, x1⟩, rfl⟩ := h; exact ret_LawDecimalValue ⟨k1, n1, c1, e1⟩ ⟨b1.1, b1.2, x1.1, x1.2, w1.1, w1.2⟩) H enc W args ds gs before hval0 hW hL
end Go.Proofs.YtpnljnmpocobjaaGreatDoor.Card
