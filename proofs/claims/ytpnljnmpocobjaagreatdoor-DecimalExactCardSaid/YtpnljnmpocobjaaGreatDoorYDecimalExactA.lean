/-
  The card of CA_DecimalExact is proved: for every input the law answers true and its arguments read as before; no condition beyond the row.
-/
import Derived.Test.YtpnljnmpocobjaaGreatDoorX12
import Derived.Test.YtpnljnmpocobjaaGreatDoorV32
set_option linter.unusedVariables false
set_option linter.unusedSimpArgs false
set_option maxRecDepth 100000
namespace Go.Proofs.YtpnljnmpocobjaaGreatDoor.Card
open Go Go.ChangeShapes Go.WideShapes Go.ChangeAt Go.RowKit Go.Ax Go.Proofs
theorem decimalExact_lifted (os : Os) (started : os.Started) (H : Type) (enc : TypeId × Value → H) :
    ReturnsInHanded {} Tryz.checked os 14 .any (fun w args => (Rows.decimalExactSpec.pre enc Tryz.prog Tryz.f14 [] false w args ∧ laidMetH Tryz.prog laid w) ∧ sizedMet enc Tryz.prog Tryz.f14 (OpenSpec.ofChange Rows.decimalExactSpec) false w args)
      (Rows.decimalExactSpec.post enc Tryz.prog Tryz.f14 false true false false) := by
  refine returnsInHanded_of_change_and (C := Tryz.checked) (X := fun w _ => laidMetH Tryz.prog laid w) (fun _ _ _ hh h => h.of_heap hh) own started (by kernel_rfl) Tryz.func14
    (ChangeSpec.witness_shaped (enc := enc) (C := Tryz.checked) (os := os) (X := fun w _ => laidMetH Tryz.prog laid w) false (World.doorLaid Tryz.prog 600 os) #[.agg #[.int .i64 0, .int .i64 0, .int .i64 0], .agg #[.int .i64 0, .bool false, .slice none 0 0, .int .i64 0], .agg #[.int .i64 0, .bool false, .slice none 0 0, .int .i64 0], .agg #[.int .i64 0, .bool false, .slice none 0 0, .int .i64 0]] 8 rfl (World.shaped_of_RefB (by kernel_rfl) (by kernel_rfl)) (by kernel_rfl) (by kernel_rfl) (by kernel_rfl) (door_met os _)) ?_
  intro W base args ds gs before hval0 hW _ _ hL _
  exact contract 14 Tryz.f14 Rows.decimalExactSpec [76, 79, 79, 79] _ Tryz.params14 rfl rfl (fun H l h => by match l, h with | [a0, a1, a2, a3], _ => exact ⟨rfl, rfl, rfl⟩) (by kernel_rfl) (opL_cons opn_ctx (opL_cons opn_dec (opL_cons opn_dec (opL_cons opn_dec opL_nil))))
    (fun avs h => by obtain ⟨_, _, rfl, ⟨p, g, r, rfl, pb, gb, rb⟩, ⟨_, _, rfl, ⟨k1, n1, c1, e1, rfl, b1, w1, x1⟩, ⟨_, _, rfl, ⟨k2, n2, c2, e2, rfl, b2, w2, x2⟩, ⟨_, _, rfl, ⟨k3, n3, c3, e3, rfl, b3, w3, x3⟩, rfl⟩⟩⟩⟩ := h; exact ret_LawDecimalExact p g r rb.1 rb.2 ⟨k1, n1, c1, e1⟩ ⟨k2, n2, c2, e2⟩ ⟨k3, n3, c3, e3⟩ ⟨b1.1, b1.2, x1.1, x1.2, w1.1, w1.2⟩ ⟨b2.1, b2.2, x2.1, x2.2, w2.1, w2.2⟩ ⟨b3.1, b3.2, x3.1, x3.2, w3.1, w3.2⟩) H enc W args ds gs before hval0 hW hL
end Go.Proofs.YtpnljnmpocobjaaGreatDoor.Card
