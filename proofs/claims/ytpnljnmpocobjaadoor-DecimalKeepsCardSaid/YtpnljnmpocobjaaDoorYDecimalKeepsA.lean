/-
  The card of CA_DecimalKeeps is proved: for every input the law answers true and its arguments read as before; no condition beyond the row.
-/
import Derived.Test.YtpnljnmpocobjaaDoorX10
import Derived.Test.YtpnljnmpocobjaaDoorX16
set_option linter.unusedVariables false
set_option linter.unusedSimpArgs false
set_option maxRecDepth 100000
namespace Go.Proofs.YtpnljnmpocobjaaDoor.Card
open Go Go.ChangeShapes Go.WideShapes Go.ChangeAt Go.RowKit Go.Ax Go.Proofs
theorem decimalKeeps_lifted (os : Os) (started : os.Started) (H : Type) (enc : TypeId × Value → H) :
    ReturnsInHanded {} Tryd.checked os 13 .any (fun w args => (Rows.decimalKeepsSpec.pre enc Tryd.prog Tryd.f13 [] false w args ∧ laidMetH Tryd.prog laid w) ∧ sizedMet enc Tryd.prog Tryd.f13 (OpenSpec.ofChange Rows.decimalKeepsSpec) false w args)
      (Rows.decimalKeepsSpec.post enc Tryd.prog Tryd.f13 false true false false) := by
  refine returnsInHanded_of_change_and (C := Tryd.checked) (X := fun w _ => laidMetH Tryd.prog laid w) (fun _ _ _ hh h => h.of_heap hh) own started (by kernel_rfl) Tryd.func13
    (ChangeSpec.witness_shaped (enc := enc) (C := Tryd.checked) (os := os) (X := fun w _ => laidMetH Tryd.prog laid w) false (World.doorLaid Tryd.prog 600 os) #[.agg #[.int .i64 0, .int .i64 0, .int .i64 0], .agg #[.int .i64 0, .bool false, .slice none 0 0, .int .i64 0]] 8 rfl (World.shaped_of_RefB (by kernel_rfl) (by kernel_rfl)) (by kernel_rfl) (by kernel_rfl) (by kernel_rfl) (door_met os _)) ?_
  intro W base args ds gs before hval0 hW _ _ hL _
  exact contract 13 Tryd.f13 Rows.decimalKeepsSpec [71, 77] _ Tryd.params13 rfl rfl (fun H l h => by match l, h with | [a0, a1], _ => exact ⟨rfl, rfl, rfl⟩) (by kernel_rfl) (opL_cons opn_ctx (opL_cons opn_dec opL_nil))
    (fun avs h => by obtain ⟨_, _, rfl, ⟨p, g, r, rfl, pb, gb, rb⟩, ⟨_, _, rfl, ⟨k1, n1, c1, e1, rfl, b1, w1, x1⟩, rfl⟩⟩ := h; exact ret_LawDecimalKeeps p g r rb.1 rb.2 ⟨k1, n1, c1, e1⟩ ⟨b1.1, b1.2, x1.1, x1.2, w1.1, w1.2⟩) H enc W args ds gs before hval0 hW hL
end Go.Proofs.YtpnljnmpocobjaaDoor.Card
