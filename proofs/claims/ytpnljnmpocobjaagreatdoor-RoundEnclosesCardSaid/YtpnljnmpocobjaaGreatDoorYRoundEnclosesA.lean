/-
  The card of CA_RoundEncloses is proved: for every input the law answers true and its arguments read as before; no condition beyond the row.
-/
import Derived.Test.YtpnljnmpocobjaaGreatDoorZ11
import Derived.Test.YtpnljnmpocobjaaGreatDoorZ31
set_option linter.unusedVariables false
set_option linter.unusedSimpArgs false
set_option maxRecDepth 100000
namespace Go.Proofs.YtpnljnmpocobjaaGreatDoor.Card
open Go Go.ChangeShapes Go.WideShapes Go.ChangeAt Go.RowKit Go.Ax Go.Proofs
theorem roundEncloses_lifted (os : Os) (started : os.Started) (H : Type) (enc : TypeId × Value → H) :
    ReturnsInHanded {} Tryz.checked os 7 .any (fun w args => (Rows.roundEnclosesSpec.pre enc Tryz.prog Tryz.f7 [] false w args ∧ laidMetH Tryz.prog laid w) ∧ sizedMet enc Tryz.prog Tryz.f7 (OpenSpec.ofChange Rows.roundEnclosesSpec) false w args)
      (Rows.roundEnclosesSpec.post enc Tryz.prog Tryz.f7 false true false false) := by
  refine returnsInHanded_of_change_and (C := Tryz.checked) (X := fun w _ => laidMetH Tryz.prog laid w) (fun _ _ _ hh h => h.of_heap hh) own started (by kernel_rfl) Tryz.func7
    (ChangeSpec.witness_shaped (enc := enc) (C := Tryz.checked) (os := os) (X := fun w _ => laidMetH Tryz.prog laid w) false (World.doorLaid Tryz.prog 600 os) #[.agg #[.int .i64 0, .int .i64 0], .agg #[.bool false, .slice none 0 0, .slice none 0 0], .slice none 0 0] 8 rfl (World.shaped_of_RefB (by kernel_rfl) (by kernel_rfl)) (by kernel_rfl) (by kernel_rfl) (by kernel_rfl) (door_met os _)) ?_
  intro W base args ds gs before hval0 hW _ _ hL _
  exact contract 7 Tryz.f7 Rows.roundEnclosesSpec [23, 30, 26] _ Tryz.params7 rfl rfl (fun H l h => by match l, h with | [a0, a1, a2], _ => exact ⟨rfl, rfl, rfl⟩) (by kernel_rfl) (opL_cons opn_fmt (opL_cons opn_frac (opL_cons opn_nat opL_nil)))
    (fun avs h => by obtain ⟨_, _, rfl, ⟨k, p, rfl, kb, pb⟩, ⟨_, _, rfl, ⟨neg, ns, dn, rfl, hn, hd⟩, ⟨_, _, rfl, ⟨xs, rfl, hx⟩, rfl⟩⟩⟩ := h; exact ret_LawRoundEncloses k p neg ns dn xs hn.1 hd.1 hx.1 hn.2 hd.2 hx.2) H enc W args ds gs before hval0 hW hL
end Go.Proofs.YtpnljnmpocobjaaGreatDoor.Card
