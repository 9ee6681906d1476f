/-
  The card of CA_RoundRises is proved: for every input the law answers true and its arguments read as before; no condition beyond the row.
-/
import Derived.Test.YtpnljnmpocobjaaGreatDoorX9
import Derived.Test.YtpnljnmpocobjaaGreatDoorX18
set_option linter.unusedVariables false
set_option linter.unusedSimpArgs false
set_option maxRecDepth 100000
namespace Go.Proofs.YtpnljnmpocobjaaGreatDoor.Card
open Go Go.ChangeShapes Go.WideShapes Go.ChangeAt Go.RowKit Go.Ax Go.Proofs
theorem roundRises_lifted (os : Os) (started : os.Started) (H : Type) (enc : TypeId × Value → H) :
    ReturnsInHanded {} Tryz.checked os 4 .any (fun w args => (Rows.roundRisesSpec.pre enc Tryz.prog Tryz.f4 [] false w args ∧ laidMetH Tryz.prog laid w) ∧ sizedMet enc Tryz.prog Tryz.f4 (OpenSpec.ofChange Rows.roundRisesSpec) false w args)
      (Rows.roundRisesSpec.post enc Tryz.prog Tryz.f4 false true false false) := by
  refine returnsInHanded_of_change_and (C := Tryz.checked) (X := fun w _ => laidMetH Tryz.prog laid w) (fun _ _ _ hh h => h.of_heap hh) own started (by kernel_rfl) Tryz.func4
    (ChangeSpec.witness_shaped (enc := enc) (C := Tryz.checked) (os := os) (X := fun w _ => laidMetH Tryz.prog laid w) false (World.doorLaid Tryz.prog 600 os) #[.agg #[.int .i64 0, .int .i64 0], .int .i64 0, .agg #[.bool false, .slice none 0 0, .slice none 0 0], .agg #[.bool false, .slice none 0 0, .slice none 0 0]] 8 rfl (World.shaped_of_RefB (by kernel_rfl) (by kernel_rfl)) (by kernel_rfl) (by kernel_rfl) (by kernel_rfl) (door_met os _)) ?_
  intro W base args ds gs before hval0 hW _ _ hL _
  exact contract 4 Tryz.f4 Rows.roundRisesSpec [23, 24, 30, 30] _ Tryz.params4 rfl rfl (fun H l h => by match l, h with | [a0, a1, a2, a3], _ => exact ⟨rfl, rfl, rfl⟩) (by kernel_rfl) (opL_cons opn_fmt (opL_cons (opn_int Tryz.underlying24) (opL_cons opn_frac (opL_cons opn_frac opL_nil))))
    (fun avs h => by obtain ⟨_, _, rfl, ⟨k, p, rfl, kb, pb⟩, ⟨_, _, rfl, ⟨r, rfl, r1, r2⟩, ⟨_, _, rfl, ⟨neg, ns, dn, rfl, hn, hd⟩, ⟨_, _, rfl, ⟨neg2, ns2, dn2, rfl, hn2, hd2⟩, rfl⟩⟩⟩⟩ := h; exact ret_LawRoundRises k p r r1 r2 neg neg2 ns dn ns2 dn2 hn.1 hd.1 hn2.1 hd2.1 hn.2 hd.2 hn2.2 hd2.2) H enc W args ds gs before hval0 hW hL
end Go.Proofs.YtpnljnmpocobjaaGreatDoor.Card
