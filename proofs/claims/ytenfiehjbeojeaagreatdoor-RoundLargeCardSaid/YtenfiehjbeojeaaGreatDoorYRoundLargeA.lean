/-
  The card of CA_RoundLarge is proved: for every input the law answers true and its arguments read as before; no condition beyond the row.
-/
import Derived.Test.YtenfiehjbeojeaaGreatDoorX11
import Derived.Test.YtenfiehjbeojeaaGreatDoorX22
set_option linter.unusedVariables false
set_option linter.unusedSimpArgs false
set_option maxRecDepth 100000
namespace Go.Proofs.YtenfiehjbeojeaaGreatDoor.Card
open Go Go.ChangeShapes Go.WideShapes Go.ChangeAt Go.RowKit Go.Ax Go.Proofs
theorem roundLarge_lifted (os : Os) (started : os.Started) (H : Type) (enc : TypeId × Value → H) :
    ReturnsInHanded {} Tryz.checked os 3 .any (fun w args => (Rows.roundLargeSpec.pre enc Tryz.prog Tryz.f3 [] false w args ∧ laidMetH Tryz.prog laid w) ∧ sizedMet enc Tryz.prog Tryz.f3 (OpenSpec.ofChange Rows.roundLargeSpec) false w args)
      (Rows.roundLargeSpec.post enc Tryz.prog Tryz.f3 false true false false) := by
  refine returnsInHanded_of_change_and (C := Tryz.checked) (X := fun w _ => laidMetH Tryz.prog laid w) (fun _ _ _ hh h => h.of_heap hh) own started (by kernel_rfl) Tryz.func3
    (ChangeSpec.witness_shaped (enc := enc) (C := Tryz.checked) (os := os) (X := fun w _ => laidMetH Tryz.prog laid w) false (World.doorLaid Tryz.prog 600 os) #[.agg #[.int .i64 0, .int .i64 0], .int .i64 0, .agg #[.bool false, .slice none 0 0, .slice none 0 0]] 8 rfl (World.shaped_of_RefB (by kernel_rfl) (by kernel_rfl)) (by kernel_rfl) (by kernel_rfl) (by kernel_rfl) (door_met os _)) ?_
  intro W base args ds gs before hval0 hW _ _ hL _
  exact contract 3 Tryz.f3 Rows.roundLargeSpec [23, 24, 30] _ Tryz.params3 rfl rfl (fun H l h => by match l, h with | [a0, a1, a2], _ => exact ⟨rfl, rfl, rfl⟩) (by kernel_rfl) (opL_cons opn_fmt (opL_cons (opn_int Tryz.underlying24) (opL_cons opn_frac opL_nil)))
    (fun avs h => by obtain ⟨_, _, rfl, ⟨k, p, rfl, kb, pb⟩, ⟨_, _, rfl, ⟨r, rfl, r1, r2⟩, ⟨_, _, rfl, ⟨neg, ns, dn, rfl, hn, hd⟩, rfl⟩⟩⟩ := h; exact ret_LawRoundLarge k p r r1 r2 neg ns dn hn.1 hd.1 hn.2 hd.2) H enc W args ds gs before hval0 hW hL
end Go.Proofs.YtenfiehjbeojeaaGreatDoor.Card
