/-
  The card of DecimalLarge is proved: for every input the law answers true and its arguments read as before; no condition beyond the row.
-/
import Derived.Test.YtenfiehjbeojeaaGreatDoorV38
import Derived.Test.YtenfiehjbeojeaaGreatDoorV41
set_option linter.unusedVariables false
set_option linter.unusedSimpArgs false
set_option maxRecDepth 100000
namespace Go.Proofs.YtenfiehjbeojeaaGreatDoor.Card
open Go Go.ChangeShapes Go.WideShapes Go.ChangeAt Go.RowKit Go.Ax Go.Proofs
theorem decimalLarge_lifted (os : Os) (started : os.Started) (H : Type) (enc : TypeId × Value → H) (F : Stop.Interp) :
    ReturnsInHanded { calm := true } Tryz.checked os 4 .any (fun w args => (Rows.decimalLargeSpec.pre enc Tryz.prog Tryz.f4 [] false w args ∧ laidMetH Tryz.prog laid w) ∧ sizedMet enc Tryz.prog Tryz.f4 (OpenSpec.ofChange Rows.decimalLargeSpec) false w args)
      ((OpenSpec.ofChange Rows.decimalLargeSpec).postWith enc Tryz.prog Tryz.f4 F (outsideKept [.timePasses]) false true false) := by
  refine Go.Clock.returns_of_change (C := Tryz.checked) (X := fun w _ => laidMetH Tryz.prog laid w) (fun _ _ _ hh h => h.of_heap hh) own started (by kernel_rfl) Tryz.func4
    (Go.Clock.witness_at (enc := enc) (C := Tryz.checked) (os := os) (X := fun w _ => laidMetH Tryz.prog laid w) (World.doorLaid Tryz.prog 600 os) #[.agg #[.int .i64 0, .int .i64 0, .int .i64 0], .agg #[.int .i64 0, .bool false, .slice none 0 0, .int .i64 0], .agg #[.int .i64 0, .bool false, .slice none 0 0, .int .i64 0]] 8 rfl (World.shaped_of_RefB (by kernel_rfl) (by kernel_rfl)) (by kernel_rfl) (by kernel_rfl) (by kernel_rfl) (door_met os _)) ?_
  intro W base args ds gs before hval0 hW _ _ hL _
  exact contractT 4 Tryz.f4 Rows.decimalLargeSpec [56, 59, 59] _ Tryz.params4 rfl rfl (fun H l h => by match l, h with | [a0, a1, a2], _ => exact ⟨rfl, rfl, rfl⟩) (by kernel_rfl) (opL_cons opn_ctx (opL_cons opn_dec (opL_cons opn_dec opL_nil)))
    (fun avs h => by obtain ⟨_, _, rfl, ⟨p, g, r, rfl, pb, gb, rb⟩, ⟨_, _, rfl, ⟨k1, n1, c1, e1, rfl, b1, w1, x1⟩, ⟨_, _, rfl, ⟨k2, n2, c2, e2, rfl, b2, w2, x2⟩, rfl⟩⟩⟩ := h; exact ret_LawDecimalLarge p g r ⟨k1, n1, c1, e1⟩ ⟨k2, n2, c2, e2⟩ ⟨b1.1, b1.2, x1.1, x1.2, w1.1, w1.2⟩ ⟨b2.1, b2.2, x2.1, x2.2, w2.1, w2.2⟩) H enc W args ds gs before hval0 hW hL
end Go.Proofs.YtenfiehjbeojeaaGreatDoor.Card
