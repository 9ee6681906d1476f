/-
  The card of DecimalMoney is proved: for every input the law answers true and its arguments read as before; no condition beyond the row.
-/
import Derived.Test.YtpnljnmpocobjaaDoorX20
import Derived.Test.YtpnljnmpocobjaaDoorX21
set_option linter.unusedVariables false
set_option linter.unusedSimpArgs false
set_option maxRecDepth 100000
namespace Go.Proofs.YtpnljnmpocobjaaDoor.Card
open Go Go.ChangeShapes Go.WideShapes Go.ChangeAt Go.RowKit Go.Ax Go.Proofs
theorem decimalMoney_lifted (os : Os) (started : os.Started) (H : Type) (enc : TypeId × Value → H) :
    ReturnsInHanded {} Tryd.checked os 7 .any (fun w args => (Rows.decimalMoneySpec.pre enc Tryd.prog Tryd.f7 [] false w args ∧ laidMetH Tryd.prog laid w) ∧ sizedMet enc Tryd.prog Tryd.f7 (OpenSpec.ofChange Rows.decimalMoneySpec) false w args)
      (Rows.decimalMoneySpec.post enc Tryd.prog Tryd.f7 false true false false) := by
  refine returnsInHanded_of_change_and (C := Tryd.checked) (X := fun w _ => laidMetH Tryd.prog laid w) (fun _ _ _ hh h => h.of_heap hh) own started (by kernel_rfl) Tryd.func7
    (ChangeSpec.witness_shaped (enc := enc) (C := Tryd.checked) (os := os) (X := fun w _ => laidMetH Tryd.prog laid w) false (World.doorLaid Tryd.prog 600 os) #[.agg #[.int .i64 0, .int .i64 0, .int .i64 0], .slice none 0 0] 8 rfl (World.shaped_of_RefB (by kernel_rfl) (by kernel_rfl)) (by kernel_rfl) (by kernel_rfl) (by kernel_rfl) (door_met os _)) ?_
  intro W base args ds gs before hval0 hW _ _ hL _
  exact contract 7 Tryd.f7 Rows.decimalMoneySpec [71, 72] _ Tryd.params7 rfl rfl (fun H l h => by match l, h with | [a0, a1], _ => exact ⟨rfl, rfl, rfl⟩) (by kernel_rfl) (opL_cons opn_ctx (opL_cons opn_decs opL_nil))
    (fun avs h => by obtain ⟨_, _, rfl, ⟨p, g, r, rfl, pb, gb, rb⟩, ⟨_, _, rfl, ⟨l, rfl, hl, hll⟩, rfl⟩⟩ := h; exact ret_LawDecimalMoney p g r rb.1 rb.2 l hl hll) H enc W args ds gs before hval0 hW hL
end Go.Proofs.YtpnljnmpocobjaaDoor.Card
