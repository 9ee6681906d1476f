/-
  The card of RoundKeeps is proved: for every input the law answers true and its arguments read as before; no condition beyond the row.
-/
import Derived.Test.YtpnljnmpocobjaaDoorX9
import Derived.Test.YtpnljnmpocobjaaDoorX15
set_option linter.unusedVariables false
set_option linter.unusedSimpArgs false
set_option maxRecDepth 100000
namespace Go.Proofs.YtpnljnmpocobjaaDoor.Card
open Go Go.ChangeShapes Go.WideShapes Go.ChangeAt Go.RowKit Go.Ax Go.Proofs
theorem roundKeeps_lifted (os : Os) (started : os.Started) (H : Type) (enc : TypeId × Value → H) :
    ReturnsInHanded {} Tryd.checked os 6 .any (fun w args => (Rows.roundKeepsSpec.pre enc Tryd.prog Tryd.f6 [] false w args ∧ laidMetH Tryd.prog laid w) ∧ sizedMet enc Tryd.prog Tryd.f6 (OpenSpec.ofChange Rows.roundKeepsSpec) false w args)
      (Rows.roundKeepsSpec.post enc Tryd.prog Tryd.f6 false true false false) := by
  refine returnsInHanded_of_change_and (C := Tryd.checked) (X := fun w _ => laidMetH Tryd.prog laid w) (fun _ _ _ hh h => h.of_heap hh) own started (by kernel_rfl) Tryd.func6
    (ChangeSpec.witness_shaped (enc := enc) (C := Tryd.checked) (os := os) (X := fun w _ => laidMetH Tryd.prog laid w) false (World.doorLaid Tryd.prog 600 os) #[.agg #[.int .i64 0, .int .i64 0], .int .i64 0, .slice none 0 0] 8 rfl (World.shaped_of_RefB (by kernel_rfl) (by kernel_rfl)) (by kernel_rfl) (by kernel_rfl) (by kernel_rfl) (door_met os _)) ?_
  intro W base args ds gs before hval0 hW _ _ hL _
  exact contract 6 Tryd.f6 Rows.roundKeepsSpec [42, 22, 24] _ Tryd.params6 rfl rfl (fun H l h => by match l, h with | [a0, a1, a2], _ => exact ⟨rfl, rfl, rfl⟩) (by kernel_rfl) (opL_cons opn_fmt (opL_cons (opn_int Tryd.underlying22) (opL_cons opn_nat opL_nil)))
    (fun avs h => by obtain ⟨_, _, rfl, ⟨k, p, rfl, kb, pb⟩, ⟨_, _, rfl, ⟨r, rfl, r1, r2⟩, ⟨_, _, rfl, ⟨xs, rfl, hx⟩, rfl⟩⟩⟩ := h; exact ret_LawRoundKeeps k p r r1 r2 xs hx.1 hx.2) H enc W args ds gs before hval0 hW hL
theorem roundKeeps_holds : Rows.RoundKeepsSaid :=
  OpenClaim.holds_of_wide 6 Tryd.f6 rfl rfl rfl rfl rfl rfl rfl ⟨rfl, rfl, rfl, rfl, rfl⟩ rfl rfl rfl rfl rfl (by kernel_rfl) Tryd.func6 (by kernel_rfl)
    (of_decide_eq_true (by kernel_rfl)) (by unfold Func.isWrapper; first | (rw [if_pos (by decide +kernel)]; kernel_rfl) | (rw [if_neg (by decide +kernel)]; exact ⟨rfl, rfl⟩))
    (fun os started H enc _ => roundKeeps_lifted os started H enc)
theorem roundKeeps_plain (f : FuncId) (fn : Func) (hf : Tryd.pinned.checked.prog.funcNamed "reckoner/reckonerlaw16.RoundKeeps" = some f) (hfn : Tryd.pinned.checked.prog.funcs[f]? = some fn) :
    false = Tryd.pinned.checked.prog.looks [] ∧ ∀ (j : Nat) t, fn.params[j]? = some t → Tryd.pinned.checked.prog.wantsStandIn t = false := by
  obtain rfl : f = 6 := Option.some.inj ((show Tryd.prog.funcNamed "reckoner/reckonerlaw16.RoundKeeps" = some 6 by kernel_rfl).symm.trans hf) |>.symm
  obtain rfl : fn = Tryd.f6 := (Option.some.inj (Tryd.func6.symm.trans hfn)).symm
  refine ⟨by kernel_rfl, fun j t ht => ?_⟩
  rw [Tryd.params6] at ht
  have hm : t ∈ [42, 22, 24] := by simpa using Array.mem_of_getElem? ht
  have hall : ([42, 22, 24].all fun u => !Tryd.prog.wantsStandIn u) = true := by kernel_rfl
  exact (show Tryd.prog.wantsStandIn t = false by simpa using List.all_eq_true.1 hall t hm)
theorem roundKeeps_card : Rows.RoundKeepsCardSaid :=
  Claim7.holds_tied_plain_at .later [] _ _ _ _ roundKeeps_holds (fun _ h => by cases h) (by kernel_rfl) (fun _ h => by cases h) roundKeeps_row_tie rfl ⟨rfl, rfl⟩ (by kernel_rfl) rfl roundKeeps_plain (by kernel_rfl)
end Go.Proofs.YtpnljnmpocobjaaDoor.Card
