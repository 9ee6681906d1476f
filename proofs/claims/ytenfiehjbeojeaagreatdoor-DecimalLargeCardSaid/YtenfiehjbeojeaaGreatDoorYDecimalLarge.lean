/-
  The card of DecimalLarge is proved: for every input the law answers true and its arguments read as before; no condition beyond the row.
-/
import Derived.Test.YtenfiehjbeojeaaGreatDoorYDecimalLargeA
import Derived.Test.YtenfiehjbeojeaaGreatDoorYDecimalLargeB
set_option linter.unusedVariables false
set_option linter.unusedSimpArgs false
set_option maxRecDepth 100000
namespace Go.Proofs.YtenfiehjbeojeaaGreatDoor.Card
open Go Go.ChangeShapes Go.WideShapes Go.ChangeAt Go.RowKit Go.Ax Go.Proofs
theorem decimalLarge_holds : Rows.DecimalLargeSaid :=
  Go.Clock.holds_of_wide_time 4 Tryz.f4 rfl rfl rfl rfl rfl rfl rfl ⟨rfl, rfl, rfl, rfl, rfl⟩ rfl rfl rfl rfl rfl (by kernel_rfl) Tryz.func4 decimalLarge_facts
    (of_decide_eq_true (by kernel_rfl)) (by unfold Func.isWrapper; first | (rw [if_pos (by decide +kernel)]; kernel_rfl) | (rw [if_neg (by decide +kernel)]; exact ⟨rfl, rfl⟩))
    (fun os started H enc _ F => decimalLarge_lifted os started H enc F)
theorem decimalLarge_plain (f : FuncId) (fn : Func) (hf : Tryz.pinned.checked.prog.funcNamed "reckoner/reckonerlaw22.DecimalLarge" = some f) (hfn : Tryz.pinned.checked.prog.funcs[f]? = some fn) :
    false = Tryz.pinned.checked.prog.looks [] ∧ ∀ (j : Nat) t, fn.params[j]? = some t → Tryz.pinned.checked.prog.wantsStandIn t = false := by
  obtain rfl : f = 4 := Option.some.inj ((show Tryz.prog.funcNamed "reckoner/reckonerlaw22.DecimalLarge" = some 4 by kernel_rfl).symm.trans hf) |>.symm
  obtain rfl : fn = Tryz.f4 := (Option.some.inj (Tryz.func4.symm.trans hfn)).symm
  refine ⟨by kernel_rfl, fun j t ht => ?_⟩
  rw [Tryz.params4] at ht
  have hm : t ∈ [56, 59, 59] := by simpa using Array.mem_of_getElem? ht
  have hall : ([56, 59, 59].all fun u => !Tryz.prog.wantsStandIn u) = true := by kernel_rfl
  exact (show Tryz.prog.wantsStandIn t = false by simpa using List.all_eq_true.1 hall t hm)
theorem decimalLarge_card : Rows.DecimalLargeCardSaid :=
  Claim7.holds_tied_plain_at .later [] _ _ _ _ decimalLarge_holds (fun _ h => by cases h) (by kernel_rfl) (fun _ h => by cases h) decimalLarge_row_tie rfl ⟨rfl, rfl⟩ (by kernel_rfl) rfl decimalLarge_plain (by kernel_rfl)
end Go.Proofs.YtenfiehjbeojeaaGreatDoor.Card
