/-
  The card of RoundMirror is proved: for every input the law answers true and its arguments read as before; no condition beyond the row.
-/
import Derived.Test.YtpnljnmpocobjaaDoorX9
import Derived.Test.YtpnljnmpocobjaaDoorX18
set_option linter.unusedVariables false
set_option linter.unusedSimpArgs false
set_option maxRecDepth 100000
namespace Go.Proofs.YtpnljnmpocobjaaDoor.Card
open Go Go.ChangeShapes Go.WideShapes Go.ChangeAt Go.RowKit Go.Ax Go.Proofs
theorem roundMirror_lifted (os : Os) (started : os.Started) (H : Type) (enc : TypeId × Value → H) :
    ReturnsInHanded {} Tryd.checked os 5 .any (fun w args => (Rows.roundMirrorSpec.pre enc Tryd.prog Tryd.f5 [] false w args ∧ laidMetH Tryd.prog laid w) ∧ sizedMet enc Tryd.prog Tryd.f5 (OpenSpec.ofChange Rows.roundMirrorSpec) false w args)
      (Rows.roundMirrorSpec.post enc Tryd.prog Tryd.f5 false true false false) := by
  refine returnsInHanded_of_change_and (C := Tryd.checked) (X := fun w _ => laidMetH Tryd.prog laid w) (fun _ _ _ hh h => h.of_heap hh) own started (by kernel_rfl) Tryd.func5
    (ChangeSpec.witness_shaped (enc := enc) (C := Tryd.checked) (os := os) (X := fun w _ => laidMetH Tryd.prog laid w) false (World.doorLaid Tryd.prog 600 os) #[.agg #[.int .i64 0, .int .i64 0], .int .i64 0, .agg #[.bool false, .slice none 0 0, .slice none 0 0]] 8 rfl (World.shaped_of_RefB (by kernel_rfl) (by kernel_rfl)) (by kernel_rfl) (by kernel_rfl) (by kernel_rfl) (door_met os _)) ?_
  intro W base args ds gs before hval0 hW _ _ hL _
  exact contract 5 Tryd.f5 Rows.roundMirrorSpec [42, 22, 28] _ Tryd.params5 rfl rfl (fun H l h => by match l, h with | [a0, a1, a2], _ => exact ⟨rfl, rfl, rfl⟩) (by kernel_rfl) (opL_cons opn_fmt (opL_cons (opn_int Tryd.underlying22) (opL_cons opn_frac opL_nil)))
    (fun avs h => by obtain ⟨_, _, rfl, ⟨k, p, rfl, kb, pb⟩, ⟨_, _, rfl, ⟨r, rfl, r1, r2⟩, ⟨_, _, rfl, ⟨neg, ns, dn, rfl, hn, hd⟩, rfl⟩⟩⟩ := h; exact ret_LawRoundMirror k p r r1 r2 neg ns dn hn.1 hd.1 hn.2 hd.2) H enc W args ds gs before hval0 hW hL
theorem roundMirror_holds : Rows.RoundMirrorSaid :=
  OpenClaim.holds_of_wide 5 Tryd.f5 rfl rfl rfl rfl rfl rfl rfl ⟨rfl, rfl, rfl, rfl, rfl⟩ rfl rfl rfl rfl rfl (by kernel_rfl) Tryd.func5 (by kernel_rfl)
    (of_decide_eq_true (by kernel_rfl)) (by unfold Func.isWrapper; first | (rw [if_pos (by decide +kernel)]; kernel_rfl) | (rw [if_neg (by decide +kernel)]; exact ⟨rfl, rfl⟩))
    (fun os started H enc _ => roundMirror_lifted os started H enc)
theorem roundMirror_plain (f : FuncId) (fn : Func) (hf : Tryd.pinned.checked.prog.funcNamed "reckoner/reckonerlaw16.RoundMirror" = some f) (hfn : Tryd.pinned.checked.prog.funcs[f]? = some fn) :
    false = Tryd.pinned.checked.prog.looks [] ∧ ∀ (j : Nat) t, fn.params[j]? = some t → Tryd.pinned.checked.prog.wantsStandIn t = false := by
  obtain rfl : f = 5 := Option.some.inj ((show Tryd.prog.funcNamed "reckoner/reckonerlaw16.RoundMirror" = some 5 by kernel_rfl).symm.trans hf) |>.symm
  obtain rfl : fn = Tryd.f5 := (Option.some.inj (Tryd.func5.symm.trans hfn)).symm
  refine ⟨by kernel_rfl, fun j t ht => ?_⟩
  rw [Tryd.params5] at ht
  have hm : t ∈ [42, 22, 28] := by simpa using Array.mem_of_getElem? ht
  have hall : ([42, 22, 28].all fun u => !Tryd.prog.wantsStandIn u) = true := by kernel_rfl
  exact (show Tryd.prog.wantsStandIn t = false by simpa using List.all_eq_true.1 hall t hm)
theorem roundMirror_card : Rows.RoundMirrorCardSaid :=
  Claim7.holds_tied_plain_at .later [] _ _ _ _ roundMirror_holds (fun _ h => by cases h) (by kernel_rfl) (fun _ h => by cases h) roundMirror_row_tie rfl ⟨rfl, rfl⟩ (by kernel_rfl) rfl roundMirror_plain (by kernel_rfl)
end Go.Proofs.YtpnljnmpocobjaaDoor.Card
