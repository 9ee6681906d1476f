/-
  The framework of this work: abstract values and states, operations, regions, code, functions: proved sound over the model.
-/
import Derived.Test.YtenfiehjbeojeaaGreatDoorX6
import Derived.Test.YtenfiehjbeojeaaGreatDoorX5
set_option linter.unusedVariables false
set_option linter.unusedSimpArgs false
namespace Go.Ax
open Go.RowKit
section
variable {P : Program} {GE : Nat → Option (List AV)}
end
end Go.Ax
set_option linter.unusedVariables false
namespace Go.Ax
open Go.RowKit
section
variable {P : Program} {GE : Nat → Option (List AV)} {Q : Exit → St → Prop} {st : St}
/-- What is left of a loop when a round begins. -/
def ALoop (P : Program) (GE : Nat → Option (List AV)) (c : Code) (Q : Exit → St → Prop) (st : St) : Prop :=
  ∀ (w0 : World) (ok0 : Nat → Prop) (B : Option Nat), (∀ k, B = some k → ¬ ok0 k) → GRep GE w0 ok0 → ∀ (a : Act) (w : World), SRep w0 ok0 B st a w → ∀ b k cs,
    ∃ e a' w', (∃ st', Q e st' ∧ SRep w0 ok0 B st' a' w') ∧ Arrives P (lone (b.at a (.code c :: .inLoop c :: k)) cs w) b k cs e a' w'
theorem G_loop {c : Code} (h : ALoop P GE c Q st) : AWp P GE (.loop c) Q st := fun w0 ok0 B hB hG a w hS b k cs => by
  obtain ⟨e, a', w', hq, harr⟩ := h w0 ok0 B hB hG a w hS b k cs
  exact ⟨e, a', w', hq, .of_steps (.one step_loop) harr⟩
theorem G_round {c : Code} (h : AWp P GE c (thenA (fun s => ALoop P GE c Q s) Q) st) : ALoop P GE c Q st := fun w0 ok0 B hB hG a w hS b k cs => by
  obtain ⟨e, a1, w1, ⟨s, hq, hs⟩, harr⟩ := h w0 ok0 B hB hG a w hS b (.inLoop c :: k) cs
  cases e with
  | normal =>
    obtain ⟨e2, a2, w2, hq2, harr2⟩ := hq w0 ok0 B hB hG a1 w1 hs b k cs
    exact ⟨e2, a2, w2, hq2, .of_steps (Steps.trans harr (.one step_inLoop)) harr2⟩
  | exit id => exact ⟨_, a1, w1, ⟨s, hq, hs⟩, .pass (x := .inLoop c) rfl (fun _ _ => .inl (by simp)) harr⟩
  | goto l => exact ⟨_, a1, w1, ⟨s, hq, hs⟩, .pass (x := .inLoop c) rfl (fun _ _ => .inl (by simp)) harr⟩
  | ret => exact ⟨_, a1, w1, ⟨s, hq, hs⟩, .pass (x := .inLoop c) rfl (fun _ _ => .inl (by simp)) harr⟩
  | panic ch => exact ⟨_, a1, w1, ⟨s, hq, hs⟩, .pass (x := .inLoop c) rfl (fun _ _ => .inl (by simp)) harr⟩
  | outgrown => exact ⟨_, a1, w1, ⟨s, hq, hs⟩, .pass (x := .inLoop c) rfl (fun _ _ => .inl (by simp)) harr⟩
end
end Go.Ax
