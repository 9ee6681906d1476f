/-
  The framework of this work: abstract values and states, operations, regions, code, functions: proved sound over the model.
-/
import Derived.Test.YtenfiehjbeojeaaGreatDoorV6
import Derived.Test.YtenfiehjbeojeaaGreatDoorX5
set_option linter.unusedVariables false
set_option linter.unusedSimpArgs false
namespace Go.Ax
open Go.RowKit
def lkO : List Oper → Nat → (Oper → Prop) → Prop
  | [], _, _ => False
  | o :: _, 0, f => f o
  | _ :: os, n + 1, f => lkO os n f
section
variable {P : Program} {GE : Nat → Option (List AV)}
def XT (P : Program) (GE : Nat → Option (List AV)) (L : List Oper) (ds : List (Option Tmp)) : OT → St → (St → Prop) → Prop
  | .done, st, K => K st
  | .step i t, st, K => lkO L i fun o => XGOp P GE ds o.op o.dst o.guard st fun s => XT P GE L ds t s K
  | .alt i t r, st, K => (lkO L i fun o => XGOp P GE ds o.op o.dst o.guard st fun s => XT P GE L ds t s K) ∧ XT P GE L ds r st K
  | .stop, _, _ => True
theorem lkO_get : ∀ {L : List Oper} {i : Nat} {f : Oper → Prop}, lkO L i f → ∃ o, L[i]? = some o ∧ f o
  | [], _, _, h => h.elim
  | o :: _, 0, _, h => ⟨o, rfl, h⟩
  | _ :: os, n + 1, _, h => by obtain ⟨o, h1, h2⟩ := lkO_get (L := os) h; exact ⟨o, by simpa using h1, h2⟩
theorem XGOp_full {ops : Array Oper} {i : Nat} {st : St} {K K' : St → Prop} (hK : ∀ s, K s → K' s) (h : lkO ops.toList i fun o => XGOp P GE (ops.toList.map (·.dst)) o.op o.dst o.guard st K) : AGi P GE ops i st K' := by
  obtain ⟨o, ho, h⟩ := lkO_get h
  unfold AGi
  rw [Array.getElem?_toList] at ho
  rw [ho]
  simp only
  unfold XGOp at h
  unfold AGOp
  split at h
  · rename_i hg; simp only [hg]; exact XOp_mono hK h
  · rename_i j want hg
    simp only [hg]
    split at h
    · rename_i b hb
      simp only [gvalL_eq (ops := ops) (pre := ops.toList) (post := []) (by simp) hb]
      split at h
      · rename_i hbw; rw [if_pos hbw]; exact XOp_mono hK h
      · rename_i hbw; rw [if_neg hbw]; exact hK _ h
    · exact h.elim
theorem XT_sound {ops : Array Oper} {K : St → Prop} : ∀ (t : OT) (st : St), XT P GE ops.toList (ops.toList.map (·.dst)) t st K → TOps P GE ops t st K
  | .done, st, h => h
  | .step i t, st, h => XGOp_full (fun s hs => XT_sound t s hs) h
  | .alt i t r, st, h => ⟨XGOp_full (fun s hs => XT_sound t s hs) h.1, XT_sound r st h.2⟩
  | .stop, _, _ => trivial
theorem G_tree {id : Nat} {ops : Array Oper} {st : St} {Q : Exit → St → Prop} (t : OT) (hm : P.follows .mixedOrders = true) (ht : treeR ops = some t)
    (h : XT P GE ops.toList (ops.toList.map (·.dst)) t st (aft (Q .normal) ⟨⟩)) : AWp P GE (.region id ops true) Q st := AWp_tree hm rfl ht (XT_sound t st h)
theorem G_stree {id : Nat} {ops : Array Oper} {y : Code} {st : St} {Q : Exit → St → Prop} (t : OT) (hm : P.follows .mixedOrders = true) (ht : treeR ops = some t)
    (h : XT P GE ops.toList (ops.toList.map (·.dst)) t st (aft (AWp P GE y Q) ⟨⟩)) : AWp P GE (.seq (.region id ops true) y) Q st := AWp_seq (G_tree t hm ht h)
theorem x_done (L : List Oper) (ds : List (Option Tmp)) (st : St) (K : St → Prop) : XT P GE L ds .done st K = K st := rfl
theorem x_step (L : List Oper) (ds : List (Option Tmp)) (i : Nat) (t : OT) (st : St) (K : St → Prop) : XT P GE L ds (.step i t) st K = lkO L i (hid (fun o => XGOp P GE ds o.op o.dst o.guard st (hid (fun s => XT P GE L ds t s K) ⟨⟩)) ⟨⟩) := rfl
theorem x_alt (L : List Oper) (ds : List (Option Tmp)) (i : Nat) (t r : OT) (st : St) (K : St → Prop) : XT P GE L ds (.alt i t r) st K = (lkO L i (hid (fun o => XGOp P GE ds o.op o.dst o.guard st (hid (fun s => XT P GE L ds t s K) ⟨⟩)) ⟨⟩) ∧ XT P GE L ds r st K) := rfl
theorem x_stop (L : List Oper) (ds : List (Option Tmp)) (st : St) (K : St → Prop) : XT P GE L ds .stop st K = True := rfl
theorem lk_0 (o : Oper) (os : List Oper) (f : Oper → Prop) : lkO (o :: os) 0 f = f o := rfl
theorem lk_S (o : Oper) (os : List Oper) (n : Nat) (f : Oper → Prop) : lkO (o :: os) (n + 1) f = lkO os n f := rfl
theorem mpD_nil : List.map (fun x : Oper => x.dst) [] = [] := rfl
theorem mpD_cons (d : Option Tmp) (op : Op) (t : TypeId) (p : String) (af : Array Edge) (g : Option (Nat × Bool)) (os : List Oper) : List.map (fun x : Oper => x.dst) (⟨d, op, t, p, af, g⟩ :: os) = d :: List.map (fun x : Oper => x.dst) os := rfl
end
end Go.Ax
set_option linter.unusedVariables false
namespace Go.Ax
open Go.RowKit
section
variable {P : Program} {GE : Nat → Option (List AV)} {Q : Exit → St → Prop} {st : St}
/-- What is left of a loop when a round begins. -/
def ALoop (P : Program) (GE : Nat → Option (List AV)) (c : Code) (Q : Exit → St → Prop) (st : St) : Prop :=
  ∀ (w0 : World) (ok0 : Nat → Prop) (B : Option Nat), (∀ k, B = some k → ¬ ok0 k) → GRep GE w0 ok0 → ∀ (a : Act) (w : World), SRep w0 ok0 B st a w → ∀ b k cs,
    ∃ e a' w', (∃ st', Q e st' ∧ SRep w0 ok0 B st' a' w') ∧ Arrives P (lone (b.at a (.code c :: .inLoop c :: k)) cs w) b k cs e a' w'
theorem G_loop {c : Code} (h : ALoop P GE c Q st) : AWp P GE (.loop c) Q st := fun w0 ok0 B hB hG a w hS b k cs => by
  obtain ⟨e, a', w', hq, harr⟩ := h w0 ok0 B hB hG a w hS b k cs
  exact ⟨e, a', w', hq, .of_steps (.one step_loop) harr⟩
theorem G_round {c : Code} (h : AWp P GE c (thenA (fun s => ALoop P GE c Q s) Q) st) : ALoop P GE c Q st := fun w0 ok0 B hB hG a w hS b k cs => by
  obtain ⟨e, a1, w1, ⟨s, hq, hs⟩, harr⟩ := h w0 ok0 B hB hG a w hS b (.inLoop c :: k) cs
  cases e with
  | normal =>
    obtain ⟨e2, a2, w2, hq2, harr2⟩ := hq w0 ok0 B hB hG a1 w1 hs b k cs
    exact ⟨e2, a2, w2, hq2, .of_steps (Steps.trans harr (.one step_inLoop)) harr2⟩
  | exit id => exact ⟨_, a1, w1, ⟨s, hq, hs⟩, .pass (x := .inLoop c) rfl (fun _ _ => .inl (by simp)) harr⟩
  | goto l => exact ⟨_, a1, w1, ⟨s, hq, hs⟩, .pass (x := .inLoop c) rfl (fun _ _ => .inl (by simp)) harr⟩
  | ret => exact ⟨_, a1, w1, ⟨s, hq, hs⟩, .pass (x := .inLoop c) rfl (fun _ _ => .inl (by simp)) harr⟩
  | panic ch => exact ⟨_, a1, w1, ⟨s, hq, hs⟩, .pass (x := .inLoop c) rfl (fun _ _ => .inl (by simp)) harr⟩
  | outgrown => exact ⟨_, a1, w1, ⟨s, hq, hs⟩, .pass (x := .inLoop c) rfl (fun _ _ => .inl (by simp)) harr⟩
end
end Go.Ax
