/-
  How a row opens its arguments.
-/
import Derived.Test.YtenfiehjbeojeaaGreatDoorV40
import Derived.Clock
set_option linter.unusedVariables false
set_option linter.unusedSimpArgs false
set_option maxRecDepth 100000
namespace Go.Proofs.YtenfiehjbeojeaaGreatDoor.Card
open Go Go.ChangeShapes Go.WideShapes Go.ChangeAt Go.RowKit Go.Ax Go.Proofs
theorem contractT (f : FuncId) (fn : Func) (s : ChangeSpec) (ts : List TypeId) (A : List AV → Prop) (hp' : fn.params = ts.toArray) (hr : fn.resultTypes = #[4]) (hvars : s.vars = [])
    (hfn : ∀ (H : Type) (l : List (DataW H)), l.length = ts.length → (s.fn H (l ++ [])).results = [.lit (.bool true)] ∧ (s.fn H (l ++ [])).args = l ∧ (s.fn H (l ++ [])).vars = [])
    (hall : (ts.all fun t => Tryz.prog.readableRec t && decide (t < Tryz.prog.types.size)) = true) (hop : OpL ts A) (hlaw : ∀ avs, A avs → Ret Tryz.prog GEs f avs (.bool true))
    (H : Type) (enc : TypeId × Value → H) (W : World) (args : Array Value) (ds gs : List (DataW H)) (before : List MemPlace)
    (hval : ∀ (j : Nat) t v, fn.params[j]? = some t → args[j]? = some v → Value.okWide Tryz.prog W .any 0 t v)
    (hW : DataW.Whole enc Tryz.prog fn.params.toList s.vars false W args.toList ds gs before) (hL : laidMetH Tryz.prog laid W) :
    Calls Tryz.prog f args W fun e W' => ∃ v, e = .returned v ∧ s.post enc Tryz.prog fn false true false false W args v { W' with os := W.os } ∧ Go.Clock.Later W.os W'.os := by
  have hp : fn.params.toList = ts := by rw [hp']
  have hW' := hW
  obtain ⟨p, q, hA0, hV, rfl, hfz, hnd⟩ := hW
  have hA : DataW.TrodAll enc Tryz.prog W 0 (fun _ => true) true ts args.toList ds p := hp ▸ hA0
  rw [hvars] at hV
  obtain ⟨rfl, rfl⟩ := trodVars_none hV
  obtain ⟨hlen, avs, hS, hR⟩ := hop H enc W args.toList ds p (fun j t v ht hv => hval j t v (by rw [hp']; simpa using ht) (by simpa using hv)) hA
  simp only [List.append_nil] at hW'
  have hlt : ∀ x ∈ p, x.block < W.heap.size := fun x hx => by simpa using hW'.lt x (by simp [hx])
  have hcall := (hlaw avs hS).2 W (fun _ => True) args.toList (grep hL) hR
  rw [Array.toArray_toList] at hcall
  refine hcall.mono fun e W' ⟨v, he, hv, hB⟩ => ?_
  subst he
  obtain rfl : v = .bool true := hv
  have ho : W'.os = W.os := hB.os
  have e0 : { W' with os := W.os } = W' := by rw [← ho]
  refine ⟨_, rfl, ?_, by rw [ho]; exact Go.Clock.Later.refl _⟩
  rw [e0]
  refine ⟨_, _, _, [], p, [], hW', ?_, ?_, ?_, hB.frame _, ?_⟩
  · rw [(hfn H _ hlen).1, hr]
    exact trodAll_mk1 (shut_bool Tryz.underlying4 _)
  · rw [(hfn H _ hlen).2.1, hp]
    exact trodAll_later laidOut hB ts _ _ _ hall hA hlt
  · rw [(hfn H _ hlen).2.2, hvars]
    rfl
  · exact fun h => by cases h
end Go.Proofs.YtenfiehjbeojeaaGreatDoor.Card
