/-
  The framework of this work: abstract values and states, operations, regions, code, functions: proved sound over the model.
-/
import Derived.Test.YtpnljnmpocobjaaDoorX6
import Derived.Test.YtpnljnmpocobjaaDoorX5
import Derived.Test.YtpnljnmpocobjaaDoorX11
import Derived.Test.YtpnljnmpocobjaaDoorX8
import Derived.Test.YtpnljnmpocobjaaDoorX7
import Derived.Test.YtpnljnmpocobjaaDoorX10
set_option maxRecDepth 100000
set_option linter.unusedVariables false
set_option linter.unusedSimpArgs false
namespace Go.Ax
open Go.RowKit
def lkO : List Oper → Nat → (Oper → Prop) → Prop
  | [], _, _ => False
  | o :: _, 0, f => f o
  | _ :: os, n + 1, f => lkO os n f
section
variable {P : Program} {GE : Nat → Option (List AV)}
def XT (P : Program) (GE : Nat → Option (List AV)) (L : List Oper) (ds : List (Option Tmp)) : OT → St → (St → Prop) → Prop
  | .done, st, K => K st
  | .step i t, st, K => lkO L i fun o => XGOp P GE ds o.op o.dst o.guard st fun s => XT P GE L ds t s K
  | .alt i t r, st, K => (lkO L i fun o => XGOp P GE ds o.op o.dst o.guard st fun s => XT P GE L ds t s K) ∧ XT P GE L ds r st K
  | .stop, _, _ => True
theorem lkO_get : ∀ {L : List Oper} {i : Nat} {f : Oper → Prop}, lkO L i f → ∃ o, L[i]? = some o ∧ f o
  | [], _, _, h => h.elim
  | o :: _, 0, _, h => ⟨o, rfl, h⟩
  | _ :: os, n + 1, _, h => by obtain ⟨o, h1, h2⟩ := lkO_get (L := os) h; exact ⟨o, by simpa using h1, h2⟩
theorem XGOp_full {ops : Array Oper} {i : Nat} {st : St} {K K' : St → Prop} (hK : ∀ s, K s → K' s) (h : lkO ops.toList i fun o => XGOp P GE (ops.toList.map (·.dst)) o.op o.dst o.guard st K) : AGi P GE ops i st K' := by
  obtain ⟨o, ho, h⟩ := lkO_get h
  unfold AGi
  rw [Array.getElem?_toList] at ho
  rw [ho]
  simp only
  unfold XGOp at h
  unfold AGOp
  split at h
  · rename_i hg; simp only [hg]; exact XOp_mono hK h
  · rename_i j want hg
    simp only [hg]
    split at h
    · rename_i b hb
      simp only [gvalL_eq (ops := ops) (pre := ops.toList) (post := []) (by simp) hb]
      split at h
      · rename_i hbw; rw [if_pos hbw]; exact XOp_mono hK h
      · rename_i hbw; rw [if_neg hbw]; exact hK _ h
    · exact h.elim
theorem XT_sound {ops : Array Oper} {K : St → Prop} : ∀ (t : OT) (st : St), XT P GE ops.toList (ops.toList.map (·.dst)) t st K → TOps P GE ops t st K
  | .done, st, h => h
  | .step i t, st, h => XGOp_full (fun s hs => XT_sound t s hs) h
  | .alt i t r, st, h => ⟨XGOp_full (fun s hs => XT_sound t s hs) h.1, XT_sound r st h.2⟩
  | .stop, _, _ => trivial
theorem G_tree {id : Nat} {ops : Array Oper} {st : St} {Q : Exit → St → Prop} (t : OT) (hm : P.follows .mixedOrders = true) (ht : treeR ops = some t)
    (h : XT P GE ops.toList (ops.toList.map (·.dst)) t st (aft (Q .normal) ⟨⟩)) : AWp P GE (.region id ops true) Q st := AWp_tree hm rfl ht (XT_sound t st h)
theorem G_stree {id : Nat} {ops : Array Oper} {y : Code} {st : St} {Q : Exit → St → Prop} (t : OT) (hm : P.follows .mixedOrders = true) (ht : treeR ops = some t)
    (h : XT P GE ops.toList (ops.toList.map (·.dst)) t st (aft (AWp P GE y Q) ⟨⟩)) : AWp P GE (.seq (.region id ops true) y) Q st := AWp_seq (G_tree t hm ht h)
theorem x_done (L : List Oper) (ds : List (Option Tmp)) (st : St) (K : St → Prop) : XT P GE L ds .done st K = K st := rfl
theorem x_step (L : List Oper) (ds : List (Option Tmp)) (i : Nat) (t : OT) (st : St) (K : St → Prop) : XT P GE L ds (.step i t) st K = lkO L i (hid (fun o => XGOp P GE ds o.op o.dst o.guard st (hid (fun s => XT P GE L ds t s K) ⟨⟩)) ⟨⟩) := rfl
theorem x_alt (L : List Oper) (ds : List (Option Tmp)) (i : Nat) (t r : OT) (st : St) (K : St → Prop) : XT P GE L ds (.alt i t r) st K = (lkO L i (hid (fun o => XGOp P GE ds o.op o.dst o.guard st (hid (fun s => XT P GE L ds t s K) ⟨⟩)) ⟨⟩) ∧ XT P GE L ds r st K) := rfl
theorem x_stop (L : List Oper) (ds : List (Option Tmp)) (st : St) (K : St → Prop) : XT P GE L ds .stop st K = True := rfl
theorem lk_0 (o : Oper) (os : List Oper) (f : Oper → Prop) : lkO (o :: os) 0 f = f o := rfl
theorem lk_S (o : Oper) (os : List Oper) (n : Nat) (f : Oper → Prop) : lkO (o :: os) (n + 1) f = lkO os n f := rfl
theorem mpD_nil : List.map (fun x : Oper => x.dst) [] = [] := rfl
theorem mpD_cons (d : Option Tmp) (op : Op) (t : TypeId) (p : String) (af : Array Edge) (g : Option (Nat × Bool)) (os : List Oper) : List.map (fun x : Oper => x.dst) (⟨d, op, t, p, af, g⟩ :: os) = d :: List.map (fun x : Oper => x.dst) os := rfl
end
end Go.Ax
set_option linter.unusedVariables false
namespace Go.Ax
open Go.RowKit
section
variable {P : Program} {GE : Nat → Option (List AV)} {Q : Exit → St → Prop} {st : St}
/-- What is left of a loop when a round begins. -/
def ALoop (P : Program) (GE : Nat → Option (List AV)) (c : Code) (Q : Exit → St → Prop) (st : St) : Prop :=
  ∀ (w0 : World) (ok0 : Nat → Prop) (B : Option Nat), (∀ k, B = some k → ¬ ok0 k) → GRep GE w0 ok0 → ∀ (a : Act) (w : World), SRep w0 ok0 B st a w → ∀ b k cs,
    ∃ e a' w', (∃ st', Q e st' ∧ SRep w0 ok0 B st' a' w') ∧ Arrives P (lone (b.at a (.code c :: .inLoop c :: k)) cs w) b k cs e a' w'
theorem G_loop {c : Code} (h : ALoop P GE c Q st) : AWp P GE (.loop c) Q st := fun w0 ok0 B hB hG a w hS b k cs => by
  obtain ⟨e, a', w', hq, harr⟩ := h w0 ok0 B hB hG a w hS b k cs
  exact ⟨e, a', w', hq, .of_steps (.one step_loop) harr⟩
theorem G_round {c : Code} (h : AWp P GE c (thenA (fun s => ALoop P GE c Q s) Q) st) : ALoop P GE c Q st := fun w0 ok0 B hB hG a w hS b k cs => by
  obtain ⟨e, a1, w1, ⟨s, hq, hs⟩, harr⟩ := h w0 ok0 B hB hG a w hS b (.inLoop c :: k) cs
  cases e with
  | normal =>
    obtain ⟨e2, a2, w2, hq2, harr2⟩ := hq w0 ok0 B hB hG a1 w1 hs b k cs
    exact ⟨e2, a2, w2, hq2, .of_steps (Steps.trans harr (.one step_inLoop)) harr2⟩
  | exit id => exact ⟨_, a1, w1, ⟨s, hq, hs⟩, .pass (x := .inLoop c) rfl (fun _ _ => .inl (by simp)) harr⟩
  | goto l => exact ⟨_, a1, w1, ⟨s, hq, hs⟩, .pass (x := .inLoop c) rfl (fun _ _ => .inl (by simp)) harr⟩
  | ret => exact ⟨_, a1, w1, ⟨s, hq, hs⟩, .pass (x := .inLoop c) rfl (fun _ _ => .inl (by simp)) harr⟩
  | panic ch => exact ⟨_, a1, w1, ⟨s, hq, hs⟩, .pass (x := .inLoop c) rfl (fun _ _ => .inl (by simp)) harr⟩
  | outgrown => exact ⟨_, a1, w1, ⟨s, hq, hs⟩, .pass (x := .inLoop c) rfl (fun _ _ => .inl (by simp)) harr⟩
end
end Go.Ax
set_option linter.unusedVariables false
set_option linter.unusedSimpArgs false
namespace Go.Proofs
open Go.Ax
def cx (p g r : Int) : AV := .agg [i64 p, i64 g, i64 r]
def dv (x : DV) : AV := .agg [i64 x.kind, .bool x.neg, nat x.coef, i64 x.exp]
def okC (p g r : Int) : Prop := (1 ≤ p ∧ p ≤ 400) ∧ (1 ≤ g ∧ g ≤ 6000) ∧ 0 ≤ r ∧ r ≤ 4
instance (p g r : Int) : Decidable (okC p g r) := by unfold okC; infer_instance
/-- A right decimal number, whatever its words. -/
def goodD (k : Int) (neg : Bool) (v : Nat) (e : Int) : Prop := (k = 0 ∧ -1000000 ≤ e ∧ e ≤ 1000000) ∨ (k = 1 ∧ e = 0 ∧ v = 0) ∨ (k = 2 ∧ neg = false ∧ e = 0 ∧ v = 0)
instance (k : Int) (neg : Bool) (v : Nat) (e : Int) : Decidable (goodD k neg v e) := by unfold goodD; infer_instance
def mkD (k : Int) (neg : Bool) (v : Nat) (e : Int) : DV := ⟨k.toNat, neg, v, e⟩
theorem goodD_right {k : Int} {neg : Bool} {v : Nat} {e : Int} (h : goodD k neg v e) : rightD (mkD k neg v e) ∧ 0 ≤ k ∧ k ≤ 2 := by
  unfold goodD at h
  unfold rightD mkD
  simp only
  rcases h with h | h | h
  · exact ⟨.inl ⟨by omega, h.2⟩, by omega, by omega⟩
  · exact ⟨.inr (.inl ⟨by omega, h.2⟩), by omega, by omega⟩
  · exact ⟨.inr (.inr ⟨by omega, h.2⟩), by omega, by omega⟩
theorem dv_mk {k : Int} {neg : Bool} {v : Nat} {e : Int} (h : 0 ≤ k) : dv (mkD k neg v e) = .agg [i64 k, .bool neg, nat v, i64 e] := by
  unfold dv mkD
  simp only
  rw [show ((k.toNat : Nat) : Int) = k by omega]
set_option maxRecDepth 100000 in
theorem ret_DCheck (p g r : Int) (h1 : -9223372036854775808 ≤ r) (h2 : r < 9223372036854775808) : Ret Tryd.prog GEs 47 [cx p g r] (i64 (if okC p g r then 0 else 220)) := by
  have hR := ret_Right r h1 h2
  unfold cx
  by_cases hp1 : p < 1
  · rw [if_neg (fun h => by have := h.1.1; omega)]
    refine RetN_start Tryd.func47 (by kernel_rfl) rfl fun Q hQ hQ2 => ?_; rw [Tryd.ntmps47]; simp only [u, i64, Nat.reduceSub, Nat.reduceAdd, bm]
    (refine gO ?_)
    (refine FinQ hQ (congrArg Array.toList Tryd.results47) _ _ ?_); simp (disch := omega) only [u, i64, ax, if_true, forall_const, reduceCtorEq, implies_true, tvs, bf]
  · by_cases hp2 : 400 < p
    · rw [if_neg (fun h => by have := h.1.2; omega)]
      refine RetN_start Tryd.func47 (by kernel_rfl) rfl fun Q hQ hQ2 => ?_; rw [Tryd.ntmps47]; simp only [u, i64, Nat.reduceSub, Nat.reduceAdd, bm]
      (refine gO ?_)
      (refine FinQ hQ (congrArg Array.toList Tryd.results47) _ _ ?_); simp (disch := omega) only [u, i64, ax, if_true, forall_const, reduceCtorEq, implies_true, tvs, bf]
    · by_cases hg1 : g < 1
      · rw [if_neg (fun h => by have := h.2.1.1; omega)]
        refine RetN_start Tryd.func47 (by kernel_rfl) rfl fun Q hQ hQ2 => ?_; rw [Tryd.ntmps47]; simp only [u, i64, Nat.reduceSub, Nat.reduceAdd, bm]
        (refine gO ?_)
        (refine FinQ hQ (congrArg Array.toList Tryd.results47) _ _ ?_); simp (disch := omega) only [u, i64, ax, if_true, forall_const, reduceCtorEq, implies_true, tvs, bf]
      · by_cases hg2 : 6000 < g
        · rw [if_neg (fun h => by have := h.2.1.2; omega)]
          refine RetN_start Tryd.func47 (by kernel_rfl) rfl fun Q hQ hQ2 => ?_; rw [Tryd.ntmps47]; simp only [u, i64, Nat.reduceSub, Nat.reduceAdd, bm]
          (refine gO ?_)
          (refine FinQ hQ (congrArg Array.toList Tryd.results47) _ _ ?_); simp (disch := omega) only [u, i64, ax, if_true, forall_const, reduceCtorEq, implies_true, tvs, bf]
        · by_cases hr : 0 ≤ r ∧ r ≤ 4
          · rw [decT hr] at hR
            rw [if_pos ⟨⟨by omega, by omega⟩, ⟨by omega, by omega⟩, hr⟩]
            refine RetN_start Tryd.func47 (by kernel_rfl) rfl fun Q hQ hQ2 => ?_; rw [Tryd.ntmps47]; simp only [u, i64, Nat.reduceSub, Nat.reduceAdd, bm]
            repeat (first | (refine gC ?_; first | refine aA ?_ | (refine cR hR ?_; refine sX ?_; try refine aA ?_)) | (refine cR hR ?_; refine sX ?_; try refine aA ?_) | refine gS ?_)
            (refine FinQ hQ (congrArg Array.toList Tryd.results47) _ _ ?_); simp (disch := omega) only [u, i64, ax, if_true, forall_const, reduceCtorEq, implies_true, tvs, bf]
          · rw [decF hr] at hR
            rw [if_neg (fun h => hr h.2.2)]
            refine RetN_start Tryd.func47 (by kernel_rfl) rfl fun Q hQ hQ2 => ?_; rw [Tryd.ntmps47]; simp only [u, i64, Nat.reduceSub, Nat.reduceAdd, bm]
            repeat (first | (refine gC ?_; first | refine aA ?_ | (refine cR hR ?_; refine sX ?_; try refine aA ?_)) | (refine cR hR ?_; refine sX ?_; try refine aA ?_) | refine gS ?_)
            (refine FinQ hQ (congrArg Array.toList Tryd.results47) _ _ ?_); simp (disch := omega) only [u, i64, ax, if_true, forall_const, reduceCtorEq, implies_true, tvs, bf]
theorem ret_tiny (p : Nat) (g r : Int) (hp : 1 ≤ p ∧ p ≤ 400) (hg : 1 ≤ g ∧ g ≤ 6000) : Ret Tryd.prog GEs 108 [cx p g r] (i64 (1 - g - (p - 1))) := by
  unfold cx
  rw [show ((p : Int) - 1) = ((p - 1 : Nat) : Int) by omega]
  refine RetN_start Tryd.func108 (by kernel_rfl) rfl fun Q hQ hQ2 => ?_; rw [Tryd.ntmps108]; simp only [u, i64, Nat.reduceSub, Nat.reduceAdd, bm]
  (refine gO ?_)
  (refine FinQ hQ (congrArg Array.toList Tryd.results108) _ _ ?_); simp (disch := omega) only [u, i64, ax, if_true, forall_const, reduceCtorEq, implies_true, tvs, bf]
set_option maxRecDepth 100000 in
theorem ret_dzero (x : DV) (hk : x.kind ≤ 2) (hl : (words x.coef).length ≤ 100000) : Ret Tryd.prog GEs 114 [dv x] (.bool (decide (x.kind = 0 ∧ x.coef = 0))) := by
  have hw : (words x.coef).length = 0 ↔ x.coef = 0 := by rw [List.length_eq_zero_iff]; exact words_eq_nil
  unfold dv
  by_cases h0 : x.kind = 0
  · by_cases h1 : x.coef = 0
    · have h2 := hw.2 h1
      rw [decT (show x.kind = 0 ∧ x.coef = 0 from ⟨h0, h1⟩)]
      refine RetN_start Tryd.func114 (by kernel_rfl) rfl fun Q hQ hQ2 => ?_; rw [Tryd.ntmps114]; simp only [u, i64, Nat.reduceSub, Nat.reduceAdd, bm]
      (refine gO ?_)
      (refine FinQ hQ (congrArg Array.toList Tryd.results114) _ _ ?_); simp (disch := omega) only [u, i64, ax, if_true, forall_const, reduceCtorEq, implies_true, tvs, bf]
    · have h2 : ¬ (words x.coef).length = 0 := fun h => h1 (hw.1 h)
      rw [decF (show ¬ (x.kind = 0 ∧ x.coef = 0) from fun h => h1 h.2)]
      refine RetN_start Tryd.func114 (by kernel_rfl) rfl fun Q hQ hQ2 => ?_; rw [Tryd.ntmps114]; simp only [u, i64, Nat.reduceSub, Nat.reduceAdd, bm]
      (refine gO ?_)
      (refine FinQ hQ (congrArg Array.toList Tryd.results114) _ _ ?_); simp (disch := omega) only [u, i64, ax, if_true, forall_const, reduceCtorEq, implies_true, tvs, bf]
  · rw [decF (show ¬ (x.kind = 0 ∧ x.coef = 0) from fun h => h0 h.1)]
    refine RetN_start Tryd.func114 (by kernel_rfl) rfl fun Q hQ hQ2 => ?_; rw [Tryd.ntmps114]; simp only [u, i64, Nat.reduceSub, Nat.reduceAdd, bm]
    (refine gO ?_)
    (refine FinQ hQ (congrArg Array.toList Tryd.results114) _ _ ?_); simp (disch := omega) only [u, i64, ax, if_true, forall_const, reduceCtorEq, implies_true, tvs, bf]
set_option maxRecDepth 100000 in
set_option maxHeartbeats 1000000 in
theorem ret_dcanonical (k : Int) (neg : Bool) (cs : List Nat) (e : Int) (hk1 : -9223372036854775808 ≤ k) (hk2 : k < 9223372036854775808) (he1 : -9223372036854775808 ≤ e) (he2 : e < 9223372036854775808) (hc : Wd cs) (hl : cs.length ≤ 100000) :
    ∃ (k' : Int) (n' : Bool) (v' : Nat) (e' : Int), Ret Tryd.prog GEs 111 [.agg [i64 k, .bool neg, ws cs, i64 e]] (.tup [.agg [i64 k', .bool n', nat v', i64 e'], .bool (decide (goodD k neg (val cs) e))]) ∧ (goodD k neg (val cs) e → k' = k ∧ n' = neg ∧ v' = val cs ∧ e' = e) := by
  have hT := ret_Trim cs hc (by omega)
  have hw : (words (val cs)).length = 0 ↔ val cs = 0 := by rw [List.length_eq_zero_iff]; exact words_eq_nil
  generalize val cs = v at *
  by_cases k0 : k = 0
  · subst k0
    refine ⟨0, neg, v, e, ?_, fun _ => ⟨rfl, rfl, rfl, rfl⟩⟩
    have hg : goodD 0 neg v e ↔ (-1000000 ≤ e ∧ e ≤ 1000000) := by unfold goodD; omega
    by_cases h1 : -1000000 ≤ e
    · by_cases h2 : e ≤ 1000000
      · rw [decT (hg.2 ⟨h1, h2⟩)]
        refine RetN_start Tryd.func111 (by kernel_rfl) rfl fun Q hQ hQ2 => ?_; rw [Tryd.ntmps111]; simp only [u, i64, Nat.reduceSub, Nat.reduceAdd, bm]
        (refine gO ?_)
        (refine gC ?_)
        (refine cR hT ?_; refine sX ?_; try refine aA ?_)
        (refine gT ?_)
        (refine gT ?_)
        (refine gT ?_)
        (refine gT ?_)
        (refine gT ?_)
        (first | refine G_stree (.step 0 (.step 1 (.step 2 (.step 3 (.step 4 (.alt 5 (.alt 6 (.step 7 (.step 8 (.step 9 (.step 10 .done)))) (.alt 9 (.step 6 (.step 7 (.step 8 (.step 10 .done)))) .stop)) (.alt 9 (.step 5 (.step 6 (.step 7 (.step 8 (.step 10 .done))))) .stop))))))) mixed (by kernel_rfl) ?_ | refine G_tree (.step 0 (.step 1 (.step 2 (.step 3 (.step 4 (.alt 5 (.alt 6 (.step 7 (.step 8 (.step 9 (.step 10 .done)))) (.alt 9 (.step 6 (.step 7 (.step 8 (.step 10 .done)))) .stop)) (.alt 9 (.step 5 (.step 6 (.step 7 (.step 8 (.step 10 .done))))) .stop))))))) mixed (by kernel_rfl) ?_); simp (disch := omega) only [u, i64, ax, eq_self, if_true, if_false, Nat.reduceAdd, Int.reduceToNat, Int.reduceAdd, tvs, bs, x_done, x_step, x_alt, x_stop, lk_0, lk_S, mpD_nil, mpD_cons]
        repeat' apply And.intro
        all_goals
          refine aft_any ?_
          (refine gO ?_)
          (refine FinQ hQ (congrArg Array.toList Tryd.results111) _ _ ?_); simp (disch := omega) only [u, i64, ax, if_true, forall_const, reduceCtorEq, implies_true, tvs, bf]
          all_goals rfl
      · rw [decF (show ¬ goodD 0 neg v e from fun h => h2 (hg.1 h).2)]
        refine RetN_start Tryd.func111 (by kernel_rfl) rfl fun Q hQ hQ2 => ?_; rw [Tryd.ntmps111]; simp only [u, i64, Nat.reduceSub, Nat.reduceAdd, bm]
        (refine gO ?_)
        (refine gC ?_)
        (refine cR hT ?_; refine sX ?_; try refine aA ?_)
        (refine gT ?_)
        (refine gT ?_)
        (refine gT ?_)
        (refine gT ?_)
        (refine gT ?_)
        (first | refine G_stree (.step 0 (.step 1 (.step 2 (.step 3 (.step 4 (.alt 5 (.alt 6 (.step 7 (.step 8 (.step 9 (.step 10 .done)))) (.alt 9 (.step 6 (.step 7 (.step 8 (.step 10 .done)))) .stop)) (.alt 9 (.step 5 (.step 6 (.step 7 (.step 8 (.step 10 .done))))) .stop))))))) mixed (by kernel_rfl) ?_ | refine G_tree (.step 0 (.step 1 (.step 2 (.step 3 (.step 4 (.alt 5 (.alt 6 (.step 7 (.step 8 (.step 9 (.step 10 .done)))) (.alt 9 (.step 6 (.step 7 (.step 8 (.step 10 .done)))) .stop)) (.alt 9 (.step 5 (.step 6 (.step 7 (.step 8 (.step 10 .done))))) .stop))))))) mixed (by kernel_rfl) ?_); simp (disch := omega) only [u, i64, ax, eq_self, if_true, if_false, Nat.reduceAdd, Int.reduceToNat, Int.reduceAdd, tvs, bs, x_done, x_step, x_alt, x_stop, lk_0, lk_S, mpD_nil, mpD_cons]
        repeat' apply And.intro
        all_goals
          refine aft_any ?_
          (refine gO ?_)
          (refine FinQ hQ (congrArg Array.toList Tryd.results111) _ _ ?_); simp (disch := omega) only [u, i64, ax, if_true, forall_const, reduceCtorEq, implies_true, tvs, bf]
          all_goals rfl
    · rw [decF (show ¬ goodD 0 neg v e from fun h => h1 (hg.1 h).1)]
      refine RetN_start Tryd.func111 (by kernel_rfl) rfl fun Q hQ hQ2 => ?_; rw [Tryd.ntmps111]; simp only [u, i64, Nat.reduceSub, Nat.reduceAdd, bm]
      (refine gO ?_)
      (refine gC ?_)
      (refine cR hT ?_; refine sX ?_; try refine aA ?_)
      (refine gT ?_)
      (refine gT ?_)
      (refine gT ?_)
      (refine gT ?_)
      (refine gT ?_)
      (first | refine G_stree (.step 0 (.step 1 (.step 2 (.step 3 (.step 4 (.alt 5 (.alt 6 (.step 7 (.step 8 (.step 9 (.step 10 .done)))) (.alt 9 (.step 6 (.step 7 (.step 8 (.step 10 .done)))) .stop)) (.alt 9 (.step 5 (.step 6 (.step 7 (.step 8 (.step 10 .done))))) .stop))))))) mixed (by kernel_rfl) ?_ | refine G_tree (.step 0 (.step 1 (.step 2 (.step 3 (.step 4 (.alt 5 (.alt 6 (.step 7 (.step 8 (.step 9 (.step 10 .done)))) (.alt 9 (.step 6 (.step 7 (.step 8 (.step 10 .done)))) .stop)) (.alt 9 (.step 5 (.step 6 (.step 7 (.step 8 (.step 10 .done))))) .stop))))))) mixed (by kernel_rfl) ?_); simp (disch := omega) only [u, i64, ax, eq_self, if_true, if_false, Nat.reduceAdd, Int.reduceToNat, Int.reduceAdd, tvs, bs, x_done, x_step, x_alt, x_stop, lk_0, lk_S, mpD_nil, mpD_cons]
      repeat' apply And.intro
      all_goals
        refine aft_any ?_
        (refine gO ?_)
        (refine FinQ hQ (congrArg Array.toList Tryd.results111) _ _ ?_); simp (disch := omega) only [u, i64, ax, if_true, forall_const, reduceCtorEq, implies_true, tvs, bf]
        all_goals rfl
  · by_cases k1 : k = 1
    · subst k1
      refine ⟨1, neg, v, e, ?_, fun _ => ⟨rfl, rfl, rfl, rfl⟩⟩
      have hg : goodD 1 neg v e ↔ (e = 0 ∧ v = 0) := by unfold goodD; omega
      by_cases h1 : e = 0
      · by_cases h2 : v = 0
        · have h3 := hw.2 h2
          rw [decT (hg.2 ⟨h1, h2⟩)]
          refine RetN_start Tryd.func111 (by kernel_rfl) rfl fun Q hQ hQ2 => ?_; rw [Tryd.ntmps111]; simp only [u, i64, Nat.reduceSub, Nat.reduceAdd, bm]
          (refine gO ?_)
          (refine gC ?_)
          (refine cR hT ?_; refine sX ?_; try refine aA ?_)
          (refine gT ?_)
          (refine gT ?_)
          (refine gT ?_)
          (refine gT ?_)
          (refine gT ?_)
          (refine gT ?_)
          (refine gT ?_)
          (first | refine G_stree (.step 0 (.step 1 (.step 2 (.step 3 (.step 4 (.alt 5 (.alt 6 (.step 7 (.step 8 (.step 9 (.step 10 (.step 11 .done))))) (.alt 10 (.step 6 (.step 7 (.step 8 (.step 9 (.step 11 .done))))) .stop)) (.alt 10 (.step 5 (.step 6 (.step 7 (.step 8 (.step 9 (.step 11 .done)))))) .stop))))))) mixed (by kernel_rfl) ?_ | refine G_tree (.step 0 (.step 1 (.step 2 (.step 3 (.step 4 (.alt 5 (.alt 6 (.step 7 (.step 8 (.step 9 (.step 10 (.step 11 .done))))) (.alt 10 (.step 6 (.step 7 (.step 8 (.step 9 (.step 11 .done))))) .stop)) (.alt 10 (.step 5 (.step 6 (.step 7 (.step 8 (.step 9 (.step 11 .done)))))) .stop))))))) mixed (by kernel_rfl) ?_); simp (disch := omega) only [u, i64, ax, eq_self, if_true, if_false, Nat.reduceAdd, Int.reduceToNat, Int.reduceAdd, tvs, bs, x_done, x_step, x_alt, x_stop, lk_0, lk_S, mpD_nil, mpD_cons]
          repeat' apply And.intro
          all_goals
            refine aft_any ?_
            (refine gO ?_)
            (refine FinQ hQ (congrArg Array.toList Tryd.results111) _ _ ?_); simp (disch := omega) only [u, i64, ax, if_true, forall_const, reduceCtorEq, implies_true, tvs, bf]
            all_goals rfl
        · have h3 : ¬ (words v).length = 0 := fun h => h2 (hw.1 h)
          rw [decF (show ¬ goodD 1 neg v e from fun h => h2 (hg.1 h).2)]
          refine RetN_start Tryd.func111 (by kernel_rfl) rfl fun Q hQ hQ2 => ?_; rw [Tryd.ntmps111]; simp only [u, i64, Nat.reduceSub, Nat.reduceAdd, bm]
          (refine gO ?_)
          (refine gC ?_)
          (refine cR hT ?_; refine sX ?_; try refine aA ?_)
          (refine gT ?_)
          (refine gT ?_)
          (refine gT ?_)
          (refine gT ?_)
          (refine gT ?_)
          (refine gT ?_)
          (refine gT ?_)
          (first | refine G_stree (.step 0 (.step 1 (.step 2 (.step 3 (.step 4 (.alt 5 (.alt 6 (.step 7 (.step 8 (.step 9 (.step 10 (.step 11 .done))))) (.alt 10 (.step 6 (.step 7 (.step 8 (.step 9 (.step 11 .done))))) .stop)) (.alt 10 (.step 5 (.step 6 (.step 7 (.step 8 (.step 9 (.step 11 .done)))))) .stop))))))) mixed (by kernel_rfl) ?_ | refine G_tree (.step 0 (.step 1 (.step 2 (.step 3 (.step 4 (.alt 5 (.alt 6 (.step 7 (.step 8 (.step 9 (.step 10 (.step 11 .done))))) (.alt 10 (.step 6 (.step 7 (.step 8 (.step 9 (.step 11 .done))))) .stop)) (.alt 10 (.step 5 (.step 6 (.step 7 (.step 8 (.step 9 (.step 11 .done)))))) .stop))))))) mixed (by kernel_rfl) ?_); simp (disch := omega) only [u, i64, ax, eq_self, if_true, if_false, Nat.reduceAdd, Int.reduceToNat, Int.reduceAdd, tvs, bs, x_done, x_step, x_alt, x_stop, lk_0, lk_S, mpD_nil, mpD_cons]
          repeat' apply And.intro
          all_goals
            refine aft_any ?_
            (refine gO ?_)
            (refine FinQ hQ (congrArg Array.toList Tryd.results111) _ _ ?_); simp (disch := omega) only [u, i64, ax, if_true, forall_const, reduceCtorEq, implies_true, tvs, bf]
            all_goals rfl
      · rw [decF (show ¬ goodD 1 neg v e from fun h => h1 (hg.1 h).1)]
        refine RetN_start Tryd.func111 (by kernel_rfl) rfl fun Q hQ hQ2 => ?_; rw [Tryd.ntmps111]; simp only [u, i64, Nat.reduceSub, Nat.reduceAdd, bm]
        (refine gO ?_)
        (refine gC ?_)
        (refine cR hT ?_; refine sX ?_; try refine aA ?_)
        (refine gT ?_)
        (refine gT ?_)
        (refine gT ?_)
        (refine gT ?_)
        (refine gT ?_)
        (refine gT ?_)
        (refine gT ?_)
        (first | refine G_stree (.step 0 (.step 1 (.step 2 (.step 3 (.step 4 (.alt 5 (.alt 6 (.step 7 (.step 8 (.step 9 (.step 10 (.step 11 .done))))) (.alt 10 (.step 6 (.step 7 (.step 8 (.step 9 (.step 11 .done))))) .stop)) (.alt 10 (.step 5 (.step 6 (.step 7 (.step 8 (.step 9 (.step 11 .done)))))) .stop))))))) mixed (by kernel_rfl) ?_ | refine G_tree (.step 0 (.step 1 (.step 2 (.step 3 (.step 4 (.alt 5 (.alt 6 (.step 7 (.step 8 (.step 9 (.step 10 (.step 11 .done))))) (.alt 10 (.step 6 (.step 7 (.step 8 (.step 9 (.step 11 .done))))) .stop)) (.alt 10 (.step 5 (.step 6 (.step 7 (.step 8 (.step 9 (.step 11 .done)))))) .stop))))))) mixed (by kernel_rfl) ?_); simp (disch := omega) only [u, i64, ax, eq_self, if_true, if_false, Nat.reduceAdd, Int.reduceToNat, Int.reduceAdd, tvs, bs, x_done, x_step, x_alt, x_stop, lk_0, lk_S, mpD_nil, mpD_cons]
        repeat' apply And.intro
        all_goals
          refine aft_any ?_
          (refine gO ?_)
          (refine FinQ hQ (congrArg Array.toList Tryd.results111) _ _ ?_); simp (disch := omega) only [u, i64, ax, if_true, forall_const, reduceCtorEq, implies_true, tvs, bf]
          all_goals rfl
    · by_cases k2 : k = 2
      · subst k2
        refine ⟨2, neg, v, e, ?_, fun _ => ⟨rfl, rfl, rfl, rfl⟩⟩
        have hg : goodD 2 neg v e ↔ (neg = false ∧ e = 0 ∧ v = 0) := by unfold goodD; simp
        cases neg with
        | true =>
          rw [decF (show ¬ goodD 2 true v e from fun h => by cases (hg.1 h).1)]
          refine RetN_start Tryd.func111 (by kernel_rfl) rfl fun Q hQ hQ2 => ?_; rw [Tryd.ntmps111]; simp only [u, i64, Nat.reduceSub, Nat.reduceAdd, bm]
          (refine gO ?_)
          (refine gC ?_)
          (refine cR hT ?_; refine sX ?_; try refine aA ?_)
          (refine gT ?_)
          (refine gT ?_)
          (refine gT ?_)
          (refine gT ?_)
          (refine gT ?_)
          (refine gT ?_)
          (refine gT ?_)
          (refine gT ?_)
          (refine gT ?_)
          (first | refine G_stree (.step 0 (.step 1 (.step 2 (.step 3 (.step 4 (.step 5 (.step 6 (.step 7 (.step 8 (.step 9 (.alt 10 (.alt 11 (.step 12 (.step 13 (.step 14 (.step 15 (.step 16 .done))))) (.alt 15 (.step 11 (.step 12 (.step 13 (.step 14 (.step 16 .done))))) .stop)) (.alt 15 (.step 10 (.step 11 (.step 12 (.step 13 (.step 14 (.step 16 .done)))))) .stop)))))))))))) mixed (by kernel_rfl) ?_ | refine G_tree (.step 0 (.step 1 (.step 2 (.step 3 (.step 4 (.step 5 (.step 6 (.step 7 (.step 8 (.step 9 (.alt 10 (.alt 11 (.step 12 (.step 13 (.step 14 (.step 15 (.step 16 .done))))) (.alt 15 (.step 11 (.step 12 (.step 13 (.step 14 (.step 16 .done))))) .stop)) (.alt 15 (.step 10 (.step 11 (.step 12 (.step 13 (.step 14 (.step 16 .done)))))) .stop)))))))))))) mixed (by kernel_rfl) ?_); simp (disch := omega) only [u, i64, ax, eq_self, if_true, if_false, Nat.reduceAdd, Int.reduceToNat, Int.reduceAdd, tvs, bs, x_done, x_step, x_alt, x_stop, lk_0, lk_S, mpD_nil, mpD_cons]
          repeat' apply And.intro
          all_goals
            refine aft_any ?_
            (refine gO ?_)
            (refine FinQ hQ (congrArg Array.toList Tryd.results111) _ _ ?_); simp (disch := omega) only [u, i64, ax, if_true, forall_const, reduceCtorEq, implies_true, tvs, bf]
            all_goals rfl
        | false =>
          by_cases h1 : e = 0
          · by_cases h2 : v = 0
            · have h3 := hw.2 h2
              rw [decT (hg.2 ⟨rfl, h1, h2⟩)]
              refine RetN_start Tryd.func111 (by kernel_rfl) rfl fun Q hQ hQ2 => ?_; rw [Tryd.ntmps111]; simp only [u, i64, Nat.reduceSub, Nat.reduceAdd, bm]
              (refine gO ?_)
              (refine gC ?_)
              (refine cR hT ?_; refine sX ?_; try refine aA ?_)
              (refine gT ?_)
              (refine gT ?_)
              (refine gT ?_)
              (refine gT ?_)
              (refine gT ?_)
              (refine gT ?_)
              (refine gT ?_)
              (refine gT ?_)
              (refine gT ?_)
              (first | refine G_stree (.step 0 (.step 1 (.step 2 (.step 3 (.step 4 (.step 5 (.step 6 (.step 7 (.step 8 (.step 9 (.alt 10 (.alt 11 (.step 12 (.step 13 (.step 14 (.step 15 (.step 16 .done))))) (.alt 15 (.step 11 (.step 12 (.step 13 (.step 14 (.step 16 .done))))) .stop)) (.alt 15 (.step 10 (.step 11 (.step 12 (.step 13 (.step 14 (.step 16 .done)))))) .stop)))))))))))) mixed (by kernel_rfl) ?_ | refine G_tree (.step 0 (.step 1 (.step 2 (.step 3 (.step 4 (.step 5 (.step 6 (.step 7 (.step 8 (.step 9 (.alt 10 (.alt 11 (.step 12 (.step 13 (.step 14 (.step 15 (.step 16 .done))))) (.alt 15 (.step 11 (.step 12 (.step 13 (.step 14 (.step 16 .done))))) .stop)) (.alt 15 (.step 10 (.step 11 (.step 12 (.step 13 (.step 14 (.step 16 .done)))))) .stop)))))))))))) mixed (by kernel_rfl) ?_); simp (disch := omega) only [u, i64, ax, eq_self, if_true, if_false, Nat.reduceAdd, Int.reduceToNat, Int.reduceAdd, tvs, bs, x_done, x_step, x_alt, x_stop, lk_0, lk_S, mpD_nil, mpD_cons]
              repeat' apply And.intro
              all_goals
                refine aft_any ?_
                (refine gO ?_)
                (refine FinQ hQ (congrArg Array.toList Tryd.results111) _ _ ?_); simp (disch := omega) only [u, i64, ax, if_true, forall_const, reduceCtorEq, implies_true, tvs, bf]
                all_goals rfl
            · have h3 : ¬ (words v).length = 0 := fun h => h2 (hw.1 h)
              rw [decF (show ¬ goodD 2 false v e from fun h => h2 (hg.1 h).2.2)]
              refine RetN_start Tryd.func111 (by kernel_rfl) rfl fun Q hQ hQ2 => ?_; rw [Tryd.ntmps111]; simp only [u, i64, Nat.reduceSub, Nat.reduceAdd, bm]
              (refine gO ?_)
              (refine gC ?_)
              (refine cR hT ?_; refine sX ?_; try refine aA ?_)
              (refine gT ?_)
              (refine gT ?_)
              (refine gT ?_)
              (refine gT ?_)
              (refine gT ?_)
              (refine gT ?_)
              (refine gT ?_)
              (refine gT ?_)
              (refine gT ?_)
              (first | refine G_stree (.step 0 (.step 1 (.step 2 (.step 3 (.step 4 (.step 5 (.step 6 (.step 7 (.step 8 (.step 9 (.alt 10 (.alt 11 (.step 12 (.step 13 (.step 14 (.step 15 (.step 16 .done))))) (.alt 15 (.step 11 (.step 12 (.step 13 (.step 14 (.step 16 .done))))) .stop)) (.alt 15 (.step 10 (.step 11 (.step 12 (.step 13 (.step 14 (.step 16 .done)))))) .stop)))))))))))) mixed (by kernel_rfl) ?_ | refine G_tree (.step 0 (.step 1 (.step 2 (.step 3 (.step 4 (.step 5 (.step 6 (.step 7 (.step 8 (.step 9 (.alt 10 (.alt 11 (.step 12 (.step 13 (.step 14 (.step 15 (.step 16 .done))))) (.alt 15 (.step 11 (.step 12 (.step 13 (.step 14 (.step 16 .done))))) .stop)) (.alt 15 (.step 10 (.step 11 (.step 12 (.step 13 (.step 14 (.step 16 .done)))))) .stop)))))))))))) mixed (by kernel_rfl) ?_); simp (disch := omega) only [u, i64, ax, eq_self, if_true, if_false, Nat.reduceAdd, Int.reduceToNat, Int.reduceAdd, tvs, bs, x_done, x_step, x_alt, x_stop, lk_0, lk_S, mpD_nil, mpD_cons]
              repeat' apply And.intro
              all_goals
                refine aft_any ?_
                (refine gO ?_)
                (refine FinQ hQ (congrArg Array.toList Tryd.results111) _ _ ?_); simp (disch := omega) only [u, i64, ax, if_true, forall_const, reduceCtorEq, implies_true, tvs, bf]
                all_goals rfl
          · rw [decF (show ¬ goodD 2 false v e from fun h => h1 (hg.1 h).2.1)]
            refine RetN_start Tryd.func111 (by kernel_rfl) rfl fun Q hQ hQ2 => ?_; rw [Tryd.ntmps111]; simp only [u, i64, Nat.reduceSub, Nat.reduceAdd, bm]
            (refine gO ?_)
            (refine gC ?_)
            (refine cR hT ?_; refine sX ?_; try refine aA ?_)
            (refine gT ?_)
            (refine gT ?_)
            (refine gT ?_)
            (refine gT ?_)
            (refine gT ?_)
            (refine gT ?_)
            (refine gT ?_)
            (refine gT ?_)
            (refine gT ?_)
            (first | refine G_stree (.step 0 (.step 1 (.step 2 (.step 3 (.step 4 (.step 5 (.step 6 (.step 7 (.step 8 (.step 9 (.alt 10 (.alt 11 (.step 12 (.step 13 (.step 14 (.step 15 (.step 16 .done))))) (.alt 15 (.step 11 (.step 12 (.step 13 (.step 14 (.step 16 .done))))) .stop)) (.alt 15 (.step 10 (.step 11 (.step 12 (.step 13 (.step 14 (.step 16 .done)))))) .stop)))))))))))) mixed (by kernel_rfl) ?_ | refine G_tree (.step 0 (.step 1 (.step 2 (.step 3 (.step 4 (.step 5 (.step 6 (.step 7 (.step 8 (.step 9 (.alt 10 (.alt 11 (.step 12 (.step 13 (.step 14 (.step 15 (.step 16 .done))))) (.alt 15 (.step 11 (.step 12 (.step 13 (.step 14 (.step 16 .done))))) .stop)) (.alt 15 (.step 10 (.step 11 (.step 12 (.step 13 (.step 14 (.step 16 .done)))))) .stop)))))))))))) mixed (by kernel_rfl) ?_); simp (disch := omega) only [u, i64, ax, eq_self, if_true, if_false, Nat.reduceAdd, Int.reduceToNat, Int.reduceAdd, tvs, bs, x_done, x_step, x_alt, x_stop, lk_0, lk_S, mpD_nil, mpD_cons]
            repeat' apply And.intro
            all_goals
              refine aft_any ?_
              (refine gO ?_)
              (refine FinQ hQ (congrArg Array.toList Tryd.results111) _ _ ?_); simp (disch := omega) only [u, i64, ax, if_true, forall_const, reduceCtorEq, implies_true, tvs, bf]
              all_goals rfl
      · have hg : ¬ goodD k neg v e := by unfold goodD; omega
        refine ⟨0, false, 0, 0, ?_, fun h => absurd h hg⟩
        rw [decF hg]
        refine RetN_start Tryd.func111 (by kernel_rfl) rfl fun Q hQ hQ2 => ?_; rw [Tryd.ntmps111]; simp only [u, i64, Nat.reduceSub, Nat.reduceAdd, bm]
        repeat (first | (refine gC ?_; first | refine aA ?_ | (refine cR hT ?_; refine sX ?_; try refine aA ?_)) | (refine cR hT ?_; refine sX ?_; try refine aA ?_) | refine gS ?_)
        (refine FinQ hQ (congrArg Array.toList Tryd.results111) _ _ ?_); simp (disch := omega) only [u, i64, ax, if_true, forall_const, reduceCtorEq, implies_true, tvs, bf]
        all_goals rfl
end Go.Proofs
set_option linter.unusedVariables false
set_option linter.unusedSimpArgs false
namespace Go.Proofs
open Go.Ax
structure DI where
  k : Int
  neg : Bool
  cs : List Nat
  e : Int
def DI.av (d : DI) : AV := .agg [i64 d.k, .bool d.neg, ws d.cs, i64 d.e]
def DI.D (d : DI) : DV := mkD d.k d.neg (val d.cs) d.e
def DI.good (d : DI) : Prop := goodD d.k d.neg (val d.cs) d.e
instance (d : DI) : Decidable d.good := by unfold DI.good; infer_instance
/-- Of the type, and not long. -/
structure DI.ok (d : DI) : Prop where
  k1 : -9223372036854775808 ≤ d.k
  k2 : d.k < 9223372036854775808
  e1 : -9223372036854775808 ≤ d.e
  e2 : d.e < 9223372036854775808
  wd : Wd d.cs
  len : d.cs.length ≤ 40
def DI.okIn (p : Nat) (g : Int) (d : DI) : Prop := d.good ∧ inD p g d.D
instance (p : Nat) (g : Int) (d : DI) : Decidable (d.okIn p g) := by unfold DI.okIn; infer_instance
theorem DI.dv_eq {d : DI} (h : d.good) : dv d.D = .agg [i64 d.k, .bool d.neg, nat (val d.cs), i64 d.e] := dv_mk (goodD_right h).2.1
theorem DI.len_le {d : DI} (h : d.ok) : (words d.D.coef).length ≤ 40 := Nat.le_trans (length_words_val_le h.wd) h.len
set_option maxRecDepth 100000 in
set_option maxHeartbeats 1000000 in
/-- Is a canonical decimal number one of the context? -/
theorem ret_holds (p : Nat) (g r : Int) (x : DV) (hp : 1 ≤ p ∧ p ≤ 400) (hg : 1 ≤ g ∧ g ≤ 6000) (hk : x.kind ≤ 2) (hl : (words x.coef).length ≤ 2000) (he : -3000000 ≤ x.exp ∧ x.exp ≤ 3000000) : Ret Tryd.prog GEs 129 [cx p g r, dv x] (.bool (decide (inD p g x))) := by
  have hZ := ret_dzero x hk (by omega)
  have hT := ret_tiny p g r hp hg
  have hD := ret_WDigits x.coef (by omega)
  have hbn := bl_len x.coef
  have hdb := dg_le_bl x.coef
  have hT1 : -7000 ≤ 1 - g - ((p : Int) - 1) ∧ 1 - g - ((p : Int) - 1) ≤ 0 := by omega
  obtain ⟨kd, neg, c, e⟩ := x
  simp only at hk hl he hbn hdb hD hZ
  have hin : inD p g ⟨kd, neg, c, e⟩ ↔ kd ≠ 0 ∨ (c = 0 ∧ 1 - g - ((p : Int) - 1) ≤ e ∧ e ≤ g) ∨ (c ≠ 0 ∧ dg c ≤ p ∧ 1 - g - ((p : Int) - 1) ≤ e ∧ e + dg c - 1 ≤ g) := Iff.rfl
  unfold dv cx at *
  simp only at *
  generalize 1 - g - ((p : Int) - 1) = T at *
  by_cases k0 : kd = 0
  · by_cases c0 : c = 0
    · rw [decT (show kd = 0 ∧ c = 0 from ⟨k0, c0⟩)] at hZ
      by_cases h1 : T ≤ e
      · by_cases h2 : e ≤ g
        · rw [decT (hin.2 (.inr (.inl ⟨c0, h1, h2⟩)))]
          clear hin
          refine RetN_start Tryd.func129 (by kernel_rfl) rfl fun Q hQ hQ2 => ?_; rw [Tryd.ntmps129]; simp only [u, i64, Nat.reduceSub, Nat.reduceAdd, bm]
          repeat (first | (refine gC ?_; first | refine aA ?_ | ((first | refine cR hZ ?_ | refine cR hT ?_); refine sX ?_; try refine aA ?_)) | ((first | refine cR hZ ?_ | refine cR hT ?_); refine sX ?_; try refine aA ?_) | refine gS ?_)
          (refine FinQ hQ (congrArg Array.toList Tryd.results129) _ _ ?_); simp (disch := omega) only [u, i64, ax, if_true, forall_const, reduceCtorEq, implies_true, tvs, bf]
        · rw [decF (fun h => by have := hin.1 h; omega)]
          clear hin
          refine RetN_start Tryd.func129 (by kernel_rfl) rfl fun Q hQ hQ2 => ?_; rw [Tryd.ntmps129]; simp only [u, i64, Nat.reduceSub, Nat.reduceAdd, bm]
          repeat (first | (refine gC ?_; first | refine aA ?_ | ((first | refine cR hZ ?_ | refine cR hT ?_); refine sX ?_; try refine aA ?_)) | ((first | refine cR hZ ?_ | refine cR hT ?_); refine sX ?_; try refine aA ?_) | refine gS ?_)
          (refine FinQ hQ (congrArg Array.toList Tryd.results129) _ _ ?_); simp (disch := omega) only [u, i64, ax, if_true, forall_const, reduceCtorEq, implies_true, tvs, bf]
      · rw [decF (fun h => by have := hin.1 h; omega)]
        clear hin
        refine RetN_start Tryd.func129 (by kernel_rfl) rfl fun Q hQ hQ2 => ?_; rw [Tryd.ntmps129]; simp only [u, i64, Nat.reduceSub, Nat.reduceAdd, bm]
        repeat (first | (refine gC ?_; first | refine aA ?_ | ((first | refine cR hZ ?_ | refine cR hT ?_); refine sX ?_; try refine aA ?_)) | ((first | refine cR hZ ?_ | refine cR hT ?_); refine sX ?_; try refine aA ?_) | refine gS ?_)
        (refine FinQ hQ (congrArg Array.toList Tryd.results129) _ _ ?_); simp (disch := omega) only [u, i64, ax, if_true, forall_const, reduceCtorEq, implies_true, tvs, bf]
    · rw [decF (show ¬ (kd = 0 ∧ c = 0) from fun h => c0 h.2)] at hZ
      have hd1 := (dg_spec c c0).2.2
      by_cases h0 : dg c ≤ p
      · by_cases h1 : T ≤ e
        · by_cases h2 : e + dg c - 1 ≤ g
          · rw [decT (hin.2 (.inr (.inr ⟨c0, h0, h1, h2⟩)))]
            clear hin
            refine RetN_start Tryd.func129 (by kernel_rfl) rfl fun Q hQ hQ2 => ?_; rw [Tryd.ntmps129]; simp only [u, i64, Nat.reduceSub, Nat.reduceAdd, bm]
            repeat (first | (refine gC ?_; first | refine aA ?_ | ((first | refine cR hZ ?_ | refine cR hD ?_ | refine cR hT ?_); refine sX ?_; try refine aA ?_)) | ((first | refine cR hZ ?_ | refine cR hD ?_ | refine cR hT ?_); refine sX ?_; try refine aA ?_) | refine gS ?_)
            (refine FinQ hQ (congrArg Array.toList Tryd.results129) _ _ ?_); simp (disch := omega) only [u, i64, ax, if_true, forall_const, reduceCtorEq, implies_true, tvs, bf]
          · rw [decF (fun h => by have := hin.1 h; omega)]
            clear hin
            refine RetN_start Tryd.func129 (by kernel_rfl) rfl fun Q hQ hQ2 => ?_; rw [Tryd.ntmps129]; simp only [u, i64, Nat.reduceSub, Nat.reduceAdd, bm]
            repeat (first | (refine gC ?_; first | refine aA ?_ | ((first | refine cR hZ ?_ | refine cR hD ?_ | refine cR hT ?_); refine sX ?_; try refine aA ?_)) | ((first | refine cR hZ ?_ | refine cR hD ?_ | refine cR hT ?_); refine sX ?_; try refine aA ?_) | refine gS ?_)
            (refine FinQ hQ (congrArg Array.toList Tryd.results129) _ _ ?_); simp (disch := omega) only [u, i64, ax, if_true, forall_const, reduceCtorEq, implies_true, tvs, bf]
        · rw [decF (fun h => by have := hin.1 h; omega)]
          clear hin
          refine RetN_start Tryd.func129 (by kernel_rfl) rfl fun Q hQ hQ2 => ?_; rw [Tryd.ntmps129]; simp only [u, i64, Nat.reduceSub, Nat.reduceAdd, bm]
          repeat (first | (refine gC ?_; first | refine aA ?_ | ((first | refine cR hZ ?_ | refine cR hD ?_ | refine cR hT ?_); refine sX ?_; try refine aA ?_)) | ((first | refine cR hZ ?_ | refine cR hD ?_ | refine cR hT ?_); refine sX ?_; try refine aA ?_) | refine gS ?_)
          (refine FinQ hQ (congrArg Array.toList Tryd.results129) _ _ ?_); simp (disch := omega) only [u, i64, ax, if_true, forall_const, reduceCtorEq, implies_true, tvs, bf]
      · rw [decF (fun h => by have := hin.1 h; omega)]
        clear hin
        refine RetN_start Tryd.func129 (by kernel_rfl) rfl fun Q hQ hQ2 => ?_; rw [Tryd.ntmps129]; simp only [u, i64, Nat.reduceSub, Nat.reduceAdd, bm]
        repeat (first | (refine gC ?_; first | refine aA ?_ | ((first | refine cR hZ ?_ | refine cR hD ?_); refine sX ?_; try refine aA ?_)) | ((first | refine cR hZ ?_ | refine cR hD ?_); refine sX ?_; try refine aA ?_) | refine gS ?_)
        (refine FinQ hQ (congrArg Array.toList Tryd.results129) _ _ ?_); simp (disch := omega) only [u, i64, ax, if_true, forall_const, reduceCtorEq, implies_true, tvs, bf]
  · rw [decT (hin.2 (.inl k0))]
    clear hin
    refine RetN_start Tryd.func129 (by kernel_rfl) rfl fun Q hQ hQ2 => ?_; rw [Tryd.ntmps129]; simp only [u, i64, Nat.reduceSub, Nat.reduceAdd, bm]
    (refine gO ?_)
    (refine FinQ hQ (congrArg Array.toList Tryd.results129) _ _ ?_); simp (disch := omega) only [u, i64, ax, if_true, forall_const, reduceCtorEq, implies_true, tvs, bf]
set_option maxRecDepth 100000 in
theorem ret_sizes1 (d : DI) (h : d.cs.length ≤ 4096) : Ret Tryd.prog GEs 160 [.lst 1 [i64 d.k, .bool d.neg, ws d.cs, i64 d.e]] (i64 0) := by
  refine RetN_start Tryd.func160 (by kernel_rfl) rfl fun Q hQ hQ2 => ?_; rw [Tryd.ntmps160]; simp only [u, i64, Nat.reduceSub, Nat.reduceAdd, bm]
  (refine gO ?_)
  refine G_loop ?_
  refine G_round ?_
  (refine gO ?_)
  refine G_round ?_
  (refine gO ?_)
  (refine FinQ hQ (congrArg Array.toList Tryd.results160) _ _ ?_); simp (disch := omega) only [u, i64, ax, if_true, forall_const, reduceCtorEq, implies_true, tvs, bf]
  all_goals rfl
set_option maxRecDepth 100000 in
theorem ret_sizes2 (d c : DI) (h : d.cs.length ≤ 4096) (h2 : c.cs.length ≤ 4096) : Ret Tryd.prog GEs 160 [.lst 2 [i64 d.k, .bool d.neg, ws d.cs, i64 d.e, i64 c.k, .bool c.neg, ws c.cs, i64 c.e]] (i64 0) := by
  refine RetN_start Tryd.func160 (by kernel_rfl) rfl fun Q hQ hQ2 => ?_; rw [Tryd.ntmps160]; simp only [u, i64, Nat.reduceSub, Nat.reduceAdd, bm]
  (refine gO ?_)
  refine G_loop ?_
  refine G_round ?_
  (refine gO ?_)
  refine G_round ?_
  (refine gO ?_)
  refine G_round ?_
  (refine gO ?_)
  (refine FinQ hQ (congrArg Array.toList Tryd.results160) _ _ ?_); simp (disch := omega) only [u, i64, ax, if_true, forall_const, reduceCtorEq, implies_true, tvs, bf]
  all_goals rfl
theorem pA_nat (v : Nat) : pureA (nat v) = true := us_pure _
theorem fzO_all (ver n sz : Nat) (hot : Bool) (cs : List AV) (h : n * sz = cs.length) (hp : pureAs cs = true) : fzO false ver 0 n sz (some ⟨ver, hot, cs⟩) = some (.lst n cs) := by
  rw [fzO_some, if_pos (show _ ∧ _ ∧ _ ∧ _ from ⟨rfl, (fun h => by cases h), by omega, hp⟩), h, List.drop_zero, List.take_length]
theorem fzO_d1 (ver : Nat) (hot : Bool) (k : Int) (n : Bool) (v : Nat) (e : Int) : fzO false ver 0 1 4 (some ⟨ver, hot, [.int .i64 k, .bool n, nat v, .int .i64 e]⟩) = some (.lst 1 [.int .i64 k, .bool n, nat v, .int .i64 e]) :=
  fzO_all _ _ _ _ _ rfl (by simp only [pAs_cons, pAs_nil, pA_int, pA_bool, pA_nat, Bool.and_true])
theorem fzO_d2 (ver : Nat) (hot : Bool) (k : Int) (n : Bool) (v : Nat) (e : Int) (k2 : Int) (n2 : Bool) (v2 : Nat) (e2 : Int) : fzO false ver 0 2 4 (some ⟨ver, hot, [.int .i64 k, .bool n, nat v, .int .i64 e, .int .i64 k2, .bool n2, nat v2, .int .i64 e2]⟩) = some (.lst 2 [.int .i64 k, .bool n, nat v, .int .i64 e, .int .i64 k2, .bool n2, nat v2, .int .i64 e2]) :=
  fzO_all _ _ _ _ _ rfl (by simp only [pAs_cons, pAs_nil, pA_int, pA_bool, pA_nat, Bool.and_true])
/-- What the program finds out about one number. -/
theorem one_of (p : Nat) (g r : Int) (hp : 1 ≤ p ∧ p ≤ 400) (hg : 1 ≤ g ∧ g ≤ 6000) (d : DI) (h : d.ok) :
    (∃ (k' : Int) (n' : Bool) (v' : Nat) (e' : Int), ¬ d.good ∧ Ret Tryd.prog GEs 111 [.agg [i64 d.k, .bool d.neg, ws d.cs, i64 d.e]] (.tup [.agg [i64 k', .bool n', nat v', i64 e'], .bool false])) ∨
    (d.good ∧ Ret Tryd.prog GEs 111 [.agg [i64 d.k, .bool d.neg, ws d.cs, i64 d.e]] (.tup [.agg [i64 d.k, .bool d.neg, nat (val d.cs), i64 d.e], .bool true]) ∧ Ret Tryd.prog GEs 129 [cx p g r, .agg [i64 d.k, .bool d.neg, nat (val d.cs), i64 d.e]] (.bool (decide (inD p g d.D)))) := by
  obtain ⟨k', n', v', e', hC, hE⟩ := ret_dcanonical d.k d.neg d.cs d.e h.k1 h.k2 h.e1 h.e2 h.wd (Nat.le_trans h.len (by decide))
  by_cases hg' : d.good
  · right
    obtain ⟨rfl, rfl, rfl, rfl⟩ := hE hg'
    have hgg : goodD d.k d.neg (val d.cs) d.e := hg'
    rw [decT hgg] at hC
    obtain ⟨q1, q2, q3⟩ := goodD_right hgg
    have hH := ret_holds p g r d.D hp hg (by show d.k.toNat ≤ 2; omega) (by have := d.len_le h; omega) (by unfold goodD at hgg; show -3000000 ≤ d.e ∧ d.e ≤ 3000000; omega)
    rw [DI.dv_eq hg'] at hH
    exact ⟨hg', hC, hH⟩
  · left
    have hgg : ¬ goodD d.k d.neg (val d.cs) d.e := hg'
    rw [decF hgg] at hC
    exact ⟨k', n', v', e', hg', hC⟩
set_option maxRecDepth 100000 in
set_option maxHeartbeats 1000000 in
theorem ret_Args1 (p : Nat) (g : Int) (r : Nat) (hp : 1 ≤ p ∧ p ≤ 400) (hg : 1 ≤ g ∧ g ≤ 6000) (hr : r ≤ 4) (d : DI) (h : d.ok) :
    Ret Tryd.prog GEs 110 [cx p g r, .bool false, .lst 1 [i64 d.k, .bool d.neg, ws d.cs, i64 d.e]] (if d.okIn p g then .tup [.lst 1 [i64 d.k, .bool d.neg, nat (val d.cs), i64 d.e], i64 0] else .tup [.lst 0 [], i64 221]) := by
  have hS := ret_sizes1 d (Nat.le_trans h.len (by decide))
  have hC := ret_DCheck p g r (by omega) (by omega)
  rw [if_pos (show okC p g r from ⟨by omega, hg, by omega⟩)] at hC
  have h1 := one_of p g r hp hg d h
  obtain ⟨k, neg, cs, e⟩ := d
  simp only at *
  unfold cx at *
  rcases h1 with ⟨k', n', v', e', q1, q2⟩ | ⟨q1, q2, q3⟩
  · rw [if_neg (show ¬ DI.okIn p g ⟨k, neg, cs, e⟩ from fun h => q1 h.1)]
    refine RetN_start Tryd.func110 (by kernel_rfl) rfl fun Q hQ hQ2 => ?_; rw [Tryd.ntmps110]; simp only [u, i64, Nat.reduceSub, Nat.reduceAdd, bm]
    repeat (first | (refine gC ?_; first | refine aA ?_ | ((first | refine cR hS ?_ | refine cR hC ?_); refine sX ?_; try refine aA ?_)) | ((first | refine cR hS ?_ | refine cR hC ?_); refine sX ?_; try refine aA ?_) | refine gS ?_)
    refine G_loop ?_
    refine G_round ?_
    repeat (first | (refine gC ?_; first | refine aA ?_ | (refine cR q2 ?_; refine sX ?_; try refine aA ?_)) | (refine cR q2 ?_; refine sX ?_; try refine aA ?_) | refine gS ?_)
    (refine FinQ hQ (congrArg Array.toList Tryd.results110) _ _ ?_); simp (disch := omega) only [u, i64, ax, if_true, forall_const, reduceCtorEq, implies_true, tvs, bf]
  · by_cases q4 : inD p g (DI.D ⟨k, neg, cs, e⟩)
    · rw [decT q4] at q3
      rw [if_pos (show DI.okIn p g ⟨k, neg, cs, e⟩ from ⟨q1, q4⟩)]
      refine RetN_start Tryd.func110 (by kernel_rfl) rfl fun Q hQ hQ2 => ?_; rw [Tryd.ntmps110]; simp only [u, i64, Nat.reduceSub, Nat.reduceAdd, bm]
      repeat (first | (refine gC ?_; first | refine aA ?_ | ((first | refine cR hS ?_ | refine cR hC ?_); refine sX ?_; try refine aA ?_)) | ((first | refine cR hS ?_ | refine cR hC ?_); refine sX ?_; try refine aA ?_) | refine gS ?_)
      refine G_loop ?_
      refine G_round ?_
      repeat (first | (refine gC ?_; first | refine aA ?_ | ((first | refine cR q2 ?_ | refine cR q3 ?_); refine sX ?_; try refine aA ?_)) | ((first | refine cR q2 ?_ | refine cR q3 ?_); refine sX ?_; try refine aA ?_) | refine gS ?_)
      (refine gC ?_)
      refine ⟨⟨rfl, rfl⟩, ?_⟩
      simp (disch := omega) only [u, i64, ax, eq_self, if_true, if_false, Nat.reduceAdd, Int.reduceToNat, Int.reduceAdd, tvs, bs, Nat.reduceMul, List.take_succ_cons, List.take_zero, List.nil_append, List.cons_append, List.append_nil]
      refine aft_any ?_
      (refine gO ?_)
      refine G_round ?_
      (refine gO ?_)
      (refine FinQ hQ (congrArg Array.toList Tryd.results110) _ _ ?_); simp (disch := omega) only [u, i64, ax, if_true, forall_const, reduceCtorEq, implies_true, tvs, bf, fzO_d1]
    · rw [decF q4] at q3
      rw [if_neg (show ¬ DI.okIn p g ⟨k, neg, cs, e⟩ from fun h => q4 h.2)]
      refine RetN_start Tryd.func110 (by kernel_rfl) rfl fun Q hQ hQ2 => ?_; rw [Tryd.ntmps110]; simp only [u, i64, Nat.reduceSub, Nat.reduceAdd, bm]
      repeat (first | (refine gC ?_; first | refine aA ?_ | ((first | refine cR hS ?_ | refine cR hC ?_); refine sX ?_; try refine aA ?_)) | ((first | refine cR hS ?_ | refine cR hC ?_); refine sX ?_; try refine aA ?_) | refine gS ?_)
      refine G_loop ?_
      refine G_round ?_
      repeat (first | (refine gC ?_; first | refine aA ?_ | ((first | refine cR q2 ?_ | refine cR q3 ?_); refine sX ?_; try refine aA ?_)) | ((first | refine cR q2 ?_ | refine cR q3 ?_); refine sX ?_; try refine aA ?_) | refine gS ?_)
      (refine FinQ hQ (congrArg Array.toList Tryd.results110) _ _ ?_); simp (disch := omega) only [u, i64, ax, if_true, forall_const, reduceCtorEq, implies_true, tvs, bf]
end Go.Proofs
set_option linter.unusedVariables false
set_option linter.unusedSimpArgs false
namespace Go.Proofs
open Go.Ax
set_option maxRecDepth 100000 in
set_option maxHeartbeats 2000000 in
theorem ret_Args2 (p : Nat) (g : Int) (r : Nat) (hp : 1 ≤ p ∧ p ≤ 400) (hg : 1 ≤ g ∧ g ≤ 6000) (hr : r ≤ 4) (d c : DI) (h1 : d.ok) (h2 : c.ok) :
    Ret Tryd.prog GEs 110 [cx p g r, .bool false, .lst 2 [i64 d.k, .bool d.neg, ws d.cs, i64 d.e, i64 c.k, .bool c.neg, ws c.cs, i64 c.e]] (if d.okIn p g ∧ c.okIn p g then .tup [.lst 2 [i64 d.k, .bool d.neg, nat (val d.cs), i64 d.e, i64 c.k, .bool c.neg, nat (val c.cs), i64 c.e], i64 0] else .tup [.lst 0 [], i64 221]) := by
  have hS := ret_sizes2 d c (Nat.le_trans h1.len (by decide)) (Nat.le_trans h2.len (by decide))
  have hC := ret_DCheck p g r (by omega) (by omega)
  rw [if_pos (show okC p g r from ⟨by omega, hg, by omega⟩)] at hC
  have o1 := one_of p g r hp hg d h1
  have o2 := one_of p g r hp hg c h2
  obtain ⟨k1, n1, c1, e1⟩ := d
  obtain ⟨k2, n2, c2, e2⟩ := c
  simp only at *
  unfold cx at *
  rcases o1 with ⟨x1, x2, x3, x4, g1, a1⟩ | ⟨g1, a1, b1⟩
  · rw [if_neg (show ¬ (DI.okIn p g ⟨k1, n1, c1, e1⟩ ∧ DI.okIn p g ⟨k2, n2, c2, e2⟩) from fun h => g1 h.1.1)]
    refine RetN_start Tryd.func110 (by kernel_rfl) rfl fun Q hQ hQ2 => ?_; rw [Tryd.ntmps110]; simp only [u, i64, Nat.reduceSub, Nat.reduceAdd, bm]
    repeat (first | (refine gC ?_; first | refine aA ?_ | ((first | refine cR hS ?_ | refine cR hC ?_); refine sX ?_; try refine aA ?_)) | ((first | refine cR hS ?_ | refine cR hC ?_); refine sX ?_; try refine aA ?_) | refine gS ?_)
    refine G_loop ?_
    refine G_round ?_
    repeat (first | (refine gC ?_; first | refine aA ?_ | (refine cR a1 ?_; refine sX ?_; try refine aA ?_)) | (refine cR a1 ?_; refine sX ?_; try refine aA ?_) | refine gS ?_)
    (refine FinQ hQ (congrArg Array.toList Tryd.results110) _ _ ?_); simp (disch := omega) only [u, i64, ax, if_true, forall_const, reduceCtorEq, implies_true, tvs, bf]
  · by_cases q1 : inD p g (DI.D ⟨k1, n1, c1, e1⟩)
    · rw [decT q1] at b1
      rcases o2 with ⟨x1, x2, x3, x4, g2, a2⟩ | ⟨g2, a2, b2⟩
      · rw [if_neg (show ¬ (DI.okIn p g ⟨k1, n1, c1, e1⟩ ∧ DI.okIn p g ⟨k2, n2, c2, e2⟩) from fun h => g2 h.2.1)]
        refine RetN_start Tryd.func110 (by kernel_rfl) rfl fun Q hQ hQ2 => ?_; rw [Tryd.ntmps110]; simp only [u, i64, Nat.reduceSub, Nat.reduceAdd, bm]
        repeat (first | (refine gC ?_; first | refine aA ?_ | ((first | refine cR hS ?_ | refine cR hC ?_); refine sX ?_; try refine aA ?_)) | ((first | refine cR hS ?_ | refine cR hC ?_); refine sX ?_; try refine aA ?_) | refine gS ?_)
        refine G_loop ?_
        refine G_round ?_
        repeat (first | (refine gC ?_; first | refine aA ?_ | ((first | refine cR a1 ?_ | refine cR b1 ?_); refine sX ?_; try refine aA ?_)) | ((first | refine cR a1 ?_ | refine cR b1 ?_); refine sX ?_; try refine aA ?_) | refine gS ?_)
        (refine gC ?_)
        refine ⟨⟨rfl, rfl⟩, ?_⟩
        simp (disch := omega) only [u, i64, ax, eq_self, if_true, if_false, Nat.reduceAdd, Int.reduceToNat, Int.reduceAdd, tvs, bs, Nat.reduceMul, List.take_succ_cons, List.take_zero, List.nil_append, List.cons_append, List.append_nil]
        refine aft_any ?_
        (refine gO ?_)
        refine G_round ?_
        repeat (first | (refine gC ?_; first | refine aA ?_ | (refine cR a2 ?_; refine sX ?_; try refine aA ?_)) | (refine cR a2 ?_; refine sX ?_; try refine aA ?_) | refine gS ?_)
        (refine FinQ hQ (congrArg Array.toList Tryd.results110) _ _ ?_); simp (disch := omega) only [u, i64, ax, if_true, forall_const, reduceCtorEq, implies_true, tvs, bf]
      · by_cases q2 : inD p g (DI.D ⟨k2, n2, c2, e2⟩)
        · rw [decT q2] at b2
          rw [if_pos (show DI.okIn p g ⟨k1, n1, c1, e1⟩ ∧ DI.okIn p g ⟨k2, n2, c2, e2⟩ from ⟨⟨g1, q1⟩, ⟨g2, q2⟩⟩)]
          refine RetN_start Tryd.func110 (by kernel_rfl) rfl fun Q hQ hQ2 => ?_; rw [Tryd.ntmps110]; simp only [u, i64, Nat.reduceSub, Nat.reduceAdd, bm]
          repeat (first | (refine gC ?_; first | refine aA ?_ | ((first | refine cR hS ?_ | refine cR hC ?_); refine sX ?_; try refine aA ?_)) | ((first | refine cR hS ?_ | refine cR hC ?_); refine sX ?_; try refine aA ?_) | refine gS ?_)
          refine G_loop ?_
          refine G_round ?_
          repeat (first | (refine gC ?_; first | refine aA ?_ | ((first | refine cR a1 ?_ | refine cR b1 ?_); refine sX ?_; try refine aA ?_)) | ((first | refine cR a1 ?_ | refine cR b1 ?_); refine sX ?_; try refine aA ?_) | refine gS ?_)
          (refine gC ?_)
          refine ⟨⟨rfl, rfl⟩, ?_⟩
          simp (disch := omega) only [u, i64, ax, eq_self, if_true, if_false, Nat.reduceAdd, Int.reduceToNat, Int.reduceAdd, tvs, bs, Nat.reduceMul, List.take_succ_cons, List.take_zero, List.nil_append, List.cons_append, List.append_nil]
          refine aft_any ?_
          (refine gO ?_)
          refine G_round ?_
          repeat (first | (refine gC ?_; first | refine aA ?_ | ((first | refine cR a2 ?_ | refine cR b2 ?_); refine sX ?_; try refine aA ?_)) | ((first | refine cR a2 ?_ | refine cR b2 ?_); refine sX ?_; try refine aA ?_) | refine gS ?_)
          (refine gC ?_)
          refine ⟨⟨rfl, rfl⟩, ?_⟩
          simp (disch := omega) only [u, i64, ax, eq_self, if_true, if_false, Nat.reduceAdd, Int.reduceToNat, Int.reduceAdd, tvs, bs, Nat.reduceMul, List.take_succ_cons, List.take_zero, List.nil_append, List.cons_append, List.append_nil]
          refine aft_any ?_
          (refine gO ?_)
          refine G_round ?_
          (refine gO ?_)
          (refine FinQ hQ (congrArg Array.toList Tryd.results110) _ _ ?_); simp (disch := omega) only [u, i64, ax, if_true, forall_const, reduceCtorEq, implies_true, tvs, bf, fzO_d2]
        · rw [decF q2] at b2
          rw [if_neg (show ¬ (DI.okIn p g ⟨k1, n1, c1, e1⟩ ∧ DI.okIn p g ⟨k2, n2, c2, e2⟩) from fun h => q2 h.2.2)]
          refine RetN_start Tryd.func110 (by kernel_rfl) rfl fun Q hQ hQ2 => ?_; rw [Tryd.ntmps110]; simp only [u, i64, Nat.reduceSub, Nat.reduceAdd, bm]
          repeat (first | (refine gC ?_; first | refine aA ?_ | ((first | refine cR hS ?_ | refine cR hC ?_); refine sX ?_; try refine aA ?_)) | ((first | refine cR hS ?_ | refine cR hC ?_); refine sX ?_; try refine aA ?_) | refine gS ?_)
          refine G_loop ?_
          refine G_round ?_
          repeat (first | (refine gC ?_; first | refine aA ?_ | ((first | refine cR a1 ?_ | refine cR b1 ?_); refine sX ?_; try refine aA ?_)) | ((first | refine cR a1 ?_ | refine cR b1 ?_); refine sX ?_; try refine aA ?_) | refine gS ?_)
          (refine gC ?_)
          refine ⟨⟨rfl, rfl⟩, ?_⟩
          simp (disch := omega) only [u, i64, ax, eq_self, if_true, if_false, Nat.reduceAdd, Int.reduceToNat, Int.reduceAdd, tvs, bs, Nat.reduceMul, List.take_succ_cons, List.take_zero, List.nil_append, List.cons_append, List.append_nil]
          refine aft_any ?_
          (refine gO ?_)
          refine G_round ?_
          repeat (first | (refine gC ?_; first | refine aA ?_ | ((first | refine cR a2 ?_ | refine cR b2 ?_); refine sX ?_; try refine aA ?_)) | ((first | refine cR a2 ?_ | refine cR b2 ?_); refine sX ?_; try refine aA ?_) | refine gS ?_)
          (refine FinQ hQ (congrArg Array.toList Tryd.results110) _ _ ?_); simp (disch := omega) only [u, i64, ax, if_true, forall_const, reduceCtorEq, implies_true, tvs, bf]
    · rw [decF q1] at b1
      rw [if_neg (show ¬ (DI.okIn p g ⟨k1, n1, c1, e1⟩ ∧ DI.okIn p g ⟨k2, n2, c2, e2⟩) from fun h => q1 h.1.2)]
      refine RetN_start Tryd.func110 (by kernel_rfl) rfl fun Q hQ hQ2 => ?_; rw [Tryd.ntmps110]; simp only [u, i64, Nat.reduceSub, Nat.reduceAdd, bm]
      repeat (first | (refine gC ?_; first | refine aA ?_ | ((first | refine cR hS ?_ | refine cR hC ?_); refine sX ?_; try refine aA ?_)) | ((first | refine cR hS ?_ | refine cR hC ?_); refine sX ?_; try refine aA ?_) | refine gS ?_)
      refine G_loop ?_
      refine G_round ?_
      repeat (first | (refine gC ?_; first | refine aA ?_ | ((first | refine cR a1 ?_ | refine cR b1 ?_); refine sX ?_; try refine aA ?_)) | ((first | refine cR a1 ?_ | refine cR b1 ?_); refine sX ?_; try refine aA ?_) | refine gS ?_)
      (refine FinQ hQ (congrArg Array.toList Tryd.results110) _ _ ?_); simp (disch := omega) only [u, i64, ax, if_true, forall_const, reduceCtorEq, implies_true, tvs, bf]
set_option maxRecDepth 100000 in
set_option maxHeartbeats 2000000 in
theorem ret_rights2 (d c : DI) (h1 : d.ok) (h2 : c.ok) :
    Ret Tryd.prog GEs 121 [.lst 2 [i64 d.k, .bool d.neg, ws d.cs, i64 d.e, i64 c.k, .bool c.neg, ws c.cs, i64 c.e]] (if d.good ∧ c.good then .tup [.lst 2 [i64 d.k, .bool d.neg, nat (val d.cs), i64 d.e, i64 c.k, .bool c.neg, nat (val c.cs), i64 c.e], i64 0] else .tup [.lst 0 [], i64 221]) := by
  have hS := ret_sizes2 d c (Nat.le_trans h1.len (by decide)) (Nat.le_trans h2.len (by decide))
  have o1 := one_of 1 1 0 (by decide) (by decide) d h1
  have o2 := one_of 1 1 0 (by decide) (by decide) c h2
  obtain ⟨k1, n1, c1, e1⟩ := d
  obtain ⟨k2, n2, c2, e2⟩ := c
  simp only at *
  rcases o1 with ⟨x1, x2, x3, x4, g1, a1⟩ | ⟨g1, a1, b1⟩
  · rw [if_neg (show ¬ (DI.good ⟨k1, n1, c1, e1⟩ ∧ DI.good ⟨k2, n2, c2, e2⟩) from fun h => g1 h.1)]
    refine RetN_start Tryd.func121 (by kernel_rfl) rfl fun Q hQ hQ2 => ?_; rw [Tryd.ntmps121]; simp only [u, i64, Nat.reduceSub, Nat.reduceAdd, bm]
    repeat (first | (refine gC ?_; first | refine aA ?_ | (refine cR hS ?_; refine sX ?_; try refine aA ?_)) | (refine cR hS ?_; refine sX ?_; try refine aA ?_) | refine gS ?_)
    refine G_loop ?_
    refine G_round ?_
    repeat (first | (refine gC ?_; first | refine aA ?_ | (refine cR a1 ?_; refine sX ?_; try refine aA ?_)) | (refine cR a1 ?_; refine sX ?_; try refine aA ?_) | refine gS ?_)
    (refine FinQ hQ (congrArg Array.toList Tryd.results121) _ _ ?_); simp (disch := omega) only [u, i64, ax, if_true, forall_const, reduceCtorEq, implies_true, tvs, bf]
  · rcases o2 with ⟨x1, x2, x3, x4, g2, a2⟩ | ⟨g2, a2, b2⟩
    · rw [if_neg (show ¬ (DI.good ⟨k1, n1, c1, e1⟩ ∧ DI.good ⟨k2, n2, c2, e2⟩) from fun h => g2 h.2)]
      refine RetN_start Tryd.func121 (by kernel_rfl) rfl fun Q hQ hQ2 => ?_; rw [Tryd.ntmps121]; simp only [u, i64, Nat.reduceSub, Nat.reduceAdd, bm]
      repeat (first | (refine gC ?_; first | refine aA ?_ | (refine cR hS ?_; refine sX ?_; try refine aA ?_)) | (refine cR hS ?_; refine sX ?_; try refine aA ?_) | refine gS ?_)
      refine G_loop ?_
      refine G_round ?_
      repeat (first | (refine gC ?_; first | refine aA ?_ | (refine cR a1 ?_; refine sX ?_; try refine aA ?_)) | (refine cR a1 ?_; refine sX ?_; try refine aA ?_) | refine gS ?_)
      (refine gC ?_)
      refine ⟨⟨rfl, rfl⟩, ?_⟩
      simp (disch := omega) only [u, i64, ax, eq_self, if_true, if_false, Nat.reduceAdd, Int.reduceToNat, Int.reduceAdd, tvs, bs, Nat.reduceMul, List.take_succ_cons, List.take_zero, List.nil_append, List.cons_append, List.append_nil]
      refine aft_any ?_
      (refine gO ?_)
      refine G_round ?_
      repeat (first | (refine gC ?_; first | refine aA ?_ | (refine cR a2 ?_; refine sX ?_; try refine aA ?_)) | (refine cR a2 ?_; refine sX ?_; try refine aA ?_) | refine gS ?_)
      (refine FinQ hQ (congrArg Array.toList Tryd.results121) _ _ ?_); simp (disch := omega) only [u, i64, ax, if_true, forall_const, reduceCtorEq, implies_true, tvs, bf]
    · rw [if_pos (show DI.good ⟨k1, n1, c1, e1⟩ ∧ DI.good ⟨k2, n2, c2, e2⟩ from ⟨g1, g2⟩)]
      refine RetN_start Tryd.func121 (by kernel_rfl) rfl fun Q hQ hQ2 => ?_; rw [Tryd.ntmps121]; simp only [u, i64, Nat.reduceSub, Nat.reduceAdd, bm]
      repeat (first | (refine gC ?_; first | refine aA ?_ | (refine cR hS ?_; refine sX ?_; try refine aA ?_)) | (refine cR hS ?_; refine sX ?_; try refine aA ?_) | refine gS ?_)
      refine G_loop ?_
      refine G_round ?_
      repeat (first | (refine gC ?_; first | refine aA ?_ | (refine cR a1 ?_; refine sX ?_; try refine aA ?_)) | (refine cR a1 ?_; refine sX ?_; try refine aA ?_) | refine gS ?_)
      (refine gC ?_)
      refine ⟨⟨rfl, rfl⟩, ?_⟩
      simp (disch := omega) only [u, i64, ax, eq_self, if_true, if_false, Nat.reduceAdd, Int.reduceToNat, Int.reduceAdd, tvs, bs, Nat.reduceMul, List.take_succ_cons, List.take_zero, List.nil_append, List.cons_append, List.append_nil]
      refine aft_any ?_
      (refine gO ?_)
      refine G_round ?_
      repeat (first | (refine gC ?_; first | refine aA ?_ | (refine cR a2 ?_; refine sX ?_; try refine aA ?_)) | (refine cR a2 ?_; refine sX ?_; try refine aA ?_) | refine gS ?_)
      (refine gC ?_)
      refine ⟨⟨rfl, rfl⟩, ?_⟩
      simp (disch := omega) only [u, i64, ax, eq_self, if_true, if_false, Nat.reduceAdd, Int.reduceToNat, Int.reduceAdd, tvs, bs, Nat.reduceMul, List.take_succ_cons, List.take_zero, List.nil_append, List.cons_append, List.append_nil]
      refine aft_any ?_
      (refine gO ?_)
      refine G_round ?_
      (refine gO ?_)
      (refine FinQ hQ (congrArg Array.toList Tryd.results121) _ _ ?_); simp (disch := omega) only [u, i64, ax, if_true, forall_const, reduceCtorEq, implies_true, tvs, bf, fzO_d2]
end Go.Proofs
set_option linter.unusedVariables false
set_option linter.unusedSimpArgs false
namespace Go.Proofs
open Go.Ax
/-- What the program finishes first: infinite or a number and an exponent. -/
def dcv (inf : Bool) (coef : Nat) (exp : Int) : AV := .agg [.bool inf, nat coef, i64 exp]
def fitsD (p : Nat) (g : Int) (mag : Nat) (exp : Int) : Prop := ¬ g < exp + dg mag - 1 ∧ stpD p g (exp + dg mag - 1) ≤ exp + st mag
instance (p : Nat) (g : Int) (mag : Nat) (exp : Int) : Decidable (fitsD p g mag exp) := by unfold fitsD; infer_instance
set_option maxRecDepth 100000 in
set_option maxHeartbeats 1000000 in
theorem ret_fits (p : Nat) (g : Int) (mag : Nat) (exp ideal : Int) (hp : 1 ≤ p ∧ p ≤ 400) (hg : 1 ≤ g ∧ g ≤ 6000) (hm : mag ≠ 0) (hl : (words mag).length ≤ 2000) (he : -3000000 ≤ exp ∧ exp ≤ 3000000) (hi : -3000000 ≤ ideal ∧ ideal ≤ 3000000) :
    Ret Tryd.prog GEs 192 [i64 p, i64 g, i64 (1 - g - (p - 1)), nat mag, i64 exp, i64 ideal]
      (if fitsD p g mag exp then .tup [dcv false (exN p g mag exp ideal) (exE p g mag exp ideal), .bool true] else .tup [.agg [.bool false, ws [], i64 0], .bool false]) := by
  have hS := ret_Strip (words mag) (Wd_words _) (by omega) (by rw [val_words]; exact hm)
  rw [val_words] at hS
  have hsl := length_mono (sm_le mag)
  have hD := ret_WDigits (sm mag) (by omega)
  have hiff := fits_iff p g mag exp hm
  have hat := fits_at p g mag exp ideal hm
  have hbn := bl_len mag
  have hdb := dg_le_bl mag
  have hds := dg_sm hm
  have hs1 := (dg_spec _ (sm_ne hm)).2.2
  generalize hT : 1 - g - ((p : Int) - 1) = T at *
  by_cases hf : fitsD p g mag exp
  · rw [if_pos hf]
    obtain ⟨f1, f2, f3, f4, f5⟩ := exact_facts p g mag exp ideal hm hf.1 hf.2
    have hc := hiff.2 hf
    obtain ⟨c1, c2, c3⟩ : dg (sm mag) ≤ p ∧ T ≤ exp + st mag ∧ exp + st mag + dg (sm mag) - 1 ≤ g := by omega
    have hs0 : (exp + dg mag - 1) - p + 1 ≤ stpD p g (exp + dg mag - 1) := by unfold stpD; omega
    have hat : min ((st mag : Int) + exp) (max (max ideal T) (st mag + exp - ((p - dg (sm mag) : Nat) : Int))) = exE p g mag exp ideal := by
      rw [Int.add_comm (st mag : Int) exp, Int.natCast_sub c1]; exact hat
    clear hiff hc
    have hdi : (exp + st mag - exE p g mag exp ideal).toNat ≤ p := by omega
    have hTe := ret_Ten (exp + st mag - exE p g mag exp ideal).toNat (by omega)
    have htl := ten_len (k := (exp + st mag - exE p g mag exp ideal).toNat) (by omega)
    have hM := ret_Mul (words (sm mag)) (words (10 ^ (exp + st mag - exE p g mag exp ideal).toNat)) (Wd_words _) (Wd_words _) (by omega) (by omega)
    rw [val_words, val_words] at hM
    have hN : sm mag * 10 ^ (exp + st mag - exE p g mag exp ideal).toNat = exN p g mag exp ideal := rfl
    rw [hN] at hM
    have hcast : (st mag : Int) + exp - exE p g mag exp ideal = (((exp + st mag - exE p g mag exp ideal).toNat : Nat) : Int) := by omega
    generalize exN p g mag exp ideal = N at *
    generalize exE p g mag exp ideal = E at *
    generalize sm mag = sM at *
    generalize st mag = sT at *
    unfold dcv
    generalize 10 ^ (exp + sT - E).toNat = TT at *
    generalize hk : (exp + sT - E).toNat = k at *
    refine RetN_start Tryd.func192 (by kernel_rfl) rfl fun Q hQ hQ2 => ?_; rw [Tryd.ntmps192]; simp only [u, i64, Nat.reduceSub, Nat.reduceAdd, bm]
    repeat (first | (refine gC ?_; first | refine aA ?_ | ((first | refine cR hS ?_ | refine cR hD ?_); refine sX ?_; try refine aA ?_)) | ((first | refine cR hS ?_ | refine cR hD ?_); refine sX ?_; try refine aA ?_) | refine gS ?_)
    (refine gC ?_)
    rw [hat, hcast]
    repeat (first | (refine gC ?_; first | refine aA ?_ | ((first | refine cR hTe ?_ | refine cR hM ?_); refine sX ?_; try refine aA ?_)) | ((first | refine cR hTe ?_ | refine cR hM ?_); refine sX ?_; try refine aA ?_) | refine gS ?_)
    (refine FinQ hQ (congrArg Array.toList Tryd.results192) _ _ ?_); simp (disch := omega) only [u, i64, ax, if_true, forall_const, reduceCtorEq, implies_true, tvs, bf]
    all_goals rfl
  · rw [if_neg hf]
    have hc : ¬ ¬ ((p : Int) < dg (sm mag) ∨ exp + st mag < T ∨ g < exp + st mag + dg (sm mag) - 1) := fun h => hf (hiff.1 h)
    have hc := Classical.not_not.1 hc
    clear hiff hat
    generalize sm mag = sM at *
    generalize st mag = sT at *
    by_cases c1 : p < dg sM
    · clear hc
      refine RetN_start Tryd.func192 (by kernel_rfl) rfl fun Q hQ hQ2 => ?_; rw [Tryd.ntmps192]; simp only [u, i64, Nat.reduceSub, Nat.reduceAdd, bm]
      repeat (first | (refine gC ?_; first | refine aA ?_ | ((first | refine cR hS ?_ | refine cR hD ?_); refine sX ?_; try refine aA ?_)) | ((first | refine cR hS ?_ | refine cR hD ?_); refine sX ?_; try refine aA ?_) | refine gS ?_)
      (refine FinQ hQ (congrArg Array.toList Tryd.results192) _ _ ?_); simp (disch := omega) only [u, i64, ax, if_true, forall_const, reduceCtorEq, implies_true, tvs, bf]
      all_goals rfl
    · by_cases c2 : exp + sT < T
      · clear hc
        refine RetN_start Tryd.func192 (by kernel_rfl) rfl fun Q hQ hQ2 => ?_; rw [Tryd.ntmps192]; simp only [u, i64, Nat.reduceSub, Nat.reduceAdd, bm]
        repeat (first | (refine gC ?_; first | refine aA ?_ | ((first | refine cR hS ?_ | refine cR hD ?_); refine sX ?_; try refine aA ?_)) | ((first | refine cR hS ?_ | refine cR hD ?_); refine sX ?_; try refine aA ?_) | refine gS ?_)
        (refine FinQ hQ (congrArg Array.toList Tryd.results192) _ _ ?_); simp (disch := omega) only [u, i64, ax, if_true, forall_const, reduceCtorEq, implies_true, tvs, bf]
        all_goals rfl
      · have c3 : g < exp + sT + dg sM - 1 := by omega
        clear hc
        refine RetN_start Tryd.func192 (by kernel_rfl) rfl fun Q hQ hQ2 => ?_; rw [Tryd.ntmps192]; simp only [u, i64, Nat.reduceSub, Nat.reduceAdd, bm]
        repeat (first | (refine gC ?_; first | refine aA ?_ | ((first | refine cR hS ?_ | refine cR hD ?_); refine sX ?_; try refine aA ?_)) | ((first | refine cR hS ?_ | refine cR hD ?_); refine sX ?_; try refine aA ?_) | refine gS ?_)
        (refine FinQ hQ (congrArg Array.toList Tryd.results192) _ _ ?_); simp (disch := omega) only [u, i64, ax, if_true, forall_const, reduceCtorEq, implies_true, tvs, bf]
        all_goals rfl
set_option maxRecDepth 100000 in
theorem ret_over (p : Nat) (g : Int) (r : Nat) (neg : Bool) (hp : 1 ≤ p ∧ p ≤ 400) (hg : 1 ≤ g ∧ g ≤ 6000) (hr : r ≤ 4) :
    Ret Tryd.prog GEs 193 [i64 p, i64 g, i64 r, .bool neg] (.tup [if grtF r neg = true then dcv false (10 ^ p - 1) (g - p + 1) else .agg [.bool true, ws [], i64 0], i64 5]) := by
  have hG := ret_greatest r hr neg
  have hT := ret_Ten p (by omega)
  have htl := ten_len (k := p) (by omega)
  have hpos := ten_pos p
  have hS := ret_Sub (words (10 ^ p)) (words 1) (Wd_words _) (Wd_words _) (by omega) (by have : (words 1).length ≤ 1 := length_le (by decide); omega) (by rw [val_words, val_words]; omega)
  rw [val_words, val_words, show ws (words 1) = nat 1 from rfl, words1] at hS
  unfold dcv
  generalize 10 ^ p = T at *
  cases hgr : grtF r neg with
  | true =>
    rw [hgr] at hG
    rw [if_pos rfl]
    refine RetN_start Tryd.func193 (by kernel_rfl) rfl fun Q hQ hQ2 => ?_; rw [Tryd.ntmps193]; simp only [u, i64, Nat.reduceSub, Nat.reduceAdd, bm]
    repeat (first | (refine gC ?_; first | refine aA ?_ | ((first | refine cR hG ?_ | refine cR hT ?_ | refine cR hS ?_); refine sX ?_; try refine aA ?_)) | ((first | refine cR hG ?_ | refine cR hT ?_ | refine cR hS ?_); refine sX ?_; try refine aA ?_) | refine gS ?_)
    (refine FinQ hQ (congrArg Array.toList Tryd.results193) _ _ ?_); simp (disch := omega) only [u, i64, ax, if_true, forall_const, reduceCtorEq, implies_true, tvs, bf]
    all_goals rfl
  | false =>
    rw [hgr] at hG
    rw [if_neg (by decide)]
    refine RetN_start Tryd.func193 (by kernel_rfl) rfl fun Q hQ hQ2 => ?_; rw [Tryd.ntmps193]; simp only [u, i64, Nat.reduceSub, Nat.reduceAdd, bm]
    repeat (first | (refine gC ?_; first | refine aA ?_ | (refine cR hG ?_; refine sX ?_; try refine aA ?_)) | (refine cR hG ?_; refine sX ?_; try refine aA ?_) | refine gS ?_)
    (refine FinQ hQ (congrArg Array.toList Tryd.results193) _ _ ?_); simp (disch := omega) only [u, i64, ax, if_true, forall_const, reduceCtorEq, implies_true, tvs, bf]
    all_goals rfl
theorem Ret_nil {P : Program} {GE : Nat → Option (List AV)} {f : FuncId} {args args' : List AV} {r : AV} (h : Ret P GE f args r) (hn : nrms args' = args) : Ret P GE f args' r :=
  ⟨h.1, fun w ok vargs hG hv => h.2 w ok vargs hG (by rw [← hn]; exact VReps.nrm _ _ hv)⟩
def fdv (x : DV) : AV := .agg [.bool (decide (x.kind = 1)), nat x.coef, i64 x.exp]
theorem fdv_over (p : Nat) (g : Int) (r : Nat) (neg : Bool) : fdv (overD p g r neg) = if grtF r neg = true then dcv false (10 ^ p - 1) (g - p + 1) else .agg [.bool true, ws [], i64 0] := by
  unfold overD; split <;> rfl
theorem or1I : Go.Ax.bits .or .i64 (1 : Int) 2 = 3 := by decide
set_option maxRecDepth 100000 in
set_option maxHeartbeats 4000000 in
theorem ret_finFinish (p : Nat) (g : Int) (r : Nat) (neg : Bool) (mag : Nat) (exp ideal : Int) (hp : 1 ≤ p ∧ p ≤ 400) (hg : 1 ≤ g ∧ g ≤ 6000) (hr : r ≤ 4) (hm : mag ≠ 0) (hl : (words mag).length ≤ 2000) (he : -3000000 ≤ exp ∧ exp ≤ 3000000) (hi : -3000000 ≤ ideal ∧ ideal ≤ 3000000) :
    Ret Tryd.prog GEs 167 [i64 p, i64 g, i64 r, .bool neg, nat mag, i64 exp, .bool false, i64 ideal] (.tup [fdv (finD p g r neg mag exp ideal).1, i64 (finD p g r neg mag exp ideal).2]) := by
  have hF := ret_fits p g mag exp ideal hp hg hm hl he hi
  have hD := ret_WDigits mag (by omega)
  have hO := ret_over p g r neg hp hg hr
  rw [← fdv_over] at hO
  have hbn := bl_len mag
  have hdb := dg_le_bl mag
  have hd1 := (dg_spec _ hm).2.2
  have hpc : ((p : Int) - 1) = ((p - 1 : Nat) : Int) := by omega
  have hst : stpD p g (exp + dg mag - 1) = max (exp + dg mag - 1 - p + 1) (1 - g - ((p : Int) - 1)) := rfl
  rw [hpc] at hF hst
  by_cases c1 : g < exp + dg mag - 1
  · rw [finD_over p g r neg mag exp ideal c1]
    rw [if_neg (fun h => h.1 c1)] at hF
    generalize overD p g r neg = y at *
    unfold fdv at *
    refine RetN_start Tryd.func167 (by kernel_rfl) rfl fun Q hQ hQ2 => ?_; rw [Tryd.ntmps167]; simp only [u, i64, Nat.reduceSub, Nat.reduceAdd, bm]
    repeat (first | (refine gC ?_; first | refine aA ?_ | ((first | refine cR hF ?_ | refine cR hD ?_ | refine cR hO ?_); refine sX ?_; try refine aA ?_)) | ((first | refine cR hF ?_ | refine cR hD ?_ | refine cR hO ?_); refine sX ?_; try refine aA ?_) | refine gS ?_)
    (refine FinQ hQ (congrArg Array.toList Tryd.results167) _ _ ?_); simp (disch := omega) only [u, i64, ax, if_true, forall_const, reduceCtorEq, implies_true, tvs, bf]
    all_goals rfl
  by_cases c2 : stpD p g (exp + dg mag - 1) ≤ exp + st mag
  · rw [finD_exact p g r neg mag exp ideal c1 c2]
    rw [if_pos ⟨c1, c2⟩] at hF
    have e1 : fdv ⟨0, neg, exN p g mag exp ideal, exE p g mag exp ideal⟩ = dcv false (exN p g mag exp ideal) (exE p g mag exp ideal) := rfl
    rw [e1]
    unfold dcv at *
    generalize exN p g mag exp ideal = N at *
    generalize exE p g mag exp ideal = E at *
    refine RetN_start Tryd.func167 (by kernel_rfl) rfl fun Q hQ hQ2 => ?_; rw [Tryd.ntmps167]; simp only [u, i64, Nat.reduceSub, Nat.reduceAdd, bm]
    repeat (first | (refine gC ?_; first | refine aA ?_ | (refine cR hF ?_; refine sX ?_; try refine aA ?_)) | (refine cR hF ?_; refine sX ?_; try refine aA ?_) | refine gS ?_)
    (refine FinQ hQ (congrArg Array.toList Tryd.results167) _ _ ?_); simp (disch := omega) only [u, i64, ax, if_true, forall_const, reduceCtorEq, implies_true, tvs, bf]
    all_goals rfl
  · rw [finD_ine p g r neg mag exp ideal c1 c2]
    rw [if_neg (fun h => c2 h.2)] at hF
    have hNp := quoD_le p g r neg mag exp _ rfl (by omega : exp < stpD p g (exp + dg mag - 1))
    have htq := fun h => tiny_quo mag (stpD p g (exp + dg mag - 1) - exp).toNat h hm
    have hNd : quoN r neg mag (10 ^ (stpD p g (exp + dg mag - 1) - exp).toNat) = mag / 10 ^ (stpD p g (exp + dg mag - 1) - exp).toNat + if moreF r neg (decide (mag / 10 ^ (stpD p g (exp + dg mag - 1) - exp).toNat % 2 = 1)) (restC (mag % 10 ^ (stpD p g (exp + dg mag - 1) - exp).toNat) (10 ^ (stpD p g (exp + dg mag - 1) - exp).toNat)) = true then 1 else 0 := rfl
    have hlt : exp < stpD p g (exp + dg mag - 1) := by omega
    have htp := ten_len (k := p) (by omega)
    have hTp := ret_Ten p (by omega)
    have hTp1 := ret_Ten (p - 1) (by omega)
    generalize hs : stpD p g (exp + dg mag - 1) = s at *
    generalize hk : (s - exp).toNat = k at *
    generalize hN : quoN r neg mag (10 ^ k) = N at *
    have hNl := length_mono hNp
    have hCp := ret_Cmp (words N) (words (10 ^ p)) (Wd_words _) (Wd_words _) (by omega) (by omega)
    rw [val_words, val_words] at hCp
    have hsg := cmpI_sign N (10 ^ p)
    have hdp1 : dg (10 ^ (p - 1)) = p - 1 + 1 := dg_pow (p - 1)
    have hl1 := ten_len (k := p - 1) (by omega)
    have hP1 : 10 ^ (p - 1) ≠ 0 := Nat.ne_of_gt (ten_pos _)
    have hDP1 := ret_WDigits (10 ^ (p - 1)) (by have := le_pow_words (k := 100) (ten_le (p - 1)) (by omega); omega)
    have hDN := ret_WDigits N (by have := le_pow_words (k := 100) (ten_le p) (by omega); omega)
    have hdN : dg N ≤ p + 1 := dg_le (Nat.lt_of_le_of_lt hNp (Nat.pow_lt_pow_right (by decide) (by omega)))
    have hZP1 := ret_Zero (words (10 ^ (p - 1))) (Wd_words _) (by omega)
    rw [val_words, decF hP1] at hZP1
    have hZN := ret_Zero (words N) (Wd_words _) (by omega)
    rw [val_words] at hZN
    rw [hdp1] at hDP1
    have hor := or1I
    have hsr : -10000 ≤ s ∧ s ≤ 10000 := by omega
    unfold ineD
    generalize 10 ^ (p - 1) = P1 at *
    have hUp1 : dg mag + 1 < k → Ret Tryd.prog GEs 170 [i64 r, .bool neg, .emp, i64 1] (nat N) := fun h => by
      have := ret_up r hr neg 0 (by decide) 1 (by decide)
      obtain ⟨t1, t2⟩ := htq h
      rw [t1, t2] at hNd
      rw [← hNd] at this
      exact Ret_nil this rfl
    by_cases b1 : dg mag + 1 < k
    · have hUp := hUp1 b1
      have hN1 : N ≤ 1 := by
        obtain ⟨t1, t2⟩ := htq b1
        rw [hNd, t1]
        split <;> omega
      have hp10 : 10 ^ 1 ≤ 10 ^ p := ten_mono hp.1
      have b2 : ¬ N = 10 ^ p := by omega
      have hsg : ¬ cmpI N (10 ^ p) = 0 := fun h => b2 (hsg.2.2.1.1 h)
      rw [if_neg b2]
      clear hUp1 htq hNd hl htp hl1 hNl hs hdb hbn
      generalize cmpI N (10 ^ p) = cc at *
      generalize 10 ^ p = P at *
      have ha : exp + dg mag - 1 < 1 - g := by omega
      by_cases b3 : N = 0
      · rw [if_neg (fun h => h.1 b3), if_pos ha]
        rw [decT b3] at hZN
        unfold fdv
        refine RetN_start Tryd.func167 (by kernel_rfl) rfl fun Q hQ hQ2 => ?_; rw [Tryd.ntmps167]; simp only [u, i64, Nat.reduceSub, Nat.reduceAdd, bm]
        repeat (first | (refine gC ?_; first | refine aA ?_ | ((first | refine cR hF ?_ | refine cR hD ?_ | refine cR hUp ?_ | refine cR hTp ?_ | refine cR hCp ?_ | refine cR hZN ?_); refine sX ?_; try refine aA ?_)) | ((first | refine cR hF ?_ | refine cR hD ?_ | refine cR hUp ?_ | refine cR hTp ?_ | refine cR hCp ?_ | refine cR hZN ?_); refine sX ?_; try refine aA ?_) | refine gS ?_)
        rw [hor, ← hst]
        (refine FinQ hQ (congrArg Array.toList Tryd.results167) _ _ ?_); simp (disch := omega) only [u, i64, ax, if_true, forall_const, reduceCtorEq, implies_true, tvs, bf]
        all_goals rfl
      · have hd1 : dg N = 1 := by rw [show N = 1 by omega]; exact dg_one
        rw [if_neg (fun h => by have := h.2; omega), if_pos ha]
        rw [decF b3] at hZN
        rw [hd1] at hDN
        unfold fdv
        refine RetN_start Tryd.func167 (by kernel_rfl) rfl fun Q hQ hQ2 => ?_; rw [Tryd.ntmps167]; simp only [u, i64, Nat.reduceSub, Nat.reduceAdd, bm]
        repeat (first | (refine gC ?_; first | refine aA ?_ | ((first | refine cR hF ?_ | refine cR hD ?_ | refine cR hUp ?_ | refine cR hTp ?_ | refine cR hCp ?_ | refine cR hZN ?_ | refine cR hDN ?_); refine sX ?_; try refine aA ?_)) | ((first | refine cR hF ?_ | refine cR hD ?_ | refine cR hUp ?_ | refine cR hTp ?_ | refine cR hCp ?_ | refine cR hZN ?_ | refine cR hDN ?_); refine sX ?_; try refine aA ?_) | refine gS ?_)
        rw [hor, ← hst]
        (refine FinQ hQ (congrArg Array.toList Tryd.results167) _ _ ?_); simp (disch := omega) only [u, i64, ax, if_true, forall_const, reduceCtorEq, implies_true, tvs, bf]
        all_goals rfl
    · have hTk := ret_Ten k (by omega)
      have hTkl := ten_len (k := k) (by omega)
      have hDM := ret_DivMod (words mag) (words (10 ^ k)) (Wd_words _) (Wd_words _) (by omega) (by omega) (by rw [val_words]; exact Nat.ne_of_gt (ten_pos k))
      rw [val_words, val_words] at hDM
      have hml := length_mono (Nat.mod_le mag (10 ^ k))
      have hql := length_mono (Nat.div_le_self mag (10 ^ k))
      have hCm := ret_compare (mag % 10 ^ k) (words (10 ^ k)) (Wd_words _) (by omega) (by omega)
      rw [val_words] at hCm
      have hx3 := restC_le (mag % 10 ^ k) (10 ^ k)
      have hUp := ret_up r hr neg (mag / 10 ^ k) (by omega) (restC (mag % 10 ^ k) (10 ^ k)) hx3
      rw [← hNd] at hUp
      have hcast : s - exp = (k : Int) := by omega
      clear hUp1 htq hNd hl htp hl1 hNl hs hTkl hml hql
      generalize restC (mag % 10 ^ k) (10 ^ k) = rc at *
      generalize mag % 10 ^ k = mR at *
      generalize mag / 10 ^ k = mQ at *
      generalize 10 ^ k = TK at *
      by_cases b2 : N = 10 ^ p
      · have hsg := hsg.2.2.1.2 b2
        rw [if_pos b2]
        generalize cmpI N (10 ^ p) = cc at *
        generalize 10 ^ p = P at *
        by_cases b3 : g < s + 1 + p - 1
        · rw [if_pos b3]
          generalize overD p g r neg = y at *
          unfold fdv at *
          refine RetN_start Tryd.func167 (by kernel_rfl) rfl fun Q hQ hQ2 => ?_; rw [Tryd.ntmps167]; simp only [u, i64, Nat.reduceSub, Nat.reduceAdd, bm]
          repeat (first | (refine gC ?_; first | refine aA ?_ | ((first | refine cR hF ?_ | refine cR hD ?_); refine sX ?_; try refine aA ?_)) | ((first | refine cR hF ?_ | refine cR hD ?_); refine sX ?_; try refine aA ?_) | refine gS ?_)
          (refine gC ?_)
          rw [← hst, hcast]
          repeat (first | (refine gC ?_; first | refine aA ?_ | ((first | refine cR hTk ?_ | refine cR hDM ?_ | refine cR hCm ?_ | refine cR hUp ?_ | refine cR hTp ?_ | refine cR hCp ?_ | refine cR hTp1 ?_ | refine cR hZP1 ?_ | refine cR hDP1 ?_ | refine cR hO ?_); refine sX ?_; try refine aA ?_)) | ((first | refine cR hTk ?_ | refine cR hDM ?_ | refine cR hCm ?_ | refine cR hUp ?_ | refine cR hTp ?_ | refine cR hCp ?_ | refine cR hTp1 ?_ | refine cR hZP1 ?_ | refine cR hDP1 ?_ | refine cR hO ?_); refine sX ?_; try refine aA ?_) | refine gS ?_)
          (refine FinQ hQ (congrArg Array.toList Tryd.results167) _ _ ?_); simp (disch := omega) only [u, i64, ax, if_true, forall_const, reduceCtorEq, implies_true, tvs, bf]
          all_goals rfl
        · rw [if_neg b3]
          unfold fdv
          by_cases ha : exp + dg mag - 1 < 1 - g
          · rw [if_pos ha]
            refine RetN_start Tryd.func167 (by kernel_rfl) rfl fun Q hQ hQ2 => ?_; rw [Tryd.ntmps167]; simp only [u, i64, Nat.reduceSub, Nat.reduceAdd, bm]
            repeat (first | (refine gC ?_; first | refine aA ?_ | ((first | refine cR hF ?_ | refine cR hD ?_); refine sX ?_; try refine aA ?_)) | ((first | refine cR hF ?_ | refine cR hD ?_); refine sX ?_; try refine aA ?_) | refine gS ?_)
            (refine gC ?_)
            rw [← hst, hcast]
            repeat (first | (refine gC ?_; first | refine aA ?_ | ((first | refine cR hTk ?_ | refine cR hDM ?_ | refine cR hCm ?_ | refine cR hUp ?_ | refine cR hTp ?_ | refine cR hCp ?_ | refine cR hTp1 ?_ | refine cR hZP1 ?_ | refine cR hDP1 ?_); refine sX ?_; try refine aA ?_)) | ((first | refine cR hTk ?_ | refine cR hDM ?_ | refine cR hCm ?_ | refine cR hUp ?_ | refine cR hTp ?_ | refine cR hCp ?_ | refine cR hTp1 ?_ | refine cR hZP1 ?_ | refine cR hDP1 ?_); refine sX ?_; try refine aA ?_) | refine gS ?_)
            rw [hor]
            (refine FinQ hQ (congrArg Array.toList Tryd.results167) _ _ ?_); simp (disch := omega) only [u, i64, ax, if_true, forall_const, reduceCtorEq, implies_true, tvs, bf]
            all_goals rfl
          · rw [if_neg ha]
            refine RetN_start Tryd.func167 (by kernel_rfl) rfl fun Q hQ hQ2 => ?_; rw [Tryd.ntmps167]; simp only [u, i64, Nat.reduceSub, Nat.reduceAdd, bm]
            repeat (first | (refine gC ?_; first | refine aA ?_ | ((first | refine cR hF ?_ | refine cR hD ?_); refine sX ?_; try refine aA ?_)) | ((first | refine cR hF ?_ | refine cR hD ?_); refine sX ?_; try refine aA ?_) | refine gS ?_)
            (refine gC ?_)
            rw [← hst, hcast]
            repeat (first | (refine gC ?_; first | refine aA ?_ | ((first | refine cR hTk ?_ | refine cR hDM ?_ | refine cR hCm ?_ | refine cR hUp ?_ | refine cR hTp ?_ | refine cR hCp ?_ | refine cR hTp1 ?_ | refine cR hZP1 ?_ | refine cR hDP1 ?_); refine sX ?_; try refine aA ?_)) | ((first | refine cR hTk ?_ | refine cR hDM ?_ | refine cR hCm ?_ | refine cR hUp ?_ | refine cR hTp ?_ | refine cR hCp ?_ | refine cR hTp1 ?_ | refine cR hZP1 ?_ | refine cR hDP1 ?_); refine sX ?_; try refine aA ?_) | refine gS ?_)
            (refine FinQ hQ (congrArg Array.toList Tryd.results167) _ _ ?_); simp (disch := omega) only [u, i64, ax, if_true, forall_const, reduceCtorEq, implies_true, tvs, bf]
            all_goals rfl
      · have hsg : ¬ cmpI N (10 ^ p) = 0 := fun h => b2 (hsg.2.2.1.1 h)
        rw [if_neg b2]
        generalize cmpI N (10 ^ p) = cc at *
        generalize 10 ^ p = P at *
        by_cases b4 : N = 0
        · rw [if_neg (fun h => h.1 b4)]
          rw [decT b4] at hZN
          unfold fdv
          by_cases ha : exp + dg mag - 1 < 1 - g
          · rw [if_pos ha]
            refine RetN_start Tryd.func167 (by kernel_rfl) rfl fun Q hQ hQ2 => ?_; rw [Tryd.ntmps167]; simp only [u, i64, Nat.reduceSub, Nat.reduceAdd, bm]
            repeat (first | (refine gC ?_; first | refine aA ?_ | ((first | refine cR hF ?_ | refine cR hD ?_); refine sX ?_; try refine aA ?_)) | ((first | refine cR hF ?_ | refine cR hD ?_); refine sX ?_; try refine aA ?_) | refine gS ?_)
            (refine gC ?_)
            rw [← hst, hcast]
            repeat (first | (refine gC ?_; first | refine aA ?_ | ((first | refine cR hTk ?_ | refine cR hDM ?_ | refine cR hCm ?_ | refine cR hUp ?_ | refine cR hTp ?_ | refine cR hCp ?_ | refine cR hZN ?_); refine sX ?_; try refine aA ?_)) | ((first | refine cR hTk ?_ | refine cR hDM ?_ | refine cR hCm ?_ | refine cR hUp ?_ | refine cR hTp ?_ | refine cR hCp ?_ | refine cR hZN ?_); refine sX ?_; try refine aA ?_) | refine gS ?_)
            rw [hor]
            (refine FinQ hQ (congrArg Array.toList Tryd.results167) _ _ ?_); simp (disch := omega) only [u, i64, ax, if_true, forall_const, reduceCtorEq, implies_true, tvs, bf]
            all_goals rfl
          · rw [if_neg ha]
            refine RetN_start Tryd.func167 (by kernel_rfl) rfl fun Q hQ hQ2 => ?_; rw [Tryd.ntmps167]; simp only [u, i64, Nat.reduceSub, Nat.reduceAdd, bm]
            repeat (first | (refine gC ?_; first | refine aA ?_ | ((first | refine cR hF ?_ | refine cR hD ?_); refine sX ?_; try refine aA ?_)) | ((first | refine cR hF ?_ | refine cR hD ?_); refine sX ?_; try refine aA ?_) | refine gS ?_)
            (refine gC ?_)
            rw [← hst, hcast]
            repeat (first | (refine gC ?_; first | refine aA ?_ | ((first | refine cR hTk ?_ | refine cR hDM ?_ | refine cR hCm ?_ | refine cR hUp ?_ | refine cR hTp ?_ | refine cR hCp ?_ | refine cR hZN ?_); refine sX ?_; try refine aA ?_)) | ((first | refine cR hTk ?_ | refine cR hDM ?_ | refine cR hCm ?_ | refine cR hUp ?_ | refine cR hTp ?_ | refine cR hCp ?_ | refine cR hZN ?_); refine sX ?_; try refine aA ?_) | refine gS ?_)
            (refine FinQ hQ (congrArg Array.toList Tryd.results167) _ _ ?_); simp (disch := omega) only [u, i64, ax, if_true, forall_const, reduceCtorEq, implies_true, tvs, bf]
            all_goals rfl
        · rw [decF b4] at hZN
          have hd1N := (dg_spec _ b4).2.2
          by_cases b5 : g < s + dg N - 1
          · rw [if_pos ⟨b4, b5⟩]
            generalize overD p g r neg = y at *
            unfold fdv at *
            refine RetN_start Tryd.func167 (by kernel_rfl) rfl fun Q hQ hQ2 => ?_; rw [Tryd.ntmps167]; simp only [u, i64, Nat.reduceSub, Nat.reduceAdd, bm]
            repeat (first | (refine gC ?_; first | refine aA ?_ | ((first | refine cR hF ?_ | refine cR hD ?_); refine sX ?_; try refine aA ?_)) | ((first | refine cR hF ?_ | refine cR hD ?_); refine sX ?_; try refine aA ?_) | refine gS ?_)
            (refine gC ?_)
            rw [← hst, hcast]
            repeat (first | (refine gC ?_; first | refine aA ?_ | ((first | refine cR hTk ?_ | refine cR hDM ?_ | refine cR hCm ?_ | refine cR hUp ?_ | refine cR hTp ?_ | refine cR hCp ?_ | refine cR hZN ?_ | refine cR hDN ?_ | refine cR hO ?_); refine sX ?_; try refine aA ?_)) | ((first | refine cR hTk ?_ | refine cR hDM ?_ | refine cR hCm ?_ | refine cR hUp ?_ | refine cR hTp ?_ | refine cR hCp ?_ | refine cR hZN ?_ | refine cR hDN ?_ | refine cR hO ?_); refine sX ?_; try refine aA ?_) | refine gS ?_)
            (refine FinQ hQ (congrArg Array.toList Tryd.results167) _ _ ?_); simp (disch := omega) only [u, i64, ax, if_true, forall_const, reduceCtorEq, implies_true, tvs, bf]
            all_goals rfl
          · rw [if_neg (fun h => b5 h.2)]
            unfold fdv
            by_cases ha : exp + dg mag - 1 < 1 - g
            · rw [if_pos ha]
              refine RetN_start Tryd.func167 (by kernel_rfl) rfl fun Q hQ hQ2 => ?_; rw [Tryd.ntmps167]; simp only [u, i64, Nat.reduceSub, Nat.reduceAdd, bm]
              repeat (first | (refine gC ?_; first | refine aA ?_ | ((first | refine cR hF ?_ | refine cR hD ?_); refine sX ?_; try refine aA ?_)) | ((first | refine cR hF ?_ | refine cR hD ?_); refine sX ?_; try refine aA ?_) | refine gS ?_)
              (refine gC ?_)
              rw [← hst, hcast]
              repeat (first | (refine gC ?_; first | refine aA ?_ | ((first | refine cR hTk ?_ | refine cR hDM ?_ | refine cR hCm ?_ | refine cR hUp ?_ | refine cR hTp ?_ | refine cR hCp ?_ | refine cR hZN ?_ | refine cR hDN ?_); refine sX ?_; try refine aA ?_)) | ((first | refine cR hTk ?_ | refine cR hDM ?_ | refine cR hCm ?_ | refine cR hUp ?_ | refine cR hTp ?_ | refine cR hCp ?_ | refine cR hZN ?_ | refine cR hDN ?_); refine sX ?_; try refine aA ?_) | refine gS ?_)
              rw [hor]
              (refine FinQ hQ (congrArg Array.toList Tryd.results167) _ _ ?_); simp (disch := omega) only [u, i64, ax, if_true, forall_const, reduceCtorEq, implies_true, tvs, bf]
              all_goals rfl
            · rw [if_neg ha]
              refine RetN_start Tryd.func167 (by kernel_rfl) rfl fun Q hQ hQ2 => ?_; rw [Tryd.ntmps167]; simp only [u, i64, Nat.reduceSub, Nat.reduceAdd, bm]
              repeat (first | (refine gC ?_; first | refine aA ?_ | ((first | refine cR hF ?_ | refine cR hD ?_); refine sX ?_; try refine aA ?_)) | ((first | refine cR hF ?_ | refine cR hD ?_); refine sX ?_; try refine aA ?_) | refine gS ?_)
              (refine gC ?_)
              rw [← hst, hcast]
              repeat (first | (refine gC ?_; first | refine aA ?_ | ((first | refine cR hTk ?_ | refine cR hDM ?_ | refine cR hCm ?_ | refine cR hUp ?_ | refine cR hTp ?_ | refine cR hCp ?_ | refine cR hZN ?_ | refine cR hDN ?_); refine sX ?_; try refine aA ?_)) | ((first | refine cR hTk ?_ | refine cR hDM ?_ | refine cR hCm ?_ | refine cR hUp ?_ | refine cR hTp ?_ | refine cR hCp ?_ | refine cR hZN ?_ | refine cR hDN ?_); refine sX ?_; try refine aA ?_) | refine gS ?_)
              (refine FinQ hQ (congrArg Array.toList Tryd.results167) _ _ ?_); simp (disch := omega) only [u, i64, ax, if_true, forall_const, reduceCtorEq, implies_true, tvs, bf]
              all_goals rfl
end Go.Proofs
set_option linter.unusedVariables false
set_option linter.unusedSimpArgs false
namespace Go.Proofs
open Go.Ax
def zD : DV := ⟨0, false, 0, 0⟩
theorem finD_shape (p : Nat) (g : Int) (r : Nat) (neg : Bool) (mag : Nat) (exp ideal : Int) : (finD p g r neg mag exp ideal).1.neg = neg ∧ ((finD p g r neg mag exp ideal).1.kind = 0 ∨ (finD p g r neg mag exp ideal).1.kind = 1 ∧ (finD p g r neg mag exp ideal).1.coef = 0 ∧ (finD p g r neg mag exp ideal).1.exp = 0) := by
  have ho : (overD p g r neg).neg = neg ∧ ((overD p g r neg).kind = 0 ∨ (overD p g r neg).kind = 1 ∧ (overD p g r neg).coef = 0 ∧ (overD p g r neg).exp = 0) := by
    unfold overD; split
    · exact ⟨rfl, .inl rfl⟩
    · exact ⟨rfl, .inr ⟨rfl, rfl, rfl⟩⟩
  unfold finD
  simp only
  split
  · exact ho
  · split
    · exact ⟨rfl, .inl rfl⟩
    · unfold ineD
      split
      · split
        · exact ho
        · exact ⟨rfl, .inl rfl⟩
      · split
        · exact ho
        · exact ⟨rfl, .inl rfl⟩
set_option maxRecDepth 100000 in
theorem ret_dFinish (p : Nat) (g : Int) (r : Nat) (neg : Bool) (mag : Nat) (exp ideal : Int) (hp : 1 ≤ p ∧ p ≤ 400) (hg : 1 ≤ g ∧ g ≤ 6000) (hr : r ≤ 4) (hl : (words mag).length ≤ 2000) (he : -3000000 ≤ exp ∧ exp ≤ 3000000) (hi : -3000000 ≤ ideal ∧ ideal ≤ 3000000) :
    Ret Tryd.prog GEs 125 [cx p g r, .bool neg, nat mag, i64 exp, .bool false, i64 ideal] (.tup [dv (finD0 p g r neg mag exp ideal).1, i64 (finD0 p g r neg mag exp ideal).2]) := by
  have hZ := ret_Zero (words mag) (Wd_words _) (by omega)
  rw [val_words] at hZ
  have hT := ret_tiny p g r hp hg
  unfold finD0
  by_cases hm : mag = 0
  · rw [decT hm] at hZ
    rw [if_pos hm]
    have hT1 : -7000 ≤ 1 - g - ((p : Int) - 1) ∧ 1 - g - ((p : Int) - 1) ≤ 0 := by omega
    unfold dv cx at *
    simp only
    generalize 1 - g - ((p : Int) - 1) = T at *
    refine RetN_start Tryd.func125 (by kernel_rfl) rfl fun Q hQ hQ2 => ?_; rw [Tryd.ntmps125]; simp only [u, i64, Nat.reduceSub, Nat.reduceAdd, bm]
    repeat (first | (refine gC ?_; first | refine aA ?_ | ((first | refine cR hZ ?_ | refine cR hT ?_); refine sX ?_; try refine aA ?_)) | ((first | refine cR hZ ?_ | refine cR hT ?_); refine sX ?_; try refine aA ?_) | refine gS ?_)
    (refine FinQ hQ (congrArg Array.toList Tryd.results125) _ _ ?_); simp (disch := omega) only [u, i64, ax, if_true, forall_const, reduceCtorEq, implies_true, tvs, bf]
    all_goals rfl
  · rw [decF hm] at hZ
    rw [if_neg hm]
    have hF := ret_finFinish p g r neg mag exp ideal hp hg hr hm hl he hi
    obtain ⟨s1, s2⟩ := finD_shape p g r neg mag exp ideal
    generalize finD p g r neg mag exp ideal = y at *
    obtain ⟨⟨kd, ng, c, e⟩, fl⟩ := y
    simp only at *
    subst s1
    unfold fdv dv cx at *
    simp only at *
    rcases s2 with rfl | ⟨rfl, rfl, rfl⟩
    · refine RetN_start Tryd.func125 (by kernel_rfl) rfl fun Q hQ hQ2 => ?_; rw [Tryd.ntmps125]; simp only [u, i64, Nat.reduceSub, Nat.reduceAdd, bm]
      repeat (first | (refine gC ?_; first | refine aA ?_ | ((first | refine cR hZ ?_ | refine cR hF ?_); refine sX ?_; try refine aA ?_)) | ((first | refine cR hZ ?_ | refine cR hF ?_); refine sX ?_; try refine aA ?_) | refine gS ?_)
      (refine FinQ hQ (congrArg Array.toList Tryd.results125) _ _ ?_); simp (disch := omega) only [u, i64, ax, if_true, forall_const, reduceCtorEq, implies_true, tvs, bf]
      all_goals rfl
    · refine RetN_start Tryd.func125 (by kernel_rfl) rfl fun Q hQ hQ2 => ?_; rw [Tryd.ntmps125]; simp only [u, i64, Nat.reduceSub, Nat.reduceAdd, bm]
      repeat (first | (refine gC ?_; first | refine aA ?_ | ((first | refine cR hZ ?_ | refine cR hF ?_); refine sX ?_; try refine aA ?_)) | ((first | refine cR hZ ?_ | refine cR hF ?_); refine sX ?_; try refine aA ?_) | refine gS ?_)
      (refine FinQ hQ (congrArg Array.toList Tryd.results125) _ _ ?_); simp (disch := omega) only [u, i64, ax, if_true, forall_const, reduceCtorEq, implies_true, tvs, bf]
      all_goals rfl
end Go.Proofs
set_option linter.unusedVariables false
set_option linter.unusedSimpArgs false
namespace Go.Proofs
open Go.Ax
set_option maxRecDepth 100000 in
set_option maxHeartbeats 2000000 in
theorem ret_dadd (p : Nat) (g : Int) (r : Nat) (x y : DV) (hp : 1 ≤ p ∧ p ≤ 400) (hg : 1 ≤ g ∧ g ≤ 6000) (hr : r ≤ 4) (hx : x.kind ≤ 2) (hy : y.kind ≤ 2) (lx : (words x.coef).length ≤ 90) (ly : (words y.coef).length ≤ 90) (ex : -13000 ≤ x.exp ∧ x.exp ≤ 13000) (ey : -13000 ≤ y.exp ∧ y.exp ≤ 13000) :
    Ret Tryd.prog GEs 101 [cx p g r, dv x, dv y] (.tup [dv (addD p g r x y).1, i64 (addD p g r x y).2]) := by
  obtain ⟨k1, n1, c1, e1⟩ := x
  obtain ⟨k2, n2, c2, e2⟩ := y
  simp only at *
  unfold addD nanD
  simp only
  by_cases a1 : k1 = 2
  · rw [if_pos (Or.inl a1)]
    unfold dv cx
    simp only
    refine RetN_start Tryd.func101 (by kernel_rfl) rfl fun Q hQ hQ2 => ?_; rw [Tryd.ntmps101]; simp only [u, i64, Nat.reduceSub, Nat.reduceAdd, bm]
    (refine gO ?_)
    (refine FinQ hQ (congrArg Array.toList Tryd.results101) _ _ ?_); simp (disch := omega) only [u, i64, ax, if_true, forall_const, reduceCtorEq, implies_true, tvs, bf]
    all_goals rfl
  by_cases a2 : k2 = 2
  · rw [if_pos (Or.inr a2)]
    unfold dv cx
    simp only
    refine RetN_start Tryd.func101 (by kernel_rfl) rfl fun Q hQ hQ2 => ?_; rw [Tryd.ntmps101]; simp only [u, i64, Nat.reduceSub, Nat.reduceAdd, bm]
    (refine gO ?_)
    (refine FinQ hQ (congrArg Array.toList Tryd.results101) _ _ ?_); simp (disch := omega) only [u, i64, ax, if_true, forall_const, reduceCtorEq, implies_true, tvs, bf]
    all_goals rfl
  rw [if_neg (fun h => by omega)]
  by_cases a3 : k1 = 1
  · by_cases a4 : k2 = 1
    · by_cases a5 : n1 = n2
      · have hb : (n1 != n2) = false := by subst a5; cases n1 <;> rfl
        rw [if_neg (fun h => h.2.2 a5), if_pos a3]
        unfold dv cx
        simp only
        cases n1 <;> cases n2 <;> first | (cases a5; done) | skip
        · skip
          refine RetN_start Tryd.func101 (by kernel_rfl) rfl fun Q hQ hQ2 => ?_; rw [Tryd.ntmps101]; simp only [u, i64, Nat.reduceSub, Nat.reduceAdd, bm]
          (refine gO ?_)
          (refine FinQ hQ (congrArg Array.toList Tryd.results101) _ _ ?_); simp (disch := omega) only [u, i64, ax, if_true, forall_const, reduceCtorEq, implies_true, tvs, bf]
          all_goals rfl
        · skip
          refine RetN_start Tryd.func101 (by kernel_rfl) rfl fun Q hQ hQ2 => ?_; rw [Tryd.ntmps101]; simp only [u, i64, Nat.reduceSub, Nat.reduceAdd, bm]
          (refine gO ?_)
          (refine FinQ hQ (congrArg Array.toList Tryd.results101) _ _ ?_); simp (disch := omega) only [u, i64, ax, if_true, forall_const, reduceCtorEq, implies_true, tvs, bf]
          all_goals rfl
      · rw [if_pos ⟨a3, a4, a5⟩]
        unfold dv cx
        simp only
        cases n1 <;> cases n2
        · exact absurd rfl a5
        · skip
          refine RetN_start Tryd.func101 (by kernel_rfl) rfl fun Q hQ hQ2 => ?_; rw [Tryd.ntmps101]; simp only [u, i64, Nat.reduceSub, Nat.reduceAdd, bm]
          (refine gO ?_)
          (refine FinQ hQ (congrArg Array.toList Tryd.results101) _ _ ?_); simp (disch := omega) only [u, i64, ax, if_true, forall_const, reduceCtorEq, implies_true, tvs, bf]
          all_goals rfl
        · skip
          refine RetN_start Tryd.func101 (by kernel_rfl) rfl fun Q hQ hQ2 => ?_; rw [Tryd.ntmps101]; simp only [u, i64, Nat.reduceSub, Nat.reduceAdd, bm]
          (refine gO ?_)
          (refine FinQ hQ (congrArg Array.toList Tryd.results101) _ _ ?_); simp (disch := omega) only [u, i64, ax, if_true, forall_const, reduceCtorEq, implies_true, tvs, bf]
          all_goals rfl
        · exact absurd rfl a5
    · rw [if_neg (fun h => a4 h.2.1), if_pos a3]
      unfold dv cx
      simp only
      refine RetN_start Tryd.func101 (by kernel_rfl) rfl fun Q hQ hQ2 => ?_; rw [Tryd.ntmps101]; simp only [u, i64, Nat.reduceSub, Nat.reduceAdd, bm]
      (refine gO ?_)
      (refine FinQ hQ (congrArg Array.toList Tryd.results101) _ _ ?_); simp (disch := omega) only [u, i64, ax, if_true, forall_const, reduceCtorEq, implies_true, tvs, bf]
      all_goals rfl
  · rw [if_neg (fun h => a3 h.1), if_neg a3]
    by_cases a4 : k2 = 1
    · rw [if_pos a4]
      unfold dv cx
      simp only
      refine RetN_start Tryd.func101 (by kernel_rfl) rfl fun Q hQ hQ2 => ?_; rw [Tryd.ntmps101]; simp only [u, i64, Nat.reduceSub, Nat.reduceAdd, bm]
      (refine gO ?_)
      (refine FinQ hQ (congrArg Array.toList Tryd.results101) _ _ ?_); simp (disch := omega) only [u, i64, ax, if_true, forall_const, reduceCtorEq, implies_true, tvs, bf]
      all_goals rfl
    · rw [if_neg a4]
      have hbx := bl_len c1
      have hby := bl_len c2
      have hTx := ret_Ten (e1 - min e1 e2).toNat (by omega)
      have hTy := ret_Ten (e2 - min e1 e2).toNat (by omega)
      have tl : ∀ k : Nat, k ≤ 26000 → (words (10 ^ k)).length ≤ 1626 := fun k hk => le_pow_words (ten_le k) (by omega)
      have tx := tl (e1 - min e1 e2).toNat (by omega)
      have ty := tl (e2 - min e1 e2).toNat (by omega)
      have hcx : e1 - min e1 e2 = (((e1 - min e1 e2).toNat : Nat) : Int) := by omega
      have hcy : e2 - min e1 e2 = (((e2 - min e1 e2).toNat : Nat) : Int) := by omega
      have hMx := ret_Mul (words c1) (words (10 ^ (e1 - min e1 e2).toNat)) (Wd_words _) (Wd_words _) (by omega) (by omega)
      have hMy := ret_Mul (words c2) (words (10 ^ (e2 - min e1 e2).toNat)) (Wd_words _) (Wd_words _) (by omega) (by omega)
      rw [val_words, val_words] at hMx hMy
      have mx := length_mul c1 (10 ^ (e1 - min e1 e2).toNat)
      have my := length_mul c2 (10 ^ (e2 - min e1 e2).toNat)
      generalize c1 * 10 ^ (e1 - min e1 e2).toNat = A at *
      generalize c2 * 10 ^ (e2 - min e1 e2).toNat = B at *
      have hC := ret_Cmp (words A) (words B) (Wd_words _) (Wd_words _) (by omega) (by omega)
      rw [val_words, val_words] at hC
      have hs := cmpI_sign A B
      have sl : (words (sumM n1 A n2 B)).length ≤ 2000 := by
        have h1 := length_add A B
        have h2 : sumM n1 A n2 B ≤ A + B := by unfold sumM; split <;> (try split) <;> omega
        have := length_mono h2
        omega
      have hF := fun ng => ret_dFinish p g r ng (sumM n1 A n2 B) (min e1 e2) (min e1 e2) hp hg hr sl (by omega) (by omega)
      generalize hE : min e1 e2 = E at *
      generalize (e1 - E).toNat = t1 at *
      generalize (e2 - E).toNat = t2 at *
      generalize 10 ^ t1 = T1 at *
      generalize 10 ^ t2 = T2 at *
      by_cases a5 : n1 = n2
      · subst a5
        have e1' : sumN r n1 A n1 B = n1 := by unfold sumN; rw [if_pos rfl]
        have e2' : sumM n1 A n1 B = A + B := by unfold sumM; rw [if_pos rfl]
        rw [e1']
        rw [e2'] at hF ⊢
        have hF := hF n1
        have hA := ret_Add (words A) (words B) (Wd_words _) (Wd_words _) (by omega) (by omega)
        rw [val_words, val_words] at hA
        generalize cmpI A B = cc at *
        generalize finD0 p g r n1 (A + B) E E = z at *
        generalize A + B = S at *
        clear sl hs
        unfold dv cx at *
        simp only at *
        cases n1
        · skip
          refine RetN_start Tryd.func101 (by kernel_rfl) rfl fun Q hQ hQ2 => ?_; rw [Tryd.ntmps101]; simp only [u, i64, Nat.reduceSub, Nat.reduceAdd, bm]
          (refine gO ?_)
          (refine gC ?_)
          rw [hE, hcx]
          repeat (first | (refine gC ?_; first | refine aA ?_ | ((first | refine cR hTx ?_ | refine cR hMx ?_); refine sX ?_; try refine aA ?_)) | ((first | refine cR hTx ?_ | refine cR hMx ?_); refine sX ?_; try refine aA ?_) | refine gS ?_)
          (refine gC ?_)
          rw [hcy]
          repeat (first | (refine gC ?_; first | refine aA ?_ | ((first | refine cR hTy ?_ | refine cR hMy ?_ | refine cR hC ?_ | refine cR hA ?_ | refine cR hF ?_); refine sX ?_; try refine aA ?_)) | ((first | refine cR hTy ?_ | refine cR hMy ?_ | refine cR hC ?_ | refine cR hA ?_ | refine cR hF ?_); refine sX ?_; try refine aA ?_) | refine gS ?_)
          (refine FinQ hQ (congrArg Array.toList Tryd.results101) _ _ ?_); simp (disch := omega) only [u, i64, ax, if_true, forall_const, reduceCtorEq, implies_true, tvs, bf]
          all_goals rfl
        · skip
          refine RetN_start Tryd.func101 (by kernel_rfl) rfl fun Q hQ hQ2 => ?_; rw [Tryd.ntmps101]; simp only [u, i64, Nat.reduceSub, Nat.reduceAdd, bm]
          (refine gO ?_)
          (refine gC ?_)
          rw [hE, hcx]
          repeat (first | (refine gC ?_; first | refine aA ?_ | ((first | refine cR hTx ?_ | refine cR hMx ?_); refine sX ?_; try refine aA ?_)) | ((first | refine cR hTx ?_ | refine cR hMx ?_); refine sX ?_; try refine aA ?_) | refine gS ?_)
          (refine gC ?_)
          rw [hcy]
          repeat (first | (refine gC ?_; first | refine aA ?_ | ((first | refine cR hTy ?_ | refine cR hMy ?_ | refine cR hC ?_ | refine cR hA ?_ | refine cR hF ?_); refine sX ?_; try refine aA ?_)) | ((first | refine cR hTy ?_ | refine cR hMy ?_ | refine cR hC ?_ | refine cR hA ?_ | refine cR hF ?_); refine sX ?_; try refine aA ?_) | refine gS ?_)
          (refine FinQ hQ (congrArg Array.toList Tryd.results101) _ _ ?_); simp (disch := omega) only [u, i64, ax, if_true, forall_const, reduceCtorEq, implies_true, tvs, bf]
          all_goals rfl
      · have hb : (n1 == n2) = false := by cases n1 <;> cases n2 <;> simp_all
        unfold sumN sumM at *
        rw [if_neg a5] at hF sl
        rw [if_neg a5, if_neg a5]
        rcases Nat.lt_trichotomy A B with hlt | heq | hgt
        · have h1 : ¬ B < A := by omega
          have hcc : cmpI A B < 0 := hs.2.1.2 hlt
          rw [if_neg h1] at hF sl
          rw [if_neg h1, if_neg h1, if_pos hlt]
          have hF := hF n2
          have hA := ret_Sub (words B) (words A) (Wd_words _) (Wd_words _) (by omega) (by omega) (by rw [val_words, val_words]; omega)
          rw [val_words, val_words] at hA
          generalize cmpI A B = cc at *
          generalize finD0 p g r n2 (B - A) E E = z at *
          generalize B - A = S at *
          clear sl hs
          unfold dv cx at *
          simp only at *
          cases n1 <;> cases n2
          · exact absurd rfl a5
          · skip
            refine RetN_start Tryd.func101 (by kernel_rfl) rfl fun Q hQ hQ2 => ?_; rw [Tryd.ntmps101]; simp only [u, i64, Nat.reduceSub, Nat.reduceAdd, bm]
            (refine gO ?_)
            (refine gC ?_)
            rw [hE, hcx]
            repeat (first | (refine gC ?_; first | refine aA ?_ | ((first | refine cR hTx ?_ | refine cR hMx ?_); refine sX ?_; try refine aA ?_)) | ((first | refine cR hTx ?_ | refine cR hMx ?_); refine sX ?_; try refine aA ?_) | refine gS ?_)
            (refine gC ?_)
            rw [hcy]
            repeat (first | (refine gC ?_; first | refine aA ?_ | ((first | refine cR hTy ?_ | refine cR hMy ?_ | refine cR hC ?_ | refine cR hA ?_ | refine cR hF ?_); refine sX ?_; try refine aA ?_)) | ((first | refine cR hTy ?_ | refine cR hMy ?_ | refine cR hC ?_ | refine cR hA ?_ | refine cR hF ?_); refine sX ?_; try refine aA ?_) | refine gS ?_)
            (refine FinQ hQ (congrArg Array.toList Tryd.results101) _ _ ?_); simp (disch := omega) only [u, i64, ax, if_true, forall_const, reduceCtorEq, implies_true, tvs, bf]
            all_goals rfl
          · skip
            refine RetN_start Tryd.func101 (by kernel_rfl) rfl fun Q hQ hQ2 => ?_; rw [Tryd.ntmps101]; simp only [u, i64, Nat.reduceSub, Nat.reduceAdd, bm]
            (refine gO ?_)
            (refine gC ?_)
            rw [hE, hcx]
            repeat (first | (refine gC ?_; first | refine aA ?_ | ((first | refine cR hTx ?_ | refine cR hMx ?_); refine sX ?_; try refine aA ?_)) | ((first | refine cR hTx ?_ | refine cR hMx ?_); refine sX ?_; try refine aA ?_) | refine gS ?_)
            (refine gC ?_)
            rw [hcy]
            repeat (first | (refine gC ?_; first | refine aA ?_ | ((first | refine cR hTy ?_ | refine cR hMy ?_ | refine cR hC ?_ | refine cR hA ?_ | refine cR hF ?_); refine sX ?_; try refine aA ?_)) | ((first | refine cR hTy ?_ | refine cR hMy ?_ | refine cR hC ?_ | refine cR hA ?_ | refine cR hF ?_); refine sX ?_; try refine aA ?_) | refine gS ?_)
            (refine FinQ hQ (congrArg Array.toList Tryd.results101) _ _ ?_); simp (disch := omega) only [u, i64, ax, if_true, forall_const, reduceCtorEq, implies_true, tvs, bf]
            all_goals rfl
          · exact absurd rfl a5
        · subst heq
          have h1 : ¬ A < A := Nat.lt_irrefl _
          have hcc : cmpI A A = 0 := hs.2.2.1.2 rfl
          rw [if_neg h1, Nat.sub_self] at hF sl
          rw [if_neg h1, if_neg h1, if_neg h1, Nat.sub_self]
          have hF := hF (decide (r = 4))
          rw [hcc] at hC
          have hr5 : r = 0 ∨ r = 1 ∨ r = 2 ∨ r = 3 ∨ r = 4 := by omega
          by_cases h4 : r = 4
          · subst h4
            rw [decT rfl] at hF ⊢
            have hF := Ret_nil (args' := [cx p g 4, .bool true, .emp, i64 E, .bool false, i64 E]) hF rfl
            generalize finD0 p g 4 true 0 E E = z at *
            clear sl hs
            unfold dv cx at *
            simp only at *
            cases n1 <;> cases n2
            · exact absurd rfl a5
            · skip
              refine RetN_start Tryd.func101 (by kernel_rfl) rfl fun Q hQ hQ2 => ?_; rw [Tryd.ntmps101]; simp only [u, i64, Nat.reduceSub, Nat.reduceAdd, bm]
              (refine gO ?_)
              (refine gC ?_)
              rw [hE, hcx]
              repeat (first | (refine gC ?_; first | refine aA ?_ | ((first | refine cR hTx ?_ | refine cR hMx ?_); refine sX ?_; try refine aA ?_)) | ((first | refine cR hTx ?_ | refine cR hMx ?_); refine sX ?_; try refine aA ?_) | refine gS ?_)
              (refine gC ?_)
              rw [hcy]
              repeat (first | (refine gC ?_; first | refine aA ?_ | ((first | refine cR hTy ?_ | refine cR hMy ?_ | refine cR hC ?_ | refine cR hF ?_); refine sX ?_; try refine aA ?_)) | ((first | refine cR hTy ?_ | refine cR hMy ?_ | refine cR hC ?_ | refine cR hF ?_); refine sX ?_; try refine aA ?_) | refine gS ?_)
              (refine FinQ hQ (congrArg Array.toList Tryd.results101) _ _ ?_); simp (disch := omega) only [u, i64, ax, if_true, forall_const, reduceCtorEq, implies_true, tvs, bf]
              all_goals rfl
            · skip
              refine RetN_start Tryd.func101 (by kernel_rfl) rfl fun Q hQ hQ2 => ?_; rw [Tryd.ntmps101]; simp only [u, i64, Nat.reduceSub, Nat.reduceAdd, bm]
              (refine gO ?_)
              (refine gC ?_)
              rw [hE, hcx]
              repeat (first | (refine gC ?_; first | refine aA ?_ | ((first | refine cR hTx ?_ | refine cR hMx ?_); refine sX ?_; try refine aA ?_)) | ((first | refine cR hTx ?_ | refine cR hMx ?_); refine sX ?_; try refine aA ?_) | refine gS ?_)
              (refine gC ?_)
              rw [hcy]
              repeat (first | (refine gC ?_; first | refine aA ?_ | ((first | refine cR hTy ?_ | refine cR hMy ?_ | refine cR hC ?_ | refine cR hF ?_); refine sX ?_; try refine aA ?_)) | ((first | refine cR hTy ?_ | refine cR hMy ?_ | refine cR hC ?_ | refine cR hF ?_); refine sX ?_; try refine aA ?_) | refine gS ?_)
              (refine FinQ hQ (congrArg Array.toList Tryd.results101) _ _ ?_); simp (disch := omega) only [u, i64, ax, if_true, forall_const, reduceCtorEq, implies_true, tvs, bf]
              all_goals rfl
            · exact absurd rfl a5
          · rw [decF h4] at hF ⊢
            have hF := Ret_nil (args' := [cx p g r, .bool false, .emp, i64 E, .bool false, i64 E]) hF rfl
            generalize finD0 p g r false 0 E E = z at *
            clear sl hs
            unfold dv cx at *
            simp only at *
            cases n1 <;> cases n2
            · exact absurd rfl a5
            · skip
              refine RetN_start Tryd.func101 (by kernel_rfl) rfl fun Q hQ hQ2 => ?_; rw [Tryd.ntmps101]; simp only [u, i64, Nat.reduceSub, Nat.reduceAdd, bm]
              (refine gO ?_)
              (refine gC ?_)
              rw [hE, hcx]
              repeat (first | (refine gC ?_; first | refine aA ?_ | ((first | refine cR hTx ?_ | refine cR hMx ?_); refine sX ?_; try refine aA ?_)) | ((first | refine cR hTx ?_ | refine cR hMx ?_); refine sX ?_; try refine aA ?_) | refine gS ?_)
              (refine gC ?_)
              rw [hcy]
              repeat (first | (refine gC ?_; first | refine aA ?_ | ((first | refine cR hTy ?_ | refine cR hMy ?_ | refine cR hC ?_ | refine cR hF ?_); refine sX ?_; try refine aA ?_)) | ((first | refine cR hTy ?_ | refine cR hMy ?_ | refine cR hC ?_ | refine cR hF ?_); refine sX ?_; try refine aA ?_) | refine gS ?_)
              (refine FinQ hQ (congrArg Array.toList Tryd.results101) _ _ ?_); simp (disch := omega) only [u, i64, ax, if_true, forall_const, reduceCtorEq, implies_true, tvs, bf]
              all_goals rfl
            · skip
              refine RetN_start Tryd.func101 (by kernel_rfl) rfl fun Q hQ hQ2 => ?_; rw [Tryd.ntmps101]; simp only [u, i64, Nat.reduceSub, Nat.reduceAdd, bm]
              (refine gO ?_)
              (refine gC ?_)
              rw [hE, hcx]
              repeat (first | (refine gC ?_; first | refine aA ?_ | ((first | refine cR hTx ?_ | refine cR hMx ?_); refine sX ?_; try refine aA ?_)) | ((first | refine cR hTx ?_ | refine cR hMx ?_); refine sX ?_; try refine aA ?_) | refine gS ?_)
              (refine gC ?_)
              rw [hcy]
              repeat (first | (refine gC ?_; first | refine aA ?_ | ((first | refine cR hTy ?_ | refine cR hMy ?_ | refine cR hC ?_ | refine cR hF ?_); refine sX ?_; try refine aA ?_)) | ((first | refine cR hTy ?_ | refine cR hMy ?_ | refine cR hC ?_ | refine cR hF ?_); refine sX ?_; try refine aA ?_) | refine gS ?_)
              (refine FinQ hQ (congrArg Array.toList Tryd.results101) _ _ ?_); simp (disch := omega) only [u, i64, ax, if_true, forall_const, reduceCtorEq, implies_true, tvs, bf]
              all_goals rfl
            · exact absurd rfl a5
        · have h1 : ¬ A < B := by omega
          have hcc : 0 < cmpI A B := hs.2.2.2.2 hgt
          rw [if_pos hgt] at hF sl
          rw [if_pos hgt, if_pos hgt]
          have hF := hF n1
          have hA := ret_Sub (words A) (words B) (Wd_words _) (Wd_words _) (by omega) (by omega) (by rw [val_words, val_words]; omega)
          rw [val_words, val_words] at hA
          generalize cmpI A B = cc at *
          generalize finD0 p g r n1 (A - B) E E = z at *
          generalize A - B = S at *
          clear sl hs
          unfold dv cx at *
          simp only at *
          cases n1 <;> cases n2
          · exact absurd rfl a5
          · skip
            refine RetN_start Tryd.func101 (by kernel_rfl) rfl fun Q hQ hQ2 => ?_; rw [Tryd.ntmps101]; simp only [u, i64, Nat.reduceSub, Nat.reduceAdd, bm]
            (refine gO ?_)
            (refine gC ?_)
            rw [hE, hcx]
            repeat (first | (refine gC ?_; first | refine aA ?_ | ((first | refine cR hTx ?_ | refine cR hMx ?_); refine sX ?_; try refine aA ?_)) | ((first | refine cR hTx ?_ | refine cR hMx ?_); refine sX ?_; try refine aA ?_) | refine gS ?_)
            (refine gC ?_)
            rw [hcy]
            repeat (first | (refine gC ?_; first | refine aA ?_ | ((first | refine cR hTy ?_ | refine cR hMy ?_ | refine cR hC ?_ | refine cR hA ?_ | refine cR hF ?_); refine sX ?_; try refine aA ?_)) | ((first | refine cR hTy ?_ | refine cR hMy ?_ | refine cR hC ?_ | refine cR hA ?_ | refine cR hF ?_); refine sX ?_; try refine aA ?_) | refine gS ?_)
            (refine FinQ hQ (congrArg Array.toList Tryd.results101) _ _ ?_); simp (disch := omega) only [u, i64, ax, if_true, forall_const, reduceCtorEq, implies_true, tvs, bf]
            all_goals rfl
          · skip
            refine RetN_start Tryd.func101 (by kernel_rfl) rfl fun Q hQ hQ2 => ?_; rw [Tryd.ntmps101]; simp only [u, i64, Nat.reduceSub, Nat.reduceAdd, bm]
            (refine gO ?_)
            (refine gC ?_)
            rw [hE, hcx]
            repeat (first | (refine gC ?_; first | refine aA ?_ | ((first | refine cR hTx ?_ | refine cR hMx ?_); refine sX ?_; try refine aA ?_)) | ((first | refine cR hTx ?_ | refine cR hMx ?_); refine sX ?_; try refine aA ?_) | refine gS ?_)
            (refine gC ?_)
            rw [hcy]
            repeat (first | (refine gC ?_; first | refine aA ?_ | ((first | refine cR hTy ?_ | refine cR hMy ?_ | refine cR hC ?_ | refine cR hA ?_ | refine cR hF ?_); refine sX ?_; try refine aA ?_)) | ((first | refine cR hTy ?_ | refine cR hMy ?_ | refine cR hC ?_ | refine cR hA ?_ | refine cR hF ?_); refine sX ?_; try refine aA ?_) | refine gS ?_)
            (refine FinQ hQ (congrArg Array.toList Tryd.results101) _ _ ?_); simp (disch := omega) only [u, i64, ax, if_true, forall_const, reduceCtorEq, implies_true, tvs, bf]
            all_goals rfl
          · exact absurd rfl a5
end Go.Proofs
set_option linter.unusedVariables false
set_option linter.unusedSimpArgs false
namespace Go.Proofs
open Go.Ax
theorem dvz : dv zD = .agg [i64 0, .bool false, .lst 0 [], i64 0] := rfl
set_option maxRecDepth 100000 in
set_option maxHeartbeats 1000000 in
theorem ret_two (p : Nat) (g : Int) (r : Nat) (hp : 1 ≤ p ∧ p ≤ 400) (hg : 1 ≤ g ∧ g ≤ 6000) (hr : r ≤ 4) (d c : DI) (h1 : d.ok) (h2 : c.ok) (N : Nat) (z : DV) (fl : Nat)
    (hDo : d.okIn p g ∧ c.okIn p g → Ret Tryd.prog GEs N [cx p g r, dv d.D, dv c.D] (.tup [dv z, i64 fl])) :
    Ret Tryd.prog GEs 100 [cx p g r, d.av, c.av, .lit (.func (.func N) #[] #[])] (if d.okIn p g ∧ c.okIn p g then .tup [dv z, i64 fl, i64 0] else .tup [dv zD, i64 0, i64 221]) := by
  have hA := ret_Args2 p g r hp hg hr d c h1 h2
  by_cases h : d.okIn p g ∧ c.okIn p g
  · rw [if_pos h] at hA ⊢
    have hF := hDo h
    rw [DI.dv_eq h.1.1, DI.dv_eq h.2.1] at hF
    clear hDo
    unfold DI.av dv cx at *
    generalize val d.cs = v1 at *
    generalize val c.cs = v2 at *
    refine RetN_start Tryd.func100 (by kernel_rfl) rfl fun Q hQ hQ2 => ?_; rw [Tryd.ntmps100]; simp only [u, i64, Nat.reduceSub, Nat.reduceAdd, bm]
    (refine gO ?_)
    (refine gC ?_)
    simp (disch := omega) only [u, i64, ax, eq_self, if_true, if_false, Nat.reduceAdd, Int.reduceToNat, Int.reduceAdd, tvs, bs, Nat.reduceMul, List.take_succ_cons, List.take_zero, List.nil_append, List.cons_append, List.append_nil, Nat.reduceLeDiff]
    repeat (first | (refine gC ?_; first | refine aA ?_ | ((first | refine cR hA ?_ | refine cR hF ?_); refine sX ?_; try refine aA ?_)) | ((first | refine cR hA ?_ | refine cR hF ?_); refine sX ?_; try refine aA ?_) | refine gS ?_)
    (refine FinQ hQ (congrArg Array.toList Tryd.results100) _ _ ?_); simp (disch := omega) only [u, i64, ax, if_true, forall_const, reduceCtorEq, implies_true, tvs, bf]
  · rw [if_neg h] at hA ⊢
    clear hDo
    rw [dvz]
    unfold DI.av cx at *
    refine RetN_start Tryd.func100 (by kernel_rfl) rfl fun Q hQ hQ2 => ?_; rw [Tryd.ntmps100]; simp only [u, i64, Nat.reduceSub, Nat.reduceAdd, bm]
    (refine gO ?_)
    (refine gC ?_)
    simp (disch := omega) only [u, i64, ax, eq_self, if_true, if_false, Nat.reduceAdd, Int.reduceToNat, Int.reduceAdd, tvs, bs, Nat.reduceMul, List.take_succ_cons, List.take_zero, List.nil_append, List.cons_append, List.append_nil, Nat.reduceLeDiff]
    repeat (first | (refine gC ?_; first | refine aA ?_ | (refine cR hA ?_; refine sX ?_; try refine aA ?_)) | (refine cR hA ?_; refine sX ?_; try refine aA ?_) | refine gS ?_)
    (refine FinQ hQ (congrArg Array.toList Tryd.results100) _ _ ?_); simp (disch := omega) only [u, i64, ax, if_true, forall_const, reduceCtorEq, implies_true, tvs, bf]
theorem okIn_facts {p : Nat} {g : Int} (hp : 1 ≤ p ∧ p ≤ 400) (hg : 1 ≤ g ∧ g ≤ 6000) {d : DI} (h : d.okIn p g) : d.D.kind ≤ 2 ∧ -7000 ≤ d.D.exp ∧ d.D.exp ≤ 6000 ∧ rightD d.D := by
  obtain ⟨h1, h2⟩ := h
  obtain ⟨q1, q2, q3⟩ := goodD_right h1
  have hk : d.D.kind ≤ 2 := by show d.k.toNat ≤ 2; omega
  obtain ⟨e1, e2⟩ := inD_exp hp.1 q1 h2
  have e1' : d.D.kind = 0 → -7000 ≤ d.D.exp ∧ d.D.exp ≤ 6000 := fun h => by
    have := e1 h
    have e : (mkD d.k d.neg (val d.cs) d.e).exp = d.D.exp := rfl
    omega
  by_cases h0 : d.D.kind = 0
  · exact ⟨hk, (e1' h0).1, (e1' h0).2, q1⟩
  · have := (e2 h0).1
    have e : d.D.exp = 0 := this
    rw [e]
    exact ⟨hk, by decide, by decide, q1⟩
theorem ret_DAdd (p : Nat) (g : Int) (r : Nat) (hp : 1 ≤ p ∧ p ≤ 400) (hg : 1 ≤ g ∧ g ≤ 6000) (hr : r ≤ 4) (d c : DI) (h1 : d.ok) (h2 : c.ok) :
    Ret Tryd.prog GEs 41 [cx p g r, d.av, c.av] (if d.okIn p g ∧ c.okIn p g then .tup [dv (addD p g r d.D c.D).1, i64 (addD p g r d.D c.D).2, i64 0] else .tup [dv zD, i64 0, i64 221]) := by
  have hT := ret_two p g r hp hg hr d c h1 h2 101 _ _ (fun h => by
    obtain ⟨a1, a2, a3, a4⟩ := okIn_facts hp hg h.1
    obtain ⟨b1, b2, b3, b4⟩ := okIn_facts hp hg h.2
    exact ret_dadd p g r d.D c.D hp hg hr a1 b1 (Nat.le_trans (d.len_le h1) (by decide)) (Nat.le_trans (c.len_le h2) (by decide)) (by omega) (by omega))
  generalize addD p g r d.D c.D = z at *
  by_cases h : d.okIn p g ∧ c.okIn p g
  · rw [if_pos h] at hT ⊢
    unfold DI.av dv cx at *
    refine RetN_start Tryd.func41 (by kernel_rfl) rfl fun Q hQ hQ2 => ?_; rw [Tryd.ntmps41]; simp only [u, i64, Nat.reduceSub, Nat.reduceAdd, bm]
    repeat (first | (refine gC ?_; first | refine aA ?_ | (refine cR hT ?_; refine sX ?_; try refine aA ?_)) | (refine cR hT ?_; refine sX ?_; try refine aA ?_) | refine gS ?_)
    (refine FinQ hQ (congrArg Array.toList Tryd.results41) _ _ ?_); simp (disch := omega) only [u, i64, ax, if_true, forall_const, reduceCtorEq, implies_true, tvs, bf]
  · rw [if_neg h] at hT ⊢
    rw [dvz] at *
    unfold DI.av cx at *
    refine RetN_start Tryd.func41 (by kernel_rfl) rfl fun Q hQ hQ2 => ?_; rw [Tryd.ntmps41]; simp only [u, i64, Nat.reduceSub, Nat.reduceAdd, bm]
    repeat (first | (refine gC ?_; first | refine aA ?_ | (refine cR hT ?_; refine sX ?_; try refine aA ?_)) | (refine cR hT ?_; refine sX ?_; try refine aA ?_) | refine gS ?_)
    (refine FinQ hQ (congrArg Array.toList Tryd.results41) _ _ ?_); simp (disch := omega) only [u, i64, ax, if_true, forall_const, reduceCtorEq, implies_true, tvs, bf]
end Go.Proofs
set_option linter.unusedVariables false
set_option linter.unusedSimpArgs false
set_option maxRecDepth 100000
namespace Go.Proofs
open Go.Ax
/-- A number with another exponent. -/
def quantN (r : Nat) (x : DV) (exp : Int) : Nat := if x.exp < exp then quoN r x.neg x.coef (10 ^ (exp - x.exp).toNat) else x.coef * 10 ^ (x.exp - exp).toNat
def quantX (x : DV) (exp : Int) : Bool := if x.exp < exp then decide (x.coef % 10 ^ (exp - x.exp).toNat = 0) else true
def quantD (p : Nat) (g : Int) (r : Nat) (x : DV) (exp : Int) : DV × Nat :=
  if x.kind = 2 then (x, 0)
  else if x.kind = 1 ∨ exp < 1 - g - (p - 1) ∨ g < exp then (nanD, 16)
  else if inD p g ⟨0, x.neg, quantN r x exp, exp⟩ then (⟨0, x.neg, quantN r x exp, exp⟩, if quantX x exp = true then 0 else 1)
  else (nanD, 16)
theorem quoN_small (r : Nat) (neg : Bool) (n d : Nat) : quoN r neg n d ≤ n + 1 := by
  unfold quoN
  have := Nat.div_le_self n d
  split <;> omega
set_option maxRecDepth 100000 in
set_option maxHeartbeats 4000000 in
theorem ret_DQuantize (p : Nat) (g : Int) (r : Nat) (hp : 1 ≤ p ∧ p ≤ 400) (hg : 1 ≤ g ∧ g ≤ 6000) (hr : r ≤ 4) (d : DI) (h1 : d.ok) (exp : Int) (he : -1000000 ≤ exp ∧ exp ≤ 1000000) :
    Ret Tryd.prog GEs 61 [cx p g r, d.av, i64 exp] (if d.okIn p g then .tup [dv (quantD p g r d.D exp).1, i64 (quantD p g r d.D exp).2, i64 0] else .tup [dv zD, i64 0, i64 221]) := by
  have hA := ret_Args1 p g r hp hg hr d h1
  by_cases h : d.okIn p g
  · rw [if_pos h] at hA ⊢
    obtain ⟨a1, a2, a3, a4⟩ := okIn_facts hp hg h
    have hl := d.len_le h1
    have hT := ret_tiny p g r hp hg
    have hdv := DI.dv_eq h.1
    rw [show d.av = .agg [i64 d.k, .bool d.neg, ws d.cs, i64 d.e] from rfl]
    have hA' : Ret Tryd.prog GEs 110 [cx p g r, .bool false, .lst 1 [i64 d.k, .bool d.neg, ws d.cs, i64 d.e]] (.tup [.lst 1 [i64 d.D.kind, .bool d.D.neg, nat d.D.coef, i64 d.D.exp], i64 0]) := by
      have hk : ((d.D.kind : Nat) : Int) = d.k := by show ((d.k.toNat : Nat) : Int) = d.k; have := (goodD_right h.1).2.1; omega
      rw [hk]; exact hA
    have hA := hA'
    clear hA' hdv
    generalize d.k = dk at *
    generalize d.neg = dn at *
    generalize d.cs = dc at *
    generalize d.e = de at *
    generalize d.D = x at *
    clear h
    obtain ⟨kd, ng, c, e⟩ := x
    simp only at *
    have hbn := bl_len c
    have tl : ∀ k : Nat, k ≤ 14000 → (words (10 ^ k)).length ≤ 900 := fun k hk => le_pow_words (ten_le k) (by omega)
    have hTT : 1 - g - ((p : Int) - 1) = 2 - g - p := by omega
    by_cases k2 : kd = 2
    · have e1 : quantD p g r ⟨kd, ng, c, e⟩ exp = (⟨kd, ng, c, e⟩, 0) := by unfold quantD; rw [if_pos k2]
      rw [e1]
      unfold dv cx at *
      simp only at *
      refine RetN_start Tryd.func61 (by kernel_rfl) rfl fun Q hQ hQ2 => ?_; rw [Tryd.ntmps61]; simp only [u, i64, Nat.reduceSub, Nat.reduceAdd, bm]
      (refine gO ?_)
      (refine gC ?_)
      simp (disch := omega) only [u, i64, ax, eq_self, if_true, if_false, Nat.reduceAdd, Int.reduceToNat, Int.reduceAdd, tvs, bs, Nat.reduceMul, List.take_succ_cons, List.take_zero, List.nil_append, List.cons_append, List.append_nil, Nat.reduceLeDiff]
      repeat (first | (refine gC ?_; first | refine aA ?_ | (refine cR hA ?_; refine sX ?_; try refine aA ?_)) | (refine cR hA ?_; refine sX ?_; try refine aA ?_) | refine gS ?_)
      (refine FinQ hQ (congrArg Array.toList Tryd.results61) _ _ ?_); simp (disch := omega) only [u, i64, ax, if_true, forall_const, reduceCtorEq, implies_true, tvs, bf]
      all_goals rfl
    · by_cases kx : kd = 1 ∨ exp < 1 - g - (p - 1) ∨ g < exp
      · have e1 : quantD p g r ⟨kd, ng, c, e⟩ exp = (nanD, 16) := by unfold quantD; rw [if_neg k2, if_pos kx]
        rw [e1]
        unfold nanD dv cx at *
        simp only at *
        by_cases k1 : kd = 1
        · skip
          refine RetN_start Tryd.func61 (by kernel_rfl) rfl fun Q hQ hQ2 => ?_; rw [Tryd.ntmps61]; simp only [u, i64, Nat.reduceSub, Nat.reduceAdd, bm]
          (refine gO ?_)
          (refine gC ?_)
          simp (disch := omega) only [u, i64, ax, eq_self, if_true, if_false, Nat.reduceAdd, Int.reduceToNat, Int.reduceAdd, tvs, bs, Nat.reduceMul, List.take_succ_cons, List.take_zero, List.nil_append, List.cons_append, List.append_nil, Nat.reduceLeDiff]
          repeat (first | (refine gC ?_; first | refine aA ?_ | (refine cR hA ?_; refine sX ?_; try refine aA ?_)) | (refine cR hA ?_; refine sX ?_; try refine aA ?_) | refine gS ?_)
          (refine FinQ hQ (congrArg Array.toList Tryd.results61) _ _ ?_); simp (disch := omega) only [u, i64, ax, if_true, forall_const, reduceCtorEq, implies_true, tvs, bf]
          all_goals rfl
        · by_cases kt : exp < 1 - g - (p - 1)
          · generalize 1 - g - ((p : Int) - 1) = T at *
            refine RetN_start Tryd.func61 (by kernel_rfl) rfl fun Q hQ hQ2 => ?_; rw [Tryd.ntmps61]; simp only [u, i64, Nat.reduceSub, Nat.reduceAdd, bm]
            (refine gO ?_)
            (refine gC ?_)
            simp (disch := omega) only [u, i64, ax, eq_self, if_true, if_false, Nat.reduceAdd, Int.reduceToNat, Int.reduceAdd, tvs, bs, Nat.reduceMul, List.take_succ_cons, List.take_zero, List.nil_append, List.cons_append, List.append_nil, Nat.reduceLeDiff]
            repeat (first | (refine gC ?_; first | refine aA ?_ | ((first | refine cR hA ?_ | refine cR hT ?_); refine sX ?_; try refine aA ?_)) | ((first | refine cR hA ?_ | refine cR hT ?_); refine sX ?_; try refine aA ?_) | refine gS ?_)
            (refine FinQ hQ (congrArg Array.toList Tryd.results61) _ _ ?_); simp (disch := omega) only [u, i64, ax, if_true, forall_const, reduceCtorEq, implies_true, tvs, bf]
            all_goals rfl
          · have kg : g < exp := by omega
            generalize 1 - g - ((p : Int) - 1) = T at *
            refine RetN_start Tryd.func61 (by kernel_rfl) rfl fun Q hQ hQ2 => ?_; rw [Tryd.ntmps61]; simp only [u, i64, Nat.reduceSub, Nat.reduceAdd, bm]
            (refine gO ?_)
            (refine gC ?_)
            simp (disch := omega) only [u, i64, ax, eq_self, if_true, if_false, Nat.reduceAdd, Int.reduceToNat, Int.reduceAdd, tvs, bs, Nat.reduceMul, List.take_succ_cons, List.take_zero, List.nil_append, List.cons_append, List.append_nil, Nat.reduceLeDiff]
            repeat (first | (refine gC ?_; first | refine aA ?_ | ((first | refine cR hA ?_ | refine cR hT ?_); refine sX ?_; try refine aA ?_)) | ((first | refine cR hA ?_ | refine cR hT ?_); refine sX ?_; try refine aA ?_) | refine gS ?_)
            (refine FinQ hQ (congrArg Array.toList Tryd.results61) _ _ ?_); simp (disch := omega) only [u, i64, ax, if_true, forall_const, reduceCtorEq, implies_true, tvs, bf]
            all_goals rfl
      · have k0 : kd = 0 := by omega
        have kt : ¬ exp < 1 - g - ((p : Int) - 1) := by omega
        have kg : ¬ g < exp := by omega
        have k1 : ¬ kd = 1 := by omega
        subst k0
        have hM0 : ∀ k : Nat, k ≤ 14000 → Ret Tryd.prog GEs 126 [nat c, nat (10 ^ k)] (nat (c * 10 ^ k)) := fun k hk => by
          have := ret_Mul (words c) (words (10 ^ k)) (Wd_words _) (Wd_words _) (by omega) (by have := tl k hk; omega)
          rwa [val_words, val_words] at this
        have hH : ∀ N : Nat, (words N).length ≤ 2000 → Ret Tryd.prog GEs 129 [cx p g r, .agg [i64 0, .bool ng, nat N, i64 exp]] (.bool (decide (inD p g ⟨0, ng, N, exp⟩))) := fun N hN => ret_holds p g r ⟨0, ng, N, exp⟩ hp hg (by show 0 ≤ 2; decide) hN (by show -3000000 ≤ exp ∧ exp ≤ 3000000; omega)
        by_cases hx : e < exp
        · have hcast : exp - e = (((exp - e).toNat : Nat) : Int) := by omega
          have hmax : max (0 : Int) (e - exp) = ((0 : Nat) : Int) := by omega
          have hT0 := ret_Ten 0 (by decide)
          have hM := hM0 0 (by decide)
          have hT2 := ret_Ten (exp - e).toNat (by omega)
          have hQu := ret_Quotient r hr ng (words c) (words (10 ^ (exp - e).toNat)) (Wd_words _) (Wd_words _) (by omega) (by have := tl (exp - e).toNat (by omega); omega) (by rw [val_words]; exact Nat.ne_of_gt (ten_pos _))
          rw [val_words, val_words] at hQu
          have hNl : (words (quoN r ng c (10 ^ (exp - e).toNat))).length ≤ 2000 := by
            have h1 := length_mono (quoN_small r ng c (10 ^ (exp - e).toNat))
            have h2 := length_add c 1
            have h3 : (words 1).length ≤ 1 := length_le (by decide)
            omega
          have hH := hH _ hNl
          have e1 : quantD p g r ⟨0, ng, c, e⟩ exp = if inD p g ⟨0, ng, quoN r ng c (10 ^ (exp - e).toNat), exp⟩ then (⟨0, ng, quoN r ng c (10 ^ (exp - e).toNat), exp⟩, if decide (c % 10 ^ (exp - e).toNat = 0) = true then 0 else 1) else (nanD, 16) := by
            unfold quantD quantN quantX
            simp only
            rw [if_neg k2, if_neg kx, if_pos hx, if_pos hx]
          rw [e1]
          generalize quoN r ng c (10 ^ (exp - e).toNat) = N at *
          generalize decide (c % 10 ^ (exp - e).toNat = 0) = ex at *
          generalize (exp - e).toNat = t at *
          generalize 10 ^ t = TT at *
          generalize c * 10 ^ 0 = M0 at *
          generalize 10 ^ 0 = T0 at *
          clear hM0 tl
          by_cases hin : inD p g ⟨0, ng, N, exp⟩
          · rw [decT hin] at hH
            rw [if_pos hin]
            cases ex with
            | true =>
              rw [if_pos rfl]
              clear hin e1
              unfold dv cx at *
              simp only at *
              generalize 1 - g - ((p : Int) - 1) = T at *
              refine RetN_start Tryd.func61 (by kernel_rfl) rfl fun Q hQ hQ2 => ?_; rw [Tryd.ntmps61]; simp only [u, i64, Nat.reduceSub, Nat.reduceAdd, bm]
              (refine gO ?_)
              (refine gC ?_)
              simp (disch := omega) only [u, i64, ax, eq_self, if_true, if_false, Nat.reduceAdd, Int.reduceToNat, Int.reduceAdd, tvs, bs, Nat.reduceMul, List.take_succ_cons, List.take_zero, List.nil_append, List.cons_append, List.append_nil, Nat.reduceLeDiff]
              repeat (first | (refine gC ?_; first | refine aA ?_ | ((first | refine cR hA ?_ | refine cR hT ?_ | refine cR hT0 ?_ | refine cR hM ?_); refine sX ?_; try refine aA ?_)) | ((first | refine cR hA ?_ | refine cR hT ?_ | refine cR hT0 ?_ | refine cR hM ?_); refine sX ?_; try refine aA ?_) | refine gS ?_)
              (refine gC ?_)
              rw [hcast]
              repeat (first | (refine gC ?_; first | refine aA ?_ | ((first | refine cR hT2 ?_ | refine cR hQu ?_ | refine cR hH ?_); refine sX ?_; try refine aA ?_)) | ((first | refine cR hT2 ?_ | refine cR hQu ?_ | refine cR hH ?_); refine sX ?_; try refine aA ?_) | refine gS ?_)
              (refine FinQ hQ (congrArg Array.toList Tryd.results61) _ _ ?_); simp (disch := omega) only [u, i64, ax, if_true, forall_const, reduceCtorEq, implies_true, tvs, bf]
              all_goals rfl
            | false =>
              rw [if_neg (by decide)]
              clear hin e1
              unfold dv cx at *
              simp only at *
              generalize 1 - g - ((p : Int) - 1) = T at *
              refine RetN_start Tryd.func61 (by kernel_rfl) rfl fun Q hQ hQ2 => ?_; rw [Tryd.ntmps61]; simp only [u, i64, Nat.reduceSub, Nat.reduceAdd, bm]
              (refine gO ?_)
              (refine gC ?_)
              simp (disch := omega) only [u, i64, ax, eq_self, if_true, if_false, Nat.reduceAdd, Int.reduceToNat, Int.reduceAdd, tvs, bs, Nat.reduceMul, List.take_succ_cons, List.take_zero, List.nil_append, List.cons_append, List.append_nil, Nat.reduceLeDiff]
              repeat (first | (refine gC ?_; first | refine aA ?_ | ((first | refine cR hA ?_ | refine cR hT ?_ | refine cR hT0 ?_ | refine cR hM ?_); refine sX ?_; try refine aA ?_)) | ((first | refine cR hA ?_ | refine cR hT ?_ | refine cR hT0 ?_ | refine cR hM ?_); refine sX ?_; try refine aA ?_) | refine gS ?_)
              (refine gC ?_)
              rw [hcast]
              repeat (first | (refine gC ?_; first | refine aA ?_ | ((first | refine cR hT2 ?_ | refine cR hQu ?_ | refine cR hH ?_); refine sX ?_; try refine aA ?_)) | ((first | refine cR hT2 ?_ | refine cR hQu ?_ | refine cR hH ?_); refine sX ?_; try refine aA ?_) | refine gS ?_)
              (refine FinQ hQ (congrArg Array.toList Tryd.results61) _ _ ?_); simp (disch := omega) only [u, i64, ax, if_true, forall_const, reduceCtorEq, implies_true, tvs, bf]
              all_goals rfl
          · rw [decF hin] at hH
            rw [if_neg hin]
            clear hin e1
            unfold nanD dv cx at *
            simp only at *
            generalize 1 - g - ((p : Int) - 1) = T at *
            refine RetN_start Tryd.func61 (by kernel_rfl) rfl fun Q hQ hQ2 => ?_; rw [Tryd.ntmps61]; simp only [u, i64, Nat.reduceSub, Nat.reduceAdd, bm]
            (refine gO ?_)
            (refine gC ?_)
            simp (disch := omega) only [u, i64, ax, eq_self, if_true, if_false, Nat.reduceAdd, Int.reduceToNat, Int.reduceAdd, tvs, bs, Nat.reduceMul, List.take_succ_cons, List.take_zero, List.nil_append, List.cons_append, List.append_nil, Nat.reduceLeDiff]
            repeat (first | (refine gC ?_; first | refine aA ?_ | ((first | refine cR hA ?_ | refine cR hT ?_ | refine cR hT0 ?_ | refine cR hM ?_); refine sX ?_; try refine aA ?_)) | ((first | refine cR hA ?_ | refine cR hT ?_ | refine cR hT0 ?_ | refine cR hM ?_); refine sX ?_; try refine aA ?_) | refine gS ?_)
            (refine gC ?_)
            rw [hcast]
            repeat (first | (refine gC ?_; first | refine aA ?_ | ((first | refine cR hT2 ?_ | refine cR hQu ?_ | refine cR hH ?_); refine sX ?_; try refine aA ?_)) | ((first | refine cR hT2 ?_ | refine cR hQu ?_ | refine cR hH ?_); refine sX ?_; try refine aA ?_) | refine gS ?_)
            (refine FinQ hQ (congrArg Array.toList Tryd.results61) _ _ ?_); simp (disch := omega) only [u, i64, ax, if_true, forall_const, reduceCtorEq, implies_true, tvs, bf]
            all_goals rfl
        · have hcast : e - exp = (((e - exp).toNat : Nat) : Int) := by omega
          have hT2 := ret_Ten (e - exp).toNat (by omega)
          have hM := hM0 (e - exp).toNat (by omega)
          have hNl : (words (c * 10 ^ (e - exp).toNat)).length ≤ 2000 := by
            have h1 := length_mul c (10 ^ (e - exp).toNat)
            have h2 := tl (e - exp).toNat (by omega)
            omega
          have hH := hH _ hNl
          have e1 : quantD p g r ⟨0, ng, c, e⟩ exp = if inD p g ⟨0, ng, c * 10 ^ (e - exp).toNat, exp⟩ then (⟨0, ng, c * 10 ^ (e - exp).toNat, exp⟩, 0) else (nanD, 16) := by
            unfold quantD quantN quantX
            simp only
            rw [if_neg k2, if_neg kx, if_neg hx, if_neg hx]
            rfl
          rw [e1]
          generalize c * 10 ^ (e - exp).toNat = N at *
          generalize (e - exp).toNat = t at *
          generalize 10 ^ t = TT at *
          clear hM0 tl
          by_cases hin : inD p g ⟨0, ng, N, exp⟩
          · rw [decT hin] at hH
            rw [if_pos hin]
            clear hin e1
            unfold dv cx at *
            simp only at *
            generalize 1 - g - ((p : Int) - 1) = T at *
            refine RetN_start Tryd.func61 (by kernel_rfl) rfl fun Q hQ hQ2 => ?_; rw [Tryd.ntmps61]; simp only [u, i64, Nat.reduceSub, Nat.reduceAdd, bm]
            (refine gO ?_)
            (refine gC ?_)
            simp (disch := omega) only [u, i64, ax, eq_self, if_true, if_false, Nat.reduceAdd, Int.reduceToNat, Int.reduceAdd, tvs, bs, Nat.reduceMul, List.take_succ_cons, List.take_zero, List.nil_append, List.cons_append, List.append_nil, Nat.reduceLeDiff]
            repeat (first | (refine gC ?_; first | refine aA ?_ | ((first | refine cR hA ?_ | refine cR hT ?_); refine sX ?_; try refine aA ?_)) | ((first | refine cR hA ?_ | refine cR hT ?_); refine sX ?_; try refine aA ?_) | refine gS ?_)
            (refine gC ?_)
            rw [hcast]
            repeat (first | (refine gC ?_; first | refine aA ?_ | ((first | refine cR hT2 ?_ | refine cR hM ?_ | refine cR hH ?_); refine sX ?_; try refine aA ?_)) | ((first | refine cR hT2 ?_ | refine cR hM ?_ | refine cR hH ?_); refine sX ?_; try refine aA ?_) | refine gS ?_)
            (refine FinQ hQ (congrArg Array.toList Tryd.results61) _ _ ?_); simp (disch := omega) only [u, i64, ax, if_true, forall_const, reduceCtorEq, implies_true, tvs, bf]
            all_goals rfl
          · rw [decF hin] at hH
            rw [if_neg hin]
            clear hin e1
            unfold nanD dv cx at *
            simp only at *
            generalize 1 - g - ((p : Int) - 1) = T at *
            refine RetN_start Tryd.func61 (by kernel_rfl) rfl fun Q hQ hQ2 => ?_; rw [Tryd.ntmps61]; simp only [u, i64, Nat.reduceSub, Nat.reduceAdd, bm]
            (refine gO ?_)
            (refine gC ?_)
            simp (disch := omega) only [u, i64, ax, eq_self, if_true, if_false, Nat.reduceAdd, Int.reduceToNat, Int.reduceAdd, tvs, bs, Nat.reduceMul, List.take_succ_cons, List.take_zero, List.nil_append, List.cons_append, List.append_nil, Nat.reduceLeDiff]
            repeat (first | (refine gC ?_; first | refine aA ?_ | ((first | refine cR hA ?_ | refine cR hT ?_); refine sX ?_; try refine aA ?_)) | ((first | refine cR hA ?_ | refine cR hT ?_); refine sX ?_; try refine aA ?_) | refine gS ?_)
            (refine gC ?_)
            rw [hcast]
            repeat (first | (refine gC ?_; first | refine aA ?_ | ((first | refine cR hT2 ?_ | refine cR hM ?_ | refine cR hH ?_); refine sX ?_; try refine aA ?_)) | ((first | refine cR hT2 ?_ | refine cR hM ?_ | refine cR hH ?_); refine sX ?_; try refine aA ?_) | refine gS ?_)
            (refine FinQ hQ (congrArg Array.toList Tryd.results61) _ _ ?_); simp (disch := omega) only [u, i64, ax, if_true, forall_const, reduceCtorEq, implies_true, tvs, bf]
            all_goals rfl
  · rw [if_neg h] at hA ⊢
    rw [dvz]
    unfold DI.av cx at *
    refine RetN_start Tryd.func61 (by kernel_rfl) rfl fun Q hQ hQ2 => ?_; rw [Tryd.ntmps61]; simp only [u, i64, Nat.reduceSub, Nat.reduceAdd, bm]
    (refine gO ?_)
    (refine gC ?_)
    simp (disch := omega) only [u, i64, ax, eq_self, if_true, if_false, Nat.reduceAdd, Int.reduceToNat, Int.reduceAdd, tvs, bs, Nat.reduceMul, List.take_succ_cons, List.take_zero, List.nil_append, List.cons_append, List.append_nil, Nat.reduceLeDiff]
    repeat (first | (refine gC ?_; first | refine aA ?_ | (refine cR hA ?_; refine sX ?_; try refine aA ?_)) | (refine cR hA ?_; refine sX ?_; try refine aA ?_) | refine gS ?_)
    (refine FinQ hQ (congrArg Array.toList Tryd.results61) _ _ ?_); simp (disch := omega) only [u, i64, ax, if_true, forall_const, reduceCtorEq, implies_true, tvs, bf]
end Go.Proofs
set_option linter.unusedVariables false
namespace Go.Proofs
open Go.Ax
def digs : List Nat → List Nat
  | [] => []
  | x :: xs => x % 4294967296 :: x / 4294967296 :: digs xs
theorem digs_length : ∀ xs : List Nat, (digs xs).length = 2 * xs.length
  | [] => rfl
  | x :: xs => by simp only [digs, List.length_cons, digs_length xs]; omega
theorem digs_Ds : ∀ {xs : List Nat}, Wd xs → Ds 4294967296 (digs xs)
  | [], _ => Ds_nil
  | x :: xs, h => Ds_cons (Nat.mod_lt _ (by decide)) (Ds_cons (by have := h.head; omega) (digs_Ds h.tail))
theorem digs_val : ∀ (xs : List Nat), vb 4294967296 (digs xs) = val xs
  | [] => rfl
  | x :: xs => by
    simp only [digs, vb, val, digs_val xs]
    omega
theorem digs_snoc : ∀ (xs : List Nat) (x : Nat), digs (xs ++ [x]) = digs xs ++ [x % 4294967296, x / 4294967296]
  | [], x => rfl
  | y :: xs, x => by simp only [List.cons_append, digs, digs_snoc xs x]
theorem digs_take (xs : List Nat) (n : Nat) (h : n < xs.length) : digs (xs.take (n + 1)) = digs (xs.take n) ++ [xs.getD n 0 % 4294967296, xs.getD n 0 / 4294967296] := by
  rw [List.take_succ_eq_append_getElem h, digs_snoc, List.getD_eq_getElem?_getD, List.getElem?_eq_getElem h]; rfl
/-- Halves put together. -/
def joined : List Nat → List Nat
  | a :: b :: ds => (a + b * 4294967296) :: joined ds
  | _ => []
theorem joined_length : ∀ (ds : List Nat), (joined ds).length = ds.length / 2
  | [] => rfl
  | [_] => by simp [joined]
  | a :: b :: ds => by simp only [joined, List.length_cons, joined_length ds]; omega
theorem joined_Wd : ∀ {ds : List Nat}, Ds 4294967296 ds → Wd (joined ds)
  | [], _ => Wd_nil
  | [_], _ => Wd_nil
  | a :: b :: ds, h => by
    have h1 := h.head
    have h2 := h.tail.head
    exact Wd_cons (by omega) (joined_Wd h.tail.tail)
theorem joined_val : ∀ (ds : List Nat), ds.length % 2 = 0 → val (joined ds) = vb 4294967296 ds
  | [], _ => rfl
  | [_], h => by simp at h
  | a :: b :: ds, h => by
    have ih := joined_val ds (by simpa [Nat.add_assoc, Nat.add_mod_right] using h)
    simp only [joined, val, vb, ih]
    omega
theorem joined_snoc : ∀ (ds : List Nat) (a b : Nat), ds.length % 2 = 0 → joined (ds ++ [a, b]) = joined ds ++ [a + b * 4294967296]
  | [], a, b, _ => rfl
  | [_], _, _, h => by simp at h
  | x :: y :: ds, a, b, h => by
    have ih := joined_snoc ds a b (by simpa [Nat.add_assoc, Nat.add_mod_right] using h)
    simp only [List.cons_append, joined, ih]
theorem take_two (ds : List Nat) (n : Nat) (h : n + 1 < ds.length) : ds.take (n + 2) = ds.take n ++ [ds.getD n 0, ds.getD (n + 1) 0] := by
  rw [List.take_succ_eq_append_getElem h, List.take_succ_eq_append_getElem (by omega), List.append_assoc]
  simp [List.getD_eq_getElem?_getD, List.getElem?_eq_getElem h, List.getElem?_eq_getElem (show n < ds.length by omega)]
theorem joined_take (ds : List Nat) (i : Nat) (h : 2 * i + 1 < ds.length) : joined (ds.take (2 * (i + 1))) = joined (ds.take (2 * i)) ++ [ds.getD (2 * i) 0 + ds.getD (2 * i + 1) 0 * 4294967296] := by
  rw [show 2 * (i + 1) = 2 * i + 2 by omega, take_two ds (2 * i) h, joined_snoc]
  rw [List.length_take, Nat.min_eq_left (by omega)]; omega
theorem pow_half (n : Nat) : (4294967296 : Nat) ^ (2 * n) = 18446744073709551616 ^ n := by rw [Nat.pow_mul]
/-- Words that have no fewer words in canonical form. -/
theorem canon_of_ge {xs : List Nat} (hw : Wd xs) (h : 18446744073709551616 ^ (xs.length - 1) ≤ val xs) : Canon xs := fun hne h0 => by
  have e := List.dropLast_concat_getLast hne
  rw [h0] at e
  have hv : val xs = val xs.dropLast := by
    conv => lhs; rw [← e]
    rw [val_append]; simp [val]
  have hd : Wd xs.dropLast := fun y hy => hw y ((List.dropLast_sublist _).subset hy)
  have := val_lt hd
  rw [List.length_dropLast] at this
  omega
theorem words_of_ge {xs : List Nat} (hw : Wd xs) (h : 18446744073709551616 ^ (xs.length - 1) ≤ val xs) : xs = words (val xs) := (words_val hw (canon_of_ge hw h)).symm
end Go.Proofs
set_option linter.unusedVariables false
set_option linter.unusedSimpArgs false
namespace Go.Proofs
open Go.Ax
set_option maxRecDepth 100000 in
theorem ret_Digits (xs : List Nat) (hx : Wd xs) (hl : xs.length ≤ 549755813888) : Ret Tryd.prog GEs 156 [ws xs] (ws (digs xs)) := by
  refine RetN_start Tryd.func156 (by kernel_rfl) rfl fun Q hQ hQ2 => ?_; rw [Tryd.ntmps156]; simp only [u, i64, Nat.reduceSub, Nat.reduceAdd, bm]
  (refine gO ?_)
  refine AWp_loop (fun i : Nat × List Nat => mk 25 [(0, ws xs), (3, gA i.2 i.1), (4, i64 i.1)] (gR i.2 i.1)) (fun i => i.1 ≤ xs.length ∧ i.2 = digs (xs.take i.1)) (fun i => xs.length - i.1) (0, []) ?_ ⟨Nat.zero_le _, rfl⟩ ?_
  · simp only [u, i64, Nat.reduceSub, Nat.reduceAdd, bm]
  rintro ⟨k, ds⟩ ⟨hk, hds⟩
  simp only at hk hds
  have hlen : ds.length = 2 * k := by rw [hds, digs_length, List.length_take]; omega
  by_cases hn : k < xs.length
  · have hdt := digs_take xs k hn
    rw [← hds] at hdt
    have hw := hx.getD k
    cases k with
    | zero =>
      have h0 : ds = [] := hds
      subst h0
      simp only [u, i64, Nat.reduceSub, Nat.reduceAdd, bm]
      (refine gO ?_)
      refine ⟨(1, [xs.getD 0 0 % 4294967296, xs.getD 0 0 / 4294967296]), ?_, ⟨hn, hdt.symm⟩, by simp only; omega⟩
      simp only [u, i64, Nat.reduceSub, Nat.reduceAdd, bm]
    | succ k =>
      simp only [u, i64, Nat.reduceSub, Nat.reduceAdd, bm]
      (refine gO ?_)
      refine ⟨(k + 2, ds ++ [xs.getD (k + 1) 0 % 4294967296, xs.getD (k + 1) 0 / 4294967296]), ?_, ⟨hn, hdt.symm⟩, by simp only; omega⟩
      simp only [u, i64, Nat.reduceSub, Nat.reduceAdd, bm]
  · have hk0 : k = xs.length := by omega
    rw [hk0, List.take_length] at hds
    subst hds
    cases k with
    | zero =>
      have hx0 : xs = [] := List.eq_nil_of_length_eq_zero hk0.symm
      subst hx0
      simp only [u, i64, Nat.reduceSub, Nat.reduceAdd, bm]
      (refine gO ?_)
      (refine FinQ hQ (congrArg Array.toList Tryd.results156) _ _ ?_); simp (disch := omega) only [u, i64, ax, if_true, forall_const, reduceCtorEq, implies_true, tvs, bf]
      rfl
    | succ k =>
      simp only [u, i64, Nat.reduceSub, Nat.reduceAdd, bm]
      (refine gO ?_)
      (refine FinQ hQ (congrArg Array.toList Tryd.results156) _ _ ?_); simp (disch := omega) only [u, i64, ax, if_true, forall_const, reduceCtorEq, implies_true, tvs, bf]
set_option maxRecDepth 100000 in
theorem ret_Row (ds : List Nat) (hd : Ds 4294967296 ds) (he : ds.length % 2 = 0) (hl : ds.length ≤ 1099511627776) : Ret Tryd.prog GEs 198 [ws ds] (ws (joined ds)) := by
  refine RetN_start Tryd.func198 (by kernel_rfl) rfl fun Q hQ hQ2 => ?_; rw [Tryd.ntmps198]; simp only [u, i64, Nat.reduceSub, Nat.reduceAdd, bm]
  (refine gO ?_)
  refine AWp_loop (fun i : Nat × Nat × List Nat => mk 27 [(0, ws ds), (3, gA i.2.2 i.1), (4, i64 i.2.1)] (gR i.2.2 i.1)) (fun i => i.2.1 = 2 * i.1 ∧ i.2.1 ≤ ds.length ∧ i.2.2 = joined (ds.take i.2.1)) (fun i => ds.length - i.2.1) (0, 0, []) ?_ ⟨rfl, Nat.zero_le _, rfl⟩ ?_
  · simp only [u, i64, Nat.reduceSub, Nat.reduceAdd, bm]
  rintro ⟨k, j, rs⟩ ⟨hj, hk, hrs⟩
  simp only at hj hk hrs
  by_cases hn : j + 1 < ds.length
  · have hdt := joined_take ds k (by omega)
    rw [show 2 * (k + 1) = j + 2 by omega, ← hj, ← hrs] at hdt
    have h1 := hd.getD (by decide) j
    have h2 := hd.getD (by decide) (j + 1)
    have hrl : rs.length ≤ ds.length := by rw [hrs, joined_length, List.length_take]; omega
    cases k with
    | zero =>
      have hj0 : j = 0 := by omega
      subst hj0
      have h0 : rs = [] := hrs
      subst h0
      simp only [Nat.zero_add] at h2
      simp only [u, i64, Nat.reduceSub, Nat.reduceAdd, bm]
      (refine gO ?_)
      refine ⟨(1, 2, [ds.getD 0 0 + ds.getD 1 0 * 4294967296]), ?_, ⟨rfl, by simp only; omega, hdt.symm⟩, by simp only; omega⟩
      simp only [u, i64, Nat.reduceSub, Nat.reduceAdd, bm]
    | succ k =>
      simp only [u, i64, Nat.reduceSub, Nat.reduceAdd, bm]
      (refine gO ?_)
      refine ⟨(k + 2, j + 2, rs ++ [ds.getD j 0 + ds.getD (j + 1) 0 * 4294967296]), ?_, ⟨by simp only; omega, by simp only; omega, hdt.symm⟩, by simp only; omega⟩
      simp only [u, i64, Nat.reduceSub, Nat.reduceAdd, bm]
  · have hk0 : j = ds.length := by omega
    rw [hk0, List.take_length] at hrs
    subst hrs
    cases k with
    | zero =>
      have hx0 : ds = [] := List.eq_nil_of_length_eq_zero (by omega)
      subst hx0
      have hj0 : j = 0 := hk0
      subst hj0
      simp only [u, i64, Nat.reduceSub, Nat.reduceAdd, bm]
      (refine gO ?_)
      (refine FinQ hQ (congrArg Array.toList Tryd.results198) _ _ ?_); simp (disch := omega) only [u, i64, ax, if_true, forall_const, reduceCtorEq, implies_true, tvs, bf]
      rfl
    | succ k =>
      simp only [u, i64, Nat.reduceSub, Nat.reduceAdd, bm]
      (refine gO ?_)
      (refine FinQ hQ (congrArg Array.toList Tryd.results198) _ _ ?_); simp (disch := omega) only [u, i64, ax, if_true, forall_const, reduceCtorEq, implies_true, tvs, bf]
set_option maxRecDepth 100000 in
theorem ret_Short (xs : List Nat) (hl : xs.length ≤ 1099511627776) : Ret Tryd.prog GEs 187 [ws xs] (ws (xs.take (top xs))) := by
  refine RetN_start Tryd.func187 (by kernel_rfl) rfl fun Q hQ hQ2 => ?_; rw [Tryd.ntmps187]; simp only [u, i64, Nat.reduceSub, Nat.reduceAdd, bm]
  (refine gO ?_)
  refine AWp_loop (fun n : Nat => mk 21 [(0, ws xs), (3, i64 n)] []) (fun n => top xs ≤ n ∧ n ≤ xs.length) (fun n => n) xs.length ?_ ⟨top_le xs, Nat.le_refl _⟩ fun n hn => ?_
  · simp only [u, i64, Nat.reduceSub, Nat.reduceAdd, bm]
  simp only [u, i64, Nat.reduceSub, Nat.reduceAdd, bm]
  by_cases h : 0 < n
  · by_cases h0 : xs.getD (n - 1) 0 = 0
    · (refine gO ?_)
      refine ⟨n - 1, ?_, ⟨top_zero xs n hn.1 hn.2 h h0, by omega⟩, by omega⟩
      simp only [u, i64, Nat.reduceSub, Nat.reduceAdd, bm]
    · have ht := top_last xs n hn.1 hn.2 h h0
      (refine gO ?_)
      (refine FinQ hQ (congrArg Array.toList Tryd.results187) _ _ ?_); simp (disch := omega) only [u, i64, ax, if_true, forall_const, reduceCtorEq, implies_true, tvs, bf]
      simp [ht, Nat.min_eq_left hn.2]
  · have hn0 : n = 0 := by omega
    have ht : top xs = 0 := by omega
    (refine gO ?_)
    (refine FinQ hQ (congrArg Array.toList Tryd.results187) _ _ ?_); simp (disch := omega) only [u, i64, ax, if_true, forall_const, reduceCtorEq, implies_true, tvs, bf]
    simp [ht, hn0]
theorem eq_of_getD {xs ys : List Nat} (hl : xs.length = ys.length) (h : ∀ i, i < xs.length → xs.getD i 0 = ys.getD i 0) : xs = ys := by
  refine List.ext_getElem hl fun i h1 h2 => ?_
  have := h i h1
  simpa [List.getD_eq_getElem?_getD, List.getElem?_eq_getElem h1, List.getElem?_eq_getElem h2] using this
set_option maxRecDepth 100000 in
theorem ret_digit (xs : List Nat) (i : Nat) (hl : xs.length ≤ 1099511627776) : Ret Tryd.prog GEs 194 [ws xs, i64 i] (u (xs.getD i 0)) := by
  refine RetN_start Tryd.func194 (by kernel_rfl) rfl fun Q hQ hQ2 => ?_; rw [Tryd.ntmps194]; simp only [u, i64, Nat.reduceSub, Nat.reduceAdd, bm]
  by_cases h : i < xs.length
  · (refine gO ?_)
    (refine FinQ hQ (congrArg Array.toList Tryd.results194) _ _ ?_); simp (disch := omega) only [u, i64, ax, if_true, forall_const, reduceCtorEq, implies_true, tvs, bf]
  · (refine gO ?_)
    (refine FinQ hQ (congrArg Array.toList Tryd.results194) _ _ ?_); simp (disch := omega) only [u, i64, ax, if_true, forall_const, reduceCtorEq, implies_true, tvs, bf, getD_over xs i (by omega)]
    rfl
end Go.Proofs
