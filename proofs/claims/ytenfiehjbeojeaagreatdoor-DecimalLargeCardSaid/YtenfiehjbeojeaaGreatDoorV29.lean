/-
  Contracts of functions of the program, each proved by a walk.
-/
import Derived.Test.YtenfiehjbeojeaaGreatDoorV26
import Derived.Test.YtenfiehjbeojeaaGreatDoorV28
set_option maxRecDepth 100000
set_option linter.unusedVariables false
set_option linter.unusedSimpArgs false
namespace Go.Proofs
open Go.Ax
theorem dvz : dv zD = .agg [i64 0, .bool false, .lst 0 [], i64 0] := rfl
set_option maxRecDepth 100000 in
set_option maxHeartbeats 1000000 in
theorem ret_two (p : Nat) (g : Int) (r : Nat) (hp : 1 ≤ p ∧ p ≤ 400) (hg : 1 ≤ g ∧ g ≤ 6000) (hr : r ≤ 4) (d c : DI) (h1 : d.ok) (h2 : c.ok) (N : Nat) (z : DV) (fl : Nat)
    (hDo : d.okIn p g ∧ c.okIn p g → Ret Tryz.prog GEs N [cx p g r, dv d.D, dv c.D] (.tup [dv z, i64 fl])) :
    Ret Tryz.prog GEs 56 [cx p g r, d.av, c.av, .lit (.func (.func N) #[] #[])] (if d.okIn p g ∧ c.okIn p g then .tup [dv z, i64 fl, i64 0] else .tup [dv zD, i64 0, i64 221]) := by
  have hA := ret_Args2 p g r hp hg hr d c h1 h2
  by_cases h : d.okIn p g ∧ c.okIn p g
  · rw [if_pos h] at hA ⊢
    have hF := hDo h
    rw [DI.dv_eq h.1.1, DI.dv_eq h.2.1] at hF
    clear hDo
    unfold DI.av dv cx at *
    generalize val d.cs = v1 at *
    generalize val c.cs = v2 at *
    refine RetN_start Tryz.func56 (by kernel_rfl) rfl fun Q hQ hQ2 => ?_; rw [Tryz.ntmps56]; simp only [u, i64, Nat.reduceSub, Nat.reduceAdd, bm]
    (refine gO ?_)
    (refine gC ?_)
    simp (disch := omega) only [u, i64, ax, eq_self, if_true, if_false, Nat.reduceAdd, Int.reduceToNat, Int.reduceAdd, tvs, bs, Nat.reduceMul, List.take_succ_cons, List.take_zero, List.nil_append, List.cons_append, List.append_nil, Nat.reduceLeDiff]
    repeat (first | (refine gC ?_; first | refine aA ?_ | ((first | refine cR hA ?_ | refine cR hF ?_); refine sX ?_; try refine aA ?_)) | ((first | refine cR hA ?_ | refine cR hF ?_); refine sX ?_; try refine aA ?_) | refine gS ?_)
    (refine FinQ hQ (congrArg Array.toList Tryz.results56) _ _ ?_); simp (disch := omega) only [u, i64, ax, if_true, forall_const, reduceCtorEq, implies_true, tvs, bf]
  · rw [if_neg h] at hA ⊢
    clear hDo
    rw [dvz]
    unfold DI.av cx at *
    refine RetN_start Tryz.func56 (by kernel_rfl) rfl fun Q hQ hQ2 => ?_; rw [Tryz.ntmps56]; simp only [u, i64, Nat.reduceSub, Nat.reduceAdd, bm]
    (refine gO ?_)
    (refine gC ?_)
    simp (disch := omega) only [u, i64, ax, eq_self, if_true, if_false, Nat.reduceAdd, Int.reduceToNat, Int.reduceAdd, tvs, bs, Nat.reduceMul, List.take_succ_cons, List.take_zero, List.nil_append, List.cons_append, List.append_nil, Nat.reduceLeDiff]
    repeat (first | (refine gC ?_; first | refine aA ?_ | (refine cR hA ?_; refine sX ?_; try refine aA ?_)) | (refine cR hA ?_; refine sX ?_; try refine aA ?_) | refine gS ?_)
    (refine FinQ hQ (congrArg Array.toList Tryz.results56) _ _ ?_); simp (disch := omega) only [u, i64, ax, if_true, forall_const, reduceCtorEq, implies_true, tvs, bf]
theorem okIn_facts {p : Nat} {g : Int} (hp : 1 ≤ p ∧ p ≤ 400) (hg : 1 ≤ g ∧ g ≤ 6000) {d : DI} (h : d.okIn p g) : d.D.kind ≤ 2 ∧ -7000 ≤ d.D.exp ∧ d.D.exp ≤ 6000 ∧ rightD d.D := by
  obtain ⟨h1, h2⟩ := h
  obtain ⟨q1, q2, q3⟩ := goodD_right h1
  have hk : d.D.kind ≤ 2 := by show d.k.toNat ≤ 2; omega
  obtain ⟨e1, e2⟩ := inD_exp hp.1 q1 h2
  have e1' : d.D.kind = 0 → -7000 ≤ d.D.exp ∧ d.D.exp ≤ 6000 := fun h => by
    have := e1 h
    have e : (mkD d.k d.neg (val d.cs) d.e).exp = d.D.exp := rfl
    omega
  by_cases h0 : d.D.kind = 0
  · exact ⟨hk, (e1' h0).1, (e1' h0).2, q1⟩
  · have := (e2 h0).1
    have e : d.D.exp = 0 := this
    rw [e]
    exact ⟨hk, by decide, by decide, q1⟩
theorem ret_DAdd (p : Nat) (g : Int) (r : Nat) (hp : 1 ≤ p ∧ p ≤ 400) (hg : 1 ≤ g ∧ g ≤ 6000) (hr : r ≤ 4) (d c : DI) (h1 : d.ok) (h2 : c.ok) :
    Ret Tryz.prog GEs 23 [cx p g r, d.av, c.av] (if d.okIn p g ∧ c.okIn p g then .tup [dv (addD p g r d.D c.D).1, i64 (addD p g r d.D c.D).2, i64 0] else .tup [dv zD, i64 0, i64 221]) := by
  have hT := ret_two p g r hp hg hr d c h1 h2 57 _ _ (fun h => by
    obtain ⟨a1, a2, a3, a4⟩ := okIn_facts hp hg h.1
    obtain ⟨b1, b2, b3, b4⟩ := okIn_facts hp hg h.2
    exact ret_dadd p g r d.D c.D hp hg hr a1 b1 (Nat.le_trans (d.len_le h1) (by decide)) (Nat.le_trans (c.len_le h2) (by decide)) (by omega) (by omega))
  generalize addD p g r d.D c.D = z at *
  by_cases h : d.okIn p g ∧ c.okIn p g
  · rw [if_pos h] at hT ⊢
    unfold DI.av dv cx at *
    refine RetN_start Tryz.func23 (by kernel_rfl) rfl fun Q hQ hQ2 => ?_; rw [Tryz.ntmps23]; simp only [u, i64, Nat.reduceSub, Nat.reduceAdd, bm]
    repeat (first | (refine gC ?_; first | refine aA ?_ | (refine cR hT ?_; refine sX ?_; try refine aA ?_)) | (refine cR hT ?_; refine sX ?_; try refine aA ?_) | refine gS ?_)
    (refine FinQ hQ (congrArg Array.toList Tryz.results23) _ _ ?_); simp (disch := omega) only [u, i64, ax, if_true, forall_const, reduceCtorEq, implies_true, tvs, bf]
  · rw [if_neg h] at hT ⊢
    rw [dvz] at *
    unfold DI.av cx at *
    refine RetN_start Tryz.func23 (by kernel_rfl) rfl fun Q hQ hQ2 => ?_; rw [Tryz.ntmps23]; simp only [u, i64, Nat.reduceSub, Nat.reduceAdd, bm]
    repeat (first | (refine gC ?_; first | refine aA ?_ | (refine cR hT ?_; refine sX ?_; try refine aA ?_)) | (refine cR hT ?_; refine sX ?_; try refine aA ?_) | refine gS ?_)
    (refine FinQ hQ (congrArg Array.toList Tryz.results23) _ _ ?_); simp (disch := omega) only [u, i64, ax, if_true, forall_const, reduceCtorEq, implies_true, tvs, bf]
end Go.Proofs
