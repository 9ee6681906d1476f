/-
  Contracts of functions of the program, each proved by a walk.
-/
import Derived.Test.YtenfiehjbeojeaaGreatDoorV24
import Derived.Test.YtenfiehjbeojeaaGreatDoorV7
import Derived.Test.YtenfiehjbeojeaaGreatDoorV10
import Derived.Test.YtenfiehjbeojeaaGreatDoorV22
import Derived.Test.YtenfiehjbeojeaaGreatDoorV30
import Derived.Test.YtenfiehjbeojeaaGreatDoorV25
import Derived.Test.YtenfiehjbeojeaaGreatDoorV9
set_option maxRecDepth 100000
set_option linter.unusedVariables false
set_option linter.unusedSimpArgs false
set_option maxRecDepth 100000
namespace Go.Proofs
open Go.Ax
end Go.Proofs
set_option linter.unusedVariables false
set_option linter.unusedSimpArgs false
set_option maxRecDepth 100000
namespace Go.Proofs
open Go.Ax
theorem ret_TheirD (k e : Int) (neg : Bool) (cs : List Nat) : Ret Tryz.prog GEs 35 [.agg [i64 k, .bool neg, ws cs, i64 e]] (.agg [i64 k, .bool neg, ws cs, i64 e]) := by
  refine RetN_start Tryz.func35 (by kernel_rfl) rfl fun Q hQ hQ2 => ?_; rw [Tryz.ntmps35]; simp only [u, i64, Nat.reduceSub, Nat.reduceAdd, bm]
  (refine gO ?_)
  (refine FinQ hQ (congrArg Array.toList Tryz.results35) _ _ ?_); simp (disch := omega) only [u, i64, ax, if_true, forall_const, reduceCtorEq, implies_true, tvs, bf]
theorem ret_Good22 (k e : Int) (neg : Bool) (cs : List Nat) (hk1 : -9223372036854775808 ≤ k) (hk2 : k < 9223372036854775808) (he1 : -9223372036854775808 ≤ e) (he2 : e < 9223372036854775808) (hc : Wd cs) (hl : cs.length ≤ 100000) :
    Ret Tryz.prog GEs 34 [.agg [i64 k, .bool neg, ws cs, i64 e]] (.bool (decide (goodD k neg (val cs) e))) := by
  have hZ := ret_rIsZero cs hc (by omega)
  generalize val cs = v at *
  by_cases k0 : k = 0
  · subst k0
    have hg : goodD 0 neg v e ↔ (-1000000 ≤ e ∧ e ≤ 1000000) := by unfold goodD; omega
    by_cases h1 : -1000000 ≤ e
    · by_cases h2 : e ≤ 1000000
      · rw [decT (hg.2 ⟨h1, h2⟩)]
        refine RetN_start Tryz.func34 (by kernel_rfl) rfl fun Q hQ hQ2 => ?_; rw [Tryz.ntmps34]; simp only [u, i64, Nat.reduceSub, Nat.reduceAdd, bm]
        (refine gO ?_)
        (refine FinQ hQ (congrArg Array.toList Tryz.results34) _ _ ?_); simp (disch := omega) only [u, i64, ax, if_true, forall_const, reduceCtorEq, implies_true, tvs, bf]
      · rw [decF (show ¬ goodD 0 neg v e from fun h => h2 (hg.1 h).2)]
        refine RetN_start Tryz.func34 (by kernel_rfl) rfl fun Q hQ hQ2 => ?_; rw [Tryz.ntmps34]; simp only [u, i64, Nat.reduceSub, Nat.reduceAdd, bm]
        (refine gO ?_)
        (refine FinQ hQ (congrArg Array.toList Tryz.results34) _ _ ?_); simp (disch := omega) only [u, i64, ax, if_true, forall_const, reduceCtorEq, implies_true, tvs, bf]
    · rw [decF (show ¬ goodD 0 neg v e from fun h => h1 (hg.1 h).1)]
      refine RetN_start Tryz.func34 (by kernel_rfl) rfl fun Q hQ hQ2 => ?_; rw [Tryz.ntmps34]; simp only [u, i64, Nat.reduceSub, Nat.reduceAdd, bm]
      (refine gO ?_)
      (refine FinQ hQ (congrArg Array.toList Tryz.results34) _ _ ?_); simp (disch := omega) only [u, i64, ax, if_true, forall_const, reduceCtorEq, implies_true, tvs, bf]
  · by_cases k1 : k = 1
    · subst k1
      have hg : goodD 1 neg v e ↔ (e = 0 ∧ v = 0) := by unfold goodD; omega
      by_cases h1 : e = 0
      · rw [show decide (goodD 1 neg v e) = decide (v = 0) by rw [decide_eq_decide, hg]; exact ⟨fun h => h.2, fun h => ⟨h1, h⟩⟩]
        refine RetN_start Tryz.func34 (by kernel_rfl) rfl fun Q hQ hQ2 => ?_; rw [Tryz.ntmps34]; simp only [u, i64, Nat.reduceSub, Nat.reduceAdd, bm]
        repeat (first | (refine gC ?_; first | refine aA ?_ | (refine cR hZ ?_; refine sX ?_; try refine aA ?_)) | (refine cR hZ ?_; refine sX ?_; try refine aA ?_) | refine gS ?_)
        (refine FinQ hQ (congrArg Array.toList Tryz.results34) _ _ ?_); simp (disch := omega) only [u, i64, ax, if_true, forall_const, reduceCtorEq, implies_true, tvs, bf]
      · rw [decF (show ¬ goodD 1 neg v e from fun h => h1 (hg.1 h).1)]
        refine RetN_start Tryz.func34 (by kernel_rfl) rfl fun Q hQ hQ2 => ?_; rw [Tryz.ntmps34]; simp only [u, i64, Nat.reduceSub, Nat.reduceAdd, bm]
        (refine gO ?_)
        (refine FinQ hQ (congrArg Array.toList Tryz.results34) _ _ ?_); simp (disch := omega) only [u, i64, ax, if_true, forall_const, reduceCtorEq, implies_true, tvs, bf]
    · by_cases k2 : k = 2
      · subst k2
        have hg : goodD 2 neg v e ↔ (neg = false ∧ e = 0 ∧ v = 0) := by unfold goodD; simp
        cases neg with
        | true =>
          rw [decF (show ¬ goodD 2 true v e from fun h => by cases (hg.1 h).1)]
          refine RetN_start Tryz.func34 (by kernel_rfl) rfl fun Q hQ hQ2 => ?_; rw [Tryz.ntmps34]; simp only [u, i64, Nat.reduceSub, Nat.reduceAdd, bm]
          (refine gO ?_)
          (refine FinQ hQ (congrArg Array.toList Tryz.results34) _ _ ?_); simp (disch := omega) only [u, i64, ax, if_true, forall_const, reduceCtorEq, implies_true, tvs, bf]
        | false =>
          by_cases h1 : e = 0
          · rw [show decide (goodD 2 false v e) = decide (v = 0) by rw [decide_eq_decide, hg]; exact ⟨fun h => h.2.2, fun h => ⟨rfl, h1, h⟩⟩]
            refine RetN_start Tryz.func34 (by kernel_rfl) rfl fun Q hQ hQ2 => ?_; rw [Tryz.ntmps34]; simp only [u, i64, Nat.reduceSub, Nat.reduceAdd, bm]
            repeat (first | (refine gC ?_; first | refine aA ?_ | (refine cR hZ ?_; refine sX ?_; try refine aA ?_)) | (refine cR hZ ?_; refine sX ?_; try refine aA ?_) | refine gS ?_)
            (refine FinQ hQ (congrArg Array.toList Tryz.results34) _ _ ?_); simp (disch := omega) only [u, i64, ax, if_true, forall_const, reduceCtorEq, implies_true, tvs, bf]
          · rw [decF (show ¬ goodD 2 false v e from fun h => h1 (hg.1 h).2.1)]
            refine RetN_start Tryz.func34 (by kernel_rfl) rfl fun Q hQ hQ2 => ?_; rw [Tryz.ntmps34]; simp only [u, i64, Nat.reduceSub, Nat.reduceAdd, bm]
            (refine gO ?_)
            (refine FinQ hQ (congrArg Array.toList Tryz.results34) _ _ ?_); simp (disch := omega) only [u, i64, ax, if_true, forall_const, reduceCtorEq, implies_true, tvs, bf]
      · rw [decF (show ¬ goodD k neg v e by unfold goodD; omega)]
        refine RetN_start Tryz.func34 (by kernel_rfl) rfl fun Q hQ hQ2 => ?_; rw [Tryz.ntmps34]; simp only [u, i64, Nat.reduceSub, Nat.reduceAdd, bm]
        (refine gO ?_)
        (refine FinQ hQ (congrArg Array.toList Tryz.results34) _ _ ?_); simp (disch := omega) only [u, i64, ax, if_true, forall_const, reduceCtorEq, implies_true, tvs, bf]
end Go.Proofs
set_option linter.unusedVariables false
set_option linter.unusedSimpArgs false
set_option maxRecDepth 100000
namespace Go.Proofs
open Go.Ax
theorem ret_NoneD (k e : Int) (neg : Bool) (cs : List Nat) (hl : cs.length ≤ 100000) : Ret Tryz.prog GEs 62 [.agg [i64 k, .bool neg, ws cs, i64 e]] (.bool (decide (k = 0 ∧ neg = false ∧ e = 0 ∧ cs.length = 0))) := by
  by_cases h1 : k = 0
  · cases neg with
    | true =>
      rw [decF (fun h => by cases h.2.1)]
      refine RetN_start Tryz.func62 (by kernel_rfl) rfl fun Q hQ hQ2 => ?_; rw [Tryz.ntmps62]; simp only [u, i64, Nat.reduceSub, Nat.reduceAdd, bm]
      (refine gO ?_)
      (refine FinQ hQ (congrArg Array.toList Tryz.results62) _ _ ?_); simp (disch := omega) only [u, i64, ax, if_true, forall_const, reduceCtorEq, implies_true, tvs, bf]
    | false =>
      by_cases h2 : e = 0
      · by_cases h3 : cs.length = 0
        · rw [decT ⟨h1, rfl, h2, h3⟩]
          refine RetN_start Tryz.func62 (by kernel_rfl) rfl fun Q hQ hQ2 => ?_; rw [Tryz.ntmps62]; simp only [u, i64, Nat.reduceSub, Nat.reduceAdd, bm]
          (refine gO ?_)
          (refine FinQ hQ (congrArg Array.toList Tryz.results62) _ _ ?_); simp (disch := omega) only [u, i64, ax, if_true, forall_const, reduceCtorEq, implies_true, tvs, bf]
        · rw [decF (fun h => h3 h.2.2.2)]
          refine RetN_start Tryz.func62 (by kernel_rfl) rfl fun Q hQ hQ2 => ?_; rw [Tryz.ntmps62]; simp only [u, i64, Nat.reduceSub, Nat.reduceAdd, bm]
          (refine gO ?_)
          (refine FinQ hQ (congrArg Array.toList Tryz.results62) _ _ ?_); simp (disch := omega) only [u, i64, ax, if_true, forall_const, reduceCtorEq, implies_true, tvs, bf]
      · rw [decF (fun h => h2 h.2.2.1)]
        refine RetN_start Tryz.func62 (by kernel_rfl) rfl fun Q hQ hQ2 => ?_; rw [Tryz.ntmps62]; simp only [u, i64, Nat.reduceSub, Nat.reduceAdd, bm]
        (refine gO ?_)
        (refine FinQ hQ (congrArg Array.toList Tryz.results62) _ _ ?_); simp (disch := omega) only [u, i64, ax, if_true, forall_const, reduceCtorEq, implies_true, tvs, bf]
  · rw [decF (fun h => h1 h.1)]
    refine RetN_start Tryz.func62 (by kernel_rfl) rfl fun Q hQ hQ2 => ?_; rw [Tryz.ntmps62]; simp only [u, i64, Nat.reduceSub, Nat.reduceAdd, bm]
    (refine gO ?_)
    (refine FinQ hQ (congrArg Array.toList Tryz.results62) _ _ ?_); simp (disch := omega) only [u, i64, ax, if_true, forall_const, reduceCtorEq, implies_true, tvs, bf]
end Go.Proofs
set_option linter.unusedVariables false
set_option linter.unusedSimpArgs false
namespace Go.Proofs
open Go.Ax
end Go.Proofs
