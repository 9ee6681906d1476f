/-
  Contracts of functions of the program, each proved by a walk.
-/
import Derived.Test.YtenfiehjbeojeaaGreatDoorX20
import Derived.Test.YtenfiehjbeojeaaGreatDoorX18
import Derived.Test.YtenfiehjbeojeaaGreatDoorX9
import Derived.Test.YtenfiehjbeojeaaGreatDoorX10
import Derived.Test.YtenfiehjbeojeaaGreatDoorX7
set_option maxRecDepth 100000
set_option linter.unusedVariables false
set_option linter.unusedSimpArgs false
namespace Go.Proofs
open Go.Ax
end Go.Proofs
set_option linter.unusedVariables false
set_option linter.unusedSimpArgs false
namespace Go.Proofs
open Go.Ax
end Go.Proofs
set_option linter.unusedVariables false
set_option linter.unusedSimpArgs false
namespace Go.Proofs
open Go.Ax
/-- The error of a format, a rounding and a number. -/
def errR (r k p : Int) (nl dl v : Nat) : Nat := if errQ r nl dl v ≠ 0 then errQ r nl dl v else if okFm k p then 0 else 150
abbrev flz : AV := .agg [i64 0, .bool false, i64 0, ws []]
set_option maxRecDepth 100000 in
set_option maxHeartbeats 2000000 in
theorem ret_Round_bad (r k p : Int) (h1 : -9223372036854775808 ≤ r) (h2 : r < 9223372036854775808) (neg : Bool) (ns dn : List Nat) (hn : Wd ns) (hd : Wd dn) (hln : ns.length ≤ 137438953472) (hld : dn.length ≤ 137438953472)
    (he : errR r k p ns.length dn.length (val dn) ≠ 0) : Ret Tryz.prog GEs 8 [.agg [i64 k, i64 p], i64 r, .agg [.bool neg, ws ns, ws dn]] (.tup [flz, i64 0, i64 (errR r k p ns.length dn.length (val dn) : Nat)]) := by
  have hC := ret_check r h1 h2 neg ns dn hn hd hln hld
  unfold errR at he ⊢
  by_cases h0 : errQ r ns.length dn.length (val dn) = 0
  · rw [if_neg (not_not_intro h0)] at he ⊢
    rw [h0] at hC
    have hF : ¬ okFm k p := fun h => he (if_pos h)
    have hK := ret_fCheck k p
    rw [if_neg hF] at hK ⊢
    refine RetN_start Tryz.func8 (by kernel_rfl) rfl fun Q hQ hQ2 => ?_; rw [Tryz.ntmps8]; simp only [u, i64, Nat.reduceSub, Nat.reduceAdd, bm]
    repeat (first | (refine gC ?_; first | refine aA ?_ | ((first | refine cR hC ?_ | refine cR hK ?_); refine sX ?_; try refine aA ?_)) | ((first | refine cR hC ?_ | refine cR hK ?_); refine sX ?_; try refine aA ?_) | refine gS ?_)
    (refine FinQ hQ (congrArg Array.toList Tryz.results8) _ _ ?_); simp (disch := omega) only [u, i64, ax, if_true, forall_const, reduceCtorEq, implies_true, tvs, bf]
    all_goals rfl
  · rw [if_pos h0]
    generalize errQ r ns.length dn.length (val dn) = e at *
    refine RetN_start Tryz.func8 (by kernel_rfl) rfl fun Q hQ hQ2 => ?_; rw [Tryz.ntmps8]; simp only [u, i64, Nat.reduceSub, Nat.reduceAdd, bm]
    repeat (first | (refine gC ?_; first | refine aA ?_ | (refine cR hC ?_; refine sX ?_; try refine aA ?_)) | (refine cR hC ?_; refine sX ?_; try refine aA ?_) | refine gS ?_)
    (refine FinQ hQ (congrArg Array.toList Tryz.results8) _ _ ?_); simp (disch := omega) only [u, i64, ax, if_true, forall_const, reduceCtorEq, implies_true, tvs, bf]
    all_goals rfl
end Go.Proofs
set_option linter.unusedVariables false
set_option linter.unusedSimpArgs false
namespace Go.Proofs
open Go.Ax
end Go.Proofs
set_option linter.unusedVariables false
set_option linter.unusedSimpArgs false
namespace Go.Proofs
open Go.Ax
end Go.Proofs
set_option linter.unusedVariables false
set_option linter.unusedSimpArgs false
namespace Go.Proofs
open Go.Ax
theorem ret_None0 : Ret Tryz.prog GEs 14 [flz] (.bool true) := by
  refine RetN_start Tryz.func14 (by kernel_rfl) rfl fun Q hQ hQ2 => ?_; rw [Tryz.ntmps14]; simp only [u, i64, Nat.reduceSub, Nat.reduceAdd, bm]
  (refine gO ?_)
  (refine FinQ hQ (congrArg Array.toList Tryz.results14) _ _ ?_); simp (disch := omega) only [u, i64, ax, if_true, forall_const, reduceCtorEq, implies_true, tvs, bf]
end Go.Proofs
set_option linter.unusedVariables false
set_option linter.unusedSimpArgs false
namespace Go.Proofs
open Go.Ax
theorem Ret_emp {P : Program} {GE : Nat → Option (List AV)} {f : FuncId} {r : AV} (h : Ret P GE f [ws []] r) : Ret P GE f [.emp] r :=
  ⟨h.1, fun w ok vargs hG hv => h.2 w ok vargs hG (by obtain ⟨v, vs, rfl, h1, h2⟩ := hv; exact ⟨v, vs, rfl, VRep.nrm .emp v h1, h2⟩)⟩
end Go.Proofs
set_option linter.unusedVariables false
set_option linter.unusedSimpArgs false
namespace Go.Proofs
open Go.Ax
end Go.Proofs
set_option linter.unusedVariables false
set_option linter.unusedSimpArgs false
namespace Go.Proofs
open Go.Ax
end Go.Proofs
set_option linter.unusedVariables false
set_option linter.unusedSimpArgs false
namespace Go.Proofs
open Go.Ax
set_option maxRecDepth 100000 in
theorem ret_Brief1 (neg : Bool) (ns ds : List Nat) (hln : ns.length ≤ 9223372036854775807) (hld : ds.length ≤ 9223372036854775807) : Ret Tryz.prog GEs 5 [.lst 1 [.bool neg, ws ns, ws ds]] (.bool (decide (ns.length ≤ 40 ∧ ds.length ≤ 40))) := by
  refine RetN_start Tryz.func5 (by kernel_rfl) rfl fun Q hQ hQ2 => ?_; rw [Tryz.ntmps5]; simp only [u, i64, Nat.reduceSub, Nat.reduceAdd, bm]
  (refine gO ?_)
  refine AWp_loop (fun i : Bool => bif i then mk 27 [(0, .lst 1 [.bool neg, ws ns, ws ds]), (3, i64 1)] [] else mk 27 [(0, .lst 1 [.bool neg, ws ns, ws ds]), (3, i64 0)] []) (fun i => i = true → ns.length ≤ 40 ∧ ds.length ≤ 40) (fun i => bif i then 0 else 1) false ?_ (fun h => by cases h) ?_
  · simp only [cond_false]
    simp only [u, i64, Nat.reduceSub, Nat.reduceAdd, bm]
  intro i hi
  cases i with
  | false =>
    simp only [cond_false]
    simp only [u, i64, Nat.reduceSub, Nat.reduceAdd, bm]
    by_cases ha : 40 < ns.length
    · (refine gO ?_)
      (refine FinQ hQ (congrArg Array.toList Tryz.results5) _ _ ?_); simp (disch := omega) only [u, i64, ax, if_true, forall_const, reduceCtorEq, implies_true, tvs, bf, decF (show ¬ (ns.length ≤ 40 ∧ ds.length ≤ 40) by omega)]
    by_cases hb : 40 < ds.length
    · (refine gO ?_)
      (refine FinQ hQ (congrArg Array.toList Tryz.results5) _ _ ?_); simp (disch := omega) only [u, i64, ax, if_true, forall_const, reduceCtorEq, implies_true, tvs, bf, decF (show ¬ (ns.length ≤ 40 ∧ ds.length ≤ 40) by omega)]
    (refine gO ?_)
    refine ⟨true, ?_, fun _ => by omega, by decide⟩
    simp only [cond_true]
    simp only [u, i64, Nat.reduceSub, Nat.reduceAdd, bm]
  | true =>
    simp only [cond_true]
    simp only [u, i64, Nat.reduceSub, Nat.reduceAdd, bm]
    (refine gO ?_)
    (refine FinQ hQ (congrArg Array.toList Tryz.results5) _ _ ?_); simp (disch := omega) only [u, i64, ax, if_true, forall_const, reduceCtorEq, implies_true, tvs, bf, decT (hi rfl)]
theorem ret_awake16 : Ret Tryz.prog GEs 6 [] (.bool true) := ran (n := 60) (by kernel_rfl)
set_option maxRecDepth 100000 in
theorem ret_NoInt0 : Ret Tryz.prog GEs 16 [.agg [.bool false, ws []]] (.bool true) := by
  refine RetN_start Tryz.func16 (by kernel_rfl) rfl fun Q hQ hQ2 => ?_; rw [Tryz.ntmps16]; simp only [u, i64, Nat.reduceSub, Nat.reduceAdd, bm]
  (refine gO ?_)
  (refine FinQ hQ (congrArg Array.toList Tryz.results16) _ _ ?_); simp (disch := omega) only [u, i64, ax, if_true, forall_const, reduceCtorEq, implies_true, tvs, bf]
end Go.Proofs
set_option linter.unusedVariables false
set_option linter.unusedSimpArgs false
namespace Go.Proofs
open Go.Ax
theorem ret_Exact_bad (k p : Int) (neg : Bool) (ns dn : List Nat) (hn : Wd ns) (hd : Wd dn) (hln : ns.length ≤ 137438953472) (hld : dn.length ≤ 137438953472)
    (he : errR 2 k p ns.length dn.length (val dn) ≠ 0) : Ret Tryz.prog GEs 10 [.agg [i64 k, i64 p], .agg [.bool neg, ws ns, ws dn]] (.tup [flz, i64 (errR 2 k p ns.length dn.length (val dn) : Nat)]) := by
  have hR := ret_Round_bad 2 k p (by decide) (by decide) neg ns dn hn hd hln hld he
  generalize errR 2 k p ns.length dn.length (val dn) = e at *
  refine RetN_start Tryz.func10 (by kernel_rfl) rfl fun Q hQ hQ2 => ?_; rw [Tryz.ntmps10]; simp only [u, i64, Nat.reduceSub, Nat.reduceAdd, bm]
  repeat (first | (refine gC ?_; first | refine aA ?_ | (refine cR hR ?_; refine sX ?_; try refine aA ?_)) | (refine cR hR ?_; refine sX ?_; try refine aA ?_) | refine gS ?_)
  (refine FinQ hQ (congrArg Array.toList Tryz.results10) _ _ ?_); simp (disch := omega) only [u, i64, ax, if_true, forall_const, reduceCtorEq, implies_true, tvs, bf]
  all_goals rfl
end Go.Proofs
set_option linter.unusedVariables false
set_option linter.unusedSimpArgs false
namespace Go.Proofs
open Go.Ax
end Go.Proofs
set_option linter.unusedVariables false
set_option linter.unusedSimpArgs false
namespace Go.Proofs
open Go.Ax
end Go.Proofs
set_option linter.unusedVariables false
set_option linter.unusedSimpArgs false
namespace Go.Proofs
open Go.Ax
end Go.Proofs
set_option linter.unusedVariables false
set_option linter.unusedSimpArgs false
namespace Go.Proofs
open Go.Ax
end Go.Proofs
set_option linter.unusedVariables false
set_option linter.unusedSimpArgs false
namespace Go.Proofs
open Go.Ax
end Go.Proofs
set_option linter.unusedVariables false
set_option linter.unusedSimpArgs false
namespace Go.Proofs
open Go.Ax
end Go.Proofs
set_option linter.unusedVariables false
set_option linter.unusedSimpArgs false
namespace Go.Proofs
open Go.Ax
end Go.Proofs
set_option linter.unusedVariables false
set_option linter.unusedSimpArgs false
namespace Go.Proofs
open Go.Ax
end Go.Proofs
set_option linter.unusedVariables false
set_option linter.unusedSimpArgs false
namespace Go.Proofs
open Go.Ax
theorem ret_Between_bad (k p : Int) (neg : Bool) (ns dn : List Nat) (hn : Wd ns) (hd : Wd dn) (hln : ns.length ≤ 137438953472) (hld : dn.length ≤ 137438953472)
    (he : errR 4 k p ns.length dn.length (val dn) ≠ 0) : Ret Tryz.prog GEs 9 [.agg [i64 k, i64 p], .agg [.bool neg, ws ns, ws dn]] (.tup [flz, flz, i64 (errR 4 k p ns.length dn.length (val dn) : Nat)]) := by
  have hR := ret_Round_bad 4 k p (by decide) (by decide) neg ns dn hn hd hln hld he
  generalize errR 4 k p ns.length dn.length (val dn) = e at *
  refine RetN_start Tryz.func9 (by kernel_rfl) rfl fun Q hQ hQ2 => ?_; rw [Tryz.ntmps9]; simp only [u, i64, Nat.reduceSub, Nat.reduceAdd, bm]
  repeat (first | (refine gC ?_; first | refine aA ?_ | (refine cR hR ?_; refine sX ?_; try refine aA ?_)) | (refine cR hR ?_; refine sX ?_; try refine aA ?_) | refine gS ?_)
  (refine FinQ hQ (congrArg Array.toList Tryz.results9) _ _ ?_); simp (disch := omega) only [u, i64, ax, if_true, forall_const, reduceCtorEq, implies_true, tvs, bf]
  all_goals rfl
end Go.Proofs
set_option linter.unusedVariables false
set_option linter.unusedSimpArgs false
namespace Go.Proofs
open Go.Ax
abbrev rtz : AV := .agg [.bool false, ws [], ws []]
theorem ret_rStep_bad (k p : Int) (neg : Bool) (ns dn : List Nat) (hn : Wd ns) (hd : Wd dn) (hln : ns.length ≤ 137438953472) (hld : dn.length ≤ 137438953472)
    (he : errR 0 k p ns.length dn.length (val dn) ≠ 0) : Ret Tryz.prog GEs 11 [.agg [i64 k, i64 p], .agg [.bool neg, ws ns, ws dn]] (.tup [rtz, i64 (errR 0 k p ns.length dn.length (val dn) : Nat)]) := by
  have hC := ret_check 0 (by decide) (by decide) neg ns dn hn hd hln hld
  unfold errR at he ⊢
  by_cases h0 : errQ 0 ns.length dn.length (val dn) = 0
  · rw [if_neg (not_not_intro h0)] at he ⊢
    rw [h0] at hC
    have hF : ¬ okFm k p := fun h => he (if_pos h)
    have hK := ret_fCheck k p
    rw [if_neg hF] at hK ⊢
    refine RetN_start Tryz.func11 (by kernel_rfl) rfl fun Q hQ hQ2 => ?_; rw [Tryz.ntmps11]; simp only [u, i64, Nat.reduceSub, Nat.reduceAdd, bm]
    repeat (first | (refine gC ?_; first | refine aA ?_ | ((first | refine cR hC ?_ | refine cR hK ?_); refine sX ?_; try refine aA ?_)) | ((first | refine cR hC ?_ | refine cR hK ?_); refine sX ?_; try refine aA ?_) | refine gS ?_)
    (refine FinQ hQ (congrArg Array.toList Tryz.results11) _ _ ?_); simp (disch := omega) only [u, i64, ax, if_true, forall_const, reduceCtorEq, implies_true, tvs, bf]
    all_goals rfl
  · rw [if_pos h0]
    generalize errQ 0 ns.length dn.length (val dn) = e at *
    refine RetN_start Tryz.func11 (by kernel_rfl) rfl fun Q hQ hQ2 => ?_; rw [Tryz.ntmps11]; simp only [u, i64, Nat.reduceSub, Nat.reduceAdd, bm]
    repeat (first | (refine gC ?_; first | refine aA ?_ | (refine cR hC ?_; refine sX ?_; try refine aA ?_)) | (refine cR hC ?_; refine sX ?_; try refine aA ?_) | refine gS ?_)
    (refine FinQ hQ (congrArg Array.toList Tryz.results11) _ _ ?_); simp (disch := omega) only [u, i64, ax, if_true, forall_const, reduceCtorEq, implies_true, tvs, bf]
    all_goals rfl
end Go.Proofs
set_option linter.unusedVariables false
set_option linter.unusedSimpArgs false
namespace Go.Proofs
open Go.Ax
theorem ret_NoRat0 : Ret Tryz.prog GEs 15 [rtz] (.bool true) := by
  refine RetN_start Tryz.func15 (by kernel_rfl) rfl fun Q hQ hQ2 => ?_; rw [Tryz.ntmps15]; simp only [u, i64, Nat.reduceSub, Nat.reduceAdd, bm]
  repeat (first | (refine gC ?_; first | refine aA ?_ | (refine cR ret_NoInt0 ?_; refine sX ?_; try refine aA ?_)) | (refine cR ret_NoInt0 ?_; refine sX ?_; try refine aA ?_) | refine gS ?_)
  (refine FinQ hQ (congrArg Array.toList Tryz.results15) _ _ ?_); simp (disch := omega) only [u, i64, ax, if_true, forall_const, reduceCtorEq, implies_true, tvs, bf]
end Go.Proofs
