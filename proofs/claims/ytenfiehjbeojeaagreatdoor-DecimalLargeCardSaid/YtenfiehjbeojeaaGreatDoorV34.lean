/-
  Contracts of functions of the program, each proved by a walk.
-/
import Derived.Test.YtenfiehjbeojeaaGreatDoorV29
import Derived.Test.YtenfiehjbeojeaaGreatDoorV31
import Derived.Test.YtenfiehjbeojeaaGreatDoorV30
import Derived.Test.YtenfiehjbeojeaaGreatDoorV26
set_option maxRecDepth 100000
set_option linter.unusedVariables false
set_option linter.unusedSimpArgs false
set_option maxRecDepth 100000
namespace Go.Proofs
open Go.Ax
theorem ret_FitsErr (w : Nat) (hw : w ≠ 0) (hw2 : w < 1000) : Ret Tryz.prog GEs 28 [dv zD, i64 0, i64 w, dv zD, i64 0, i64 w] (.bool true) := by
  have hN := ret_NoneD 0 0 false [] (by decide)
  rw [decT (show (0 : Int) = 0 ∧ false = false ∧ (0 : Int) = 0 ∧ ([] : List Nat).length = 0 from ⟨rfl, rfl, rfl, rfl⟩)] at hN
  rw [dvz]
  refine RetN_start Tryz.func28 (by kernel_rfl) rfl fun Q hQ hQ2 => ?_; rw [Tryz.ntmps28]; simp only [u, i64, Nat.reduceSub, Nat.reduceAdd, bm]
  repeat (first | (refine gC ?_; first | refine aA ?_ | (refine cR hN ?_; refine sX ?_; try refine aA ?_)) | (refine cR hN ?_; refine sX ?_; try refine aA ?_) | refine gS ?_)
  (refine FinQ hQ (congrArg Array.toList Tryz.results28) _ _ ?_); simp (disch := omega) only [u, i64, ax, if_true, forall_const, reduceCtorEq, implies_true, tvs, bf]
theorem ret_Short2 (d c : DI) (h1 : d.cs.length ≤ 9223372036854775807) (h2 : c.cs.length ≤ 9223372036854775807) : Ret Tryz.prog GEs 17 [.lst 2 [i64 d.k, .bool d.neg, ws d.cs, i64 d.e, i64 c.k, .bool c.neg, ws c.cs, i64 c.e]] (.bool (decide (d.cs.length ≤ 40 ∧ c.cs.length ≤ 40))) := by
  by_cases q1 : d.cs.length ≤ 40
  · skip
    by_cases q2 : c.cs.length ≤ 40
    · skip
      rw [decT (show d.cs.length ≤ 40 ∧ c.cs.length ≤ 40 from ⟨q1, q2⟩)]
      refine RetN_start Tryz.func17 (by kernel_rfl) rfl fun Q hQ hQ2 => ?_; rw [Tryz.ntmps17]; simp only [u, i64, Nat.reduceSub, Nat.reduceAdd, bm]
      (refine gO ?_)
      refine G_loop ?_
      refine G_round ?_
      (refine gO ?_)
      refine G_round ?_
      (refine gO ?_)
      refine G_round ?_
      (refine gO ?_)
      (refine FinQ hQ (congrArg Array.toList Tryz.results17) _ _ ?_); simp (disch := omega) only [u, i64, ax, if_true, forall_const, reduceCtorEq, implies_true, tvs, bf]
    · skip
      rw [decF (show ¬ (d.cs.length ≤ 40 ∧ c.cs.length ≤ 40) from fun h => q2 h.2)]
      refine RetN_start Tryz.func17 (by kernel_rfl) rfl fun Q hQ hQ2 => ?_; rw [Tryz.ntmps17]; simp only [u, i64, Nat.reduceSub, Nat.reduceAdd, bm]
      (refine gO ?_)
      refine G_loop ?_
      refine G_round ?_
      (refine gO ?_)
      refine G_round ?_
      (refine gO ?_)
      (refine FinQ hQ (congrArg Array.toList Tryz.results17) _ _ ?_); simp (disch := omega) only [u, i64, ax, if_true, forall_const, reduceCtorEq, implies_true, tvs, bf]
  · skip
    rw [decF (show ¬ (d.cs.length ≤ 40 ∧ c.cs.length ≤ 40) from fun h => q1 h.1)]
    refine RetN_start Tryz.func17 (by kernel_rfl) rfl fun Q hQ hQ2 => ?_; rw [Tryz.ntmps17]; simp only [u, i64, Nat.reduceSub, Nat.reduceAdd, bm]
    (refine gO ?_)
    refine G_loop ?_
    refine G_round ?_
    (refine gO ?_)
    (refine FinQ hQ (congrArg Array.toList Tryz.results17) _ _ ?_); simp (disch := omega) only [u, i64, ax, if_true, forall_const, reduceCtorEq, implies_true, tvs, bf]
end Go.Proofs
set_option linter.unusedVariables false
set_option linter.unusedSimpArgs false
set_option maxRecDepth 100000
namespace Go.Proofs
open Go.Ax
theorem dg_small {n k : Nat} (h1 : 10 ^ k ≤ n) (h2 : n < 10 ^ (k + 1)) : dg n = k + 1 := dg_eq h1 h2
theorem okDI (n : Nat) (h : n < 1000000) (k : Nat) (hk : k < 3) (e : Int) (he : -100 ≤ e ∧ e ≤ 100) : DI.ok ⟨k, false, [n], e⟩ :=
  ⟨by show -9223372036854775808 ≤ (k : Int); omega, by show (k : Int) < 9223372036854775808; omega, by show -9223372036854775808 ≤ e; omega, by show e < 9223372036854775808; omega, Wd_cons (by omega) Wd_nil, by show 1 ≤ 40; decide⟩
theorem val1 (n : Nat) : val [n] = n := by simp [val]
theorem okIn1 (n : Nat) (e : Int) (k : Nat) (h1 : 10 ^ k ≤ n) (h2 : n < 10 ^ (k + 1)) (hk : k + 1 ≤ 5) (he : -13 ≤ e) (he2 : e + k ≤ 10) : DI.okIn 5 10 ⟨0, false, [n], e⟩ := by
  have hd := dg_small h1 h2
  have hn : n ≠ 0 := by have := ten_pos k; omega
  refine ⟨.inl ⟨rfl, by show -1000000 ≤ e; omega, by show e ≤ 1000000; omega⟩, .inr (.inr ?_)⟩
  show val [n] ≠ 0 ∧ dg (val [n]) ≤ 5 ∧ 1 - 10 - ((5 : Nat) - 1 : Int) ≤ e ∧ e + dg (val [n]) - 1 ≤ 10
  rw [val1, hd]
  exact ⟨hn, hk, by omega, by omega⟩
theorem add_ex1 : addD 5 10 0 ⟨0, false, 120, -2⟩ ⟨0, false, 3, -1⟩ = (⟨0, false, 150, -2⟩, 0) := by
  have h := finD0_self 5 10 0 ⟨0, false, 150, -2⟩ rfl (.inr (.inr ⟨by decide, by rw [show dg 150 = 3 from dg_small (k := 2) (by decide) (by decide)]; decide, by decide, by rw [show dg 150 = 3 from dg_small (k := 2) (by decide) (by decide)]; decide⟩))
  exact h
theorem add_ex2 : addD 5 10 0 ⟨0, false, 99999, 0⟩ ⟨0, false, 2, 0⟩ = (⟨0, false, 10000, 1⟩, 1) := by
  have hd : dg 100001 = 6 := dg_small (k := 5) (by decide) (by decide)
  have hst : st 100001 = 0 := by have := st_of 100001 0 (by decide); simpa using this
  show finD0 5 10 0 false 100001 0 0 = _
  unfold finD0
  rw [if_neg (by decide), finD_ine 5 10 0 false 100001 0 0 (by rw [hd]; decide) (by rw [hd, hst]; decide), hd]
  have hs : stpD 5 10 (0 + ((6 : Nat) : Int) - 1) = 1 := by decide
  rw [hs]
  have hq : quoN 0 false 100001 (10 ^ ((1 : Int) - 0).toNat) = 10000 := by decide
  rw [hq]
  have hd5 : dg 10000 = 5 := dg_small (k := 4) (by decide) (by decide)
  unfold ineD
  rw [if_neg (by decide), hd5]
  rfl
theorem quant_ex : quantD 5 10 0 ⟨0, false, 2675, -3⟩ (-2) = (⟨0, false, 268, -2⟩, 1) := by
  have hd : dg 268 = 3 := dg_small (k := 2) (by decide) (by decide)
  have hN : quantN 0 ⟨0, false, 2675, -3⟩ (-2) = 268 := by decide
  have hX : quantX ⟨0, false, 2675, -3⟩ (-2) = false := by decide
  unfold quantD
  rw [if_neg (by decide), if_neg (by decide), hN, hX]
  rw [if_pos (show inD 5 10 ⟨0, false, 268, -2⟩ from .inr (.inr ⟨by decide, by rw [hd]; decide, by decide, by rw [hd]; decide⟩))]
  rfl
theorem w1 (n : Nat) (h : words n = [n]) : nat n = .lst 1 [.int .u64 n] := by
  unfold nat
  rw [h]
  rfl
set_option maxHeartbeats 2000000 in
theorem ret_awake22 : Ret Tryz.prog GEs 18 [] (.bool true) := by
  have h1 := ret_DAdd 5 10 0 (by decide) (by decide) (by decide) ⟨0, false, [120], -2⟩ ⟨0, false, [3], -1⟩ (okDI 120 (by decide) 0 (by decide) (-2) (by decide)) (okDI 3 (by decide) 0 (by decide) (-1) (by decide))
  rw [if_pos ⟨okIn1 120 (-2) 2 (by decide) (by decide) (by decide) (by decide) (by decide), okIn1 3 (-1) 0 (by decide) (by decide) (by decide) (by decide) (by decide)⟩] at h1
  rw [show DI.D ⟨0, false, [120], -2⟩ = ⟨0, false, 120, -2⟩ by unfold DI.D mkD; rw [val1]; rfl, show DI.D ⟨0, false, [3], -1⟩ = ⟨0, false, 3, -1⟩ by unfold DI.D mkD; rw [val1]; rfl, add_ex1] at h1
  have h2 := ret_DAdd 5 10 0 (by decide) (by decide) (by decide) ⟨0, false, [99999], 0⟩ ⟨0, false, [2], 0⟩ (okDI 99999 (by decide) 0 (by decide) 0 (by decide)) (okDI 2 (by decide) 0 (by decide) 0 (by decide))
  rw [if_pos ⟨okIn1 99999 0 4 (by decide) (by decide) (by decide) (by decide) (by decide), okIn1 2 0 0 (by decide) (by decide) (by decide) (by decide) (by decide)⟩] at h2
  rw [show DI.D ⟨0, false, [99999], 0⟩ = ⟨0, false, 99999, 0⟩ by unfold DI.D mkD; rw [val1]; rfl, show DI.D ⟨0, false, [2], 0⟩ = ⟨0, false, 2, 0⟩ by unfold DI.D mkD; rw [val1]; rfl, add_ex2] at h2
  have h3 := ret_DQuantize 5 10 0 (by decide) (by decide) (by decide) ⟨0, false, [2675], -3⟩ (okDI 2675 (by decide) 0 (by decide) (-3) (by decide)) (-2) (by decide)
  rw [if_pos (okIn1 2675 (-3) 3 (by decide) (by decide) (by decide) (by decide) (by decide))] at h3
  rw [show DI.D ⟨0, false, [2675], -3⟩ = ⟨0, false, 2675, -3⟩ by unfold DI.D mkD; rw [val1]; rfl, quant_ex] at h3
  unfold dv DI.av cx at h1 h2 h3
  simp only at h1 h2 h3
  rw [w1 150 (by decide +kernel)] at h1
  rw [w1 10000 (by decide +kernel)] at h2
  rw [w1 268 (by decide +kernel)] at h3
  refine RetN_start Tryz.func18 (by kernel_rfl) rfl fun Q hQ hQ2 => ?_; rw [Tryz.ntmps18]; simp only [u, i64, Nat.reduceSub, Nat.reduceAdd, bm]
  repeat (first | (refine gC ?_; first | refine aA ?_ | ((first | refine cR h1 ?_ | refine cR h2 ?_ | refine cR h3 ?_); refine sX ?_; try refine aA ?_)) | ((first | refine cR h1 ?_ | refine cR h2 ?_ | refine cR h3 ?_); refine sX ?_; try refine aA ?_) | refine gS ?_)
  simp only [List.append_eq, List.cons_append, List.nil_append]
  (refine gO ?_)
  (refine FinQ hQ (congrArg Array.toList Tryz.results18) _ _ ?_); simp (disch := omega) only [u, i64, ax, if_true, forall_const, reduceCtorEq, implies_true, tvs, bf]
end Go.Proofs
set_option linter.unusedVariables false
set_option linter.unusedSimpArgs false
namespace Go.Proofs
open Go.Ax
end Go.Proofs
set_option linter.unusedVariables false
set_option linter.unusedSimpArgs false
set_option maxRecDepth 100000
namespace Go.Proofs
open Go.Ax
end Go.Proofs
set_option linter.unusedVariables false
namespace Go.Proofs
open Go.Ax
end Go.Proofs
set_option linter.unusedVariables false
set_option linter.unusedSimpArgs false
set_option maxRecDepth 100000
namespace Go.Proofs
open Go.Ax
end Go.Proofs
