/-
  Contracts of functions of the program, each proved by a walk.
-/
import Derived.Test.YtenfiehjbeojeaaGreatDoorV20
import Derived.Test.YtenfiehjbeojeaaGreatDoorV9
import Derived.Test.YtenfiehjbeojeaaGreatDoorV10
set_option maxRecDepth 100000
set_option linter.unusedVariables false
set_option linter.unusedSimpArgs false
namespace Go.Proofs
open Go.Ax
set_option maxRecDepth 100000 in
theorem ret_Right (r : Int) (h1 : -9223372036854775808 ≤ r) (h2 : r < 9223372036854775808) : Ret Tryz.prog GEs 73 [i64 r] (.bool (decide (0 ≤ r ∧ r ≤ 4))) := by
  refine RetN_start Tryz.func73 (by kernel_rfl) rfl fun Q hQ hQ2 => ?_; rw [Tryz.ntmps73]; simp only [u, i64, Nat.reduceSub, Nat.reduceAdd, bm]
  by_cases ha : 0 ≤ r
  · by_cases hb : r ≤ 4
    · (refine gO ?_)
      (refine FinQ hQ (congrArg Array.toList Tryz.results73) _ _ ?_); simp (disch := omega) only [u, i64, ax, if_true, forall_const, reduceCtorEq, implies_true, tvs, bf, decT (show 0 ≤ r ∧ r ≤ 4 from ⟨ha, hb⟩)]
    · (refine gO ?_)
      (refine FinQ hQ (congrArg Array.toList Tryz.results73) _ _ ?_); simp (disch := omega) only [u, i64, ax, if_true, forall_const, reduceCtorEq, implies_true, tvs, bf, decF (show ¬ (0 ≤ r ∧ r ≤ 4) from fun h => hb h.2)]
  · (refine gO ?_)
    (refine FinQ hQ (congrArg Array.toList Tryz.results73) _ _ ?_); simp (disch := omega) only [u, i64, ax, if_true, forall_const, reduceCtorEq, implies_true, tvs, bf, decF (show ¬ (0 ≤ r ∧ r ≤ 4) from fun h => ha h.1)]
theorem ret_more (r : Nat) (hr : r ≤ 4) (neg odd : Bool) (x : Nat) (hx : x ≤ 3) : Ret Tryz.prog GEs (206 + r) [.bool neg, .bool odd, i64 x] (.bool (moreF r neg odd x)) := by
  have h1 : r = 0 ∨ r = 1 ∨ r = 2 ∨ r = 3 ∨ r = 4 := by omega
  have h2 : x = 0 ∨ x = 1 ∨ x = 2 ∨ x = 3 := by omega
  rcases h1 with rfl | rfl | rfl | rfl | rfl <;> rcases h2 with rfl | rfl | rfl | rfl <;> cases neg <;> cases odd <;> exact ran (n := 20) (by kernel_rfl)
set_option maxRecDepth 100000 in
theorem ret_compare (x : Nat) (ds : List Nat) (hw : Wd ds) (hx : (words x).length ≤ 274877906944) (hd : ds.length ≤ 274877906944) : Ret Tryz.prog GEs 101 [nat x, ws ds] (i64 (restC x (val ds))) := by
  obtain ⟨d, hdd⟩ : ∃ d, val ds = d := ⟨_, rfl⟩
  rw [hdd]
  have h2x : (words (x * 2 ^ 1)).length ≤ 549755813888 := by
    have := length_mul x 2
    have h2 : (words 2).length ≤ 1 := length_le (by decide)
    simp only [Nat.pow_one]; omega
  refine RetN_start Tryz.func101 (by kernel_rfl) rfl fun Q hQ hQ2 => ?_; rw [Tryz.ntmps101]; simp only [u, i64, Nat.reduceSub, Nat.reduceAdd, bm]
  (refine gO ?_)
  (refine gC ?_)
  (refine cR (ret_Zero (words x) (Wd_words x) (by omega)) ?_; refine sX ?_; try refine aA ?_)
  rw [val_words]
  by_cases h0 : x = 0
  · rw [decT h0]
    (refine gO ?_)
    (refine FinQ hQ (congrArg Array.toList Tryz.results101) _ _ ?_); simp (disch := omega) only [u, i64, ax, if_true, forall_const, reduceCtorEq, implies_true, tvs, bf, restC, if_pos h0]
    rfl
  · rw [decF h0]
    (refine gO ?_)
    (refine gC ?_)
    (refine cR (ret_Shl (words x) 1 (Wd_words x) (by omega) (by decide)) ?_; refine sX ?_; try refine aA ?_)
    rw [val_words]
    (refine cR (ret_Cmp (words (x * 2 ^ 1)) ds (Wd_words _) hw (by omega) (by omega)) ?_; refine sX ?_; try refine aA ?_)
    rw [val_words, hdd, Nat.pow_one, Nat.mul_comm]
    have hr : restC x d = if 2 * x < d then 1 else if 2 * x = d then 2 else 3 := by unfold restC; rw [if_neg h0]
    by_cases h1 : 2 * x < d
    · rw [cmpI_lt h1]
      (refine gO ?_)
      (refine FinQ hQ (congrArg Array.toList Tryz.results101) _ _ ?_); simp (disch := omega) only [u, i64, ax, if_true, forall_const, reduceCtorEq, implies_true, tvs, bf, hr, if_pos h1]
      rfl
    · by_cases h2 : 2 * x = d
      · rw [cmpI_eq h2]
        (refine gO ?_)
        (refine FinQ hQ (congrArg Array.toList Tryz.results101) _ _ ?_); simp (disch := omega) only [u, i64, ax, if_true, forall_const, reduceCtorEq, implies_true, tvs, bf, hr, if_neg h1, if_pos h2]
        rfl
      · rw [cmpI_gt (by omega)]
        (refine gO ?_)
        (refine FinQ hQ (congrArg Array.toList Tryz.results101) _ _ ?_); simp (disch := omega) only [u, i64, ax, if_true, forall_const, reduceCtorEq, implies_true, tvs, bf, hr, if_neg h1, if_neg h2]
        rfl
theorem ge0 : globA (GEs 1) = .lptr [fv 206, fv 207, fv 208, fv 209, fv 210] := rfl
set_option maxRecDepth 100000 in
set_option maxHeartbeats 1000000 in
theorem ret_up (r : Nat) (hr : r ≤ 4) (neg : Bool) (q : Nat) (hq : (words q).length ≤ 274877906944) (x : Nat) (hx : x ≤ 3) : Ret Tryz.prog GEs 100 [i64 r, .bool neg, nat q, i64 x] (nat (q + if moreF r neg (decide (q % 2 = 1)) x = true then 1 else 0)) := by
  have h1 : r = 0 ∨ r = 1 ∨ r = 2 ∨ r = 3 ∨ r = 4 := by omega
  have hm := ret_more r hr neg (decide (q % 2 = 1)) x hx
  have hB := ret_Bit (words q) 0 (Wd_words q) (by omega) (by decide)
  rw [val_words, Nat.pow_zero, Nat.div_one] at hB
  obtain ⟨m, hmd⟩ : ∃ m, moreF r neg (decide (q % 2 = 1)) x = m := ⟨_, rfl⟩
  rw [hmd] at hm ⊢
  have hA := ret_Add (words q) [1] (Wd_words q) (Wd_cons (by decide) Wd_nil) (by omega) (by simp)
  have hT := ret_Trim (words q) (Wd_words q) (by omega)
  rw [val_words] at hA hT
  rw [show val [1] = 1 by simp [val]] at hA
  rcases h1 with rfl | rfl | rfl | rfl | rfl
  all_goals
    cases m with
    | true =>
      refine RetN_start Tryz.func100 (by kernel_rfl) rfl fun Q hQ hQ2 => ?_; rw [Tryz.ntmps100]; simp only [u, i64, Nat.reduceSub, Nat.reduceAdd, bm]
      (refine gO ?_)
      first | refine G_sreg mixed (by first | rfl | kernel_rfl) ?_ | refine G_reg mixed (by first | rfl | kernel_rfl) ?_
      simp (disch := omega) only [u, i64, ax, eq_self, if_true, if_false, Nat.reduceAdd, Int.reduceToNat, Int.reduceAdd, tvs, bs, ge0, fv, Int.reduceToNat]
      repeat (first | (refine gC ?_; first | refine aA ?_ | ((first | refine cR hB ?_ | refine cR hm ?_ | refine cR hA ?_); refine sX ?_; try refine aA ?_)) | ((first | refine cR hB ?_ | refine cR hm ?_ | refine cR hA ?_); refine sX ?_; try refine aA ?_) | refine gS ?_)
      (refine FinQ hQ (congrArg Array.toList Tryz.results100) _ _ ?_); simp (disch := omega) only [u, i64, ax, if_true, forall_const, reduceCtorEq, implies_true, tvs, bf]
    | false =>
      refine RetN_start Tryz.func100 (by kernel_rfl) rfl fun Q hQ hQ2 => ?_; rw [Tryz.ntmps100]; simp only [u, i64, Nat.reduceSub, Nat.reduceAdd, bm]
      (refine gO ?_)
      first | refine G_sreg mixed (by first | rfl | kernel_rfl) ?_ | refine G_reg mixed (by first | rfl | kernel_rfl) ?_
      simp (disch := omega) only [u, i64, ax, eq_self, if_true, if_false, Nat.reduceAdd, Int.reduceToNat, Int.reduceAdd, tvs, bs, ge0, fv, Int.reduceToNat]
      repeat (first | (refine gC ?_; first | refine aA ?_ | ((first | refine cR hB ?_ | refine cR hm ?_ | refine cR hT ?_); refine sX ?_; try refine aA ?_)) | ((first | refine cR hB ?_ | refine cR hm ?_ | refine cR hT ?_); refine sX ?_; try refine aA ?_) | refine gS ?_)
      (refine FinQ hQ (congrArg Array.toList Tryz.results100) _ _ ?_); simp (disch := omega) only [u, i64, ax, if_true, forall_const, reduceCtorEq, implies_true, tvs, bf]
      rfl
set_option maxRecDepth 100000 in
theorem ret_Quotient (r : Nat) (hr : r ≤ 4) (neg : Bool) (ns ds : List Nat) (hn : Wd ns) (hd : Wd ds) (hln : ns.length ≤ 137438953472) (hld : ds.length ≤ 137438953472) (h0 : val ds ≠ 0) :
    Ret Tryz.prog GEs 66 [i64 r, .bool neg, ws ns, ws ds] (.tup [nat (quoN r neg (val ns) (val ds)), .bool (decide (val ns % val ds = 0))]) := by
  have hnl := length_words_val_le hn
  have hdl := length_words_val_le hd
  have hq := length_mono (Nat.div_le_self (val ns) (val ds))
  have hm := length_mono (Nat.mod_le (val ns) (val ds))
  refine RetN_start Tryz.func66 (by kernel_rfl) rfl fun Q hQ hQ2 => ?_; rw [Tryz.ntmps66]; simp only [u, i64, Nat.reduceSub, Nat.reduceAdd, bm]
  repeat (first | (refine gC ?_; first | refine aA ?_ | (refine cR (ret_DivMod ns ds hn hd (by omega) (by omega) h0) ?_; refine sX ?_; try refine aA ?_)) | (refine cR (ret_DivMod ns ds hn hd (by omega) (by omega) h0) ?_; refine sX ?_; try refine aA ?_) | refine gS ?_)
  (refine gC ?_)
  (refine cR (ret_compare (val ns % val ds) ds hd (by omega) (by omega)) ?_; refine sX ?_; try refine aA ?_)
  (refine cR (ret_up r hr neg (val ns / val ds) (by omega) (restC (val ns % val ds) (val ds)) (restC_le _ _)) ?_; refine sX ?_; try refine aA ?_)
  (refine cR (ret_Zero (words (val ns % val ds)) (Wd_words _) (by omega)) ?_; refine sX ?_; try refine aA ?_)
  rw [val_words]
  (refine gO ?_)
  (refine FinQ hQ (congrArg Array.toList Tryz.results66) _ _ ?_); simp (disch := omega) only [u, i64, ax, if_true, forall_const, reduceCtorEq, implies_true, tvs, bf]
  rfl
end Go.Proofs
set_option linter.unusedVariables false
set_option linter.unusedSimpArgs false
namespace Go.Proofs
open Go.Ax
end Go.Proofs
set_option linter.unusedVariables false
set_option linter.unusedSimpArgs false
namespace Go.Proofs
open Go.Ax
end Go.Proofs
set_option linter.unusedVariables false
set_option linter.unusedSimpArgs false
namespace Go.Proofs
open Go.Ax
theorem bl_len (n : Nat) : bl n ≤ 64 * (words n).length := by
  have h := lt_pow_of_length (Nat.le_refl (words n).length)
  rw [Bpow] at h
  exact bl_le h
theorem le_pow_words {m p k : Nat} (hm : m ≤ 2 ^ p) (h : p < 64 * k) : (words m).length ≤ k := length_le (by
  rw [Bpow]
  exact Nat.lt_of_le_of_lt hm (Nat.pow_lt_pow_right (by decide) h))
theorem tz_le_bl (n : Nat) : tz n ≤ bl n := by
  by_cases h : n = 0
  · subst h; decide
  · obtain ⟨m, hm⟩ := tz_spec h
    have h1 : 2 ^ tz n ≤ n := by
      conv => rhs; rw [hm]
      exact Nat.le_mul_of_pos_right _ (by omega)
    have := bl_ge h1
    omega
theorem ret_greatest (r : Nat) (hr : r ≤ 4) (neg : Bool) : Ret Tryz.prog GEs 106 [i64 r, .bool neg] (.bool (grtF r neg)) := by
  have h1 : r = 0 ∨ r = 1 ∨ r = 2 ∨ r = 3 ∨ r = 4 := by omega
  rcases h1 with rfl | rfl | rfl | rfl | rfl <;> cases neg <;> exact ran (n := 20) (by kernel_rfl)
end Go.Proofs
