/-
  Contracts of functions of the program, each proved by a walk.
-/
import Derived.Test.YtpnljnmpocobjaaDoorR8
set_option linter.unusedVariables false
set_option linter.unusedSimpArgs false
namespace Go.Proofs
open Go.Ax

/-- What a remainder is: nothing, less than a half, a half, more. -/
def restC (x d : Nat) : Nat := if x = 0 then 0 else if 2 * x < d then 1 else if 2 * x = d then 2 else 3
/-- Does the last digit become greater by 1? -/
def moreF (r : Nat) (neg odd : Bool) (x : Nat) : Bool :=
  if r = 0 then decide (x = 3) || (decide (x = 2) && odd) else if r = 1 then decide (2 ≤ x) else if r = 2 then false else if r = 3 then decide (0 < x) && !neg else decide (0 < x) && neg

set_option maxRecDepth 100000 in
theorem ret_Right (r : Int) (h1 : -9223372036854775808 ≤ r) (h2 : r < 9223372036854775808) : Ret Tryd.prog GEs 109 [i64 r] (.bool (decide (0 ≤ r ∧ r ≤ 4))) := by
  refine RetN_start Tryd.func109 (by kernel_rfl) rfl fun Q hQ hQ2 => ?_; rw [Tryd.ntmps109]; simp only [u, i64, Nat.reduceSub, Nat.reduceAdd, bm]
  by_cases ha : 0 ≤ r
  · by_cases hb : r ≤ 4
    · repeat (first | (((first | refine G_sreg mixed (by first | rfl | kernel_rfl) ?_ | refine G_reg mixed (by first | rfl | kernel_rfl) ?_); simp (disch := omega) only [u, i64, ax, eq_self, if_true, if_false, Nat.reduceAdd, Int.reduceToNat, Int.reduceAdd, tvs, bs]; refine aft_any ?_)) | refine G_seq ?_ | refine G_block ?_ | refine G_condT rfl ?_ | refine G_condF rfl ?_ | refine G_skip ?_ | refine G_ret ?_ | refine G_exit ?_ | refine q_tn ?_ | refine q_tr ?_ | refine q_tx ?_ | refine q_bn ?_ | refine q_br ?_ | refine q_bx ?_ | refine q_by (by decide) ?_)
      (refine FinQ hQ (congrArg Array.toList Tryd.results109) _ _ ?_); simp (disch := omega) only [u, i64, ax, if_true, forall_const, reduceCtorEq, implies_true, tvs, bf, decT (show 0 ≤ r ∧ r ≤ 4 from ⟨ha, hb⟩)]
    · repeat (first | (((first | refine G_sreg mixed (by first | rfl | kernel_rfl) ?_ | refine G_reg mixed (by first | rfl | kernel_rfl) ?_); simp (disch := omega) only [u, i64, ax, eq_self, if_true, if_false, Nat.reduceAdd, Int.reduceToNat, Int.reduceAdd, tvs, bs]; refine aft_any ?_)) | refine G_seq ?_ | refine G_block ?_ | refine G_condT rfl ?_ | refine G_condF rfl ?_ | refine G_skip ?_ | refine G_ret ?_ | refine G_exit ?_ | refine q_tn ?_ | refine q_tr ?_ | refine q_tx ?_ | refine q_bn ?_ | refine q_br ?_ | refine q_bx ?_ | refine q_by (by decide) ?_)
      (refine FinQ hQ (congrArg Array.toList Tryd.results109) _ _ ?_); simp (disch := omega) only [u, i64, ax, if_true, forall_const, reduceCtorEq, implies_true, tvs, bf, decF (show ¬ (0 ≤ r ∧ r ≤ 4) from fun h => hb h.2)]
  · repeat (first | (((first | refine G_sreg mixed (by first | rfl | kernel_rfl) ?_ | refine G_reg mixed (by first | rfl | kernel_rfl) ?_); simp (disch := omega) only [u, i64, ax, eq_self, if_true, if_false, Nat.reduceAdd, Int.reduceToNat, Int.reduceAdd, tvs, bs]; refine aft_any ?_)) | refine G_seq ?_ | refine G_block ?_ | refine G_condT rfl ?_ | refine G_condF rfl ?_ | refine G_skip ?_ | refine G_ret ?_ | refine G_exit ?_ | refine q_tn ?_ | refine q_tr ?_ | refine q_tx ?_ | refine q_bn ?_ | refine q_br ?_ | refine q_bx ?_ | refine q_by (by decide) ?_)
    (refine FinQ hQ (congrArg Array.toList Tryd.results109) _ _ ?_); simp (disch := omega) only [u, i64, ax, if_true, forall_const, reduceCtorEq, implies_true, tvs, bf, decF (show ¬ (0 ≤ r ∧ r ≤ 4) from fun h => ha h.1)]
theorem ret_more (r : Nat) (hr : r ≤ 4) (neg odd : Bool) (x : Nat) (hx : x ≤ 3) : Ret Tryd.prog GEs (216 + r) [.bool neg, .bool odd, i64 x] (.bool (moreF r neg odd x)) := by
  have h1 : r = 0 ∨ r = 1 ∨ r = 2 ∨ r = 3 ∨ r = 4 := by omega
  have h2 : x = 0 ∨ x = 1 ∨ x = 2 ∨ x = 3 := by omega
  rcases h1 with rfl | rfl | rfl | rfl | rfl <;> rcases h2 with rfl | rfl | rfl | rfl <;> cases neg <;> cases odd <;> exact ran (n := 20) (by kernel_rfl)

set_option maxRecDepth 100000 in
theorem ret_compare (x : Nat) (ds : List Nat) (hw : Wd ds) (hx : (words x).length ≤ 274877906944) (hd : ds.length ≤ 274877906944) : Ret Tryd.prog GEs 171 [nat x, ws ds] (i64 (restC x (val ds))) := by
  obtain ⟨d, hdd⟩ : ∃ d, val ds = d := ⟨_, rfl⟩
  rw [hdd]
  have h2x : (words (x * 2 ^ 1)).length ≤ 549755813888 := by
    have := length_mul x 2
    have h2 : (words 2).length ≤ 1 := length_le (by decide)
    simp only [Nat.pow_one]; omega
  refine RetN_start Tryd.func171 (by kernel_rfl) rfl fun Q hQ hQ2 => ?_; rw [Tryd.ntmps171]; simp only [u, i64, Nat.reduceSub, Nat.reduceAdd, bm]
  repeat (first | (((first | refine G_sreg mixed (by first | rfl | kernel_rfl) ?_ | refine G_reg mixed (by first | rfl | kernel_rfl) ?_); simp (disch := omega) only [u, i64, ax, eq_self, if_true, if_false, Nat.reduceAdd, Int.reduceToNat, Int.reduceAdd, tvs, bs]; refine aft_any ?_)) | refine G_seq ?_ | refine G_block ?_ | refine G_condT rfl ?_ | refine G_condF rfl ?_ | refine G_skip ?_ | refine G_ret ?_ | refine G_exit ?_ | refine q_tn ?_ | refine q_tr ?_ | refine q_tx ?_ | refine q_bn ?_ | refine q_br ?_ | refine q_bx ?_ | refine q_by (by decide) ?_)
  ((first | refine G_sreg mixed (by first | rfl | kernel_rfl) ?_ | refine G_reg mixed (by first | rfl | kernel_rfl) ?_); simp (disch := omega) only [u, i64, ax, eq_self, if_true, if_false, Nat.reduceAdd, Int.reduceToNat, Int.reduceAdd, tvs, bs])
  (refine callK_ret (ret_Zero (words x) (Wd_words x) (by omega)) (by (simp (disch := omega) only [if_true, forall_const, reduceCtorEq, implies_true, bz]) <;> rfl) ?_; simp (disch := omega) only [u, i64, ax, eq_self, if_true, if_false, Nat.reduceAdd, Int.reduceToNat, Int.reduceAdd, tvs, bs]; try refine aft_any ?_)
  rw [val_words]
  by_cases h0 : x = 0
  · rw [decT h0]
    repeat (first | (((first | refine G_sreg mixed (by first | rfl | kernel_rfl) ?_ | refine G_reg mixed (by first | rfl | kernel_rfl) ?_); simp (disch := omega) only [u, i64, ax, eq_self, if_true, if_false, Nat.reduceAdd, Int.reduceToNat, Int.reduceAdd, tvs, bs]; refine aft_any ?_)) | refine G_seq ?_ | refine G_block ?_ | refine G_condT rfl ?_ | refine G_condF rfl ?_ | refine G_skip ?_ | refine G_ret ?_ | refine G_exit ?_ | refine q_tn ?_ | refine q_tr ?_ | refine q_tx ?_ | refine q_bn ?_ | refine q_br ?_ | refine q_bx ?_ | refine q_by (by decide) ?_)
    (refine FinQ hQ (congrArg Array.toList Tryd.results171) _ _ ?_); simp (disch := omega) only [u, i64, ax, if_true, forall_const, reduceCtorEq, implies_true, tvs, bf, restC, if_pos h0]
    rfl
  · rw [decF h0]
    repeat (first | (((first | refine G_sreg mixed (by first | rfl | kernel_rfl) ?_ | refine G_reg mixed (by first | rfl | kernel_rfl) ?_); simp (disch := omega) only [u, i64, ax, eq_self, if_true, if_false, Nat.reduceAdd, Int.reduceToNat, Int.reduceAdd, tvs, bs]; refine aft_any ?_)) | refine G_seq ?_ | refine G_block ?_ | refine G_condT rfl ?_ | refine G_condF rfl ?_ | refine G_skip ?_ | refine G_ret ?_ | refine G_exit ?_ | refine q_tn ?_ | refine q_tr ?_ | refine q_tx ?_ | refine q_bn ?_ | refine q_br ?_ | refine q_bx ?_ | refine q_by (by decide) ?_)
    ((first | refine G_sreg mixed (by first | rfl | kernel_rfl) ?_ | refine G_reg mixed (by first | rfl | kernel_rfl) ?_); simp (disch := omega) only [u, i64, ax, eq_self, if_true, if_false, Nat.reduceAdd, Int.reduceToNat, Int.reduceAdd, tvs, bs])
    (refine callK_ret (ret_Shl (words x) 1 (Wd_words x) (by omega) (by decide)) (by (simp (disch := omega) only [if_true, forall_const, reduceCtorEq, implies_true, bz]) <;> rfl) ?_; simp (disch := omega) only [u, i64, ax, eq_self, if_true, if_false, Nat.reduceAdd, Int.reduceToNat, Int.reduceAdd, tvs, bs]; try refine aft_any ?_)
    rw [val_words]
    (refine callK_ret (ret_Cmp (words (x * 2 ^ 1)) ds (Wd_words _) hw (by omega) (by omega)) (by (simp (disch := omega) only [if_true, forall_const, reduceCtorEq, implies_true, bz]) <;> rfl) ?_; simp (disch := omega) only [u, i64, ax, eq_self, if_true, if_false, Nat.reduceAdd, Int.reduceToNat, Int.reduceAdd, tvs, bs]; try refine aft_any ?_)
    rw [val_words, hdd, Nat.pow_one, Nat.mul_comm]
    have hr : restC x d = if 2 * x < d then 1 else if 2 * x = d then 2 else 3 := by unfold restC; rw [if_neg h0]
    by_cases h1 : 2 * x < d
    · rw [cmpI_lt h1]
      repeat (first | (((first | refine G_sreg mixed (by first | rfl | kernel_rfl) ?_ | refine G_reg mixed (by first | rfl | kernel_rfl) ?_); simp (disch := omega) only [u, i64, ax, eq_self, if_true, if_false, Nat.reduceAdd, Int.reduceToNat, Int.reduceAdd, tvs, bs]; refine aft_any ?_)) | refine G_seq ?_ | refine G_block ?_ | refine G_condT rfl ?_ | refine G_condF rfl ?_ | refine G_skip ?_ | refine G_ret ?_ | refine G_exit ?_ | refine q_tn ?_ | refine q_tr ?_ | refine q_tx ?_ | refine q_bn ?_ | refine q_br ?_ | refine q_bx ?_ | refine q_by (by decide) ?_)
      (refine FinQ hQ (congrArg Array.toList Tryd.results171) _ _ ?_); simp (disch := omega) only [u, i64, ax, if_true, forall_const, reduceCtorEq, implies_true, tvs, bf, hr, if_pos h1]
      rfl
    · by_cases h2 : 2 * x = d
      · rw [cmpI_eq h2]
        repeat (first | (((first | refine G_sreg mixed (by first | rfl | kernel_rfl) ?_ | refine G_reg mixed (by first | rfl | kernel_rfl) ?_); simp (disch := omega) only [u, i64, ax, eq_self, if_true, if_false, Nat.reduceAdd, Int.reduceToNat, Int.reduceAdd, tvs, bs]; refine aft_any ?_)) | refine G_seq ?_ | refine G_block ?_ | refine G_condT rfl ?_ | refine G_condF rfl ?_ | refine G_skip ?_ | refine G_ret ?_ | refine G_exit ?_ | refine q_tn ?_ | refine q_tr ?_ | refine q_tx ?_ | refine q_bn ?_ | refine q_br ?_ | refine q_bx ?_ | refine q_by (by decide) ?_)
        (refine FinQ hQ (congrArg Array.toList Tryd.results171) _ _ ?_); simp (disch := omega) only [u, i64, ax, if_true, forall_const, reduceCtorEq, implies_true, tvs, bf, hr, if_neg h1, if_pos h2]
        rfl
      · rw [cmpI_gt (by omega)]
        repeat (first | (((first | refine G_sreg mixed (by first | rfl | kernel_rfl) ?_ | refine G_reg mixed (by first | rfl | kernel_rfl) ?_); simp (disch := omega) only [u, i64, ax, eq_self, if_true, if_false, Nat.reduceAdd, Int.reduceToNat, Int.reduceAdd, tvs, bs]; refine aft_any ?_)) | refine G_seq ?_ | refine G_block ?_ | refine G_condT rfl ?_ | refine G_condF rfl ?_ | refine G_skip ?_ | refine G_ret ?_ | refine G_exit ?_ | refine q_tn ?_ | refine q_tr ?_ | refine q_tx ?_ | refine q_bn ?_ | refine q_br ?_ | refine q_bx ?_ | refine q_by (by decide) ?_)
        (refine FinQ hQ (congrArg Array.toList Tryd.results171) _ _ ?_); simp (disch := omega) only [u, i64, ax, if_true, forall_const, reduceCtorEq, implies_true, tvs, bf, hr, if_neg h1, if_neg h2]
        rfl

theorem ge0 : globA (GEs 0) = .lptr [fv 216, fv 217, fv 218, fv 219, fv 220] := rfl
set_option maxRecDepth 100000 in
set_option maxHeartbeats 1000000 in
theorem ret_up (r : Nat) (hr : r ≤ 4) (neg : Bool) (q : Nat) (hq : (words q).length ≤ 274877906944) (x : Nat) (hx : x ≤ 3) : Ret Tryd.prog GEs 170 [i64 r, .bool neg, nat q, i64 x] (nat (q + if moreF r neg (decide (q % 2 = 1)) x = true then 1 else 0)) := by
  have h1 : r = 0 ∨ r = 1 ∨ r = 2 ∨ r = 3 ∨ r = 4 := by omega
  have hm := ret_more r hr neg (decide (q % 2 = 1)) x hx
  have hB := ret_Bit (words q) 0 (Wd_words q) (by omega) (by decide)
  rw [val_words, Nat.pow_zero, Nat.div_one] at hB
  obtain ⟨m, hmd⟩ : ∃ m, moreF r neg (decide (q % 2 = 1)) x = m := ⟨_, rfl⟩
  rw [hmd] at hm ⊢
  have hA := ret_Add (words q) [1] (Wd_words q) (Wd_cons (by decide) Wd_nil) (by omega) (by simp)
  have hT := ret_Trim (words q) (Wd_words q) (by omega)
  rw [val_words] at hA hT
  rw [show val [1] = 1 by simp [val]] at hA
  rcases h1 with rfl | rfl | rfl | rfl | rfl
  all_goals
    cases m with
    | true =>
      refine RetN_start Tryd.func170 (by kernel_rfl) rfl fun Q hQ hQ2 => ?_; rw [Tryd.ntmps170]; simp only [u, i64, Nat.reduceSub, Nat.reduceAdd, bm]
      repeat (first | (((first | refine G_sreg mixed (by first | rfl | kernel_rfl) ?_ | refine G_reg mixed (by first | rfl | kernel_rfl) ?_); simp (disch := omega) only [u, i64, ax, eq_self, if_true, if_false, Nat.reduceAdd, Int.reduceToNat, Int.reduceAdd, tvs, bs]; refine aft_any ?_)) | refine G_seq ?_ | refine G_block ?_ | refine G_condT rfl ?_ | refine G_condF rfl ?_ | refine G_skip ?_ | refine G_ret ?_ | refine G_exit ?_ | refine q_tn ?_ | refine q_tr ?_ | refine q_tx ?_ | refine q_bn ?_ | refine q_br ?_ | refine q_bx ?_ | refine q_by (by decide) ?_)
      first | refine G_sreg mixed (by first | rfl | kernel_rfl) ?_ | refine G_reg mixed (by first | rfl | kernel_rfl) ?_
      simp (disch := omega) only [u, i64, ax, eq_self, if_true, if_false, Nat.reduceAdd, Int.reduceToNat, Int.reduceAdd, tvs, bs, ge0, fv, Int.reduceToNat]
      (refine callK_ret hB (by (simp (disch := omega) only [if_true, forall_const, reduceCtorEq, implies_true, bz]) <;> rfl) ?_; simp (disch := omega) only [u, i64, ax, eq_self, if_true, if_false, Nat.reduceAdd, Int.reduceToNat, Int.reduceAdd, tvs, bs]; try refine aft_any ?_)
      (refine callK_ret hm (by (simp (disch := omega) only [if_true, forall_const, reduceCtorEq, implies_true, bz]) <;> rfl) ?_; simp (disch := omega) only [u, i64, ax, eq_self, if_true, if_false, Nat.reduceAdd, Int.reduceToNat, Int.reduceAdd, tvs, bs]; try refine aft_any ?_)
      repeat (first | (((first | refine G_sreg mixed (by first | rfl | kernel_rfl) ?_ | refine G_reg mixed (by first | rfl | kernel_rfl) ?_); simp (disch := omega) only [u, i64, ax, eq_self, if_true, if_false, Nat.reduceAdd, Int.reduceToNat, Int.reduceAdd, tvs, bs]; refine aft_any ?_)) | refine G_seq ?_ | refine G_block ?_ | refine G_condT rfl ?_ | refine G_condF rfl ?_ | refine G_skip ?_ | refine G_ret ?_ | refine G_exit ?_ | refine q_tn ?_ | refine q_tr ?_ | refine q_tx ?_ | refine q_bn ?_ | refine q_br ?_ | refine q_bx ?_ | refine q_by (by decide) ?_)
      ((first | refine G_sreg mixed (by first | rfl | kernel_rfl) ?_ | refine G_reg mixed (by first | rfl | kernel_rfl) ?_); simp (disch := omega) only [u, i64, ax, eq_self, if_true, if_false, Nat.reduceAdd, Int.reduceToNat, Int.reduceAdd, tvs, bs])
      (refine callK_ret hA (by (simp (disch := omega) only [if_true, forall_const, reduceCtorEq, implies_true, bz]) <;> rfl) ?_; simp (disch := omega) only [u, i64, ax, eq_self, if_true, if_false, Nat.reduceAdd, Int.reduceToNat, Int.reduceAdd, tvs, bs]; try refine aft_any ?_)
      repeat (first | (((first | refine G_sreg mixed (by first | rfl | kernel_rfl) ?_ | refine G_reg mixed (by first | rfl | kernel_rfl) ?_); simp (disch := omega) only [u, i64, ax, eq_self, if_true, if_false, Nat.reduceAdd, Int.reduceToNat, Int.reduceAdd, tvs, bs]; refine aft_any ?_)) | refine G_seq ?_ | refine G_block ?_ | refine G_condT rfl ?_ | refine G_condF rfl ?_ | refine G_skip ?_ | refine G_ret ?_ | refine G_exit ?_ | refine q_tn ?_ | refine q_tr ?_ | refine q_tx ?_ | refine q_bn ?_ | refine q_br ?_ | refine q_bx ?_ | refine q_by (by decide) ?_)
      (refine FinQ hQ (congrArg Array.toList Tryd.results170) _ _ ?_); simp (disch := omega) only [u, i64, ax, if_true, forall_const, reduceCtorEq, implies_true, tvs, bf]
    | false =>
      refine RetN_start Tryd.func170 (by kernel_rfl) rfl fun Q hQ hQ2 => ?_; rw [Tryd.ntmps170]; simp only [u, i64, Nat.reduceSub, Nat.reduceAdd, bm]
      repeat (first | (((first | refine G_sreg mixed (by first | rfl | kernel_rfl) ?_ | refine G_reg mixed (by first | rfl | kernel_rfl) ?_); simp (disch := omega) only [u, i64, ax, eq_self, if_true, if_false, Nat.reduceAdd, Int.reduceToNat, Int.reduceAdd, tvs, bs]; refine aft_any ?_)) | refine G_seq ?_ | refine G_block ?_ | refine G_condT rfl ?_ | refine G_condF rfl ?_ | refine G_skip ?_ | refine G_ret ?_ | refine G_exit ?_ | refine q_tn ?_ | refine q_tr ?_ | refine q_tx ?_ | refine q_bn ?_ | refine q_br ?_ | refine q_bx ?_ | refine q_by (by decide) ?_)
      first | refine G_sreg mixed (by first | rfl | kernel_rfl) ?_ | refine G_reg mixed (by first | rfl | kernel_rfl) ?_
      simp (disch := omega) only [u, i64, ax, eq_self, if_true, if_false, Nat.reduceAdd, Int.reduceToNat, Int.reduceAdd, tvs, bs, ge0, fv, Int.reduceToNat]
      (refine callK_ret hB (by (simp (disch := omega) only [if_true, forall_const, reduceCtorEq, implies_true, bz]) <;> rfl) ?_; simp (disch := omega) only [u, i64, ax, eq_self, if_true, if_false, Nat.reduceAdd, Int.reduceToNat, Int.reduceAdd, tvs, bs]; try refine aft_any ?_)
      (refine callK_ret hm (by (simp (disch := omega) only [if_true, forall_const, reduceCtorEq, implies_true, bz]) <;> rfl) ?_; simp (disch := omega) only [u, i64, ax, eq_self, if_true, if_false, Nat.reduceAdd, Int.reduceToNat, Int.reduceAdd, tvs, bs]; try refine aft_any ?_)
      repeat (first | (((first | refine G_sreg mixed (by first | rfl | kernel_rfl) ?_ | refine G_reg mixed (by first | rfl | kernel_rfl) ?_); simp (disch := omega) only [u, i64, ax, eq_self, if_true, if_false, Nat.reduceAdd, Int.reduceToNat, Int.reduceAdd, tvs, bs]; refine aft_any ?_)) | refine G_seq ?_ | refine G_block ?_ | refine G_condT rfl ?_ | refine G_condF rfl ?_ | refine G_skip ?_ | refine G_ret ?_ | refine G_exit ?_ | refine q_tn ?_ | refine q_tr ?_ | refine q_tx ?_ | refine q_bn ?_ | refine q_br ?_ | refine q_bx ?_ | refine q_by (by decide) ?_)
      ((first | refine G_sreg mixed (by first | rfl | kernel_rfl) ?_ | refine G_reg mixed (by first | rfl | kernel_rfl) ?_); simp (disch := omega) only [u, i64, ax, eq_self, if_true, if_false, Nat.reduceAdd, Int.reduceToNat, Int.reduceAdd, tvs, bs])
      (refine callK_ret hT (by (simp (disch := omega) only [if_true, forall_const, reduceCtorEq, implies_true, bz]) <;> rfl) ?_; simp (disch := omega) only [u, i64, ax, eq_self, if_true, if_false, Nat.reduceAdd, Int.reduceToNat, Int.reduceAdd, tvs, bs]; try refine aft_any ?_)
      repeat (first | (((first | refine G_sreg mixed (by first | rfl | kernel_rfl) ?_ | refine G_reg mixed (by first | rfl | kernel_rfl) ?_); simp (disch := omega) only [u, i64, ax, eq_self, if_true, if_false, Nat.reduceAdd, Int.reduceToNat, Int.reduceAdd, tvs, bs]; refine aft_any ?_)) | refine G_seq ?_ | refine G_block ?_ | refine G_condT rfl ?_ | refine G_condF rfl ?_ | refine G_skip ?_ | refine G_ret ?_ | refine G_exit ?_ | refine q_tn ?_ | refine q_tr ?_ | refine q_tx ?_ | refine q_bn ?_ | refine q_br ?_ | refine q_bx ?_ | refine q_by (by decide) ?_)
      (refine FinQ hQ (congrArg Array.toList Tryd.results170) _ _ ?_); simp (disch := omega) only [u, i64, ax, if_true, forall_const, reduceCtorEq, implies_true, tvs, bf]
      rfl

theorem restC_le (x d : Nat) : restC x d ≤ 3 := by unfold restC; split <;> (try split) <;> (try split) <;> omega
/-- A quotient, rounded to an integer. -/
def quoN (r : Nat) (neg : Bool) (n d : Nat) : Nat := n / d + if moreF r neg (decide (n / d % 2 = 1)) (restC (n % d) d) = true then 1 else 0
set_option maxRecDepth 100000 in
theorem ret_Quotient (r : Nat) (hr : r ≤ 4) (neg : Bool) (ns ds : List Nat) (hn : Wd ns) (hd : Wd ds) (hln : ns.length ≤ 137438953472) (hld : ds.length ≤ 137438953472) (h0 : val ds ≠ 0) :
    Ret Tryd.prog GEs 128 [i64 r, .bool neg, ws ns, ws ds] (.tup [nat (quoN r neg (val ns) (val ds)), .bool (decide (val ns % val ds = 0))]) := by
  have hnl := length_words_val_le hn
  have hdl := length_words_val_le hd
  have hq := length_mono (Nat.div_le_self (val ns) (val ds))
  have hm := length_mono (Nat.mod_le (val ns) (val ds))
  refine RetN_start Tryd.func128 (by kernel_rfl) rfl fun Q hQ hQ2 => ?_; rw [Tryd.ntmps128]; simp only [u, i64, Nat.reduceSub, Nat.reduceAdd, bm]
  repeat (first | (((first | refine G_sreg mixed (by first | rfl | kernel_rfl) ?_ | refine G_reg mixed (by first | rfl | kernel_rfl) ?_); simp (disch := omega) only [u, i64, ax, eq_self, if_true, if_false, Nat.reduceAdd, Int.reduceToNat, Int.reduceAdd, tvs, bs]; refine aft_any ?_)) | refine G_seq ?_ | refine G_block ?_ | refine G_condT rfl ?_ | refine G_condF rfl ?_ | refine G_skip ?_ | refine G_ret ?_ | refine G_exit ?_ | refine q_tn ?_ | refine q_tr ?_ | refine q_tx ?_ | refine q_bn ?_ | refine q_br ?_ | refine q_bx ?_ | refine q_by (by decide) ?_)
  ((first | refine G_sreg mixed (by first | rfl | kernel_rfl) ?_ | refine G_reg mixed (by first | rfl | kernel_rfl) ?_); simp (disch := omega) only [u, i64, ax, eq_self, if_true, if_false, Nat.reduceAdd, Int.reduceToNat, Int.reduceAdd, tvs, bs])
  (refine callK_ret (ret_DivMod ns ds hn hd (by omega) (by omega) h0) (by (simp (disch := omega) only [if_true, forall_const, reduceCtorEq, implies_true, bz]) <;> rfl) ?_; simp (disch := omega) only [u, i64, ax, eq_self, if_true, if_false, Nat.reduceAdd, Int.reduceToNat, Int.reduceAdd, tvs, bs]; try refine aft_any ?_)
  repeat (first | (((first | refine G_sreg mixed (by first | rfl | kernel_rfl) ?_ | refine G_reg mixed (by first | rfl | kernel_rfl) ?_); simp (disch := omega) only [u, i64, ax, eq_self, if_true, if_false, Nat.reduceAdd, Int.reduceToNat, Int.reduceAdd, tvs, bs]; refine aft_any ?_)) | refine G_seq ?_ | refine G_block ?_ | refine G_condT rfl ?_ | refine G_condF rfl ?_ | refine G_skip ?_ | refine G_ret ?_ | refine G_exit ?_ | refine q_tn ?_ | refine q_tr ?_ | refine q_tx ?_ | refine q_bn ?_ | refine q_br ?_ | refine q_bx ?_ | refine q_by (by decide) ?_)
  ((first | refine G_sreg mixed (by first | rfl | kernel_rfl) ?_ | refine G_reg mixed (by first | rfl | kernel_rfl) ?_); simp (disch := omega) only [u, i64, ax, eq_self, if_true, if_false, Nat.reduceAdd, Int.reduceToNat, Int.reduceAdd, tvs, bs])
  (refine callK_ret (ret_compare (val ns % val ds) ds hd (by omega) (by omega)) (by (simp (disch := omega) only [if_true, forall_const, reduceCtorEq, implies_true, bz]) <;> rfl) ?_; simp (disch := omega) only [u, i64, ax, eq_self, if_true, if_false, Nat.reduceAdd, Int.reduceToNat, Int.reduceAdd, tvs, bs]; try refine aft_any ?_)
  (refine callK_ret (ret_up r hr neg (val ns / val ds) (by omega) (restC (val ns % val ds) (val ds)) (restC_le _ _)) (by (simp (disch := omega) only [if_true, forall_const, reduceCtorEq, implies_true, bz]) <;> rfl) ?_; simp (disch := omega) only [u, i64, ax, eq_self, if_true, if_false, Nat.reduceAdd, Int.reduceToNat, Int.reduceAdd, tvs, bs]; try refine aft_any ?_)
  (refine callK_ret (ret_Zero (words (val ns % val ds)) (Wd_words _) (by omega)) (by (simp (disch := omega) only [if_true, forall_const, reduceCtorEq, implies_true, bz]) <;> rfl) ?_; simp (disch := omega) only [u, i64, ax, eq_self, if_true, if_false, Nat.reduceAdd, Int.reduceToNat, Int.reduceAdd, tvs, bs]; try refine aft_any ?_)
  rw [val_words]
  repeat (first | (((first | refine G_sreg mixed (by first | rfl | kernel_rfl) ?_ | refine G_reg mixed (by first | rfl | kernel_rfl) ?_); simp (disch := omega) only [u, i64, ax, eq_self, if_true, if_false, Nat.reduceAdd, Int.reduceToNat, Int.reduceAdd, tvs, bs]; refine aft_any ?_)) | refine G_seq ?_ | refine G_block ?_ | refine G_condT rfl ?_ | refine G_condF rfl ?_ | refine G_skip ?_ | refine G_ret ?_ | refine G_exit ?_ | refine q_tn ?_ | refine q_tr ?_ | refine q_tx ?_ | refine q_bn ?_ | refine q_br ?_ | refine q_bx ?_ | refine q_by (by decide) ?_)
  (refine FinQ hQ (congrArg Array.toList Tryd.results128) _ _ ?_); simp (disch := omega) only [u, i64, ax, if_true, forall_const, reduceCtorEq, implies_true, tvs, bf]
  rfl
theorem len_pos (n : Nat) : decide (0 < (words n).length) = decide (n ≠ 0) := by
  by_cases h : n = 0
  · subst h; rw [words_zero]; rfl
  · have : 0 < (words n).length := List.length_pos_iff.2 fun h0 => h (words_eq_nil.1 h0)
    rw [decT this, decT h]
set_option maxRecDepth 100000 in
theorem ret_whole (r : Nat) (hr : r ≤ 4) (neg : Bool) (ns ds : List Nat) (hn : Wd ns) (hd : Wd ds) (hln : ns.length ≤ 137438953472) (hld : ds.length ≤ 137438953472) (h0 : val ds ≠ 0) :
    Ret Tryd.prog GEs 63 [i64 r, .bool neg, ws ns, ws ds] (.tup [.agg [.bool (neg && decide (quoN r neg (val ns) (val ds) ≠ 0)), nat (quoN r neg (val ns) (val ds))], .bool (decide (val ns % val ds = 0))]) := by
  obtain ⟨m, hm⟩ : ∃ m, quoN r neg (val ns) (val ds) = m := ⟨_, rfl⟩
  have hQt := ret_Quotient r hr neg ns ds hn hd hln hld h0
  rw [hm] at hQt ⊢
  rw [← len_pos]
  refine RetN_start Tryd.func63 (by kernel_rfl) rfl fun Q hQ hQ2 => ?_; rw [Tryd.ntmps63]; simp only [u, i64, Nat.reduceSub, Nat.reduceAdd, bm]
  repeat (first | (((first | refine G_sreg mixed (by first | rfl | kernel_rfl) ?_ | refine G_reg mixed (by first | rfl | kernel_rfl) ?_); simp (disch := omega) only [u, i64, ax, eq_self, if_true, if_false, Nat.reduceAdd, Int.reduceToNat, Int.reduceAdd, tvs, bs]; refine aft_any ?_)) | refine G_seq ?_ | refine G_block ?_ | refine G_condT rfl ?_ | refine G_condF rfl ?_ | refine G_skip ?_ | refine G_ret ?_ | refine G_exit ?_ | refine q_tn ?_ | refine q_tr ?_ | refine q_tx ?_ | refine q_bn ?_ | refine q_br ?_ | refine q_bx ?_ | refine q_by (by decide) ?_)
  ((first | refine G_sreg mixed (by first | rfl | kernel_rfl) ?_ | refine G_reg mixed (by first | rfl | kernel_rfl) ?_); simp (disch := omega) only [u, i64, ax, eq_self, if_true, if_false, Nat.reduceAdd, Int.reduceToNat, Int.reduceAdd, tvs, bs])
  (refine callK_ret hQt (by (simp (disch := omega) only [if_true, forall_const, reduceCtorEq, implies_true, bz]) <;> rfl) ?_; simp (disch := omega) only [u, i64, ax, eq_self, if_true, if_false, Nat.reduceAdd, Int.reduceToNat, Int.reduceAdd, tvs, bs]; try refine aft_any ?_)
  cases neg with
  | true =>
    by_cases h : 0 < (words m).length
    · repeat (first | (((first | refine G_sreg mixed (by first | rfl | kernel_rfl) ?_ | refine G_reg mixed (by first | rfl | kernel_rfl) ?_); simp (disch := omega) only [u, i64, ax, eq_self, if_true, if_false, Nat.reduceAdd, Int.reduceToNat, Int.reduceAdd, tvs, bs]; refine aft_any ?_)) | refine G_seq ?_ | refine G_block ?_ | refine G_condT rfl ?_ | refine G_condF rfl ?_ | refine G_skip ?_ | refine G_ret ?_ | refine G_exit ?_ | refine q_tn ?_ | refine q_tr ?_ | refine q_tx ?_ | refine q_bn ?_ | refine q_br ?_ | refine q_bx ?_ | refine q_by (by decide) ?_)
      (refine FinQ hQ (congrArg Array.toList Tryd.results63) _ _ ?_); simp (disch := omega) only [u, i64, ax, if_true, forall_const, reduceCtorEq, implies_true, tvs, bf, decT h]
    · repeat (first | (((first | refine G_sreg mixed (by first | rfl | kernel_rfl) ?_ | refine G_reg mixed (by first | rfl | kernel_rfl) ?_); simp (disch := omega) only [u, i64, ax, eq_self, if_true, if_false, Nat.reduceAdd, Int.reduceToNat, Int.reduceAdd, tvs, bs]; refine aft_any ?_)) | refine G_seq ?_ | refine G_block ?_ | refine G_condT rfl ?_ | refine G_condF rfl ?_ | refine G_skip ?_ | refine G_ret ?_ | refine G_exit ?_ | refine q_tn ?_ | refine q_tr ?_ | refine q_tx ?_ | refine q_bn ?_ | refine q_br ?_ | refine q_bx ?_ | refine q_by (by decide) ?_)
      (refine FinQ hQ (congrArg Array.toList Tryd.results63) _ _ ?_); simp (disch := omega) only [u, i64, ax, if_true, forall_const, reduceCtorEq, implies_true, tvs, bf, decF h]
  | false =>
    repeat (first | (((first | refine G_sreg mixed (by first | rfl | kernel_rfl) ?_ | refine G_reg mixed (by first | rfl | kernel_rfl) ?_); simp (disch := omega) only [u, i64, ax, eq_self, if_true, if_false, Nat.reduceAdd, Int.reduceToNat, Int.reduceAdd, tvs, bs]; refine aft_any ?_)) | refine G_seq ?_ | refine G_block ?_ | refine G_condT rfl ?_ | refine G_condF rfl ?_ | refine G_skip ?_ | refine G_ret ?_ | refine G_exit ?_ | refine q_tn ?_ | refine q_tr ?_ | refine q_tx ?_ | refine q_bn ?_ | refine q_br ?_ | refine q_bx ?_ | refine q_by (by decide) ?_)
    (refine FinQ hQ (congrArg Array.toList Tryd.results63) _ _ ?_); simp (disch := omega) only [u, i64, ax, if_true, forall_const, reduceCtorEq, implies_true, tvs, bf]
    rfl
end Go.Proofs
