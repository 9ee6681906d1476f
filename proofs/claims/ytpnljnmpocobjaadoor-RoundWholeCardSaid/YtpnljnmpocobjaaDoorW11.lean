/-
  Contracts of functions of the program, each proved by a walk.
-/
import Derived.Test.YtpnljnmpocobjaaDoorW10
set_option linter.unusedVariables false
set_option linter.unusedSimpArgs false
namespace Go.Proofs
open Go.Ax

set_option maxRecDepth 100000 in
theorem retF_Trim (xs : List Nat) (hne : val xs ≠ 0) (hw : Wd xs) (hl : xs.length ≤ 1099511627776) : RetF Tryd.prog GEs 149 [ws xs] (us (words (val xs))) := by
  refine RetF_start Tryd.func149 (by kernel_rfl) rfl fun Q hQ hQ2 => ?_
  rw [Tryd.ntmps149]; simp only [u, i64, Nat.reduceSub, Nat.reduceAdd, bm]
  repeat (first | (((first | refine G_sreg mixed (by first | rfl | kernel_rfl) ?_ | refine G_reg mixed (by first | rfl | kernel_rfl) ?_); simp (disch := omega) only [u, i64, ax, eq_self, if_true, if_false, Nat.reduceAdd, Int.reduceToNat, Int.reduceAdd, tvs, bs]; refine aft_any ?_)) | refine G_seq ?_ | refine G_block ?_ | refine G_condT rfl ?_ | refine G_condF rfl ?_ | refine G_skip ?_ | refine G_ret ?_ | refine G_exit ?_ | refine q_tn ?_ | refine q_tr ?_ | refine q_tx ?_ | refine q_bn ?_ | refine q_br ?_ | refine q_bx ?_ | refine q_by (by decide) ?_)
  ((first | refine G_sreg mixed (by first | rfl | kernel_rfl) ?_ | refine G_reg mixed (by first | rfl | kernel_rfl) ?_); simp (disch := omega) only [u, i64, ax, eq_self, if_true, if_false, Nat.reduceAdd, Int.reduceToNat, Int.reduceAdd, tvs, bs])
  (refine callK_ret (ret_view xs hw hl) (by (simp (disch := omega) only [if_true, forall_const, reduceCtorEq, implies_true, bz]) <;> rfl) ?_; simp (disch := omega) only [u, i64, ax, eq_self, if_true, if_false, Nat.reduceAdd, Int.reduceToNat, Int.reduceAdd, tvs, bs]; try refine aft_any ?_)
  have hlen := length_words_val_le hw
  have hpos : 0 < (words (val xs)).length := List.length_pos_iff.2 fun h => hne (words_eq_nil.1 h)
  repeat (first | (((first | refine G_sreg mixed (by first | rfl | kernel_rfl) ?_ | refine G_reg mixed (by first | rfl | kernel_rfl) ?_); simp (disch := omega) only [u, i64, ax, eq_self, if_true, if_false, Nat.reduceAdd, Int.reduceToNat, Int.reduceAdd, tvs, bs]; refine aft_any ?_)) | refine G_seq ?_ | refine G_block ?_ | refine G_condT rfl ?_ | refine G_condF rfl ?_ | refine G_skip ?_ | refine G_ret ?_ | refine G_exit ?_ | refine q_tn ?_ | refine q_tr ?_ | refine q_tx ?_ | refine q_bn ?_ | refine q_br ?_ | refine q_bx ?_ | refine q_by (by decide) ?_)
  refine FinQF hQ (congrArg Array.toList Tryd.results149) _ _ _ _ _ _ _ rfl rfl (by simp [us_length]) (by rw [List.take_of_length_le (by simp [us_length])]) (us_noMem _)

set_option maxRecDepth 100000 in
theorem retF_Shl (xs : List Nat) (s : Nat) (hne : val xs ≠ 0) (hx : Wd xs) (hl : xs.length ≤ 549755813888) (hs : s ≤ 549755813888) : RetF Tryd.prog GEs 92 [ws xs, i64 s] (us (words (val xs * 2 ^ s))) := by
  refine RetF_start Tryd.func92 (by kernel_rfl) rfl fun Q hQ hQ2 => ?_
  rw [Tryd.ntmps92]; simp only [u, i64, Nat.reduceSub, Nat.reduceAdd, bm]
  repeat (first | (((first | refine G_sreg mixed (by first | rfl | kernel_rfl) ?_ | refine G_reg mixed (by first | rfl | kernel_rfl) ?_); simp (disch := omega) only [u, i64, ax, eq_self, if_true, if_false, Nat.reduceAdd, Int.reduceToNat, Int.reduceAdd, tvs, bs]; refine aft_any ?_)) | refine G_seq ?_ | refine G_block ?_ | refine G_condT rfl ?_ | refine G_condF rfl ?_ | refine G_skip ?_ | refine G_ret ?_ | refine G_exit ?_ | refine q_tn ?_ | refine q_tr ?_ | refine q_tx ?_ | refine q_bn ?_ | refine q_br ?_ | refine q_bx ?_ | refine q_by (by decide) ?_)
  ((first | refine G_sreg mixed (by first | rfl | kernel_rfl) ?_ | refine G_reg mixed (by first | rfl | kernel_rfl) ?_); simp (disch := omega) only [u, i64, ax, eq_self, if_true, if_false, Nat.reduceAdd, Int.reduceToNat, Int.reduceAdd, tvs, bs])
  (refine callK_ret (ret_view xs hx (by omega)) (by (simp (disch := omega) only [if_true, forall_const, reduceCtorEq, implies_true, bz]) <;> rfl) ?_; simp (disch := omega) only [u, i64, ax, eq_self, if_true, if_false, Nat.reduceAdd, Int.reduceToNat, Int.reduceAdd, tvs, bs]; try refine aft_any ?_)
  have hX := length_words_val_le hx
  have hW := Wd_words (val xs)
  have hv := val_words (val xs)
  simp only [nat]
  generalize words (val xs) = X at *
  by_cases h0 : X.length = 0
  · have : X = [] := List.eq_nil_of_length_eq_zero h0
    subst this
    exact absurd hv.symm hne
  have hr : s % 64 < 64 := Nat.mod_lt _ (by decide)
  have hsq : s = 64 * (s / 64) + s % 64 := (Nat.div_add_mod s 64).symm
  repeat (first | (((first | refine G_sreg mixed (by first | rfl | kernel_rfl) ?_ | refine G_reg mixed (by first | rfl | kernel_rfl) ?_); simp (disch := omega) only [u, i64, ax, eq_self, if_true, if_false, Nat.reduceAdd, Int.reduceToNat, Int.reduceAdd, tvs, bs]; refine aft_any ?_)) | refine G_seq ?_ | refine G_block ?_ | refine G_condT rfl ?_ | refine G_condF rfl ?_ | refine G_skip ?_ | refine G_ret ?_ | refine G_exit ?_ | refine q_tn ?_ | refine q_tr ?_ | refine q_tx ?_ | refine q_bn ?_ | refine q_br ?_ | refine q_bx ?_ | refine q_by (by decide) ?_)
  refine AWp_loop (fun i : Nat × List Nat => mk 58 [(0, ws X), (1, i64 s), (5, .own 0 0 0 (X.length + s / 64 + 1) 1), (20, ws X), (21, i64 X.length), (22, i64 i.1)] [⟨0, true, us i.2⟩])
      (fun i => i.1 ≤ X.length ∧ i.2.length = X.length + s / 64 + 1 ∧ Wd i.2 ∧ i.2.getD (i.1 + s / 64) 0 < 2 ^ (s % 64) ∧ (∀ k, i.1 + s / 64 < k → i.2.getD k 0 = 0) ∧ val (i.2.take (i.1 + s / 64)) + 18446744073709551616 ^ (i.1 + s / 64) * i.2.getD (i.1 + s / 64) 0 = val (X.take i.1) * 2 ^ s) (fun i => X.length - i.1) (0, List.replicate (X.length + s / 64 + 1) 0) ?_
      ⟨Nat.zero_le _, by simp, Wd_replicate _ (by decide), by rw [getD_rep]; exact Nat.two_pow_pos _, fun k _ => getD_rep _ _, by simp only [getD_rep]; simp [val, val_replicate_zero]⟩ ?_
  · simp only [u, i64, Nat.reduceSub, Nat.reduceAdd, bm]
  rintro ⟨n, os⟩ ⟨h1, h2, h3, h4, h5, h6⟩
  simp only at h1 h2 h3 h4 h5 h6
  simp only [u, i64, Nat.reduceSub, Nat.reduceAdd, bm]
  by_cases hn : n < X.length
  · have hw := hW.getD n
    have ho := h3.getD (n + s / 64)
    have e1 := val_take_getD X n
    have hlow : X.getD n 0 * 2 ^ (s % 64) % 18446744073709551616 < 18446744073709551616 := Nat.mod_lt _ (by decide)
    have hor := or_add _ _ _ hr h4 hw
    have horb : os.getD (n + s / 64) 0 ||| (X.getD n 0 * 2 ^ (s % 64) % 18446744073709551616) < 18446744073709551616 := Nat.or_lt_two_pow (n := 64) ho hlow
    have hhi := div_lt_two (X.getD n 0) (s % 64) hw
    have hmd : X.getD n 0 * 2 ^ (s % 64) % 18446744073709551616 + X.getD n 0 * 2 ^ (s % 64) / 18446744073709551616 * 18446744073709551616 = X.getD n 0 * 2 ^ (s % 64) := by omega
    have h6' := h6
    rw [Nat.pow_add] at h6'
    have hfin := shl_step h6' hmd
    have hs2 : 2 ^ s = 18446744073709551616 ^ (s / 64) * 2 ^ (s % 64) := by rw [Bpow, ← Nat.pow_add, ← hsq]
    have hB : 2 ^ (s % 64) ≤ 2 ^ 64 := Nat.pow_le_pow_right (by decide) (by omega)
    by_cases hr0 : 0 < s % 64
    · have hsd := shr_div (X.getD n 0) _ hr hr0
      repeat (first | (((first | refine G_sreg mixed (by first | rfl | kernel_rfl) ?_ | refine G_reg mixed (by first | rfl | kernel_rfl) ?_); simp (disch := omega) only [u, i64, ax, eq_self, if_true, if_false, Nat.reduceAdd, Int.reduceToNat, Int.reduceAdd, tvs, bs]; refine aft_any ?_)) | refine G_seq ?_ | refine G_block ?_ | refine G_condT rfl ?_ | refine G_condF rfl ?_ | refine G_skip ?_ | refine G_ret ?_ | refine G_exit ?_ | refine q_tn ?_ | refine q_tr ?_ | refine q_tx ?_ | refine q_bn ?_ | refine q_br ?_ | refine q_bx ?_ | refine q_by (by decide) ?_)
      refine ⟨(n + 1, (os.set (n + s / 64) (os.getD (n + s / 64) 0 ||| (X.getD n 0 * 2 ^ (s % 64) % 18446744073709551616))).set (n + s / 64 + 1) (X.getD n 0 / 2 ^ (64 - s % 64))), ?_, ⟨hn, by simpa using h2, (h3.set _ horb).set _ (by rw [hsd]; exact Nat.lt_of_lt_of_le hhi hB), ?_, ?_, ?_⟩, by simp only; omega⟩
      · simp only [u, i64, Nat.reduceSub, Nat.reduceAdd, bm]
      · simp only
        rw [show n + 1 + s / 64 = n + s / 64 + 1 by omega, getD_set_self _ _ _ (by simp; omega), hsd]
        exact hhi
      · intro k hk
        simp only at hk ⊢
        rw [getD_set_ne _ _ _ _ (by omega), getD_set_ne _ _ _ _ (by omega)]
        exact h5 k (by omega)
      · simp only
        rw [show n + 1 + s / 64 = n + s / 64 + 1 by omega, getD_set_self _ _ _ (by simp; omega), List.take_set_of_le (by omega), val_set_take _ _ _ (by omega), hsd, hor, e1, Nat.add_mul, hs2, ← hs2, Nat.pow_succ, Nat.pow_add]
        rw [hfin, hs2, Nat.mul_assoc (18446744073709551616 ^ n)]
    · have hr1 : s % 64 = 0 := by omega
      repeat (first | (((first | refine G_sreg mixed (by first | rfl | kernel_rfl) ?_ | refine G_reg mixed (by first | rfl | kernel_rfl) ?_); simp (disch := omega) only [u, i64, ax, eq_self, if_true, if_false, Nat.reduceAdd, Int.reduceToNat, Int.reduceAdd, tvs, bs]; refine aft_any ?_)) | refine G_seq ?_ | refine G_block ?_ | refine G_condT rfl ?_ | refine G_condF rfl ?_ | refine G_skip ?_ | refine G_ret ?_ | refine G_exit ?_ | refine q_tn ?_ | refine q_tr ?_ | refine q_tx ?_ | refine q_bn ?_ | refine q_br ?_ | refine q_bx ?_ | refine q_by (by decide) ?_)
      refine ⟨(n + 1, os.set (n + s / 64) (os.getD (n + s / 64) 0 ||| (X.getD n 0 * 2 ^ (s % 64) % 18446744073709551616))), ?_, ⟨hn, by simpa using h2, h3.set _ horb, ?_, ?_, ?_⟩, by simp only; omega⟩
      · simp only [u, i64, Nat.reduceSub, Nat.reduceAdd, bm]
      · simp only
        rw [getD_set_ne _ _ _ _ (by omega), h5 (n + 1 + s / 64) (by omega)]
        exact Nat.two_pow_pos _
      · intro k hk
        simp only at hk ⊢
        rw [getD_set_ne _ _ _ _ (by omega)]
        exact h5 k (by omega)
      · have hh0 : X.getD n 0 * 2 ^ (s % 64) / 18446744073709551616 = 0 := by rw [hr1, Nat.pow_zero, Nat.mul_one]; exact Nat.div_eq_of_lt hw
        rw [hh0, Nat.mul_zero, Nat.add_zero] at hfin
        simp only
        rw [getD_set_ne _ _ _ _ (by omega), h5 (n + 1 + s / 64) (by omega), Nat.mul_zero, Nat.add_zero, show n + 1 + s / 64 = n + s / 64 + 1 by omega, val_set_take _ _ _ (by omega), hor, e1, Nat.add_mul, Nat.pow_add]
        rw [hfin, hs2, Nat.mul_assoc (18446744073709551616 ^ n)]
  · have hn0 : n = X.length := by omega
    subst hn0
    have hall : val os = val xs * 2 ^ s := by
      have e := val_take_getD os (X.length + s / 64)
      rw [List.take_of_length_le (by omega), h6, List.take_length, hv] at e
      exact e
    have hne2 : val xs * 2 ^ s ≠ 0 := Nat.mul_ne_zero hne (Nat.ne_of_gt (Nat.two_pow_pos s))
    have hF := retF_Trim os (by rw [hall]; exact hne2) h3 (by omega)
    rw [hall] at hF
    repeat (first | (((first | refine G_sreg mixed (by first | rfl | kernel_rfl) ?_ | refine G_reg mixed (by first | rfl | kernel_rfl) ?_); simp (disch := omega) only [u, i64, ax, eq_self, if_true, if_false, Nat.reduceAdd, Int.reduceToNat, Int.reduceAdd, tvs, bs]; refine aft_any ?_)) | refine G_seq ?_ | refine G_block ?_ | refine G_condT rfl ?_ | refine G_condF rfl ?_ | refine G_skip ?_ | refine G_ret ?_ | refine G_exit ?_ | refine q_tn ?_ | refine q_tr ?_ | refine q_tx ?_ | refine q_bn ?_ | refine q_br ?_ | refine q_bx ?_ | refine q_by (by decide) ?_)
    ((first | refine G_sregL 1 mixed (by first | rfl | kernel_rfl) rfl rfl ?_ | refine G_regL 1 mixed (by first | rfl | kernel_rfl) rfl rfl ?_); simp (disch := omega) only [u, i64, ax, eq_self, if_true, if_false, Nat.reduceAdd, Int.reduceToNat, Int.reduceAdd, tvs, bs, tk_0, tk_S]; refine aft_any ?_)
    (refine LStep_fresh rfl (by rfl) (by simp (disch := omega) only [u, i64, ax, eq_self, if_true, if_false, Nat.reduceAdd, Int.reduceToNat, Int.reduceAdd, tvs, bs]; (simp (disch := omega) only [if_true, forall_const, reduceCtorEq, implies_true, bz]) <;> rfl) (us_noMem _) hF ?_; simp (disch := omega) only [u, i64, ax, eq_self, if_true, if_false, Nat.reduceAdd, Int.reduceToNat, Int.reduceAdd, tvs, bs, mp_0, mp_S, ap_0, ap_S, tk_0, tk_S, us_length]; try refine aft_any ?_)
    repeat (first | (((first | refine G_sreg mixed (by first | rfl | kernel_rfl) ?_ | refine G_reg mixed (by first | rfl | kernel_rfl) ?_); simp (disch := omega) only [u, i64, ax, eq_self, if_true, if_false, Nat.reduceAdd, Int.reduceToNat, Int.reduceAdd, tvs, bs]; refine aft_any ?_)) | refine G_seq ?_ | refine G_block ?_ | refine G_condT rfl ?_ | refine G_condF rfl ?_ | refine G_skip ?_ | refine G_ret ?_ | refine G_exit ?_ | refine q_tn ?_ | refine q_tr ?_ | refine q_tx ?_ | refine q_bn ?_ | refine q_br ?_ | refine q_bx ?_ | refine q_by (by decide) ?_)
    refine FinQF hQ (congrArg Array.toList Tryd.results92) _ _ _ _ _ _ _ rfl rfl (by simp [us_length]) (by rw [List.take_of_length_le (by simp [us_length])]) (us_noMem _)
end Go.Proofs
