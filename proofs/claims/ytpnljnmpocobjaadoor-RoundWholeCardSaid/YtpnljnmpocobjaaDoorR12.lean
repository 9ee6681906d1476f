/-
  Contracts of functions of the program, each proved by a walk.
-/
import Derived.Test.YtpnljnmpocobjaaDoorR11
set_option linter.unusedVariables false
set_option linter.unusedSimpArgs false
namespace Go.Proofs
open Go.Ax

theorem right_word {R a s : Nat} (hs : s < 64) (ha : a < 18446744073709551616) : (R * 18446744073709551616 + a) / 2 ^ s = R * 2 ^ (64 - s) + a / 2 ^ s ∧ (R * 18446744073709551616 + a) % 2 ^ s = a % 2 ^ s ∧ a * 2 ^ (64 - s) % 18446744073709551616 = a % 2 ^ s * 2 ^ (64 - s) := by
  have e : 18446744073709551616 = 2 ^ s * 2 ^ (64 - s) := by rw [← Nat.pow_add, show s + (64 - s) = 64 by omega]
  refine ⟨?_, ?_, ?_⟩
  · rw [e, Nat.mul_left_comm, Nat.add_comm, Nat.add_mul_div_left _ _ (Nat.two_pow_pos s), Nat.add_comm]
  · rw [e, Nat.mul_left_comm, Nat.add_comm, Nat.add_mul_mod_self_left]
  · rw [e, Nat.mul_comm (2 ^ s), Nat.mul_comm a, Nat.mul_mod_mul_left, Nat.mul_comm]
set_option maxRecDepth 100000 in
set_option maxHeartbeats 1000000 in
theorem ret_rRight1 (xs : List Nat) (s : Nat) (hx : Wd xs) (hs : s < 64) (hl : xs.length ≤ 34359738368) : ∃ f : Nat, Ret Tryd.prog GEs 175 [ws xs, i64 s] (.tup [ws (wf xs.length (val xs / 2 ^ s)), u f]) := by
  refine ⟨if s = 0 then 0 else val xs % 2 ^ s * 2 ^ (64 - s), ?_⟩
  have hp := Nat.two_pow_pos s
  refine RetN_start Tryd.func175 (by kernel_rfl) rfl fun Q hQ hQ2 => ?_; rw [Tryd.ntmps175]; simp only [u, i64, Nat.reduceSub, Nat.reduceAdd, bm]
  repeat (first | (((first | refine G_sreg mixed (by first | rfl | kernel_rfl) ?_ | refine G_reg mixed (by first | rfl | kernel_rfl) ?_); simp (disch := omega) only [u, i64, ax, eq_self, if_true, if_false, Nat.reduceAdd, Int.reduceToNat, Int.reduceAdd, tvs, bs]; refine aft_any ?_)) | refine G_seq ?_ | refine G_block ?_ | refine G_condT rfl ?_ | refine G_condF rfl ?_ | refine G_skip ?_ | refine G_ret ?_ | refine G_exit ?_ | refine q_tn ?_ | refine q_tr ?_ | refine q_tx ?_ | refine q_bn ?_ | refine q_br ?_ | refine q_bx ?_ | refine q_by (by decide) ?_)
  refine AWp_loop (fun i : Nat × List Nat => mk 41 [(0, ws xs), (1, i64 s), (6, .own 0 0 0 xs.length 1), (7, u (if s = 0 then 0 else val (xs.drop i.1) % 2 ^ s * 2 ^ (64 - s))), (8, i64 ((i.1 : Int) - 1))] [⟨0, true, us i.2⟩])
    (fun i => i.1 ≤ xs.length ∧ i.2.length = xs.length ∧ Wd i.2 ∧ val (i.2.drop i.1) = val (xs.drop i.1) / 2 ^ s) (fun i => i.1) (xs.length, List.replicate xs.length 0) ?_ ⟨Nat.le_refl _, by simp, Wd_replicate _ (by decide), by simp [val]⟩ ?_
  · have : (if s = 0 then 0 else val (xs.drop xs.length) % 2 ^ s * 2 ^ (64 - s)) = 0 := by simp [val]
    simp only [this]
    simp only [u, i64, Nat.reduceSub, Nat.reduceAdd, bm]
  rintro ⟨n, os⟩ ⟨h1, h2, h3, h4⟩
  simp only at h1 h2 h3 h4
  simp only [u, i64, Nat.reduceSub, Nat.reduceAdd, bm]
  by_cases hn : 1 ≤ n
  · obtain ⟨m, rfl⟩ : ∃ m, n = m + 1 := ⟨n - 1, by omega⟩
    have ha := hx.getD m
    have hst := divw_step (a := xs.getD m 0) hp h4 rfl
    have hq := divw_lt (Nat.mod_lt (val (xs.drop (m + 1))) hp) ha
    have hv := val_drop xs m (by omega)
    rw [← hv] at hst
    obtain ⟨r1, r2, r3⟩ := right_word (R := val (xs.drop (m + 1)) % 2 ^ s) hs ha
    obtain ⟨q, hqd⟩ : ∃ q, (val (xs.drop (m + 1)) % 2 ^ s * 18446744073709551616 + xs.getD m 0) / 2 ^ s = q := ⟨_, rfl⟩
    have hs2 := val_drop_set os m q (by omega)
    rw [hqd] at hst hq r1
    rw [hst.1] at hs2
    have hmod : xs.getD m 0 % 2 ^ s = val (xs.drop m) % 2 ^ s := by rw [← r2]; exact hst.2
    have hx2 : xs.getD m 0 / 2 ^ s < 18446744073709551616 := Nat.lt_of_le_of_lt (Nat.div_le_self _ _) ha
    simp only [Int.natCast_add, Int.natCast_one, Int.add_sub_cancel]
    by_cases h0 : s = 0
    · subst h0
      simp only [if_true, Nat.pow_zero, Nat.mod_one, Nat.zero_mul, Nat.zero_add, Nat.div_one] at r1 hx2 hs2 h4 ⊢
      repeat (first | (((first | refine G_sreg mixed (by first | rfl | kernel_rfl) ?_ | refine G_reg mixed (by first | rfl | kernel_rfl) ?_); simp (disch := omega) only [u, i64, ax, eq_self, if_true, if_false, Nat.reduceAdd, Int.reduceToNat, Int.reduceAdd, tvs, bs]; refine aft_any ?_)) | refine G_seq ?_ | refine G_block ?_ | refine G_condT rfl ?_ | refine G_condF rfl ?_ | refine G_skip ?_ | refine G_ret ?_ | refine G_exit ?_ | refine q_tn ?_ | refine q_tr ?_ | refine q_tx ?_ | refine q_bn ?_ | refine q_br ?_ | refine q_bx ?_ | refine q_by (by decide) ?_)
      refine ⟨(m, os.set m q), ?_, ⟨by simp only; omega, by simpa using h2, h3.set m hq, by simpa using hs2⟩, by simp only; omega⟩
      simp only [if_true]
      rw [r1]
      simp only [Int.zero_add, Nat.pow_zero, Nat.div_one, wrapU_mod, Nat.mod_eq_of_lt ha, us_set]
      simp only [u, i64, Nat.reduceSub, Nat.reduceAdd, bm]
    · simp only [if_neg h0]
      have hw1 : val (xs.drop (m + 1)) % 2 ^ s * 2 ^ (64 - s) < 18446744073709551616 := by
        have e : 18446744073709551616 = 2 ^ s * 2 ^ (64 - s) := by rw [← Nat.pow_add, show s + (64 - s) = 64 by omega]
        rw [e]; exact (Nat.mul_lt_mul_right (Nat.two_pow_pos _)).2 (Nat.mod_lt _ hp)
      have hw2 : val (xs.drop (m + 1)) % 2 ^ s * 2 ^ (64 - s) + xs.getD m 0 / 2 ^ s < 18446744073709551616 := by rw [← r1]; exact hq
      repeat (first | (((first | refine G_sreg mixed (by first | rfl | kernel_rfl) ?_ | refine G_reg mixed (by first | rfl | kernel_rfl) ?_); simp (disch := omega) only [u, i64, ax, eq_self, if_true, if_false, Nat.reduceAdd, Int.reduceToNat, Int.reduceAdd, tvs, bs]; refine aft_any ?_)) | refine G_seq ?_ | refine G_block ?_ | refine G_condT rfl ?_ | refine G_condF rfl ?_ | refine G_skip ?_ | refine G_ret ?_ | refine G_exit ?_ | refine q_tn ?_ | refine q_tr ?_ | refine q_tx ?_ | refine q_bn ?_ | refine q_br ?_ | refine q_bx ?_ | refine q_by (by decide) ?_)
      refine ⟨(m, os.set m q), ?_, ⟨by simp only; omega, by simpa using h2, h3.set m hq, hs2⟩, by simp only; omega⟩
      simp only [if_neg h0]
      rw [r1, ← hmod, ← r3]
      simp only [u, i64, Nat.reduceSub, Nat.reduceAdd, bm]
  · have hn0 : n = 0 := by omega
    subst hn0
    simp only [List.drop_zero] at h4 ⊢
    have he := wf_val os h3
    rw [h2, h4] at he
    rw [he] at hQ
    repeat (first | (((first | refine G_sreg mixed (by first | rfl | kernel_rfl) ?_ | refine G_reg mixed (by first | rfl | kernel_rfl) ?_); simp (disch := omega) only [u, i64, ax, eq_self, if_true, if_false, Nat.reduceAdd, Int.reduceToNat, Int.reduceAdd, tvs, bs]; refine aft_any ?_)) | refine G_seq ?_ | refine G_block ?_ | refine G_condT rfl ?_ | refine G_condF rfl ?_ | refine G_skip ?_ | refine G_ret ?_ | refine G_exit ?_ | refine q_tn ?_ | refine q_tr ?_ | refine q_tx ?_ | refine q_bn ?_ | refine q_br ?_ | refine q_bx ?_ | refine q_by (by decide) ?_)
    (refine FinQ hQ (congrArg Array.toList Tryd.results175) _ _ ?_); simp (disch := omega) only [u, i64, ax, if_true, forall_const, reduceCtorEq, implies_true, tvs, bf]

theorem val_div (xs : List Nat) (s : Nat) (hx : Wd xs) (h : s / 64 ≤ xs.length) : val (xs.drop (s / 64)) / 2 ^ (s % 64) = val xs / 2 ^ s := by
  have e := val_split xs (s / 64) h
  have hl := val_lt (hx.take (s / 64))
  rw [List.length_take, Nat.min_eq_left h] at hl
  have hB : 0 < 18446744073709551616 ^ (s / 64) := Nat.pow_pos (by decide)
  have e1 : val xs / 18446744073709551616 ^ (s / 64) = val (xs.drop (s / 64)) := by
    rw [e, Nat.add_mul_div_left _ _ hB, Nat.div_eq_of_lt hl, Nat.zero_add]
  rw [← e1, Nat.div_div_eq_div_mul, Bpow, ← Nat.pow_add, Nat.div_add_mod]
set_option maxRecDepth 100000 in
theorem ret_rRight (xs : List Nat) (s : Nat) (hx : Wd xs) (hl : xs.length ≤ 34359738368) (hs : s ≤ 1099511627776) : Ret Tryd.prog GEs 135 [ws xs, i64 s] (nat (val xs / 2 ^ s)) := by
  have hr : s % 64 < 64 := Nat.mod_lt _ (by decide)
  refine RetN_start Tryd.func135 (by kernel_rfl) rfl fun Q hQ hQ2 => ?_; rw [Tryd.ntmps135]; simp only [u, i64, Nat.reduceSub, Nat.reduceAdd, bm]
  by_cases h : s / 64 < xs.length
  · obtain ⟨f, hR⟩ := ret_rRight1 (xs.drop (s / 64)) (s % 64) (hx.drop _) hr (by rw [List.length_drop]; omega)
    have hdl : (xs.drop (s / 64)).length = xs.length - s / 64 := by rw [List.length_drop]
    have hlt : val (xs.drop (s / 64)) / 2 ^ (s % 64) < 18446744073709551616 ^ (xs.drop (s / 64)).length := Nat.lt_of_le_of_lt (Nat.div_le_self _ _) (val_lt (hx.drop _))
    have hT := ret_rTrim (wf (xs.drop (s / 64)).length (val (xs.drop (s / 64)) / 2 ^ (s % 64))) (wf_Wd _ _) (by rw [wf_length]; omega)
    rw [val_wf _ _ hlt] at hT
    repeat (first | (((first | refine G_sreg mixed (by first | rfl | kernel_rfl) ?_ | refine G_reg mixed (by first | rfl | kernel_rfl) ?_); simp (disch := omega) only [u, i64, ax, eq_self, if_true, if_false, Nat.reduceAdd, Int.reduceToNat, Int.reduceAdd, tvs, bs]; refine aft_any ?_)) | refine G_seq ?_ | refine G_block ?_ | refine G_condT rfl ?_ | refine G_condF rfl ?_ | refine G_skip ?_ | refine G_ret ?_ | refine G_exit ?_ | refine q_tn ?_ | refine q_tr ?_ | refine q_tx ?_ | refine q_bn ?_ | refine q_br ?_ | refine q_bx ?_ | refine q_by (by decide) ?_)
    ((first | refine G_sreg mixed (by first | rfl | kernel_rfl) ?_ | refine G_reg mixed (by first | rfl | kernel_rfl) ?_); simp (disch := omega) only [u, i64, ax, eq_self, if_true, if_false, Nat.reduceAdd, Int.reduceToNat, Int.reduceAdd, tvs, bs])
    rw [← hdl]
    (refine callK_ret hR (by (simp (disch := omega) only [if_true, forall_const, reduceCtorEq, implies_true, bz]) <;> rfl) ?_; simp (disch := omega) only [u, i64, ax, eq_self, if_true, if_false, Nat.reduceAdd, Int.reduceToNat, Int.reduceAdd, tvs, bs]; try refine aft_any ?_)
    repeat (first | (((first | refine G_sreg mixed (by first | rfl | kernel_rfl) ?_ | refine G_reg mixed (by first | rfl | kernel_rfl) ?_); simp (disch := omega) only [u, i64, ax, eq_self, if_true, if_false, Nat.reduceAdd, Int.reduceToNat, Int.reduceAdd, tvs, bs]; refine aft_any ?_)) | refine G_seq ?_ | refine G_block ?_ | refine G_condT rfl ?_ | refine G_condF rfl ?_ | refine G_skip ?_ | refine G_ret ?_ | refine G_exit ?_ | refine q_tn ?_ | refine q_tr ?_ | refine q_tx ?_ | refine q_bn ?_ | refine q_br ?_ | refine q_bx ?_ | refine q_by (by decide) ?_)
    ((first | refine G_sreg mixed (by first | rfl | kernel_rfl) ?_ | refine G_reg mixed (by first | rfl | kernel_rfl) ?_); simp (disch := omega) only [u, i64, ax, eq_self, if_true, if_false, Nat.reduceAdd, Int.reduceToNat, Int.reduceAdd, tvs, bs])
    (refine callK_ret hT (by (simp (disch := omega) only [if_true, forall_const, reduceCtorEq, implies_true, bz]) <;> rfl) ?_; simp (disch := omega) only [u, i64, ax, eq_self, if_true, if_false, Nat.reduceAdd, Int.reduceToNat, Int.reduceAdd, tvs, bs]; try refine aft_any ?_)
    rw [val_div xs s hx (by omega)]
    repeat (first | (((first | refine G_sreg mixed (by first | rfl | kernel_rfl) ?_ | refine G_reg mixed (by first | rfl | kernel_rfl) ?_); simp (disch := omega) only [u, i64, ax, eq_self, if_true, if_false, Nat.reduceAdd, Int.reduceToNat, Int.reduceAdd, tvs, bs]; refine aft_any ?_)) | refine G_seq ?_ | refine G_block ?_ | refine G_condT rfl ?_ | refine G_condF rfl ?_ | refine G_skip ?_ | refine G_ret ?_ | refine G_exit ?_ | refine q_tn ?_ | refine q_tr ?_ | refine q_tx ?_ | refine q_bn ?_ | refine q_br ?_ | refine q_bx ?_ | refine q_by (by decide) ?_)
    (refine FinQ hQ (congrArg Array.toList Tryd.results135) _ _ ?_); simp (disch := omega) only [u, i64, ax, if_true, forall_const, reduceCtorEq, implies_true, tvs, bf]
  · have hz : val xs / 2 ^ s = 0 := by
      refine Nat.div_eq_of_lt (Nat.lt_of_lt_of_le (val_lt hx) ?_)
      rw [Bpow]; exact Nat.pow_le_pow_right (by decide) (by omega)
    rw [hz] at hQ
    repeat (first | (((first | refine G_sreg mixed (by first | rfl | kernel_rfl) ?_ | refine G_reg mixed (by first | rfl | kernel_rfl) ?_); simp (disch := omega) only [u, i64, ax, eq_self, if_true, if_false, Nat.reduceAdd, Int.reduceToNat, Int.reduceAdd, tvs, bs]; refine aft_any ?_)) | refine G_seq ?_ | refine G_block ?_ | refine G_condT rfl ?_ | refine G_condF rfl ?_ | refine G_skip ?_ | refine G_ret ?_ | refine G_exit ?_ | refine q_tn ?_ | refine q_tr ?_ | refine q_tx ?_ | refine q_bn ?_ | refine q_br ?_ | refine q_bx ?_ | refine q_by (by decide) ?_)
    (refine FinQ hQ (congrArg Array.toList Tryd.results135) _ _ ?_); simp (disch := omega) only [u, i64, ax, if_true, forall_const, reduceCtorEq, implies_true, tvs, bf]
    simp [nat, words_zero, us]
end Go.Proofs
