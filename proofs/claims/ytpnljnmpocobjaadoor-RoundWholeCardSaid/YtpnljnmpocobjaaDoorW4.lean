/-
  Contracts of functions of the program, each proved by a walk.
-/
import Derived.Test.YtpnljnmpocobjaaDoorW3
set_option linter.unusedVariables false
set_option linter.unusedSimpArgs false
namespace Go.Proofs
open Go.Ax

theorem val_set_take (os : List Nat) (n v : Nat) (h : n < os.length) : val ((os.set n v).take (n + 1)) = val (os.take n) + 18446744073709551616 ^ n * v := by
  rw [val_take_succ _ n (by simpa using h), List.getD_eq_getElem?_getD, List.getElem?_set_self h, List.take_set_of_le (Nat.le_refl n)]
  rfl
theorem val_take_over (xs : List Nat) (n : Nat) (h : xs.length ≤ n) : val (xs.take (n + 1)) = val (xs.take n) := by
  rw [List.take_of_length_le (by omega), List.take_of_length_le h]
theorem getD_over (xs : List Nat) (n : Nat) (h : xs.length ≤ n) : xs.getD n 0 = 0 := by
  rw [List.getD_eq_getElem?_getD, List.getElem?_eq_none h]; rfl
theorem val_take_getD (xs : List Nat) (n : Nat) : val (xs.take (n + 1)) = val (xs.take n) + 18446744073709551616 ^ n * xs.getD n 0 := by
  rcases Nat.lt_or_ge n xs.length with h | h
  · exact val_take_succ xs n h
  · rw [val_take_over xs n h, getD_over xs n h]; rfl
theorem add_step (p a b s c x y : Nat) (h : s + c * p = a + b) : s + p * ((x + y + c) % 18446744073709551616) + (x + y + c) / 18446744073709551616 * (p * 18446744073709551616) = a + p * x + (b + p * y) := by
  have e : p * ((x + y + c) % 18446744073709551616) + (x + y + c) / 18446744073709551616 * (p * 18446744073709551616) = p * (x + y + c) := by
    rw [Nat.mul_comm ((x + y + c) / 18446744073709551616), Nat.mul_assoc, ← Nat.mul_add, Nat.mod_add_div]
  rw [Nat.add_assoc, e, Nat.mul_add, Nat.mul_add, Nat.mul_comm p c]
  omega

theorem retx_Add64b (x y c : Nat) (hx : x < 18446744073709551616) (hy : y < 18446744073709551616) (hc : c ≤ 1) : RetX Tryd.prog 151 [u x, u y, u c] (.tup [u ((x + y + c) % 18446744073709551616), u ((x + y + c) / 18446744073709551616)]) := retx_Add64 x y c hc

set_option maxRecDepth 100000 in
theorem ret_Add (xs ys : List Nat) (hx : Wd xs) (hy : Wd ys) (hlx : xs.length ≤ 1099511627775) (hly : ys.length ≤ 1099511627775) : Ret Tryd.prog GEs 93 [ws xs, ws ys] (nat (val xs + val ys)) := by
  refine RetN_start Tryd.func93 (by kernel_rfl) rfl fun Q hQ hQ2 => ?_
  rw [Tryd.ntmps93]; simp only [u, i64, Nat.reduceSub, Nat.reduceAdd, bm]
  rcases Nat.lt_or_ge xs.length ys.length with h | h
  · repeat (first | (((first | refine G_sreg mixed (by first | rfl | kernel_rfl) ?_ | refine G_reg mixed (by first | rfl | kernel_rfl) ?_); simp (disch := omega) only [u, i64, ax, eq_self, if_true, if_false, Nat.reduceAdd, Int.reduceToNat, Int.reduceAdd, tvs, bs]; refine aft_any ?_)) | refine G_seq ?_ | refine G_block ?_ | refine G_condT rfl ?_ | refine G_condF rfl ?_ | refine G_skip ?_ | refine G_ret ?_ | refine G_exit ?_ | refine q_tn ?_ | refine q_tr ?_ | refine q_tx ?_ | refine q_bn ?_ | refine q_br ?_ | refine q_bx ?_ | refine q_by (by decide) ?_)
    have hX : Wd ys := by assumption
    have hY : Wd xs := by assumption
    refine AWp_loop (fun i : Nat × List Nat × Nat => mk 54 [(0, ws ys), (1, ws xs), (5, .own 0 0 0 (ys.length + 1) 1), (6, u i.2.2), (21, i64 ys.length), (22, i64 i.1)] [⟨0, true, us i.2.1⟩])
      (fun i => i.1 ≤ ys.length ∧ i.2.1.length = ys.length + 1 ∧ Wd i.2.1 ∧ i.2.2 ≤ 1 ∧ val (i.2.1.take i.1) + i.2.2 * 18446744073709551616 ^ i.1 = val (ys.take i.1) + val (xs.take i.1)) (fun i => ys.length - i.1) (0, List.replicate (ys.length + 1) 0, 0) ?_ ⟨Nat.zero_le _, by simp, Wd_replicate _ (by decide), by simp, by simp [val]⟩ ?_
    · simp only [u, i64, Nat.reduceSub, Nat.reduceAdd, bm]
    rintro ⟨n, os, c⟩ ⟨h1, h2, h3, h4, h5⟩
    simp only at h1 h2 h3 h4 h5
    simp only [u, i64, Nat.reduceSub, Nat.reduceAdd, bm]
    by_cases hn : n < ys.length
    · have e1 := val_take_getD ys n
      have e2 := val_take_getD xs n
      have hxb := hX.getD n
      have hyb := hY.getD n
      have hs := val_set_take os n ((ys.getD n 0 + xs.getD n 0 + c) % 18446744073709551616) (by omega)
      have hc1 : (ys.getD n 0 + xs.getD n 0 + c) / 18446744073709551616 ≤ 1 := by omega
      by_cases hyn : n < xs.length
      · repeat (first | (((first | refine G_sreg mixed (by first | rfl | kernel_rfl) ?_ | refine G_reg mixed (by first | rfl | kernel_rfl) ?_); simp (disch := omega) only [u, i64, ax, eq_self, if_true, if_false, Nat.reduceAdd, Int.reduceToNat, Int.reduceAdd, tvs, bs]; refine aft_any ?_)) | refine G_seq ?_ | refine G_block ?_ | refine G_condT rfl ?_ | refine G_condF rfl ?_ | refine G_skip ?_ | refine G_ret ?_ | refine G_exit ?_ | refine q_tn ?_ | refine q_tr ?_ | refine q_tx ?_ | refine q_bn ?_ | refine q_br ?_ | refine q_bx ?_ | refine q_by (by decide) ?_)
        ((first | refine G_sreg mixed (by first | rfl | kernel_rfl) ?_ | refine G_reg mixed (by first | rfl | kernel_rfl) ?_); simp (disch := omega) only [u, i64, ax, eq_self, if_true, if_false, Nat.reduceAdd, Int.reduceToNat, Int.reduceAdd, tvs, bs])
        (refine callK_ext (retx_Add64b _ _ _ hxb hyb h4) rfl (by (simp (disch := omega) only [if_true, forall_const, reduceCtorEq, implies_true, bz]) <;> rfl) ?_; simp (disch := omega) only [u, i64, ax, eq_self, if_true, if_false, Nat.reduceAdd, Int.reduceToNat, Int.reduceAdd, tvs, bs]; try refine aft_any ?_)
        repeat (first | (((first | refine G_sreg mixed (by first | rfl | kernel_rfl) ?_ | refine G_reg mixed (by first | rfl | kernel_rfl) ?_); simp (disch := omega) only [u, i64, ax, eq_self, if_true, if_false, Nat.reduceAdd, Int.reduceToNat, Int.reduceAdd, tvs, bs]; refine aft_any ?_)) | refine G_seq ?_ | refine G_block ?_ | refine G_condT rfl ?_ | refine G_condF rfl ?_ | refine G_skip ?_ | refine G_ret ?_ | refine G_exit ?_ | refine q_tn ?_ | refine q_tr ?_ | refine q_tx ?_ | refine q_bn ?_ | refine q_br ?_ | refine q_bx ?_ | refine q_by (by decide) ?_)
        refine ⟨(n + 1, os.set n ((ys.getD n 0 + xs.getD n 0 + c) % 18446744073709551616), (ys.getD n 0 + xs.getD n 0 + c) / 18446744073709551616), ?_, ⟨hn, by simpa using h2, h3.set n (Nat.mod_lt _ (by decide)), hc1, ?_⟩, by simp only; omega⟩
        · simp only [u, i64, Nat.reduceSub, Nat.reduceAdd, bm]
        · simp only [hs, e1, e2, Nat.pow_succ]; exact add_step _ _ _ _ _ _ _ h5
      · have hy0 := getD_over xs n (by omega)
        rw [hy0] at hs hc1 e2
        have e3 := add_step _ _ _ _ c (ys.getD n 0) 0 h5
        simp only [Nat.add_zero] at hs hc1
        repeat (first | (((first | refine G_sreg mixed (by first | rfl | kernel_rfl) ?_ | refine G_reg mixed (by first | rfl | kernel_rfl) ?_); simp (disch := omega) only [u, i64, ax, eq_self, if_true, if_false, Nat.reduceAdd, Int.reduceToNat, Int.reduceAdd, tvs, bs]; refine aft_any ?_)) | refine G_seq ?_ | refine G_block ?_ | refine G_condT rfl ?_ | refine G_condF rfl ?_ | refine G_skip ?_ | refine G_ret ?_ | refine G_exit ?_ | refine q_tn ?_ | refine q_tr ?_ | refine q_tx ?_ | refine q_bn ?_ | refine q_br ?_ | refine q_bx ?_ | refine q_by (by decide) ?_)
        ((first | refine G_sreg mixed (by first | rfl | kernel_rfl) ?_ | refine G_reg mixed (by first | rfl | kernel_rfl) ?_); simp (disch := omega) only [u, i64, ax, eq_self, if_true, if_false, Nat.reduceAdd, Int.reduceToNat, Int.reduceAdd, tvs, bs])
        (refine callK_ext (retx_Add64b _ 0 _ hxb (by decide) h4) rfl (by (simp (disch := omega) only [if_true, forall_const, reduceCtorEq, implies_true, bz]) <;> rfl) ?_; simp (disch := omega) only [u, i64, ax, eq_self, if_true, if_false, Nat.reduceAdd, Int.reduceToNat, Int.reduceAdd, tvs, bs]; try refine aft_any ?_)
        repeat (first | (((first | refine G_sreg mixed (by first | rfl | kernel_rfl) ?_ | refine G_reg mixed (by first | rfl | kernel_rfl) ?_); simp (disch := omega) only [u, i64, ax, eq_self, if_true, if_false, Nat.reduceAdd, Int.reduceToNat, Int.reduceAdd, tvs, bs]; refine aft_any ?_)) | refine G_seq ?_ | refine G_block ?_ | refine G_condT rfl ?_ | refine G_condF rfl ?_ | refine G_skip ?_ | refine G_ret ?_ | refine G_exit ?_ | refine q_tn ?_ | refine q_tr ?_ | refine q_tx ?_ | refine q_bn ?_ | refine q_br ?_ | refine q_bx ?_ | refine q_by (by decide) ?_)
        refine ⟨(n + 1, os.set n ((ys.getD n 0 + c) % 18446744073709551616), (ys.getD n 0 + c) / 18446744073709551616), ?_, ⟨hn, by simpa using h2, h3.set n (Nat.mod_lt _ (by decide)), hc1, ?_⟩, by simp only; omega⟩
        · simp only [u, i64, Nat.reduceSub, Nat.reduceAdd, bm]
        · simp only [hs, e1, e2, Nat.pow_succ]; simpa only [Nat.add_zero] using e3
    · have hn0 : n = ys.length := by omega
      subst hn0
      have hs := val_set_take os ys.length c (by omega)
      rw [List.take_of_length_le (by simp; omega)] at hs
      have hv : val (os.set ys.length c) = val ys + val xs := by
        rw [hs, Nat.mul_comm, h5, List.take_length, List.take_of_length_le (by omega)]
      repeat (first | (((first | refine G_sreg mixed (by first | rfl | kernel_rfl) ?_ | refine G_reg mixed (by first | rfl | kernel_rfl) ?_); simp (disch := omega) only [u, i64, ax, eq_self, if_true, if_false, Nat.reduceAdd, Int.reduceToNat, Int.reduceAdd, tvs, bs]; refine aft_any ?_)) | refine G_seq ?_ | refine G_block ?_ | refine G_condT rfl ?_ | refine G_condF rfl ?_ | refine G_skip ?_ | refine G_ret ?_ | refine G_exit ?_ | refine q_tn ?_ | refine q_tr ?_ | refine q_tx ?_ | refine q_bn ?_ | refine q_br ?_ | refine q_bx ?_ | refine q_by (by decide) ?_)
      have hl2 : (os.set ys.length c).length = ys.length + 1 := by simp; omega
      refine G_cool0 ?_
      ((first | refine G_sreg mixed (by first | rfl | kernel_rfl) ?_ | refine G_reg mixed (by first | rfl | kernel_rfl) ?_); simp (disch := omega) only [u, i64, ax, eq_self, if_true, if_false, Nat.reduceAdd, Int.reduceToNat, Int.reduceAdd, tvs, bs])
      (refine callK_ret (ret_Trim (os.set ys.length c) (h3.set ys.length (v := c) (by omega)) (by simp; omega)) (by (simp (disch := omega) only [if_true, forall_const, reduceCtorEq, implies_true, bz]) <;> rfl) ?_; simp (disch := omega) only [u, i64, ax, eq_self, if_true, if_false, Nat.reduceAdd, Int.reduceToNat, Int.reduceAdd, tvs, bs]; try refine aft_any ?_)
      rw [hv]
      repeat (first | (((first | refine G_sreg mixed (by first | rfl | kernel_rfl) ?_ | refine G_reg mixed (by first | rfl | kernel_rfl) ?_); simp (disch := omega) only [u, i64, ax, eq_self, if_true, if_false, Nat.reduceAdd, Int.reduceToNat, Int.reduceAdd, tvs, bs]; refine aft_any ?_)) | refine G_seq ?_ | refine G_block ?_ | refine G_condT rfl ?_ | refine G_condF rfl ?_ | refine G_skip ?_ | refine G_ret ?_ | refine G_exit ?_ | refine q_tn ?_ | refine q_tr ?_ | refine q_tx ?_ | refine q_bn ?_ | refine q_br ?_ | refine q_bx ?_ | refine q_by (by decide) ?_)
      (refine FinQ hQ (congrArg Array.toList Tryd.results93) _ _ ?_); simp (disch := omega) only [u, i64, ax, if_true, forall_const, reduceCtorEq, implies_true, tvs, bf]
      first | done | rw [Nat.add_comm]
  · repeat (first | (((first | refine G_sreg mixed (by first | rfl | kernel_rfl) ?_ | refine G_reg mixed (by first | rfl | kernel_rfl) ?_); simp (disch := omega) only [u, i64, ax, eq_self, if_true, if_false, Nat.reduceAdd, Int.reduceToNat, Int.reduceAdd, tvs, bs]; refine aft_any ?_)) | refine G_seq ?_ | refine G_block ?_ | refine G_condT rfl ?_ | refine G_condF rfl ?_ | refine G_skip ?_ | refine G_ret ?_ | refine G_exit ?_ | refine q_tn ?_ | refine q_tr ?_ | refine q_tx ?_ | refine q_bn ?_ | refine q_br ?_ | refine q_bx ?_ | refine q_by (by decide) ?_)
    have hX : Wd xs := by assumption
    have hY : Wd ys := by assumption
    refine AWp_loop (fun i : Nat × List Nat × Nat => mk 54 [(0, ws xs), (1, ws ys), (5, .own 0 0 0 (xs.length + 1) 1), (6, u i.2.2), (21, i64 xs.length), (22, i64 i.1)] [⟨0, true, us i.2.1⟩])
      (fun i => i.1 ≤ xs.length ∧ i.2.1.length = xs.length + 1 ∧ Wd i.2.1 ∧ i.2.2 ≤ 1 ∧ val (i.2.1.take i.1) + i.2.2 * 18446744073709551616 ^ i.1 = val (xs.take i.1) + val (ys.take i.1)) (fun i => xs.length - i.1) (0, List.replicate (xs.length + 1) 0, 0) ?_ ⟨Nat.zero_le _, by simp, Wd_replicate _ (by decide), by simp, by simp [val]⟩ ?_
    · simp only [u, i64, Nat.reduceSub, Nat.reduceAdd, bm]
    rintro ⟨n, os, c⟩ ⟨h1, h2, h3, h4, h5⟩
    simp only at h1 h2 h3 h4 h5
    simp only [u, i64, Nat.reduceSub, Nat.reduceAdd, bm]
    by_cases hn : n < xs.length
    · have e1 := val_take_getD xs n
      have e2 := val_take_getD ys n
      have hxb := hX.getD n
      have hyb := hY.getD n
      have hs := val_set_take os n ((xs.getD n 0 + ys.getD n 0 + c) % 18446744073709551616) (by omega)
      have hc1 : (xs.getD n 0 + ys.getD n 0 + c) / 18446744073709551616 ≤ 1 := by omega
      by_cases hyn : n < ys.length
      · repeat (first | (((first | refine G_sreg mixed (by first | rfl | kernel_rfl) ?_ | refine G_reg mixed (by first | rfl | kernel_rfl) ?_); simp (disch := omega) only [u, i64, ax, eq_self, if_true, if_false, Nat.reduceAdd, Int.reduceToNat, Int.reduceAdd, tvs, bs]; refine aft_any ?_)) | refine G_seq ?_ | refine G_block ?_ | refine G_condT rfl ?_ | refine G_condF rfl ?_ | refine G_skip ?_ | refine G_ret ?_ | refine G_exit ?_ | refine q_tn ?_ | refine q_tr ?_ | refine q_tx ?_ | refine q_bn ?_ | refine q_br ?_ | refine q_bx ?_ | refine q_by (by decide) ?_)
        ((first | refine G_sreg mixed (by first | rfl | kernel_rfl) ?_ | refine G_reg mixed (by first | rfl | kernel_rfl) ?_); simp (disch := omega) only [u, i64, ax, eq_self, if_true, if_false, Nat.reduceAdd, Int.reduceToNat, Int.reduceAdd, tvs, bs])
        (refine callK_ext (retx_Add64b _ _ _ hxb hyb h4) rfl (by (simp (disch := omega) only [if_true, forall_const, reduceCtorEq, implies_true, bz]) <;> rfl) ?_; simp (disch := omega) only [u, i64, ax, eq_self, if_true, if_false, Nat.reduceAdd, Int.reduceToNat, Int.reduceAdd, tvs, bs]; try refine aft_any ?_)
        repeat (first | (((first | refine G_sreg mixed (by first | rfl | kernel_rfl) ?_ | refine G_reg mixed (by first | rfl | kernel_rfl) ?_); simp (disch := omega) only [u, i64, ax, eq_self, if_true, if_false, Nat.reduceAdd, Int.reduceToNat, Int.reduceAdd, tvs, bs]; refine aft_any ?_)) | refine G_seq ?_ | refine G_block ?_ | refine G_condT rfl ?_ | refine G_condF rfl ?_ | refine G_skip ?_ | refine G_ret ?_ | refine G_exit ?_ | refine q_tn ?_ | refine q_tr ?_ | refine q_tx ?_ | refine q_bn ?_ | refine q_br ?_ | refine q_bx ?_ | refine q_by (by decide) ?_)
        refine ⟨(n + 1, os.set n ((xs.getD n 0 + ys.getD n 0 + c) % 18446744073709551616), (xs.getD n 0 + ys.getD n 0 + c) / 18446744073709551616), ?_, ⟨hn, by simpa using h2, h3.set n (Nat.mod_lt _ (by decide)), hc1, ?_⟩, by simp only; omega⟩
        · simp only [u, i64, Nat.reduceSub, Nat.reduceAdd, bm]
        · simp only [hs, e1, e2, Nat.pow_succ]; exact add_step _ _ _ _ _ _ _ h5
      · have hy0 := getD_over ys n (by omega)
        rw [hy0] at hs hc1 e2
        have e3 := add_step _ _ _ _ c (xs.getD n 0) 0 h5
        simp only [Nat.add_zero] at hs hc1
        repeat (first | (((first | refine G_sreg mixed (by first | rfl | kernel_rfl) ?_ | refine G_reg mixed (by first | rfl | kernel_rfl) ?_); simp (disch := omega) only [u, i64, ax, eq_self, if_true, if_false, Nat.reduceAdd, Int.reduceToNat, Int.reduceAdd, tvs, bs]; refine aft_any ?_)) | refine G_seq ?_ | refine G_block ?_ | refine G_condT rfl ?_ | refine G_condF rfl ?_ | refine G_skip ?_ | refine G_ret ?_ | refine G_exit ?_ | refine q_tn ?_ | refine q_tr ?_ | refine q_tx ?_ | refine q_bn ?_ | refine q_br ?_ | refine q_bx ?_ | refine q_by (by decide) ?_)
        ((first | refine G_sreg mixed (by first | rfl | kernel_rfl) ?_ | refine G_reg mixed (by first | rfl | kernel_rfl) ?_); simp (disch := omega) only [u, i64, ax, eq_self, if_true, if_false, Nat.reduceAdd, Int.reduceToNat, Int.reduceAdd, tvs, bs])
        (refine callK_ext (retx_Add64b _ 0 _ hxb (by decide) h4) rfl (by (simp (disch := omega) only [if_true, forall_const, reduceCtorEq, implies_true, bz]) <;> rfl) ?_; simp (disch := omega) only [u, i64, ax, eq_self, if_true, if_false, Nat.reduceAdd, Int.reduceToNat, Int.reduceAdd, tvs, bs]; try refine aft_any ?_)
        repeat (first | (((first | refine G_sreg mixed (by first | rfl | kernel_rfl) ?_ | refine G_reg mixed (by first | rfl | kernel_rfl) ?_); simp (disch := omega) only [u, i64, ax, eq_self, if_true, if_false, Nat.reduceAdd, Int.reduceToNat, Int.reduceAdd, tvs, bs]; refine aft_any ?_)) | refine G_seq ?_ | refine G_block ?_ | refine G_condT rfl ?_ | refine G_condF rfl ?_ | refine G_skip ?_ | refine G_ret ?_ | refine G_exit ?_ | refine q_tn ?_ | refine q_tr ?_ | refine q_tx ?_ | refine q_bn ?_ | refine q_br ?_ | refine q_bx ?_ | refine q_by (by decide) ?_)
        refine ⟨(n + 1, os.set n ((xs.getD n 0 + c) % 18446744073709551616), (xs.getD n 0 + c) / 18446744073709551616), ?_, ⟨hn, by simpa using h2, h3.set n (Nat.mod_lt _ (by decide)), hc1, ?_⟩, by simp only; omega⟩
        · simp only [u, i64, Nat.reduceSub, Nat.reduceAdd, bm]
        · simp only [hs, e1, e2, Nat.pow_succ]; simpa only [Nat.add_zero] using e3
    · have hn0 : n = xs.length := by omega
      subst hn0
      have hs := val_set_take os xs.length c (by omega)
      rw [List.take_of_length_le (by simp; omega)] at hs
      have hv : val (os.set xs.length c) = val xs + val ys := by
        rw [hs, Nat.mul_comm, h5, List.take_length, List.take_of_length_le (by omega)]
      repeat (first | (((first | refine G_sreg mixed (by first | rfl | kernel_rfl) ?_ | refine G_reg mixed (by first | rfl | kernel_rfl) ?_); simp (disch := omega) only [u, i64, ax, eq_self, if_true, if_false, Nat.reduceAdd, Int.reduceToNat, Int.reduceAdd, tvs, bs]; refine aft_any ?_)) | refine G_seq ?_ | refine G_block ?_ | refine G_condT rfl ?_ | refine G_condF rfl ?_ | refine G_skip ?_ | refine G_ret ?_ | refine G_exit ?_ | refine q_tn ?_ | refine q_tr ?_ | refine q_tx ?_ | refine q_bn ?_ | refine q_br ?_ | refine q_bx ?_ | refine q_by (by decide) ?_)
      have hl2 : (os.set xs.length c).length = xs.length + 1 := by simp; omega
      refine G_cool0 ?_
      ((first | refine G_sreg mixed (by first | rfl | kernel_rfl) ?_ | refine G_reg mixed (by first | rfl | kernel_rfl) ?_); simp (disch := omega) only [u, i64, ax, eq_self, if_true, if_false, Nat.reduceAdd, Int.reduceToNat, Int.reduceAdd, tvs, bs])
      (refine callK_ret (ret_Trim (os.set xs.length c) (h3.set xs.length (v := c) (by omega)) (by simp; omega)) (by (simp (disch := omega) only [if_true, forall_const, reduceCtorEq, implies_true, bz]) <;> rfl) ?_; simp (disch := omega) only [u, i64, ax, eq_self, if_true, if_false, Nat.reduceAdd, Int.reduceToNat, Int.reduceAdd, tvs, bs]; try refine aft_any ?_)
      rw [hv]
      repeat (first | (((first | refine G_sreg mixed (by first | rfl | kernel_rfl) ?_ | refine G_reg mixed (by first | rfl | kernel_rfl) ?_); simp (disch := omega) only [u, i64, ax, eq_self, if_true, if_false, Nat.reduceAdd, Int.reduceToNat, Int.reduceAdd, tvs, bs]; refine aft_any ?_)) | refine G_seq ?_ | refine G_block ?_ | refine G_condT rfl ?_ | refine G_condF rfl ?_ | refine G_skip ?_ | refine G_ret ?_ | refine G_exit ?_ | refine q_tn ?_ | refine q_tr ?_ | refine q_tx ?_ | refine q_bn ?_ | refine q_br ?_ | refine q_bx ?_ | refine q_by (by decide) ?_)
      (refine FinQ hQ (congrArg Array.toList Tryd.results93) _ _ ?_); simp (disch := omega) only [u, i64, ax, if_true, forall_const, reduceCtorEq, implies_true, tvs, bf]
      first | done | rw [Nat.add_comm]

theorem sub_step (p a b s c x y : Nat) (hc : c ≤ 1) (hx : x < 18446744073709551616) (hy : y < 18446744073709551616) (h : s + b = a + c * p) : s + p * ((x + 18446744073709551616 - y - c) % 18446744073709551616) + (b + p * y) = a + p * x + (if x < y + c then 1 else 0) * (p * 18446744073709551616) := by
  have e : (x + 18446744073709551616 - y - c) % 18446744073709551616 + y + c = x + (if x < y + c then 1 else 0) * 18446744073709551616 := by split <;> omega
  have e2 : p * ((x + 18446744073709551616 - y - c) % 18446744073709551616) + p * y + p * c = p * x + (if x < y + c then 1 else 0) * (p * 18446744073709551616) := by
    rw [← Nat.mul_add, ← Nat.mul_add, e, Nat.mul_add, Nat.mul_left_comm p]
  rw [Nat.mul_comm c p] at h
  omega
theorem ite_le1 (c : Prop) [Decidable c] : (if c then 1 else 0) ≤ 1 := by split <;> omega

set_option maxRecDepth 100000 in
theorem ret_Sub (xs ys : List Nat) (hx : Wd xs) (hy : Wd ys) (hlx : xs.length ≤ 1099511627775) (hly : ys.length ≤ 1099511627775) (hle : val ys ≤ val xs) : Ret Tryd.prog GEs 91 [ws xs, ws ys] (nat (val xs - val ys)) := by
  refine RetN_start Tryd.func91 (by kernel_rfl) rfl fun Q hQ hQ2 => ?_
  rw [Tryd.ntmps91]; simp only [u, i64, Nat.reduceSub, Nat.reduceAdd, bm]
  repeat (first | (((first | refine G_sreg mixed (by first | rfl | kernel_rfl) ?_ | refine G_reg mixed (by first | rfl | kernel_rfl) ?_); simp (disch := omega) only [u, i64, ax, eq_self, if_true, if_false, Nat.reduceAdd, Int.reduceToNat, Int.reduceAdd, tvs, bs]; refine aft_any ?_)) | refine G_seq ?_ | refine G_block ?_ | refine G_condT rfl ?_ | refine G_condF rfl ?_ | refine G_skip ?_ | refine G_ret ?_ | refine G_exit ?_ | refine q_tn ?_ | refine q_tr ?_ | refine q_tx ?_ | refine q_bn ?_ | refine q_br ?_ | refine q_bx ?_ | refine q_by (by decide) ?_)
  ((first | refine G_sreg mixed (by first | rfl | kernel_rfl) ?_ | refine G_reg mixed (by first | rfl | kernel_rfl) ?_); simp (disch := omega) only [u, i64, ax, eq_self, if_true, if_false, Nat.reduceAdd, Int.reduceToNat, Int.reduceAdd, tvs, bs])
  (refine callK_ret (ret_view xs hx (by omega)) (by (simp (disch := omega) only [if_true, forall_const, reduceCtorEq, implies_true, bz]) <;> rfl) ?_; simp (disch := omega) only [u, i64, ax, eq_self, if_true, if_false, Nat.reduceAdd, Int.reduceToNat, Int.reduceAdd, tvs, bs]; try refine aft_any ?_)
  (refine callK_ret (ret_view ys hy (by omega)) (by (simp (disch := omega) only [if_true, forall_const, reduceCtorEq, implies_true, bz]) <;> rfl) ?_; simp (disch := omega) only [u, i64, ax, eq_self, if_true, if_false, Nat.reduceAdd, Int.reduceToNat, Int.reduceAdd, tvs, bs]; try refine aft_any ?_)
  have hX := length_words_val_le hx
  have hm := length_mono hle
  have hWx := Wd_words (val xs)
  have hWy := Wd_words (val ys)
  have hvx := val_words (val xs)
  have hvy := val_words (val ys)
  simp only [nat]
  generalize words (val xs) = X at *
  generalize words (val ys) = Y at *
  repeat (first | (((first | refine G_sreg mixed (by first | rfl | kernel_rfl) ?_ | refine G_reg mixed (by first | rfl | kernel_rfl) ?_); simp (disch := omega) only [u, i64, ax, eq_self, if_true, if_false, Nat.reduceAdd, Int.reduceToNat, Int.reduceAdd, tvs, bs]; refine aft_any ?_)) | refine G_seq ?_ | refine G_block ?_ | refine G_condT rfl ?_ | refine G_condF rfl ?_ | refine G_skip ?_ | refine G_ret ?_ | refine G_exit ?_ | refine q_tn ?_ | refine q_tr ?_ | refine q_tx ?_ | refine q_bn ?_ | refine q_br ?_ | refine q_bx ?_ | refine q_by (by decide) ?_)
  refine AWp_loop (fun i : Nat × List Nat × Nat => mk 45 [(0, ws X), (1, ws Y), (5, .own 0 0 0 X.length 1), (6, u i.2.2), (17, i64 X.length), (18, i64 i.1)] [⟨0, true, us i.2.1⟩])
      (fun i => i.1 ≤ X.length ∧ i.2.1.length = X.length ∧ Wd i.2.1 ∧ i.2.2 ≤ 1 ∧ val (i.2.1.take i.1) + val (Y.take i.1) = val (X.take i.1) + i.2.2 * 18446744073709551616 ^ i.1) (fun i => X.length - i.1) (0, List.replicate X.length 0, 0) ?_ ⟨Nat.zero_le _, by simp, Wd_replicate _ (by decide), by simp, by simp [val]⟩ ?_
  · simp only [u, i64, Nat.reduceSub, Nat.reduceAdd, bm]
  rintro ⟨n, os, c⟩ ⟨h1, h2, h3, h4, h5⟩
  simp only at h1 h2 h3 h4 h5
  simp only [u, i64, Nat.reduceSub, Nat.reduceAdd, bm]
  by_cases hn : n < X.length
  · have e1 := val_take_getD X n
    have e2 := val_take_getD Y n
    have hxb := hWx.getD n
    have hyb := hWy.getD n
    have e3 := sub_step _ _ _ _ c (X.getD n 0) (Y.getD n 0) h4 hxb hyb h5
    have hs := val_set_take os n ((X.getD n 0 + 18446744073709551616 - Y.getD n 0 - c) % 18446744073709551616) (by omega)
    by_cases hyn : n < Y.length
    · repeat (first | (((first | refine G_sreg mixed (by first | rfl | kernel_rfl) ?_ | refine G_reg mixed (by first | rfl | kernel_rfl) ?_); simp (disch := omega) only [u, i64, ax, eq_self, if_true, if_false, Nat.reduceAdd, Int.reduceToNat, Int.reduceAdd, tvs, bs]; refine aft_any ?_)) | refine G_seq ?_ | refine G_block ?_ | refine G_condT rfl ?_ | refine G_condF rfl ?_ | refine G_skip ?_ | refine G_ret ?_ | refine G_exit ?_ | refine q_tn ?_ | refine q_tr ?_ | refine q_tx ?_ | refine q_bn ?_ | refine q_br ?_ | refine q_bx ?_ | refine q_by (by decide) ?_)
      ((first | refine G_sreg mixed (by first | rfl | kernel_rfl) ?_ | refine G_reg mixed (by first | rfl | kernel_rfl) ?_); simp (disch := omega) only [u, i64, ax, eq_self, if_true, if_false, Nat.reduceAdd, Int.reduceToNat, Int.reduceAdd, tvs, bs])
      (refine callK_ext (retx_Sub64 _ _ _ h4) rfl (by (simp (disch := omega) only [if_true, forall_const, reduceCtorEq, implies_true, bz]) <;> rfl) ?_; simp (disch := omega) only [u, i64, ax, eq_self, if_true, if_false, Nat.reduceAdd, Int.reduceToNat, Int.reduceAdd, tvs, bs]; try refine aft_any ?_)
      repeat (first | (((first | refine G_sreg mixed (by first | rfl | kernel_rfl) ?_ | refine G_reg mixed (by first | rfl | kernel_rfl) ?_); simp (disch := omega) only [u, i64, ax, eq_self, if_true, if_false, Nat.reduceAdd, Int.reduceToNat, Int.reduceAdd, tvs, bs]; refine aft_any ?_)) | refine G_seq ?_ | refine G_block ?_ | refine G_condT rfl ?_ | refine G_condF rfl ?_ | refine G_skip ?_ | refine G_ret ?_ | refine G_exit ?_ | refine q_tn ?_ | refine q_tr ?_ | refine q_tx ?_ | refine q_bn ?_ | refine q_br ?_ | refine q_bx ?_ | refine q_by (by decide) ?_)
      refine ⟨(n + 1, os.set n ((X.getD n 0 + 18446744073709551616 - Y.getD n 0 - c) % 18446744073709551616), if X.getD n 0 < Y.getD n 0 + c then 1 else 0), ?_, ⟨hn, by simpa using h2, h3.set n (Nat.mod_lt _ (by decide)), ite_le1 _, ?_⟩, by simp only; omega⟩
      · simp only [u, i64, Nat.reduceSub, Nat.reduceAdd, bm]
      · simp only [hs, e1, e2, Nat.pow_succ]; exact e3
    · have hy0 := getD_over Y n (by omega)
      rw [hy0] at hs e2 e3
      simp only [Nat.sub_zero, Nat.zero_add] at hs e3
      repeat (first | (((first | refine G_sreg mixed (by first | rfl | kernel_rfl) ?_ | refine G_reg mixed (by first | rfl | kernel_rfl) ?_); simp (disch := omega) only [u, i64, ax, eq_self, if_true, if_false, Nat.reduceAdd, Int.reduceToNat, Int.reduceAdd, tvs, bs]; refine aft_any ?_)) | refine G_seq ?_ | refine G_block ?_ | refine G_condT rfl ?_ | refine G_condF rfl ?_ | refine G_skip ?_ | refine G_ret ?_ | refine G_exit ?_ | refine q_tn ?_ | refine q_tr ?_ | refine q_tx ?_ | refine q_bn ?_ | refine q_br ?_ | refine q_bx ?_ | refine q_by (by decide) ?_)
      ((first | refine G_sreg mixed (by first | rfl | kernel_rfl) ?_ | refine G_reg mixed (by first | rfl | kernel_rfl) ?_); simp (disch := omega) only [u, i64, ax, eq_self, if_true, if_false, Nat.reduceAdd, Int.reduceToNat, Int.reduceAdd, tvs, bs])
      (refine callK_ext (retx_Sub64 _ 0 _ h4) rfl (by (simp (disch := omega) only [if_true, forall_const, reduceCtorEq, implies_true, bz]) <;> rfl) ?_; simp (disch := omega) only [u, i64, ax, eq_self, if_true, if_false, Nat.reduceAdd, Int.reduceToNat, Int.reduceAdd, tvs, bs]; try refine aft_any ?_)
      repeat (first | (((first | refine G_sreg mixed (by first | rfl | kernel_rfl) ?_ | refine G_reg mixed (by first | rfl | kernel_rfl) ?_); simp (disch := omega) only [u, i64, ax, eq_self, if_true, if_false, Nat.reduceAdd, Int.reduceToNat, Int.reduceAdd, tvs, bs]; refine aft_any ?_)) | refine G_seq ?_ | refine G_block ?_ | refine G_condT rfl ?_ | refine G_condF rfl ?_ | refine G_skip ?_ | refine G_ret ?_ | refine G_exit ?_ | refine q_tn ?_ | refine q_tr ?_ | refine q_tx ?_ | refine q_bn ?_ | refine q_br ?_ | refine q_bx ?_ | refine q_by (by decide) ?_)
      refine ⟨(n + 1, os.set n ((X.getD n 0 + 18446744073709551616 - c) % 18446744073709551616), if X.getD n 0 < c then 1 else 0), ?_, ⟨hn, by simpa using h2, h3.set n (Nat.mod_lt _ (by decide)), ite_le1 _, ?_⟩, by simp only; omega⟩
      · simp only [u, i64, Nat.reduceSub, Nat.reduceAdd, bm]
      · simp only [hs, e1, e2, Nat.pow_succ]; exact e3
  · have hn0 : n = X.length := by omega
    subst hn0
    rw [List.take_of_length_le (by omega), List.take_of_length_le (by omega), List.take_length, hvx, hvy] at h5
    have hlt := val_lt h3
    rw [h2] at hlt
    have hc0 : c = 0 := by
      rcases Nat.eq_zero_or_pos c with h | h
      · exact h
      · have : c = 1 := by omega
        subst this
        omega
    subst hc0
    have hv : val os = val xs - val ys := by omega
    repeat (first | (((first | refine G_sreg mixed (by first | rfl | kernel_rfl) ?_ | refine G_reg mixed (by first | rfl | kernel_rfl) ?_); simp (disch := omega) only [u, i64, ax, eq_self, if_true, if_false, Nat.reduceAdd, Int.reduceToNat, Int.reduceAdd, tvs, bs]; refine aft_any ?_)) | refine G_seq ?_ | refine G_block ?_ | refine G_condT rfl ?_ | refine G_condF rfl ?_ | refine G_skip ?_ | refine G_ret ?_ | refine G_exit ?_ | refine q_tn ?_ | refine q_tr ?_ | refine q_tx ?_ | refine q_bn ?_ | refine q_br ?_ | refine q_bx ?_ | refine q_by (by decide) ?_)
    refine G_cool0 ?_
    ((first | refine G_sreg mixed (by first | rfl | kernel_rfl) ?_ | refine G_reg mixed (by first | rfl | kernel_rfl) ?_); simp (disch := omega) only [u, i64, ax, eq_self, if_true, if_false, Nat.reduceAdd, Int.reduceToNat, Int.reduceAdd, tvs, bs])
    (refine callK_ret (ret_Trim os h3 (by omega)) (by (simp (disch := omega) only [if_true, forall_const, reduceCtorEq, implies_true, bz]) <;> rfl) ?_; simp (disch := omega) only [u, i64, ax, eq_self, if_true, if_false, Nat.reduceAdd, Int.reduceToNat, Int.reduceAdd, tvs, bs]; try refine aft_any ?_)
    rw [hv]
    repeat (first | (((first | refine G_sreg mixed (by first | rfl | kernel_rfl) ?_ | refine G_reg mixed (by first | rfl | kernel_rfl) ?_); simp (disch := omega) only [u, i64, ax, eq_self, if_true, if_false, Nat.reduceAdd, Int.reduceToNat, Int.reduceAdd, tvs, bs]; refine aft_any ?_)) | refine G_seq ?_ | refine G_block ?_ | refine G_condT rfl ?_ | refine G_condF rfl ?_ | refine G_skip ?_ | refine G_ret ?_ | refine G_exit ?_ | refine q_tn ?_ | refine q_tr ?_ | refine q_tx ?_ | refine q_bn ?_ | refine q_br ?_ | refine q_bx ?_ | refine q_by (by decide) ?_)
    (refine FinQ hQ (congrArg Array.toList Tryd.results91) _ _ ?_); simp (disch := omega) only [u, i64, ax, if_true, forall_const, reduceCtorEq, implies_true, tvs, bf]
end Go.Proofs
