/-
  Contracts of functions of the program, each proved by a walk.
-/
import Derived.Test.YtpnljnmpocobjaaDoorR10
set_option linter.unusedVariables false
set_option linter.unusedSimpArgs false
namespace Go.Proofs
open Go.Ax
set_option maxRecDepth 100000 in
theorem ret_rBit (xs : List Nat) (i : Nat) (hx : Wd xs) (hl : xs.length ≤ 1099511627776) (hi : i ≤ 1099511627776) : Ret Tryd.prog GEs 132 [ws xs, i64 i] (.bool (decide (val xs / 2 ^ i % 2 = 1))) := by
  refine RetN_start Tryd.func132 (by kernel_rfl) rfl fun Q hQ hQ2 => ?_; rw [Tryd.ntmps132]; simp only [u, i64, Nat.reduceSub, Nat.reduceAdd, bm]
  have hr : i % 64 < 64 := Nat.mod_lt _ (by decide)
  by_cases h : i / 64 < xs.length
  · have hw := hx.getD (i / 64)
    have hw2 : xs.getD (i / 64) 0 / 2 ^ (i % 64) < 18446744073709551616 := Nat.lt_of_le_of_lt (Nat.div_le_self _ _) hw
    repeat (first | (((first | refine G_sreg mixed (by first | rfl | kernel_rfl) ?_ | refine G_reg mixed (by first | rfl | kernel_rfl) ?_); simp (disch := omega) only [u, i64, ax, eq_self, if_true, if_false, Nat.reduceAdd, Int.reduceToNat, Int.reduceAdd, tvs, bs]; refine aft_any ?_)) | refine G_seq ?_ | refine G_block ?_ | refine G_condT rfl ?_ | refine G_condF rfl ?_ | refine G_skip ?_ | refine G_ret ?_ | refine G_exit ?_ | refine q_tn ?_ | refine q_tr ?_ | refine q_tx ?_ | refine q_bn ?_ | refine q_br ?_ | refine q_bx ?_ | refine q_by (by decide) ?_)
    (refine FinQ hQ (congrArg Array.toList Tryd.results132) _ _ ?_); simp (disch := omega) only [u, i64, ax, if_true, forall_const, reduceCtorEq, implies_true, tvs, bf, bit_val xs i hx h]
  · repeat (first | (((first | refine G_sreg mixed (by first | rfl | kernel_rfl) ?_ | refine G_reg mixed (by first | rfl | kernel_rfl) ?_); simp (disch := omega) only [u, i64, ax, eq_self, if_true, if_false, Nat.reduceAdd, Int.reduceToNat, Int.reduceAdd, tvs, bs]; refine aft_any ?_)) | refine G_seq ?_ | refine G_block ?_ | refine G_condT rfl ?_ | refine G_condF rfl ?_ | refine G_skip ?_ | refine G_ret ?_ | refine G_exit ?_ | refine q_tn ?_ | refine q_tr ?_ | refine q_tx ?_ | refine q_bn ?_ | refine q_br ?_ | refine q_bx ?_ | refine q_by (by decide) ?_)
    (refine FinQ hQ (congrArg Array.toList Tryd.results132) _ _ ?_); simp (disch := omega) only [u, i64, ax, if_true, forall_const, reduceCtorEq, implies_true, tvs, bf, bit_over xs i hx (by omega)]
    rfl

theorem left_row (xs : List Nat) (v : Nat) (D : List Nat) (hD : D = wfb 4294967296 (2 * xs.length + 2) v) (hv : v < 4294967296 ^ (2 * xs.length + 2)) :
    Wd (joined (D.take (2 * xs.length)) ++ [D.getD (2 * xs.length) 0 + D.getD (2 * xs.length + 1) 0 * 4294967296]) ∧ val (joined (D.take (2 * xs.length)) ++ [D.getD (2 * xs.length) 0 + D.getD (2 * xs.length + 1) 0 * 4294967296]) = v ∧ (joined (D.take (2 * xs.length))).length = xs.length := by
  have hl : D.length = 2 * xs.length + 2 := by rw [hD, wfb_length]
  have e := joined_take D xs.length (by omega)
  rw [List.take_of_length_le (by omega)] at e
  rw [← e]
  have hd : Ds 4294967296 D := by rw [hD]; exact wfb_Ds (by decide) _ _
  refine ⟨joined_Wd hd, ?_, ?_⟩
  · rw [joined_val _ (by omega), hD, vb_wfb (by decide) _ _ hv]
  · rw [joined_length, List.length_take]; omega
theorem pad_self (ds : List Nat) (m : Nat) (h : ds.length = m) : pad ds m = ds := by unfold pad; rw [h, Nat.sub_self]; simp
set_option maxRecDepth 100000 in
theorem ret_rLeft1 (xs : List Nat) (s : Nat) (hx : Wd xs) (hs : s < 64) (hl : xs.length ≤ 34359738368) : ∃ row : List Nat, ∃ hi : Nat, Wd (row ++ [hi]) ∧ val (row ++ [hi]) = val xs * 2 ^ s ∧ row.length = xs.length ∧ Ret Tryd.prog GEs 174 [ws xs, i64 s] (.tup [ws row, u hi]) := by
  have hp : 2 ^ s < 18446744073709551616 := Nat.pow_lt_pow_right (a := 2) (m := s) (n := 64) (by decide) hs
  have hv : val xs * 2 ^ s < 4294967296 ^ (2 * xs.length + 2) := by
    rw [Nat.pow_add, pow_half]
    exact Nat.mul_lt_mul'' (val_lt hx) hp
  obtain ⟨D, hD⟩ : ∃ D, D = wfb 4294967296 (2 * xs.length + 2) (val xs * 2 ^ s) := ⟨_, rfl⟩
  obtain ⟨h1, h2, h3⟩ := left_row xs _ D hD hv
  refine ⟨_, _, h1, h2, h3, ?_⟩
  have hT := ret_Times (digs xs) [2 ^ s % 4294967296, 2 ^ s / 4294967296] (digs_Ds hx) (Ds_cons (by omega) (Ds_cons (by omega) Ds_nil)) (by rw [digs_length]; omega) (by simp)
  rw [digs_val, digs_length, show vb 4294967296 [2 ^ s % 4294967296, 2 ^ s / 4294967296] = 2 ^ s by simp only [vb]; omega, show [2 ^ s % 4294967296, 2 ^ s / 4294967296].length = 2 from rfl, ← hD] at hT
  have hC := ret_Cut D xs.length (by rw [hD]; exact wfb_Ds (by decide) _ _) (by rw [hD, wfb_length]; omega) (by omega)
  rw [pad_self D _ (by rw [hD, wfb_length])] at hC
  refine RetN_start Tryd.func174 (by kernel_rfl) rfl fun Q hQ hQ2 => ?_; rw [Tryd.ntmps174]; simp only [u, i64, Nat.reduceSub, Nat.reduceAdd, bm]
  repeat (first | (((first | refine G_sreg mixed (by first | rfl | kernel_rfl) ?_ | refine G_reg mixed (by first | rfl | kernel_rfl) ?_); simp (disch := omega) only [u, i64, ax, eq_self, if_true, if_false, Nat.reduceAdd, Int.reduceToNat, Int.reduceAdd, tvs, bs]; refine aft_any ?_)) | refine G_seq ?_ | refine G_block ?_ | refine G_condT rfl ?_ | refine G_condF rfl ?_ | refine G_skip ?_ | refine G_ret ?_ | refine G_exit ?_ | refine q_tn ?_ | refine q_tr ?_ | refine q_tx ?_ | refine q_bn ?_ | refine q_br ?_ | refine q_bx ?_ | refine q_by (by decide) ?_)
  ((first | refine G_sreg mixed (by first | rfl | kernel_rfl) ?_ | refine G_reg mixed (by first | rfl | kernel_rfl) ?_); simp (disch := omega) only [u, i64, ax, eq_self, if_true, if_false, Nat.reduceAdd, Int.reduceToNat, Int.reduceAdd, tvs, bs])
  (refine callK_ret (ret_Digits xs hx (by omega)) (by (simp (disch := omega) only [if_true, forall_const, reduceCtorEq, implies_true, bz]) <;> rfl) ?_; simp (disch := omega) only [u, i64, ax, eq_self, if_true, if_false, Nat.reduceAdd, Int.reduceToNat, Int.reduceAdd, tvs, bs]; try refine aft_any ?_)
  simp only [Nat.one_mul]
  (refine callK_ret (ret_rWord (2 ^ s) hp) (by (simp (disch := omega) only [if_true, forall_const, reduceCtorEq, implies_true, bz]) <;> rfl) ?_; simp (disch := omega) only [u, i64, ax, eq_self, if_true, if_false, Nat.reduceAdd, Int.reduceToNat, Int.reduceAdd, tvs, bs]; try refine aft_any ?_)
  (refine callK_ret hT (by (simp (disch := omega) only [if_true, forall_const, reduceCtorEq, implies_true, bz]) <;> rfl) ?_; simp (disch := omega) only [u, i64, ax, eq_self, if_true, if_false, Nat.reduceAdd, Int.reduceToNat, Int.reduceAdd, tvs, bs]; try refine aft_any ?_)
  (refine callK_ret hC (by (simp (disch := omega) only [if_true, forall_const, reduceCtorEq, implies_true, bz]) <;> rfl) ?_; simp (disch := omega) only [u, i64, ax, eq_self, if_true, if_false, Nat.reduceAdd, Int.reduceToNat, Int.reduceAdd, tvs, bs]; try refine aft_any ?_)
  repeat (first | (((first | refine G_sreg mixed (by first | rfl | kernel_rfl) ?_ | refine G_reg mixed (by first | rfl | kernel_rfl) ?_); simp (disch := omega) only [u, i64, ax, eq_self, if_true, if_false, Nat.reduceAdd, Int.reduceToNat, Int.reduceAdd, tvs, bs]; refine aft_any ?_)) | refine G_seq ?_ | refine G_block ?_ | refine G_condT rfl ?_ | refine G_condF rfl ?_ | refine G_skip ?_ | refine G_ret ?_ | refine G_exit ?_ | refine q_tn ?_ | refine q_tr ?_ | refine q_tx ?_ | refine q_bn ?_ | refine q_br ?_ | refine q_bx ?_ | refine q_by (by decide) ?_)
  (refine FinQ hQ (congrArg Array.toList Tryd.results174) _ _ ?_); simp (disch := omega) only [u, i64, ax, if_true, forall_const, reduceCtorEq, implies_true, tvs, bf]
set_option maxRecDepth 100000 in
theorem ret_rLeft (xs : List Nat) (s : Nat) (hx : Wd xs) (hl : xs.length ≤ 8589934592) (hs : s ≤ 549755813888) : Ret Tryd.prog GEs 134 [ws xs, i64 s] (nat (val xs * 2 ^ s)) := by
  have hr : s % 64 < 64 := Nat.mod_lt _ (by decide)
  obtain ⟨row, hi, h1, h2, h3, hL⟩ := ret_rLeft1 xs (s % 64) hx hr (by omega)
  have hW : Wd (List.replicate (s / 64) 0 ++ (row ++ [hi])) := (Wd_replicate _ (by decide)).append h1
  have hv : val (List.replicate (s / 64) 0 ++ (row ++ [hi])) = val xs * 2 ^ s := by
    rw [val_append, val_replicate_zero, h2, List.length_replicate, Nat.zero_add, Nat.mul_left_comm, Bpow, ← Nat.pow_add, Nat.div_add_mod]
  have hT := ret_rTrim _ hW (by simp [h3]; omega)
  rw [hv] at hT
  refine RetN_start Tryd.func134 (by kernel_rfl) rfl fun Q hQ hQ2 => ?_; rw [Tryd.ntmps134]; simp only [u, i64, Nat.reduceSub, Nat.reduceAdd, bm]
  repeat (first | (((first | refine G_sreg mixed (by first | rfl | kernel_rfl) ?_ | refine G_reg mixed (by first | rfl | kernel_rfl) ?_); simp (disch := omega) only [u, i64, ax, eq_self, if_true, if_false, Nat.reduceAdd, Int.reduceToNat, Int.reduceAdd, tvs, bs]; refine aft_any ?_)) | refine G_seq ?_ | refine G_block ?_ | refine G_condT rfl ?_ | refine G_condF rfl ?_ | refine G_skip ?_ | refine G_ret ?_ | refine G_exit ?_ | refine q_tn ?_ | refine q_tr ?_ | refine q_tx ?_ | refine q_bn ?_ | refine q_br ?_ | refine q_bx ?_ | refine q_by (by decide) ?_)
  ((first | refine G_sreg mixed (by first | rfl | kernel_rfl) ?_ | refine G_reg mixed (by first | rfl | kernel_rfl) ?_); simp (disch := omega) only [u, i64, ax, eq_self, if_true, if_false, Nat.reduceAdd, Int.reduceToNat, Int.reduceAdd, tvs, bs])
  (refine callK_ret hL (by (simp (disch := omega) only [if_true, forall_const, reduceCtorEq, implies_true, bz]) <;> rfl) ?_; simp (disch := omega) only [u, i64, ax, eq_self, if_true, if_false, Nat.reduceAdd, Int.reduceToNat, Int.reduceAdd, tvs, bs]; try refine aft_any ?_)
  have hrl : row.length ≤ 8589934592 := by omega
  have hall : (List.replicate (s / 64) 0 ++ row) ++ [hi] = List.replicate (s / 64) 0 ++ (row ++ [hi]) := List.append_assoc _ _ _
  have hlen : ((List.replicate (s / 64) 0 ++ row) ++ [hi]).length = s / 64 + row.length + 1 := by simp; omega
  have hlen2 : (List.replicate (s / 64) 0 ++ row).length = s / 64 + row.length := by simp
  rw [← hall] at hT
  repeat (first | (((first | refine G_sreg mixed (by first | rfl | kernel_rfl) ?_ | refine G_reg mixed (by first | rfl | kernel_rfl) ?_); simp (disch := omega) only [u, i64, ax, eq_self, if_true, if_false, Nat.reduceAdd, Int.reduceToNat, Int.reduceAdd, tvs, bs]; refine aft_any ?_)) | refine G_seq ?_ | refine G_block ?_ | refine G_condT rfl ?_ | refine G_condF rfl ?_ | refine G_skip ?_ | refine G_ret ?_ | refine G_exit ?_ | refine q_tn ?_ | refine q_tr ?_ | refine q_tx ?_ | refine q_bn ?_ | refine q_br ?_ | refine q_bx ?_ | refine q_by (by decide) ?_)
  ((first | refine G_sregL 4 mixed (by first | rfl | kernel_rfl) rfl rfl ?_ | refine G_regL 4 mixed (by first | rfl | kernel_rfl) rfl rfl ?_); simp (disch := omega) only [u, i64, ax, eq_self, if_true, if_false, Nat.reduceAdd, Int.reduceToNat, Int.reduceAdd, tvs, bs, tk_0, tk_S]; refine aft_any ?_)
  rw [← us_snoc1]
  refine LStep_cool0 ?_
  (refine LStep_ret rfl (by rfl) (by simp (disch := omega) only [u, i64, ax, eq_self, if_true, if_false, Nat.reduceAdd, Int.reduceToNat, Int.reduceAdd, tvs, bs]; (simp (disch := omega) only [if_true, forall_const, reduceCtorEq, implies_true, bz]) <;> rfl) hT ?_; simp (disch := omega) only [u, i64, ax, eq_self, if_true, if_false, Nat.reduceAdd, Int.reduceToNat, Int.reduceAdd, tvs, bs, mp_0, mp_S, ap_0, ap_S, tk_0, tk_S, us_length]; try refine aft_any ?_)
  repeat (first | (((first | refine G_sreg mixed (by first | rfl | kernel_rfl) ?_ | refine G_reg mixed (by first | rfl | kernel_rfl) ?_); simp (disch := omega) only [u, i64, ax, eq_self, if_true, if_false, Nat.reduceAdd, Int.reduceToNat, Int.reduceAdd, tvs, bs]; refine aft_any ?_)) | refine G_seq ?_ | refine G_block ?_ | refine G_condT rfl ?_ | refine G_condF rfl ?_ | refine G_skip ?_ | refine G_ret ?_ | refine G_exit ?_ | refine q_tn ?_ | refine q_tr ?_ | refine q_tx ?_ | refine q_bn ?_ | refine q_br ?_ | refine q_bx ?_ | refine q_by (by decide) ?_)
  (refine FinQ hQ (congrArg Array.toList Tryd.results134) _ _ ?_); simp (disch := omega) only [u, i64, ax, if_true, forall_const, reduceCtorEq, implies_true, tvs, bf]
end Go.Proofs
