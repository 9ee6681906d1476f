/-
  Contracts of functions of the program, each proved by a walk.
-/
import Derived.Test.YtpnljnmpocobjaaDoorW2
set_option linter.unusedVariables false
set_option linter.unusedSimpArgs false
namespace Go.Proofs
open Go.Ax

/-- The length in bits. -/
def bl (n : Nat) : Nat := if n = 0 then 0 else n.log2 + 1
/-- How many bits at the low end are 0. -/
def tz (n : Nat) : Nat := if n = 0 then 0 else Lib.ctzFrom (n.log2 + 1) n

theorem bl_eq {n k : Nat} (h1 : 2 ^ k ≤ n) (h2 : n < 2 ^ (k + 1)) : bl n = k + 1 := by
  have hp : 0 < 2 ^ k := Nat.two_pow_pos k
  unfold bl
  rw [if_neg (by omega), (Nat.log2_eq_iff (by omega)).2 ⟨h1, h2⟩]
theorem bl_spec {n : Nat} (h : n ≠ 0) : 2 ^ (bl n - 1) ≤ n ∧ n < 2 ^ bl n ∧ 1 ≤ bl n := by
  unfold bl
  rw [if_neg h]
  exact ⟨by simpa using Nat.log2_self_le h, Nat.lt_log2_self, by omega⟩
theorem bitLen_bl (x : Nat) (h : x < 18446744073709551616) : Lib.bitLen x = bl x := by
  by_cases h0 : x = 0
  · subst h0; decide
  · have h1 := Nat.log2_self_le h0
    have h2 : x < 2 ^ (x.log2 + 1) := Nat.lt_log2_self
    rw [Lib.bitLen_shift x.log2 x h1 h]
    have : x / 2 ^ x.log2 = 1 := by
      apply Nat.div_eq_of_lt_le
      · simpa using h1
      · rw [Nat.pow_succ] at h2; omega
    rw [this]
    unfold bl
    rw [if_neg h0, show Lib.bitLen 1 = 1 by decide, Nat.add_comm]
theorem bl_le {n k : Nat} (h : n < 2 ^ k) : bl n ≤ k := by
  by_cases h0 : n = 0
  · subst h0; simp [bl]
  · have := (bl_spec h0).1
    rcases Nat.lt_or_ge k (bl n) with hk | hk
    · have h3 : 2 ^ k ≤ 2 ^ (bl n - 1) := Nat.pow_le_pow_right (by decide) (by omega)
      omega
    · exact hk
theorem Bpow (k : Nat) : 18446744073709551616 ^ k = 2 ^ (64 * k) := by rw [show 18446744073709551616 = 2 ^ 64 by decide, ← Nat.pow_mul]
theorem bl_words (v : Nat) (h : v ≠ 0) : bl v = 64 * ((words v).length - 1) + bl ((words v).getD ((words v).length - 1) 0) ∧ (words v).getD ((words v).length - 1) 0 < 18446744073709551616 := by
  have hne : words v ≠ [] := fun h0 => h (words_eq_nil.1 h0)
  have hl : 1 ≤ (words v).length := by
    rcases Nat.eq_zero_or_pos (words v).length with h0 | h0
    · exact absurd (List.eq_nil_of_length_eq_zero h0) hne
    · exact h0
  have hlast : (words v).getD ((words v).length - 1) 0 ≠ 0 := by
    have := Canon_words v hne
    rw [List.getLast_eq_getElem] at this
    rw [List.getD_eq_getElem?_getD, List.getElem?_eq_getElem (by omega)]
    exact this
  have hB := (Wd_words v).getD ((words v).length - 1)
  refine ⟨?_, hB⟩
  have hv := val_split (words v) ((words v).length - 1) (by omega)
  rw [val_drop _ _ (by omega), Nat.sub_add_cancel hl, List.drop_of_length_le (Nat.le_refl _), val_words] at hv
  have ht := val_lt ((Wd_words v).take ((words v).length - 1))
  rw [List.length_take, Nat.min_eq_left (by omega)] at ht
  generalize (words v).getD ((words v).length - 1) 0 = t at *
  generalize (words v).length - 1 = L at *
  generalize val ((words v).take L) = lo at *
  simp only [val, Nat.mul_zero, Nat.add_zero] at hv
  obtain ⟨h1, h2, h3⟩ := bl_spec hlast
  rw [Bpow] at hv ht
  have e := bl_eq (n := v) (k := 64 * L + (bl t - 1)) (by rw [hv, Nat.pow_add]; exact Nat.le_trans (Nat.mul_le_mul_left _ h1) (by omega)) (by
    rw [hv, show 64 * L + (bl t - 1) + 1 = 64 * L + bl t by omega, Nat.pow_add]
    have : 2 ^ (64 * L) * t + 2 ^ (64 * L) ≤ 2 ^ (64 * L) * 2 ^ bl t := by rw [← Nat.mul_succ]; exact Nat.mul_le_mul_left _ h2
    omega)
  omega

theorem val_take_succ (xs : List Nat) (n : Nat) (h : n < xs.length) : val (xs.take (n + 1)) = val (xs.take n) + 18446744073709551616 ^ n * xs.getD n 0 := by
  rw [List.take_add_one, val_append, List.length_take, Nat.min_eq_left (by omega), List.getElem?_eq_getElem h, List.getD_eq_getElem?_getD, List.getElem?_eq_getElem h]
  simp [val]

theorem ctzFrom_of : ∀ (k f m : Nat), k < f → Lib.ctzFrom f (2 ^ k * (2 * m + 1)) = k
  | 0, 0, m, h => by omega
  | 0, f + 1, m, h => by unfold Lib.ctzFrom; rw [if_pos (by omega)]
  | k + 1, 0, m, h => by omega
  | k + 1, f + 1, m, h => by
    unfold Lib.ctzFrom
    have e : 2 ^ (k + 1) * (2 * m + 1) = 2 * (2 ^ k * (2 * m + 1)) := by rw [Nat.pow_succ, Nat.mul_comm (2 ^ k) 2, Nat.mul_assoc]
    rw [if_neg (by omega), e, Nat.mul_div_cancel_left _ (by decide), ctzFrom_of k f m (by omega), Nat.add_comm]
theorem tz_of (k m : Nat) : tz (2 ^ k * (2 * m + 1)) = k := by
  have hp : 0 < 2 ^ k * (2 * m + 1) := Nat.mul_pos (Nat.two_pow_pos k) (by omega)
  unfold tz
  rw [if_neg (by omega)]
  refine ctzFrom_of k _ m ?_
  have : k ≤ (2 ^ k * (2 * m + 1)).log2 := (Nat.le_log2 (by omega)).2 (Nat.le_mul_of_pos_right _ (by omega))
  omega
theorem tz_spec {n : Nat} (h : n ≠ 0) : ∃ m, n = 2 ^ tz n * (2 * m + 1) := by
  obtain ⟨m, h1, _⟩ := Lib.ctzFrom_spec (n.log2 + 1) n (by omega) Nat.lt_log2_self
  refine ⟨m, ?_⟩
  unfold tz
  rw [if_neg h]; exact h1
theorem ctz_word (x : Nat) (h0 : x ≠ 0) (h : x < 18446744073709551616) : Lib.ctz 64 x = tz x ∧ tz x < 64 := by
  obtain ⟨m, h1, h2⟩ := Lib.ctzFrom_spec 64 x (by omega) h
  have h3 : tz x = Lib.ctzFrom 64 x := by rw [h1, tz_of, ← h1]
  unfold Lib.ctz
  rw [if_neg h0, h3]
  exact ⟨rfl, h2⟩
theorem tz_val (xs : List Nat) (n : Nat) (hn : n < xs.length) (h0 : val (xs.take n) = 0) (hx : xs.getD n 0 ≠ 0) (hk : tz (xs.getD n 0) < 64) : tz (val xs) = 64 * n + tz (xs.getD n 0) := by
  rw [val_split xs n (by omega), h0, Nat.zero_add, val_drop xs n hn]
  obtain ⟨m, h1⟩ := tz_spec hx
  generalize xs.getD n 0 = x at *
  generalize val (xs.drop (n + 1)) = r
  · have : x + 18446744073709551616 * r = 2 ^ tz x * (2 * (m + 2 ^ (63 - tz x) * r) + 1) := by
      conv => lhs; rw [h1, show 18446744073709551616 = 2 ^ tz x * (2 * 2 ^ (63 - tz x)) by rw [← Nat.pow_succ', ← Nat.pow_add, show tz x + (63 - tz x).succ = 64 by omega]]
      rw [Nat.mul_assoc, ← Nat.mul_add, Nat.mul_assoc 2, Nat.mul_add 2]
      congr 1; omega
    rw [this, Bpow, ← Nat.mul_assoc, ← Nat.pow_add, tz_of]

theorem ret_Len64b (x : Nat) (hx : x < 18446744073709551616) : Ret Tryd.prog GEs 148 [u x] (i64 (bl x)) := bitLen_bl x hx ▸ ret_Len64 x hx
theorem ret_TrailingZeros64b (x : Nat) (hx : x < 18446744073709551616) (h0 : x ≠ 0) : Ret Tryd.prog GEs 186 [u x] (i64 (tz x)) := (ctz_word x h0 hx).1 ▸ ret_TrailingZeros64 x hx

set_option maxRecDepth 100000 in
theorem ret_Len (xs : List Nat) (hx : Wd xs) (hl : xs.length ≤ 1099511627776) : Ret Tryd.prog GEs 88 [ws xs] (i64 (bl (val xs))) := by
  refine RetN_start Tryd.func88 (by kernel_rfl) rfl fun Q hQ hQ2 => ?_
  rw [Tryd.ntmps88]; simp only [u, i64, Nat.reduceSub, Nat.reduceAdd, bm]
  repeat (first | (((first | refine G_sreg mixed (by first | rfl | kernel_rfl) ?_ | refine G_reg mixed (by first | rfl | kernel_rfl) ?_); simp (disch := omega) only [u, i64, ax, eq_self, if_true, if_false, Nat.reduceAdd, Int.reduceToNat, Int.reduceAdd, tvs, bs]; refine aft_any ?_)) | refine G_seq ?_ | refine G_block ?_ | refine G_condT rfl ?_ | refine G_condF rfl ?_ | refine G_skip ?_ | refine G_ret ?_ | refine G_exit ?_ | refine q_tn ?_ | refine q_tr ?_ | refine q_tx ?_ | refine q_bn ?_ | refine q_br ?_ | refine q_bx ?_ | refine q_by (by decide) ?_)
  ((first | refine G_sreg mixed (by first | rfl | kernel_rfl) ?_ | refine G_reg mixed (by first | rfl | kernel_rfl) ?_); simp (disch := omega) only [u, i64, ax, eq_self, if_true, if_false, Nat.reduceAdd, Int.reduceToNat, Int.reduceAdd, tvs, bs])
  (refine callK_ret (ret_view xs hx hl) (by (simp (disch := omega) only [if_true, forall_const, reduceCtorEq, implies_true, bz]) <;> rfl) ?_; simp (disch := omega) only [u, i64, ax, eq_self, if_true, if_false, Nat.reduceAdd, Int.reduceToNat, Int.reduceAdd, tvs, bs]; try refine aft_any ?_)
  have h1 := length_words_val_le hx
  by_cases h0 : val xs = 0
  · have hw : (words (val xs)).length = 0 := by rw [h0, words_zero]; rfl
    repeat (first | (((first | refine G_sreg mixed (by first | rfl | kernel_rfl) ?_ | refine G_reg mixed (by first | rfl | kernel_rfl) ?_); simp (disch := omega) only [u, i64, ax, eq_self, if_true, if_false, Nat.reduceAdd, Int.reduceToNat, Int.reduceAdd, tvs, bs]; refine aft_any ?_)) | refine G_seq ?_ | refine G_block ?_ | refine G_condT rfl ?_ | refine G_condF rfl ?_ | refine G_skip ?_ | refine G_ret ?_ | refine G_exit ?_ | refine q_tn ?_ | refine q_tr ?_ | refine q_tx ?_ | refine q_bn ?_ | refine q_br ?_ | refine q_bx ?_ | refine q_by (by decide) ?_)
    (refine FinQ hQ (congrArg Array.toList Tryd.results88) _ _ ?_); simp (disch := omega) only [u, i64, ax, if_true, forall_const, reduceCtorEq, implies_true, tvs, bf, h0]
    rfl
  · obtain ⟨hb, ht⟩ := bl_words _ h0
    have hbl := bl_le (n := (words (val xs)).getD ((words (val xs)).length - 1) 0) (k := 64) ht
    have hne : 1 ≤ (words (val xs)).length := by
      rcases Nat.eq_zero_or_pos (words (val xs)).length with h | h
      · exact absurd (words_eq_nil.1 (List.eq_nil_of_length_eq_zero h)) h0
      · exact h
    repeat (first | (((first | refine G_sreg mixed (by first | rfl | kernel_rfl) ?_ | refine G_reg mixed (by first | rfl | kernel_rfl) ?_); simp (disch := omega) only [u, i64, ax, eq_self, if_true, if_false, Nat.reduceAdd, Int.reduceToNat, Int.reduceAdd, tvs, bs]; refine aft_any ?_)) | refine G_seq ?_ | refine G_block ?_ | refine G_condT rfl ?_ | refine G_condF rfl ?_ | refine G_skip ?_ | refine G_ret ?_ | refine G_exit ?_ | refine q_tn ?_ | refine q_tr ?_ | refine q_tx ?_ | refine q_bn ?_ | refine q_br ?_ | refine q_bx ?_ | refine q_by (by decide) ?_)
    ((first | refine G_sreg mixed (by first | rfl | kernel_rfl) ?_ | refine G_reg mixed (by first | rfl | kernel_rfl) ?_); simp (disch := omega) only [u, i64, ax, eq_self, if_true, if_false, Nat.reduceAdd, Int.reduceToNat, Int.reduceAdd, tvs, bs])
    (refine callK_mem (ret_Len64b _ ht) rfl (by (simp (disch := omega) only [if_true, forall_const, reduceCtorEq, implies_true, bz]) <;> rfl) ?_; simp (disch := omega) only [u, i64, ax, eq_self, if_true, if_false, Nat.reduceAdd, Int.reduceToNat, Int.reduceAdd, tvs, bs]; try refine aft_any ?_)
    repeat (first | (((first | refine G_sreg mixed (by first | rfl | kernel_rfl) ?_ | refine G_reg mixed (by first | rfl | kernel_rfl) ?_); simp (disch := omega) only [u, i64, ax, eq_self, if_true, if_false, Nat.reduceAdd, Int.reduceToNat, Int.reduceAdd, tvs, bs]; refine aft_any ?_)) | refine G_seq ?_ | refine G_block ?_ | refine G_condT rfl ?_ | refine G_condF rfl ?_ | refine G_skip ?_ | refine G_ret ?_ | refine G_exit ?_ | refine q_tn ?_ | refine q_tr ?_ | refine q_tx ?_ | refine q_bn ?_ | refine q_br ?_ | refine q_bx ?_ | refine q_by (by decide) ?_)
    (refine FinQ hQ (congrArg Array.toList Tryd.results88) _ _ ?_); simp (disch := omega) only [u, i64, ax, if_true, forall_const, reduceCtorEq, implies_true, tvs, bf]
    exact congrArg i64 (by omega)
set_option maxRecDepth 100000 in
theorem ret_Trailing (xs : List Nat) (hx : Wd xs) (hl : xs.length ≤ 1099511627776) : Ret Tryd.prog GEs 147 [ws xs] (i64 (tz (val xs))) := by
  refine RetN_start Tryd.func147 (by kernel_rfl) rfl fun Q hQ hQ2 => ?_
  rw [Tryd.ntmps147]; simp only [u, i64, Nat.reduceSub, Nat.reduceAdd, bm]
  repeat (first | (((first | refine G_sreg mixed (by first | rfl | kernel_rfl) ?_ | refine G_reg mixed (by first | rfl | kernel_rfl) ?_); simp (disch := omega) only [u, i64, ax, eq_self, if_true, if_false, Nat.reduceAdd, Int.reduceToNat, Int.reduceAdd, tvs, bs]; refine aft_any ?_)) | refine G_seq ?_ | refine G_block ?_ | refine G_condT rfl ?_ | refine G_condF rfl ?_ | refine G_skip ?_ | refine G_ret ?_ | refine G_exit ?_ | refine q_tn ?_ | refine q_tr ?_ | refine q_tx ?_ | refine q_bn ?_ | refine q_br ?_ | refine q_bx ?_ | refine q_by (by decide) ?_)
  refine AWp_loop (fun n : Nat => mk 20 [(0, ws xs), (5, ws xs), (6, i64 xs.length), (7, i64 n)] []) (fun n => n ≤ xs.length ∧ val (xs.take n) = 0) (fun n => xs.length - n) 0 ?_ ⟨Nat.zero_le _, rfl⟩ fun n hn => ?_
  · simp only [u, i64, Nat.reduceSub, Nat.reduceAdd, bm]
  simp only [u, i64, Nat.reduceSub, Nat.reduceAdd, bm]
  by_cases h : n < xs.length
  · by_cases h0 : xs.getD n 0 = 0
    · repeat (first | (((first | refine G_sreg mixed (by first | rfl | kernel_rfl) ?_ | refine G_reg mixed (by first | rfl | kernel_rfl) ?_); simp (disch := omega) only [u, i64, ax, eq_self, if_true, if_false, Nat.reduceAdd, Int.reduceToNat, Int.reduceAdd, tvs, bs]; refine aft_any ?_)) | refine G_seq ?_ | refine G_block ?_ | refine G_condT rfl ?_ | refine G_condF rfl ?_ | refine G_skip ?_ | refine G_ret ?_ | refine G_exit ?_ | refine q_tn ?_ | refine q_tr ?_ | refine q_tx ?_ | refine q_bn ?_ | refine q_br ?_ | refine q_bx ?_ | refine q_by (by decide) ?_)
      refine ⟨n + 1, ?_, ⟨h, ?_⟩, by omega⟩
      · simp only [u, i64, Nat.reduceSub, Nat.reduceAdd, bm]
      · rw [val_take_succ xs n h, hn.2, h0]; rfl
    · have ht := ctz_word _ h0 (hx.getD n)
      repeat (first | (((first | refine G_sreg mixed (by first | rfl | kernel_rfl) ?_ | refine G_reg mixed (by first | rfl | kernel_rfl) ?_); simp (disch := omega) only [u, i64, ax, eq_self, if_true, if_false, Nat.reduceAdd, Int.reduceToNat, Int.reduceAdd, tvs, bs]; refine aft_any ?_)) | refine G_seq ?_ | refine G_block ?_ | refine G_condT rfl ?_ | refine G_condF rfl ?_ | refine G_skip ?_ | refine G_ret ?_ | refine G_exit ?_ | refine q_tn ?_ | refine q_tr ?_ | refine q_tx ?_ | refine q_bn ?_ | refine q_br ?_ | refine q_bx ?_ | refine q_by (by decide) ?_)
      ((first | refine G_sreg mixed (by first | rfl | kernel_rfl) ?_ | refine G_reg mixed (by first | rfl | kernel_rfl) ?_); simp (disch := omega) only [u, i64, ax, eq_self, if_true, if_false, Nat.reduceAdd, Int.reduceToNat, Int.reduceAdd, tvs, bs])
      (refine callK_mem (ret_TrailingZeros64b _ (hx.getD n) h0) rfl (by (simp (disch := omega) only [if_true, forall_const, reduceCtorEq, implies_true, bz]) <;> rfl) ?_; simp (disch := omega) only [u, i64, ax, eq_self, if_true, if_false, Nat.reduceAdd, Int.reduceToNat, Int.reduceAdd, tvs, bs]; try refine aft_any ?_)
      have e := tz_val xs n h hn.2 h0 ht.2
      repeat (first | (((first | refine G_sreg mixed (by first | rfl | kernel_rfl) ?_ | refine G_reg mixed (by first | rfl | kernel_rfl) ?_); simp (disch := omega) only [u, i64, ax, eq_self, if_true, if_false, Nat.reduceAdd, Int.reduceToNat, Int.reduceAdd, tvs, bs]; refine aft_any ?_)) | refine G_seq ?_ | refine G_block ?_ | refine G_condT rfl ?_ | refine G_condF rfl ?_ | refine G_skip ?_ | refine G_ret ?_ | refine G_exit ?_ | refine q_tn ?_ | refine q_tr ?_ | refine q_tx ?_ | refine q_bn ?_ | refine q_br ?_ | refine q_bx ?_ | refine q_by (by decide) ?_)
      (refine FinQ hQ (congrArg Array.toList Tryd.results147) _ _ ?_); simp (disch := omega) only [u, i64, ax, if_true, forall_const, reduceCtorEq, implies_true, tvs, bf]
      exact congrArg i64 (by omega)
  · have hn0 : n = xs.length := by omega
    have hv := hn.2
    rw [hn0, List.take_length] at hv
    repeat (first | (((first | refine G_sreg mixed (by first | rfl | kernel_rfl) ?_ | refine G_reg mixed (by first | rfl | kernel_rfl) ?_); simp (disch := omega) only [u, i64, ax, eq_self, if_true, if_false, Nat.reduceAdd, Int.reduceToNat, Int.reduceAdd, tvs, bs]; refine aft_any ?_)) | refine G_seq ?_ | refine G_block ?_ | refine G_condT rfl ?_ | refine G_condF rfl ?_ | refine G_skip ?_ | refine G_ret ?_ | refine G_exit ?_ | refine q_tn ?_ | refine q_tr ?_ | refine q_tx ?_ | refine q_bn ?_ | refine q_br ?_ | refine q_bx ?_ | refine q_by (by decide) ?_)
    (refine FinQ hQ (congrArg Array.toList Tryd.results147) _ _ ?_); simp (disch := omega) only [u, i64, ax, if_true, forall_const, reduceCtorEq, implies_true, tvs, bf, hv]
    rfl
end Go.Proofs
