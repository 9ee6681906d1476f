/-
  Contracts of functions of the program, each proved by a walk.
-/
import Derived.Test.YtpnljnmpocobjaaGreatDoorZ13
set_option maxRecDepth 100000
set_option linter.unusedVariables false
set_option linter.unusedSimpArgs false
namespace Go.Proofs
open Go.Ax
theorem bit_val (xs : List Nat) (i : Nat) (hx : Wd xs) (h : i / 64 < xs.length) : val xs / 2 ^ i % 2 = xs.getD (i / 64) 0 / 2 ^ (i % 64) % 2 := by
  have hv := val_split xs (i / 64) (by omega)
  rw [val_drop xs _ h] at hv
  have hl := val_lt (hx.take (i / 64))
  rw [List.length_take, Nat.min_eq_left (by omega), Bpow] at hl
  rw [Bpow] at hv
  have hr : i % 64 < 64 := Nat.mod_lt _ (by decide)
  generalize xs.getD (i / 64) 0 = w at *
  generalize val (xs.drop (i / 64 + 1)) = hi at *
  generalize val (xs.take (i / 64)) = lo at *
  have e1 : val xs / 2 ^ (64 * (i / 64)) = w + 18446744073709551616 * hi := by
    rw [hv, Nat.add_mul_div_left _ _ (Nat.two_pow_pos _), Nat.div_eq_of_lt hl, Nat.zero_add]
  have e2 : val xs / 2 ^ i = (w + 18446744073709551616 * hi) / 2 ^ (i % 64) := by
    conv => lhs; rw [show i = 64 * (i / 64) + i % 64 from (Nat.div_add_mod i 64).symm]
    rw [Nat.pow_add, ← Nat.div_div_eq_div_mul, e1]
  rw [e2, show 18446744073709551616 * hi = 2 ^ (i % 64) * (2 ^ (64 - i % 64) * hi) by rw [← Nat.mul_assoc, ← Nat.pow_add, show i % 64 + (64 - i % 64) = 64 by omega], Nat.add_mul_div_left _ _ (Nat.two_pow_pos _)]
  obtain ⟨k, hk⟩ : ∃ k, 64 - i % 64 = k + 1 := ⟨63 - i % 64, by omega⟩
  rw [hk, Nat.pow_succ, Nat.mul_assoc, Nat.mul_left_comm, Nat.add_mul_mod_self_left]
theorem bit_over (xs : List Nat) (i : Nat) (hx : Wd xs) (h : xs.length ≤ i / 64) : val xs / 2 ^ i = 0 := by
  have hl := val_lt hx
  rw [Bpow] at hl
  exact Nat.div_eq_of_lt (Nat.lt_of_lt_of_le hl (Nat.pow_le_pow_right (by decide) (by omega)))
theorem tz_lt {v s : Nat} (h : v ≠ 0) : tz v < s ↔ v % 2 ^ s ≠ 0 := by
  obtain ⟨m, hm⟩ := tz_spec h
  generalize tz v = t at *
  subst hm
  constructor
  · intro hlt
    obtain ⟨k, rfl⟩ : ∃ k, s = t + (k + 1) := ⟨s - t - 1, by omega⟩
    rw [Nat.pow_add, Nat.mul_mod_mul_left]
    have : (2 * m + 1) % 2 ^ (k + 1) ≠ 0 := by
      intro h0
      have h1 : (2 * m + 1) % 2 ^ (k + 1) % 2 = 0 := by rw [h0]
      rw [Nat.mod_mod_of_dvd _ ⟨2 ^ k, by rw [Nat.pow_succ, Nat.mul_comm]⟩] at h1
      omega
    exact Nat.mul_ne_zero (Nat.ne_of_gt (Nat.two_pow_pos t)) this
  · intro hne
    rcases Nat.lt_or_ge t s with hlt | hge
    · exact hlt
    · obtain ⟨k, rfl⟩ : ∃ k, t = s + k := ⟨t - s, by omega⟩
      rw [Nat.pow_add, Nat.mul_assoc, Nat.mul_mod_right] at hne
      exact absurd rfl hne
set_option maxRecDepth 100000 in
theorem ret_Bit (xs : List Nat) (i : Nat) (hx : Wd xs) (hl : xs.length ≤ 1099511627776) (hi : i ≤ 1099511627776) : Ret Tryz.prog GEs 105 [ws xs, i64 i] (.bool (decide (val xs / 2 ^ i % 2 = 1))) := by
  refine RetN_start Tryz.func105 (by kernel_rfl) rfl fun Q hQ hQ2 => ?_; rw [Tryz.ntmps105]; simp only [u, i64, Nat.reduceSub, Nat.reduceAdd, bm]
  have hr : i % 64 < 64 := Nat.mod_lt _ (by decide)
  by_cases h : i / 64 < xs.length
  · have hw := hx.getD (i / 64)
    have hw2 : xs.getD (i / 64) 0 / 2 ^ (i % 64) < 18446744073709551616 := Nat.lt_of_le_of_lt (Nat.div_le_self _ _) hw
    (refine gO ?_)
    (refine FinQ hQ (congrArg Array.toList Tryz.results105) _ _ ?_); simp (disch := omega) only [u, i64, ax, if_true, forall_const, reduceCtorEq, implies_true, tvs, bf, bit_val xs i hx h]
  · (refine gO ?_)
    (refine FinQ hQ (congrArg Array.toList Tryz.results105) _ _ ?_); simp (disch := omega) only [u, i64, ax, if_true, forall_const, reduceCtorEq, implies_true, tvs, bf, bit_over xs i hx (by omega)]
    rfl
theorem ret_ZeroT (xs : List Nat) (hw : Wd xs) (hl : xs.length ≤ 1099511627776) (h : val xs = 0) : Ret Tryz.prog GEs 74 [ws xs] (.bool true) := by
  have := ret_Zero xs hw hl; rwa [decide_eq_true h] at this
theorem ret_ZeroF (xs : List Nat) (hw : Wd xs) (hl : xs.length ≤ 1099511627776) (h : val xs ≠ 0) : Ret Tryz.prog GEs 74 [ws xs] (.bool false) := by
  have := ret_Zero xs hw hl; rwa [decide_eq_false h] at this
set_option maxRecDepth 100000 in
theorem ret_Below (xs : List Nat) (s : Nat) (hx : Wd xs) (hl : xs.length ≤ 1099511627776) (hs : s ≤ 1099511627776) : Ret Tryz.prog GEs 250 [ws xs, i64 s] (.bool (decide (val xs % 2 ^ s ≠ 0))) := by
  refine RetN_start Tryz.func250 (by kernel_rfl) rfl fun Q hQ hQ2 => ?_; rw [Tryz.ntmps250]; simp only [u, i64, Nat.reduceSub, Nat.reduceAdd, bm]
  by_cases h0 : 0 < s
  · (refine gO ?_)
    (refine gC ?_)
    by_cases hv : val xs = 0
    · (refine callK_mem (ret_ZeroT xs hx hl hv) rfl (by (simp (disch := omega) only [if_true, forall_const, reduceCtorEq, implies_true, bz]) <;> rfl) ?_; refine sX ?_; try refine aA ?_)
      (refine gO ?_)
      (refine FinQ hQ (congrArg Array.toList Tryz.results250) _ _ ?_); simp (disch := omega) only [u, i64, ax, if_true, forall_const, reduceCtorEq, implies_true, tvs, bf, hv, Nat.zero_mod]
      rfl
    · (refine callK_mem (ret_ZeroF xs hx hl hv) rfl (by (simp (disch := omega) only [if_true, forall_const, reduceCtorEq, implies_true, bz]) <;> rfl) ?_; refine sX ?_; try refine aA ?_)
      (refine callK_mem (ret_Trailing xs hx hl) rfl (by (simp (disch := omega) only [if_true, forall_const, reduceCtorEq, implies_true, bz]) <;> rfl) ?_; refine sX ?_; try refine aA ?_)
      by_cases ht : tz (val xs) < s
      · have hd : decide (val xs % 2 ^ s ≠ 0) = true := decide_eq_true ((tz_lt hv).1 ht)
        (refine gO ?_)
        (refine FinQ hQ (congrArg Array.toList Tryz.results250) _ _ ?_); simp (disch := omega) only [u, i64, ax, if_true, forall_const, reduceCtorEq, implies_true, tvs, bf, hd, decT, decF]
      · have hd : decide (val xs % 2 ^ s ≠ 0) = false := decide_eq_false (fun h => ht ((tz_lt hv).2 h))
        (refine gO ?_)
        (refine FinQ hQ (congrArg Array.toList Tryz.results250) _ _ ?_); simp (disch := omega) only [u, i64, ax, if_true, forall_const, reduceCtorEq, implies_true, tvs, bf, hd, decT, decF]
  · have hs0 : s = 0 := by omega
    subst hs0
    (refine gO ?_)
    (refine FinQ hQ (congrArg Array.toList Tryz.results250) _ _ ?_); simp (disch := omega) only [u, i64, ax, if_true, forall_const, reduceCtorEq, implies_true, tvs, bf, Nat.pow_zero, Nat.mod_one]
    rfl
theorem shr_step {r w w1 : Nat} (hr : r < 64) (h0 : 0 < r) (hw : w < 18446744073709551616) (hw1 : w1 < 18446744073709551616) : (w / 2 ^ r ||| w1 * 2 ^ (64 - r) % 18446744073709551616) * 2 ^ r + w % 2 ^ r = w + w1 % 2 ^ r * 18446744073709551616 := by
  have hlt : w / 2 ^ r < 2 ^ (64 - r) := by
    rw [Nat.div_lt_iff_lt_mul (Nat.two_pow_pos r), ← Nat.pow_add, show 64 - r + r = 64 by omega]; exact hw
  rw [or_add _ _ _ (by omega) hlt hw1]
  have e : w1 * 2 ^ (64 - r) % 18446744073709551616 = 2 ^ (64 - r) * (w1 % 2 ^ r) := by
    rw [show 18446744073709551616 = 2 ^ (64 - r) * 2 ^ r by rw [← Nat.pow_add, show 64 - r + r = 64 by omega], Nat.mul_comm w1, Nat.mul_mod_mul_left]
  have hB : 18446744073709551616 = 2 ^ (64 - r) * 2 ^ r := by rw [← Nat.pow_add, show 64 - r + r = 64 by omega]
  rw [e, Nat.add_mul]
  have e2 : 2 ^ (64 - r) * (w1 % 2 ^ r) * 2 ^ r = w1 % 2 ^ r * 18446744073709551616 := by
    rw [hB, Nat.mul_comm (2 ^ (64 - r)) (w1 % 2 ^ r), Nat.mul_assoc]
  have := Nat.div_add_mod w (2 ^ r)
  rw [Nat.mul_comm] at this
  omega
theorem shr_inv {V Y P R y0 yn yn1 o w B : Nat} (h : V * R + y0 = Y + yn * P) (e : o * R + yn = w + yn1 * B) : (V + P * o) * R + y0 = Y + P * w + yn1 * (P * B) := by
  have : P * (o * R) + P * yn = P * w + yn1 * (P * B) := by rw [← Nat.mul_add, e, Nat.mul_add, Nat.mul_left_comm P]
  rw [Nat.add_mul, Nat.mul_assoc P o R]
  rw [Nat.mul_comm yn P] at h
  omega
theorem div_of {a b q r : Nat} (hb : 0 < b) (h : q * b + r = a) (hr : r < b) : a / b = q := by
  rw [← h, Nat.add_comm, Nat.add_mul_div_right _ _ hb, Nat.div_eq_of_lt hr, Nat.zero_add]
set_option maxRecDepth 100000 in
theorem ret_Shr (xs : List Nat) (s : Nat) (hx : Wd xs) (hl : xs.length ≤ 1099511627776) (hs : s ≤ 1099511627776) : Ret Tryz.prog GEs 106 [ws xs, i64 s] (nat (val xs / 2 ^ s)) := by
  refine RetN_start Tryz.func106 (by kernel_rfl) rfl fun Q hQ hQ2 => ?_; rw [Tryz.ntmps106]; simp only [u, i64, Nat.reduceSub, Nat.reduceAdd, bm]
  (refine gO ?_)
  (refine gC ?_)
  (refine cR (ret_view xs hx (by omega)) ?_; refine sX ?_; try refine aA ?_)
  have hX := length_words_val_le hx
  have hW := Wd_words (val xs)
  have hv := val_words (val xs)
  simp only [nat]
  generalize words (val xs) = X at *
  by_cases h0 : X.length ≤ s / 64
  · (refine gO ?_)
    (refine FinQ hQ (congrArg Array.toList Tryz.results106) _ _ ?_); simp (disch := omega) only [u, i64, ax, if_true, forall_const, reduceCtorEq, implies_true, tvs, bf]
    rw [← hv, bit_over X s hW h0, nat, words_zero]; rfl
  have hr : s % 64 < 64 := Nat.mod_lt _ (by decide)
  have hYl : (X.drop (s / 64)).length = X.length - s / 64 := List.length_drop
  have hWY := hW.drop (s / 64)
  have hsh : val xs / 2 ^ s = val (X.drop (s / 64)) / 2 ^ (s % 64) := by
    have e := val_split X (s / 64) (by omega)
    have hlo := val_lt (hW.take (s / 64))
    rw [List.length_take, Nat.min_eq_left (by omega), Bpow] at hlo
    rw [Bpow] at e
    conv => lhs; rw [← hv, show s = 64 * (s / 64) + s % 64 from (Nat.div_add_mod s 64).symm, Nat.pow_add, ← Nat.div_div_eq_div_mul]
    rw [e, Nat.add_mul_div_left _ _ (Nat.two_pow_pos _), Nat.div_eq_of_lt hlo, Nat.zero_add]
  rw [hsh] at hQ
  have hYb : X.length - s / 64 ≤ 1099511627776 := by omega
  (refine gO ?_)
  clear hsh
  generalize X.drop (s / 64) = Y at *
  generalize X.length - s / 64 = L at *
  subst hYl
  refine AWp_loop (fun i : Nat × List Nat => mk 64 [(0, ws Y), (1, i64 s), (5, .own 0 0 0 Y.length 1), (21, ws Y), (22, i64 Y.length), (23, i64 i.1)] [⟨0, true, us i.2⟩])
      (fun i => i.1 ≤ Y.length ∧ i.2.length = Y.length ∧ Wd i.2 ∧ val (i.2.take i.1) * 2 ^ (s % 64) + Y.getD 0 0 % 2 ^ (s % 64) = val (Y.take i.1) + Y.getD i.1 0 % 2 ^ (s % 64) * 18446744073709551616 ^ i.1) (fun i => Y.length - i.1) (0, List.replicate Y.length 0) ?_
      ⟨Nat.zero_le _, by simp, Wd_replicate _ (by decide), by simp [val]⟩ ?_
  · simp only [u, i64, Nat.reduceSub, Nat.reduceAdd, bm]
  rintro ⟨n, os⟩ ⟨h1, h2, h3, h4⟩
  simp only at h1 h2 h3 h4
  simp only [u, i64, Nat.reduceSub, Nat.reduceAdd, bm]
  by_cases hn : n < Y.length
  · have hw := hWY.getD n
    have hw1 := hWY.getD (n + 1)
    have e1 := val_take_getD Y n
    have hq1 : Y.getD n 0 / 2 ^ (s % 64) < 18446744073709551616 := Nat.lt_of_le_of_lt (Nat.div_le_self _ _) hw
    by_cases hr0 : 0 < s % 64
    · have hst := shr_step hr hr0 hw hw1
      have hfin := shr_inv h4 hst
      have hlow : Y.getD (n + 1) 0 * 2 ^ (64 - s % 64) % 18446744073709551616 < 18446744073709551616 := Nat.mod_lt _ (by decide)
      by_cases hn1 : n + 1 < Y.length
      · have horb : Y.getD n 0 / 2 ^ (s % 64) ||| (Y.getD (n + 1) 0 * 2 ^ (64 - s % 64) % 18446744073709551616) < 18446744073709551616 := Nat.or_lt_two_pow (n := 64) hq1 hlow
        have hself := getD_set_self os n (Y.getD n 0 / 2 ^ (s % 64)) (by omega)
        have hsl : (os.set n (Y.getD n 0 / 2 ^ (s % 64))).length = Y.length := by simp; omega
        have horb2 : (os.set n (Y.getD n 0 / 2 ^ (s % 64))).getD n 0 ||| (Y.getD (n + 1) 0 * 2 ^ (64 - s % 64) % 18446744073709551616) < 18446744073709551616 := by rw [hself]; exact horb
        (refine gO ?_)
        refine ⟨(n + 1, (os.set n (Y.getD n 0 / 2 ^ (s % 64))).set n ((os.set n (Y.getD n 0 / 2 ^ (s % 64))).getD n 0 ||| (Y.getD (n + 1) 0 * 2 ^ (64 - s % 64) % 18446744073709551616))), ?_, ⟨hn, by simpa using h2, (h3.set _ hq1).set _ horb2, ?_⟩, by simp only; omega⟩
        · simp only [u, i64, Nat.reduceSub, Nat.reduceAdd, bm]
        · simp only
          rw [val_set_take _ _ _ (by simp; omega), hself, List.take_set_of_le (Nat.le_refl n), e1, Nat.pow_succ]
          exact hfin
      · have hy0 := getD_over Y (n + 1) (by omega)
        rw [hy0, Nat.zero_mul, Nat.zero_mod, Nat.or_zero, Nat.zero_mod, Nat.zero_mul, Nat.add_zero] at hfin
        (refine gO ?_)
        refine ⟨(n + 1, os.set n (Y.getD n 0 / 2 ^ (s % 64))), ?_, ⟨hn, by simpa using h2, h3.set _ hq1, ?_⟩, by simp only; omega⟩
        · simp only [u, i64, Nat.reduceSub, Nat.reduceAdd, bm]
        · simp only
          rw [val_set_take _ _ _ (by omega), e1, hy0, Nat.zero_mod, Nat.zero_mul, Nat.add_zero]
          exact hfin
    · have hr1 : s % 64 = 0 := by omega
      (refine gO ?_)
      refine ⟨(n + 1, os.set n (Y.getD n 0 / 2 ^ (s % 64))), ?_, ⟨hn, by simpa using h2, h3.set _ hq1, ?_⟩, by simp only; omega⟩
      · simp only [u, i64, Nat.reduceSub, Nat.reduceAdd, bm]
      · simp only
        rw [val_set_take _ _ _ (by omega), e1]
        simp only [hr1, Nat.pow_zero, Nat.mod_one, Nat.div_one, Nat.mul_one, Nat.zero_mul, Nat.add_zero] at h4 ⊢
        rw [h4]
  · have hn0 : n = Y.length := by omega
    subst hn0
    rw [List.take_of_length_le (by omega), List.take_length, getD_over Y _ (Nat.le_refl _), Nat.zero_mod, Nat.zero_mul, Nat.add_zero] at h4
    have hall := div_of (Nat.two_pow_pos _) h4 (Nat.mod_lt _ (Nat.two_pow_pos _))
    (refine gO ?_)
    refine G_cool0 ?_
    (refine gC ?_)
    (refine cR (ret_Trim os h3 (by omega)) ?_; refine sX ?_; try refine aA ?_)
    rw [← hall]
    (refine gO ?_)
    (refine FinQ hQ (congrArg Array.toList Tryz.results106) _ _ ?_); simp (disch := omega) only [u, i64, ax, if_true, forall_const, reduceCtorEq, implies_true, tvs, bf]
end Go.Proofs
