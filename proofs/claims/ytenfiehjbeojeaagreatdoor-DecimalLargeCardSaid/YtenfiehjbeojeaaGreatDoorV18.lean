/-
  Contracts of functions of the program, each proved by a walk.
-/
import Derived.Test.YtenfiehjbeojeaaGreatDoorV17
import Derived.Test.YtenfiehjbeojeaaGreatDoorV14
import Derived.Test.YtenfiehjbeojeaaGreatDoorV15
import Derived.Test.YtenfiehjbeojeaaGreatDoorV12
import Derived.Test.YtenfiehjbeojeaaGreatDoorV8
set_option maxRecDepth 100000
set_option linter.unusedVariables false
set_option linter.unusedSimpArgs false
namespace Go.Proofs
open Go.Ax
end Go.Proofs
set_option linter.unusedVariables false
set_option linter.unusedSimpArgs false
namespace Go.Proofs
open Go.Ax
/-- What the bits below the i-th one say: zeros ahead, zeros behind, ones. -/
def cntS (w : Nat) : Nat → Nat × Nat × Nat
  | 0 => (64, 64, 0)
  | i + 1 => if w / 2 ^ i % 2 = 1 then (63 - i, min (cntS w i).2.1 i, (cntS w i).2.2 + 1) else cntS w i
theorem mod_two_pow_succ (w i : Nat) : w % 2 ^ (i + 1) = w % 2 ^ i + 2 ^ i * (w / 2 ^ i % 2) := by
  rw [Nat.pow_succ, Nat.mod_mul]
theorem cntS_lead (w : Nat) : ∀ i, i ≤ 64 → (cntS w i).1 = 64 - bl (w % 2 ^ i)
  | 0, _ => by simp [cntS, bl, Nat.mod_one]
  | i + 1, h => by
    have ih := cntS_lead w i (by omega)
    have hm := mod_two_pow_succ w i
    have hlt := Nat.mod_lt w (Nat.two_pow_pos i)
    simp only [cntS]
    by_cases hb : w / 2 ^ i % 2 = 1
    · rw [if_pos hb]
      have : bl (w % 2 ^ (i + 1)) = i + 1 := bl_eq (by rw [hm, hb]; omega) (Nat.mod_lt _ (Nat.two_pow_pos _))
      rw [this]; simp only; omega
    · have h0 : w / 2 ^ i % 2 = 0 := by omega
      rw [if_neg hb, ih, hm, h0, Nat.mul_zero, Nat.add_zero]
theorem cntS_bd (w : Nat) : ∀ i, (cntS w i).1 ≤ 64 ∧ (cntS w i).2.1 ≤ 64 ∧ (cntS w i).2.2 ≤ i
  | 0 => by simp [cntS]
  | i + 1 => by
    have := cntS_bd w i
    simp only [cntS]
    split <;> (try simp only) <;> omega
set_option maxRecDepth 100000 in
theorem ret_Count (w : Nat) (hw : w < 18446744073709551616) : Ret Tryz.prog GEs 132 [u w] (.tup [i64 (cntS w 64).1, i64 (cntS w 64).2.1, i64 (cntS w 64).2.2]) := by
  refine RetN_start Tryz.func132 (by kernel_rfl) rfl fun Q hQ hQ2 => ?_; rw [Tryz.ntmps132]; simp only [u, i64, Nat.reduceSub, Nat.reduceAdd, bm]
  (refine gO ?_)
  refine AWp_loop (fun i : Nat => mk 28 [(0, u w), (5, i64 (cntS w i).1), (6, i64 (cntS w i).2.1), (7, i64 (cntS w i).2.2), (8, i64 i)] []) (fun i => i ≤ 64) (fun i => 64 - i) 0 ?_ (Nat.zero_le _) fun i hi => ?_
  · show leS _ (mk 28 [(0, u w), (5, i64 (64 : Nat)), (6, i64 (64 : Nat)), (7, i64 (0 : Nat)), (8, i64 (0 : Nat))] [])
    simp only [u, i64, Nat.reduceSub, Nat.reduceAdd, bm]
  have hbd := cntS_bd w i
  simp only [u, i64, Nat.reduceSub, Nat.reduceAdd, bm]
  by_cases h : i < 64
  · have hq : w / 2 ^ i < 18446744073709551616 := Nat.lt_of_le_of_lt (Nat.div_le_self _ _) hw
    by_cases hb : w / 2 ^ i % 2 = 1
    · have e : cntS w (i + 1) = (63 - i, min (cntS w i).2.1 i, (cntS w i).2.2 + 1) := by simp only [cntS]; rw [if_pos hb]
      (refine gO ?_)
      refine ⟨i + 1, ?_, h, by omega⟩
      simp only [e]
      simp only [u, i64, Nat.reduceSub, Nat.reduceAdd, bm]
    · have e : cntS w (i + 1) = cntS w i := by simp only [cntS]; rw [if_neg hb]
      (refine gO ?_)
      refine ⟨i + 1, ?_, h, by omega⟩
      simp only [e]
      simp only [u, i64, Nat.reduceSub, Nat.reduceAdd, bm]
  · have hi64 : i = 64 := by omega
    subst hi64
    (refine gO ?_)
    (refine FinQ hQ (congrArg Array.toList Tryz.results132) _ _ ?_); simp (disch := omega) only [u, i64, ax, if_true, forall_const, reduceCtorEq, implies_true, tvs, bf]
theorem bl_val (xs : List Nat) (hx : Wd xs) (n : Nat) (hn : top xs = n + 1) : bl (val xs) = 64 * n + bl (xs.getD n 0) := by
  have hw := top_spec xs hx
  have htl := top_le xs
  have hv : val xs ≠ 0 := fun h0 => by
    rw [h0, words_zero, hn] at hw
    have := congrArg List.length hw
    simp at this
    omega
  have := (bl_words (val xs) hv).1
  rw [hw, List.length_take, hn, Nat.min_eq_left (by omega), Nat.add_sub_cancel] at this
  rw [this]
  congr 2
  simp [List.getD_eq_getElem?_getD, List.getElem?_take]
theorem val_top0 (xs : List Nat) (h : top xs = 0) : val xs = 0 := by
  have := top_take xs
  rw [h] at this
  exact this.symm
set_option maxRecDepth 100000 in
theorem ret_rLen (xs : List Nat) (hx : Wd xs) (hl : xs.length ≤ 34359738368) : Ret Tryz.prog GEs 103 [ws xs] (i64 (bl (val xs))) := by
  refine RetN_start Tryz.func103 (by kernel_rfl) rfl fun Q hQ hQ2 => ?_; rw [Tryz.ntmps103]; simp only [u, i64, Nat.reduceSub, Nat.reduceAdd, bm]
  (refine gO ?_)
  refine AWp_loop (fun n : Nat => mk 33 [(0, ws xs), (3, i64 ((n : Int) - 1))] []) (fun n => top xs ≤ n ∧ n ≤ xs.length) (fun n => n) xs.length ?_ ⟨top_le xs, Nat.le_refl _⟩ fun n hn => ?_
  · simp only [u, i64, Nat.reduceSub, Nat.reduceAdd, bm]
  simp only [u, i64, Nat.reduceSub, Nat.reduceAdd, bm]
  by_cases h : 1 ≤ n
  · obtain ⟨m, rfl⟩ : ∃ m, n = m + 1 := ⟨n - 1, by omega⟩
    simp only [Int.natCast_add, Int.natCast_one, Int.add_sub_cancel]
    have hw := hx.getD m
    by_cases h0 : xs.getD m 0 = 0
    · have := top_zero xs (m + 1) hn.1 hn.2 h (by simpa using h0)
      (refine gO ?_)
      refine ⟨m, ?_, ⟨by omega, by omega⟩, by omega⟩
      simp only [u, i64, Nat.reduceSub, Nat.reduceAdd, bm]
    · have ht := top_last xs (m + 1) hn.1 hn.2 h (by simpa using h0)
      have hb := bl_val xs hx m ht
      have hc := cntS_lead (xs.getD m 0) 64 (Nat.le_refl _)
      rw [Nat.mod_eq_of_lt (show xs.getD m 0 < 2 ^ 64 from hw)] at hc
      have hb2 := bl_le (n := xs.getD m 0) (k := 64) hw
      repeat (first | (refine gC ?_; first | refine aA ?_ | (refine cR (ret_Count (xs.getD m 0) hw) ?_; refine sX ?_; try refine aA ?_)) | (refine cR (ret_Count (xs.getD m 0) hw) ?_; refine sX ?_; try refine aA ?_) | refine gS ?_)
      (refine FinQ hQ (congrArg Array.toList Tryz.results103) _ _ ?_); simp (disch := omega) only [u, i64, ax, if_true, forall_const, reduceCtorEq, implies_true, tvs, bf]
      rw [hb, hc]
      congr 1
      omega
  · have hn0 : n = 0 := by omega
    have hv := val_top0 xs (by omega)
    subst hn0
    (refine gO ?_)
    (refine FinQ hQ (congrArg Array.toList Tryz.results103) _ _ ?_); simp (disch := omega) only [u, i64, ax, if_true, forall_const, reduceCtorEq, implies_true, tvs, bf, hv]
    rfl
theorem bl_zero (n : Nat) : (((bl n : Nat) : Int) == 0) = decide (n = 0) := by
  by_cases h : n = 0
  · subst h; rfl
  · have := (bl_spec h).2.2
    rw [decide_eq_false h]; exact beqF (by omega)
set_option maxRecDepth 100000 in
theorem ret_rIsZero (xs : List Nat) (hx : Wd xs) (hl : xs.length ≤ 34359738368) : Ret Tryz.prog GEs 72 [ws xs] (.bool (decide (val xs = 0))) := by
  refine RetN_start Tryz.func72 (by kernel_rfl) rfl fun Q hQ hQ2 => ?_; rw [Tryz.ntmps72]; simp only [u, i64, Nat.reduceSub, Nat.reduceAdd, bm]
  repeat (first | (refine gC ?_; first | refine aA ?_ | (refine cR (ret_rLen xs hx hl) ?_; refine sX ?_; try refine aA ?_)) | (refine cR (ret_rLen xs hx hl) ?_; refine sX ?_; try refine aA ?_) | refine gS ?_)
  (refine FinQ hQ (congrArg Array.toList Tryz.results72) _ _ ?_); simp (disch := omega) only [u, i64, ax, if_true, forall_const, reduceCtorEq, implies_true, tvs, bf]
  rw [bl_zero]
end Go.Proofs
set_option linter.unusedVariables false
set_option linter.unusedSimpArgs false
namespace Go.Proofs
open Go.Ax
end Go.Proofs
set_option linter.unusedVariables false
set_option linter.unusedSimpArgs false
namespace Go.Proofs
open Go.Ax
theorem bit_val (xs : List Nat) (i : Nat) (hx : Wd xs) (h : i / 64 < xs.length) : val xs / 2 ^ i % 2 = xs.getD (i / 64) 0 / 2 ^ (i % 64) % 2 := by
  have hv := val_split xs (i / 64) (by omega)
  rw [val_drop xs _ h] at hv
  have hl := val_lt (hx.take (i / 64))
  rw [List.length_take, Nat.min_eq_left (by omega), Bpow] at hl
  rw [Bpow] at hv
  have hr : i % 64 < 64 := Nat.mod_lt _ (by decide)
  generalize xs.getD (i / 64) 0 = w at *
  generalize val (xs.drop (i / 64 + 1)) = hi at *
  generalize val (xs.take (i / 64)) = lo at *
  have e1 : val xs / 2 ^ (64 * (i / 64)) = w + 18446744073709551616 * hi := by
    rw [hv, Nat.add_mul_div_left _ _ (Nat.two_pow_pos _), Nat.div_eq_of_lt hl, Nat.zero_add]
  have e2 : val xs / 2 ^ i = (w + 18446744073709551616 * hi) / 2 ^ (i % 64) := by
    conv => lhs; rw [show i = 64 * (i / 64) + i % 64 from (Nat.div_add_mod i 64).symm]
    rw [Nat.pow_add, ← Nat.div_div_eq_div_mul, e1]
  rw [e2, show 18446744073709551616 * hi = 2 ^ (i % 64) * (2 ^ (64 - i % 64) * hi) by rw [← Nat.mul_assoc, ← Nat.pow_add, show i % 64 + (64 - i % 64) = 64 by omega], Nat.add_mul_div_left _ _ (Nat.two_pow_pos _)]
  obtain ⟨k, hk⟩ : ∃ k, 64 - i % 64 = k + 1 := ⟨63 - i % 64, by omega⟩
  rw [hk, Nat.pow_succ, Nat.mul_assoc, Nat.mul_left_comm, Nat.add_mul_mod_self_left]
theorem bit_over (xs : List Nat) (i : Nat) (hx : Wd xs) (h : xs.length ≤ i / 64) : val xs / 2 ^ i = 0 := by
  have hl := val_lt hx
  rw [Bpow] at hl
  exact Nat.div_eq_of_lt (Nat.lt_of_lt_of_le hl (Nat.pow_le_pow_right (by decide) (by omega)))
set_option maxRecDepth 100000 in
theorem ret_Bit (xs : List Nat) (i : Nat) (hx : Wd xs) (hl : xs.length ≤ 1099511627776) (hi : i ≤ 1099511627776) : Ret Tryz.prog GEs 131 [ws xs, i64 i] (.bool (decide (val xs / 2 ^ i % 2 = 1))) := by
  refine RetN_start Tryz.func131 (by kernel_rfl) rfl fun Q hQ hQ2 => ?_; rw [Tryz.ntmps131]; simp only [u, i64, Nat.reduceSub, Nat.reduceAdd, bm]
  have hr : i % 64 < 64 := Nat.mod_lt _ (by decide)
  by_cases h : i / 64 < xs.length
  · have hw := hx.getD (i / 64)
    have hw2 : xs.getD (i / 64) 0 / 2 ^ (i % 64) < 18446744073709551616 := Nat.lt_of_le_of_lt (Nat.div_le_self _ _) hw
    (refine gO ?_)
    (refine FinQ hQ (congrArg Array.toList Tryz.results131) _ _ ?_); simp (disch := omega) only [u, i64, ax, if_true, forall_const, reduceCtorEq, implies_true, tvs, bf, bit_val xs i hx h]
  · (refine gO ?_)
    (refine FinQ hQ (congrArg Array.toList Tryz.results131) _ _ ?_); simp (disch := omega) only [u, i64, ax, if_true, forall_const, reduceCtorEq, implies_true, tvs, bf, bit_over xs i hx (by omega)]
    rfl
theorem shr_step {r w w1 : Nat} (hr : r < 64) (h0 : 0 < r) (hw : w < 18446744073709551616) (hw1 : w1 < 18446744073709551616) : (w / 2 ^ r ||| w1 * 2 ^ (64 - r) % 18446744073709551616) * 2 ^ r + w % 2 ^ r = w + w1 % 2 ^ r * 18446744073709551616 := by
  have hlt : w / 2 ^ r < 2 ^ (64 - r) := by
    rw [Nat.div_lt_iff_lt_mul (Nat.two_pow_pos r), ← Nat.pow_add, show 64 - r + r = 64 by omega]; exact hw
  rw [or_add _ _ _ (by omega) hlt hw1]
  have e : w1 * 2 ^ (64 - r) % 18446744073709551616 = 2 ^ (64 - r) * (w1 % 2 ^ r) := by
    rw [show 18446744073709551616 = 2 ^ (64 - r) * 2 ^ r by rw [← Nat.pow_add, show 64 - r + r = 64 by omega], Nat.mul_comm w1, Nat.mul_mod_mul_left]
  have hB : 18446744073709551616 = 2 ^ (64 - r) * 2 ^ r := by rw [← Nat.pow_add, show 64 - r + r = 64 by omega]
  rw [e, Nat.add_mul]
  have e2 : 2 ^ (64 - r) * (w1 % 2 ^ r) * 2 ^ r = w1 % 2 ^ r * 18446744073709551616 := by
    rw [hB, Nat.mul_comm (2 ^ (64 - r)) (w1 % 2 ^ r), Nat.mul_assoc]
  have := Nat.div_add_mod w (2 ^ r)
  rw [Nat.mul_comm] at this
  omega
theorem shr_inv {V Y P R y0 yn yn1 o w B : Nat} (h : V * R + y0 = Y + yn * P) (e : o * R + yn = w + yn1 * B) : (V + P * o) * R + y0 = Y + P * w + yn1 * (P * B) := by
  have : P * (o * R) + P * yn = P * w + yn1 * (P * B) := by rw [← Nat.mul_add, e, Nat.mul_add, Nat.mul_left_comm P]
  rw [Nat.add_mul, Nat.mul_assoc P o R]
  rw [Nat.mul_comm yn P] at h
  omega
theorem div_of {a b q r : Nat} (hb : 0 < b) (h : q * b + r = a) (hr : r < b) : a / b = q := by
  rw [← h, Nat.add_comm, Nat.add_mul_div_right _ _ hb, Nat.div_eq_of_lt hr, Nat.zero_add]
set_option maxRecDepth 100000 in
theorem ret_Shr (xs : List Nat) (s : Nat) (hx : Wd xs) (hl : xs.length ≤ 1099511627776) (hs : s ≤ 1099511627776) : Ret Tryz.prog GEs 88 [ws xs, i64 s] (nat (val xs / 2 ^ s)) := by
  refine RetN_start Tryz.func88 (by kernel_rfl) rfl fun Q hQ hQ2 => ?_; rw [Tryz.ntmps88]; simp only [u, i64, Nat.reduceSub, Nat.reduceAdd, bm]
  (refine gO ?_)
  (refine gC ?_)
  (refine cR (ret_view xs hx (by omega)) ?_; refine sX ?_; try refine aA ?_)
  have hX := length_words_val_le hx
  have hW := Wd_words (val xs)
  have hv := val_words (val xs)
  simp only [nat]
  generalize words (val xs) = X at *
  by_cases h0 : X.length ≤ s / 64
  · (refine gO ?_)
    (refine FinQ hQ (congrArg Array.toList Tryz.results88) _ _ ?_); simp (disch := omega) only [u, i64, ax, if_true, forall_const, reduceCtorEq, implies_true, tvs, bf]
    rw [← hv, bit_over X s hW h0, nat, words_zero]; rfl
  have hr : s % 64 < 64 := Nat.mod_lt _ (by decide)
  have hYl : (X.drop (s / 64)).length = X.length - s / 64 := List.length_drop
  have hWY := hW.drop (s / 64)
  have hsh : val xs / 2 ^ s = val (X.drop (s / 64)) / 2 ^ (s % 64) := by
    have e := val_split X (s / 64) (by omega)
    have hlo := val_lt (hW.take (s / 64))
    rw [List.length_take, Nat.min_eq_left (by omega), Bpow] at hlo
    rw [Bpow] at e
    conv => lhs; rw [← hv, show s = 64 * (s / 64) + s % 64 from (Nat.div_add_mod s 64).symm, Nat.pow_add, ← Nat.div_div_eq_div_mul]
    rw [e, Nat.add_mul_div_left _ _ (Nat.two_pow_pos _), Nat.div_eq_of_lt hlo, Nat.zero_add]
  rw [hsh] at hQ
  have hYb : X.length - s / 64 ≤ 1099511627776 := by omega
  (refine gO ?_)
  clear hsh
  generalize X.drop (s / 64) = Y at *
  generalize X.length - s / 64 = L at *
  subst hYl
  refine AWp_loop (fun i : Nat × List Nat => mk 64 [(0, ws Y), (1, i64 s), (5, .own 0 0 0 Y.length 1), (21, ws Y), (22, i64 Y.length), (23, i64 i.1)] [⟨0, true, us i.2⟩])
      (fun i => i.1 ≤ Y.length ∧ i.2.length = Y.length ∧ Wd i.2 ∧ val (i.2.take i.1) * 2 ^ (s % 64) + Y.getD 0 0 % 2 ^ (s % 64) = val (Y.take i.1) + Y.getD i.1 0 % 2 ^ (s % 64) * 18446744073709551616 ^ i.1) (fun i => Y.length - i.1) (0, List.replicate Y.length 0) ?_
      ⟨Nat.zero_le _, by simp, Wd_replicate _ (by decide), by simp [val]⟩ ?_
  · simp only [u, i64, Nat.reduceSub, Nat.reduceAdd, bm]
  rintro ⟨n, os⟩ ⟨h1, h2, h3, h4⟩
  simp only at h1 h2 h3 h4
  simp only [u, i64, Nat.reduceSub, Nat.reduceAdd, bm]
  by_cases hn : n < Y.length
  · have hw := hWY.getD n
    have hw1 := hWY.getD (n + 1)
    have e1 := val_take_getD Y n
    have hq1 : Y.getD n 0 / 2 ^ (s % 64) < 18446744073709551616 := Nat.lt_of_le_of_lt (Nat.div_le_self _ _) hw
    by_cases hr0 : 0 < s % 64
    · have hst := shr_step hr hr0 hw hw1
      have hfin := shr_inv h4 hst
      have hlow : Y.getD (n + 1) 0 * 2 ^ (64 - s % 64) % 18446744073709551616 < 18446744073709551616 := Nat.mod_lt _ (by decide)
      by_cases hn1 : n + 1 < Y.length
      · have horb : Y.getD n 0 / 2 ^ (s % 64) ||| (Y.getD (n + 1) 0 * 2 ^ (64 - s % 64) % 18446744073709551616) < 18446744073709551616 := Nat.or_lt_two_pow (n := 64) hq1 hlow
        have hself := getD_set_self os n (Y.getD n 0 / 2 ^ (s % 64)) (by omega)
        have hsl : (os.set n (Y.getD n 0 / 2 ^ (s % 64))).length = Y.length := by simp; omega
        have horb2 : (os.set n (Y.getD n 0 / 2 ^ (s % 64))).getD n 0 ||| (Y.getD (n + 1) 0 * 2 ^ (64 - s % 64) % 18446744073709551616) < 18446744073709551616 := by rw [hself]; exact horb
        (refine gO ?_)
        refine ⟨(n + 1, (os.set n (Y.getD n 0 / 2 ^ (s % 64))).set n ((os.set n (Y.getD n 0 / 2 ^ (s % 64))).getD n 0 ||| (Y.getD (n + 1) 0 * 2 ^ (64 - s % 64) % 18446744073709551616))), ?_, ⟨hn, by simpa using h2, (h3.set _ hq1).set _ horb2, ?_⟩, by simp only; omega⟩
        · simp only [u, i64, Nat.reduceSub, Nat.reduceAdd, bm]
        · simp only
          rw [val_set_take _ _ _ (by simp; omega), hself, List.take_set_of_le (Nat.le_refl n), e1, Nat.pow_succ]
          exact hfin
      · have hy0 := getD_over Y (n + 1) (by omega)
        rw [hy0, Nat.zero_mul, Nat.zero_mod, Nat.or_zero, Nat.zero_mod, Nat.zero_mul, Nat.add_zero] at hfin
        (refine gO ?_)
        refine ⟨(n + 1, os.set n (Y.getD n 0 / 2 ^ (s % 64))), ?_, ⟨hn, by simpa using h2, h3.set _ hq1, ?_⟩, by simp only; omega⟩
        · simp only [u, i64, Nat.reduceSub, Nat.reduceAdd, bm]
        · simp only
          rw [val_set_take _ _ _ (by omega), e1, hy0, Nat.zero_mod, Nat.zero_mul, Nat.add_zero]
          exact hfin
    · have hr1 : s % 64 = 0 := by omega
      (refine gO ?_)
      refine ⟨(n + 1, os.set n (Y.getD n 0 / 2 ^ (s % 64))), ?_, ⟨hn, by simpa using h2, h3.set _ hq1, ?_⟩, by simp only; omega⟩
      · simp only [u, i64, Nat.reduceSub, Nat.reduceAdd, bm]
      · simp only
        rw [val_set_take _ _ _ (by omega), e1]
        simp only [hr1, Nat.pow_zero, Nat.mod_one, Nat.div_one, Nat.mul_one, Nat.zero_mul, Nat.add_zero] at h4 ⊢
        rw [h4]
  · have hn0 : n = Y.length := by omega
    subst hn0
    rw [List.take_of_length_le (by omega), List.take_length, getD_over Y _ (Nat.le_refl _), Nat.zero_mod, Nat.zero_mul, Nat.add_zero] at h4
    have hall := div_of (Nat.two_pow_pos _) h4 (Nat.mod_lt _ (Nat.two_pow_pos _))
    (refine gO ?_)
    refine G_cool0 ?_
    (refine gC ?_)
    (refine cR (ret_Trim os h3 (by omega)) ?_; refine sX ?_; try refine aA ?_)
    rw [← hall]
    (refine gO ?_)
    (refine FinQ hQ (congrArg Array.toList Tryz.results88) _ _ ?_); simp (disch := omega) only [u, i64, ax, if_true, forall_const, reduceCtorEq, implies_true, tvs, bf]
end Go.Proofs
set_option linter.unusedVariables false
set_option linter.unusedSimpArgs false
namespace Go.Proofs
open Go.Ax
set_option maxRecDepth 100000 in
theorem retF_Trim (xs : List Nat) (hne : val xs ≠ 0) (hw : Wd xs) (hl : xs.length ≤ 1099511627776) : RetF Tryz.prog GEs 82 [ws xs] (us (words (val xs))) := by
  refine RetF_start Tryz.func82 (by kernel_rfl) rfl fun Q hQ hQ2 => ?_; rw [Tryz.ntmps82]; simp only [u, i64, Nat.reduceSub, Nat.reduceAdd, bm]
  (refine gO ?_)
  (refine gC ?_)
  (refine cR (ret_view xs hw hl) ?_; refine sX ?_; try refine aA ?_)
  have hlen := length_words_val_le hw
  have hpos : 0 < (words (val xs)).length := List.length_pos_iff.2 fun h => hne (words_eq_nil.1 h)
  (refine gO ?_)
  refine FinQF hQ (congrArg Array.toList Tryz.results82) _ _ _ _ _ _ _ rfl rfl (by simp [us_length]) (by rw [List.take_of_length_le (by simp [us_length])]) (us_noMem _)
set_option maxRecDepth 100000 in
theorem retF_Shl (xs : List Nat) (s : Nat) (hne : val xs ≠ 0) (hx : Wd xs) (hl : xs.length ≤ 549755813888) (hs : s ≤ 549755813888) : RetF Tryz.prog GEs 76 [ws xs, i64 s] (us (words (val xs * 2 ^ s))) := by
  refine RetF_start Tryz.func76 (by kernel_rfl) rfl fun Q hQ hQ2 => ?_; rw [Tryz.ntmps76]; simp only [u, i64, Nat.reduceSub, Nat.reduceAdd, bm]
  (refine gO ?_)
  (refine gC ?_)
  (refine cR (ret_view xs hx (by omega)) ?_; refine sX ?_; try refine aA ?_)
  have hX := length_words_val_le hx
  have hW := Wd_words (val xs)
  have hv := val_words (val xs)
  simp only [nat]
  generalize words (val xs) = X at *
  by_cases h0 : X.length = 0
  · have : X = [] := List.eq_nil_of_length_eq_zero h0
    subst this
    exact absurd hv.symm hne
  have hr : s % 64 < 64 := Nat.mod_lt _ (by decide)
  have hsq : s = 64 * (s / 64) + s % 64 := (Nat.div_add_mod s 64).symm
  (refine gO ?_)
  refine AWp_loop (fun i : Nat × List Nat => mk 58 [(0, ws X), (1, i64 s), (5, .own 0 0 0 (X.length + s / 64 + 1) 1), (20, ws X), (21, i64 X.length), (22, i64 i.1)] [⟨0, true, us i.2⟩])
      (fun i => i.1 ≤ X.length ∧ i.2.length = X.length + s / 64 + 1 ∧ Wd i.2 ∧ i.2.getD (i.1 + s / 64) 0 < 2 ^ (s % 64) ∧ (∀ k, i.1 + s / 64 < k → i.2.getD k 0 = 0) ∧ val (i.2.take (i.1 + s / 64)) + 18446744073709551616 ^ (i.1 + s / 64) * i.2.getD (i.1 + s / 64) 0 = val (X.take i.1) * 2 ^ s) (fun i => X.length - i.1) (0, List.replicate (X.length + s / 64 + 1) 0) ?_
      ⟨Nat.zero_le _, by simp, Wd_replicate _ (by decide), by rw [getD_rep]; exact Nat.two_pow_pos _, fun k _ => getD_rep _ _, by simp only [getD_rep]; simp [val, val_replicate_zero]⟩ ?_
  · simp only [u, i64, Nat.reduceSub, Nat.reduceAdd, bm]
  rintro ⟨n, os⟩ ⟨h1, h2, h3, h4, h5, h6⟩
  simp only at h1 h2 h3 h4 h5 h6
  simp only [u, i64, Nat.reduceSub, Nat.reduceAdd, bm]
  by_cases hn : n < X.length
  · have hw := hW.getD n
    have ho := h3.getD (n + s / 64)
    have e1 := val_take_getD X n
    have hlow : X.getD n 0 * 2 ^ (s % 64) % 18446744073709551616 < 18446744073709551616 := Nat.mod_lt _ (by decide)
    have hor := or_add _ _ _ hr h4 hw
    have horb : os.getD (n + s / 64) 0 ||| (X.getD n 0 * 2 ^ (s % 64) % 18446744073709551616) < 18446744073709551616 := Nat.or_lt_two_pow (n := 64) ho hlow
    have hhi := div_lt_two (X.getD n 0) (s % 64) hw
    have hmd : X.getD n 0 * 2 ^ (s % 64) % 18446744073709551616 + X.getD n 0 * 2 ^ (s % 64) / 18446744073709551616 * 18446744073709551616 = X.getD n 0 * 2 ^ (s % 64) := by omega
    have h6' := h6
    rw [Nat.pow_add] at h6'
    have hfin := shl_step h6' hmd
    have hs2 : 2 ^ s = 18446744073709551616 ^ (s / 64) * 2 ^ (s % 64) := by rw [Bpow, ← Nat.pow_add, ← hsq]
    have hB : 2 ^ (s % 64) ≤ 2 ^ 64 := Nat.pow_le_pow_right (by decide) (by omega)
    by_cases hr0 : 0 < s % 64
    · have hsd := shr_div (X.getD n 0) _ hr hr0
      (refine gO ?_)
      refine ⟨(n + 1, (os.set (n + s / 64) (os.getD (n + s / 64) 0 ||| (X.getD n 0 * 2 ^ (s % 64) % 18446744073709551616))).set (n + s / 64 + 1) (X.getD n 0 / 2 ^ (64 - s % 64))), ?_, ⟨hn, by simpa using h2, (h3.set _ horb).set _ (by rw [hsd]; exact Nat.lt_of_lt_of_le hhi hB), ?_, ?_, ?_⟩, by simp only; omega⟩
      · simp only [u, i64, Nat.reduceSub, Nat.reduceAdd, bm]
      · simp only
        rw [show n + 1 + s / 64 = n + s / 64 + 1 by omega, getD_set_self _ _ _ (by simp; omega), hsd]
        exact hhi
      · intro k hk
        simp only at hk ⊢
        rw [getD_set_ne _ _ _ _ (by omega), getD_set_ne _ _ _ _ (by omega)]
        exact h5 k (by omega)
      · simp only
        rw [show n + 1 + s / 64 = n + s / 64 + 1 by omega, getD_set_self _ _ _ (by simp; omega), List.take_set_of_le (by omega), val_set_take _ _ _ (by omega), hsd, hor, e1, Nat.add_mul, hs2, ← hs2, Nat.pow_succ, Nat.pow_add]
        rw [hfin, hs2, Nat.mul_assoc (18446744073709551616 ^ n)]
    · have hr1 : s % 64 = 0 := by omega
      (refine gO ?_)
      refine ⟨(n + 1, os.set (n + s / 64) (os.getD (n + s / 64) 0 ||| (X.getD n 0 * 2 ^ (s % 64) % 18446744073709551616))), ?_, ⟨hn, by simpa using h2, h3.set _ horb, ?_, ?_, ?_⟩, by simp only; omega⟩
      · simp only [u, i64, Nat.reduceSub, Nat.reduceAdd, bm]
      · simp only
        rw [getD_set_ne _ _ _ _ (by omega), h5 (n + 1 + s / 64) (by omega)]
        exact Nat.two_pow_pos _
      · intro k hk
        simp only at hk ⊢
        rw [getD_set_ne _ _ _ _ (by omega)]
        exact h5 k (by omega)
      · have hh0 : X.getD n 0 * 2 ^ (s % 64) / 18446744073709551616 = 0 := by rw [hr1, Nat.pow_zero, Nat.mul_one]; exact Nat.div_eq_of_lt hw
        rw [hh0, Nat.mul_zero, Nat.add_zero] at hfin
        simp only
        rw [getD_set_ne _ _ _ _ (by omega), h5 (n + 1 + s / 64) (by omega), Nat.mul_zero, Nat.add_zero, show n + 1 + s / 64 = n + s / 64 + 1 by omega, val_set_take _ _ _ (by omega), hor, e1, Nat.add_mul, Nat.pow_add]
        rw [hfin, hs2, Nat.mul_assoc (18446744073709551616 ^ n)]
  · have hn0 : n = X.length := by omega
    subst hn0
    have hall : val os = val xs * 2 ^ s := by
      have e := val_take_getD os (X.length + s / 64)
      rw [List.take_of_length_le (by omega), h6, List.take_length, hv] at e
      exact e
    have hne2 : val xs * 2 ^ s ≠ 0 := Nat.mul_ne_zero hne (Nat.ne_of_gt (Nat.two_pow_pos s))
    have hF := retF_Trim os (by rw [hall]; exact hne2) h3 (by omega)
    rw [hall] at hF
    (refine gO ?_)
    ((first | refine G_sregL 1 mixed (by first | rfl | kernel_rfl) rfl rfl ?_ | refine G_regL 1 mixed (by first | rfl | kernel_rfl) rfl rfl ?_); simp (disch := omega) only [u, i64, ax, eq_self, if_true, if_false, Nat.reduceAdd, Int.reduceToNat, Int.reduceAdd, tvs, bs, tk_0, tk_S]; refine aft_any ?_)
    (refine LStep_fresh rfl (by rfl) (by refine sX ?_; (simp (disch := omega) only [if_true, forall_const, reduceCtorEq, implies_true, bz]) <;> rfl) (us_noMem _) hF ?_; simp (disch := omega) only [u, i64, ax, eq_self, if_true, if_false, Nat.reduceAdd, Int.reduceToNat, Int.reduceAdd, tvs, bs, mp_0, mp_S, ap_0, ap_S, tk_0, tk_S, us_length]; try refine aA ?_)
    (refine gO ?_)
    refine FinQF hQ (congrArg Array.toList Tryz.results76) _ _ _ _ _ _ _ rfl rfl (by simp [us_length]) (by rw [List.take_of_length_le (by simp [us_length])]) (us_noMem _)
end Go.Proofs
