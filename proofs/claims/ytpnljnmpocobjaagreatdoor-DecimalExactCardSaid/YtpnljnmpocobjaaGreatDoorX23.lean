/-
  Contracts of functions of the program, each proved by a walk.
-/
import Derived.Test.YtpnljnmpocobjaaGreatDoorX13
import Derived.Test.YtpnljnmpocobjaaGreatDoorX12
import Derived.Test.YtpnljnmpocobjaaGreatDoorX21
import Derived.Test.YtpnljnmpocobjaaGreatDoorX9
set_option maxRecDepth 100000
set_option linter.unusedVariables false
set_option linter.unusedSimpArgs false
namespace Go.Proofs
open Go.Ax
end Go.Proofs
set_option linter.unusedVariables false
set_option linter.unusedSimpArgs false
namespace Go.Proofs
open Go.Ax
end Go.Proofs
set_option linter.unusedVariables false
set_option linter.unusedSimpArgs false
namespace Go.Proofs
open Go.Ax
theorem length_bl {n k : Nat} (h : bl n ≤ 64 * k) : (words n).length ≤ k := length_le (by
  rw [Bpow]
  exact Nat.lt_of_lt_of_le (bl_lt n) (Nat.pow_le_pow_right (by decide) h))
end Go.Proofs
set_option linter.unusedVariables false
set_option linter.unusedSimpArgs false
namespace Go.Proofs
open Go.Ax
set_option maxRecDepth 100000 in
theorem ret_rBit (xs : List Nat) (i : Nat) (hx : Wd xs) (hl : xs.length ≤ 1099511627776) (hi : i ≤ 1099511627776) : Ret Tryz.prog GEs 207 [ws xs, i64 i] (.bool (decide (val xs / 2 ^ i % 2 = 1))) := by
  refine RetN_start Tryz.func207 (by kernel_rfl) rfl fun Q hQ hQ2 => ?_; rw [Tryz.ntmps207]; simp only [u, i64, Nat.reduceSub, Nat.reduceAdd, bm]
  have hr : i % 64 < 64 := Nat.mod_lt _ (by decide)
  by_cases h : i / 64 < xs.length
  · have hw := hx.getD (i / 64)
    have hw2 : xs.getD (i / 64) 0 / 2 ^ (i % 64) < 18446744073709551616 := Nat.lt_of_le_of_lt (Nat.div_le_self _ _) hw
    (refine gO ?_)
    (refine FinQ hQ (congrArg Array.toList Tryz.results207) _ _ ?_); simp (disch := omega) only [u, i64, ax, if_true, forall_const, reduceCtorEq, implies_true, tvs, bf, bit_val xs i hx h]
  · (refine gO ?_)
    (refine FinQ hQ (congrArg Array.toList Tryz.results207) _ _ ?_); simp (disch := omega) only [u, i64, ax, if_true, forall_const, reduceCtorEq, implies_true, tvs, bf, bit_over xs i hx (by omega)]
    rfl
theorem left_row (xs : List Nat) (v : Nat) (D : List Nat) (hD : D = wfb 4294967296 (2 * xs.length + 2) v) (hv : v < 4294967296 ^ (2 * xs.length + 2)) :
    Wd (joined (D.take (2 * xs.length)) ++ [D.getD (2 * xs.length) 0 + D.getD (2 * xs.length + 1) 0 * 4294967296]) ∧ val (joined (D.take (2 * xs.length)) ++ [D.getD (2 * xs.length) 0 + D.getD (2 * xs.length + 1) 0 * 4294967296]) = v ∧ (joined (D.take (2 * xs.length))).length = xs.length := by
  have hl : D.length = 2 * xs.length + 2 := by rw [hD, wfb_length]
  have e := joined_take D xs.length (by omega)
  rw [List.take_of_length_le (by omega)] at e
  rw [← e]
  have hd : Ds 4294967296 D := by rw [hD]; exact wfb_Ds (by decide) _ _
  refine ⟨joined_Wd hd, ?_, ?_⟩
  · rw [joined_val _ (by omega), hD, vb_wfb (by decide) _ _ hv]
  · rw [joined_length, List.length_take]; omega
theorem pad_self (ds : List Nat) (m : Nat) (h : ds.length = m) : pad ds m = ds := by unfold pad; rw [h, Nat.sub_self]; simp
set_option maxRecDepth 100000 in
theorem ret_rLeft1 (xs : List Nat) (s : Nat) (hx : Wd xs) (hs : s < 64) (hl : xs.length ≤ 34359738368) : ∃ row : List Nat, ∃ hi : Nat, Wd (row ++ [hi]) ∧ val (row ++ [hi]) = val xs * 2 ^ s ∧ row.length = xs.length ∧ Ret Tryz.prog GEs 183 [ws xs, i64 s] (.tup [ws row, u hi]) := by
  have hp : 2 ^ s < 18446744073709551616 := Nat.pow_lt_pow_right (a := 2) (m := s) (n := 64) (by decide) hs
  have hv : val xs * 2 ^ s < 4294967296 ^ (2 * xs.length + 2) := by
    rw [Nat.pow_add, pow_half]
    exact Nat.mul_lt_mul'' (val_lt hx) hp
  obtain ⟨D, hD⟩ : ∃ D, D = wfb 4294967296 (2 * xs.length + 2) (val xs * 2 ^ s) := ⟨_, rfl⟩
  obtain ⟨h1, h2, h3⟩ := left_row xs _ D hD hv
  refine ⟨_, _, h1, h2, h3, ?_⟩
  have hT := ret_Times (digs xs) [2 ^ s % 4294967296, 2 ^ s / 4294967296] (digs_Ds hx) (Ds_cons (by omega) (Ds_cons (by omega) Ds_nil)) (by rw [digs_length]; omega) (by simp)
  rw [digs_val, digs_length, show vb 4294967296 [2 ^ s % 4294967296, 2 ^ s / 4294967296] = 2 ^ s by simp only [vb]; omega, show [2 ^ s % 4294967296, 2 ^ s / 4294967296].length = 2 from rfl, ← hD] at hT
  have hC := ret_Cut D xs.length (by rw [hD]; exact wfb_Ds (by decide) _ _) (by rw [hD, wfb_length]; omega) (by omega)
  rw [pad_self D _ (by rw [hD, wfb_length])] at hC
  refine RetN_start Tryz.func183 (by kernel_rfl) rfl fun Q hQ hQ2 => ?_; rw [Tryz.ntmps183]; simp only [u, i64, Nat.reduceSub, Nat.reduceAdd, bm]
  (refine gO ?_)
  (refine gC ?_)
  (refine cR (ret_Digits xs hx (by omega)) ?_; refine sX ?_; try refine aA ?_)
  simp only [Nat.one_mul]
  repeat (first | (refine gC ?_; first | refine aA ?_ | ((first | refine cR (ret_rWord (2 ^ s) hp) ?_ | refine cR hT ?_ | refine cR hC ?_); refine sX ?_; try refine aA ?_)) | ((first | refine cR (ret_rWord (2 ^ s) hp) ?_ | refine cR hT ?_ | refine cR hC ?_); refine sX ?_; try refine aA ?_) | refine gS ?_)
  (refine FinQ hQ (congrArg Array.toList Tryz.results183) _ _ ?_); simp (disch := omega) only [u, i64, ax, if_true, forall_const, reduceCtorEq, implies_true, tvs, bf]
set_option maxRecDepth 100000 in
theorem ret_rLeft (xs : List Nat) (s : Nat) (hx : Wd xs) (hl : xs.length ≤ 8589934592) (hs : s ≤ 549755813888) : Ret Tryz.prog GEs 98 [ws xs, i64 s] (nat (val xs * 2 ^ s)) := by
  have hr : s % 64 < 64 := Nat.mod_lt _ (by decide)
  obtain ⟨row, hi, h1, h2, h3, hL⟩ := ret_rLeft1 xs (s % 64) hx hr (by omega)
  have hW : Wd (List.replicate (s / 64) 0 ++ (row ++ [hi])) := (Wd_replicate _ (by decide)).append h1
  have hv : val (List.replicate (s / 64) 0 ++ (row ++ [hi])) = val xs * 2 ^ s := by
    rw [val_append, val_replicate_zero, h2, List.length_replicate, Nat.zero_add, Nat.mul_left_comm, Bpow, ← Nat.pow_add, Nat.div_add_mod]
  have hT := ret_rTrim _ hW (by simp [h3]; omega)
  rw [hv] at hT
  refine RetN_start Tryz.func98 (by kernel_rfl) rfl fun Q hQ hQ2 => ?_; rw [Tryz.ntmps98]; simp only [u, i64, Nat.reduceSub, Nat.reduceAdd, bm]
  (refine gO ?_)
  (refine gC ?_)
  (refine cR hL ?_; refine sX ?_; try refine aA ?_)
  have hrl : row.length ≤ 8589934592 := by omega
  have hall : (List.replicate (s / 64) 0 ++ row) ++ [hi] = List.replicate (s / 64) 0 ++ (row ++ [hi]) := List.append_assoc _ _ _
  have hlen : ((List.replicate (s / 64) 0 ++ row) ++ [hi]).length = s / 64 + row.length + 1 := by simp; omega
  have hlen2 : (List.replicate (s / 64) 0 ++ row).length = s / 64 + row.length := by simp
  rw [← hall] at hT
  (refine gO ?_)
  ((first | refine G_sregL 4 mixed (by first | rfl | kernel_rfl) rfl rfl ?_ | refine G_regL 4 mixed (by first | rfl | kernel_rfl) rfl rfl ?_); simp (disch := omega) only [u, i64, ax, eq_self, if_true, if_false, Nat.reduceAdd, Int.reduceToNat, Int.reduceAdd, tvs, bs, tk_0, tk_S]; refine aft_any ?_)
  rw [← us_snoc1]
  refine LStep_cool0 ?_
  (refine LStep_ret rfl (by rfl) (by refine sX ?_; (simp (disch := omega) only [if_true, forall_const, reduceCtorEq, implies_true, bz]) <;> rfl) hT ?_; simp (disch := omega) only [u, i64, ax, eq_self, if_true, if_false, Nat.reduceAdd, Int.reduceToNat, Int.reduceAdd, tvs, bs, mp_0, mp_S, ap_0, ap_S, tk_0, tk_S, us_length]; try refine aA ?_)
  (refine gO ?_)
  (refine FinQ hQ (congrArg Array.toList Tryz.results98) _ _ ?_); simp (disch := omega) only [u, i64, ax, if_true, forall_const, reduceCtorEq, implies_true, tvs, bf]
end Go.Proofs
set_option linter.unusedVariables false
set_option linter.unusedSimpArgs false
namespace Go.Proofs
open Go.Ax
theorem right_word {R a s : Nat} (hs : s < 64) (ha : a < 18446744073709551616) : (R * 18446744073709551616 + a) / 2 ^ s = R * 2 ^ (64 - s) + a / 2 ^ s ∧ (R * 18446744073709551616 + a) % 2 ^ s = a % 2 ^ s ∧ a * 2 ^ (64 - s) % 18446744073709551616 = a % 2 ^ s * 2 ^ (64 - s) := by
  have e : 18446744073709551616 = 2 ^ s * 2 ^ (64 - s) := by rw [← Nat.pow_add, show s + (64 - s) = 64 by omega]
  refine ⟨?_, ?_, ?_⟩
  · rw [e, Nat.mul_left_comm, Nat.add_comm, Nat.add_mul_div_left _ _ (Nat.two_pow_pos s), Nat.add_comm]
  · rw [e, Nat.mul_left_comm, Nat.add_comm, Nat.add_mul_mod_self_left]
  · rw [e, Nat.mul_comm (2 ^ s), Nat.mul_comm a, Nat.mul_mod_mul_left, Nat.mul_comm]
set_option maxRecDepth 100000 in
set_option maxHeartbeats 1000000 in
theorem ret_rRight1 (xs : List Nat) (s : Nat) (hx : Wd xs) (hs : s < 64) (hl : xs.length ≤ 34359738368) : ∃ f : Nat, Ret Tryz.prog GEs 234 [ws xs, i64 s] (.tup [ws (wf xs.length (val xs / 2 ^ s)), u f]) := by
  refine ⟨if s = 0 then 0 else val xs % 2 ^ s * 2 ^ (64 - s), ?_⟩
  have hp := Nat.two_pow_pos s
  refine RetN_start Tryz.func234 (by kernel_rfl) rfl fun Q hQ hQ2 => ?_; rw [Tryz.ntmps234]; simp only [u, i64, Nat.reduceSub, Nat.reduceAdd, bm]
  (refine gO ?_)
  refine AWp_loop (fun i : Nat × List Nat => mk 41 [(0, ws xs), (1, i64 s), (6, .own 0 0 0 xs.length 1), (7, u (if s = 0 then 0 else val (xs.drop i.1) % 2 ^ s * 2 ^ (64 - s))), (8, i64 ((i.1 : Int) - 1))] [⟨0, true, us i.2⟩])
    (fun i => i.1 ≤ xs.length ∧ i.2.length = xs.length ∧ Wd i.2 ∧ val (i.2.drop i.1) = val (xs.drop i.1) / 2 ^ s) (fun i => i.1) (xs.length, List.replicate xs.length 0) ?_ ⟨Nat.le_refl _, by simp, Wd_replicate _ (by decide), by simp [val]⟩ ?_
  · have : (if s = 0 then 0 else val (xs.drop xs.length) % 2 ^ s * 2 ^ (64 - s)) = 0 := by simp [val]
    simp only [this]
    simp only [u, i64, Nat.reduceSub, Nat.reduceAdd, bm]
  rintro ⟨n, os⟩ ⟨h1, h2, h3, h4⟩
  simp only at h1 h2 h3 h4
  simp only [u, i64, Nat.reduceSub, Nat.reduceAdd, bm]
  by_cases hn : 1 ≤ n
  · obtain ⟨m, rfl⟩ : ∃ m, n = m + 1 := ⟨n - 1, by omega⟩
    have ha := hx.getD m
    have hst := divw_step (a := xs.getD m 0) hp h4 rfl
    have hq := divw_lt (Nat.mod_lt (val (xs.drop (m + 1))) hp) ha
    have hv := val_drop xs m (by omega)
    rw [← hv] at hst
    obtain ⟨r1, r2, r3⟩ := right_word (R := val (xs.drop (m + 1)) % 2 ^ s) hs ha
    obtain ⟨q, hqd⟩ : ∃ q, (val (xs.drop (m + 1)) % 2 ^ s * 18446744073709551616 + xs.getD m 0) / 2 ^ s = q := ⟨_, rfl⟩
    have hs2 := val_drop_set os m q (by omega)
    rw [hqd] at hst hq r1
    rw [hst.1] at hs2
    have hmod : xs.getD m 0 % 2 ^ s = val (xs.drop m) % 2 ^ s := by rw [← r2]; exact hst.2
    have hx2 : xs.getD m 0 / 2 ^ s < 18446744073709551616 := Nat.lt_of_le_of_lt (Nat.div_le_self _ _) ha
    simp only [Int.natCast_add, Int.natCast_one, Int.add_sub_cancel]
    by_cases h0 : s = 0
    · subst h0
      simp only [if_true, Nat.pow_zero, Nat.mod_one, Nat.zero_mul, Nat.zero_add, Nat.div_one] at r1 hx2 hs2 h4 ⊢
      (refine gO ?_)
      refine ⟨(m, os.set m q), ?_, ⟨by simp only; omega, by simpa using h2, h3.set m hq, by simpa using hs2⟩, by simp only; omega⟩
      simp only [if_true]
      rw [r1]
      simp only [Int.zero_add, Nat.pow_zero, Nat.div_one, wrapU_mod, Nat.mod_eq_of_lt ha, us_set]
      simp only [u, i64, Nat.reduceSub, Nat.reduceAdd, bm]
    · simp only [if_neg h0]
      have hw1 : val (xs.drop (m + 1)) % 2 ^ s * 2 ^ (64 - s) < 18446744073709551616 := by
        have e : 18446744073709551616 = 2 ^ s * 2 ^ (64 - s) := by rw [← Nat.pow_add, show s + (64 - s) = 64 by omega]
        rw [e]; exact (Nat.mul_lt_mul_right (Nat.two_pow_pos _)).2 (Nat.mod_lt _ hp)
      have hw2 : val (xs.drop (m + 1)) % 2 ^ s * 2 ^ (64 - s) + xs.getD m 0 / 2 ^ s < 18446744073709551616 := by rw [← r1]; exact hq
      (refine gO ?_)
      refine ⟨(m, os.set m q), ?_, ⟨by simp only; omega, by simpa using h2, h3.set m hq, hs2⟩, by simp only; omega⟩
      simp only [if_neg h0]
      rw [r1, ← hmod, ← r3]
      simp only [u, i64, Nat.reduceSub, Nat.reduceAdd, bm]
  · have hn0 : n = 0 := by omega
    subst hn0
    simp only [List.drop_zero] at h4 ⊢
    have he := wf_val os h3
    rw [h2, h4] at he
    rw [he] at hQ
    (refine gO ?_)
    (refine FinQ hQ (congrArg Array.toList Tryz.results234) _ _ ?_); simp (disch := omega) only [u, i64, ax, if_true, forall_const, reduceCtorEq, implies_true, tvs, bf]
theorem val_div (xs : List Nat) (s : Nat) (hx : Wd xs) (h : s / 64 ≤ xs.length) : val (xs.drop (s / 64)) / 2 ^ (s % 64) = val xs / 2 ^ s := by
  have e := val_split xs (s / 64) h
  have hl := val_lt (hx.take (s / 64))
  rw [List.length_take, Nat.min_eq_left h] at hl
  have hB : 0 < 18446744073709551616 ^ (s / 64) := Nat.pow_pos (by decide)
  have e1 : val xs / 18446744073709551616 ^ (s / 64) = val (xs.drop (s / 64)) := by
    rw [e, Nat.add_mul_div_left _ _ hB, Nat.div_eq_of_lt hl, Nat.zero_add]
  rw [← e1, Nat.div_div_eq_div_mul, Bpow, ← Nat.pow_add, Nat.div_add_mod]
set_option maxRecDepth 100000 in
theorem ret_rRight (xs : List Nat) (s : Nat) (hx : Wd xs) (hl : xs.length ≤ 34359738368) (hs : s ≤ 1099511627776) : Ret Tryz.prog GEs 175 [ws xs, i64 s] (nat (val xs / 2 ^ s)) := by
  have hr : s % 64 < 64 := Nat.mod_lt _ (by decide)
  refine RetN_start Tryz.func175 (by kernel_rfl) rfl fun Q hQ hQ2 => ?_; rw [Tryz.ntmps175]; simp only [u, i64, Nat.reduceSub, Nat.reduceAdd, bm]
  by_cases h : s / 64 < xs.length
  · obtain ⟨f, hR⟩ := ret_rRight1 (xs.drop (s / 64)) (s % 64) (hx.drop _) hr (by rw [List.length_drop]; omega)
    have hdl : (xs.drop (s / 64)).length = xs.length - s / 64 := by rw [List.length_drop]
    have hlt : val (xs.drop (s / 64)) / 2 ^ (s % 64) < 18446744073709551616 ^ (xs.drop (s / 64)).length := Nat.lt_of_le_of_lt (Nat.div_le_self _ _) (val_lt (hx.drop _))
    have hT := ret_rTrim (wf (xs.drop (s / 64)).length (val (xs.drop (s / 64)) / 2 ^ (s % 64))) (wf_Wd _ _) (by rw [wf_length]; omega)
    rw [val_wf _ _ hlt] at hT
    (refine gO ?_)
    (refine gC ?_)
    rw [← hdl]
    repeat (first | (refine gC ?_; first | refine aA ?_ | (refine cR hR ?_; refine sX ?_; try refine aA ?_)) | (refine cR hR ?_; refine sX ?_; try refine aA ?_) | refine gS ?_)
    (refine gC ?_)
    (refine cR hT ?_; refine sX ?_; try refine aA ?_)
    rw [val_div xs s hx (by omega)]
    (refine gO ?_)
    (refine FinQ hQ (congrArg Array.toList Tryz.results175) _ _ ?_); simp (disch := omega) only [u, i64, ax, if_true, forall_const, reduceCtorEq, implies_true, tvs, bf]
  · have hz : val xs / 2 ^ s = 0 := by
      refine Nat.div_eq_of_lt (Nat.lt_of_lt_of_le (val_lt hx) ?_)
      rw [Bpow]; exact Nat.pow_le_pow_right (by decide) (by omega)
    rw [hz] at hQ
    (refine gO ?_)
    (refine FinQ hQ (congrArg Array.toList Tryz.results175) _ _ ?_); simp (disch := omega) only [u, i64, ax, if_true, forall_const, reduceCtorEq, implies_true, tvs, bf]
    simp [nat, words_zero, us]
end Go.Proofs
set_option linter.unusedVariables false
set_option linter.unusedSimpArgs false
namespace Go.Proofs
open Go.Ax
set_option maxRecDepth 100000 in
set_option maxHeartbeats 4000000 in
theorem ret_Rounded (r : Nat) (hr : r ≤ 4) (neg : Bool) (N : Nat) (half rest : Bool) (hl : (words N).length ≤ 8589934592) :
    Ret Tryz.prog GEs 126 [i64 r, .bool neg, .agg [nat N, .bool half, .bool rest]] (.tup [nat (rndR r neg N half rest), .bool (!half && !rest)]) := by
  have hB := ret_rBit (words N) 0 (Wd_words _) (by omega) (by decide)
  rw [val_words, Nat.pow_zero, Nat.div_one] at hB
  have hF := ret_rFromWord 1 (by decide)
  have hA := ret_rAdd (words N) (words 1) (Wd_words _) (Wd_words _) (by omega) (by have h2 : (words 1).length ≤ 1 := length_le (by decide); omega)
  rw [val_words, val_words] at hA
  obtain ⟨o, ho⟩ : ∃ o, decide (N % 2 = 1) = o := ⟨_, rfl⟩
  unfold rndR upR
  rw [ho] at hB ⊢
  have h1 : r = 0 ∨ r = 1 ∨ r = 2 ∨ r = 3 ∨ r = 4 := by omega
  rcases h1 with rfl | rfl | rfl | rfl | rfl
  · cases half with
    | false =>
      cases rest
      all_goals
        refine RetN_start Tryz.func126 (by kernel_rfl) rfl fun Q hQ hQ2 => ?_; rw [Tryz.ntmps126]; simp only [u, i64, Nat.reduceSub, Nat.reduceAdd, bm]
        (refine gO ?_)
        (refine FinQ hQ (congrArg Array.toList Tryz.results126) _ _ ?_); simp (disch := omega) only [u, i64, ax, if_true, forall_const, reduceCtorEq, implies_true, tvs, bf]
        rfl
    | true =>
      cases rest with
      | true =>
        refine RetN_start Tryz.func126 (by kernel_rfl) rfl fun Q hQ hQ2 => ?_; rw [Tryz.ntmps126]; simp only [u, i64, Nat.reduceSub, Nat.reduceAdd, bm]
        repeat (first | (refine gC ?_; first | refine aA ?_ | ((first | refine cR hF ?_ | refine cR hA ?_); refine sX ?_; try refine aA ?_)) | ((first | refine cR hF ?_ | refine cR hA ?_); refine sX ?_; try refine aA ?_) | refine gS ?_)
        (refine FinQ hQ (congrArg Array.toList Tryz.results126) _ _ ?_); simp (disch := omega) only [u, i64, ax, if_true, forall_const, reduceCtorEq, implies_true, tvs, bf]
        rfl
      | false =>
        cases o with
        | true =>
          refine RetN_start Tryz.func126 (by kernel_rfl) rfl fun Q hQ hQ2 => ?_; rw [Tryz.ntmps126]; simp only [u, i64, Nat.reduceSub, Nat.reduceAdd, bm]
          repeat (first | (refine gC ?_; first | refine aA ?_ | ((first | refine cR hB ?_ | refine cR hF ?_ | refine cR hA ?_); refine sX ?_; try refine aA ?_)) | ((first | refine cR hB ?_ | refine cR hF ?_ | refine cR hA ?_); refine sX ?_; try refine aA ?_) | refine gS ?_)
          (refine FinQ hQ (congrArg Array.toList Tryz.results126) _ _ ?_); simp (disch := omega) only [u, i64, ax, if_true, forall_const, reduceCtorEq, implies_true, tvs, bf]
          rfl
        | false =>
          refine RetN_start Tryz.func126 (by kernel_rfl) rfl fun Q hQ hQ2 => ?_; rw [Tryz.ntmps126]; simp only [u, i64, Nat.reduceSub, Nat.reduceAdd, bm]
          repeat (first | (refine gC ?_; first | refine aA ?_ | (refine cR hB ?_; refine sX ?_; try refine aA ?_)) | (refine cR hB ?_; refine sX ?_; try refine aA ?_) | refine gS ?_)
          (refine FinQ hQ (congrArg Array.toList Tryz.results126) _ _ ?_); simp (disch := omega) only [u, i64, ax, if_true, forall_const, reduceCtorEq, implies_true, tvs, bf]
          rfl
  · cases half with
    | false =>
      cases rest
      all_goals
        refine RetN_start Tryz.func126 (by kernel_rfl) rfl fun Q hQ hQ2 => ?_; rw [Tryz.ntmps126]; simp only [u, i64, Nat.reduceSub, Nat.reduceAdd, bm]
        (refine gO ?_)
        (refine FinQ hQ (congrArg Array.toList Tryz.results126) _ _ ?_); simp (disch := omega) only [u, i64, ax, if_true, forall_const, reduceCtorEq, implies_true, tvs, bf]
        rfl
    | true =>
      cases rest
      all_goals
        refine RetN_start Tryz.func126 (by kernel_rfl) rfl fun Q hQ hQ2 => ?_; rw [Tryz.ntmps126]; simp only [u, i64, Nat.reduceSub, Nat.reduceAdd, bm]
        repeat (first | (refine gC ?_; first | refine aA ?_ | ((first | refine cR hF ?_ | refine cR hA ?_); refine sX ?_; try refine aA ?_)) | ((first | refine cR hF ?_ | refine cR hA ?_); refine sX ?_; try refine aA ?_) | refine gS ?_)
        (refine FinQ hQ (congrArg Array.toList Tryz.results126) _ _ ?_); simp (disch := omega) only [u, i64, ax, if_true, forall_const, reduceCtorEq, implies_true, tvs, bf]
        rfl
  · cases half <;> cases rest
    all_goals
      refine RetN_start Tryz.func126 (by kernel_rfl) rfl fun Q hQ hQ2 => ?_; rw [Tryz.ntmps126]; simp only [u, i64, Nat.reduceSub, Nat.reduceAdd, bm]
      (refine gO ?_)
      (refine FinQ hQ (congrArg Array.toList Tryz.results126) _ _ ?_); simp (disch := omega) only [u, i64, ax, if_true, forall_const, reduceCtorEq, implies_true, tvs, bf]
      rfl
  · cases neg with
    | true =>
      cases half <;> cases rest
      all_goals
        refine RetN_start Tryz.func126 (by kernel_rfl) rfl fun Q hQ hQ2 => ?_; rw [Tryz.ntmps126]; simp only [u, i64, Nat.reduceSub, Nat.reduceAdd, bm]
        (refine gO ?_)
        (refine FinQ hQ (congrArg Array.toList Tryz.results126) _ _ ?_); simp (disch := omega) only [u, i64, ax, if_true, forall_const, reduceCtorEq, implies_true, tvs, bf]
        rfl
    | false =>
      cases half <;> cases rest
      · refine RetN_start Tryz.func126 (by kernel_rfl) rfl fun Q hQ hQ2 => ?_; rw [Tryz.ntmps126]; simp only [u, i64, Nat.reduceSub, Nat.reduceAdd, bm]
        (refine gO ?_)
        (refine FinQ hQ (congrArg Array.toList Tryz.results126) _ _ ?_); simp (disch := omega) only [u, i64, ax, if_true, forall_const, reduceCtorEq, implies_true, tvs, bf]
        rfl
      all_goals
        refine RetN_start Tryz.func126 (by kernel_rfl) rfl fun Q hQ hQ2 => ?_; rw [Tryz.ntmps126]; simp only [u, i64, Nat.reduceSub, Nat.reduceAdd, bm]
        repeat (first | (refine gC ?_; first | refine aA ?_ | ((first | refine cR hF ?_ | refine cR hA ?_); refine sX ?_; try refine aA ?_)) | ((first | refine cR hF ?_ | refine cR hA ?_); refine sX ?_; try refine aA ?_) | refine gS ?_)
        (refine FinQ hQ (congrArg Array.toList Tryz.results126) _ _ ?_); simp (disch := omega) only [u, i64, ax, if_true, forall_const, reduceCtorEq, implies_true, tvs, bf]
        rfl
  · cases neg with
    | false =>
      cases half <;> cases rest
      all_goals
        refine RetN_start Tryz.func126 (by kernel_rfl) rfl fun Q hQ hQ2 => ?_; rw [Tryz.ntmps126]; simp only [u, i64, Nat.reduceSub, Nat.reduceAdd, bm]
        (refine gO ?_)
        (refine FinQ hQ (congrArg Array.toList Tryz.results126) _ _ ?_); simp (disch := omega) only [u, i64, ax, if_true, forall_const, reduceCtorEq, implies_true, tvs, bf]
        rfl
    | true =>
      cases half <;> cases rest
      · refine RetN_start Tryz.func126 (by kernel_rfl) rfl fun Q hQ hQ2 => ?_; rw [Tryz.ntmps126]; simp only [u, i64, Nat.reduceSub, Nat.reduceAdd, bm]
        (refine gO ?_)
        (refine FinQ hQ (congrArg Array.toList Tryz.results126) _ _ ?_); simp (disch := omega) only [u, i64, ax, if_true, forall_const, reduceCtorEq, implies_true, tvs, bf]
        rfl
      all_goals
        refine RetN_start Tryz.func126 (by kernel_rfl) rfl fun Q hQ hQ2 => ?_; rw [Tryz.ntmps126]; simp only [u, i64, Nat.reduceSub, Nat.reduceAdd, bm]
        repeat (first | (refine gC ?_; first | refine aA ?_ | ((first | refine cR hF ?_ | refine cR hA ?_); refine sX ?_; try refine aA ?_)) | ((first | refine cR hF ?_ | refine cR hA ?_); refine sX ?_; try refine aA ?_) | refine gS ?_)
        (refine FinQ hQ (congrArg Array.toList Tryz.results126) _ _ ?_); simp (disch := omega) only [u, i64, ax, if_true, forall_const, reduceCtorEq, implies_true, tvs, bf]
        rfl
end Go.Proofs
set_option linter.unusedVariables false
set_option linter.unusedSimpArgs false
namespace Go.Proofs
open Go.Ax
theorem ret_Minus0 (b : List Nat) (hl : b.length ≤ 1000000) : Ret Tryz.prog GEs 255 [ws [], ws b] (.tup [ws [], .bool false]) := by
  refine RetN_start Tryz.func255 (by kernel_rfl) rfl fun Q hQ hQ2 => ?_; rw [Tryz.ntmps255]; simp only [u, i64, Nat.reduceSub, Nat.reduceAdd, bm]
  (refine gO ?_)
  refine AWp_loop (fun _ : Unit => mk 38 [(0, ws []), (1, ws b), (6, .emp), (7, .int .u64 0), (8, i64 0)] []) (fun _ => True) (fun _ => 0) () ?_ trivial ?_
  · simp only [u, i64, Nat.reduceSub, Nat.reduceAdd, bm]
  intro _ _
  simp only [u, i64, Nat.reduceSub, Nat.reduceAdd, bm]
  (refine gO ?_)
  (refine FinQ hQ (congrArg Array.toList Tryz.results255) _ _ ?_); simp (disch := omega) only [u, i64, ax, if_true, forall_const, reduceCtorEq, implies_true, tvs, bf]
  all_goals rfl
theorem ret_rSub0 (ys : List Nat) (hy : Wd ys) (hl : ys.length ≤ 100000) : Ret Tryz.prog GEs 246 [ws [], ws ys] (nat 0) := by
  have h1 := ret_Digits [] (fun x hx => by cases hx) (by decide)
  have h2 := ret_rTrim ys hy (by omega)
  have hyl := length_words_val_le hy
  have h3 := ret_Digits (words (val ys)) (Wd_words _) (by omega)
  have h4 := ret_Minus0 (digs (words (val ys))) (by rw [digs_length]; omega)
  have h5 := ret_nat [] (fun x hx => by cases hx) (by decide)
  rw [show digs [] = [] from rfl] at h1
  rw [show vb 4294967296 [] = 0 from rfl] at h5
  generalize digs (words (val ys)) = dd at *
  refine RetN_start Tryz.func246 (by kernel_rfl) rfl fun Q hQ hQ2 => ?_; rw [Tryz.ntmps246]; simp only [u, i64, Nat.reduceSub, Nat.reduceAdd, bm]
  repeat (first | (refine gC ?_; first | refine aA ?_ | ((first | refine cR h1 ?_ | refine cR h2 ?_ | refine cR h3 ?_ | refine cR h4 ?_ | refine cR h5 ?_); refine sX ?_; try refine aA ?_)) | ((first | refine cR h1 ?_ | refine cR h2 ?_ | refine cR h3 ?_ | refine cR h4 ?_ | refine cR h5 ?_); refine sX ?_; try refine aA ?_) | refine gS ?_)
  (refine FinQ hQ (congrArg Array.toList Tryz.results246) _ _ ?_); simp (disch := omega) only [u, i64, ax, if_true, forall_const, reduceCtorEq, implies_true, tvs, bf]
theorem ret_rSubA (xs ys : List Nat) (hx : Wd xs) (hy : Wd ys) (hl : xs.length ≤ 100000) (hl2 : ys.length ≤ 100000) (hle : val ys ≤ val xs) : Ret Tryz.prog GEs 246 [ws xs, ws ys] (nat (val xs - val ys)) := by
  by_cases h : xs = []
  · subst h
    have : val ys = 0 := by have : val [] = 0 := rfl; omega
    rw [this]
    exact ret_rSub0 ys hy hl2
  · exact ret_rSub xs ys hx hy h (by omega) (by omega) hle
theorem ret_rAddA (xs ys : List Nat) (hx : Wd xs) (hy : Wd ys) (hl : xs.length ≤ 100000) (hl2 : ys.length ≤ 100000) : Ret Tryz.prog GEs 208 [ws xs, ws ys] (nat (val xs + val ys)) := ret_rAdd xs ys hx hy (by omega) (by omega)
set_option maxRecDepth 100000 in
set_option maxHeartbeats 2000000 in
theorem ret_Add03 (a b : Bool) (xs ys : List Nat) (hx : Wd xs) (hy : Wd ys) (hl : xs.length ≤ 10000) (hl2 : ys.length ≤ 10000) : Ret Tryz.prog GEs 213 [.agg [.bool a, ws xs], .agg [.bool b, ws ys]] (zv (sg a (val xs) + sg b (val ys))) := by
  have h1 := length_words_val_le hx
  have h2 := length_words_val_le hy
  have hA := ret_rAddA xs ys hx hy (by omega) (by omega)
  have hAl := length_add (val xs) (val ys)
  have hC := ret_rCmp xs ys hx hy (by omega) (by omega)
  have hC2 : ∃ z : Int, (z < 0 ↔ val xs < val ys) ∧ Ret Tryz.prog GEs 177 [ws xs, ws ys] (i64 z) := ⟨_, by unfold cmpI; split <;> (try split) <;> omega, hC⟩
  obtain ⟨z, hz, hC⟩ := hC2
  have key : ∀ a : Bool, Ret Tryz.prog GEs 213 [.agg [.bool a, ws xs], .agg [.bool a, ws ys]] (zv (sg a (val xs) + sg a (val ys))) := fun a => by
    have hM := ret_Make03 a (words (val xs + val ys)) (Wd_words _) (by omega)
    rw [val_words, show sg a (val xs + val ys) = sg a (val xs) + sg a (val ys) by unfold sg; cases a <;> simp <;> omega] at hM
    generalize sg a (val xs) + sg a (val ys) = w at *
    unfold zv at *
    cases a with
    | true =>
      refine RetN_start Tryz.func213 (by kernel_rfl) rfl fun Q hQ hQ2 => ?_; rw [Tryz.ntmps213]; simp only [u, i64, Nat.reduceSub, Nat.reduceAdd, bm]
      repeat (first | (refine gC ?_; first | refine aA ?_ | ((first | refine cR hA ?_ | refine cR hM ?_); refine sX ?_; try refine aA ?_)) | ((first | refine cR hA ?_ | refine cR hM ?_); refine sX ?_; try refine aA ?_) | refine gS ?_)
      (refine FinQ hQ (congrArg Array.toList Tryz.results213) _ _ ?_); simp (disch := omega) only [u, i64, ax, if_true, forall_const, reduceCtorEq, implies_true, tvs, bf]
    | false =>
      refine RetN_start Tryz.func213 (by kernel_rfl) rfl fun Q hQ hQ2 => ?_; rw [Tryz.ntmps213]; simp only [u, i64, Nat.reduceSub, Nat.reduceAdd, bm]
      repeat (first | (refine gC ?_; first | refine aA ?_ | ((first | refine cR hA ?_ | refine cR hM ?_); refine sX ?_; try refine aA ?_)) | ((first | refine cR hA ?_ | refine cR hM ?_); refine sX ?_; try refine aA ?_) | refine gS ?_)
      (refine FinQ hQ (congrArg Array.toList Tryz.results213) _ _ ?_); simp (disch := omega) only [u, i64, ax, if_true, forall_const, reduceCtorEq, implies_true, tvs, bf]
  have key2 : ∀ a : Bool, Ret Tryz.prog GEs 213 [.agg [.bool a, ws xs], .agg [.bool (!a), ws ys]] (zv (sg a (val xs) + sg (!a) (val ys))) := fun a => by
    by_cases hlt : val xs < val ys
    · have hzz : z < 0 := hz.2 hlt
      have hS := ret_rSubA ys xs hy hx (by omega) (by omega) (by omega)
      have hSl := length_mono (Nat.sub_le (val ys) (val xs))
      have hM := ret_Make03 (!a) (words (val ys - val xs)) (Wd_words _) (by omega)
      rw [val_words, show sg (!a) (val ys - val xs) = sg a (val xs) + sg (!a) (val ys) by unfold sg; cases a <;> simp <;> omega] at hM
      generalize sg a (val xs) + sg (!a) (val ys) = w at *
      unfold zv at *
      cases a with
      | true =>
        rw [show (!true) = false from rfl] at hM ⊢
        refine RetN_start Tryz.func213 (by kernel_rfl) rfl fun Q hQ hQ2 => ?_; rw [Tryz.ntmps213]; simp only [u, i64, Nat.reduceSub, Nat.reduceAdd, bm]
        repeat (first | (refine gC ?_; first | refine aA ?_ | ((first | refine cR hC ?_ | refine cR hS ?_ | refine cR hM ?_); refine sX ?_; try refine aA ?_)) | ((first | refine cR hC ?_ | refine cR hS ?_ | refine cR hM ?_); refine sX ?_; try refine aA ?_) | refine gS ?_)
        (refine FinQ hQ (congrArg Array.toList Tryz.results213) _ _ ?_); simp (disch := omega) only [u, i64, ax, if_true, forall_const, reduceCtorEq, implies_true, tvs, bf]
      | false =>
        rw [show (!false) = true from rfl] at hM ⊢
        refine RetN_start Tryz.func213 (by kernel_rfl) rfl fun Q hQ hQ2 => ?_; rw [Tryz.ntmps213]; simp only [u, i64, Nat.reduceSub, Nat.reduceAdd, bm]
        repeat (first | (refine gC ?_; first | refine aA ?_ | ((first | refine cR hC ?_ | refine cR hS ?_ | refine cR hM ?_); refine sX ?_; try refine aA ?_)) | ((first | refine cR hC ?_ | refine cR hS ?_ | refine cR hM ?_); refine sX ?_; try refine aA ?_) | refine gS ?_)
        (refine FinQ hQ (congrArg Array.toList Tryz.results213) _ _ ?_); simp (disch := omega) only [u, i64, ax, if_true, forall_const, reduceCtorEq, implies_true, tvs, bf]
    · have hzz : ¬ z < 0 := fun h => hlt (hz.1 h)
      have hS := ret_rSubA xs ys hx hy (by omega) (by omega) (by omega)
      have hSl := length_mono (Nat.sub_le (val xs) (val ys))
      have hM := ret_Make03 a (words (val xs - val ys)) (Wd_words _) (by omega)
      rw [val_words, show sg a (val xs - val ys) = sg a (val xs) + sg (!a) (val ys) by unfold sg; cases a <;> simp <;> omega] at hM
      generalize sg a (val xs) + sg (!a) (val ys) = w at *
      unfold zv at *
      cases a with
      | true =>
        rw [show (!true) = false from rfl]
        refine RetN_start Tryz.func213 (by kernel_rfl) rfl fun Q hQ hQ2 => ?_; rw [Tryz.ntmps213]; simp only [u, i64, Nat.reduceSub, Nat.reduceAdd, bm]
        repeat (first | (refine gC ?_; first | refine aA ?_ | ((first | refine cR hC ?_ | refine cR hS ?_ | refine cR hM ?_); refine sX ?_; try refine aA ?_)) | ((first | refine cR hC ?_ | refine cR hS ?_ | refine cR hM ?_); refine sX ?_; try refine aA ?_) | refine gS ?_)
        (refine FinQ hQ (congrArg Array.toList Tryz.results213) _ _ ?_); simp (disch := omega) only [u, i64, ax, if_true, forall_const, reduceCtorEq, implies_true, tvs, bf]
      | false =>
        rw [show (!false) = true from rfl]
        refine RetN_start Tryz.func213 (by kernel_rfl) rfl fun Q hQ hQ2 => ?_; rw [Tryz.ntmps213]; simp only [u, i64, Nat.reduceSub, Nat.reduceAdd, bm]
        repeat (first | (refine gC ?_; first | refine aA ?_ | ((first | refine cR hC ?_ | refine cR hS ?_ | refine cR hM ?_); refine sX ?_; try refine aA ?_)) | ((first | refine cR hC ?_ | refine cR hS ?_ | refine cR hM ?_); refine sX ?_; try refine aA ?_) | refine gS ?_)
        (refine FinQ hQ (congrArg Array.toList Tryz.results213) _ _ ?_); simp (disch := omega) only [u, i64, ax, if_true, forall_const, reduceCtorEq, implies_true, tvs, bf]
  cases a <;> cases b
  · exact key false
  · exact key2 false
  · exact key2 true
  · exact key true
end Go.Proofs
