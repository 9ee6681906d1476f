/-
  Contracts of functions of the program, each proved by a walk.
-/
import Derived.Test.YtpnljnmpocobjaaGreatDoorZ20
import Derived.Test.YtpnljnmpocobjaaGreatDoorZ21
import Derived.Test.YtpnljnmpocobjaaGreatDoorZ18
import Derived.Test.YtpnljnmpocobjaaGreatDoorZ23
import Derived.Test.YtpnljnmpocobjaaGreatDoorZ9
import Derived.Test.YtpnljnmpocobjaaGreatDoorX10
set_option maxRecDepth 100000
set_option linter.unusedVariables false
set_option linter.unusedSimpArgs false
namespace Go.Proofs
open Go.Ax
theorem right_word {R a s : Nat} (hs : s < 64) (ha : a < 18446744073709551616) : (R * 18446744073709551616 + a) / 2 ^ s = R * 2 ^ (64 - s) + a / 2 ^ s ∧ (R * 18446744073709551616 + a) % 2 ^ s = a % 2 ^ s ∧ a * 2 ^ (64 - s) % 18446744073709551616 = a % 2 ^ s * 2 ^ (64 - s) := by
  have e : 18446744073709551616 = 2 ^ s * 2 ^ (64 - s) := by rw [← Nat.pow_add, show s + (64 - s) = 64 by omega]
  refine ⟨?_, ?_, ?_⟩
  · rw [e, Nat.mul_left_comm, Nat.add_comm, Nat.add_mul_div_left _ _ (Nat.two_pow_pos s), Nat.add_comm]
  · rw [e, Nat.mul_left_comm, Nat.add_comm, Nat.add_mul_mod_self_left]
  · rw [e, Nat.mul_comm (2 ^ s), Nat.mul_comm a, Nat.mul_mod_mul_left, Nat.mul_comm]
set_option maxRecDepth 100000 in
set_option maxHeartbeats 1000000 in
theorem ret_rRight1 (xs : List Nat) (s : Nat) (hx : Wd xs) (hs : s < 64) (hl : xs.length ≤ 34359738368) : ∃ f : Nat, Ret Tryz.prog GEs 234 [ws xs, i64 s] (.tup [ws (wf xs.length (val xs / 2 ^ s)), u f]) := by
  refine ⟨if s = 0 then 0 else val xs % 2 ^ s * 2 ^ (64 - s), ?_⟩
  have hp := Nat.two_pow_pos s
  refine RetN_start Tryz.func234 (by kernel_rfl) rfl fun Q hQ hQ2 => ?_; rw [Tryz.ntmps234]; simp only [u, i64, Nat.reduceSub, Nat.reduceAdd, bm]
  (refine gO ?_)
  refine AWp_loop (fun i : Nat × List Nat => mk 41 [(0, ws xs), (1, i64 s), (6, .own 0 0 0 xs.length 1), (7, u (if s = 0 then 0 else val (xs.drop i.1) % 2 ^ s * 2 ^ (64 - s))), (8, i64 ((i.1 : Int) - 1))] [⟨0, true, us i.2⟩])
    (fun i => i.1 ≤ xs.length ∧ i.2.length = xs.length ∧ Wd i.2 ∧ val (i.2.drop i.1) = val (xs.drop i.1) / 2 ^ s) (fun i => i.1) (xs.length, List.replicate xs.length 0) ?_ ⟨Nat.le_refl _, by simp, Wd_replicate _ (by decide), by simp [val]⟩ ?_
  · have : (if s = 0 then 0 else val (xs.drop xs.length) % 2 ^ s * 2 ^ (64 - s)) = 0 := by simp [val]
    simp only [this]
    simp only [u, i64, Nat.reduceSub, Nat.reduceAdd, bm]
  rintro ⟨n, os⟩ ⟨h1, h2, h3, h4⟩
  simp only at h1 h2 h3 h4
  simp only [u, i64, Nat.reduceSub, Nat.reduceAdd, bm]
  by_cases hn : 1 ≤ n
  · obtain ⟨m, rfl⟩ : ∃ m, n = m + 1 := ⟨n - 1, by omega⟩
    have ha := hx.getD m
    have hst := divw_step (a := xs.getD m 0) hp h4 rfl
    have hq := divw_lt (Nat.mod_lt (val (xs.drop (m + 1))) hp) ha
    have hv := val_drop xs m (by omega)
    rw [← hv] at hst
    obtain ⟨r1, r2, r3⟩ := right_word (R := val (xs.drop (m + 1)) % 2 ^ s) hs ha
    obtain ⟨q, hqd⟩ : ∃ q, (val (xs.drop (m + 1)) % 2 ^ s * 18446744073709551616 + xs.getD m 0) / 2 ^ s = q := ⟨_, rfl⟩
    have hs2 := val_drop_set os m q (by omega)
    rw [hqd] at hst hq r1
    rw [hst.1] at hs2
    have hmod : xs.getD m 0 % 2 ^ s = val (xs.drop m) % 2 ^ s := by rw [← r2]; exact hst.2
    have hx2 : xs.getD m 0 / 2 ^ s < 18446744073709551616 := Nat.lt_of_le_of_lt (Nat.div_le_self _ _) ha
    simp only [Int.natCast_add, Int.natCast_one, Int.add_sub_cancel]
    by_cases h0 : s = 0
    · subst h0
      simp only [if_true, Nat.pow_zero, Nat.mod_one, Nat.zero_mul, Nat.zero_add, Nat.div_one] at r1 hx2 hs2 h4 ⊢
      (refine gO ?_)
      refine ⟨(m, os.set m q), ?_, ⟨by simp only; omega, by simpa using h2, h3.set m hq, by simpa using hs2⟩, by simp only; omega⟩
      simp only [if_true]
      rw [r1]
      simp only [Int.zero_add, Nat.pow_zero, Nat.div_one, wrapU_mod, Nat.mod_eq_of_lt ha, us_set]
      simp only [u, i64, Nat.reduceSub, Nat.reduceAdd, bm]
    · simp only [if_neg h0]
      have hw1 : val (xs.drop (m + 1)) % 2 ^ s * 2 ^ (64 - s) < 18446744073709551616 := by
        have e : 18446744073709551616 = 2 ^ s * 2 ^ (64 - s) := by rw [← Nat.pow_add, show s + (64 - s) = 64 by omega]
        rw [e]; exact (Nat.mul_lt_mul_right (Nat.two_pow_pos _)).2 (Nat.mod_lt _ hp)
      have hw2 : val (xs.drop (m + 1)) % 2 ^ s * 2 ^ (64 - s) + xs.getD m 0 / 2 ^ s < 18446744073709551616 := by rw [← r1]; exact hq
      (refine gO ?_)
      refine ⟨(m, os.set m q), ?_, ⟨by simp only; omega, by simpa using h2, h3.set m hq, hs2⟩, by simp only; omega⟩
      simp only [if_neg h0]
      rw [r1, ← hmod, ← r3]
      simp only [u, i64, Nat.reduceSub, Nat.reduceAdd, bm]
  · have hn0 : n = 0 := by omega
    subst hn0
    simp only [List.drop_zero] at h4 ⊢
    have he := wf_val os h3
    rw [h2, h4] at he
    rw [he] at hQ
    (refine gO ?_)
    (refine FinQ hQ (congrArg Array.toList Tryz.results234) _ _ ?_); simp (disch := omega) only [u, i64, ax, if_true, forall_const, reduceCtorEq, implies_true, tvs, bf]
theorem val_div (xs : List Nat) (s : Nat) (hx : Wd xs) (h : s / 64 ≤ xs.length) : val (xs.drop (s / 64)) / 2 ^ (s % 64) = val xs / 2 ^ s := by
  have e := val_split xs (s / 64) h
  have hl := val_lt (hx.take (s / 64))
  rw [List.length_take, Nat.min_eq_left h] at hl
  have hB : 0 < 18446744073709551616 ^ (s / 64) := Nat.pow_pos (by decide)
  have e1 : val xs / 18446744073709551616 ^ (s / 64) = val (xs.drop (s / 64)) := by
    rw [e, Nat.add_mul_div_left _ _ hB, Nat.div_eq_of_lt hl, Nat.zero_add]
  rw [← e1, Nat.div_div_eq_div_mul, Bpow, ← Nat.pow_add, Nat.div_add_mod]
set_option maxRecDepth 100000 in
theorem ret_rRight (xs : List Nat) (s : Nat) (hx : Wd xs) (hl : xs.length ≤ 34359738368) (hs : s ≤ 1099511627776) : Ret Tryz.prog GEs 175 [ws xs, i64 s] (nat (val xs / 2 ^ s)) := by
  have hr : s % 64 < 64 := Nat.mod_lt _ (by decide)
  refine RetN_start Tryz.func175 (by kernel_rfl) rfl fun Q hQ hQ2 => ?_; rw [Tryz.ntmps175]; simp only [u, i64, Nat.reduceSub, Nat.reduceAdd, bm]
  by_cases h : s / 64 < xs.length
  · obtain ⟨f, hR⟩ := ret_rRight1 (xs.drop (s / 64)) (s % 64) (hx.drop _) hr (by rw [List.length_drop]; omega)
    have hdl : (xs.drop (s / 64)).length = xs.length - s / 64 := by rw [List.length_drop]
    have hlt : val (xs.drop (s / 64)) / 2 ^ (s % 64) < 18446744073709551616 ^ (xs.drop (s / 64)).length := Nat.lt_of_le_of_lt (Nat.div_le_self _ _) (val_lt (hx.drop _))
    have hT := ret_rTrim (wf (xs.drop (s / 64)).length (val (xs.drop (s / 64)) / 2 ^ (s % 64))) (wf_Wd _ _) (by rw [wf_length]; omega)
    rw [val_wf _ _ hlt] at hT
    (refine gO ?_)
    (refine gC ?_)
    rw [← hdl]
    repeat (first | (refine gC ?_; first | refine aA ?_ | (refine cR hR ?_; refine sX ?_; try refine aA ?_)) | (refine cR hR ?_; refine sX ?_; try refine aA ?_) | refine gS ?_)
    (refine gC ?_)
    (refine cR hT ?_; refine sX ?_; try refine aA ?_)
    rw [val_div xs s hx (by omega)]
    (refine gO ?_)
    (refine FinQ hQ (congrArg Array.toList Tryz.results175) _ _ ?_); simp (disch := omega) only [u, i64, ax, if_true, forall_const, reduceCtorEq, implies_true, tvs, bf]
  · have hz : val xs / 2 ^ s = 0 := by
      refine Nat.div_eq_of_lt (Nat.lt_of_lt_of_le (val_lt hx) ?_)
      rw [Bpow]; exact Nat.pow_le_pow_right (by decide) (by omega)
    rw [hz] at hQ
    (refine gO ?_)
    (refine FinQ hQ (congrArg Array.toList Tryz.results175) _ _ ?_); simp (disch := omega) only [u, i64, ax, if_true, forall_const, reduceCtorEq, implies_true, tvs, bf]
    simp [nat, words_zero, us]
end Go.Proofs
set_option linter.unusedVariables false
set_option linter.unusedSimpArgs false
namespace Go.Proofs
open Go.Ax
end Go.Proofs
set_option linter.unusedVariables false
set_option linter.unusedSimpArgs false
namespace Go.Proofs
open Go.Ax
set_option maxRecDepth 100000 in
theorem ret_Brief1 (neg : Bool) (ns ds : List Nat) (hln : ns.length ≤ 9223372036854775807) (hld : ds.length ≤ 9223372036854775807) : Ret Tryz.prog GEs 16 [.lst 1 [.bool neg, ws ns, ws ds]] (.bool (decide (ns.length ≤ 40 ∧ ds.length ≤ 40))) := by
  refine RetN_start Tryz.func16 (by kernel_rfl) rfl fun Q hQ hQ2 => ?_; rw [Tryz.ntmps16]; simp only [u, i64, Nat.reduceSub, Nat.reduceAdd, bm]
  (refine gO ?_)
  refine AWp_loop (fun i : Bool => bif i then mk 27 [(0, .lst 1 [.bool neg, ws ns, ws ds]), (3, i64 1)] [] else mk 27 [(0, .lst 1 [.bool neg, ws ns, ws ds]), (3, i64 0)] []) (fun i => i = true → ns.length ≤ 40 ∧ ds.length ≤ 40) (fun i => bif i then 0 else 1) false ?_ (fun h => by cases h) ?_
  · simp only [cond_false]
    simp only [u, i64, Nat.reduceSub, Nat.reduceAdd, bm]
  intro i hi
  cases i with
  | false =>
    simp only [cond_false]
    simp only [u, i64, Nat.reduceSub, Nat.reduceAdd, bm]
    by_cases ha : 40 < ns.length
    · (refine gO ?_)
      (refine FinQ hQ (congrArg Array.toList Tryz.results16) _ _ ?_); simp (disch := omega) only [u, i64, ax, if_true, forall_const, reduceCtorEq, implies_true, tvs, bf, decF (show ¬ (ns.length ≤ 40 ∧ ds.length ≤ 40) by omega)]
    by_cases hb : 40 < ds.length
    · (refine gO ?_)
      (refine FinQ hQ (congrArg Array.toList Tryz.results16) _ _ ?_); simp (disch := omega) only [u, i64, ax, if_true, forall_const, reduceCtorEq, implies_true, tvs, bf, decF (show ¬ (ns.length ≤ 40 ∧ ds.length ≤ 40) by omega)]
    (refine gO ?_)
    refine ⟨true, ?_, fun _ => by omega, by decide⟩
    simp only [cond_true]
    simp only [u, i64, Nat.reduceSub, Nat.reduceAdd, bm]
  | true =>
    simp only [cond_true]
    simp only [u, i64, Nat.reduceSub, Nat.reduceAdd, bm]
    (refine gO ?_)
    (refine FinQ hQ (congrArg Array.toList Tryz.results16) _ _ ?_); simp (disch := omega) only [u, i64, ax, if_true, forall_const, reduceCtorEq, implies_true, tvs, bf, decT (hi rfl)]
theorem ret_awake16 : Ret Tryz.prog GEs 17 [] (.bool true) := ran (n := 60) (by kernel_rfl)
end Go.Proofs
set_option linter.unusedVariables false
set_option linter.unusedSimpArgs false
namespace Go.Proofs
open Go.Ax
abbrev okFm (k p : Int) : Prop := (2 ≤ k ∧ k ≤ 15) ∧ 2 ≤ p ∧ p ≤ 256
/-- The greatest exponent of a format. -/
def gF (k : Nat) : Int := ((2 ^ (k - 1) : Nat) : Int) - 1
theorem gF_le {k : Nat} (h1 : 2 ≤ k) (h2 : k ≤ 15) : 1 ≤ gF k ∧ gF k ≤ 16383 := by
  unfold gF
  have h3 : 2 ^ 1 ≤ 2 ^ (k - 1) := Nat.pow_le_pow_right (by decide) (by omega)
  have h4 : 2 ^ (k - 1) ≤ 2 ^ 14 := Nat.pow_le_pow_right (by decide) (by omega)
  omega
theorem shlG {k : Nat} (h1 : 2 ≤ k) (h2 : k ≤ 15) : ((1 * 2 ^ min (k - 1) IntKind.i64.bits : Nat) : Int) = gF k + 1 := by
  unfold gF
  rw [show min (k - 1) IntKind.i64.bits = k - 1 from Nat.min_eq_left (by show k - 1 ≤ 64; omega)]
  omega
set_option maxRecDepth 100000 in
set_option maxHeartbeats 4000000 in
theorem ret_fCheck (k p : Int) : Ret Tryz.prog GEs 73 [.agg [i64 k, i64 p]] (i64 (if okFm k p then 0 else 150)) := by
  by_cases a1 : k < 2
  · rw [if_neg (show ¬ okFm k p by omega)]
    refine RetN_start Tryz.func73 (by kernel_rfl) rfl fun Q hQ hQ2 => ?_; rw [Tryz.ntmps73]; simp only [u, i64, Nat.reduceSub, Nat.reduceAdd, bm]
    (refine gO ?_)
    (refine FinQ hQ (congrArg Array.toList Tryz.results73) _ _ ?_); simp (disch := omega) only [u, i64, ax, if_true, forall_const, reduceCtorEq, implies_true, tvs, bf]
  by_cases a2 : 15 < k
  · rw [if_neg (show ¬ okFm k p by omega)]
    refine RetN_start Tryz.func73 (by kernel_rfl) rfl fun Q hQ hQ2 => ?_; rw [Tryz.ntmps73]; simp only [u, i64, Nat.reduceSub, Nat.reduceAdd, bm]
    (refine gO ?_)
    (refine FinQ hQ (congrArg Array.toList Tryz.results73) _ _ ?_); simp (disch := omega) only [u, i64, ax, if_true, forall_const, reduceCtorEq, implies_true, tvs, bf]
  by_cases a3 : p < 2
  · rw [if_neg (show ¬ okFm k p by omega)]
    refine RetN_start Tryz.func73 (by kernel_rfl) rfl fun Q hQ hQ2 => ?_; rw [Tryz.ntmps73]; simp only [u, i64, Nat.reduceSub, Nat.reduceAdd, bm]
    (refine gO ?_)
    (refine FinQ hQ (congrArg Array.toList Tryz.results73) _ _ ?_); simp (disch := omega) only [u, i64, ax, if_true, forall_const, reduceCtorEq, implies_true, tvs, bf]
  by_cases a4 : 256 < p
  · rw [if_neg (show ¬ okFm k p by omega)]
    refine RetN_start Tryz.func73 (by kernel_rfl) rfl fun Q hQ hQ2 => ?_; rw [Tryz.ntmps73]; simp only [u, i64, Nat.reduceSub, Nat.reduceAdd, bm]
    (refine gO ?_)
    (refine FinQ hQ (congrArg Array.toList Tryz.results73) _ _ ?_); simp (disch := omega) only [u, i64, ax, if_true, forall_const, reduceCtorEq, implies_true, tvs, bf]
  rw [if_pos (show okFm k p by omega)]
  refine RetN_start Tryz.func73 (by kernel_rfl) rfl fun Q hQ hQ2 => ?_; rw [Tryz.ntmps73]; simp only [u, i64, Nat.reduceSub, Nat.reduceAdd, bm]
  (refine gO ?_)
  (refine FinQ hQ (congrArg Array.toList Tryz.results73) _ _ ?_); simp (disch := omega) only [u, i64, ax, if_true, forall_const, reduceCtorEq, implies_true, tvs, bf]
set_option maxRecDepth 100000 in
set_option maxHeartbeats 1000000 in
theorem ret_fRange (k p : Nat) (h : okFm k p) : Ret Tryz.prog GEs 89 [.agg [i64 k, i64 p]] (.tup [i64 (1 - gF k), i64 (gF k), i64 (1 - gF k - ((p - 1 : Nat) : Int)), i64 0]) := by
  have hC := ret_fCheck k p
  rw [if_pos h] at hC
  have hk : 2 ≤ k ∧ k ≤ 15 := by omega
  have hg := gF_le (k := k) (by omega) (by omega)
  refine RetN_start Tryz.func89 (by kernel_rfl) rfl fun Q hQ hQ2 => ?_; rw [Tryz.ntmps89]; simp only [u, i64, Nat.reduceSub, Nat.reduceAdd, bm]
  repeat (first | (refine gC ?_; first | refine aA ?_ | (refine cR hC ?_; refine sX ?_; try refine aA ?_)) | (refine cR hC ?_; refine sX ?_; try refine aA ?_) | refine gS ?_)
  (refine FinQ hQ (congrArg Array.toList Tryz.results89) _ _ ?_); simp (disch := omega) only [u, i64, ax, if_true, forall_const, reduceCtorEq, implies_true, tvs, bf]
  rw [shlG hk.1 hk.2, wrapI (gF k + 1) (by omega) (by omega), Int.add_sub_cancel, wrapI (gF k) (by omega) (by omega), wrapI (1 - gF k) (by omega) (by omega), wrapI (1 - gF k - ((p - 1 : Nat) : Int)) (by omega) (by omega)]
end Go.Proofs
set_option linter.unusedVariables false
set_option linter.unusedSimpArgs false
namespace Go.Proofs
open Go.Ax
/-- A float. -/
def flv (x : FV) : AV := .agg [i64 x.kind, .bool x.neg, i64 x.exp, nat x.mag]
theorem bl_len (n : Nat) : bl n ≤ 64 * (words n).length := by
  have h := lt_pow_of_length (Nat.le_refl (words n).length)
  rw [Bpow] at h
  exact bl_le h
theorem le_pow_words {m p k : Nat} (hm : m ≤ 2 ^ p) (h : p < 64 * k) : (words m).length ≤ k := length_le (by
  rw [Bpow]
  exact Nat.lt_of_le_of_lt hm (Nat.pow_lt_pow_right (by decide) h))
theorem tz_le_bl (n : Nat) : tz n ≤ bl n := by
  by_cases h : n = 0
  · subst h; decide
  · obtain ⟨m, hm⟩ := tz_spec h
    have h1 : 2 ^ tz n ≤ n := by
      conv => rhs; rw [hm]
      exact Nat.le_mul_of_pos_right _ (by omega)
    have := bl_ge h1
    omega
set_option maxRecDepth 100000 in
set_option maxHeartbeats 1000000 in
theorem ret_finStep (k p : Nat) (h : okFm k p) (e : Int) (h1 : -4611686018427387904 ≤ e) (h2 : e ≤ 4611686018427387904) : Ret Tryz.prog GEs 91 [.agg [i64 k, i64 p], i64 e] (i64 (stpF p (gF k) e)) := by
  have hR := ret_fRange k p h
  have hg := gF_le (k := k) (by omega) (by omega)
  generalize gF k = G at *
  unfold stpF
  rw [show ((p : Int) - 1) = ((p - 1 : Nat) : Int) by omega]
  by_cases he : e < 1 - G
  · rw [if_pos he]
    refine RetN_start Tryz.func91 (by kernel_rfl) rfl fun Q hQ hQ2 => ?_; rw [Tryz.ntmps91]; simp only [u, i64, Nat.reduceSub, Nat.reduceAdd, bm]
    repeat (first | (refine gC ?_; first | refine aA ?_ | (refine cR hR ?_; refine sX ?_; try refine aA ?_)) | (refine cR hR ?_; refine sX ?_; try refine aA ?_) | refine gS ?_)
    (refine FinQ hQ (congrArg Array.toList Tryz.results91) _ _ ?_); simp (disch := omega) only [u, i64, ax, if_true, forall_const, reduceCtorEq, implies_true, tvs, bf]
  · rw [if_neg he]
    refine RetN_start Tryz.func91 (by kernel_rfl) rfl fun Q hQ hQ2 => ?_; rw [Tryz.ntmps91]; simp only [u, i64, Nat.reduceSub, Nat.reduceAdd, bm]
    repeat (first | (refine gC ?_; first | refine aA ?_ | (refine cR hR ?_; refine sX ?_; try refine aA ?_)) | (refine cR hR ?_; refine sX ?_; try refine aA ?_) | refine gS ?_)
    (refine FinQ hQ (congrArg Array.toList Tryz.results91) _ _ ?_); simp (disch := omega) only [u, i64, ax, if_true, forall_const, reduceCtorEq, implies_true, tvs, bf]
theorem ret_greatest (r : Nat) (hr : r ≤ 4) (neg : Bool) : Ret Tryz.prog GEs 227 [i64 r, .bool neg] (.bool (grtF r neg)) := by
  have h1 : r = 0 ∨ r = 1 ∨ r = 2 ∨ r = 3 ∨ r = 4 := by omega
  rcases h1 with rfl | rfl | rfl | rfl | rfl <;> cases neg <;> exact ran (n := 20) (by kernel_rfl)
set_option maxRecDepth 100000 in
set_option maxHeartbeats 1000000 in
theorem ret_finMake (neg : Bool) (N : Nat) (s : Int) (hN : (words N).length ≤ 4294967296) (h1 : -4611686018427387904 ≤ s) (h2 : s ≤ 4611686018427387904) : Ret Tryz.prog GEs 229 [.bool neg, nat N, i64 s] (flv (mkF neg N s)) := by
  have hZ := ret_Zero (words N) (Wd_words _) (by omega)
  rw [val_words] at hZ
  have hT := ret_Trailing (words N) (Wd_words _) (by omega)
  rw [val_words] at hT
  have hb := bl_len N
  have ht := tz_le_bl N
  have hS := ret_Shr (words N) (tz N) (Wd_words _) (by omega) (by omega)
  rw [val_words] at hS
  unfold mkF flv
  by_cases h0 : N = 0
  · rw [if_pos h0]
    rw [decT h0] at hZ
    refine RetN_start Tryz.func229 (by kernel_rfl) rfl fun Q hQ hQ2 => ?_; rw [Tryz.ntmps229]; simp only [u, i64, Nat.reduceSub, Nat.reduceAdd, bm]
    repeat (first | (refine gC ?_; first | refine aA ?_ | (refine cR hZ ?_; refine sX ?_; try refine aA ?_)) | (refine cR hZ ?_; refine sX ?_; try refine aA ?_) | refine gS ?_)
    (refine FinQ hQ (congrArg Array.toList Tryz.results229) _ _ ?_); simp (disch := omega) only [u, i64, ax, if_true, forall_const, reduceCtorEq, implies_true, tvs, bf]
    rfl
  · rw [if_neg h0]
    rw [decF h0] at hZ
    refine RetN_start Tryz.func229 (by kernel_rfl) rfl fun Q hQ hQ2 => ?_; rw [Tryz.ntmps229]; simp only [u, i64, Nat.reduceSub, Nat.reduceAdd, bm]
    repeat (first | (refine gC ?_; first | refine aA ?_ | ((first | refine cR hZ ?_ | refine cR hT ?_ | refine cR hS ?_); refine sX ?_; try refine aA ?_)) | ((first | refine cR hZ ?_ | refine cR hT ?_ | refine cR hS ?_); refine sX ?_; try refine aA ?_) | refine gS ?_)
    (refine FinQ hQ (congrArg Array.toList Tryz.results229) _ _ ?_); simp (disch := omega) only [u, i64, ax, if_true, forall_const, reduceCtorEq, implies_true, tvs, bf]
    rfl
set_option maxRecDepth 100000 in
set_option maxHeartbeats 1000000 in
theorem ret_cut (q t : Nat) (ht : 1 ≤ t) (ht2 : t ≤ 1099511627776) (hq : (words q).length ≤ 274877906944) (sticky : Bool) : Ret Tryz.prog GEs 226 [nat q, i64 t, .bool sticky] (.tup [nat (q / 2 ^ t), i64 (cutC q t sticky)]) := by
  have hB := ret_Bit (words q) (t - 1) (Wd_words _) (by omega) (by omega)
  rw [val_words] at hB
  have hL := ret_Below (words q) (t - 1) (Wd_words _) (by omega) (by omega)
  rw [val_words] at hL
  have hS := ret_Shr (words q) t (Wd_words _) (by omega) (by omega)
  rw [val_words] at hS
  unfold cutC
  cases sticky with
  | true =>
    by_cases hb : q / 2 ^ (t - 1) % 2 = 1
    · rw [decT hb] at hB
      rw [if_pos hb, Bool.true_or, if_pos rfl]
      refine RetN_start Tryz.func226 (by kernel_rfl) rfl fun Q hQ hQ2 => ?_; rw [Tryz.ntmps226]; simp only [u, i64, Nat.reduceSub, Nat.reduceAdd, bm]
      repeat (first | (refine gC ?_; first | refine aA ?_ | ((first | refine cR hB ?_ | refine cR hS ?_); refine sX ?_; try refine aA ?_)) | ((first | refine cR hB ?_ | refine cR hS ?_); refine sX ?_; try refine aA ?_) | refine gS ?_)
      (refine FinQ hQ (congrArg Array.toList Tryz.results226) _ _ ?_); simp (disch := omega) only [u, i64, ax, if_true, forall_const, reduceCtorEq, implies_true, tvs, bf]
      rfl
    · rw [decF hb] at hB
      rw [if_neg hb, Bool.true_or, if_pos rfl]
      refine RetN_start Tryz.func226 (by kernel_rfl) rfl fun Q hQ hQ2 => ?_; rw [Tryz.ntmps226]; simp only [u, i64, Nat.reduceSub, Nat.reduceAdd, bm]
      repeat (first | (refine gC ?_; first | refine aA ?_ | ((first | refine cR hB ?_ | refine cR hS ?_); refine sX ?_; try refine aA ?_)) | ((first | refine cR hB ?_ | refine cR hS ?_); refine sX ?_; try refine aA ?_) | refine gS ?_)
      (refine FinQ hQ (congrArg Array.toList Tryz.results226) _ _ ?_); simp (disch := omega) only [u, i64, ax, if_true, forall_const, reduceCtorEq, implies_true, tvs, bf]
      rfl
  | false =>
    by_cases hb : q / 2 ^ (t - 1) % 2 = 1
    · rw [decT hb] at hB
      rw [if_pos hb, Bool.false_or]
      by_cases hl : q % 2 ^ (t - 1) ≠ 0
      · rw [decT hl] at hL ⊢
        rw [if_pos rfl]
        refine RetN_start Tryz.func226 (by kernel_rfl) rfl fun Q hQ hQ2 => ?_; rw [Tryz.ntmps226]; simp only [u, i64, Nat.reduceSub, Nat.reduceAdd, bm]
        repeat (first | (refine gC ?_; first | refine aA ?_ | ((first | refine cR hB ?_ | refine cR hL ?_ | refine cR hS ?_); refine sX ?_; try refine aA ?_)) | ((first | refine cR hB ?_ | refine cR hL ?_ | refine cR hS ?_); refine sX ?_; try refine aA ?_) | refine gS ?_)
        (refine FinQ hQ (congrArg Array.toList Tryz.results226) _ _ ?_); simp (disch := omega) only [u, i64, ax, if_true, forall_const, reduceCtorEq, implies_true, tvs, bf]
        rfl
      · rw [decF hl] at hL ⊢
        rw [if_neg (by decide)]
        refine RetN_start Tryz.func226 (by kernel_rfl) rfl fun Q hQ hQ2 => ?_; rw [Tryz.ntmps226]; simp only [u, i64, Nat.reduceSub, Nat.reduceAdd, bm]
        repeat (first | (refine gC ?_; first | refine aA ?_ | ((first | refine cR hB ?_ | refine cR hL ?_ | refine cR hS ?_); refine sX ?_; try refine aA ?_)) | ((first | refine cR hB ?_ | refine cR hL ?_ | refine cR hS ?_); refine sX ?_; try refine aA ?_) | refine gS ?_)
        (refine FinQ hQ (congrArg Array.toList Tryz.results226) _ _ ?_); simp (disch := omega) only [u, i64, ax, if_true, forall_const, reduceCtorEq, implies_true, tvs, bf]
        rfl
    · rw [decF hb] at hB
      rw [if_neg hb, Bool.false_or]
      by_cases hl : q % 2 ^ (t - 1) ≠ 0
      · rw [decT hl] at hL ⊢
        rw [if_pos rfl]
        refine RetN_start Tryz.func226 (by kernel_rfl) rfl fun Q hQ hQ2 => ?_; rw [Tryz.ntmps226]; simp only [u, i64, Nat.reduceSub, Nat.reduceAdd, bm]
        repeat (first | (refine gC ?_; first | refine aA ?_ | ((first | refine cR hB ?_ | refine cR hL ?_ | refine cR hS ?_); refine sX ?_; try refine aA ?_)) | ((first | refine cR hB ?_ | refine cR hL ?_ | refine cR hS ?_); refine sX ?_; try refine aA ?_) | refine gS ?_)
        (refine FinQ hQ (congrArg Array.toList Tryz.results226) _ _ ?_); simp (disch := omega) only [u, i64, ax, if_true, forall_const, reduceCtorEq, implies_true, tvs, bf]
        rfl
      · rw [decF hl] at hL ⊢
        rw [if_neg (by decide)]
        refine RetN_start Tryz.func226 (by kernel_rfl) rfl fun Q hQ hQ2 => ?_; rw [Tryz.ntmps226]; simp only [u, i64, Nat.reduceSub, Nat.reduceAdd, bm]
        repeat (first | (refine gC ?_; first | refine aA ?_ | ((first | refine cR hB ?_ | refine cR hL ?_ | refine cR hS ?_); refine sX ?_; try refine aA ?_)) | ((first | refine cR hB ?_ | refine cR hL ?_ | refine cR hS ?_); refine sX ?_; try refine aA ?_) | refine gS ?_)
        (refine FinQ hQ (congrArg Array.toList Tryz.results226) _ _ ?_); simp (disch := omega) only [u, i64, ax, if_true, forall_const, reduceCtorEq, implies_true, tvs, bf]
        rfl
end Go.Proofs
