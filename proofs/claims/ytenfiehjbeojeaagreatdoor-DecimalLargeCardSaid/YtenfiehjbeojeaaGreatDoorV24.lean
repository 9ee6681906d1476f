/-
  Contracts of functions of the program, each proved by a walk.
-/
import Derived.Test.YtenfiehjbeojeaaGreatDoorV23
import Derived.Test.YtenfiehjbeojeaaGreatDoorV21
import Derived.Test.YtenfiehjbeojeaaGreatDoorV9
set_option maxRecDepth 100000
set_option linter.unusedVariables false
set_option linter.unusedSimpArgs false
namespace Go.Proofs
open Go.Ax
theorem and1I (a : Nat) (h : a < 9223372036854775808) : Go.Ax.bits .and .i64 (a : Int) 1 = ((a % 2 : Nat) : Int) := by
  show IntKind.i64.wrap ((BitVec.ofInt 64 (a : Int) &&& BitVec.ofInt 64 1).toNat : Int) = _
  rw [BitVec.toNat_and, toNatU a (by omega), show (BitVec.ofInt 64 1).toNat = 1 from rfl, Nat.and_one_is_mod]
  exact wrapI _ (by omega) (by omega)
theorem words5 : nat 5 = .lst 1 [.int .u64 5] := by
  unfold nat
  rw [show words 5 = [5] by decide +kernel]
  rfl
theorem words1 : nat 1 = .lst 1 [.int .u64 1] := by
  unfold nat
  rw [show words 1 = [1] by decide +kernel]
  rfl
theorem lenLe {a b : Nat} (h : a ≤ b) {n : Nat} (hl : (words b).length ≤ n) : (words a).length ≤ n := Nat.le_trans (length_mono h) hl
set_option maxRecDepth 100000 in
set_option maxHeartbeats 1000000 in
theorem ret_Pow (b k L : Nat) (hb : b ≠ 0) (hk : k ≤ 4000000) (h1 : (words b).length ≤ L) (h2 : (words (b ^ k)).length ≤ L) (hL : L ≤ 1000000) : Ret Tryz.prog GEs 94 [nat b, i64 k] (nat (b ^ k)) := by
  refine RetN_start Tryz.func94 (by kernel_rfl) rfl fun Q hQ hQ2 => ?_; rw [Tryz.ntmps94]; simp only [u, i64, Nat.reduceSub, Nat.reduceAdd, bm]
  (refine gO ?_)
  refine AWp_loop (fun i : Nat × Nat × Nat => mk 25 [(1, i64 i.1), (4, .emp), (5, nat i.2.1), (6, nat i.2.2)] []) (fun i => i.1 ≤ k ∧ i.2.1 * i.2.2 ^ i.1 = b ^ k ∧ i.2.2 ≠ 0 ∧ (words i.2.2).length ≤ L) (fun i => i.1) (k, 1, b) ?_ ⟨Nat.le_refl _, Nat.one_mul _, hb, h1⟩ ?_
  · rw [words1]
    simp only [u, i64, Nat.reduceSub, Nat.reduceAdd, bm]
  rintro ⟨j, o, x⟩ ⟨i1, i2, i3, i4⟩
  simp only at i1 i2 i3 i4
  simp only [u, i64, Nat.reduceSub, Nat.reduceAdd, bm]
  have hpos : 0 < b ^ k := Nat.pow_pos (Nat.pos_of_ne_zero hb)
  have ho : o ≠ 0 := fun h => by rw [h, Nat.zero_mul] at i2; omega
  have hxj : x ^ j ≤ b ^ k := by rw [← i2]; exact Nat.le_mul_of_pos_left _ (Nat.pos_of_ne_zero ho)
  have hol : (words o).length ≤ L := lenLe (by rw [← i2]; exact Nat.le_mul_of_pos_right _ (Nat.pow_pos (Nat.pos_of_ne_zero i3))) h2
  by_cases hj : 0 < j
  · have hd := Nat.div_add_mod j 2
    have hM1 := ret_Mul (words o) (words x) (Wd_words _) (Wd_words _) (by omega) (by omega)
    have hM2 := ret_Mul (words x) (words x) (Wd_words _) (Wd_words _) (by omega) (by omega)
    rw [val_words, val_words] at hM1
    rw [val_words] at hM2
    have hand := and1I j (by omega)
    have hx2 : 1 < j → x * x ≤ b ^ k := fun h => by
      refine Nat.le_trans ?_ hxj
      rw [← Nat.pow_two]
      exact Nat.pow_le_pow_right (Nat.pos_of_ne_zero i3) h
    have hsh : j / 2 ^ min 1 IntKind.i64.bits = j / 2 := rfl
    by_cases c1 : j % 2 = 1
    · have e1 : ((j % 2 : Nat) : Int) = 1 := by omega
      rw [e1] at hand
      by_cases c2 : 1 < j
      · have hpw : o * x * (x * x) ^ (j / 2) = b ^ k := by
          rw [← i2, ← Nat.pow_two, ← Nat.pow_mul, Nat.mul_assoc, ← Nat.pow_succ']
          congr 2
          omega
        (refine gO ?_)
        (refine gC ?_)
        rw [hand]
        repeat (first | (refine gC ?_; first | refine aA ?_ | ((first | refine cR hM1 ?_ | refine cR hM2 ?_); refine sX ?_; try refine aA ?_)) | ((first | refine cR hM1 ?_ | refine cR hM2 ?_); refine sX ?_; try refine aA ?_) | refine gS ?_)
        refine ⟨(j / 2, o * x, x * x), ?_, ⟨by simp only; omega, hpw, Nat.mul_ne_zero i3 i3, lenLe (hx2 c2) h2⟩, by simp only; omega⟩
        rw [hsh]
        simp only [u, i64, Nat.reduceSub, Nat.reduceAdd, bm]
      · have hpw : o * x * x ^ (j / 2) = b ^ k := by
          rw [← i2, show j = 1 by omega, Nat.pow_one, show 1 / 2 = 0 from rfl, Nat.pow_zero, Nat.mul_one]
        (refine gO ?_)
        (refine gC ?_)
        rw [hand]
        repeat (first | (refine gC ?_; first | refine aA ?_ | (refine cR hM1 ?_; refine sX ?_; try refine aA ?_)) | (refine cR hM1 ?_; refine sX ?_; try refine aA ?_) | refine gS ?_)
        refine ⟨(j / 2, o * x, x), ?_, ⟨by simp only; omega, hpw, i3, i4⟩, by simp only; omega⟩
        rw [hsh]
        simp only [u, i64, Nat.reduceSub, Nat.reduceAdd, bm]
    · have e1 : ((j % 2 : Nat) : Int) = 0 := by omega
      rw [e1] at hand
      have hpw : o * (x * x) ^ (j / 2) = b ^ k := by
        rw [← i2, ← Nat.pow_two, ← Nat.pow_mul]
        congr 2
        omega
      (refine gO ?_)
      (refine gC ?_)
      rw [hand]
      repeat (first | (refine gC ?_; first | refine aA ?_ | (refine cR hM2 ?_; refine sX ?_; try refine aA ?_)) | (refine cR hM2 ?_; refine sX ?_; try refine aA ?_) | refine gS ?_)
      refine ⟨(j / 2, o, x * x), ?_, ⟨by simp only; omega, hpw, Nat.mul_ne_zero i3 i3, lenLe (hx2 (by omega)) h2⟩, by simp only; omega⟩
      rw [hsh]
      simp only [u, i64, Nat.reduceSub, Nat.reduceAdd, bm]
  · have h0 : j = 0 := by omega
    subst h0
    rw [Nat.pow_zero, Nat.mul_one] at i2
    rw [← i2] at hQ
    (refine gO ?_)
    (refine FinQ hQ (congrArg Array.toList Tryz.results94) _ _ ?_); simp (disch := omega) only [u, i64, ax, if_true, forall_const, reduceCtorEq, implies_true, tvs, bf]
theorem pow5_len {k : Nat} (hk : k ≤ 1000000) : (words (5 ^ k)).length ≤ 50000 := le_pow_words (five_le k) (by omega)
theorem ten_len {k : Nat} (hk : k ≤ 1000000) : (words (10 ^ k)).length ≤ 63000 := le_pow_words (ten_le k) (by omega)
theorem ret_Ten (k : Nat) (hk : k ≤ 1000000) : Ret Tryz.prog GEs 65 [i64 k] (nat (10 ^ k)) := by
  have h5 : (words 5).length ≤ 50000 := Nat.le_trans (length_le (k := 1) (by decide)) (by decide)
  have hP := ret_Pow 5 k 50000 (by decide) (by omega) h5 (pow5_len hk) (by decide)
  rw [words5] at hP
  have hl := pow5_len hk
  have hS := ret_Shl (words (5 ^ k)) k (Wd_words _) (by omega) (by omega)
  rw [val_words, ten_eq] at hS
  refine RetN_start Tryz.func65 (by kernel_rfl) rfl fun Q hQ hQ2 => ?_; rw [Tryz.ntmps65]; simp only [u, i64, Nat.reduceSub, Nat.reduceAdd, bm]
  repeat (first | (refine gC ?_; first | refine aA ?_ | ((first | refine cR hP ?_ | refine cR hS ?_); refine sX ?_; try refine aA ?_)) | ((first | refine cR hP ?_ | refine cR hS ?_); refine sX ?_; try refine aA ?_) | refine gS ?_)
  (refine FinQ hQ (congrArg Array.toList Tryz.results65) _ _ ?_); simp (disch := omega) only [u, i64, ax, if_true, forall_const, reduceCtorEq, implies_true, tvs, bf]
theorem cmpI_sign (a b : Nat) : (0 ≤ cmpI a b ↔ b ≤ a) ∧ (cmpI a b < 0 ↔ a < b) ∧ (cmpI a b = 0 ↔ a = b) ∧ (0 < cmpI a b ↔ b < a) := by
  unfold cmpI; split <;> (try split) <;> omega
set_option maxRecDepth 100000 in
/-- How many decimal digits. -/
theorem ret_WDigits (n : Nat) (hl : (words n).length ≤ 10000) : Ret Tryz.prog GEs 70 [nat n] (i64 (dg n)) := by
  have hZ := ret_Zero (words n) (Wd_words _) (by omega)
  have hL := ret_Len (words n) (Wd_words _) (by omega)
  rw [val_words] at hZ hL
  have hb := bl_len n
  by_cases h0 : n = 0
  · rw [decT h0] at hZ
    subst h0
    rw [dg_zero]
    refine RetN_start Tryz.func70 (by kernel_rfl) rfl fun Q hQ hQ2 => ?_; rw [Tryz.ntmps70]; simp only [u, i64, Nat.reduceSub, Nat.reduceAdd, bm]
    repeat (first | (refine gC ?_; first | refine aA ?_ | (refine cR hZ ?_; refine sX ?_; try refine aA ?_)) | (refine cR hZ ?_; refine sX ?_; try refine aA ?_) | refine gS ?_)
    (refine FinQ hQ (congrArg Array.toList Tryz.results70) _ _ ?_); simp (disch := omega) only [u, i64, ax, if_true, forall_const, reduceCtorEq, implies_true, tvs, bf]
    all_goals rfl
  · rw [decF h0] at hZ
    have hg := dg_guess n h0 (by omega)
    have hdb := dg_le_bl n
    have hb1 := (bl_spec h0).2.2
    have hT := fun j (hj : j ≤ dg n) => ret_Ten j (by omega)
    have hC := fun j (hj : j ≤ dg n) => ret_Cmp (words n) (words (10 ^ j)) (Wd_words _) (Wd_words _) (by omega) (by have := ten_len (k := j) (by omega); omega)
    simp only [val_words] at hC
    refine RetN_start Tryz.func70 (by kernel_rfl) rfl fun Q hQ hQ2 => ?_; rw [Tryz.ntmps70]; simp only [u, i64, Nat.reduceSub, Nat.reduceAdd, bm]
    repeat (first | (refine gC ?_; first | refine aA ?_ | ((first | refine cR hZ ?_ | refine cR hL ?_); refine sX ?_; try refine aA ?_)) | ((first | refine cR hZ ?_ | refine cR hL ?_); refine sX ?_; try refine aA ?_) | refine gS ?_)
    refine AWp_loop (fun j : Nat => mk 19 [(0, nat n), (2, i64 0), (3, i64 j)] []) (fun j => j ≤ dg n) (fun j => dg n - j) ((bl n - 1) * 30103 / 100000) ?_ hg ?_
    · simp only [u, i64, Nat.reduceSub, Nat.reduceAdd, bm]
    intro j hj
    simp only [u, i64, Nat.reduceSub, Nat.reduceAdd, bm]
    have hs := cmpI_sign n (10 ^ j)
    have hT := hT j hj
    have hC := hC j hj
    by_cases hc : 10 ^ j ≤ n
    · have h1 := hs.1.2 hc
      have h2 := dg_ge hc
      generalize cmpI n (10 ^ j) = c at *
      repeat (first | (refine gC ?_; first | refine aA ?_ | ((first | refine cR hT ?_ | refine cR hC ?_); refine sX ?_; try refine aA ?_)) | ((first | refine cR hT ?_ | refine cR hC ?_); refine sX ?_; try refine aA ?_) | refine gS ?_)
      refine ⟨j + 1, ?_, h2, by omega⟩
      simp only [u, i64, Nat.reduceSub, Nat.reduceAdd, bm]
    · have h1 := hs.2.1.2 (by omega)
      have h2 := dg_le (n := n) (k := j) (by omega)
      obtain rfl : j = dg n := by omega
      generalize cmpI n (10 ^ dg n) = c at *
      repeat (first | (refine gC ?_; first | refine aA ?_ | ((first | refine cR hT ?_ | refine cR hC ?_); refine sX ?_; try refine aA ?_)) | ((first | refine cR hT ?_ | refine cR hC ?_); refine sX ?_; try refine aA ?_) | refine gS ?_)
      (refine FinQ hQ (congrArg Array.toList Tryz.results70) _ _ ?_); simp (disch := omega) only [u, i64, ax, if_true, forall_const, reduceCtorEq, implies_true, tvs, bf]
theorem tz_dvd {n k : Nat} (h : n ≠ 0) (hm : n % 2 ^ k = 0) : k ≤ tz n := by
  obtain ⟨m, hm'⟩ := tz_spec h
  rcases Nat.lt_or_ge (tz n) k with hlt | hge
  · exfalso
    obtain ⟨c, hc⟩ := Nat.dvd_of_mod_eq_zero hm
    obtain ⟨j, rfl⟩ : ∃ j, k = tz n + (j + 1) := ⟨k - tz n - 1, by omega⟩
    rw [Nat.pow_add, Nat.mul_assoc] at hc
    generalize tz n = t at *
    have := Nat.eq_of_mul_eq_mul_left (Nat.two_pow_pos t) (hm'.symm.trans hc)
    rw [Nat.pow_succ, Nat.mul_assoc, Nat.mul_left_comm] at this
    omega
  · exact hge
set_option maxRecDepth 100000 in
set_option maxHeartbeats 1000000 in
/-- A number without the zeros at its end. -/
theorem ret_Strip (xs : List Nat) (hx : Wd xs) (hl : xs.length ≤ 5000) (h0 : val xs ≠ 0) : Ret Tryz.prog GEs 68 [ws xs] (.tup [nat (sm (val xs)), i64 (st (val xs))]) := by
  have hT := ret_Trim xs hx (by omega)
  have hnl := length_words_val_le hx
  generalize val xs = n at *
  have hl0 : 0 < (words n).length := List.length_pos_iff.2 fun h => h0 (words_eq_nil.1 h)
  have hbn := bl_len n
  refine RetN_start Tryz.func68 (by kernel_rfl) rfl fun Q hQ hQ2 => ?_; rw [Tryz.ntmps68]; simp only [u, i64, Nat.reduceSub, Nat.reduceAdd, bm]
  repeat (first | (refine gC ?_; first | refine aA ?_ | (refine cR hT ?_; refine sX ?_; try refine aA ?_)) | (refine cR hT ?_; refine sX ?_; try refine aA ?_) | refine gS ?_)
  refine AWp_loop (fun i : Nat × Nat × Nat => mk 44 [(0, nat i.1), (2, .emp), (3, i64 0), (4, i64 i.2.1), (5, i64 i.2.2)] []) (fun i => i.1 * 10 ^ i.2.1 = n ∧ 1 ≤ i.2.2 ∧ i.2.2 ≤ 1000000 ∧ i.2.1 ≤ 1000000) (fun i => 2 * dg i.1 + i.2.2) (n, 0, 1) ?_ ⟨by simp, by simp, by simp, by simp⟩ ?_
  · simp only [u, i64, Nat.reduceSub, Nat.reduceAdd, bm]
  rintro ⟨x, k, s⟩ ⟨i1, i2, i3, i4⟩
  simp only at i1 i2 i3 i4
  simp only [u, i64, Nat.reduceSub, Nat.reduceAdd, bm]
  have hx0 : x ≠ 0 := fun h => by rw [h, Nat.zero_mul] at i1; exact h0 i1.symm
  have hxn : x ≤ n := by rw [← i1]; exact Nat.le_mul_of_pos_right _ (ten_pos k)
  have hxl := length_mono hxn
  have hTr := ret_Trailing (words x) (Wd_words _) (by omega)
  rw [val_words] at hTr
  have hbx := bl_len x
  have htb := tz_le_bl x
  by_cases c1 : tz x < s
  · by_cases c2 : s = 1
    · subst c2
      have hxm : x % 10 ≠ 0 := fun h => by
        have := tz_dvd (k := 1) hx0 (by omega)
        omega
      obtain ⟨e1, e2⟩ := strip_done i1 hxm
      rw [e1, e2] at hQ
      repeat (first | (refine gC ?_; first | refine aA ?_ | (refine cR hTr ?_; refine sX ?_; try refine aA ?_)) | (refine cR hTr ?_; refine sX ?_; try refine aA ?_) | refine gS ?_)
      (refine FinQ hQ (congrArg Array.toList Tryz.results68) _ _ ?_); simp (disch := omega) only [u, i64, ax, if_true, forall_const, reduceCtorEq, implies_true, tvs, bf]
    · repeat (first | (refine gC ?_; first | refine aA ?_ | (refine cR hTr ?_; refine sX ?_; try refine aA ?_)) | (refine cR hTr ?_; refine sX ?_; try refine aA ?_) | refine gS ?_)
      refine ⟨(x, k, s / 2), ?_, ⟨i1, by simp only; omega, by simp only; omega, i4⟩, by simp only; omega⟩
      simp only [u, i64, Nat.reduceSub, Nat.reduceAdd, bm]
  · have hTe := ret_Ten s i3
    have htl := ten_len i3
    have hD := ret_DivMod (words x) (words (10 ^ s)) (Wd_words _) (Wd_words _) (by omega) (by omega) (by rw [val_words]; exact Nat.ne_of_gt (ten_pos s))
    rw [val_words, val_words] at hD
    have hml := Nat.le_trans (length_mono (Nat.mod_le x (10 ^ s))) hxl
    have hZ := ret_Zero (words (x % 10 ^ s)) (Wd_words _) (by omega)
    rw [val_words] at hZ
    by_cases c2 : x % 10 ^ s = 0
    · rw [decT c2] at hZ
      obtain ⟨q, hq⟩ := Nat.dvd_of_mod_eq_zero c2
      have hq2 : x / 10 ^ s = q := by rw [hq]; exact Nat.mul_div_cancel_left _ (ten_pos s)
      have hq0 : q ≠ 0 := fun h => by rw [h, Nat.mul_zero] at hq; exact hx0 hq
      have hdg : dg x = dg q + s := by rw [hq, Nat.mul_comm]; exact dg_mul _ _ hq0
      have hdn : dg n = dg x + k := by rw [← i1]; exact dg_mul _ _ hx0
      have hdbn := dg_le_bl n
      have hpw : q * 10 ^ (k + s) = n := by rw [← i1, hq, Nat.pow_add, Nat.mul_comm (10 ^ k), ← Nat.mul_assoc, Nat.mul_comm q]
      rw [hq2] at hD
      generalize x % 10 ^ s = y at *
      generalize 10 ^ s = T at *
      repeat (first | (refine gC ?_; first | refine aA ?_ | ((first | refine cR hTr ?_ | refine cR hTe ?_ | refine cR hD ?_ | refine cR hZ ?_); refine sX ?_; try refine aA ?_)) | ((first | refine cR hTr ?_ | refine cR hTe ?_ | refine cR hD ?_ | refine cR hZ ?_); refine sX ?_; try refine aA ?_) | refine gS ?_)
      refine ⟨(q, k + s, 2 * s), ?_, ⟨hpw, by simp only; omega, by simp only; omega, by simp only; omega⟩, by simp only; omega⟩
      simp only [u, i64, Nat.reduceSub, Nat.reduceAdd, bm]
    · rw [decF c2] at hZ
      by_cases c3 : s = 1
      · subst c3
        rw [Nat.pow_one] at *
        obtain ⟨e1, e2⟩ := strip_done i1 c2
        rw [e1, e2] at hQ
        repeat (first | (refine gC ?_; first | refine aA ?_ | ((first | refine cR hTr ?_ | refine cR hTe ?_ | refine cR hD ?_ | refine cR hZ ?_); refine sX ?_; try refine aA ?_)) | ((first | refine cR hTr ?_ | refine cR hTe ?_ | refine cR hD ?_ | refine cR hZ ?_); refine sX ?_; try refine aA ?_) | refine gS ?_)
        (refine FinQ hQ (congrArg Array.toList Tryz.results68) _ _ ?_); simp (disch := omega) only [u, i64, ax, if_true, forall_const, reduceCtorEq, implies_true, tvs, bf]
      · generalize x % 10 ^ s = y at *
        generalize x / 10 ^ s = z at *
        generalize 10 ^ s = T at *
        repeat (first | (refine gC ?_; first | refine aA ?_ | ((first | refine cR hTr ?_ | refine cR hTe ?_ | refine cR hD ?_ | refine cR hZ ?_); refine sX ?_; try refine aA ?_)) | ((first | refine cR hTr ?_ | refine cR hTe ?_ | refine cR hD ?_ | refine cR hZ ?_); refine sX ?_; try refine aA ?_) | refine gS ?_)
        refine ⟨(x, k, s / 2), ?_, ⟨i1, by simp only; omega, by simp only; omega, i4⟩, by simp only; omega⟩
        simp only [u, i64, Nat.reduceSub, Nat.reduceAdd, bm]
end Go.Proofs
