/-
  Contracts of functions of the program, each proved by a walk.
-/
import Derived.Test.YtpnljnmpocobjaaGreatDoorX13
import Derived.Test.YtpnljnmpocobjaaGreatDoorX7
import Derived.Test.YtpnljnmpocobjaaGreatDoorX10
import Derived.Test.YtpnljnmpocobjaaGreatDoorX21
import Derived.Test.YtpnljnmpocobjaaGreatDoorX14
set_option maxRecDepth 100000
set_option linter.unusedVariables false
set_option linter.unusedSimpArgs false
set_option maxRecDepth 100000
namespace Go.Proofs
open Go.Ax
set_option maxRecDepth 100000 in
set_option maxHeartbeats 1000000 in
theorem ret_rPow (b k L : Nat) (hb : b ≠ 0) (hk : k ≤ 4000000) (h1 : (words b).length ≤ L) (h2 : (words (b ^ k)).length ≤ L) (hL : L ≤ 1000000) : Ret Tryz.prog GEs 211 [nat b, i64 k] (nat (b ^ k)) := by
  have hF := ret_rFromWord 1 (by decide)
  have hTr := ret_rTrim (words b) (Wd_words _) (by omega)
  rw [val_words] at hTr
  refine RetN_start Tryz.func211 (by kernel_rfl) rfl fun Q hQ hQ2 => ?_; rw [Tryz.ntmps211]; simp only [u, i64, Nat.reduceSub, Nat.reduceAdd, bm]
  repeat (first | (refine gC ?_; first | refine aA ?_ | ((first | refine cR hF ?_ | refine cR hTr ?_); refine sX ?_; try refine aA ?_)) | ((first | refine cR hF ?_ | refine cR hTr ?_); refine sX ?_; try refine aA ?_) | refine gS ?_)
  refine AWp_loop (fun i : Nat × Nat × Nat => mk 25 [(0, nat i.2.2), (1, i64 i.1), (4, .emp), (5, nat i.2.1)] []) (fun i => i.1 ≤ k ∧ i.2.1 * i.2.2 ^ i.1 = b ^ k ∧ i.2.2 ≠ 0 ∧ (words i.2.2).length ≤ L) (fun i => i.1) (k, 1, b) ?_ ⟨Nat.le_refl _, Nat.one_mul _, hb, h1⟩ ?_
  · simp only [u, i64, Nat.reduceSub, Nat.reduceAdd, bm]
  rintro ⟨j, o, x⟩ ⟨i1, i2, i3, i4⟩
  simp only at i1 i2 i3 i4
  simp only [u, i64, Nat.reduceSub, Nat.reduceAdd, bm]
  have hpos : 0 < b ^ k := Nat.pow_pos (Nat.pos_of_ne_zero hb)
  have ho : o ≠ 0 := fun h => by rw [h, Nat.zero_mul] at i2; omega
  have hxj : x ^ j ≤ b ^ k := by rw [← i2]; exact Nat.le_mul_of_pos_left _ (Nat.pos_of_ne_zero ho)
  have hol : (words o).length ≤ L := lenLe (by rw [← i2]; exact Nat.le_mul_of_pos_right _ (Nat.pow_pos (Nat.pos_of_ne_zero i3))) h2
  by_cases hj : 0 < j
  · have hd := Nat.div_add_mod j 2
    have hM1 := ret_rMul (words o) (words x) (Wd_words _) (Wd_words _) (by omega) (by omega)
    have hM2 := ret_rMul (words x) (words x) (Wd_words _) (Wd_words _) (by omega) (by omega)
    rw [val_words, val_words] at hM1
    rw [val_words] at hM2
    have hx2 : 1 < j → x * x ≤ b ^ k := fun h => by
      refine Nat.le_trans ?_ hxj
      rw [← Nat.pow_two]
      exact Nat.pow_le_pow_right (Nat.pos_of_ne_zero i3) h
    by_cases c1 : j % 2 = 1
    · by_cases c2 : 1 < j
      · have hpw : o * x * (x * x) ^ (j / 2) = b ^ k := by
          rw [← i2, ← Nat.pow_two, ← Nat.pow_mul, Nat.mul_assoc, ← Nat.pow_succ']
          congr 2
          omega
        repeat (first | (refine gC ?_; first | refine aA ?_ | ((first | refine cR hM1 ?_ | refine cR hM2 ?_); refine sX ?_; try refine aA ?_)) | ((first | refine cR hM1 ?_ | refine cR hM2 ?_); refine sX ?_; try refine aA ?_) | refine gS ?_)
        refine ⟨(j / 2, o * x, x * x), ?_, ⟨by simp only; omega, hpw, Nat.mul_ne_zero i3 i3, lenLe (hx2 c2) h2⟩, by simp only; omega⟩
        simp only [u, i64, Nat.reduceSub, Nat.reduceAdd, bm]
      · have hpw : o * x * x ^ (j / 2) = b ^ k := by
          rw [← i2, show j = 1 by omega, Nat.pow_one, show 1 / 2 = 0 from rfl, Nat.pow_zero, Nat.mul_one]
        repeat (first | (refine gC ?_; first | refine aA ?_ | (refine cR hM1 ?_; refine sX ?_; try refine aA ?_)) | (refine cR hM1 ?_; refine sX ?_; try refine aA ?_) | refine gS ?_)
        refine ⟨(j / 2, o * x, x), ?_, ⟨by simp only; omega, hpw, i3, i4⟩, by simp only; omega⟩
        simp only [u, i64, Nat.reduceSub, Nat.reduceAdd, bm]
    · have hpw : o * (x * x) ^ (j / 2) = b ^ k := by
        rw [← i2, ← Nat.pow_two, ← Nat.pow_mul]
        congr 2
        omega
      repeat (first | (refine gC ?_; first | refine aA ?_ | (refine cR hM2 ?_; refine sX ?_; try refine aA ?_)) | (refine cR hM2 ?_; refine sX ?_; try refine aA ?_) | refine gS ?_)
      refine ⟨(j / 2, o, x * x), ?_, ⟨by simp only; omega, hpw, Nat.mul_ne_zero i3 i3, lenLe (hx2 (by omega)) h2⟩, by simp only; omega⟩
      simp only [u, i64, Nat.reduceSub, Nat.reduceAdd, bm]
  · have h0 : j = 0 := by omega
    subst h0
    rw [Nat.pow_zero, Nat.mul_one] at i2
    rw [← i2] at hQ
    (refine gO ?_)
    (refine FinQ hQ (congrArg Array.toList Tryz.results211) _ _ ?_); simp (disch := omega) only [u, i64, ax, if_true, forall_const, reduceCtorEq, implies_true, tvs, bf]
theorem ret_rTen (k : Nat) (hk : k ≤ 1000000) : Ret Tryz.prog GEs 145 [i64 k] (nat (10 ^ k)) := by
  have h10 : (words 10).length ≤ 63000 := Nat.le_trans (length_le (k := 1) (by decide)) (by decide)
  have hP := ret_rPow 10 k 63000 (by decide) (by omega) h10 (ten_len hk) (by decide)
  have hF := ret_rFromWord 10 (by decide)
  generalize 10 ^ k = T at *
  refine RetN_start Tryz.func145 (by kernel_rfl) rfl fun Q hQ hQ2 => ?_; rw [Tryz.ntmps145]; simp only [u, i64, Nat.reduceSub, Nat.reduceAdd, bm]
  repeat (first | (refine gC ?_; first | refine aA ?_ | ((first | refine cR hF ?_ | refine cR hP ?_); refine sX ?_; try refine aA ?_)) | ((first | refine cR hF ?_ | refine cR hP ?_); refine sX ?_; try refine aA ?_) | refine gS ?_)
  (refine FinQ hQ (congrArg Array.toList Tryz.results145) _ _ ?_); simp (disch := omega) only [u, i64, ax, if_true, forall_const, reduceCtorEq, implies_true, tvs, bf]
set_option maxRecDepth 100000 in
set_option maxHeartbeats 1000000 in
theorem ret_rDigitsW (xs : List Nat) (hx : Wd xs) (h0 : val xs ≠ 0) (hl : xs.length ≤ 10000) : Ret Tryz.prog GEs 152 [ws xs] (i64 (dg (val xs))) := by
  have hL := ret_rLen xs hx (by omega)
  have hb := bl_len (val xs)
  have hnl := length_words_val_le hx
  have hT := fun j (hj : j ≤ dg (val xs) + 1) => ret_rTen j (by have := dg_le_bl (val xs); omega)
  have hC := fun j (hj : j ≤ dg (val xs) + 1) => ret_rCmp xs (words (10 ^ j)) hx (Wd_words _) (by omega) (by have := dg_le_bl (val xs); have := ten_len (k := j) (by omega); omega)
  simp only [val_words] at hC
  generalize val xs = n at *
  have hg := dg_guess n h0 (by omega)
  have hdb := dg_le_bl n
  have hb1 := (bl_spec h0).2.2
  have hd1 := (dg_spec n h0).2.2
  refine RetN_start Tryz.func152 (by kernel_rfl) rfl fun Q hQ hQ2 => ?_; rw [Tryz.ntmps152]; simp only [u, i64, Nat.reduceSub, Nat.reduceAdd, bm]
  repeat (first | (refine gC ?_; first | refine aA ?_ | (refine cR hL ?_; refine sX ?_; try refine aA ?_)) | (refine cR hL ?_; refine sX ?_; try refine aA ?_) | refine gS ?_)
  refine AWp_loop (fun j : Nat => mk 30 [(0, ws xs), (2, i64 0), (3, i64 j)] []) (fun j => 1 ≤ j ∧ j ≤ dg n + 1) (fun j => dg n + 1 - j) ((bl n - 1) * 30103 / 100000 + 1) ?_ ⟨by omega, by omega⟩ ?_
  · simp only [u, i64, Nat.reduceSub, Nat.reduceAdd, bm]
  intro j hj
  simp only [u, i64, Nat.reduceSub, Nat.reduceAdd, bm]
  have hs := cmpI_sign n (10 ^ j)
  have hTj := hT j hj.2
  have hCj := hC j hj.2
  by_cases hc : 10 ^ j ≤ n
  · have h1 := hs.1.2 hc
    have h2 := dg_ge hc
    generalize cmpI n (10 ^ j) = c at *
    repeat (first | (refine gC ?_; first | refine aA ?_ | ((first | refine cR hTj ?_ | refine cR hCj ?_); refine sX ?_; try refine aA ?_)) | ((first | refine cR hTj ?_ | refine cR hCj ?_); refine sX ?_; try refine aA ?_) | refine gS ?_)
    refine ⟨j + 1, ?_, by omega, by omega⟩
    simp only [u, i64, Nat.reduceSub, Nat.reduceAdd, bm]
  · have h1 := hs.2.1.2 (by omega)
    have h2 := dg_le (n := n) (k := j) (by omega)
    generalize cmpI n (10 ^ j) = c at *
    repeat (first | (refine gC ?_; first | refine aA ?_ | ((first | refine cR hTj ?_ | refine cR hCj ?_); refine sX ?_; try refine aA ?_)) | ((first | refine cR hTj ?_ | refine cR hCj ?_); refine sX ?_; try refine aA ?_) | refine gS ?_)
    refine AWp_loop (fun j : Nat => mk 30 [(0, ws xs), (2, i64 0), (3, i64 j)] []) (fun j => dg n ≤ j ∧ j ≤ dg n + 1) (fun j => j) j ?_ ⟨h2, hj.2⟩ ?_
    · simp only [u, i64, Nat.reduceSub, Nat.reduceAdd, bm]
    intro i hi
    simp only [u, i64, Nat.reduceSub, Nat.reduceAdd, bm]
    by_cases hi1 : 1 < i
    · obtain ⟨m, rfl⟩ : ∃ m, i = m + 1 := ⟨i - 1, by omega⟩
      have hs := cmpI_sign n (10 ^ m)
      have hTm := hT m (by omega)
      have hCm := hC m (by omega)
      by_cases hc : n < 10 ^ m
      · have h1 := hs.2.1.2 hc
        have h2 := dg_le (n := n) (k := m) (by omega)
        generalize cmpI n (10 ^ m) = c' at *
        repeat (first | (refine gC ?_; first | refine aA ?_ | ((first | refine cR hTm ?_ | refine cR hCm ?_); refine sX ?_; try refine aA ?_)) | ((first | refine cR hTm ?_ | refine cR hCm ?_); refine sX ?_; try refine aA ?_) | refine gS ?_)
        refine ⟨m, ?_, by omega, by omega⟩
        rw [show m + 1 - 1 = m from rfl]
        simp only [u, i64, Nat.reduceSub, Nat.reduceAdd, bm]
      · have h1 : ¬ cmpI n (10 ^ m) < 0 := fun h => hc (hs.2.1.1 h)
        have h2 := dg_ge (n := n) (k := m) (by omega)
        have hcb : -1 ≤ cmpI n (10 ^ m) ∧ cmpI n (10 ^ m) ≤ 1 := by unfold cmpI; split <;> (try split) <;> omega
        generalize cmpI n (10 ^ m) = c' at *
        have e : ((dg n : Nat) : Int) = ((m + 1 : Nat) : Int) := by omega
        rw [e] at hQ
        repeat (first | (refine gC ?_; first | refine aA ?_ | ((first | refine cR hTm ?_ | refine cR hCm ?_); refine sX ?_; try refine aA ?_)) | ((first | refine cR hTm ?_ | refine cR hCm ?_); refine sX ?_; try refine aA ?_) | refine gS ?_)
        (refine FinQ hQ (congrArg Array.toList Tryz.results152) _ _ ?_); simp (disch := omega) only [u, i64, ax, if_true, forall_const, reduceCtorEq, implies_true, tvs, bf]
    · have e : ((dg n : Nat) : Int) = (i : Int) := by omega
      rw [e] at hQ
      (refine gO ?_)
      (refine FinQ hQ (congrArg Array.toList Tryz.results152) _ _ ?_); simp (disch := omega) only [u, i64, ax, if_true, forall_const, reduceCtorEq, implies_true, tvs, bf]
theorem ret_rDigits (n : Nat) (h0 : n ≠ 0) (hl : (words n).length ≤ 10000) : Ret Tryz.prog GEs 152 [nat n] (i64 (dg n)) := by
  have h := ret_rDigitsW (words n) (Wd_words _) (by rw [val_words]; exact h0) hl
  rwa [val_words] at h
end Go.Proofs
set_option linter.unusedVariables false
set_option linter.unusedSimpArgs false
set_option maxRecDepth 100000
namespace Go.Proofs
open Go.Ax
theorem ret_Ctx (p g r : Int) : Ret Tryz.prog GEs 48 [cx p g r] (cx p g r) := by
  unfold cx
  refine RetN_start Tryz.func48 (by kernel_rfl) rfl fun Q hQ hQ2 => ?_; rw [Tryz.ntmps48]; simp only [u, i64, Nat.reduceSub, Nat.reduceAdd, bm]
  (refine gO ?_)
  (refine FinQ hQ (congrArg Array.toList Tryz.results48) _ _ ?_); simp (disch := omega) only [u, i64, ax, if_true, forall_const, reduceCtorEq, implies_true, tvs, bf]
theorem ret_TheirD (k e : Int) (neg : Bool) (cs : List Nat) : Ret Tryz.prog GEs 49 [.agg [i64 k, .bool neg, ws cs, i64 e]] (.agg [i64 k, .bool neg, ws cs, i64 e]) := by
  refine RetN_start Tryz.func49 (by kernel_rfl) rfl fun Q hQ hQ2 => ?_; rw [Tryz.ntmps49]; simp only [u, i64, Nat.reduceSub, Nat.reduceAdd, bm]
  (refine gO ?_)
  (refine FinQ hQ (congrArg Array.toList Tryz.results49) _ _ ?_); simp (disch := omega) only [u, i64, ax, if_true, forall_const, reduceCtorEq, implies_true, tvs, bf]
theorem ret_Least22 (p g r : Int) (hg : 1 ≤ g ∧ g ≤ 6000) : Ret Tryz.prog GEs 206 [cx p g r] (i64 (1 - g)) := by
  unfold cx
  refine RetN_start Tryz.func206 (by kernel_rfl) rfl fun Q hQ hQ2 => ?_; rw [Tryz.ntmps206]; simp only [u, i64, Nat.reduceSub, Nat.reduceAdd, bm]
  (refine gO ?_)
  (refine FinQ hQ (congrArg Array.toList Tryz.results206) _ _ ?_); simp (disch := omega) only [u, i64, ax, if_true, forall_const, reduceCtorEq, implies_true, tvs, bf]
theorem ret_Tiny22 (p g r : Int) (hp : 1 ≤ p ∧ p ≤ 400) (hg : 1 ≤ g ∧ g ≤ 6000) : Ret Tryz.prog GEs 125 [cx p g r] (i64 (1 - g - (p - 1))) := by
  have hL := ret_Least22 p g r hg
  unfold cx at *
  refine RetN_start Tryz.func125 (by kernel_rfl) rfl fun Q hQ hQ2 => ?_; rw [Tryz.ntmps125]; simp only [u, i64, Nat.reduceSub, Nat.reduceAdd, bm]
  repeat (first | (refine gC ?_; first | refine aA ?_ | (refine cR hL ?_; refine sX ?_; try refine aA ?_)) | (refine cR hL ?_; refine sX ?_; try refine aA ?_) | refine gS ?_)
  (refine FinQ hQ (congrArg Array.toList Tryz.results125) _ _ ?_); simp (disch := omega) only [u, i64, ax, if_true, forall_const, reduceCtorEq, implies_true, tvs, bf]
theorem ret_Right22 (p g r : Int) (h1 : -9223372036854775808 ≤ r) (h2 : r < 9223372036854775808) : Ret Tryz.prog GEs 204 [cx p g r] (.bool (decide (okC p g r))) := by
  have hK := ret_Known r h1 h2
  unfold cx
  by_cases hp1 : 1 ≤ p
  · by_cases hp2 : p ≤ 400
    · by_cases hg1 : 1 ≤ g
      · by_cases hg2 : g ≤ 6000
        · by_cases hr : 0 ≤ r ∧ r ≤ 4
          · rw [decT hr] at hK
            rw [decT (show okC p g r from ⟨⟨hp1, hp2⟩, ⟨hg1, hg2⟩, hr⟩)]
            refine RetN_start Tryz.func204 (by kernel_rfl) rfl fun Q hQ hQ2 => ?_; rw [Tryz.ntmps204]; simp only [u, i64, Nat.reduceSub, Nat.reduceAdd, bm]
            repeat (first | (refine gC ?_; first | refine aA ?_ | (refine cR hK ?_; refine sX ?_; try refine aA ?_)) | (refine cR hK ?_; refine sX ?_; try refine aA ?_) | refine gS ?_)
            (refine FinQ hQ (congrArg Array.toList Tryz.results204) _ _ ?_); simp (disch := omega) only [u, i64, ax, if_true, forall_const, reduceCtorEq, implies_true, tvs, bf]
          · rw [decF hr] at hK
            rw [decF (show ¬ okC p g r from fun h => hr h.2.2)]
            refine RetN_start Tryz.func204 (by kernel_rfl) rfl fun Q hQ hQ2 => ?_; rw [Tryz.ntmps204]; simp only [u, i64, Nat.reduceSub, Nat.reduceAdd, bm]
            repeat (first | (refine gC ?_; first | refine aA ?_ | (refine cR hK ?_; refine sX ?_; try refine aA ?_)) | (refine cR hK ?_; refine sX ?_; try refine aA ?_) | refine gS ?_)
            (refine FinQ hQ (congrArg Array.toList Tryz.results204) _ _ ?_); simp (disch := omega) only [u, i64, ax, if_true, forall_const, reduceCtorEq, implies_true, tvs, bf]
        · rw [decF (show ¬ okC p g r from fun h => hg2 h.2.1.2)]
          refine RetN_start Tryz.func204 (by kernel_rfl) rfl fun Q hQ hQ2 => ?_; rw [Tryz.ntmps204]; simp only [u, i64, Nat.reduceSub, Nat.reduceAdd, bm]
          (refine gO ?_)
          (refine FinQ hQ (congrArg Array.toList Tryz.results204) _ _ ?_); simp (disch := omega) only [u, i64, ax, if_true, forall_const, reduceCtorEq, implies_true, tvs, bf]
      · rw [decF (show ¬ okC p g r from fun h => hg1 h.2.1.1)]
        refine RetN_start Tryz.func204 (by kernel_rfl) rfl fun Q hQ hQ2 => ?_; rw [Tryz.ntmps204]; simp only [u, i64, Nat.reduceSub, Nat.reduceAdd, bm]
        (refine gO ?_)
        (refine FinQ hQ (congrArg Array.toList Tryz.results204) _ _ ?_); simp (disch := omega) only [u, i64, ax, if_true, forall_const, reduceCtorEq, implies_true, tvs, bf]
    · rw [decF (show ¬ okC p g r from fun h => hp2 h.1.2)]
      refine RetN_start Tryz.func204 (by kernel_rfl) rfl fun Q hQ hQ2 => ?_; rw [Tryz.ntmps204]; simp only [u, i64, Nat.reduceSub, Nat.reduceAdd, bm]
      (refine gO ?_)
      (refine FinQ hQ (congrArg Array.toList Tryz.results204) _ _ ?_); simp (disch := omega) only [u, i64, ax, if_true, forall_const, reduceCtorEq, implies_true, tvs, bf]
  · rw [decF (show ¬ okC p g r from fun h => hp1 h.1.1)]
    refine RetN_start Tryz.func204 (by kernel_rfl) rfl fun Q hQ hQ2 => ?_; rw [Tryz.ntmps204]; simp only [u, i64, Nat.reduceSub, Nat.reduceAdd, bm]
    (refine gO ?_)
    (refine FinQ hQ (congrArg Array.toList Tryz.results204) _ _ ?_); simp (disch := omega) only [u, i64, ax, if_true, forall_const, reduceCtorEq, implies_true, tvs, bf]
theorem ret_Good22 (k e : Int) (neg : Bool) (cs : List Nat) (hk1 : -9223372036854775808 ≤ k) (hk2 : k < 9223372036854775808) (he1 : -9223372036854775808 ≤ e) (he2 : e < 9223372036854775808) (hc : Wd cs) (hl : cs.length ≤ 100000) :
    Ret Tryz.prog GEs 55 [.agg [i64 k, .bool neg, ws cs, i64 e]] (.bool (decide (goodD k neg (val cs) e))) := by
  have hZ := ret_rIsZero cs hc (by omega)
  generalize val cs = v at *
  by_cases k0 : k = 0
  · subst k0
    have hg : goodD 0 neg v e ↔ (-1000000 ≤ e ∧ e ≤ 1000000) := by unfold goodD; omega
    by_cases h1 : -1000000 ≤ e
    · by_cases h2 : e ≤ 1000000
      · rw [decT (hg.2 ⟨h1, h2⟩)]
        refine RetN_start Tryz.func55 (by kernel_rfl) rfl fun Q hQ hQ2 => ?_; rw [Tryz.ntmps55]; simp only [u, i64, Nat.reduceSub, Nat.reduceAdd, bm]
        (refine gO ?_)
        (refine FinQ hQ (congrArg Array.toList Tryz.results55) _ _ ?_); simp (disch := omega) only [u, i64, ax, if_true, forall_const, reduceCtorEq, implies_true, tvs, bf]
      · rw [decF (show ¬ goodD 0 neg v e from fun h => h2 (hg.1 h).2)]
        refine RetN_start Tryz.func55 (by kernel_rfl) rfl fun Q hQ hQ2 => ?_; rw [Tryz.ntmps55]; simp only [u, i64, Nat.reduceSub, Nat.reduceAdd, bm]
        (refine gO ?_)
        (refine FinQ hQ (congrArg Array.toList Tryz.results55) _ _ ?_); simp (disch := omega) only [u, i64, ax, if_true, forall_const, reduceCtorEq, implies_true, tvs, bf]
    · rw [decF (show ¬ goodD 0 neg v e from fun h => h1 (hg.1 h).1)]
      refine RetN_start Tryz.func55 (by kernel_rfl) rfl fun Q hQ hQ2 => ?_; rw [Tryz.ntmps55]; simp only [u, i64, Nat.reduceSub, Nat.reduceAdd, bm]
      (refine gO ?_)
      (refine FinQ hQ (congrArg Array.toList Tryz.results55) _ _ ?_); simp (disch := omega) only [u, i64, ax, if_true, forall_const, reduceCtorEq, implies_true, tvs, bf]
  · by_cases k1 : k = 1
    · subst k1
      have hg : goodD 1 neg v e ↔ (e = 0 ∧ v = 0) := by unfold goodD; omega
      by_cases h1 : e = 0
      · rw [show decide (goodD 1 neg v e) = decide (v = 0) by rw [decide_eq_decide, hg]; exact ⟨fun h => h.2, fun h => ⟨h1, h⟩⟩]
        refine RetN_start Tryz.func55 (by kernel_rfl) rfl fun Q hQ hQ2 => ?_; rw [Tryz.ntmps55]; simp only [u, i64, Nat.reduceSub, Nat.reduceAdd, bm]
        repeat (first | (refine gC ?_; first | refine aA ?_ | (refine cR hZ ?_; refine sX ?_; try refine aA ?_)) | (refine cR hZ ?_; refine sX ?_; try refine aA ?_) | refine gS ?_)
        (refine FinQ hQ (congrArg Array.toList Tryz.results55) _ _ ?_); simp (disch := omega) only [u, i64, ax, if_true, forall_const, reduceCtorEq, implies_true, tvs, bf]
      · rw [decF (show ¬ goodD 1 neg v e from fun h => h1 (hg.1 h).1)]
        refine RetN_start Tryz.func55 (by kernel_rfl) rfl fun Q hQ hQ2 => ?_; rw [Tryz.ntmps55]; simp only [u, i64, Nat.reduceSub, Nat.reduceAdd, bm]
        (refine gO ?_)
        (refine FinQ hQ (congrArg Array.toList Tryz.results55) _ _ ?_); simp (disch := omega) only [u, i64, ax, if_true, forall_const, reduceCtorEq, implies_true, tvs, bf]
    · by_cases k2 : k = 2
      · subst k2
        have hg : goodD 2 neg v e ↔ (neg = false ∧ e = 0 ∧ v = 0) := by unfold goodD; simp
        cases neg with
        | true =>
          rw [decF (show ¬ goodD 2 true v e from fun h => by cases (hg.1 h).1)]
          refine RetN_start Tryz.func55 (by kernel_rfl) rfl fun Q hQ hQ2 => ?_; rw [Tryz.ntmps55]; simp only [u, i64, Nat.reduceSub, Nat.reduceAdd, bm]
          (refine gO ?_)
          (refine FinQ hQ (congrArg Array.toList Tryz.results55) _ _ ?_); simp (disch := omega) only [u, i64, ax, if_true, forall_const, reduceCtorEq, implies_true, tvs, bf]
        | false =>
          by_cases h1 : e = 0
          · rw [show decide (goodD 2 false v e) = decide (v = 0) by rw [decide_eq_decide, hg]; exact ⟨fun h => h.2.2, fun h => ⟨rfl, h1, h⟩⟩]
            refine RetN_start Tryz.func55 (by kernel_rfl) rfl fun Q hQ hQ2 => ?_; rw [Tryz.ntmps55]; simp only [u, i64, Nat.reduceSub, Nat.reduceAdd, bm]
            repeat (first | (refine gC ?_; first | refine aA ?_ | (refine cR hZ ?_; refine sX ?_; try refine aA ?_)) | (refine cR hZ ?_; refine sX ?_; try refine aA ?_) | refine gS ?_)
            (refine FinQ hQ (congrArg Array.toList Tryz.results55) _ _ ?_); simp (disch := omega) only [u, i64, ax, if_true, forall_const, reduceCtorEq, implies_true, tvs, bf]
          · rw [decF (show ¬ goodD 2 false v e from fun h => h1 (hg.1 h).2.1)]
            refine RetN_start Tryz.func55 (by kernel_rfl) rfl fun Q hQ hQ2 => ?_; rw [Tryz.ntmps55]; simp only [u, i64, Nat.reduceSub, Nat.reduceAdd, bm]
            (refine gO ?_)
            (refine FinQ hQ (congrArg Array.toList Tryz.results55) _ _ ?_); simp (disch := omega) only [u, i64, ax, if_true, forall_const, reduceCtorEq, implies_true, tvs, bf]
      · rw [decF (show ¬ goodD k neg v e by unfold goodD; omega)]
        refine RetN_start Tryz.func55 (by kernel_rfl) rfl fun Q hQ hQ2 => ?_; rw [Tryz.ntmps55]; simp only [u, i64, Nat.reduceSub, Nat.reduceAdd, bm]
        (refine gO ?_)
        (refine FinQ hQ (congrArg Array.toList Tryz.results55) _ _ ?_); simp (disch := omega) only [u, i64, ax, if_true, forall_const, reduceCtorEq, implies_true, tvs, bf]
theorem ret_Zero22 (k e : Int) (neg : Bool) (cs : List Nat) (hc : Wd cs) (hl : cs.length ≤ 100000) :
    Ret Tryz.prog GEs 67 [.agg [i64 k, .bool neg, ws cs, i64 e]] (.bool (decide (k = 0 ∧ val cs = 0))) := by
  have hZ := ret_rIsZero cs hc (by omega)
  generalize val cs = v at *
  by_cases k0 : k = 0
  · rw [show decide (k = 0 ∧ v = 0) = decide (v = 0) by rw [decide_eq_decide]; exact ⟨fun h => h.2, fun h => ⟨k0, h⟩⟩]
    refine RetN_start Tryz.func67 (by kernel_rfl) rfl fun Q hQ hQ2 => ?_; rw [Tryz.ntmps67]; simp only [u, i64, Nat.reduceSub, Nat.reduceAdd, bm]
    repeat (first | (refine gC ?_; first | refine aA ?_ | (refine cR hZ ?_; refine sX ?_; try refine aA ?_)) | (refine cR hZ ?_; refine sX ?_; try refine aA ?_) | refine gS ?_)
    (refine FinQ hQ (congrArg Array.toList Tryz.results67) _ _ ?_); simp (disch := omega) only [u, i64, ax, if_true, forall_const, reduceCtorEq, implies_true, tvs, bf]
  · rw [decF (show ¬ (k = 0 ∧ v = 0) from fun h => k0 h.1)]
    refine RetN_start Tryz.func67 (by kernel_rfl) rfl fun Q hQ hQ2 => ?_; rw [Tryz.ntmps67]; simp only [u, i64, Nat.reduceSub, Nat.reduceAdd, bm]
    (refine gO ?_)
    (refine FinQ hQ (congrArg Array.toList Tryz.results67) _ _ ?_); simp (disch := omega) only [u, i64, ax, if_true, forall_const, reduceCtorEq, implies_true, tvs, bf]
end Go.Proofs
set_option linter.unusedVariables false
set_option linter.unusedSimpArgs false
set_option maxRecDepth 100000
namespace Go.Proofs
open Go.Ax
set_option maxHeartbeats 1000000 in
theorem ret_In22 (p : Nat) (g r : Int) (hp : 1 ≤ p ∧ p ≤ 400) (hg : 1 ≤ g ∧ g ≤ 6000) (k e : Int) (neg : Bool) (cs : List Nat) (hk : 0 ≤ k ∧ k ≤ 2) (he : -3000000 ≤ e ∧ e ≤ 3000000) (hc : Wd cs) (hl : cs.length ≤ 2000) :
    Ret Tryz.prog GEs 129 [cx p g r, .agg [i64 k, .bool neg, ws cs, i64 e]] (.bool (decide (inD p g (mkD k neg (val cs) e)))) := by
  have hZ := ret_Zero22 k e neg cs hc (by omega)
  have hT := ret_Tiny22 p g r (by omega) hg
  have hD := fun h => ret_rDigitsW cs hc h (by omega)
  have hbn := bl_len (val cs)
  have hnl := length_words_val_le hc
  have hdb := dg_le_bl (val cs)
  have hT1 : -7000 ≤ 1 - g - ((p : Int) - 1) ∧ 1 - g - ((p : Int) - 1) ≤ 0 := by omega
  have hin : inD p g (mkD k neg (val cs) e) ↔ k ≠ 0 ∨ (val cs = 0 ∧ 1 - g - ((p : Int) - 1) ≤ e ∧ e ≤ g) ∨ (val cs ≠ 0 ∧ dg (val cs) ≤ p ∧ 1 - g - ((p : Int) - 1) ≤ e ∧ e + dg (val cs) - 1 ≤ g) := by
    unfold inD mkD
    simp only
    rw [show (k.toNat ≠ 0 ↔ k ≠ 0) by omega]
  unfold cx at *
  generalize val cs = c at *
  generalize 1 - g - ((p : Int) - 1) = T at *
  by_cases k0 : k = 0
  · by_cases c0 : c = 0
    · rw [decT (show k = 0 ∧ c = 0 from ⟨k0, c0⟩)] at hZ
      clear hD
      by_cases h1 : T ≤ e
      · by_cases h2 : e ≤ g
        · rw [decT (hin.2 (.inr (.inl ⟨c0, h1, h2⟩)))]
          clear hin
          refine RetN_start Tryz.func129 (by kernel_rfl) rfl fun Q hQ hQ2 => ?_; rw [Tryz.ntmps129]; simp only [u, i64, Nat.reduceSub, Nat.reduceAdd, bm]
          repeat (first | (refine gC ?_; first | refine aA ?_ | ((first | refine cR hZ ?_ | refine cR hT ?_); refine sX ?_; try refine aA ?_)) | ((first | refine cR hZ ?_ | refine cR hT ?_); refine sX ?_; try refine aA ?_) | refine gS ?_)
          (refine FinQ hQ (congrArg Array.toList Tryz.results129) _ _ ?_); simp (disch := omega) only [u, i64, ax, if_true, forall_const, reduceCtorEq, implies_true, tvs, bf]
        · rw [decF (fun h => by have := hin.1 h; omega)]
          clear hin
          refine RetN_start Tryz.func129 (by kernel_rfl) rfl fun Q hQ hQ2 => ?_; rw [Tryz.ntmps129]; simp only [u, i64, Nat.reduceSub, Nat.reduceAdd, bm]
          repeat (first | (refine gC ?_; first | refine aA ?_ | ((first | refine cR hZ ?_ | refine cR hT ?_); refine sX ?_; try refine aA ?_)) | ((first | refine cR hZ ?_ | refine cR hT ?_); refine sX ?_; try refine aA ?_) | refine gS ?_)
          (refine FinQ hQ (congrArg Array.toList Tryz.results129) _ _ ?_); simp (disch := omega) only [u, i64, ax, if_true, forall_const, reduceCtorEq, implies_true, tvs, bf]
      · rw [decF (fun h => by have := hin.1 h; omega)]
        clear hin
        refine RetN_start Tryz.func129 (by kernel_rfl) rfl fun Q hQ hQ2 => ?_; rw [Tryz.ntmps129]; simp only [u, i64, Nat.reduceSub, Nat.reduceAdd, bm]
        repeat (first | (refine gC ?_; first | refine aA ?_ | ((first | refine cR hZ ?_ | refine cR hT ?_); refine sX ?_; try refine aA ?_)) | ((first | refine cR hZ ?_ | refine cR hT ?_); refine sX ?_; try refine aA ?_) | refine gS ?_)
        (refine FinQ hQ (congrArg Array.toList Tryz.results129) _ _ ?_); simp (disch := omega) only [u, i64, ax, if_true, forall_const, reduceCtorEq, implies_true, tvs, bf]
    · rw [decF (show ¬ (k = 0 ∧ c = 0) from fun h => c0 h.2)] at hZ
      have hd1 := (dg_spec c c0).2.2
      have hD := hD c0
      by_cases h0 : dg c ≤ p
      · by_cases h1 : T ≤ e
        · by_cases h2 : e + dg c - 1 ≤ g
          · rw [decT (hin.2 (.inr (.inr ⟨c0, h0, h1, h2⟩)))]
            clear hin
            refine RetN_start Tryz.func129 (by kernel_rfl) rfl fun Q hQ hQ2 => ?_; rw [Tryz.ntmps129]; simp only [u, i64, Nat.reduceSub, Nat.reduceAdd, bm]
            repeat (first | (refine gC ?_; first | refine aA ?_ | ((first | refine cR hZ ?_ | refine cR hD ?_ | refine cR hT ?_); refine sX ?_; try refine aA ?_)) | ((first | refine cR hZ ?_ | refine cR hD ?_ | refine cR hT ?_); refine sX ?_; try refine aA ?_) | refine gS ?_)
            (refine FinQ hQ (congrArg Array.toList Tryz.results129) _ _ ?_); simp (disch := omega) only [u, i64, ax, if_true, forall_const, reduceCtorEq, implies_true, tvs, bf]
          · rw [decF (fun h => by have := hin.1 h; omega)]
            clear hin
            refine RetN_start Tryz.func129 (by kernel_rfl) rfl fun Q hQ hQ2 => ?_; rw [Tryz.ntmps129]; simp only [u, i64, Nat.reduceSub, Nat.reduceAdd, bm]
            repeat (first | (refine gC ?_; first | refine aA ?_ | ((first | refine cR hZ ?_ | refine cR hD ?_ | refine cR hT ?_); refine sX ?_; try refine aA ?_)) | ((first | refine cR hZ ?_ | refine cR hD ?_ | refine cR hT ?_); refine sX ?_; try refine aA ?_) | refine gS ?_)
            (refine FinQ hQ (congrArg Array.toList Tryz.results129) _ _ ?_); simp (disch := omega) only [u, i64, ax, if_true, forall_const, reduceCtorEq, implies_true, tvs, bf]
        · rw [decF (fun h => by have := hin.1 h; omega)]
          clear hin
          refine RetN_start Tryz.func129 (by kernel_rfl) rfl fun Q hQ hQ2 => ?_; rw [Tryz.ntmps129]; simp only [u, i64, Nat.reduceSub, Nat.reduceAdd, bm]
          repeat (first | (refine gC ?_; first | refine aA ?_ | ((first | refine cR hZ ?_ | refine cR hD ?_ | refine cR hT ?_); refine sX ?_; try refine aA ?_)) | ((first | refine cR hZ ?_ | refine cR hD ?_ | refine cR hT ?_); refine sX ?_; try refine aA ?_) | refine gS ?_)
          (refine FinQ hQ (congrArg Array.toList Tryz.results129) _ _ ?_); simp (disch := omega) only [u, i64, ax, if_true, forall_const, reduceCtorEq, implies_true, tvs, bf]
      · rw [decF (fun h => by have := hin.1 h; omega)]
        clear hin
        refine RetN_start Tryz.func129 (by kernel_rfl) rfl fun Q hQ hQ2 => ?_; rw [Tryz.ntmps129]; simp only [u, i64, Nat.reduceSub, Nat.reduceAdd, bm]
        repeat (first | (refine gC ?_; first | refine aA ?_ | ((first | refine cR hZ ?_ | refine cR hD ?_); refine sX ?_; try refine aA ?_)) | ((first | refine cR hZ ?_ | refine cR hD ?_); refine sX ?_; try refine aA ?_) | refine gS ?_)
        (refine FinQ hQ (congrArg Array.toList Tryz.results129) _ _ ?_); simp (disch := omega) only [u, i64, ax, if_true, forall_const, reduceCtorEq, implies_true, tvs, bf]
  · rw [decT (hin.2 (.inl k0))]
    clear hin hD
    refine RetN_start Tryz.func129 (by kernel_rfl) rfl fun Q hQ hQ2 => ?_; rw [Tryz.ntmps129]; simp only [u, i64, Nat.reduceSub, Nat.reduceAdd, bm]
    (refine gO ?_)
    (refine FinQ hQ (congrArg Array.toList Tryz.results129) _ _ ?_); simp (disch := omega) only [u, i64, ax, if_true, forall_const, reduceCtorEq, implies_true, tvs, bf]
theorem ret_Canonical22 (k e : Int) (neg : Bool) (cs : List Nat) (hc : Wd cs) (hl : cs.length ≤ 100000) :
    Ret Tryz.prog GEs 133 [.agg [i64 k, .bool neg, ws cs, i64 e]] (.agg [i64 k, .bool neg, nat (val cs), i64 e]) := by
  have hT := ret_rTrim cs hc (by omega)
  refine RetN_start Tryz.func133 (by kernel_rfl) rfl fun Q hQ hQ2 => ?_; rw [Tryz.ntmps133]; simp only [u, i64, Nat.reduceSub, Nat.reduceAdd, bm]
  repeat (first | (refine gC ?_; first | refine aA ?_ | (refine cR hT ?_; refine sX ?_; try refine aA ?_)) | (refine cR hT ?_; refine sX ?_; try refine aA ?_) | refine gS ?_)
  (refine FinQ hQ (congrArg Array.toList Tryz.results133) _ _ ?_); simp (disch := omega) only [u, i64, ax, if_true, forall_const, reduceCtorEq, implies_true, tvs, bf]
theorem ret_NoneD (k e : Int) (neg : Bool) (cs : List Nat) (hl : cs.length ≤ 100000) : Ret Tryz.prog GEs 123 [.agg [i64 k, .bool neg, ws cs, i64 e]] (.bool (decide (k = 0 ∧ neg = false ∧ e = 0 ∧ cs.length = 0))) := by
  by_cases h1 : k = 0
  · cases neg with
    | true =>
      rw [decF (fun h => by cases h.2.1)]
      refine RetN_start Tryz.func123 (by kernel_rfl) rfl fun Q hQ hQ2 => ?_; rw [Tryz.ntmps123]; simp only [u, i64, Nat.reduceSub, Nat.reduceAdd, bm]
      (refine gO ?_)
      (refine FinQ hQ (congrArg Array.toList Tryz.results123) _ _ ?_); simp (disch := omega) only [u, i64, ax, if_true, forall_const, reduceCtorEq, implies_true, tvs, bf]
    | false =>
      by_cases h2 : e = 0
      · by_cases h3 : cs.length = 0
        · rw [decT ⟨h1, rfl, h2, h3⟩]
          refine RetN_start Tryz.func123 (by kernel_rfl) rfl fun Q hQ hQ2 => ?_; rw [Tryz.ntmps123]; simp only [u, i64, Nat.reduceSub, Nat.reduceAdd, bm]
          (refine gO ?_)
          (refine FinQ hQ (congrArg Array.toList Tryz.results123) _ _ ?_); simp (disch := omega) only [u, i64, ax, if_true, forall_const, reduceCtorEq, implies_true, tvs, bf]
        · rw [decF (fun h => h3 h.2.2.2)]
          refine RetN_start Tryz.func123 (by kernel_rfl) rfl fun Q hQ hQ2 => ?_; rw [Tryz.ntmps123]; simp only [u, i64, Nat.reduceSub, Nat.reduceAdd, bm]
          (refine gO ?_)
          (refine FinQ hQ (congrArg Array.toList Tryz.results123) _ _ ?_); simp (disch := omega) only [u, i64, ax, if_true, forall_const, reduceCtorEq, implies_true, tvs, bf]
      · rw [decF (fun h => h2 h.2.2.1)]
        refine RetN_start Tryz.func123 (by kernel_rfl) rfl fun Q hQ hQ2 => ?_; rw [Tryz.ntmps123]; simp only [u, i64, Nat.reduceSub, Nat.reduceAdd, bm]
        (refine gO ?_)
        (refine FinQ hQ (congrArg Array.toList Tryz.results123) _ _ ?_); simp (disch := omega) only [u, i64, ax, if_true, forall_const, reduceCtorEq, implies_true, tvs, bf]
  · rw [decF (fun h => h1 h.1)]
    refine RetN_start Tryz.func123 (by kernel_rfl) rfl fun Q hQ hQ2 => ?_; rw [Tryz.ntmps123]; simp only [u, i64, Nat.reduceSub, Nat.reduceAdd, bm]
    (refine gO ?_)
    (refine FinQ hQ (congrArg Array.toList Tryz.results123) _ _ ?_); simp (disch := omega) only [u, i64, ax, if_true, forall_const, reduceCtorEq, implies_true, tvs, bf]
end Go.Proofs
