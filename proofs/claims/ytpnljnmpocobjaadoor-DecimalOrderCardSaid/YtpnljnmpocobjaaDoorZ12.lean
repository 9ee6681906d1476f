/-
  Contracts of functions of the program, each proved by a walk.
-/
import Derived.Test.YtpnljnmpocobjaaDoorZ11
import Derived.Test.YtpnljnmpocobjaaDoorZ8
set_option maxRecDepth 100000
set_option linter.unusedVariables false
set_option linter.unusedSimpArgs false
namespace Go.Proofs
open Go.Ax
theorem and1I (a : Nat) (h : a < 9223372036854775808) : Go.Ax.bits .and .i64 (a : Int) 1 = ((a % 2 : Nat) : Int) := by
  show IntKind.i64.wrap ((BitVec.ofInt 64 (a : Int) &&& BitVec.ofInt 64 1).toNat : Int) = _
  rw [BitVec.toNat_and, toNatU a (by omega), show (BitVec.ofInt 64 1).toNat = 1 from rfl, Nat.and_one_is_mod]
  exact wrapI _ (by omega) (by omega)
theorem words5 : nat 5 = .lst 1 [.int .u64 5] := by
  unfold nat
  rw [show words 5 = [5] by decide +kernel]
  rfl
theorem words1 : nat 1 = .lst 1 [.int .u64 1] := by
  unfold nat
  rw [show words 1 = [1] by decide +kernel]
  rfl
theorem lenLe {a b : Nat} (h : a ≤ b) {n : Nat} (hl : (words b).length ≤ n) : (words a).length ≤ n := Nat.le_trans (length_mono h) hl
set_option maxRecDepth 100000 in
set_option maxHeartbeats 1000000 in
theorem ret_Pow (b k L : Nat) (hb : b ≠ 0) (hk : k ≤ 4000000) (h1 : (words b).length ≤ L) (h2 : (words (b ^ k)).length ≤ L) (hL : L ≤ 1000000) : Ret Tryd.prog GEs 169 [nat b, i64 k] (nat (b ^ k)) := by
  refine RetN_start Tryd.func169 (by kernel_rfl) rfl fun Q hQ hQ2 => ?_; rw [Tryd.ntmps169]; simp only [u, i64, Nat.reduceSub, Nat.reduceAdd, bm]
  repeat (first | ((first | refine Gs ?_ | refine Gr ?_); simp (disch := omega) only [u, i64, ax, eq_self, if_true, if_false, Nat.reduceAdd, Int.reduceToNat, Int.reduceAdd, tvs, bs]; refine aA ?_) | refine G_seq ?_ | refine G_block ?_ | refine G_condT rfl ?_ | refine G_condF rfl ?_ | refine G_skip ?_ | refine G_ret ?_ | refine G_exit ?_ | refine q_tn ?_ | refine q_tr ?_ | refine q_tx ?_ | refine q_bn ?_ | refine q_br ?_ | refine q_bx ?_ | refine q_by (by decide) ?_)
  refine AWp_loop (fun i : Nat × Nat × Nat => mk 25 [(1, i64 i.1), (4, .emp), (5, nat i.2.1), (6, nat i.2.2)] []) (fun i => i.1 ≤ k ∧ i.2.1 * i.2.2 ^ i.1 = b ^ k ∧ i.2.2 ≠ 0 ∧ (words i.2.2).length ≤ L) (fun i => i.1) (k, 1, b) ?_ ⟨Nat.le_refl _, Nat.one_mul _, hb, h1⟩ ?_
  · rw [words1]
    simp only [u, i64, Nat.reduceSub, Nat.reduceAdd, bm]
  rintro ⟨j, o, x⟩ ⟨i1, i2, i3, i4⟩
  simp only at i1 i2 i3 i4
  simp only [u, i64, Nat.reduceSub, Nat.reduceAdd, bm]
  have hpos : 0 < b ^ k := Nat.pow_pos (Nat.pos_of_ne_zero hb)
  have ho : o ≠ 0 := fun h => by rw [h, Nat.zero_mul] at i2; omega
  have hxj : x ^ j ≤ b ^ k := by rw [← i2]; exact Nat.le_mul_of_pos_left _ (Nat.pos_of_ne_zero ho)
  have hol : (words o).length ≤ L := lenLe (by rw [← i2]; exact Nat.le_mul_of_pos_right _ (Nat.pow_pos (Nat.pos_of_ne_zero i3))) h2
  by_cases hj : 0 < j
  · have hd := Nat.div_add_mod j 2
    have hM1 := ret_Mul (words o) (words x) (Wd_words _) (Wd_words _) (by omega) (by omega)
    have hM2 := ret_Mul (words x) (words x) (Wd_words _) (Wd_words _) (by omega) (by omega)
    rw [val_words, val_words] at hM1
    rw [val_words] at hM2
    have hand := and1I j (by omega)
    have hx2 : 1 < j → x * x ≤ b ^ k := fun h => by
      refine Nat.le_trans ?_ hxj
      rw [← Nat.pow_two]
      exact Nat.pow_le_pow_right (Nat.pos_of_ne_zero i3) h
    have hsh : j / 2 ^ min 1 IntKind.i64.bits = j / 2 := rfl
    by_cases c1 : j % 2 = 1
    · have e1 : ((j % 2 : Nat) : Int) = 1 := by omega
      rw [e1] at hand
      by_cases c2 : 1 < j
      · have hpw : o * x * (x * x) ^ (j / 2) = b ^ k := by
          rw [← i2, ← Nat.pow_two, ← Nat.pow_mul, Nat.mul_assoc, ← Nat.pow_succ']
          congr 2
          omega
        repeat (first | ((first | refine Gs ?_ | refine Gr ?_); simp (disch := omega) only [u, i64, ax, eq_self, if_true, if_false, Nat.reduceAdd, Int.reduceToNat, Int.reduceAdd, tvs, bs]; refine aA ?_) | refine G_seq ?_ | refine G_block ?_ | refine G_condT rfl ?_ | refine G_condF rfl ?_ | refine G_skip ?_ | refine G_ret ?_ | refine G_exit ?_ | refine q_tn ?_ | refine q_tr ?_ | refine q_tx ?_ | refine q_bn ?_ | refine q_br ?_ | refine q_bx ?_ | refine q_by (by decide) ?_)
        ((first | refine Gs ?_ | refine Gr ?_); simp (disch := omega) only [u, i64, ax, eq_self, if_true, if_false, Nat.reduceAdd, Int.reduceToNat, Int.reduceAdd, tvs, bs])
        rw [hand]
        repeat (first | ((first | refine Gs ?_ | refine Gr ?_); simp (disch := omega) only [u, i64, ax, eq_self, if_true, if_false, Nat.reduceAdd, Int.reduceToNat, Int.reduceAdd, tvs, bs]; first | refine aA ?_ | ((first | refine cR hM1 ?_ | refine cR hM2 ?_); simp (disch := omega) only [u, i64, ax, eq_self, if_true, if_false, Nat.reduceAdd, Int.reduceToNat, Int.reduceAdd, tvs, bs]; try refine aA ?_)) | ((first | refine cR hM1 ?_ | refine cR hM2 ?_); simp (disch := omega) only [u, i64, ax, eq_self, if_true, if_false, Nat.reduceAdd, Int.reduceToNat, Int.reduceAdd, tvs, bs]; try refine aA ?_) | refine G_seq ?_ | refine G_block ?_ | refine G_condT rfl ?_ | refine G_condF rfl ?_ | refine G_skip ?_ | refine G_ret ?_ | refine G_exit ?_ | refine q_tn ?_ | refine q_tr ?_ | refine q_tx ?_ | refine q_bn ?_ | refine q_br ?_ | refine q_bx ?_ | refine q_by (by decide) ?_)
        refine ⟨(j / 2, o * x, x * x), ?_, ⟨by simp only; omega, hpw, Nat.mul_ne_zero i3 i3, lenLe (hx2 c2) h2⟩, by simp only; omega⟩
        rw [hsh]
        simp only [u, i64, Nat.reduceSub, Nat.reduceAdd, bm]
      · have hpw : o * x * x ^ (j / 2) = b ^ k := by
          rw [← i2, show j = 1 by omega, Nat.pow_one, show 1 / 2 = 0 from rfl, Nat.pow_zero, Nat.mul_one]
        repeat (first | ((first | refine Gs ?_ | refine Gr ?_); simp (disch := omega) only [u, i64, ax, eq_self, if_true, if_false, Nat.reduceAdd, Int.reduceToNat, Int.reduceAdd, tvs, bs]; refine aA ?_) | refine G_seq ?_ | refine G_block ?_ | refine G_condT rfl ?_ | refine G_condF rfl ?_ | refine G_skip ?_ | refine G_ret ?_ | refine G_exit ?_ | refine q_tn ?_ | refine q_tr ?_ | refine q_tx ?_ | refine q_bn ?_ | refine q_br ?_ | refine q_bx ?_ | refine q_by (by decide) ?_)
        ((first | refine Gs ?_ | refine Gr ?_); simp (disch := omega) only [u, i64, ax, eq_self, if_true, if_false, Nat.reduceAdd, Int.reduceToNat, Int.reduceAdd, tvs, bs])
        rw [hand]
        repeat (first | ((first | refine Gs ?_ | refine Gr ?_); simp (disch := omega) only [u, i64, ax, eq_self, if_true, if_false, Nat.reduceAdd, Int.reduceToNat, Int.reduceAdd, tvs, bs]; first | refine aA ?_ | (refine cR hM1 ?_; simp (disch := omega) only [u, i64, ax, eq_self, if_true, if_false, Nat.reduceAdd, Int.reduceToNat, Int.reduceAdd, tvs, bs]; try refine aA ?_)) | (refine cR hM1 ?_; simp (disch := omega) only [u, i64, ax, eq_self, if_true, if_false, Nat.reduceAdd, Int.reduceToNat, Int.reduceAdd, tvs, bs]; try refine aA ?_) | refine G_seq ?_ | refine G_block ?_ | refine G_condT rfl ?_ | refine G_condF rfl ?_ | refine G_skip ?_ | refine G_ret ?_ | refine G_exit ?_ | refine q_tn ?_ | refine q_tr ?_ | refine q_tx ?_ | refine q_bn ?_ | refine q_br ?_ | refine q_bx ?_ | refine q_by (by decide) ?_)
        refine ⟨(j / 2, o * x, x), ?_, ⟨by simp only; omega, hpw, i3, i4⟩, by simp only; omega⟩
        rw [hsh]
        simp only [u, i64, Nat.reduceSub, Nat.reduceAdd, bm]
    · have e1 : ((j % 2 : Nat) : Int) = 0 := by omega
      rw [e1] at hand
      have hpw : o * (x * x) ^ (j / 2) = b ^ k := by
        rw [← i2, ← Nat.pow_two, ← Nat.pow_mul]
        congr 2
        omega
      repeat (first | ((first | refine Gs ?_ | refine Gr ?_); simp (disch := omega) only [u, i64, ax, eq_self, if_true, if_false, Nat.reduceAdd, Int.reduceToNat, Int.reduceAdd, tvs, bs]; refine aA ?_) | refine G_seq ?_ | refine G_block ?_ | refine G_condT rfl ?_ | refine G_condF rfl ?_ | refine G_skip ?_ | refine G_ret ?_ | refine G_exit ?_ | refine q_tn ?_ | refine q_tr ?_ | refine q_tx ?_ | refine q_bn ?_ | refine q_br ?_ | refine q_bx ?_ | refine q_by (by decide) ?_)
      ((first | refine Gs ?_ | refine Gr ?_); simp (disch := omega) only [u, i64, ax, eq_self, if_true, if_false, Nat.reduceAdd, Int.reduceToNat, Int.reduceAdd, tvs, bs])
      rw [hand]
      repeat (first | ((first | refine Gs ?_ | refine Gr ?_); simp (disch := omega) only [u, i64, ax, eq_self, if_true, if_false, Nat.reduceAdd, Int.reduceToNat, Int.reduceAdd, tvs, bs]; first | refine aA ?_ | (refine cR hM2 ?_; simp (disch := omega) only [u, i64, ax, eq_self, if_true, if_false, Nat.reduceAdd, Int.reduceToNat, Int.reduceAdd, tvs, bs]; try refine aA ?_)) | (refine cR hM2 ?_; simp (disch := omega) only [u, i64, ax, eq_self, if_true, if_false, Nat.reduceAdd, Int.reduceToNat, Int.reduceAdd, tvs, bs]; try refine aA ?_) | refine G_seq ?_ | refine G_block ?_ | refine G_condT rfl ?_ | refine G_condF rfl ?_ | refine G_skip ?_ | refine G_ret ?_ | refine G_exit ?_ | refine q_tn ?_ | refine q_tr ?_ | refine q_tx ?_ | refine q_bn ?_ | refine q_br ?_ | refine q_bx ?_ | refine q_by (by decide) ?_)
      refine ⟨(j / 2, o, x * x), ?_, ⟨by simp only; omega, hpw, Nat.mul_ne_zero i3 i3, lenLe (hx2 (by omega)) h2⟩, by simp only; omega⟩
      rw [hsh]
      simp only [u, i64, Nat.reduceSub, Nat.reduceAdd, bm]
  · have h0 : j = 0 := by omega
    subst h0
    rw [Nat.pow_zero, Nat.mul_one] at i2
    rw [← i2] at hQ
    repeat (first | ((first | refine Gs ?_ | refine Gr ?_); simp (disch := omega) only [u, i64, ax, eq_self, if_true, if_false, Nat.reduceAdd, Int.reduceToNat, Int.reduceAdd, tvs, bs]; refine aA ?_) | refine G_seq ?_ | refine G_block ?_ | refine G_condT rfl ?_ | refine G_condF rfl ?_ | refine G_skip ?_ | refine G_ret ?_ | refine G_exit ?_ | refine q_tn ?_ | refine q_tr ?_ | refine q_tx ?_ | refine q_bn ?_ | refine q_br ?_ | refine q_bx ?_ | refine q_by (by decide) ?_)
    (refine FinQ hQ (congrArg Array.toList Tryd.results169) _ _ ?_); simp (disch := omega) only [u, i64, ax, if_true, forall_const, reduceCtorEq, implies_true, tvs, bf]
theorem pow5_len {k : Nat} (hk : k ≤ 1000000) : (words (5 ^ k)).length ≤ 50000 := le_pow_words (five_le k) (by omega)
theorem ten_len {k : Nat} (hk : k ≤ 1000000) : (words (10 ^ k)).length ≤ 63000 := le_pow_words (ten_le k) (by omega)
theorem ret_Ten (k : Nat) (hk : k ≤ 1000000) : Ret Tryd.prog GEs 127 [i64 k] (nat (10 ^ k)) := by
  have h5 : (words 5).length ≤ 50000 := Nat.le_trans (length_le (k := 1) (by decide)) (by decide)
  have hP := ret_Pow 5 k 50000 (by decide) (by omega) h5 (pow5_len hk) (by decide)
  rw [words5] at hP
  have hl := pow5_len hk
  have hS := ret_Shl (words (5 ^ k)) k (Wd_words _) (by omega) (by omega)
  rw [val_words, ten_eq] at hS
  refine RetN_start Tryd.func127 (by kernel_rfl) rfl fun Q hQ hQ2 => ?_; rw [Tryd.ntmps127]; simp only [u, i64, Nat.reduceSub, Nat.reduceAdd, bm]
  repeat (first | ((first | refine Gs ?_ | refine Gr ?_); simp (disch := omega) only [u, i64, ax, eq_self, if_true, if_false, Nat.reduceAdd, Int.reduceToNat, Int.reduceAdd, tvs, bs]; first | refine aA ?_ | ((first | refine cR hP ?_ | refine cR hS ?_); simp (disch := omega) only [u, i64, ax, eq_self, if_true, if_false, Nat.reduceAdd, Int.reduceToNat, Int.reduceAdd, tvs, bs]; try refine aA ?_)) | ((first | refine cR hP ?_ | refine cR hS ?_); simp (disch := omega) only [u, i64, ax, eq_self, if_true, if_false, Nat.reduceAdd, Int.reduceToNat, Int.reduceAdd, tvs, bs]; try refine aA ?_) | refine G_seq ?_ | refine G_block ?_ | refine G_condT rfl ?_ | refine G_condF rfl ?_ | refine G_skip ?_ | refine G_ret ?_ | refine G_exit ?_ | refine q_tn ?_ | refine q_tr ?_ | refine q_tx ?_ | refine q_bn ?_ | refine q_br ?_ | refine q_bx ?_ | refine q_by (by decide) ?_)
  (refine FinQ hQ (congrArg Array.toList Tryd.results127) _ _ ?_); simp (disch := omega) only [u, i64, ax, if_true, forall_const, reduceCtorEq, implies_true, tvs, bf]
theorem cmpI_sign (a b : Nat) : (0 ≤ cmpI a b ↔ b ≤ a) ∧ (cmpI a b < 0 ↔ a < b) ∧ (cmpI a b = 0 ↔ a = b) ∧ (0 < cmpI a b ↔ b < a) := by
  unfold cmpI; split <;> (try split) <;> omega
set_option maxRecDepth 100000 in
/-- How many decimal digits. -/
theorem ret_WDigits (n : Nat) (hl : (words n).length ≤ 10000) : Ret Tryd.prog GEs 165 [nat n] (i64 (dg n)) := by
  have hZ := ret_Zero (words n) (Wd_words _) (by omega)
  have hL := ret_Len (words n) (Wd_words _) (by omega)
  rw [val_words] at hZ hL
  have hb := bl_len n
  by_cases h0 : n = 0
  · rw [decT h0] at hZ
    subst h0
    rw [dg_zero]
    refine RetN_start Tryd.func165 (by kernel_rfl) rfl fun Q hQ hQ2 => ?_; rw [Tryd.ntmps165]; simp only [u, i64, Nat.reduceSub, Nat.reduceAdd, bm]
    repeat (first | ((first | refine Gs ?_ | refine Gr ?_); simp (disch := omega) only [u, i64, ax, eq_self, if_true, if_false, Nat.reduceAdd, Int.reduceToNat, Int.reduceAdd, tvs, bs]; first | refine aA ?_ | (refine cR hZ ?_; simp (disch := omega) only [u, i64, ax, eq_self, if_true, if_false, Nat.reduceAdd, Int.reduceToNat, Int.reduceAdd, tvs, bs]; try refine aA ?_)) | (refine cR hZ ?_; simp (disch := omega) only [u, i64, ax, eq_self, if_true, if_false, Nat.reduceAdd, Int.reduceToNat, Int.reduceAdd, tvs, bs]; try refine aA ?_) | refine G_seq ?_ | refine G_block ?_ | refine G_condT rfl ?_ | refine G_condF rfl ?_ | refine G_skip ?_ | refine G_ret ?_ | refine G_exit ?_ | refine q_tn ?_ | refine q_tr ?_ | refine q_tx ?_ | refine q_bn ?_ | refine q_br ?_ | refine q_bx ?_ | refine q_by (by decide) ?_)
    (refine FinQ hQ (congrArg Array.toList Tryd.results165) _ _ ?_); simp (disch := omega) only [u, i64, ax, if_true, forall_const, reduceCtorEq, implies_true, tvs, bf]
    all_goals rfl
  · rw [decF h0] at hZ
    have hg := dg_guess n h0 (by omega)
    have hdb := dg_le_bl n
    have hb1 := (bl_spec h0).2.2
    have hT := fun j (hj : j ≤ dg n) => ret_Ten j (by omega)
    have hC := fun j (hj : j ≤ dg n) => ret_Cmp (words n) (words (10 ^ j)) (Wd_words _) (Wd_words _) (by omega) (by have := ten_len (k := j) (by omega); omega)
    simp only [val_words] at hC
    refine RetN_start Tryd.func165 (by kernel_rfl) rfl fun Q hQ hQ2 => ?_; rw [Tryd.ntmps165]; simp only [u, i64, Nat.reduceSub, Nat.reduceAdd, bm]
    repeat (first | ((first | refine Gs ?_ | refine Gr ?_); simp (disch := omega) only [u, i64, ax, eq_self, if_true, if_false, Nat.reduceAdd, Int.reduceToNat, Int.reduceAdd, tvs, bs]; first | refine aA ?_ | ((first | refine cR hZ ?_ | refine cR hL ?_); simp (disch := omega) only [u, i64, ax, eq_self, if_true, if_false, Nat.reduceAdd, Int.reduceToNat, Int.reduceAdd, tvs, bs]; try refine aA ?_)) | ((first | refine cR hZ ?_ | refine cR hL ?_); simp (disch := omega) only [u, i64, ax, eq_self, if_true, if_false, Nat.reduceAdd, Int.reduceToNat, Int.reduceAdd, tvs, bs]; try refine aA ?_) | refine G_seq ?_ | refine G_block ?_ | refine G_condT rfl ?_ | refine G_condF rfl ?_ | refine G_skip ?_ | refine G_ret ?_ | refine G_exit ?_ | refine q_tn ?_ | refine q_tr ?_ | refine q_tx ?_ | refine q_bn ?_ | refine q_br ?_ | refine q_bx ?_ | refine q_by (by decide) ?_)
    refine AWp_loop (fun j : Nat => mk 19 [(0, nat n), (2, i64 0), (3, i64 j)] []) (fun j => j ≤ dg n) (fun j => dg n - j) ((bl n - 1) * 30103 / 100000) ?_ hg ?_
    · simp only [u, i64, Nat.reduceSub, Nat.reduceAdd, bm]
    intro j hj
    simp only [u, i64, Nat.reduceSub, Nat.reduceAdd, bm]
    have hs := cmpI_sign n (10 ^ j)
    have hT := hT j hj
    have hC := hC j hj
    by_cases hc : 10 ^ j ≤ n
    · have h1 := hs.1.2 hc
      have h2 := dg_ge hc
      generalize cmpI n (10 ^ j) = c at *
      repeat (first | ((first | refine Gs ?_ | refine Gr ?_); simp (disch := omega) only [u, i64, ax, eq_self, if_true, if_false, Nat.reduceAdd, Int.reduceToNat, Int.reduceAdd, tvs, bs]; first | refine aA ?_ | ((first | refine cR hT ?_ | refine cR hC ?_); simp (disch := omega) only [u, i64, ax, eq_self, if_true, if_false, Nat.reduceAdd, Int.reduceToNat, Int.reduceAdd, tvs, bs]; try refine aA ?_)) | ((first | refine cR hT ?_ | refine cR hC ?_); simp (disch := omega) only [u, i64, ax, eq_self, if_true, if_false, Nat.reduceAdd, Int.reduceToNat, Int.reduceAdd, tvs, bs]; try refine aA ?_) | refine G_seq ?_ | refine G_block ?_ | refine G_condT rfl ?_ | refine G_condF rfl ?_ | refine G_skip ?_ | refine G_ret ?_ | refine G_exit ?_ | refine q_tn ?_ | refine q_tr ?_ | refine q_tx ?_ | refine q_bn ?_ | refine q_br ?_ | refine q_bx ?_ | refine q_by (by decide) ?_)
      refine ⟨j + 1, ?_, h2, by omega⟩
      simp only [u, i64, Nat.reduceSub, Nat.reduceAdd, bm]
    · have h1 := hs.2.1.2 (by omega)
      have h2 := dg_le (n := n) (k := j) (by omega)
      obtain rfl : j = dg n := by omega
      generalize cmpI n (10 ^ dg n) = c at *
      repeat (first | ((first | refine Gs ?_ | refine Gr ?_); simp (disch := omega) only [u, i64, ax, eq_self, if_true, if_false, Nat.reduceAdd, Int.reduceToNat, Int.reduceAdd, tvs, bs]; first | refine aA ?_ | ((first | refine cR hT ?_ | refine cR hC ?_); simp (disch := omega) only [u, i64, ax, eq_self, if_true, if_false, Nat.reduceAdd, Int.reduceToNat, Int.reduceAdd, tvs, bs]; try refine aA ?_)) | ((first | refine cR hT ?_ | refine cR hC ?_); simp (disch := omega) only [u, i64, ax, eq_self, if_true, if_false, Nat.reduceAdd, Int.reduceToNat, Int.reduceAdd, tvs, bs]; try refine aA ?_) | refine G_seq ?_ | refine G_block ?_ | refine G_condT rfl ?_ | refine G_condF rfl ?_ | refine G_skip ?_ | refine G_ret ?_ | refine G_exit ?_ | refine q_tn ?_ | refine q_tr ?_ | refine q_tx ?_ | refine q_bn ?_ | refine q_br ?_ | refine q_bx ?_ | refine q_by (by decide) ?_)
      (refine FinQ hQ (congrArg Array.toList Tryd.results165) _ _ ?_); simp (disch := omega) only [u, i64, ax, if_true, forall_const, reduceCtorEq, implies_true, tvs, bf]
theorem tz_dvd {n k : Nat} (h : n ≠ 0) (hm : n % 2 ^ k = 0) : k ≤ tz n := by
  obtain ⟨m, hm'⟩ := tz_spec h
  rcases Nat.lt_or_ge (tz n) k with hlt | hge
  · exfalso
    obtain ⟨c, hc⟩ := Nat.dvd_of_mod_eq_zero hm
    obtain ⟨j, rfl⟩ : ∃ j, k = tz n + (j + 1) := ⟨k - tz n - 1, by omega⟩
    rw [Nat.pow_add, Nat.mul_assoc] at hc
    generalize tz n = t at *
    have := Nat.eq_of_mul_eq_mul_left (Nat.two_pow_pos t) (hm'.symm.trans hc)
    rw [Nat.pow_succ, Nat.mul_assoc, Nat.mul_left_comm] at this
    omega
  · exact hge
set_option maxRecDepth 100000 in
set_option maxHeartbeats 1000000 in
/-- A number without the zeros at its end. -/
theorem ret_Strip (xs : List Nat) (hx : Wd xs) (hl : xs.length ≤ 5000) (h0 : val xs ≠ 0) : Ret Tryd.prog GEs 115 [ws xs] (.tup [nat (sm (val xs)), i64 (st (val xs))]) := by
  have hT := ret_Trim xs hx (by omega)
  have hnl := length_words_val_le hx
  generalize val xs = n at *
  have hl0 : 0 < (words n).length := List.length_pos_iff.2 fun h => h0 (words_eq_nil.1 h)
  have hbn := bl_len n
  refine RetN_start Tryd.func115 (by kernel_rfl) rfl fun Q hQ hQ2 => ?_; rw [Tryd.ntmps115]; simp only [u, i64, Nat.reduceSub, Nat.reduceAdd, bm]
  repeat (first | ((first | refine Gs ?_ | refine Gr ?_); simp (disch := omega) only [u, i64, ax, eq_self, if_true, if_false, Nat.reduceAdd, Int.reduceToNat, Int.reduceAdd, tvs, bs]; first | refine aA ?_ | (refine cR hT ?_; simp (disch := omega) only [u, i64, ax, eq_self, if_true, if_false, Nat.reduceAdd, Int.reduceToNat, Int.reduceAdd, tvs, bs]; try refine aA ?_)) | (refine cR hT ?_; simp (disch := omega) only [u, i64, ax, eq_self, if_true, if_false, Nat.reduceAdd, Int.reduceToNat, Int.reduceAdd, tvs, bs]; try refine aA ?_) | refine G_seq ?_ | refine G_block ?_ | refine G_condT rfl ?_ | refine G_condF rfl ?_ | refine G_skip ?_ | refine G_ret ?_ | refine G_exit ?_ | refine q_tn ?_ | refine q_tr ?_ | refine q_tx ?_ | refine q_bn ?_ | refine q_br ?_ | refine q_bx ?_ | refine q_by (by decide) ?_)
  refine AWp_loop (fun i : Nat × Nat × Nat => mk 44 [(0, nat i.1), (2, .emp), (3, i64 0), (4, i64 i.2.1), (5, i64 i.2.2)] []) (fun i => i.1 * 10 ^ i.2.1 = n ∧ 1 ≤ i.2.2 ∧ i.2.2 ≤ 1000000 ∧ i.2.1 ≤ 1000000) (fun i => 2 * dg i.1 + i.2.2) (n, 0, 1) ?_ ⟨by simp, by simp, by simp, by simp⟩ ?_
  · simp only [u, i64, Nat.reduceSub, Nat.reduceAdd, bm]
  rintro ⟨x, k, s⟩ ⟨i1, i2, i3, i4⟩
  simp only at i1 i2 i3 i4
  simp only [u, i64, Nat.reduceSub, Nat.reduceAdd, bm]
  have hx0 : x ≠ 0 := fun h => by rw [h, Nat.zero_mul] at i1; exact h0 i1.symm
  have hxn : x ≤ n := by rw [← i1]; exact Nat.le_mul_of_pos_right _ (ten_pos k)
  have hxl := length_mono hxn
  have hTr := ret_Trailing (words x) (Wd_words _) (by omega)
  rw [val_words] at hTr
  have hbx := bl_len x
  have htb := tz_le_bl x
  by_cases c1 : tz x < s
  · by_cases c2 : s = 1
    · subst c2
      have hxm : x % 10 ≠ 0 := fun h => by
        have := tz_dvd (k := 1) hx0 (by omega)
        omega
      obtain ⟨e1, e2⟩ := strip_done i1 hxm
      rw [e1, e2] at hQ
      repeat (first | ((first | refine Gs ?_ | refine Gr ?_); simp (disch := omega) only [u, i64, ax, eq_self, if_true, if_false, Nat.reduceAdd, Int.reduceToNat, Int.reduceAdd, tvs, bs]; first | refine aA ?_ | (refine cR hTr ?_; simp (disch := omega) only [u, i64, ax, eq_self, if_true, if_false, Nat.reduceAdd, Int.reduceToNat, Int.reduceAdd, tvs, bs]; try refine aA ?_)) | (refine cR hTr ?_; simp (disch := omega) only [u, i64, ax, eq_self, if_true, if_false, Nat.reduceAdd, Int.reduceToNat, Int.reduceAdd, tvs, bs]; try refine aA ?_) | refine G_seq ?_ | refine G_block ?_ | refine G_condT rfl ?_ | refine G_condF rfl ?_ | refine G_skip ?_ | refine G_ret ?_ | refine G_exit ?_ | refine q_tn ?_ | refine q_tr ?_ | refine q_tx ?_ | refine q_bn ?_ | refine q_br ?_ | refine q_bx ?_ | refine q_by (by decide) ?_)
      (refine FinQ hQ (congrArg Array.toList Tryd.results115) _ _ ?_); simp (disch := omega) only [u, i64, ax, if_true, forall_const, reduceCtorEq, implies_true, tvs, bf]
    · repeat (first | ((first | refine Gs ?_ | refine Gr ?_); simp (disch := omega) only [u, i64, ax, eq_self, if_true, if_false, Nat.reduceAdd, Int.reduceToNat, Int.reduceAdd, tvs, bs]; first | refine aA ?_ | (refine cR hTr ?_; simp (disch := omega) only [u, i64, ax, eq_self, if_true, if_false, Nat.reduceAdd, Int.reduceToNat, Int.reduceAdd, tvs, bs]; try refine aA ?_)) | (refine cR hTr ?_; simp (disch := omega) only [u, i64, ax, eq_self, if_true, if_false, Nat.reduceAdd, Int.reduceToNat, Int.reduceAdd, tvs, bs]; try refine aA ?_) | refine G_seq ?_ | refine G_block ?_ | refine G_condT rfl ?_ | refine G_condF rfl ?_ | refine G_skip ?_ | refine G_ret ?_ | refine G_exit ?_ | refine q_tn ?_ | refine q_tr ?_ | refine q_tx ?_ | refine q_bn ?_ | refine q_br ?_ | refine q_bx ?_ | refine q_by (by decide) ?_)
      refine ⟨(x, k, s / 2), ?_, ⟨i1, by simp only; omega, by simp only; omega, i4⟩, by simp only; omega⟩
      simp only [u, i64, Nat.reduceSub, Nat.reduceAdd, bm]
  · have hTe := ret_Ten s i3
    have htl := ten_len i3
    have hD := ret_DivMod (words x) (words (10 ^ s)) (Wd_words _) (Wd_words _) (by omega) (by omega) (by rw [val_words]; exact Nat.ne_of_gt (ten_pos s))
    rw [val_words, val_words] at hD
    have hml := Nat.le_trans (length_mono (Nat.mod_le x (10 ^ s))) hxl
    have hZ := ret_Zero (words (x % 10 ^ s)) (Wd_words _) (by omega)
    rw [val_words] at hZ
    by_cases c2 : x % 10 ^ s = 0
    · rw [decT c2] at hZ
      obtain ⟨q, hq⟩ := Nat.dvd_of_mod_eq_zero c2
      have hq2 : x / 10 ^ s = q := by rw [hq]; exact Nat.mul_div_cancel_left _ (ten_pos s)
      have hq0 : q ≠ 0 := fun h => by rw [h, Nat.mul_zero] at hq; exact hx0 hq
      have hdg : dg x = dg q + s := by rw [hq, Nat.mul_comm]; exact dg_mul _ _ hq0
      have hdn : dg n = dg x + k := by rw [← i1]; exact dg_mul _ _ hx0
      have hdbn := dg_le_bl n
      have hpw : q * 10 ^ (k + s) = n := by rw [← i1, hq, Nat.pow_add, Nat.mul_comm (10 ^ k), ← Nat.mul_assoc, Nat.mul_comm q]
      rw [hq2] at hD
      generalize x % 10 ^ s = y at *
      generalize 10 ^ s = T at *
      repeat (first | ((first | refine Gs ?_ | refine Gr ?_); simp (disch := omega) only [u, i64, ax, eq_self, if_true, if_false, Nat.reduceAdd, Int.reduceToNat, Int.reduceAdd, tvs, bs]; first | refine aA ?_ | ((first | refine cR hTr ?_ | refine cR hTe ?_ | refine cR hD ?_ | refine cR hZ ?_); simp (disch := omega) only [u, i64, ax, eq_self, if_true, if_false, Nat.reduceAdd, Int.reduceToNat, Int.reduceAdd, tvs, bs]; try refine aA ?_)) | ((first | refine cR hTr ?_ | refine cR hTe ?_ | refine cR hD ?_ | refine cR hZ ?_); simp (disch := omega) only [u, i64, ax, eq_self, if_true, if_false, Nat.reduceAdd, Int.reduceToNat, Int.reduceAdd, tvs, bs]; try refine aA ?_) | refine G_seq ?_ | refine G_block ?_ | refine G_condT rfl ?_ | refine G_condF rfl ?_ | refine G_skip ?_ | refine G_ret ?_ | refine G_exit ?_ | refine q_tn ?_ | refine q_tr ?_ | refine q_tx ?_ | refine q_bn ?_ | refine q_br ?_ | refine q_bx ?_ | refine q_by (by decide) ?_)
      refine ⟨(q, k + s, 2 * s), ?_, ⟨hpw, by simp only; omega, by simp only; omega, by simp only; omega⟩, by simp only; omega⟩
      simp only [u, i64, Nat.reduceSub, Nat.reduceAdd, bm]
    · rw [decF c2] at hZ
      by_cases c3 : s = 1
      · subst c3
        rw [Nat.pow_one] at *
        obtain ⟨e1, e2⟩ := strip_done i1 c2
        rw [e1, e2] at hQ
        repeat (first | ((first | refine Gs ?_ | refine Gr ?_); simp (disch := omega) only [u, i64, ax, eq_self, if_true, if_false, Nat.reduceAdd, Int.reduceToNat, Int.reduceAdd, tvs, bs]; first | refine aA ?_ | ((first | refine cR hTr ?_ | refine cR hTe ?_ | refine cR hD ?_ | refine cR hZ ?_); simp (disch := omega) only [u, i64, ax, eq_self, if_true, if_false, Nat.reduceAdd, Int.reduceToNat, Int.reduceAdd, tvs, bs]; try refine aA ?_)) | ((first | refine cR hTr ?_ | refine cR hTe ?_ | refine cR hD ?_ | refine cR hZ ?_); simp (disch := omega) only [u, i64, ax, eq_self, if_true, if_false, Nat.reduceAdd, Int.reduceToNat, Int.reduceAdd, tvs, bs]; try refine aA ?_) | refine G_seq ?_ | refine G_block ?_ | refine G_condT rfl ?_ | refine G_condF rfl ?_ | refine G_skip ?_ | refine G_ret ?_ | refine G_exit ?_ | refine q_tn ?_ | refine q_tr ?_ | refine q_tx ?_ | refine q_bn ?_ | refine q_br ?_ | refine q_bx ?_ | refine q_by (by decide) ?_)
        (refine FinQ hQ (congrArg Array.toList Tryd.results115) _ _ ?_); simp (disch := omega) only [u, i64, ax, if_true, forall_const, reduceCtorEq, implies_true, tvs, bf]
      · generalize x % 10 ^ s = y at *
        generalize x / 10 ^ s = z at *
        generalize 10 ^ s = T at *
        repeat (first | ((first | refine Gs ?_ | refine Gr ?_); simp (disch := omega) only [u, i64, ax, eq_self, if_true, if_false, Nat.reduceAdd, Int.reduceToNat, Int.reduceAdd, tvs, bs]; first | refine aA ?_ | ((first | refine cR hTr ?_ | refine cR hTe ?_ | refine cR hD ?_ | refine cR hZ ?_); simp (disch := omega) only [u, i64, ax, eq_self, if_true, if_false, Nat.reduceAdd, Int.reduceToNat, Int.reduceAdd, tvs, bs]; try refine aA ?_)) | ((first | refine cR hTr ?_ | refine cR hTe ?_ | refine cR hD ?_ | refine cR hZ ?_); simp (disch := omega) only [u, i64, ax, eq_self, if_true, if_false, Nat.reduceAdd, Int.reduceToNat, Int.reduceAdd, tvs, bs]; try refine aA ?_) | refine G_seq ?_ | refine G_block ?_ | refine G_condT rfl ?_ | refine G_condF rfl ?_ | refine G_skip ?_ | refine G_ret ?_ | refine G_exit ?_ | refine q_tn ?_ | refine q_tr ?_ | refine q_tx ?_ | refine q_bn ?_ | refine q_br ?_ | refine q_bx ?_ | refine q_by (by decide) ?_)
        refine ⟨(x, k, s / 2), ?_, ⟨i1, by simp only; omega, by simp only; omega, i4⟩, by simp only; omega⟩
        simp only [u, i64, Nat.reduceSub, Nat.reduceAdd, bm]
end Go.Proofs
set_option linter.unusedVariables false
namespace Go.Proofs
open Go.Ax
def nanD : DV := ⟨2, false, 0, 0⟩
/-- A number that may be 0, finished. -/
def finD0 (p : Nat) (g : Int) (r : Nat) (neg : Bool) (mag : Nat) (exp ideal : Int) : DV × Nat :=
  if mag = 0 then (⟨0, neg, 0, min (max ideal (1 - g - (p - 1))) g⟩, 0) else finD p g r neg mag exp ideal
def sumN (r : Nat) (na : Bool) (a : Nat) (nb : Bool) (b : Nat) : Bool := if na = nb then na else if b < a then na else if a < b then nb else decide (r = 4)
def sumM (na : Bool) (a : Nat) (nb : Bool) (b : Nat) : Nat := if na = nb then a + b else if b < a then a - b else b - a
theorem sum_comm (r : Nat) (na : Bool) (a : Nat) (nb : Bool) (b : Nat) : sumN r nb b na a = sumN r na a nb b ∧ sumM nb b na a = sumM na a nb b := by
  unfold sumM sumN
  by_cases hn : na = nb
  · subst hn
    exact ⟨by simp, by rw [if_pos rfl, if_pos rfl, Nat.add_comm]⟩
  · have hn' : ¬ nb = na := fun h => hn h.symm
    rw [if_neg hn, if_neg hn, if_neg hn', if_neg hn']
    rcases Nat.lt_trichotomy a b with h | h | h
    · have h1 : ¬ b < a := by omega
      rw [if_pos h, if_pos h, if_neg h1, if_neg h1, if_pos h]
      exact ⟨rfl, rfl⟩
    · subst h
      simp
    · have h1 : ¬ a < b := by omega
      rw [if_pos h, if_pos h, if_neg h1, if_neg h1, if_pos h]
      exact ⟨rfl, rfl⟩
def addD (p : Nat) (g : Int) (r : Nat) (x y : DV) : DV × Nat :=
  if x.kind = 2 ∨ y.kind = 2 then (nanD, 0)
  else if x.kind = 1 ∧ y.kind = 1 ∧ x.neg ≠ y.neg then (nanD, 16)
  else if x.kind = 1 then (x, 0)
  else if y.kind = 1 then (y, 0)
  else finD0 p g r (sumN r x.neg (x.coef * 10 ^ (x.exp - min x.exp y.exp).toNat) y.neg (y.coef * 10 ^ (y.exp - min x.exp y.exp).toNat))
    (sumM x.neg (x.coef * 10 ^ (x.exp - min x.exp y.exp).toNat) y.neg (y.coef * 10 ^ (y.exp - min x.exp y.exp).toNat)) (min x.exp y.exp) (min x.exp y.exp)
/-- A canonical right decimal number. -/
def rightD (x : DV) : Prop := (x.kind = 0 ∧ -1000000 ≤ x.exp ∧ x.exp ≤ 1000000) ∨ (x.kind = 1 ∧ x.exp = 0 ∧ x.coef = 0) ∨ (x.kind = 2 ∧ x.neg = false ∧ x.exp = 0 ∧ x.coef = 0)
/-- One of a context. -/
def inD (p : Nat) (g : Int) (x : DV) : Prop := x.kind ≠ 0 ∨ (x.coef = 0 ∧ 1 - g - (p - 1) ≤ x.exp ∧ x.exp ≤ g) ∨ (x.coef ≠ 0 ∧ dg x.coef ≤ p ∧ 1 - g - (p - 1) ≤ x.exp ∧ x.exp + dg x.coef - 1 ≤ g)
instance (x : DV) : Decidable (rightD x) := by unfold rightD; infer_instance
instance (p : Nat) (g : Int) (x : DV) : Decidable (inD p g x) := by unfold inD; infer_instance
theorem inD_exp {p : Nat} {g : Int} {x : DV} (hp : 1 ≤ p) (hr : rightD x) (h : inD p g x) : (x.kind = 0 → 1 - g - (p - 1) ≤ x.exp ∧ x.exp ≤ g) ∧ (x.kind ≠ 0 → x.exp = 0 ∧ x.coef = 0) := by
  refine ⟨fun h0 => ?_, fun h0 => ?_⟩
  · rcases h with h | h | h
    · exact absurd h0 h
    · exact h.2
    · have := (dg_spec x.coef h.1).2.2
      exact ⟨h.2.2.1, by omega⟩
  · rcases hr with hr | hr | hr
    · exact absurd hr.1 h0
    · exact ⟨hr.2.1, hr.2.2⟩
    · exact ⟨hr.2.2.1, hr.2.2.2⟩
theorem addD_comm (p : Nat) (g : Int) (r : Nat) (x y : DV) (hx : rightD x) (hy : rightD y) : addD p g r x y = addD p g r y x := by
  unfold addD
  by_cases h1 : x.kind = 2 ∨ y.kind = 2
  · rw [if_pos h1, if_pos h1.symm]
  · have h1' : ¬ (y.kind = 2 ∨ x.kind = 2) := fun h => h1 h.symm
    rw [if_neg h1, if_neg h1']
    by_cases h2 : x.kind = 1 ∧ y.kind = 1 ∧ x.neg ≠ y.neg
    · rw [if_pos h2, if_pos ⟨h2.2.1, h2.1, fun h => h2.2.2 h.symm⟩]
    · have h2' : ¬ (y.kind = 1 ∧ x.kind = 1 ∧ y.neg ≠ x.neg) := fun h => h2 ⟨h.2.1, h.1, fun h' => h.2.2 h'.symm⟩
      rw [if_neg h2, if_neg h2']
      by_cases h3 : x.kind = 1
      · rw [if_pos h3]
        by_cases h4 : y.kind = 1
        · rw [if_pos h4]
          have hn : x.neg = y.neg := Classical.byContradiction fun h => h2 ⟨h3, h4, h⟩
          obtain ⟨xk, xn, xc, xe⟩ := x
          obtain ⟨yk, yn, yc, ye⟩ := y
          unfold rightD at hx hy
          simp only at *
          obtain ⟨_, e1, e2⟩ : xk = 1 ∧ xe = 0 ∧ xc = 0 := by omega
          obtain ⟨_, e3, e4⟩ : yk = 1 ∧ ye = 0 ∧ yc = 0 := by omega
          subst h3 h4 hn e1 e2 e3 e4
          rfl
        · rw [if_neg h4, if_pos h3]
      · rw [if_neg h3]
        by_cases h4 : y.kind = 1
        · rw [if_pos h4, if_pos h4]
        · rw [if_neg h4, if_neg h4, if_neg h3]
          obtain ⟨c1, c2⟩ := sum_comm r x.neg (x.coef * 10 ^ (x.exp - min x.exp y.exp).toNat) y.neg (y.coef * 10 ^ (y.exp - min x.exp y.exp).toNat)
          rw [Int.min_comm y.exp x.exp, c1, c2]
/-- A product, before it is finished. -/
def timesD (x y : DV) : DV × Bool :=
  if x.kind = 2 ∨ y.kind = 2 then (nanD, true)
  else if x.kind = 1 ∨ y.kind = 1 then (⟨1, x.neg != y.neg, 0, 0⟩, !(decide (x.kind = 0 ∧ x.coef = 0)) && !(decide (y.kind = 0 ∧ y.coef = 0)))
  else (⟨0, x.neg != y.neg, x.coef * y.coef, x.exp + y.exp⟩, true)
def plusD (p : Nat) (g : Int) (r : Nat) (x : DV) : DV × Nat := if x.kind = 0 then finD0 p g r x.neg x.coef x.exp x.exp else (x, 0)
def mulD (p : Nat) (g : Int) (r : Nat) (x y : DV) : DV × Nat := if (timesD x y).2 = true then plusD p g r (timesD x y).1 else (nanD, 16)
theorem timesD_comm (x y : DV) : timesD x y = timesD y x := by
  unfold timesD
  by_cases h1 : x.kind = 2 ∨ y.kind = 2
  · rw [if_pos h1, if_pos h1.symm]
  · have h1' : ¬ (y.kind = 2 ∨ x.kind = 2) := fun h => h1 h.symm
    rw [if_neg h1, if_neg h1', show (y.neg != x.neg) = (x.neg != y.neg) by cases x.neg <;> cases y.neg <;> rfl]
    by_cases h2 : x.kind = 1 ∨ y.kind = 1
    · rw [if_pos h2, if_pos h2.symm, Bool.and_comm]
    · have h2' : ¬ (y.kind = 1 ∨ x.kind = 1) := fun h => h2 h.symm
      rw [if_neg h2, if_neg h2', Nat.mul_comm, Int.add_comm]
theorem mulD_comm (p : Nat) (g : Int) (r : Nat) (x y : DV) : mulD p g r x y = mulD p g r y x := by unfold mulD; rw [timesD_comm]
/-- What is finished is right, and of the context. -/
theorem overD_in (p : Nat) (g : Int) (r : Nat) (neg : Bool) (hp : 1 ≤ p) (hp2 : p ≤ 400) (hg : 1 ≤ g) (hg2 : g ≤ 6000) : rightD (overD p g r neg) ∧ inD p g (overD p g r neg) := by
  unfold overD
  split
  · have h1 : 10 ^ p - 1 ≠ 0 := by
      have : 10 ^ 1 ≤ 10 ^ p := ten_mono hp
      omega
    have h2 : dg (10 ^ p - 1) ≤ p := dg_le (by have := ten_pos p; omega)
    have h3 := (dg_spec _ h1).2.2
    exact ⟨.inl ⟨rfl, by show -1000000 ≤ g - p + 1; omega, by show g - p + 1 ≤ 1000000; omega⟩, .inr (.inr ⟨h1, h2, by show 1 - g - (p - 1) ≤ g - p + 1; omega, by show g - p + 1 + dg (10 ^ p - 1) - 1 ≤ g; omega⟩)⟩
  · exact ⟨.inr (.inl ⟨rfl, rfl, rfl⟩), .inl (by show 1 ≠ 0; decide)⟩
theorem stpD_range {p : Nat} {g a : Int} (hp : 1 ≤ p) (h : a ≤ g) : 1 - g - (p - 1) ≤ stpD p g a ∧ (1 ≤ g → stpD p g a ≤ g) := by unfold stpD; omega
theorem finD_in (p : Nat) (g : Int) (r : Nat) (neg : Bool) (mag : Nat) (exp ideal : Int) (hp : 1 ≤ p) (hp2 : p ≤ 400) (hg : 1 ≤ g) (hg2 : g ≤ 6000) (hm : mag ≠ 0) : rightD (finD p g r neg mag exp ideal).1 ∧ inD p g (finD p g r neg mag exp ideal).1 := by
  have ho := overD_in p g r neg hp hp2 hg hg2
  by_cases h1 : g < exp + dg mag - 1
  · rw [finD_over p g r neg mag exp ideal h1]; exact ho
  · have hs := stpD_range (p := p) (g := g) (a := exp + dg mag - 1) hp (by omega)
    by_cases h2 : stpD p g (exp + dg mag - 1) ≤ exp + st mag
    · rw [finD_exact p g r neg mag exp ideal h1 h2]
      obtain ⟨f1, f2, f3, f4, f5⟩ := exact_facts p g mag exp ideal hm h1 h2
      have h3 := (dg_spec _ f3).2.2
      exact ⟨.inl ⟨rfl, by show -1000000 ≤ exE p g mag exp ideal; omega, by show exE p g mag exp ideal ≤ 1000000; omega⟩, .inr (.inr ⟨f3, f5, by show 1 - g - (p - 1) ≤ exE p g mag exp ideal; omega, by show exE p g mag exp ideal + dg (exN p g mag exp ideal) - 1 ≤ g; omega⟩)⟩
    · rw [finD_ine p g r neg mag exp ideal h1 h2]
      have hN := quoD_le p g r neg mag exp _ rfl (by omega : exp < stpD p g (exp + dg mag - 1))
      generalize quoN r neg mag (10 ^ (stpD p g (exp + dg mag - 1) - exp).toNat) = N at *
      generalize stpD p g (exp + dg mag - 1) = s at *
      unfold ineD
      by_cases h3 : N = 10 ^ p
      · rw [if_pos h3]
        split
        · exact ho
        · rename_i h4
          have h5 : 10 ^ (p - 1) ≠ 0 := Nat.ne_of_gt (ten_pos _)
          have h6 := dg_pow (p - 1)
          exact ⟨.inl ⟨rfl, by show -1000000 ≤ s + 1; omega, by show s + 1 ≤ 1000000; omega⟩, .inr (.inr ⟨h5, by show dg (10 ^ (p - 1)) ≤ p; omega, by show 1 - g - (p - 1) ≤ s + 1; omega, by show s + 1 + dg (10 ^ (p - 1)) - 1 ≤ g; omega⟩)⟩
      · rw [if_neg h3]
        split
        · exact ho
        · rename_i h4
          refine ⟨.inl ⟨rfl, by show -1000000 ≤ s; omega, by show s ≤ 1000000; omega⟩, .inr ?_⟩
          by_cases h5 : N = 0
          · exact .inl ⟨h5, by show 1 - g - (p - 1) ≤ s; omega, by show s ≤ g; omega⟩
          · have h6 : dg N ≤ p := dg_le (by omega)
            exact .inr ⟨h5, h6, by show 1 - g - (p - 1) ≤ s; omega, by show s + dg N - 1 ≤ g; omega⟩
theorem finD0_in (p : Nat) (g : Int) (r : Nat) (neg : Bool) (mag : Nat) (exp ideal : Int) (hp : 1 ≤ p) (hp2 : p ≤ 400) (hg : 1 ≤ g) (hg2 : g ≤ 6000) : rightD (finD0 p g r neg mag exp ideal).1 ∧ inD p g (finD0 p g r neg mag exp ideal).1 := by
  unfold finD0
  split
  · exact ⟨.inl ⟨rfl, by show -1000000 ≤ min (max ideal (1 - g - (p - 1))) g; omega, by show min (max ideal (1 - g - (p - 1))) g ≤ 1000000; omega⟩, .inr (.inl ⟨rfl, by show 1 - g - (p - 1) ≤ min (max ideal (1 - g - (p - 1))) g; omega, by show min (max ideal (1 - g - (p - 1))) g ≤ g; omega⟩)⟩
  · rename_i h; exact finD_in p g r neg mag exp ideal hp hp2 hg hg2 h
/-- What is of the context is finished as it is. -/
theorem finD0_self (p : Nat) (g : Int) (r : Nat) (x : DV) (hk : x.kind = 0) (h : inD p g x) : finD0 p g r x.neg x.coef x.exp x.exp = (x, 0) := by
  obtain ⟨k, neg, c, e⟩ := x
  simp only at hk
  subst hk
  unfold finD0
  rcases h with h | h | h
  · exact absurd rfl h
  · simp only at h ⊢
    rw [if_pos h.1, h.1]
    have : min (max e (1 - g - (p - 1))) g = e := by omega
    rw [this]
  · simp only at h ⊢
    rw [if_neg h.1]
    have h1 : ¬ g < e + dg c - 1 := by omega
    have hs : stpD p g (e + dg c - 1) ≤ e := by unfold stpD; omega
    rw [finD_exact p g r neg c e e h1 (by omega)]
    have e1 : exE p g c e e = e := by unfold exE; omega
    unfold exN
    rw [e1, show (e + st c - e).toNat = st c by omega, ← (sm_mul h.1).1]
end Go.Proofs
set_option linter.unusedVariables false
set_option linter.unusedSimpArgs false
namespace Go.Proofs
open Go.Ax
/-- What the program finishes first: infinite or a number and an exponent. -/
def dcv (inf : Bool) (coef : Nat) (exp : Int) : AV := .agg [.bool inf, nat coef, i64 exp]
def fitsD (p : Nat) (g : Int) (mag : Nat) (exp : Int) : Prop := ¬ g < exp + dg mag - 1 ∧ stpD p g (exp + dg mag - 1) ≤ exp + st mag
instance (p : Nat) (g : Int) (mag : Nat) (exp : Int) : Decidable (fitsD p g mag exp) := by unfold fitsD; infer_instance
set_option maxRecDepth 100000 in
set_option maxHeartbeats 1000000 in
theorem ret_fits (p : Nat) (g : Int) (mag : Nat) (exp ideal : Int) (hp : 1 ≤ p ∧ p ≤ 400) (hg : 1 ≤ g ∧ g ≤ 6000) (hm : mag ≠ 0) (hl : (words mag).length ≤ 2000) (he : -3000000 ≤ exp ∧ exp ≤ 3000000) (hi : -3000000 ≤ ideal ∧ ideal ≤ 3000000) :
    Ret Tryd.prog GEs 192 [i64 p, i64 g, i64 (1 - g - (p - 1)), nat mag, i64 exp, i64 ideal]
      (if fitsD p g mag exp then .tup [dcv false (exN p g mag exp ideal) (exE p g mag exp ideal), .bool true] else .tup [.agg [.bool false, ws [], i64 0], .bool false]) := by
  have hS := ret_Strip (words mag) (Wd_words _) (by omega) (by rw [val_words]; exact hm)
  rw [val_words] at hS
  have hsl := length_mono (sm_le mag)
  have hD := ret_WDigits (sm mag) (by omega)
  have hiff := fits_iff p g mag exp hm
  have hat := fits_at p g mag exp ideal hm
  have hbn := bl_len mag
  have hdb := dg_le_bl mag
  have hds := dg_sm hm
  have hs1 := (dg_spec _ (sm_ne hm)).2.2
  generalize hT : 1 - g - ((p : Int) - 1) = T at *
  by_cases hf : fitsD p g mag exp
  · rw [if_pos hf]
    obtain ⟨f1, f2, f3, f4, f5⟩ := exact_facts p g mag exp ideal hm hf.1 hf.2
    have hc := hiff.2 hf
    obtain ⟨c1, c2, c3⟩ : dg (sm mag) ≤ p ∧ T ≤ exp + st mag ∧ exp + st mag + dg (sm mag) - 1 ≤ g := by omega
    have hs0 : (exp + dg mag - 1) - p + 1 ≤ stpD p g (exp + dg mag - 1) := by unfold stpD; omega
    have hat : min ((st mag : Int) + exp) (max (max ideal T) (st mag + exp - ((p - dg (sm mag) : Nat) : Int))) = exE p g mag exp ideal := by
      rw [Int.add_comm (st mag : Int) exp, Int.natCast_sub c1]; exact hat
    clear hiff hc
    have hdi : (exp + st mag - exE p g mag exp ideal).toNat ≤ p := by omega
    have hTe := ret_Ten (exp + st mag - exE p g mag exp ideal).toNat (by omega)
    have htl := ten_len (k := (exp + st mag - exE p g mag exp ideal).toNat) (by omega)
    have hM := ret_Mul (words (sm mag)) (words (10 ^ (exp + st mag - exE p g mag exp ideal).toNat)) (Wd_words _) (Wd_words _) (by omega) (by omega)
    rw [val_words, val_words] at hM
    have hN : sm mag * 10 ^ (exp + st mag - exE p g mag exp ideal).toNat = exN p g mag exp ideal := rfl
    rw [hN] at hM
    have hcast : (st mag : Int) + exp - exE p g mag exp ideal = (((exp + st mag - exE p g mag exp ideal).toNat : Nat) : Int) := by omega
    generalize exN p g mag exp ideal = N at *
    generalize exE p g mag exp ideal = E at *
    generalize sm mag = sM at *
    generalize st mag = sT at *
    unfold dcv
    generalize 10 ^ (exp + sT - E).toNat = TT at *
    generalize hk : (exp + sT - E).toNat = k at *
    refine RetN_start Tryd.func192 (by kernel_rfl) rfl fun Q hQ hQ2 => ?_; rw [Tryd.ntmps192]; simp only [u, i64, Nat.reduceSub, Nat.reduceAdd, bm]
    repeat (first | ((first | refine Gs ?_ | refine Gr ?_); simp (disch := omega) only [u, i64, ax, eq_self, if_true, if_false, Nat.reduceAdd, Int.reduceToNat, Int.reduceAdd, tvs, bs]; first | refine aA ?_ | ((first | refine cR hS ?_ | refine cR hD ?_); simp (disch := omega) only [u, i64, ax, eq_self, if_true, if_false, Nat.reduceAdd, Int.reduceToNat, Int.reduceAdd, tvs, bs]; try refine aA ?_)) | ((first | refine cR hS ?_ | refine cR hD ?_); simp (disch := omega) only [u, i64, ax, eq_self, if_true, if_false, Nat.reduceAdd, Int.reduceToNat, Int.reduceAdd, tvs, bs]; try refine aA ?_) | refine G_seq ?_ | refine G_block ?_ | refine G_condT rfl ?_ | refine G_condF rfl ?_ | refine G_skip ?_ | refine G_ret ?_ | refine G_exit ?_ | refine q_tn ?_ | refine q_tr ?_ | refine q_tx ?_ | refine q_bn ?_ | refine q_br ?_ | refine q_bx ?_ | refine q_by (by decide) ?_)
    ((first | refine Gs ?_ | refine Gr ?_); simp (disch := omega) only [u, i64, ax, eq_self, if_true, if_false, Nat.reduceAdd, Int.reduceToNat, Int.reduceAdd, tvs, bs])
    rw [hat, hcast]
    repeat (first | ((first | refine Gs ?_ | refine Gr ?_); simp (disch := omega) only [u, i64, ax, eq_self, if_true, if_false, Nat.reduceAdd, Int.reduceToNat, Int.reduceAdd, tvs, bs]; first | refine aA ?_ | ((first | refine cR hTe ?_ | refine cR hM ?_); simp (disch := omega) only [u, i64, ax, eq_self, if_true, if_false, Nat.reduceAdd, Int.reduceToNat, Int.reduceAdd, tvs, bs]; try refine aA ?_)) | ((first | refine cR hTe ?_ | refine cR hM ?_); simp (disch := omega) only [u, i64, ax, eq_self, if_true, if_false, Nat.reduceAdd, Int.reduceToNat, Int.reduceAdd, tvs, bs]; try refine aA ?_) | refine G_seq ?_ | refine G_block ?_ | refine G_condT rfl ?_ | refine G_condF rfl ?_ | refine G_skip ?_ | refine G_ret ?_ | refine G_exit ?_ | refine q_tn ?_ | refine q_tr ?_ | refine q_tx ?_ | refine q_bn ?_ | refine q_br ?_ | refine q_bx ?_ | refine q_by (by decide) ?_)
    (refine FinQ hQ (congrArg Array.toList Tryd.results192) _ _ ?_); simp (disch := omega) only [u, i64, ax, if_true, forall_const, reduceCtorEq, implies_true, tvs, bf]
    all_goals rfl
  · rw [if_neg hf]
    have hc : ¬ ¬ ((p : Int) < dg (sm mag) ∨ exp + st mag < T ∨ g < exp + st mag + dg (sm mag) - 1) := fun h => hf (hiff.1 h)
    have hc := Classical.not_not.1 hc
    clear hiff hat
    generalize sm mag = sM at *
    generalize st mag = sT at *
    by_cases c1 : p < dg sM
    · clear hc
      refine RetN_start Tryd.func192 (by kernel_rfl) rfl fun Q hQ hQ2 => ?_; rw [Tryd.ntmps192]; simp only [u, i64, Nat.reduceSub, Nat.reduceAdd, bm]
      repeat (first | ((first | refine Gs ?_ | refine Gr ?_); simp (disch := omega) only [u, i64, ax, eq_self, if_true, if_false, Nat.reduceAdd, Int.reduceToNat, Int.reduceAdd, tvs, bs]; first | refine aA ?_ | ((first | refine cR hS ?_ | refine cR hD ?_); simp (disch := omega) only [u, i64, ax, eq_self, if_true, if_false, Nat.reduceAdd, Int.reduceToNat, Int.reduceAdd, tvs, bs]; try refine aA ?_)) | ((first | refine cR hS ?_ | refine cR hD ?_); simp (disch := omega) only [u, i64, ax, eq_self, if_true, if_false, Nat.reduceAdd, Int.reduceToNat, Int.reduceAdd, tvs, bs]; try refine aA ?_) | refine G_seq ?_ | refine G_block ?_ | refine G_condT rfl ?_ | refine G_condF rfl ?_ | refine G_skip ?_ | refine G_ret ?_ | refine G_exit ?_ | refine q_tn ?_ | refine q_tr ?_ | refine q_tx ?_ | refine q_bn ?_ | refine q_br ?_ | refine q_bx ?_ | refine q_by (by decide) ?_)
      (refine FinQ hQ (congrArg Array.toList Tryd.results192) _ _ ?_); simp (disch := omega) only [u, i64, ax, if_true, forall_const, reduceCtorEq, implies_true, tvs, bf]
      all_goals rfl
    · by_cases c2 : exp + sT < T
      · clear hc
        refine RetN_start Tryd.func192 (by kernel_rfl) rfl fun Q hQ hQ2 => ?_; rw [Tryd.ntmps192]; simp only [u, i64, Nat.reduceSub, Nat.reduceAdd, bm]
        repeat (first | ((first | refine Gs ?_ | refine Gr ?_); simp (disch := omega) only [u, i64, ax, eq_self, if_true, if_false, Nat.reduceAdd, Int.reduceToNat, Int.reduceAdd, tvs, bs]; first | refine aA ?_ | ((first | refine cR hS ?_ | refine cR hD ?_); simp (disch := omega) only [u, i64, ax, eq_self, if_true, if_false, Nat.reduceAdd, Int.reduceToNat, Int.reduceAdd, tvs, bs]; try refine aA ?_)) | ((first | refine cR hS ?_ | refine cR hD ?_); simp (disch := omega) only [u, i64, ax, eq_self, if_true, if_false, Nat.reduceAdd, Int.reduceToNat, Int.reduceAdd, tvs, bs]; try refine aA ?_) | refine G_seq ?_ | refine G_block ?_ | refine G_condT rfl ?_ | refine G_condF rfl ?_ | refine G_skip ?_ | refine G_ret ?_ | refine G_exit ?_ | refine q_tn ?_ | refine q_tr ?_ | refine q_tx ?_ | refine q_bn ?_ | refine q_br ?_ | refine q_bx ?_ | refine q_by (by decide) ?_)
        (refine FinQ hQ (congrArg Array.toList Tryd.results192) _ _ ?_); simp (disch := omega) only [u, i64, ax, if_true, forall_const, reduceCtorEq, implies_true, tvs, bf]
        all_goals rfl
      · have c3 : g < exp + sT + dg sM - 1 := by omega
        clear hc
        refine RetN_start Tryd.func192 (by kernel_rfl) rfl fun Q hQ hQ2 => ?_; rw [Tryd.ntmps192]; simp only [u, i64, Nat.reduceSub, Nat.reduceAdd, bm]
        repeat (first | ((first | refine Gs ?_ | refine Gr ?_); simp (disch := omega) only [u, i64, ax, eq_self, if_true, if_false, Nat.reduceAdd, Int.reduceToNat, Int.reduceAdd, tvs, bs]; first | refine aA ?_ | ((first | refine cR hS ?_ | refine cR hD ?_); simp (disch := omega) only [u, i64, ax, eq_self, if_true, if_false, Nat.reduceAdd, Int.reduceToNat, Int.reduceAdd, tvs, bs]; try refine aA ?_)) | ((first | refine cR hS ?_ | refine cR hD ?_); simp (disch := omega) only [u, i64, ax, eq_self, if_true, if_false, Nat.reduceAdd, Int.reduceToNat, Int.reduceAdd, tvs, bs]; try refine aA ?_) | refine G_seq ?_ | refine G_block ?_ | refine G_condT rfl ?_ | refine G_condF rfl ?_ | refine G_skip ?_ | refine G_ret ?_ | refine G_exit ?_ | refine q_tn ?_ | refine q_tr ?_ | refine q_tx ?_ | refine q_bn ?_ | refine q_br ?_ | refine q_bx ?_ | refine q_by (by decide) ?_)
        (refine FinQ hQ (congrArg Array.toList Tryd.results192) _ _ ?_); simp (disch := omega) only [u, i64, ax, if_true, forall_const, reduceCtorEq, implies_true, tvs, bf]
        all_goals rfl
set_option maxRecDepth 100000 in
theorem ret_over (p : Nat) (g : Int) (r : Nat) (neg : Bool) (hp : 1 ≤ p ∧ p ≤ 400) (hg : 1 ≤ g ∧ g ≤ 6000) (hr : r ≤ 4) :
    Ret Tryd.prog GEs 193 [i64 p, i64 g, i64 r, .bool neg] (.tup [if grtF r neg = true then dcv false (10 ^ p - 1) (g - p + 1) else .agg [.bool true, ws [], i64 0], i64 5]) := by
  have hG := ret_greatest r hr neg
  have hT := ret_Ten p (by omega)
  have htl := ten_len (k := p) (by omega)
  have hpos := ten_pos p
  have hS := ret_Sub (words (10 ^ p)) (words 1) (Wd_words _) (Wd_words _) (by omega) (by have : (words 1).length ≤ 1 := length_le (by decide); omega) (by rw [val_words, val_words]; omega)
  rw [val_words, val_words, show ws (words 1) = nat 1 from rfl, words1] at hS
  unfold dcv
  generalize 10 ^ p = T at *
  cases hgr : grtF r neg with
  | true =>
    rw [hgr] at hG
    rw [if_pos rfl]
    refine RetN_start Tryd.func193 (by kernel_rfl) rfl fun Q hQ hQ2 => ?_; rw [Tryd.ntmps193]; simp only [u, i64, Nat.reduceSub, Nat.reduceAdd, bm]
    repeat (first | ((first | refine Gs ?_ | refine Gr ?_); simp (disch := omega) only [u, i64, ax, eq_self, if_true, if_false, Nat.reduceAdd, Int.reduceToNat, Int.reduceAdd, tvs, bs]; first | refine aA ?_ | ((first | refine cR hG ?_ | refine cR hT ?_ | refine cR hS ?_); simp (disch := omega) only [u, i64, ax, eq_self, if_true, if_false, Nat.reduceAdd, Int.reduceToNat, Int.reduceAdd, tvs, bs]; try refine aA ?_)) | ((first | refine cR hG ?_ | refine cR hT ?_ | refine cR hS ?_); simp (disch := omega) only [u, i64, ax, eq_self, if_true, if_false, Nat.reduceAdd, Int.reduceToNat, Int.reduceAdd, tvs, bs]; try refine aA ?_) | refine G_seq ?_ | refine G_block ?_ | refine G_condT rfl ?_ | refine G_condF rfl ?_ | refine G_skip ?_ | refine G_ret ?_ | refine G_exit ?_ | refine q_tn ?_ | refine q_tr ?_ | refine q_tx ?_ | refine q_bn ?_ | refine q_br ?_ | refine q_bx ?_ | refine q_by (by decide) ?_)
    (refine FinQ hQ (congrArg Array.toList Tryd.results193) _ _ ?_); simp (disch := omega) only [u, i64, ax, if_true, forall_const, reduceCtorEq, implies_true, tvs, bf]
    all_goals rfl
  | false =>
    rw [hgr] at hG
    rw [if_neg (by decide)]
    refine RetN_start Tryd.func193 (by kernel_rfl) rfl fun Q hQ hQ2 => ?_; rw [Tryd.ntmps193]; simp only [u, i64, Nat.reduceSub, Nat.reduceAdd, bm]
    repeat (first | ((first | refine Gs ?_ | refine Gr ?_); simp (disch := omega) only [u, i64, ax, eq_self, if_true, if_false, Nat.reduceAdd, Int.reduceToNat, Int.reduceAdd, tvs, bs]; first | refine aA ?_ | (refine cR hG ?_; simp (disch := omega) only [u, i64, ax, eq_self, if_true, if_false, Nat.reduceAdd, Int.reduceToNat, Int.reduceAdd, tvs, bs]; try refine aA ?_)) | (refine cR hG ?_; simp (disch := omega) only [u, i64, ax, eq_self, if_true, if_false, Nat.reduceAdd, Int.reduceToNat, Int.reduceAdd, tvs, bs]; try refine aA ?_) | refine G_seq ?_ | refine G_block ?_ | refine G_condT rfl ?_ | refine G_condF rfl ?_ | refine G_skip ?_ | refine G_ret ?_ | refine G_exit ?_ | refine q_tn ?_ | refine q_tr ?_ | refine q_tx ?_ | refine q_bn ?_ | refine q_br ?_ | refine q_bx ?_ | refine q_by (by decide) ?_)
    (refine FinQ hQ (congrArg Array.toList Tryd.results193) _ _ ?_); simp (disch := omega) only [u, i64, ax, if_true, forall_const, reduceCtorEq, implies_true, tvs, bf]
    all_goals rfl
theorem Ret_nil {P : Program} {GE : Nat → Option (List AV)} {f : FuncId} {args args' : List AV} {r : AV} (h : Ret P GE f args r) (hn : nrms args' = args) : Ret P GE f args' r :=
  ⟨h.1, fun w ok vargs hG hv => h.2 w ok vargs hG (by rw [← hn]; exact VReps.nrm _ _ hv)⟩
def fdv (x : DV) : AV := .agg [.bool (decide (x.kind = 1)), nat x.coef, i64 x.exp]
theorem fdv_over (p : Nat) (g : Int) (r : Nat) (neg : Bool) : fdv (overD p g r neg) = if grtF r neg = true then dcv false (10 ^ p - 1) (g - p + 1) else .agg [.bool true, ws [], i64 0] := by
  unfold overD; split <;> rfl
theorem or1I : Go.Ax.bits .or .i64 (1 : Int) 2 = 3 := by decide
set_option maxRecDepth 100000 in
set_option maxHeartbeats 4000000 in
theorem ret_finFinish (p : Nat) (g : Int) (r : Nat) (neg : Bool) (mag : Nat) (exp ideal : Int) (hp : 1 ≤ p ∧ p ≤ 400) (hg : 1 ≤ g ∧ g ≤ 6000) (hr : r ≤ 4) (hm : mag ≠ 0) (hl : (words mag).length ≤ 2000) (he : -3000000 ≤ exp ∧ exp ≤ 3000000) (hi : -3000000 ≤ ideal ∧ ideal ≤ 3000000) :
    Ret Tryd.prog GEs 167 [i64 p, i64 g, i64 r, .bool neg, nat mag, i64 exp, .bool false, i64 ideal] (.tup [fdv (finD p g r neg mag exp ideal).1, i64 (finD p g r neg mag exp ideal).2]) := by
  have hF := ret_fits p g mag exp ideal hp hg hm hl he hi
  have hD := ret_WDigits mag (by omega)
  have hO := ret_over p g r neg hp hg hr
  rw [← fdv_over] at hO
  have hbn := bl_len mag
  have hdb := dg_le_bl mag
  have hd1 := (dg_spec _ hm).2.2
  have hpc : ((p : Int) - 1) = ((p - 1 : Nat) : Int) := by omega
  have hst : stpD p g (exp + dg mag - 1) = max (exp + dg mag - 1 - p + 1) (1 - g - ((p : Int) - 1)) := rfl
  rw [hpc] at hF hst
  by_cases c1 : g < exp + dg mag - 1
  · rw [finD_over p g r neg mag exp ideal c1]
    rw [if_neg (fun h => h.1 c1)] at hF
    generalize overD p g r neg = y at *
    unfold fdv at *
    refine RetN_start Tryd.func167 (by kernel_rfl) rfl fun Q hQ hQ2 => ?_; rw [Tryd.ntmps167]; simp only [u, i64, Nat.reduceSub, Nat.reduceAdd, bm]
    repeat (first | ((first | refine Gs ?_ | refine Gr ?_); simp (disch := omega) only [u, i64, ax, eq_self, if_true, if_false, Nat.reduceAdd, Int.reduceToNat, Int.reduceAdd, tvs, bs]; first | refine aA ?_ | ((first | refine cR hF ?_ | refine cR hD ?_ | refine cR hO ?_); simp (disch := omega) only [u, i64, ax, eq_self, if_true, if_false, Nat.reduceAdd, Int.reduceToNat, Int.reduceAdd, tvs, bs]; try refine aA ?_)) | ((first | refine cR hF ?_ | refine cR hD ?_ | refine cR hO ?_); simp (disch := omega) only [u, i64, ax, eq_self, if_true, if_false, Nat.reduceAdd, Int.reduceToNat, Int.reduceAdd, tvs, bs]; try refine aA ?_) | refine G_seq ?_ | refine G_block ?_ | refine G_condT rfl ?_ | refine G_condF rfl ?_ | refine G_skip ?_ | refine G_ret ?_ | refine G_exit ?_ | refine q_tn ?_ | refine q_tr ?_ | refine q_tx ?_ | refine q_bn ?_ | refine q_br ?_ | refine q_bx ?_ | refine q_by (by decide) ?_)
    (refine FinQ hQ (congrArg Array.toList Tryd.results167) _ _ ?_); simp (disch := omega) only [u, i64, ax, if_true, forall_const, reduceCtorEq, implies_true, tvs, bf]
    all_goals rfl
  by_cases c2 : stpD p g (exp + dg mag - 1) ≤ exp + st mag
  · rw [finD_exact p g r neg mag exp ideal c1 c2]
    rw [if_pos ⟨c1, c2⟩] at hF
    have e1 : fdv ⟨0, neg, exN p g mag exp ideal, exE p g mag exp ideal⟩ = dcv false (exN p g mag exp ideal) (exE p g mag exp ideal) := rfl
    rw [e1]
    unfold dcv at *
    generalize exN p g mag exp ideal = N at *
    generalize exE p g mag exp ideal = E at *
    refine RetN_start Tryd.func167 (by kernel_rfl) rfl fun Q hQ hQ2 => ?_; rw [Tryd.ntmps167]; simp only [u, i64, Nat.reduceSub, Nat.reduceAdd, bm]
    repeat (first | ((first | refine Gs ?_ | refine Gr ?_); simp (disch := omega) only [u, i64, ax, eq_self, if_true, if_false, Nat.reduceAdd, Int.reduceToNat, Int.reduceAdd, tvs, bs]; first | refine aA ?_ | (refine cR hF ?_; simp (disch := omega) only [u, i64, ax, eq_self, if_true, if_false, Nat.reduceAdd, Int.reduceToNat, Int.reduceAdd, tvs, bs]; try refine aA ?_)) | (refine cR hF ?_; simp (disch := omega) only [u, i64, ax, eq_self, if_true, if_false, Nat.reduceAdd, Int.reduceToNat, Int.reduceAdd, tvs, bs]; try refine aA ?_) | refine G_seq ?_ | refine G_block ?_ | refine G_condT rfl ?_ | refine G_condF rfl ?_ | refine G_skip ?_ | refine G_ret ?_ | refine G_exit ?_ | refine q_tn ?_ | refine q_tr ?_ | refine q_tx ?_ | refine q_bn ?_ | refine q_br ?_ | refine q_bx ?_ | refine q_by (by decide) ?_)
    (refine FinQ hQ (congrArg Array.toList Tryd.results167) _ _ ?_); simp (disch := omega) only [u, i64, ax, if_true, forall_const, reduceCtorEq, implies_true, tvs, bf]
    all_goals rfl
  · rw [finD_ine p g r neg mag exp ideal c1 c2]
    rw [if_neg (fun h => c2 h.2)] at hF
    have hNp := quoD_le p g r neg mag exp _ rfl (by omega : exp < stpD p g (exp + dg mag - 1))
    have htq := fun h => tiny_quo mag (stpD p g (exp + dg mag - 1) - exp).toNat h hm
    have hNd : quoN r neg mag (10 ^ (stpD p g (exp + dg mag - 1) - exp).toNat) = mag / 10 ^ (stpD p g (exp + dg mag - 1) - exp).toNat + if moreF r neg (decide (mag / 10 ^ (stpD p g (exp + dg mag - 1) - exp).toNat % 2 = 1)) (restC (mag % 10 ^ (stpD p g (exp + dg mag - 1) - exp).toNat) (10 ^ (stpD p g (exp + dg mag - 1) - exp).toNat)) = true then 1 else 0 := rfl
    have hlt : exp < stpD p g (exp + dg mag - 1) := by omega
    have htp := ten_len (k := p) (by omega)
    have hTp := ret_Ten p (by omega)
    have hTp1 := ret_Ten (p - 1) (by omega)
    generalize hs : stpD p g (exp + dg mag - 1) = s at *
    generalize hk : (s - exp).toNat = k at *
    generalize hN : quoN r neg mag (10 ^ k) = N at *
    have hNl := length_mono hNp
    have hCp := ret_Cmp (words N) (words (10 ^ p)) (Wd_words _) (Wd_words _) (by omega) (by omega)
    rw [val_words, val_words] at hCp
    have hsg := cmpI_sign N (10 ^ p)
    have hdp1 : dg (10 ^ (p - 1)) = p - 1 + 1 := dg_pow (p - 1)
    have hl1 := ten_len (k := p - 1) (by omega)
    have hP1 : 10 ^ (p - 1) ≠ 0 := Nat.ne_of_gt (ten_pos _)
    have hDP1 := ret_WDigits (10 ^ (p - 1)) (by have := le_pow_words (k := 100) (ten_le (p - 1)) (by omega); omega)
    have hDN := ret_WDigits N (by have := le_pow_words (k := 100) (ten_le p) (by omega); omega)
    have hdN : dg N ≤ p + 1 := dg_le (Nat.lt_of_le_of_lt hNp (Nat.pow_lt_pow_right (by decide) (by omega)))
    have hZP1 := ret_Zero (words (10 ^ (p - 1))) (Wd_words _) (by omega)
    rw [val_words, decF hP1] at hZP1
    have hZN := ret_Zero (words N) (Wd_words _) (by omega)
    rw [val_words] at hZN
    rw [hdp1] at hDP1
    have hor := or1I
    have hsr : -10000 ≤ s ∧ s ≤ 10000 := by omega
    unfold ineD
    generalize 10 ^ (p - 1) = P1 at *
    have hUp1 : dg mag + 1 < k → Ret Tryd.prog GEs 170 [i64 r, .bool neg, .emp, i64 1] (nat N) := fun h => by
      have := ret_up r hr neg 0 (by decide) 1 (by decide)
      obtain ⟨t1, t2⟩ := htq h
      rw [t1, t2] at hNd
      rw [← hNd] at this
      exact Ret_nil this rfl
    by_cases b1 : dg mag + 1 < k
    · have hUp := hUp1 b1
      have hN1 : N ≤ 1 := by
        obtain ⟨t1, t2⟩ := htq b1
        rw [hNd, t1]
        split <;> omega
      have hp10 : 10 ^ 1 ≤ 10 ^ p := ten_mono hp.1
      have b2 : ¬ N = 10 ^ p := by omega
      have hsg : ¬ cmpI N (10 ^ p) = 0 := fun h => b2 (hsg.2.2.1.1 h)
      rw [if_neg b2]
      clear hUp1 htq hNd hl htp hl1 hNl hs hdb hbn
      generalize cmpI N (10 ^ p) = cc at *
      generalize 10 ^ p = P at *
      have ha : exp + dg mag - 1 < 1 - g := by omega
      by_cases b3 : N = 0
      · rw [if_neg (fun h => h.1 b3), if_pos ha]
        rw [decT b3] at hZN
        unfold fdv
        refine RetN_start Tryd.func167 (by kernel_rfl) rfl fun Q hQ hQ2 => ?_; rw [Tryd.ntmps167]; simp only [u, i64, Nat.reduceSub, Nat.reduceAdd, bm]
        repeat (first | ((first | refine Gs ?_ | refine Gr ?_); simp (disch := omega) only [u, i64, ax, eq_self, if_true, if_false, Nat.reduceAdd, Int.reduceToNat, Int.reduceAdd, tvs, bs]; first | refine aA ?_ | ((first | refine cR hF ?_ | refine cR hD ?_ | refine cR hUp ?_ | refine cR hTp ?_ | refine cR hCp ?_ | refine cR hZN ?_); simp (disch := omega) only [u, i64, ax, eq_self, if_true, if_false, Nat.reduceAdd, Int.reduceToNat, Int.reduceAdd, tvs, bs]; try refine aA ?_)) | ((first | refine cR hF ?_ | refine cR hD ?_ | refine cR hUp ?_ | refine cR hTp ?_ | refine cR hCp ?_ | refine cR hZN ?_); simp (disch := omega) only [u, i64, ax, eq_self, if_true, if_false, Nat.reduceAdd, Int.reduceToNat, Int.reduceAdd, tvs, bs]; try refine aA ?_) | refine G_seq ?_ | refine G_block ?_ | refine G_condT rfl ?_ | refine G_condF rfl ?_ | refine G_skip ?_ | refine G_ret ?_ | refine G_exit ?_ | refine q_tn ?_ | refine q_tr ?_ | refine q_tx ?_ | refine q_bn ?_ | refine q_br ?_ | refine q_bx ?_ | refine q_by (by decide) ?_)
        rw [hor, ← hst]
        (refine FinQ hQ (congrArg Array.toList Tryd.results167) _ _ ?_); simp (disch := omega) only [u, i64, ax, if_true, forall_const, reduceCtorEq, implies_true, tvs, bf]
        all_goals rfl
      · have hd1 : dg N = 1 := by rw [show N = 1 by omega]; exact dg_one
        rw [if_neg (fun h => by have := h.2; omega), if_pos ha]
        rw [decF b3] at hZN
        rw [hd1] at hDN
        unfold fdv
        refine RetN_start Tryd.func167 (by kernel_rfl) rfl fun Q hQ hQ2 => ?_; rw [Tryd.ntmps167]; simp only [u, i64, Nat.reduceSub, Nat.reduceAdd, bm]
        repeat (first | ((first | refine Gs ?_ | refine Gr ?_); simp (disch := omega) only [u, i64, ax, eq_self, if_true, if_false, Nat.reduceAdd, Int.reduceToNat, Int.reduceAdd, tvs, bs]; first | refine aA ?_ | ((first | refine cR hF ?_ | refine cR hD ?_ | refine cR hUp ?_ | refine cR hTp ?_ | refine cR hCp ?_ | refine cR hZN ?_ | refine cR hDN ?_); simp (disch := omega) only [u, i64, ax, eq_self, if_true, if_false, Nat.reduceAdd, Int.reduceToNat, Int.reduceAdd, tvs, bs]; try refine aA ?_)) | ((first | refine cR hF ?_ | refine cR hD ?_ | refine cR hUp ?_ | refine cR hTp ?_ | refine cR hCp ?_ | refine cR hZN ?_ | refine cR hDN ?_); simp (disch := omega) only [u, i64, ax, eq_self, if_true, if_false, Nat.reduceAdd, Int.reduceToNat, Int.reduceAdd, tvs, bs]; try refine aA ?_) | refine G_seq ?_ | refine G_block ?_ | refine G_condT rfl ?_ | refine G_condF rfl ?_ | refine G_skip ?_ | refine G_ret ?_ | refine G_exit ?_ | refine q_tn ?_ | refine q_tr ?_ | refine q_tx ?_ | refine q_bn ?_ | refine q_br ?_ | refine q_bx ?_ | refine q_by (by decide) ?_)
        rw [hor, ← hst]
        (refine FinQ hQ (congrArg Array.toList Tryd.results167) _ _ ?_); simp (disch := omega) only [u, i64, ax, if_true, forall_const, reduceCtorEq, implies_true, tvs, bf]
        all_goals rfl
    · have hTk := ret_Ten k (by omega)
      have hTkl := ten_len (k := k) (by omega)
      have hDM := ret_DivMod (words mag) (words (10 ^ k)) (Wd_words _) (Wd_words _) (by omega) (by omega) (by rw [val_words]; exact Nat.ne_of_gt (ten_pos k))
      rw [val_words, val_words] at hDM
      have hml := length_mono (Nat.mod_le mag (10 ^ k))
      have hql := length_mono (Nat.div_le_self mag (10 ^ k))
      have hCm := ret_compare (mag % 10 ^ k) (words (10 ^ k)) (Wd_words _) (by omega) (by omega)
      rw [val_words] at hCm
      have hx3 := restC_le (mag % 10 ^ k) (10 ^ k)
      have hUp := ret_up r hr neg (mag / 10 ^ k) (by omega) (restC (mag % 10 ^ k) (10 ^ k)) hx3
      rw [← hNd] at hUp
      have hcast : s - exp = (k : Int) := by omega
      clear hUp1 htq hNd hl htp hl1 hNl hs hTkl hml hql
      generalize restC (mag % 10 ^ k) (10 ^ k) = rc at *
      generalize mag % 10 ^ k = mR at *
      generalize mag / 10 ^ k = mQ at *
      generalize 10 ^ k = TK at *
      by_cases b2 : N = 10 ^ p
      · have hsg := hsg.2.2.1.2 b2
        rw [if_pos b2]
        generalize cmpI N (10 ^ p) = cc at *
        generalize 10 ^ p = P at *
        by_cases b3 : g < s + 1 + p - 1
        · rw [if_pos b3]
          generalize overD p g r neg = y at *
          unfold fdv at *
          refine RetN_start Tryd.func167 (by kernel_rfl) rfl fun Q hQ hQ2 => ?_; rw [Tryd.ntmps167]; simp only [u, i64, Nat.reduceSub, Nat.reduceAdd, bm]
          repeat (first | ((first | refine Gs ?_ | refine Gr ?_); simp (disch := omega) only [u, i64, ax, eq_self, if_true, if_false, Nat.reduceAdd, Int.reduceToNat, Int.reduceAdd, tvs, bs]; first | refine aA ?_ | ((first | refine cR hF ?_ | refine cR hD ?_); simp (disch := omega) only [u, i64, ax, eq_self, if_true, if_false, Nat.reduceAdd, Int.reduceToNat, Int.reduceAdd, tvs, bs]; try refine aA ?_)) | ((first | refine cR hF ?_ | refine cR hD ?_); simp (disch := omega) only [u, i64, ax, eq_self, if_true, if_false, Nat.reduceAdd, Int.reduceToNat, Int.reduceAdd, tvs, bs]; try refine aA ?_) | refine G_seq ?_ | refine G_block ?_ | refine G_condT rfl ?_ | refine G_condF rfl ?_ | refine G_skip ?_ | refine G_ret ?_ | refine G_exit ?_ | refine q_tn ?_ | refine q_tr ?_ | refine q_tx ?_ | refine q_bn ?_ | refine q_br ?_ | refine q_bx ?_ | refine q_by (by decide) ?_)
          ((first | refine Gs ?_ | refine Gr ?_); simp (disch := omega) only [u, i64, ax, eq_self, if_true, if_false, Nat.reduceAdd, Int.reduceToNat, Int.reduceAdd, tvs, bs])
          rw [← hst, hcast]
          repeat (first | ((first | refine Gs ?_ | refine Gr ?_); simp (disch := omega) only [u, i64, ax, eq_self, if_true, if_false, Nat.reduceAdd, Int.reduceToNat, Int.reduceAdd, tvs, bs]; first | refine aA ?_ | ((first | refine cR hTk ?_ | refine cR hDM ?_ | refine cR hCm ?_ | refine cR hUp ?_ | refine cR hTp ?_ | refine cR hCp ?_ | refine cR hTp1 ?_ | refine cR hZP1 ?_ | refine cR hDP1 ?_ | refine cR hO ?_); simp (disch := omega) only [u, i64, ax, eq_self, if_true, if_false, Nat.reduceAdd, Int.reduceToNat, Int.reduceAdd, tvs, bs]; try refine aA ?_)) | ((first | refine cR hTk ?_ | refine cR hDM ?_ | refine cR hCm ?_ | refine cR hUp ?_ | refine cR hTp ?_ | refine cR hCp ?_ | refine cR hTp1 ?_ | refine cR hZP1 ?_ | refine cR hDP1 ?_ | refine cR hO ?_); simp (disch := omega) only [u, i64, ax, eq_self, if_true, if_false, Nat.reduceAdd, Int.reduceToNat, Int.reduceAdd, tvs, bs]; try refine aA ?_) | refine G_seq ?_ | refine G_block ?_ | refine G_condT rfl ?_ | refine G_condF rfl ?_ | refine G_skip ?_ | refine G_ret ?_ | refine G_exit ?_ | refine q_tn ?_ | refine q_tr ?_ | refine q_tx ?_ | refine q_bn ?_ | refine q_br ?_ | refine q_bx ?_ | refine q_by (by decide) ?_)
          (refine FinQ hQ (congrArg Array.toList Tryd.results167) _ _ ?_); simp (disch := omega) only [u, i64, ax, if_true, forall_const, reduceCtorEq, implies_true, tvs, bf]
          all_goals rfl
        · rw [if_neg b3]
          unfold fdv
          by_cases ha : exp + dg mag - 1 < 1 - g
          · rw [if_pos ha]
            refine RetN_start Tryd.func167 (by kernel_rfl) rfl fun Q hQ hQ2 => ?_; rw [Tryd.ntmps167]; simp only [u, i64, Nat.reduceSub, Nat.reduceAdd, bm]
            repeat (first | ((first | refine Gs ?_ | refine Gr ?_); simp (disch := omega) only [u, i64, ax, eq_self, if_true, if_false, Nat.reduceAdd, Int.reduceToNat, Int.reduceAdd, tvs, bs]; first | refine aA ?_ | ((first | refine cR hF ?_ | refine cR hD ?_); simp (disch := omega) only [u, i64, ax, eq_self, if_true, if_false, Nat.reduceAdd, Int.reduceToNat, Int.reduceAdd, tvs, bs]; try refine aA ?_)) | ((first | refine cR hF ?_ | refine cR hD ?_); simp (disch := omega) only [u, i64, ax, eq_self, if_true, if_false, Nat.reduceAdd, Int.reduceToNat, Int.reduceAdd, tvs, bs]; try refine aA ?_) | refine G_seq ?_ | refine G_block ?_ | refine G_condT rfl ?_ | refine G_condF rfl ?_ | refine G_skip ?_ | refine G_ret ?_ | refine G_exit ?_ | refine q_tn ?_ | refine q_tr ?_ | refine q_tx ?_ | refine q_bn ?_ | refine q_br ?_ | refine q_bx ?_ | refine q_by (by decide) ?_)
            ((first | refine Gs ?_ | refine Gr ?_); simp (disch := omega) only [u, i64, ax, eq_self, if_true, if_false, Nat.reduceAdd, Int.reduceToNat, Int.reduceAdd, tvs, bs])
            rw [← hst, hcast]
            repeat (first | ((first | refine Gs ?_ | refine Gr ?_); simp (disch := omega) only [u, i64, ax, eq_self, if_true, if_false, Nat.reduceAdd, Int.reduceToNat, Int.reduceAdd, tvs, bs]; first | refine aA ?_ | ((first | refine cR hTk ?_ | refine cR hDM ?_ | refine cR hCm ?_ | refine cR hUp ?_ | refine cR hTp ?_ | refine cR hCp ?_ | refine cR hTp1 ?_ | refine cR hZP1 ?_ | refine cR hDP1 ?_); simp (disch := omega) only [u, i64, ax, eq_self, if_true, if_false, Nat.reduceAdd, Int.reduceToNat, Int.reduceAdd, tvs, bs]; try refine aA ?_)) | ((first | refine cR hTk ?_ | refine cR hDM ?_ | refine cR hCm ?_ | refine cR hUp ?_ | refine cR hTp ?_ | refine cR hCp ?_ | refine cR hTp1 ?_ | refine cR hZP1 ?_ | refine cR hDP1 ?_); simp (disch := omega) only [u, i64, ax, eq_self, if_true, if_false, Nat.reduceAdd, Int.reduceToNat, Int.reduceAdd, tvs, bs]; try refine aA ?_) | refine G_seq ?_ | refine G_block ?_ | refine G_condT rfl ?_ | refine G_condF rfl ?_ | refine G_skip ?_ | refine G_ret ?_ | refine G_exit ?_ | refine q_tn ?_ | refine q_tr ?_ | refine q_tx ?_ | refine q_bn ?_ | refine q_br ?_ | refine q_bx ?_ | refine q_by (by decide) ?_)
            rw [hor]
            (refine FinQ hQ (congrArg Array.toList Tryd.results167) _ _ ?_); simp (disch := omega) only [u, i64, ax, if_true, forall_const, reduceCtorEq, implies_true, tvs, bf]
            all_goals rfl
          · rw [if_neg ha]
            refine RetN_start Tryd.func167 (by kernel_rfl) rfl fun Q hQ hQ2 => ?_; rw [Tryd.ntmps167]; simp only [u, i64, Nat.reduceSub, Nat.reduceAdd, bm]
            repeat (first | ((first | refine Gs ?_ | refine Gr ?_); simp (disch := omega) only [u, i64, ax, eq_self, if_true, if_false, Nat.reduceAdd, Int.reduceToNat, Int.reduceAdd, tvs, bs]; first | refine aA ?_ | ((first | refine cR hF ?_ | refine cR hD ?_); simp (disch := omega) only [u, i64, ax, eq_self, if_true, if_false, Nat.reduceAdd, Int.reduceToNat, Int.reduceAdd, tvs, bs]; try refine aA ?_)) | ((first | refine cR hF ?_ | refine cR hD ?_); simp (disch := omega) only [u, i64, ax, eq_self, if_true, if_false, Nat.reduceAdd, Int.reduceToNat, Int.reduceAdd, tvs, bs]; try refine aA ?_) | refine G_seq ?_ | refine G_block ?_ | refine G_condT rfl ?_ | refine G_condF rfl ?_ | refine G_skip ?_ | refine G_ret ?_ | refine G_exit ?_ | refine q_tn ?_ | refine q_tr ?_ | refine q_tx ?_ | refine q_bn ?_ | refine q_br ?_ | refine q_bx ?_ | refine q_by (by decide) ?_)
            ((first | refine Gs ?_ | refine Gr ?_); simp (disch := omega) only [u, i64, ax, eq_self, if_true, if_false, Nat.reduceAdd, Int.reduceToNat, Int.reduceAdd, tvs, bs])
            rw [← hst, hcast]
            repeat (first | ((first | refine Gs ?_ | refine Gr ?_); simp (disch := omega) only [u, i64, ax, eq_self, if_true, if_false, Nat.reduceAdd, Int.reduceToNat, Int.reduceAdd, tvs, bs]; first | refine aA ?_ | ((first | refine cR hTk ?_ | refine cR hDM ?_ | refine cR hCm ?_ | refine cR hUp ?_ | refine cR hTp ?_ | refine cR hCp ?_ | refine cR hTp1 ?_ | refine cR hZP1 ?_ | refine cR hDP1 ?_); simp (disch := omega) only [u, i64, ax, eq_self, if_true, if_false, Nat.reduceAdd, Int.reduceToNat, Int.reduceAdd, tvs, bs]; try refine aA ?_)) | ((first | refine cR hTk ?_ | refine cR hDM ?_ | refine cR hCm ?_ | refine cR hUp ?_ | refine cR hTp ?_ | refine cR hCp ?_ | refine cR hTp1 ?_ | refine cR hZP1 ?_ | refine cR hDP1 ?_); simp (disch := omega) only [u, i64, ax, eq_self, if_true, if_false, Nat.reduceAdd, Int.reduceToNat, Int.reduceAdd, tvs, bs]; try refine aA ?_) | refine G_seq ?_ | refine G_block ?_ | refine G_condT rfl ?_ | refine G_condF rfl ?_ | refine G_skip ?_ | refine G_ret ?_ | refine G_exit ?_ | refine q_tn ?_ | refine q_tr ?_ | refine q_tx ?_ | refine q_bn ?_ | refine q_br ?_ | refine q_bx ?_ | refine q_by (by decide) ?_)
            (refine FinQ hQ (congrArg Array.toList Tryd.results167) _ _ ?_); simp (disch := omega) only [u, i64, ax, if_true, forall_const, reduceCtorEq, implies_true, tvs, bf]
            all_goals rfl
      · have hsg : ¬ cmpI N (10 ^ p) = 0 := fun h => b2 (hsg.2.2.1.1 h)
        rw [if_neg b2]
        generalize cmpI N (10 ^ p) = cc at *
        generalize 10 ^ p = P at *
        by_cases b4 : N = 0
        · rw [if_neg (fun h => h.1 b4)]
          rw [decT b4] at hZN
          unfold fdv
          by_cases ha : exp + dg mag - 1 < 1 - g
          · rw [if_pos ha]
            refine RetN_start Tryd.func167 (by kernel_rfl) rfl fun Q hQ hQ2 => ?_; rw [Tryd.ntmps167]; simp only [u, i64, Nat.reduceSub, Nat.reduceAdd, bm]
            repeat (first | ((first | refine Gs ?_ | refine Gr ?_); simp (disch := omega) only [u, i64, ax, eq_self, if_true, if_false, Nat.reduceAdd, Int.reduceToNat, Int.reduceAdd, tvs, bs]; first | refine aA ?_ | ((first | refine cR hF ?_ | refine cR hD ?_); simp (disch := omega) only [u, i64, ax, eq_self, if_true, if_false, Nat.reduceAdd, Int.reduceToNat, Int.reduceAdd, tvs, bs]; try refine aA ?_)) | ((first | refine cR hF ?_ | refine cR hD ?_); simp (disch := omega) only [u, i64, ax, eq_self, if_true, if_false, Nat.reduceAdd, Int.reduceToNat, Int.reduceAdd, tvs, bs]; try refine aA ?_) | refine G_seq ?_ | refine G_block ?_ | refine G_condT rfl ?_ | refine G_condF rfl ?_ | refine G_skip ?_ | refine G_ret ?_ | refine G_exit ?_ | refine q_tn ?_ | refine q_tr ?_ | refine q_tx ?_ | refine q_bn ?_ | refine q_br ?_ | refine q_bx ?_ | refine q_by (by decide) ?_)
            ((first | refine Gs ?_ | refine Gr ?_); simp (disch := omega) only [u, i64, ax, eq_self, if_true, if_false, Nat.reduceAdd, Int.reduceToNat, Int.reduceAdd, tvs, bs])
            rw [← hst, hcast]
            repeat (first | ((first | refine Gs ?_ | refine Gr ?_); simp (disch := omega) only [u, i64, ax, eq_self, if_true, if_false, Nat.reduceAdd, Int.reduceToNat, Int.reduceAdd, tvs, bs]; first | refine aA ?_ | ((first | refine cR hTk ?_ | refine cR hDM ?_ | refine cR hCm ?_ | refine cR hUp ?_ | refine cR hTp ?_ | refine cR hCp ?_ | refine cR hZN ?_); simp (disch := omega) only [u, i64, ax, eq_self, if_true, if_false, Nat.reduceAdd, Int.reduceToNat, Int.reduceAdd, tvs, bs]; try refine aA ?_)) | ((first | refine cR hTk ?_ | refine cR hDM ?_ | refine cR hCm ?_ | refine cR hUp ?_ | refine cR hTp ?_ | refine cR hCp ?_ | refine cR hZN ?_); simp (disch := omega) only [u, i64, ax, eq_self, if_true, if_false, Nat.reduceAdd, Int.reduceToNat, Int.reduceAdd, tvs, bs]; try refine aA ?_) | refine G_seq ?_ | refine G_block ?_ | refine G_condT rfl ?_ | refine G_condF rfl ?_ | refine G_skip ?_ | refine G_ret ?_ | refine G_exit ?_ | refine q_tn ?_ | refine q_tr ?_ | refine q_tx ?_ | refine q_bn ?_ | refine q_br ?_ | refine q_bx ?_ | refine q_by (by decide) ?_)
            rw [hor]
            (refine FinQ hQ (congrArg Array.toList Tryd.results167) _ _ ?_); simp (disch := omega) only [u, i64, ax, if_true, forall_const, reduceCtorEq, implies_true, tvs, bf]
            all_goals rfl
          · rw [if_neg ha]
            refine RetN_start Tryd.func167 (by kernel_rfl) rfl fun Q hQ hQ2 => ?_; rw [Tryd.ntmps167]; simp only [u, i64, Nat.reduceSub, Nat.reduceAdd, bm]
            repeat (first | ((first | refine Gs ?_ | refine Gr ?_); simp (disch := omega) only [u, i64, ax, eq_self, if_true, if_false, Nat.reduceAdd, Int.reduceToNat, Int.reduceAdd, tvs, bs]; first | refine aA ?_ | ((first | refine cR hF ?_ | refine cR hD ?_); simp (disch := omega) only [u, i64, ax, eq_self, if_true, if_false, Nat.reduceAdd, Int.reduceToNat, Int.reduceAdd, tvs, bs]; try refine aA ?_)) | ((first | refine cR hF ?_ | refine cR hD ?_); simp (disch := omega) only [u, i64, ax, eq_self, if_true, if_false, Nat.reduceAdd, Int.reduceToNat, Int.reduceAdd, tvs, bs]; try refine aA ?_) | refine G_seq ?_ | refine G_block ?_ | refine G_condT rfl ?_ | refine G_condF rfl ?_ | refine G_skip ?_ | refine G_ret ?_ | refine G_exit ?_ | refine q_tn ?_ | refine q_tr ?_ | refine q_tx ?_ | refine q_bn ?_ | refine q_br ?_ | refine q_bx ?_ | refine q_by (by decide) ?_)
            ((first | refine Gs ?_ | refine Gr ?_); simp (disch := omega) only [u, i64, ax, eq_self, if_true, if_false, Nat.reduceAdd, Int.reduceToNat, Int.reduceAdd, tvs, bs])
            rw [← hst, hcast]
            repeat (first | ((first | refine Gs ?_ | refine Gr ?_); simp (disch := omega) only [u, i64, ax, eq_self, if_true, if_false, Nat.reduceAdd, Int.reduceToNat, Int.reduceAdd, tvs, bs]; first | refine aA ?_ | ((first | refine cR hTk ?_ | refine cR hDM ?_ | refine cR hCm ?_ | refine cR hUp ?_ | refine cR hTp ?_ | refine cR hCp ?_ | refine cR hZN ?_); simp (disch := omega) only [u, i64, ax, eq_self, if_true, if_false, Nat.reduceAdd, Int.reduceToNat, Int.reduceAdd, tvs, bs]; try refine aA ?_)) | ((first | refine cR hTk ?_ | refine cR hDM ?_ | refine cR hCm ?_ | refine cR hUp ?_ | refine cR hTp ?_ | refine cR hCp ?_ | refine cR hZN ?_); simp (disch := omega) only [u, i64, ax, eq_self, if_true, if_false, Nat.reduceAdd, Int.reduceToNat, Int.reduceAdd, tvs, bs]; try refine aA ?_) | refine G_seq ?_ | refine G_block ?_ | refine G_condT rfl ?_ | refine G_condF rfl ?_ | refine G_skip ?_ | refine G_ret ?_ | refine G_exit ?_ | refine q_tn ?_ | refine q_tr ?_ | refine q_tx ?_ | refine q_bn ?_ | refine q_br ?_ | refine q_bx ?_ | refine q_by (by decide) ?_)
            (refine FinQ hQ (congrArg Array.toList Tryd.results167) _ _ ?_); simp (disch := omega) only [u, i64, ax, if_true, forall_const, reduceCtorEq, implies_true, tvs, bf]
            all_goals rfl
        · rw [decF b4] at hZN
          have hd1N := (dg_spec _ b4).2.2
          by_cases b5 : g < s + dg N - 1
          · rw [if_pos ⟨b4, b5⟩]
            generalize overD p g r neg = y at *
            unfold fdv at *
            refine RetN_start Tryd.func167 (by kernel_rfl) rfl fun Q hQ hQ2 => ?_; rw [Tryd.ntmps167]; simp only [u, i64, Nat.reduceSub, Nat.reduceAdd, bm]
            repeat (first | ((first | refine Gs ?_ | refine Gr ?_); simp (disch := omega) only [u, i64, ax, eq_self, if_true, if_false, Nat.reduceAdd, Int.reduceToNat, Int.reduceAdd, tvs, bs]; first | refine aA ?_ | ((first | refine cR hF ?_ | refine cR hD ?_); simp (disch := omega) only [u, i64, ax, eq_self, if_true, if_false, Nat.reduceAdd, Int.reduceToNat, Int.reduceAdd, tvs, bs]; try refine aA ?_)) | ((first | refine cR hF ?_ | refine cR hD ?_); simp (disch := omega) only [u, i64, ax, eq_self, if_true, if_false, Nat.reduceAdd, Int.reduceToNat, Int.reduceAdd, tvs, bs]; try refine aA ?_) | refine G_seq ?_ | refine G_block ?_ | refine G_condT rfl ?_ | refine G_condF rfl ?_ | refine G_skip ?_ | refine G_ret ?_ | refine G_exit ?_ | refine q_tn ?_ | refine q_tr ?_ | refine q_tx ?_ | refine q_bn ?_ | refine q_br ?_ | refine q_bx ?_ | refine q_by (by decide) ?_)
            ((first | refine Gs ?_ | refine Gr ?_); simp (disch := omega) only [u, i64, ax, eq_self, if_true, if_false, Nat.reduceAdd, Int.reduceToNat, Int.reduceAdd, tvs, bs])
            rw [← hst, hcast]
            repeat (first | ((first | refine Gs ?_ | refine Gr ?_); simp (disch := omega) only [u, i64, ax, eq_self, if_true, if_false, Nat.reduceAdd, Int.reduceToNat, Int.reduceAdd, tvs, bs]; first | refine aA ?_ | ((first | refine cR hTk ?_ | refine cR hDM ?_ | refine cR hCm ?_ | refine cR hUp ?_ | refine cR hTp ?_ | refine cR hCp ?_ | refine cR hZN ?_ | refine cR hDN ?_ | refine cR hO ?_); simp (disch := omega) only [u, i64, ax, eq_self, if_true, if_false, Nat.reduceAdd, Int.reduceToNat, Int.reduceAdd, tvs, bs]; try refine aA ?_)) | ((first | refine cR hTk ?_ | refine cR hDM ?_ | refine cR hCm ?_ | refine cR hUp ?_ | refine cR hTp ?_ | refine cR hCp ?_ | refine cR hZN ?_ | refine cR hDN ?_ | refine cR hO ?_); simp (disch := omega) only [u, i64, ax, eq_self, if_true, if_false, Nat.reduceAdd, Int.reduceToNat, Int.reduceAdd, tvs, bs]; try refine aA ?_) | refine G_seq ?_ | refine G_block ?_ | refine G_condT rfl ?_ | refine G_condF rfl ?_ | refine G_skip ?_ | refine G_ret ?_ | refine G_exit ?_ | refine q_tn ?_ | refine q_tr ?_ | refine q_tx ?_ | refine q_bn ?_ | refine q_br ?_ | refine q_bx ?_ | refine q_by (by decide) ?_)
            (refine FinQ hQ (congrArg Array.toList Tryd.results167) _ _ ?_); simp (disch := omega) only [u, i64, ax, if_true, forall_const, reduceCtorEq, implies_true, tvs, bf]
            all_goals rfl
          · rw [if_neg (fun h => b5 h.2)]
            unfold fdv
            by_cases ha : exp + dg mag - 1 < 1 - g
            · rw [if_pos ha]
              refine RetN_start Tryd.func167 (by kernel_rfl) rfl fun Q hQ hQ2 => ?_; rw [Tryd.ntmps167]; simp only [u, i64, Nat.reduceSub, Nat.reduceAdd, bm]
              repeat (first | ((first | refine Gs ?_ | refine Gr ?_); simp (disch := omega) only [u, i64, ax, eq_self, if_true, if_false, Nat.reduceAdd, Int.reduceToNat, Int.reduceAdd, tvs, bs]; first | refine aA ?_ | ((first | refine cR hF ?_ | refine cR hD ?_); simp (disch := omega) only [u, i64, ax, eq_self, if_true, if_false, Nat.reduceAdd, Int.reduceToNat, Int.reduceAdd, tvs, bs]; try refine aA ?_)) | ((first | refine cR hF ?_ | refine cR hD ?_); simp (disch := omega) only [u, i64, ax, eq_self, if_true, if_false, Nat.reduceAdd, Int.reduceToNat, Int.reduceAdd, tvs, bs]; try refine aA ?_) | refine G_seq ?_ | refine G_block ?_ | refine G_condT rfl ?_ | refine G_condF rfl ?_ | refine G_skip ?_ | refine G_ret ?_ | refine G_exit ?_ | refine q_tn ?_ | refine q_tr ?_ | refine q_tx ?_ | refine q_bn ?_ | refine q_br ?_ | refine q_bx ?_ | refine q_by (by decide) ?_)
              ((first | refine Gs ?_ | refine Gr ?_); simp (disch := omega) only [u, i64, ax, eq_self, if_true, if_false, Nat.reduceAdd, Int.reduceToNat, Int.reduceAdd, tvs, bs])
              rw [← hst, hcast]
              repeat (first | ((first | refine Gs ?_ | refine Gr ?_); simp (disch := omega) only [u, i64, ax, eq_self, if_true, if_false, Nat.reduceAdd, Int.reduceToNat, Int.reduceAdd, tvs, bs]; first | refine aA ?_ | ((first | refine cR hTk ?_ | refine cR hDM ?_ | refine cR hCm ?_ | refine cR hUp ?_ | refine cR hTp ?_ | refine cR hCp ?_ | refine cR hZN ?_ | refine cR hDN ?_); simp (disch := omega) only [u, i64, ax, eq_self, if_true, if_false, Nat.reduceAdd, Int.reduceToNat, Int.reduceAdd, tvs, bs]; try refine aA ?_)) | ((first | refine cR hTk ?_ | refine cR hDM ?_ | refine cR hCm ?_ | refine cR hUp ?_ | refine cR hTp ?_ | refine cR hCp ?_ | refine cR hZN ?_ | refine cR hDN ?_); simp (disch := omega) only [u, i64, ax, eq_self, if_true, if_false, Nat.reduceAdd, Int.reduceToNat, Int.reduceAdd, tvs, bs]; try refine aA ?_) | refine G_seq ?_ | refine G_block ?_ | refine G_condT rfl ?_ | refine G_condF rfl ?_ | refine G_skip ?_ | refine G_ret ?_ | refine G_exit ?_ | refine q_tn ?_ | refine q_tr ?_ | refine q_tx ?_ | refine q_bn ?_ | refine q_br ?_ | refine q_bx ?_ | refine q_by (by decide) ?_)
              rw [hor]
              (refine FinQ hQ (congrArg Array.toList Tryd.results167) _ _ ?_); simp (disch := omega) only [u, i64, ax, if_true, forall_const, reduceCtorEq, implies_true, tvs, bf]
              all_goals rfl
            · rw [if_neg ha]
              refine RetN_start Tryd.func167 (by kernel_rfl) rfl fun Q hQ hQ2 => ?_; rw [Tryd.ntmps167]; simp only [u, i64, Nat.reduceSub, Nat.reduceAdd, bm]
              repeat (first | ((first | refine Gs ?_ | refine Gr ?_); simp (disch := omega) only [u, i64, ax, eq_self, if_true, if_false, Nat.reduceAdd, Int.reduceToNat, Int.reduceAdd, tvs, bs]; first | refine aA ?_ | ((first | refine cR hF ?_ | refine cR hD ?_); simp (disch := omega) only [u, i64, ax, eq_self, if_true, if_false, Nat.reduceAdd, Int.reduceToNat, Int.reduceAdd, tvs, bs]; try refine aA ?_)) | ((first | refine cR hF ?_ | refine cR hD ?_); simp (disch := omega) only [u, i64, ax, eq_self, if_true, if_false, Nat.reduceAdd, Int.reduceToNat, Int.reduceAdd, tvs, bs]; try refine aA ?_) | refine G_seq ?_ | refine G_block ?_ | refine G_condT rfl ?_ | refine G_condF rfl ?_ | refine G_skip ?_ | refine G_ret ?_ | refine G_exit ?_ | refine q_tn ?_ | refine q_tr ?_ | refine q_tx ?_ | refine q_bn ?_ | refine q_br ?_ | refine q_bx ?_ | refine q_by (by decide) ?_)
              ((first | refine Gs ?_ | refine Gr ?_); simp (disch := omega) only [u, i64, ax, eq_self, if_true, if_false, Nat.reduceAdd, Int.reduceToNat, Int.reduceAdd, tvs, bs])
              rw [← hst, hcast]
              repeat (first | ((first | refine Gs ?_ | refine Gr ?_); simp (disch := omega) only [u, i64, ax, eq_self, if_true, if_false, Nat.reduceAdd, Int.reduceToNat, Int.reduceAdd, tvs, bs]; first | refine aA ?_ | ((first | refine cR hTk ?_ | refine cR hDM ?_ | refine cR hCm ?_ | refine cR hUp ?_ | refine cR hTp ?_ | refine cR hCp ?_ | refine cR hZN ?_ | refine cR hDN ?_); simp (disch := omega) only [u, i64, ax, eq_self, if_true, if_false, Nat.reduceAdd, Int.reduceToNat, Int.reduceAdd, tvs, bs]; try refine aA ?_)) | ((first | refine cR hTk ?_ | refine cR hDM ?_ | refine cR hCm ?_ | refine cR hUp ?_ | refine cR hTp ?_ | refine cR hCp ?_ | refine cR hZN ?_ | refine cR hDN ?_); simp (disch := omega) only [u, i64, ax, eq_self, if_true, if_false, Nat.reduceAdd, Int.reduceToNat, Int.reduceAdd, tvs, bs]; try refine aA ?_) | refine G_seq ?_ | refine G_block ?_ | refine G_condT rfl ?_ | refine G_condF rfl ?_ | refine G_skip ?_ | refine G_ret ?_ | refine G_exit ?_ | refine q_tn ?_ | refine q_tr ?_ | refine q_tx ?_ | refine q_bn ?_ | refine q_br ?_ | refine q_bx ?_ | refine q_by (by decide) ?_)
              (refine FinQ hQ (congrArg Array.toList Tryd.results167) _ _ ?_); simp (disch := omega) only [u, i64, ax, if_true, forall_const, reduceCtorEq, implies_true, tvs, bf]
              all_goals rfl
end Go.Proofs
