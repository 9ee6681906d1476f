/-
  Contracts of functions of the program, each proved by a walk.
-/
import Derived.Test.YtpnljnmpocobjaaGreatDoorX28
set_option maxRecDepth 100000
set_option linter.unusedVariables false
set_option linter.unusedSimpArgs false
set_option maxHeartbeats 4000000
namespace Go.Proofs
open Go.Ax
/-- How many factors 5 a number has. -/
def fvn (n : Nat) : Nat := if h : n ≠ 0 ∧ n % 5 = 0 then fvn (n / 5) + 1 else 0
decreasing_by omega
theorem fvn_done {m : Nat} (h : m % 5 ≠ 0) : fvn m = 0 := by unfold fvn; rw [dif_neg (by omega)]
theorem fvn_mul (m k : Nat) (h : m % 5 ≠ 0) : fvn (m * 5 ^ k) = k := by
  induction k with
  | zero => rw [Nat.pow_zero, Nat.mul_one]; exact fvn_done h
  | succ k ih =>
    have hp : 0 < 5 ^ k := Nat.pow_pos (by decide)
    have h0 : 0 < m * 5 ^ k := Nat.mul_pos (by omega) hp
    unfold fvn
    rw [Nat.pow_succ, ← Nat.mul_assoc, dif_pos ⟨by omega, by omega⟩, Nat.mul_div_cancel _ (by decide), ih]
theorem fvn_spec (n : Nat) : n ≠ 0 → ∃ m, n = m * 5 ^ fvn n ∧ m % 5 ≠ 0 := by
  induction n using Nat.strongRecOn with
  | _ n ih =>
    intro h
    unfold fvn
    by_cases h0 : n % 5 = 0
    · rw [dif_pos ⟨h, h0⟩]
      obtain ⟨m, h1, h2⟩ := ih (n / 5) (by omega) (by omega)
      refine ⟨m, ?_, h2⟩
      rw [Nat.pow_succ, ← Nat.mul_assoc, ← h1]
      omega
    · rw [dif_neg (by omega)]
      exact ⟨n, by simp, h0⟩
theorem ten_ge (k : Nat) : 2 ^ (93 * (k / 28)) ≤ 10 ^ k := by
  have h : 2 ^ 93 ≤ 10 ^ 28 := by decide +kernel
  calc 2 ^ (93 * (k / 28)) = (2 ^ 93) ^ (k / 28) := Nat.pow_mul ..
    _ ≤ (10 ^ 28) ^ (k / 28) := Nat.pow_le_pow_left h _
    _ = 10 ^ (28 * (k / 28)) := (Nat.pow_mul ..).symm
    _ ≤ 10 ^ k := Nat.pow_le_pow_right (by decide) (by omega)
/-- What is left of the two factors. -/
def tw (m k : Nat) : Nat := min (tz m) k
def fi (m k : Nat) : Nat := min (fvn (m / 2 ^ tw m k)) k
def prN (c : Nat) (e : Int) : Nat := if 0 ≤ e + st c then sm c * 10 ^ (e + st c).toNat else sm c / 2 ^ tw (sm c) (-(e + st c)).toNat / 5 ^ fi (sm c) (-(e + st c)).toNat
def prD (c : Nat) (e : Int) : Nat := if 0 ≤ e + st c then 1 else 5 ^ ((-(e + st c)).toNat - fi (sm c) (-(e + st c)).toNat) * 2 ^ ((-(e + st c)).toNat - tw (sm c) (-(e + st c)).toNat)
theorem tw_spec {m : Nat} (k : Nat) (h : m ≠ 0) : m = m / 2 ^ tw m k * 2 ^ tw m k ∧ (tw m k = k ∨ m / 2 ^ tw m k % 2 = 1) ∧ tw m k ≤ k := by
  obtain ⟨j, hj⟩ := tz_spec h
  have hle : tw m k ≤ tz m := Nat.min_le_left _ _
  have hdvd : 2 ^ tw m k ∣ m := Nat.dvd_trans (Nat.pow_dvd_pow 2 hle) ⟨2 * j + 1, hj⟩
  refine ⟨(Nat.div_mul_cancel hdvd).symm, ?_, Nat.min_le_right _ _⟩
  by_cases hk : tz m ≤ k
  · right
    have e : tw m k = tz m := Nat.min_eq_left hk
    rw [e]
    have : m / 2 ^ tz m = 2 * j + 1 := by
      conv => lhs; arg 1; rw [hj]
      exact Nat.mul_div_cancel_left _ (Nat.two_pow_pos _)
    omega
  · left
    exact Nat.min_eq_right (by omega)
theorem fi_spec {m : Nat} (k : Nat) (h : m / 2 ^ tw m k ≠ 0) : m / 2 ^ tw m k = m / 2 ^ tw m k / 5 ^ fi m k * 5 ^ fi m k ∧ (fi m k = k ∨ m / 2 ^ tw m k / 5 ^ fi m k % 5 ≠ 0) ∧ fi m k ≤ k := by
  unfold fi
  generalize m / 2 ^ tw m k = n at *
  obtain ⟨j, hj, hj2⟩ := fvn_spec n h
  have hle : min (fvn n) k ≤ fvn n := Nat.min_le_left _ _
  have hdvd : 5 ^ min (fvn n) k ∣ n := by
    conv => rhs; rw [hj]
    exact Nat.dvd_trans (Nat.pow_dvd_pow 5 hle) (Nat.dvd_mul_left _ _)
  refine ⟨(Nat.div_mul_cancel hdvd).symm, ?_, Nat.min_le_right _ _⟩
  by_cases hk : fvn n ≤ k
  · right
    rw [Nat.min_eq_left hk]
    have : n / 5 ^ fvn n = j := by
      conv => lhs; arg 1; rw [hj]
      exact Nat.mul_div_cancel _ (Nat.pow_pos (by decide))
    rw [this]
    exact hj2
  · left
    exact Nat.min_eq_right (by omega)
theorem cop_two {n : Nat} (h : n % 2 = 1) (j : Nat) : Nat.Coprime n (2 ^ j) := by
  refine Nat.Coprime.pow_right j ?_
  unfold Nat.Coprime
  rw [Nat.gcd_comm, Nat.gcd_rec, h]
  decide
theorem cop_five {n : Nat} (h : n % 5 ≠ 0) (j : Nat) : Nat.Coprime n (5 ^ j) := by
  refine Nat.Coprime.pow_right j ?_
  unfold Nat.Coprime
  rw [Nat.gcd_comm, Nat.gcd_rec]
  have : n % 5 = 1 ∨ n % 5 = 2 ∨ n % 5 = 3 ∨ n % 5 = 4 := by omega
  rcases this with h | h | h | h <;> rw [h] <;> decide
theorem odd_of_mul {a b : Nat} (h : a * b % 2 = 1) : a % 2 = 1 := by
  rcases Nat.mod_two_eq_zero_or_one a with h0 | h1
  · rw [Nat.mul_mod, h0, Nat.zero_mul] at h; cases h
  · exact h1
/-- The parts are in lowest terms, and have the value. -/
theorem parts_spec {c : Nat} (e : Int) (hc : c ≠ 0) : prN c e * 10 ^ (-e).toNat = c * 10 ^ e.toNat * prD c e ∧ Nat.gcd (prN c e) (prD c e) = 1 ∧ prN c e ≠ 0 ∧ prD c e ≠ 0 := by
  obtain ⟨m1, m2⟩ := sm_mul hc
  have m0 := sm_ne hc
  unfold prN prD
  by_cases h : 0 ≤ e + st c
  · rw [if_pos h, if_pos h]
    refine ⟨?_, Nat.gcd_one_right _, Nat.mul_ne_zero m0 (Nat.ne_of_gt (ten_pos _)), by decide⟩
    rw [Nat.mul_one]
    conv => rhs; arg 1; rw [m1]
    rw [Nat.mul_assoc, Nat.mul_assoc, ← Nat.pow_add, ← Nat.pow_add]
    congr 2
    omega
  · rw [if_neg h, if_neg h]
    generalize hk : (-(e + (st c : Int))).toNat = k
    obtain ⟨a1, a2, a3⟩ := tw_spec k m0
    have n0 : sm c / 2 ^ tw (sm c) k ≠ 0 := fun h0 => by rw [h0, Nat.zero_mul] at a1; exact m0 a1
    obtain ⟨b1, b2, b3⟩ := fi_spec k n0
    generalize tw (sm c) k = t at *
    generalize fi (sm c) k = f at *
    generalize sm c / 2 ^ t = m1' at *
    generalize m1' / 5 ^ f = m2' at *
    have p5 : 0 < 5 ^ (k - f) := Nat.pow_pos (by decide)
    have p2 : 0 < 2 ^ (k - t) := Nat.pow_pos (by decide)
    have hten : 10 ^ k = 5 ^ (k - f) * 2 ^ (k - t) * (5 ^ f * 2 ^ t) := by
      calc 10 ^ k = 5 ^ k * 2 ^ k := (ten_eq k).symm
        _ = 5 ^ (k - f + f) * 2 ^ (k - t + t) := by rw [Nat.sub_add_cancel b3, Nat.sub_add_cancel a3]
        _ = _ := by rw [Nat.pow_add, Nat.pow_add]; simp only [Nat.mul_assoc, Nat.mul_comm, Nat.mul_left_comm]
    have hsm : sm c = m2' * (5 ^ f * 2 ^ t) := by rw [a1, b1, Nat.mul_assoc]
    refine ⟨?_, ?_, ?_, Nat.ne_of_gt (Nat.mul_pos p5 p2)⟩
    · have e0 : e.toNat = 0 := by omega
      have e1 : (-e).toNat = k + st c := by omega
      rw [e0, e1, Nat.pow_zero, Nat.mul_one, Nat.pow_add, hten]
      conv => rhs; arg 1; rw [m1, hsm]
      simp only [Nat.mul_assoc, Nat.mul_comm, Nat.mul_left_comm]
    · refine Nat.Coprime.mul_right ?_ ?_
      · rcases b2 with b2 | b2
        · rw [b2, Nat.sub_self, Nat.pow_zero]; exact Nat.gcd_one_right _
        · exact cop_five b2 _
      · rcases a2 with a2 | a2
        · rw [a2, Nat.sub_self, Nat.pow_zero]; exact Nat.gcd_one_right _
        · rw [b1] at a2
          exact cop_two (odd_of_mul a2) _
    · intro h0
      rw [h0, Nat.zero_mul] at b1
      exact n0 b1
/-- Fractions in lowest terms are what they are. -/
theorem low_uniq {a b n d : Nat} (hb : b ≠ 0) (h : a * d = n * b) (hc : Nat.gcd n d = 1) (hn : n ≠ 0) : a / Nat.gcd a b = n ∧ b / Nat.gcd a b = d := by
  have h1 : n ∣ a := by
    have : n ∣ a * d := ⟨b, h⟩
    exact Nat.Coprime.dvd_of_dvd_mul_right hc this
  obtain ⟨w, rfl⟩ := h1
  have h2 : b = d * w := by
    have : n * (w * d) = n * b := by rw [← Nat.mul_assoc]; exact h
    rw [← Nat.eq_of_mul_eq_mul_left (by omega) this, Nat.mul_comm]
  subst h2
  have hw : 0 < w := Nat.pos_of_ne_zero fun h0 => hb (by rw [h0, Nat.mul_zero])
  rw [Nat.gcd_mul_right, hc, Nat.one_mul]
  exact ⟨Nat.mul_div_cancel _ hw, Nat.mul_div_cancel _ hw⟩
theorem five_pos (k : Nat) : 0 < 5 ^ k := Nat.pow_pos (by decide)
theorem ret_fives (n : Nat) (h0 : n ≠ 0) (hl : (words n).length ≤ 2000) : Ret Tryz.prog GEs 220 [nat n] (i64 (fvn n)) := by
  have hw5 : (words 5).length ≤ 1 := length_le (by decide)
  have hD : ∀ x, (words x).length ≤ 2000 → Ret Tryz.prog GEs 157 [nat x, .lst 1 [.int .u64 5]] (.tup [nat (x / 5), nat (x % 5)]) := fun x hx => by
    have := ret_DivMod (words x) (words 5) (Wd_words _) (Wd_words _) (by omega) (by omega) (by rw [val_words]; decide)
    rw [val_words, val_words] at this
    rw [← words5]
    exact this
  have hZ : ∀ x, (words x).length ≤ 2000 → Ret Tryz.prog GEs 74 [nat x] (.bool (decide (x = 0))) := fun x hx => by
    have := ret_Zero (words x) (Wd_words _) (by omega)
    rwa [val_words] at this
  have hbn := bl_len n
  refine RetN_start Tryz.func220 (by kernel_rfl) rfl fun Q hQ hQ2 => ?_; rw [Tryz.ntmps220]; simp only [u, i64, Nat.reduceSub, Nat.reduceAdd, bm]
  (refine gO ?_)
  refine AWp_loop (fun i : Nat × Nat => mk 19 [(0, nat i.1), (2, i64 0), (3, i64 i.2)] []) (fun i => i.1 * 5 ^ i.2 = n) (fun i => i.1) (n, 0) ?_ (by simp) ?_
  · simp only [u, i64, Nat.reduceSub, Nat.reduceAdd, bm]
  rintro ⟨x, j⟩ hx
  simp only at hx
  simp only [u, i64, Nat.reduceSub, Nat.reduceAdd, bm]
  have hx0 : x ≠ 0 := fun h => by rw [h, Nat.zero_mul] at hx; exact h0 hx.symm
  have hxn : x ≤ n := by rw [← hx]; exact Nat.le_mul_of_pos_right _ (five_pos j)
  have hxl := Nat.le_trans (length_mono hxn) hl
  have hj : j ≤ 1000000 := by
    have h1 : 2 ^ j ≤ n := by
      rw [← hx]
      exact Nat.le_trans (Nat.pow_le_pow_left (by decide) j) (Nat.le_mul_of_pos_left _ (Nat.pos_of_ne_zero hx0))
    have := bl_ge h1
    omega
  have hD1 := hD x hxl
  have hZ1 := hZ (x % 5) (Nat.le_trans (length_mono (Nat.mod_le x 5)) hxl)
  clear hD hZ
  by_cases c : x % 5 = 0
  · rw [decT c] at hZ1
    have hq : x / 5 * 5 ^ (j + 1) = n := by
      rw [Nat.pow_succ, Nat.mul_comm (5 ^ j), ← Nat.mul_assoc, Nat.div_mul_cancel (Nat.dvd_of_mod_eq_zero c)]
      exact hx
    have hlt : x / 5 < x := by omega
    generalize x % 5 = y at *
    generalize x / 5 = z at *
    repeat (first | (refine gC ?_; first | refine aA ?_ | ((first | refine cR hD1 ?_ | refine cR hZ1 ?_); refine sX ?_; try refine aA ?_)) | ((first | refine cR hD1 ?_ | refine cR hZ1 ?_); refine sX ?_; try refine aA ?_) | refine gS ?_)
    refine ⟨(z, j + 1), ?_, hq, hlt⟩
    simp only [u, i64, Nat.reduceSub, Nat.reduceAdd, bm]
  · rw [decF c] at hZ1
    have hf : fvn n = j := by rw [← hx]; exact fvn_mul x j c
    rw [hf] at hQ
    generalize x % 5 = y at *
    generalize x / 5 = z at *
    repeat (first | (refine gC ?_; first | refine aA ?_ | ((first | refine cR hD1 ?_ | refine cR hZ1 ?_); refine sX ?_; try refine aA ?_)) | ((first | refine cR hD1 ?_ | refine cR hZ1 ?_); refine sX ?_; try refine aA ?_) | refine gS ?_)
    (refine FinQ hQ (congrArg Array.toList Tryz.results220) _ _ ?_); simp (disch := omega) only [u, i64, ax, if_true, forall_const, reduceCtorEq, implies_true, tvs, bf]
set_option maxHeartbeats 8000000 in
/-- The parts of a number that is not 0. -/
theorem ret_Parts (neg : Bool) (c : Nat) (e : Int) (hc : c ≠ 0) (hl : (words c).length ≤ 40) (he : -1000000 ≤ e ∧ e ≤ 1000000) :
    Ret Tryz.prog GEs 153 [dv ⟨0, neg, c, e⟩] (if 90000 < e + st c ∨ e + st c < -200000 then .tup [.lst 0 [], .lst 0 [], .bool false] else .tup [nat (prN c e), nat (prD c e), .bool true]) := by
  have hZ := ret_dzero ⟨0, neg, c, e⟩ (by show 0 ≤ 2; decide) (by show (words c).length ≤ 100000; omega)
  rw [decF (show ¬ ((⟨0, neg, c, e⟩ : DV).kind = 0 ∧ (⟨0, neg, c, e⟩ : DV).coef = 0) from fun h => hc h.2)] at hZ
  have hS := ret_Strip (words c) (Wd_words _) (by omega) (by rw [val_words]; exact hc)
  rw [val_words] at hS
  have hds := dg_sm hc
  have hdb := dg_le_bl c
  have hbn := bl_len c
  have hsl := length_mono (sm_le c)
  have m0 := sm_ne hc
  by_cases h1 : 90000 < e + st c ∨ e + st c < -200000
  · rw [if_pos h1]
    generalize sm c = m at *
    generalize st c = t at *
    unfold dv at *
    simp only at *
    by_cases h2 : 90000 < e + t
    · refine RetN_start Tryz.func153 (by kernel_rfl) rfl fun Q hQ hQ2 => ?_; rw [Tryz.ntmps153]; simp only [u, i64, Nat.reduceSub, Nat.reduceAdd, bm]
      repeat (first | (refine gC ?_; first | refine aA ?_ | ((first | refine cR hZ ?_ | refine cR hS ?_); refine sX ?_; try refine aA ?_)) | ((first | refine cR hZ ?_ | refine cR hS ?_); refine sX ?_; try refine aA ?_) | refine gS ?_)
      (refine FinQ hQ (congrArg Array.toList Tryz.results153) _ _ ?_); simp (disch := omega) only [u, i64, ax, if_true, forall_const, reduceCtorEq, implies_true, tvs, bf]
    · have h3 : e + t < -200000 := by omega
      refine RetN_start Tryz.func153 (by kernel_rfl) rfl fun Q hQ hQ2 => ?_; rw [Tryz.ntmps153]; simp only [u, i64, Nat.reduceSub, Nat.reduceAdd, bm]
      repeat (first | (refine gC ?_; first | refine aA ?_ | ((first | refine cR hZ ?_ | refine cR hS ?_); refine sX ?_; try refine aA ?_)) | ((first | refine cR hZ ?_ | refine cR hS ?_); refine sX ?_; try refine aA ?_) | refine gS ?_)
      (refine FinQ hQ (congrArg Array.toList Tryz.results153) _ _ ?_); simp (disch := omega) only [u, i64, ax, if_true, forall_const, reduceCtorEq, implies_true, tvs, bf]
  · rw [if_neg h1]
    unfold prN prD
    by_cases h2 : 0 ≤ e + st c
    · rw [if_pos h2, if_pos h2]
      have hE : e + (st c : Int) = (((e + st c).toNat : Nat) : Int) := by omega
      have hkb : (e + (st c : Int)).toNat ≤ 90000 := by omega
      generalize (e + (st c : Int)).toNat = k at *
      have hT := ret_Ten k (by omega)
      have htl := ten_len (k := k) (by omega)
      have hM := ret_Mul (words (sm c)) (words (10 ^ k)) (Wd_words _) (Wd_words _) (by omega) (by omega)
      rw [val_words, val_words] at hM
      rw [words1]
      generalize sm c * 10 ^ k = N at *
      generalize 10 ^ k = TT at *
      generalize sm c = m at *
      generalize st c = t at *
      unfold dv at *
      simp only at *
      refine RetN_start Tryz.func153 (by kernel_rfl) rfl fun Q hQ hQ2 => ?_; rw [Tryz.ntmps153]; simp only [u, i64, Nat.reduceSub, Nat.reduceAdd, bm]
      repeat (first | (refine gC ?_; first | refine aA ?_ | ((first | refine cR hZ ?_ | refine cR hS ?_); refine sX ?_; try refine aA ?_)) | ((first | refine cR hZ ?_ | refine cR hS ?_); refine sX ?_; try refine aA ?_) | refine gS ?_)
      rw [hE]
      repeat (first | (refine gC ?_; first | refine aA ?_ | ((first | refine cR hT ?_ | refine cR hM ?_); refine sX ?_; try refine aA ?_)) | ((first | refine cR hT ?_ | refine cR hM ?_); refine sX ?_; try refine aA ?_) | refine gS ?_)
      (refine FinQ hQ (congrArg Array.toList Tryz.results153) _ _ ?_); simp (disch := omega) only [u, i64, ax, if_true, forall_const, reduceCtorEq, implies_true, tvs, bf]
    · rw [if_neg h2, if_neg h2]
      have hE : (0 : Int) - (e + (st c : Int)) = (((-(e + st c)).toNat : Nat) : Int) := by omega
      have hkb : (-(e + (st c : Int))).toNat ≤ 200000 := by omega
      generalize hk : (-(e + (st c : Int))).toNat = k at *
      obtain ⟨a1, a2, a3⟩ := tw_spec k m0
      have n0 : sm c / 2 ^ tw (sm c) k ≠ 0 := fun h0 => by rw [h0, Nat.zero_mul] at a1; exact m0 a1
      obtain ⟨b1, b2, b3⟩ := fi_spec k n0
      have hTr := ret_Trailing (words (sm c)) (Wd_words _) (by omega)
      rw [val_words] at hTr
      have hmt : min (tz (sm c) : Int) (k : Int) = ((tw (sm c) k : Nat) : Int) := by unfold tw; omega
      have hSh := ret_Shr (words (sm c)) (tw (sm c) k) (Wd_words _) (by omega) (by omega)
      rw [val_words] at hSh
      have l1 := length_mono (Nat.div_le_self (sm c) (2 ^ tw (sm c) k))
      have hFv := ret_fives _ n0 (by omega)
      have hmf : min (fvn (sm c / 2 ^ tw (sm c) k) : Int) (k : Int) = ((fi (sm c) k : Nat) : Int) := by unfold fi; omega
      have p5l : ∀ j, j ≤ 200000 → (words (5 ^ j)).length ≤ 50000 := fun j hj => pow5_len (by omega)
      have h5 : (words 5).length ≤ 50000 := Nat.le_trans (length_le (k := 1) (by decide)) (by decide)
      have hP1 := ret_Pow 5 (fi (sm c) k) 50000 (by decide) (by omega) h5 (p5l _ (by omega)) (by decide)
      have hP2 := ret_Pow 5 (k - fi (sm c) k) 50000 (by decide) (by omega) h5 (p5l _ (by omega)) (by decide)
      rw [words5] at hP1 hP2
      have l2 := p5l (fi (sm c) k) (by omega)
      have l3 := p5l (k - fi (sm c) k) (by omega)
      have hDM := ret_DivMod (words (sm c / 2 ^ tw (sm c) k)) (words (5 ^ fi (sm c) k)) (Wd_words _) (Wd_words _) (by omega) (by omega) (by rw [val_words]; exact Nat.ne_of_gt (five_pos _))
      rw [val_words, val_words] at hDM
      have hSl := ret_Shl (words (5 ^ (k - fi (sm c) k))) (k - tw (sm c) k) (Wd_words _) (by omega) (by omega)
      rw [val_words] at hSl
      have e1 : (k : Int) - ((fi (sm c) k : Nat) : Int) = ((k - fi (sm c) k : Nat) : Int) := by omega
      have e2 : (k : Int) - ((tw (sm c) k : Nat) : Int) = ((k - tw (sm c) k : Nat) : Int) := by omega
      have hlt : ¬ (0 : Int) ≤ e + st c := h2
      clear a1 a2 b1 b2 n0 m0 hds hdb hbn l1 l2 l3 p5l h5 hsl
      generalize fi (sm c) k = f at *
      generalize tw (sm c) k = w at *
      generalize k - f = kf at *
      generalize k - w = kw at *
      generalize fvn (sm c / 2 ^ w) = fvq at *
      generalize sm c / 2 ^ w / 5 ^ f = X at *
      generalize sm c / 2 ^ w % 5 ^ f = Y at *
      generalize sm c / 2 ^ w = Z at *
      generalize 5 ^ kf * 2 ^ kw = DD at *
      generalize 5 ^ kf = P5 at *
      generalize 5 ^ f = P6 at *
      generalize tz (sm c) = tzz at *
      generalize sm c = m at *
      generalize st c = t at *
      unfold dv at *
      simp only at *
      refine RetN_start Tryz.func153 (by kernel_rfl) rfl fun Q hQ hQ2 => ?_; rw [Tryz.ntmps153]; simp only [u, i64, Nat.reduceSub, Nat.reduceAdd, bm]
      repeat (first | (refine gC ?_; first | refine aA ?_ | ((first | refine cR hZ ?_ | refine cR hS ?_ | refine cR hTr ?_); refine sX ?_; try refine aA ?_)) | ((first | refine cR hZ ?_ | refine cR hS ?_ | refine cR hTr ?_); refine sX ?_; try refine aA ?_) | refine gS ?_)
      rw [hE, hmt]
      repeat (first | (refine gC ?_; first | refine aA ?_ | ((first | refine cR hSh ?_ | refine cR hFv ?_); refine sX ?_; try refine aA ?_)) | ((first | refine cR hSh ?_ | refine cR hFv ?_); refine sX ?_; try refine aA ?_) | refine gS ?_)
      rw [hE, hmf]
      repeat (first | (refine gC ?_; first | refine aA ?_ | ((first | refine cR hP1 ?_ | refine cR hDM ?_); refine sX ?_; try refine aA ?_)) | ((first | refine cR hP1 ?_ | refine cR hDM ?_); refine sX ?_; try refine aA ?_) | refine gS ?_)
      (refine gC ?_)
      rw [hE, e1]
      (refine cR hP2 ?_; refine sX ?_; try refine aA ?_)
      rw [hE, e2]
      repeat (first | (refine gC ?_; first | refine aA ?_ | (refine cR hSl ?_; refine sX ?_; try refine aA ?_)) | (refine cR hSl ?_; refine sX ?_; try refine aA ?_) | refine gS ?_)
      (refine FinQ hQ (congrArg Array.toList Tryz.results153) _ _ ?_); simp (disch := omega) only [u, i64, ax, if_true, forall_const, reduceCtorEq, implies_true, tvs, bf]
set_option maxRecDepth 100000 in
theorem ret_Same (xs ys : List Nat) (hl : xs.length ≤ 1099511627776) (hl2 : ys.length ≤ 1099511627776) : Ret Tryz.prog GEs 182 [ws xs, ws ys] (.bool (decide (xs = ys))) := by
  refine RetN_start Tryz.func182 (by kernel_rfl) rfl fun Q hQ hQ2 => ?_; rw [Tryz.ntmps182]; simp only [u, i64, Nat.reduceSub, Nat.reduceAdd, bm]
  by_cases hlen : xs.length = ys.length
  · (refine gO ?_)
    refine AWp_loop (fun n : Nat => mk 26 [(0, ws xs), (1, ws ys), (5, i64 n)] []) (fun n => n ≤ xs.length ∧ ∀ i, i < n → xs.getD i 0 = ys.getD i 0) (fun n => xs.length - n) 0 ?_ ⟨Nat.zero_le _, fun i hi => by omega⟩ fun n hn => ?_
    · simp only [u, i64, Nat.reduceSub, Nat.reduceAdd, bm]
    simp only [u, i64, Nat.reduceSub, Nat.reduceAdd, bm]
    by_cases h : n < xs.length
    · by_cases he : xs.getD n 0 = ys.getD n 0
      · (refine gO ?_)
        refine ⟨n + 1, ?_, ⟨h, fun i hi => ?_⟩, by omega⟩
        · simp only [u, i64, Nat.reduceSub, Nat.reduceAdd, bm]
        · rcases Nat.lt_or_ge i n with h1 | h1
          · exact hn.2 i h1
          · rw [show i = n by omega]; exact he
      · (refine gO ?_)
        (refine FinQ hQ (congrArg Array.toList Tryz.results182) _ _ ?_); simp (disch := omega) only [u, i64, ax, if_true, forall_const, reduceCtorEq, implies_true, tvs, bf, decF (show ¬ xs = ys from fun h => he (by rw [h]))]
    · (refine gO ?_)
      (refine FinQ hQ (congrArg Array.toList Tryz.results182) _ _ ?_); simp (disch := omega) only [u, i64, ax, if_true, forall_const, reduceCtorEq, implies_true, tvs, bf, decT (eq_of_getD hlen fun i hi => hn.2 i (by omega))]
  · (refine gO ?_)
    (refine FinQ hQ (congrArg Array.toList Tryz.results182) _ _ ?_); simp (disch := omega) only [u, i64, ax, if_true, forall_const, reduceCtorEq, implies_true, tvs, bf, decF (show ¬ xs = ys from fun h => hlen (by rw [h]))]
set_option maxRecDepth 100000 in
theorem ret_rCanonical (n : Nat) (hl : (words n).length ≤ 34359738368) : Ret Tryz.prog GEs 181 [nat n] (.bool true) := by
  refine RetN_start Tryz.func181 (by kernel_rfl) rfl fun Q hQ hQ2 => ?_; rw [Tryz.ntmps181]; simp only [u, i64, Nat.reduceSub, Nat.reduceAdd, bm]
  by_cases h : 0 < (words n).length
  · have hne : words n ≠ [] := List.length_pos_iff.1 h
    have hc := Canon_words n hne
    rw [List.getLast_eq_getElem] at hc
    have hc2 : (words n).getD ((words n).length - 1) 0 ≠ 0 := by
      rw [List.getD_eq_getElem?_getD, List.getElem?_eq_getElem (by omega)]; exact hc
    (refine gO ?_)
    (refine FinQ hQ (congrArg Array.toList Tryz.results181) _ _ ?_); simp (disch := omega) only [u, i64, ax, if_true, forall_const, reduceCtorEq, implies_true, tvs, bf]
    all_goals simp
  · (refine gO ?_)
    (refine FinQ hQ (congrArg Array.toList Tryz.results181) _ _ ?_); simp (disch := omega) only [u, i64, ax, if_true, forall_const, reduceCtorEq, implies_true, tvs, bf]
theorem words_inj {a b : Nat} : words a = words b ↔ a = b := ⟨fun h => by rw [← val_words a, h, val_words], fun h => by rw [h]⟩
set_option maxRecDepth 100000 in
theorem ret_rIs (n : Nat) (ys : List Nat) (hy : Wd ys) (hl : (words n).length ≤ 34359738368) (hly : ys.length ≤ 34359738368) : Ret Tryz.prog GEs 96 [nat n, ws ys] (.bool (decide (n = val ys))) := by
  have hyl := length_words_val_le hy
  refine RetN_start Tryz.func96 (by kernel_rfl) rfl fun Q hQ hQ2 => ?_; rw [Tryz.ntmps96]; simp only [u, i64, Nat.reduceSub, Nat.reduceAdd, bm]
  (refine gO ?_)
  (refine gC ?_)
  (refine cR (ret_rCanonical n hl) ?_; refine sX ?_; try refine aA ?_)
  (refine cR (ret_rTrim ys hy hly) ?_; refine sX ?_; try refine aA ?_)
  (refine cR (ret_Same (words n) (words (val ys)) (by omega) (by omega)) ?_; refine sX ?_; try refine aA ?_)
  simp only [words_inj]
  (refine gO ?_)
  (refine FinQ hQ (congrArg Array.toList Tryz.results96) _ _ ?_); simp (disch := omega) only [u, i64, ax, if_true, forall_const, reduceCtorEq, implies_true, tvs, bf]
set_option maxRecDepth 100000 in
theorem ret_rDiv (xs ys : List Nat) (hx : Wd xs) (hy : Wd ys) (hne : val ys ≠ 0) (hlx : xs.length ≤ 34359738368) (hly : ys.length ≤ 34359738368) : Ret Tryz.prog GEs 179 [ws xs, ws ys] (nat (val xs / val ys)) := by
  refine RetN_start Tryz.func179 (by kernel_rfl) rfl fun Q hQ hQ2 => ?_; rw [Tryz.ntmps179]; simp only [u, i64, Nat.reduceSub, Nat.reduceAdd, bm]
  repeat (first | (refine gC ?_; first | refine aA ?_ | (refine cR (ret_rDivMod xs ys hx hy hne hlx hly) ?_; refine sX ?_; try refine aA ?_)) | (refine cR (ret_rDivMod xs ys hx hy hne hlx hly) ?_; refine sX ?_; try refine aA ?_) | refine gS ?_)
  (refine FinQ hQ (congrArg Array.toList Tryz.results179) _ _ ?_); simp (disch := omega) only [u, i64, ax, if_true, forall_const, reduceCtorEq, implies_true, tvs, bf]
set_option maxRecDepth 100000 in
theorem ret_rMod (xs ys : List Nat) (hx : Wd xs) (hy : Wd ys) (hne : val ys ≠ 0) (hlx : xs.length ≤ 34359738368) (hly : ys.length ≤ 34359738368) : Ret Tryz.prog GEs 236 [ws xs, ws ys] (nat (val xs % val ys)) := by
  refine RetN_start Tryz.func236 (by kernel_rfl) rfl fun Q hQ hQ2 => ?_; rw [Tryz.ntmps236]; simp only [u, i64, Nat.reduceSub, Nat.reduceAdd, bm]
  repeat (first | (refine gC ?_; first | refine aA ?_ | (refine cR (ret_rDivMod xs ys hx hy hne hlx hly) ?_; refine sX ?_; try refine aA ?_)) | (refine cR (ret_rDivMod xs ys hx hy hne hlx hly) ?_; refine sX ?_; try refine aA ?_) | refine gS ?_)
  (refine FinQ hQ (congrArg Array.toList Tryz.results236) _ _ ?_); simp (disch := omega) only [u, i64, ax, if_true, forall_const, reduceCtorEq, implies_true, tvs, bf]
set_option maxRecDepth 100000 in
theorem ret_Gcd (xs ys : List Nat) (hx : Wd xs) (hy : Wd ys) (hlx : xs.length ≤ 34359738368) (hly : ys.length ≤ 34359738368) : Ret Tryz.prog GEs 178 [ws xs, ws ys] (nat (Nat.gcd (val xs) (val ys))) := by
  have hxl := length_words_val_le hx
  refine RetN_start Tryz.func178 (by kernel_rfl) rfl fun Q hQ hQ2 => ?_; rw [Tryz.ntmps178]; simp only [u, i64, Nat.reduceSub, Nat.reduceAdd, bm]
  repeat (first | (refine gC ?_; first | refine aA ?_ | (refine cR (ret_rTrim xs hx hlx) ?_; refine sX ?_; try refine aA ?_)) | (refine cR (ret_rTrim xs hx hlx) ?_; refine sX ?_; try refine aA ?_) | refine gS ?_)
  refine AWp_loop (fun i : Nat × List Nat => mk 16 [(0, nat i.1), (1, ws i.2)] []) (fun i => Wd i.2 ∧ i.2.length ≤ 34359738368 ∧ (words i.1).length ≤ 34359738368 ∧ Nat.gcd i.1 (val i.2) = Nat.gcd (val xs) (val ys)) (fun i => val i.2) (val xs, ys) ?_ ⟨hy, hly, by simp only; omega, rfl⟩ ?_
  · simp only [u, i64, Nat.reduceSub, Nat.reduceAdd, bm]
  rintro ⟨X, Y⟩ ⟨g1, g2, g3, g4⟩
  simp only at g1 g2 g3 g4
  simp only [u, i64, Nat.reduceSub, Nat.reduceAdd, bm]
  (refine gO ?_)
  (refine gC ?_)
  (refine cR (ret_rIsZero Y g1 g2) ?_; refine sX ?_; try refine aA ?_)
  have hYl := length_words_val_le g1
  by_cases h0 : val Y = 0
  · rw [decT h0]
    rw [h0, Nat.gcd_zero_right] at g4
    rw [← g4] at hQ
    (refine gO ?_)
    (refine FinQ hQ (congrArg Array.toList Tryz.results178) _ _ ?_); simp (disch := omega) only [u, i64, ax, if_true, forall_const, reduceCtorEq, implies_true, tvs, bf]
  · rw [decF h0]
    have hm := Nat.mod_lt X (Nat.pos_of_ne_zero h0)
    have hml := length_mono (Nat.le_of_lt hm)
    (refine gO ?_)
    (refine gC ?_)
    (refine cR (ret_rTrim Y g1 g2) ?_; refine sX ?_; try refine aA ?_)
    (refine cR (ret_rMod (words X) Y (Wd_words X) g1 h0 g3 g2) ?_; refine sX ?_; try refine aA ?_)
    rw [val_words]
    (refine gO ?_)
    refine ⟨(val Y, words (X % val Y)), ?_, ⟨Wd_words _, by simp only; omega, by simp only; omega, ?_⟩, ?_⟩
    · simp only [u, i64, Nat.reduceSub, Nat.reduceAdd, bm]
    · simp only
      rw [val_words, ← g4]
      exact (Nat.gcd_comm _ _).trans ((Nat.gcd_rec (val Y) X).symm.trans (Nat.gcd_comm _ _))
    · simp only; rw [val_words]; exact hm
set_option maxRecDepth 100000 in
theorem ret_Is03 (a : Bool) (m : Nat) (b : Bool) (ys : List Nat) (hy : Wd ys) (hm : (words m).length ≤ 34359738368) (hl : ys.length ≤ 34359738368) : Ret Tryz.prog GEs 180 [.agg [.bool a, nat m], .agg [.bool b, ws ys]] (.bool (decide (m = val ys) && (a == (b && decide (val ys ≠ 0))))) := by
  have hI := ret_rIs m ys hy hm hl
  by_cases h : m = val ys
  · rw [decT h] at hI ⊢
    refine RetN_start Tryz.func180 (by kernel_rfl) rfl fun Q hQ hQ2 => ?_; rw [Tryz.ntmps180]; simp only [u, i64, Nat.reduceSub, Nat.reduceAdd, bm]
    repeat (first | (refine gC ?_; first | refine aA ?_ | ((first | refine cR hI ?_ | refine cR (ret_Trim03 b ys hy hl) ?_); refine sX ?_; try refine aA ?_)) | ((first | refine cR hI ?_ | refine cR (ret_Trim03 b ys hy hl) ?_); refine sX ?_; try refine aA ?_) | refine gS ?_)
    (refine FinQ hQ (congrArg Array.toList Tryz.results180) _ _ ?_); simp (disch := omega) only [u, i64, ax, if_true, forall_const, reduceCtorEq, implies_true, tvs, bf]
  · rw [decF h] at hI ⊢
    refine RetN_start Tryz.func180 (by kernel_rfl) rfl fun Q hQ hQ2 => ?_; rw [Tryz.ntmps180]; simp only [u, i64, Nat.reduceSub, Nat.reduceAdd, bm]
    repeat (first | (refine gC ?_; first | refine aA ?_ | (refine cR hI ?_; refine sX ?_; try refine aA ?_)) | (refine cR hI ?_; refine sX ?_; try refine aA ?_) | refine gS ?_)
    (refine FinQ hQ (congrArg Array.toList Tryz.results180) _ _ ?_); simp (disch := omega) only [u, i64, ax, if_true, forall_const, reduceCtorEq, implies_true, tvs, bf]
    rfl
set_option maxRecDepth 100000 in
theorem ret_Is11 (a : Bool) (m : Nat) (b : Bool) (ys : List Nat) (hy : Wd ys) (hm : (words m).length ≤ 34359738368) (hl : ys.length ≤ 34359738368) : Ret Tryz.prog GEs 95 [.agg [.bool a, nat m], .agg [.bool b, ws ys]] (.bool (decide (m = val ys) && (a == (b && decide (val ys ≠ 0))))) := by
  refine RetN_start Tryz.func95 (by kernel_rfl) rfl fun Q hQ hQ2 => ?_; rw [Tryz.ntmps95]; simp only [u, i64, Nat.reduceSub, Nat.reduceAdd, bm]
  repeat (first | (refine gC ?_; first | refine aA ?_ | (refine cR (ret_Is03 a m b ys hy hm hl) ?_; refine sX ?_; try refine aA ?_)) | (refine cR (ret_Is03 a m b ys hy hm hl) ?_; refine sX ?_; try refine aA ?_) | refine gS ?_)
  (refine FinQ hQ (congrArg Array.toList Tryz.results95) _ _ ?_); simp (disch := omega) only [u, i64, ax, if_true, forall_const, reduceCtorEq, implies_true, tvs, bf]
theorem gcd_len (a b n : Nat) (h : b ≠ 0) (hb : (words b).length ≤ n) : (words (Nat.gcd a b)).length ≤ n :=
  Nat.le_trans (length_mono (Nat.gcd_le_right a (Nat.pos_of_ne_zero h))) hb
set_option maxRecDepth 100000 in
theorem ret_Norm (neg : Bool) (ns ds : List Nat) (hn : Wd ns) (hd : Wd ds) (hln : ns.length ≤ 8589934592) (hld : ds.length ≤ 8589934592) (h0 : val ds ≠ 0) :
    Ret Tryz.prog GEs 94 [.agg [.bool neg, ws ns, ws ds]] (.agg [.bool (neg && decide (val ns / Nat.gcd (val ns) (val ds) ≠ 0)), nat (val ns / Nat.gcd (val ns) (val ds)), nat (val ds / Nat.gcd (val ns) (val ds))]) := by
  have hnl := length_words_val_le hn
  have hdl := length_words_val_le hd
  have hg0 : Nat.gcd (val ns) (val ds) ≠ 0 := fun h => h0 (Nat.eq_zero_of_gcd_eq_zero_right h)
  have hgl := gcd_len (val ns) (val ds) 8589934592 h0 (by omega)
  have hq1 := length_mono (Nat.div_le_self (val ns) (Nat.gcd (val ns) (val ds)))
  have hG := ret_Gcd ns ds hn hd (by omega) (by omega)
  have hD1 := ret_rDiv ns (words (Nat.gcd (val ns) (val ds))) hn (Wd_words _) (by rw [val_words]; exact hg0) (by omega) (by omega)
  have hD2 := ret_rDiv ds (words (Nat.gcd (val ns) (val ds))) hd (Wd_words _) (by rw [val_words]; exact hg0) (by omega) (by omega)
  rw [val_words] at hD1 hD2
  generalize Nat.gcd (val ns) (val ds) = g at *
  have hM := ret_Make11 neg (words (val ns / g)) (Wd_words _) (by omega)
  rw [val_words] at hM
  refine RetN_start Tryz.func94 (by kernel_rfl) rfl fun Q hQ hQ2 => ?_; rw [Tryz.ntmps94]; simp only [u, i64, Nat.reduceSub, Nat.reduceAdd, bm]
  repeat (first | (refine gC ?_; first | refine aA ?_ | ((first | refine cR hG ?_ | refine cR hD1 ?_ | refine cR hM ?_ | refine cR hD2 ?_); refine sX ?_; try refine aA ?_)) | ((first | refine cR hG ?_ | refine cR hD1 ?_ | refine cR hM ?_ | refine cR hD2 ?_); refine sX ?_; try refine aA ?_) | refine gS ?_)
  (refine FinQ hQ (congrArg Array.toList Tryz.results94) _ _ ?_); simp (disch := omega) only [u, i64, ax, if_true, forall_const, reduceCtorEq, implies_true, tvs, bf]
set_option maxRecDepth 100000 in
set_option maxHeartbeats 8000000 in
theorem ret_rights1 (d : DI) (h1 : d.ok) :
    Ret Tryz.prog GEs 149 [.lst 1 [i64 d.k, .bool d.neg, ws d.cs, i64 d.e]] (if d.good then .tup [.lst 1 [i64 d.k, .bool d.neg, nat (val d.cs), i64 d.e], i64 0] else .tup [.lst 0 [], i64 221]) := by
  have hS := ret_sizes1 d (Nat.le_trans h1.len (by decide))
  have o1 := one_of 1 1 0 (by decide) (by decide) d h1
  obtain ⟨k1, n1, c1, e1⟩ := d
  simp only at *
  rcases o1 with ⟨x1, x2, x3, x4, g1, a1⟩ | ⟨g1, a1, b1⟩
  · rw [if_neg (show ¬ (DI.good ⟨k1, n1, c1, e1⟩) from fun h => g1 h)]
    refine RetN_start Tryz.func149 (by kernel_rfl) rfl fun Q hQ hQ2 => ?_; rw [Tryz.ntmps149]; simp only [u, i64, Nat.reduceSub, Nat.reduceAdd, bm]
    repeat (first | (refine gC ?_; first | refine aA ?_ | (refine cR hS ?_; refine sX ?_; try refine aA ?_)) | (refine cR hS ?_; refine sX ?_; try refine aA ?_) | refine gS ?_)
    refine G_loop ?_
    refine G_round ?_
    repeat (first | (refine gC ?_; first | refine aA ?_ | (refine cR a1 ?_; refine sX ?_; try refine aA ?_)) | (refine cR a1 ?_; refine sX ?_; try refine aA ?_) | refine gS ?_)
    (refine FinQ hQ (congrArg Array.toList Tryz.results149) _ _ ?_); simp (disch := omega) only [u, i64, ax, if_true, forall_const, reduceCtorEq, implies_true, tvs, bf]
  · rw [if_pos (show DI.good ⟨k1, n1, c1, e1⟩ from g1)]
    refine RetN_start Tryz.func149 (by kernel_rfl) rfl fun Q hQ hQ2 => ?_; rw [Tryz.ntmps149]; simp only [u, i64, Nat.reduceSub, Nat.reduceAdd, bm]
    repeat (first | (refine gC ?_; first | refine aA ?_ | (refine cR hS ?_; refine sX ?_; try refine aA ?_)) | (refine cR hS ?_; refine sX ?_; try refine aA ?_) | refine gS ?_)
    refine G_loop ?_
    refine G_round ?_
    repeat (first | (refine gC ?_; first | refine aA ?_ | (refine cR a1 ?_; refine sX ?_; try refine aA ?_)) | (refine cR a1 ?_; refine sX ?_; try refine aA ?_) | refine gS ?_)
    (refine gC ?_)
    refine ⟨⟨rfl, rfl⟩, ?_⟩
    simp (disch := omega) only [u, i64, ax, eq_self, if_true, if_false, Nat.reduceAdd, Int.reduceToNat, Int.reduceAdd, tvs, bs, Nat.reduceMul, List.take_succ_cons, List.take_zero, List.nil_append, List.cons_append, List.append_nil]
    refine aft_any ?_
    (refine gO ?_)
    refine G_round ?_
    (refine gO ?_)
    (refine FinQ hQ (congrArg Array.toList Tryz.results149) _ _ ?_); simp (disch := omega) only [u, i64, ax, if_true, forall_const, reduceCtorEq, implies_true, tvs, bf, fzO_d1]
set_option maxRecDepth 100000 in
theorem ret_NoInt0 : Ret Tryz.prog GEs 93 [.agg [.bool false, ws []]] (.bool true) := by
  refine RetN_start Tryz.func93 (by kernel_rfl) rfl fun Q hQ hQ2 => ?_; rw [Tryz.ntmps93]; simp only [u, i64, Nat.reduceSub, Nat.reduceAdd, bm]
  (refine gO ?_)
  (refine FinQ hQ (congrArg Array.toList Tryz.results93) _ _ ?_); simp (disch := omega) only [u, i64, ax, if_true, forall_const, reduceCtorEq, implies_true, tvs, bf]
abbrev rtz : AV := .agg [.bool false, ws [], ws []]
theorem ret_NoRat0 : Ret Tryz.prog GEs 30 [rtz] (.bool true) := by
  refine RetN_start Tryz.func30 (by kernel_rfl) rfl fun Q hQ hQ2 => ?_; rw [Tryz.ntmps30]; simp only [u, i64, Nat.reduceSub, Nat.reduceAdd, bm]
  repeat (first | (refine gC ?_; first | refine aA ?_ | (refine cR ret_NoInt0 ?_; refine sX ?_; try refine aA ?_)) | (refine cR ret_NoInt0 ?_; refine sX ?_; try refine aA ?_) | refine gS ?_)
  (refine FinQ hQ (congrArg Array.toList Tryz.results30) _ _ ?_); simp (disch := omega) only [u, i64, ax, if_true, forall_const, reduceCtorEq, implies_true, tvs, bf]
theorem words_big {n K : Nat} (hK : K = 262144) (h : 2 ^ K ≤ n) : 4096 < (words n).length := by
  obtain ⟨k, hk⟩ : ∃ k, k = 4096 := ⟨_, rfl⟩
  refine Classical.byContradiction fun hc => ?_
  have h1 := lt_pow_of_length (n := n) (k := k) (by omega)
  rw [show (18446744073709551616 : Nat) = 2 ^ 64 from rfl, ← Nat.pow_mul] at h1
  rw [show K = 64 * k by omega] at h
  exact absurd h1 (Nat.not_lt.2 h)
theorem far_len {c : Nat} {e : Int} (hc : c ≠ 0) (hl : (words c).length ≤ 40) (h : 79000 < e ∨ e < -80000) : 4096 < (words (prN c e)).length ∨ 4096 < (words (prD c e)).length := by
  obtain ⟨p1, p2, p3, p4⟩ := parts_spec e hc
  obtain ⟨K, hK⟩ : ∃ K, K = 262144 := ⟨_, rfl⟩
  obtain ⟨L, hL⟩ : ∃ L, L = 2560 := ⟨_, rfl⟩
  rcases h with h | h
  · left
    refine words_big hK ?_
    have e0 : (-e).toNat = 0 := by omega
    rw [e0, Nat.pow_zero, Nat.mul_one] at p1
    rw [p1]
    have h1 : 2 ^ K ≤ 10 ^ e.toNat := Nat.le_trans (Nat.pow_le_pow_right (by decide) (by omega)) (ten_ge e.toNat)
    refine Nat.le_trans h1 ?_
    rw [Nat.mul_assoc, Nat.mul_left_comm]
    exact Nat.le_mul_of_pos_right _ (Nat.mul_pos (Nat.pos_of_ne_zero hc) (Nat.pos_of_ne_zero p4))
  · right
    refine words_big hK ?_
    have e0 : e.toNat = 0 := by omega
    rw [e0, Nat.pow_zero, Nat.mul_one] at p1
    have hb := bl_len c
    have h2 := bl_lt c
    have h3 : c < 2 ^ L := Nat.lt_of_lt_of_le h2 (Nat.pow_le_pow_right (by decide) (by omega))
    have h1 : 2 ^ (K + L) ≤ 10 ^ (-e).toNat := Nat.le_trans (Nat.pow_le_pow_right (by decide) (by omega)) (ten_ge (-e).toNat)
    have h4 : 2 ^ (K + L) ≤ c * prD c e := by
      rw [← p1]
      exact Nat.le_trans h1 (Nat.le_mul_of_pos_left _ (Nat.pos_of_ne_zero p3))
    refine Classical.byContradiction fun hn => ?_
    have h5 : c * prD c e < 2 ^ L * 2 ^ K := Nat.mul_lt_mul'' h3 (Nat.lt_of_not_le hn)
    rw [← Nat.pow_add, Nat.add_comm] at h5
    exact absurd h5 (Nat.not_lt.2 h4)
theorem near_len {c : Nat} {e : Int} (hc : c ≠ 0) (hl : (words c).length ≤ 40) (h : -3000 < e ∧ e < 3000) : (words (prN c e)).length ≤ 1000 ∧ (words (prD c e)).length ≤ 1000 ∧ ¬ (90000 < e + st c ∨ e + st c < -200000) := by
  obtain ⟨p1, p2, p3, p4⟩ := parts_spec e hc
  have hds := dg_sm hc
  have hdb := dg_le_bl c
  have hbn := bl_len c
  have tl : ∀ k : Nat, k ≤ 4000 → (words (10 ^ k)).length ≤ 251 := fun k hk => le_pow_words (ten_le k) (by omega)
  refine ⟨?_, ?_, by omega⟩
  · have h1 : prN c e ∣ c * 10 ^ e.toNat := by
      refine Nat.Coprime.dvd_of_dvd_mul_right p2 ?_
      exact ⟨10 ^ (-e).toNat, p1.symm⟩
    have h2 := length_mono (Nat.le_of_dvd (Nat.mul_pos (Nat.pos_of_ne_zero hc) (ten_pos _)) h1)
    have h3 := length_mul c (10 ^ e.toNat)
    have h4 := tl e.toNat (by omega)
    omega
  · have h1 : prD c e ∣ 10 ^ (-e).toNat := by
      have : prD c e ∣ prN c e * 10 ^ (-e).toNat := ⟨c * 10 ^ e.toNat, by rw [p1, Nat.mul_comm]⟩
      exact Nat.Coprime.dvd_of_dvd_mul_left (Nat.Coprime.symm p2) this
    have h2 := length_mono (Nat.le_of_dvd (ten_pos _) h1)
    have h4 := tl (-e).toNat (by omega)
    omega
theorem parts_len {c : Nat} {e : Int} (hc : c ≠ 0) (hl : (words c).length ≤ 40) (h : -1000000 ≤ e ∧ e ≤ 1000000) : (words (prN c e)).length ≤ 100000 ∧ (words (prD c e)).length ≤ 100000 := by
  obtain ⟨p1, p2, p3, p4⟩ := parts_spec e hc
  refine ⟨?_, ?_⟩
  · have h1 : prN c e ∣ c * 10 ^ e.toNat := by
      refine Nat.Coprime.dvd_of_dvd_mul_right p2 ?_
      exact ⟨10 ^ (-e).toNat, p1.symm⟩
    have h2 := length_mono (Nat.le_of_dvd (Nat.mul_pos (Nat.pos_of_ne_zero hc) (ten_pos _)) h1)
    have h3 := length_mul c (10 ^ e.toNat)
    have h4 := ten_len (k := e.toNat) (by omega)
    omega
  · have h1 : prD c e ∣ 10 ^ (-e).toNat := by
      have : prD c e ∣ prN c e * 10 ^ (-e).toNat := ⟨c * 10 ^ e.toNat, by rw [p1, Nat.mul_comm]⟩
      exact Nat.Coprime.dvd_of_dvd_mul_left (Nat.Coprime.symm p2) this
    have h2 := length_mono (Nat.le_of_dvd (ten_pos _) h1)
    have h4 := ten_len (k := (-e).toNat) (by omega)
    omega
def rat0 : AV := .agg [.bool false, .lst 0 [], .lst 0 []]
set_option maxHeartbeats 8000000 in
theorem ret_DValueBad (d : DI) (h : d.ok) (hb : ¬ d.good) : Ret Tryz.prog GEs 70 [d.av] (.tup [rat0, i64 221]) := by
  have hR := ret_rights1 d h
  rw [if_neg hb] at hR
  unfold DI.av rat0
  refine RetN_start Tryz.func70 (by kernel_rfl) rfl fun Q hQ hQ2 => ?_; rw [Tryz.ntmps70]; simp only [u, i64, Nat.reduceSub, Nat.reduceAdd, bm]
  (refine gO ?_)
  (refine gC ?_)
  simp (disch := omega) only [u, i64, ax, eq_self, if_true, if_false, Nat.reduceAdd, Int.reduceToNat, Int.reduceAdd, tvs, bs, Nat.reduceMul, List.take_succ_cons, List.take_zero, List.nil_append, List.cons_append, List.append_nil, Nat.reduceLeDiff]
  repeat (first | (refine gC ?_; first | refine aA ?_ | (refine cR hR ?_; refine sX ?_; try refine aA ?_)) | (refine cR hR ?_; refine sX ?_; try refine aA ?_) | refine gS ?_)
  (refine FinQ hQ (congrArg Array.toList Tryz.results70) _ _ ?_); simp (disch := omega) only [u, i64, ax, if_true, forall_const, reduceCtorEq, implies_true, tvs, bf]
  all_goals rfl
theorem ret_DValueNone (d : DI) (h : d.ok) (hb : d.good) (hk : d.k ≠ 0) : Ret Tryz.prog GEs 70 [d.av] (.tup [rat0, i64 4]) := by
  have hR := ret_rights1 d h
  rw [if_pos hb] at hR
  unfold DI.av rat0
  generalize val d.cs = v at *
  refine RetN_start Tryz.func70 (by kernel_rfl) rfl fun Q hQ hQ2 => ?_; rw [Tryz.ntmps70]; simp only [u, i64, Nat.reduceSub, Nat.reduceAdd, bm]
  (refine gO ?_)
  (refine gC ?_)
  simp (disch := omega) only [u, i64, ax, eq_self, if_true, if_false, Nat.reduceAdd, Int.reduceToNat, Int.reduceAdd, tvs, bs, Nat.reduceMul, List.take_succ_cons, List.take_zero, List.nil_append, List.cons_append, List.append_nil, Nat.reduceLeDiff]
  repeat (first | (refine gC ?_; first | refine aA ?_ | (refine cR hR ?_; refine sX ?_; try refine aA ?_)) | (refine cR hR ?_; refine sX ?_; try refine aA ?_) | refine gS ?_)
  (refine FinQ hQ (congrArg Array.toList Tryz.results70) _ _ ?_); simp (disch := omega) only [u, i64, ax, if_true, forall_const, reduceCtorEq, implies_true, tvs, bf]
  all_goals rfl
theorem ret_DValueZero (d : DI) (h : d.ok) (hb : d.good) (hk : d.k = 0) (h0 : val d.cs = 0) : Ret Tryz.prog GEs 70 [d.av] (.tup [.agg [.bool false, .lst 0 [], nat 1], i64 0]) := by
  have hR := ret_rights1 d h
  rw [if_pos hb] at hR
  have hZ := ret_dzero d.D (by show d.k.toNat ≤ 2; omega) (Nat.le_trans (d.len_le h) (by decide))
  rw [decT (show d.D.kind = 0 ∧ d.D.coef = 0 from ⟨by show d.k.toNat = 0; omega, h0⟩), DI.dv_eq hb] at hZ
  rw [words1]
  unfold DI.av
  generalize val d.cs = v at *
  refine RetN_start Tryz.func70 (by kernel_rfl) rfl fun Q hQ hQ2 => ?_; rw [Tryz.ntmps70]; simp only [u, i64, Nat.reduceSub, Nat.reduceAdd, bm]
  (refine gO ?_)
  (refine gC ?_)
  simp (disch := omega) only [u, i64, ax, eq_self, if_true, if_false, Nat.reduceAdd, Int.reduceToNat, Int.reduceAdd, tvs, bs, Nat.reduceMul, List.take_succ_cons, List.take_zero, List.nil_append, List.cons_append, List.append_nil, Nat.reduceLeDiff]
  repeat (first | (refine gC ?_; first | refine aA ?_ | ((first | refine cR hR ?_ | refine cR hZ ?_); refine sX ?_; try refine aA ?_)) | ((first | refine cR hR ?_ | refine cR hZ ?_); refine sX ?_; try refine aA ?_) | refine gS ?_)
  (refine FinQ hQ (congrArg Array.toList Tryz.results70) _ _ ?_); simp (disch := omega) only [u, i64, ax, if_true, forall_const, reduceCtorEq, implies_true, tvs, bf]
  all_goals rfl
set_option maxHeartbeats 8000000 in
theorem ret_DValueFar (d : DI) (h : d.ok) (hb : d.good) (hk : d.k = 0) (h0 : val d.cs ≠ 0) (hf : 79000 < d.e ∨ d.e < -80000) : Ret Tryz.prog GEs 70 [d.av] (.tup [rat0, i64 2]) := by
  have hR := ret_rights1 d h
  rw [if_pos hb] at hR
  have hl := d.len_le h
  have hZ := ret_dzero d.D (by show d.k.toNat ≤ 2; omega) (by omega)
  rw [decF (show ¬ (d.D.kind = 0 ∧ d.D.coef = 0) from fun h => h0 h.2), DI.dv_eq hb] at hZ
  have hP := ret_Parts d.neg (val d.cs) d.e h0 hl (by have := hb; unfold DI.good goodD at this; omega)
  rw [show dv ⟨0, d.neg, val d.cs, d.e⟩ = .agg [i64 d.k, .bool d.neg, nat (val d.cs), i64 d.e] by rw [hk]; rfl] at hP
  have hL := far_len h0 hl hf
  unfold DI.av rat0
  by_cases hq : 90000 < d.e + st (val d.cs) ∨ d.e + st (val d.cs) < -200000
  · rw [if_pos hq] at hP
    clear hL hl
    generalize val d.cs = v at *
    refine RetN_start Tryz.func70 (by kernel_rfl) rfl fun Q hQ hQ2 => ?_; rw [Tryz.ntmps70]; simp only [u, i64, Nat.reduceSub, Nat.reduceAdd, bm]
    (refine gO ?_)
    (refine gC ?_)
    simp (disch := omega) only [u, i64, ax, eq_self, if_true, if_false, Nat.reduceAdd, Int.reduceToNat, Int.reduceAdd, tvs, bs, Nat.reduceMul, List.take_succ_cons, List.take_zero, List.nil_append, List.cons_append, List.append_nil, Nat.reduceLeDiff]
    repeat (first | (refine gC ?_; first | refine aA ?_ | ((first | refine cR hR ?_ | refine cR hZ ?_ | refine cR hP ?_); refine sX ?_; try refine aA ?_)) | ((first | refine cR hR ?_ | refine cR hZ ?_ | refine cR hP ?_); refine sX ?_; try refine aA ?_) | refine gS ?_)
    (refine FinQ hQ (congrArg Array.toList Tryz.results70) _ _ ?_); simp (disch := omega) only [u, i64, ax, if_true, forall_const, reduceCtorEq, implies_true, tvs, bf]
    all_goals rfl
  · rw [if_neg hq] at hP
    obtain ⟨h1, h2⟩ := parts_len (e := d.e) h0 hl (by have := hb; unfold DI.good goodD at this; omega)
    generalize prN (val d.cs) d.e = N at *
    generalize prD (val d.cs) d.e = DD at *
    clear hl
    generalize val d.cs = v at *
    by_cases hN : 4096 < (words N).length
    · skip
      refine RetN_start Tryz.func70 (by kernel_rfl) rfl fun Q hQ hQ2 => ?_; rw [Tryz.ntmps70]; simp only [u, i64, Nat.reduceSub, Nat.reduceAdd, bm]
      (refine gO ?_)
      (refine gC ?_)
      simp (disch := omega) only [u, i64, ax, eq_self, if_true, if_false, Nat.reduceAdd, Int.reduceToNat, Int.reduceAdd, tvs, bs, Nat.reduceMul, List.take_succ_cons, List.take_zero, List.nil_append, List.cons_append, List.append_nil, Nat.reduceLeDiff]
      repeat (first | (refine gC ?_; first | refine aA ?_ | ((first | refine cR hR ?_ | refine cR hZ ?_ | refine cR hP ?_); refine sX ?_; try refine aA ?_)) | ((first | refine cR hR ?_ | refine cR hZ ?_ | refine cR hP ?_); refine sX ?_; try refine aA ?_) | refine gS ?_)
      (refine FinQ hQ (congrArg Array.toList Tryz.results70) _ _ ?_); simp (disch := omega) only [u, i64, ax, if_true, forall_const, reduceCtorEq, implies_true, tvs, bf]
      all_goals rfl
    · have hD : 4096 < (words DD).length := by omega
      refine RetN_start Tryz.func70 (by kernel_rfl) rfl fun Q hQ hQ2 => ?_; rw [Tryz.ntmps70]; simp only [u, i64, Nat.reduceSub, Nat.reduceAdd, bm]
      (refine gO ?_)
      (refine gC ?_)
      simp (disch := omega) only [u, i64, ax, eq_self, if_true, if_false, Nat.reduceAdd, Int.reduceToNat, Int.reduceAdd, tvs, bs, Nat.reduceMul, List.take_succ_cons, List.take_zero, List.nil_append, List.cons_append, List.append_nil, Nat.reduceLeDiff]
      repeat (first | (refine gC ?_; first | refine aA ?_ | ((first | refine cR hR ?_ | refine cR hZ ?_ | refine cR hP ?_); refine sX ?_; try refine aA ?_)) | ((first | refine cR hR ?_ | refine cR hZ ?_ | refine cR hP ?_); refine sX ?_; try refine aA ?_) | refine gS ?_)
      (refine FinQ hQ (congrArg Array.toList Tryz.results70) _ _ ?_); simp (disch := omega) only [u, i64, ax, if_true, forall_const, reduceCtorEq, implies_true, tvs, bf]
      all_goals rfl
set_option maxHeartbeats 8000000 in
theorem ret_DValueNear (d : DI) (h : d.ok) (hb : d.good) (hk : d.k = 0) (h0 : val d.cs ≠ 0) (hf : -3000 < d.e ∧ d.e < 3000) : Ret Tryz.prog GEs 70 [d.av] (.tup [.agg [.bool d.neg, nat (prN (val d.cs) d.e), nat (prD (val d.cs) d.e)], i64 0]) := by
  have hR := ret_rights1 d h
  rw [if_pos hb] at hR
  have hl := d.len_le h
  have hZ := ret_dzero d.D (by show d.k.toNat ≤ 2; omega) (by omega)
  rw [decF (show ¬ (d.D.kind = 0 ∧ d.D.coef = 0) from fun h => h0 h.2), DI.dv_eq hb] at hZ
  have hP := ret_Parts d.neg (val d.cs) d.e h0 hl (by omega)
  rw [show dv ⟨0, d.neg, val d.cs, d.e⟩ = .agg [i64 d.k, .bool d.neg, nat (val d.cs), i64 d.e] by rw [hk]; rfl] at hP
  obtain ⟨n1, n2, n3⟩ := near_len h0 hl hf
  rw [if_neg n3] at hP
  clear n3
  unfold DI.av
  generalize prN (val d.cs) d.e = N at *
  generalize prD (val d.cs) d.e = DD at *
  clear hl
  generalize val d.cs = v at *
  refine RetN_start Tryz.func70 (by kernel_rfl) rfl fun Q hQ hQ2 => ?_; rw [Tryz.ntmps70]; simp only [u, i64, Nat.reduceSub, Nat.reduceAdd, bm]
  (refine gO ?_)
  (refine gC ?_)
  simp (disch := omega) only [u, i64, ax, eq_self, if_true, if_false, Nat.reduceAdd, Int.reduceToNat, Int.reduceAdd, tvs, bs, Nat.reduceMul, List.take_succ_cons, List.take_zero, List.nil_append, List.cons_append, List.append_nil, Nat.reduceLeDiff]
  repeat (first | (refine gC ?_; first | refine aA ?_ | ((first | refine cR hR ?_ | refine cR hZ ?_ | refine cR hP ?_); refine sX ?_; try refine aA ?_)) | ((first | refine cR hR ?_ | refine cR hZ ?_ | refine cR hP ?_); refine sX ?_; try refine aA ?_) | refine gS ?_)
  (refine FinQ hQ (congrArg Array.toList Tryz.results70) _ _ ?_); simp (disch := omega) only [u, i64, ax, if_true, forall_const, reduceCtorEq, implies_true, tvs, bf]
  all_goals rfl
theorem ret_Is12g (neg : Bool) (n d : Nat) (ln : (words n).length ≤ 10000) (ld : (words d).length ≤ 10000) (hn : n = 0 → neg = false) (hc : Nat.gcd n d = 1) (hd : d ≠ 0) : Ret Tryz.prog GEs 31 [.agg [.bool neg, nat n, nat d], .agg [.bool neg, nat n, nat d]] (.bool true) := by
  have hs : (neg && decide (n ≠ 0)) = neg := by
    by_cases h : n = 0
    · rw [hn h]; rfl
    · rw [decT h, Bool.and_true]
  have hN := ret_Norm neg (words n) (words d) (Wd_words _) (Wd_words _) (by omega) (by omega) (by rw [val_words]; exact hd)
  rw [val_words, val_words, hc, Nat.div_one, Nat.div_one, hs] at hN
  have hI := ret_Is11 neg n neg (words n) (Wd_words _) (by omega) (by omega)
  rw [val_words, decT rfl, Bool.true_and, hs, show (neg == neg) = true by cases neg <;> rfl] at hI
  have hJ := ret_rIs d (words d) (Wd_words _) (by omega) (by omega)
  rw [val_words, decT rfl] at hJ
  clear hs hn
  refine RetN_start Tryz.func31 (by kernel_rfl) rfl fun Q hQ hQ2 => ?_; rw [Tryz.ntmps31]; simp only [u, i64, Nat.reduceSub, Nat.reduceAdd, bm]
  repeat (first | (refine gC ?_; first | refine aA ?_ | ((first | refine cR hN ?_ | refine cR hI ?_ | refine cR hJ ?_); refine sX ?_; try refine aA ?_)) | ((first | refine cR hN ?_ | refine cR hI ?_ | refine cR hJ ?_); refine sX ?_; try refine aA ?_) | refine gS ?_)
  (refine FinQ hQ (congrArg Array.toList Tryz.results31) _ _ ?_); simp (disch := omega) only [u, i64, ax, if_true, forall_const, reduceCtorEq, implies_true, tvs, bf]
theorem ret_Make12n (neg : Bool) (n d : Nat) (ln : (words n).length ≤ 10000) (ld : (words d).length ≤ 10000) (hd : d ≠ 0) : Ret Tryz.prog GEs 97 [.agg [.bool neg, nat n], nat d] (.agg [.bool (neg && decide (n / Nat.gcd n d ≠ 0)), nat (n / Nat.gcd n d), nat (d / Nat.gcd n d)]) := by
  have hN := ret_Norm neg (words n) (words d) (Wd_words _) (Wd_words _) (by omega) (by omega) (by rw [val_words]; exact hd)
  rw [val_words, val_words] at hN
  generalize n / Nat.gcd n d = N at *
  generalize d / Nat.gcd n d = D at *
  refine RetN_start Tryz.func97 (by kernel_rfl) rfl fun Q hQ hQ2 => ?_; rw [Tryz.ntmps97]; simp only [u, i64, Nat.reduceSub, Nat.reduceAdd, bm]
  repeat (first | (refine gC ?_; first | refine aA ?_ | (refine cR hN ?_; refine sX ?_; try refine aA ?_)) | (refine cR hN ?_; refine sX ?_; try refine aA ?_) | refine gS ?_)
  (refine FinQ hQ (congrArg Array.toList Tryz.results97) _ _ ?_); simp (disch := omega) only [u, i64, ax, if_true, forall_const, reduceCtorEq, implies_true, tvs, bf]
theorem ret_Trim11v (neg : Bool) (xs : List Nat) (hx : Wd xs) (hl : xs.length ≤ 34359738368) : Ret Tryz.prog GEs 194 [.agg [.bool neg, ws xs]] (.agg [.bool (neg && decide (val xs ≠ 0)), nat (val xs)]) := by
  have hT := ret_Trim03 neg xs hx hl
  refine RetN_start Tryz.func194 (by kernel_rfl) rfl fun Q hQ hQ2 => ?_; rw [Tryz.ntmps194]; simp only [u, i64, Nat.reduceSub, Nat.reduceAdd, bm]
  repeat (first | (refine gC ?_; first | refine aA ?_ | (refine cR hT ?_; refine sX ?_; try refine aA ?_)) | (refine cR hT ?_; refine sX ?_; try refine aA ?_) | refine gS ?_)
  (refine FinQ hQ (congrArg Array.toList Tryz.results194) _ _ ?_); simp (disch := omega) only [u, i64, ax, if_true, forall_const, reduceCtorEq, implies_true, tvs, bf]
theorem ret_Whole12v (neg : Bool) (m : Nat) (hl : (words m).length ≤ 100000) : Ret Tryz.prog GEs 111 [.agg [.bool neg, nat m]] (.agg [.bool (neg && decide (m ≠ 0)), nat m, nat 1]) := by
  have hT := ret_Trim11v neg (words m) (Wd_words _) (by omega)
  rw [val_words] at hT
  have hF := ret_rFromWord 1 (by decide)
  refine RetN_start Tryz.func111 (by kernel_rfl) rfl fun Q hQ hQ2 => ?_; rw [Tryz.ntmps111]; simp only [u, i64, Nat.reduceSub, Nat.reduceAdd, bm]
  repeat (first | (refine gC ?_; first | refine aA ?_ | ((first | refine cR hT ?_ | refine cR hF ?_); refine sX ?_; try refine aA ?_)) | ((first | refine cR hT ?_ | refine cR hF ?_); refine sX ?_; try refine aA ?_) | refine gS ?_)
  (refine FinQ hQ (congrArg Array.toList Tryz.results111) _ _ ?_); simp (disch := omega) only [u, i64, ax, if_true, forall_const, reduceCtorEq, implies_true, tvs, bf]
theorem ret_From12z : Ret Tryz.prog GEs 33 [i64 0, i64 1] (.agg [.bool false, nat 0, nat 1]) := by
  have hF := ret_From0
  have hW := ret_rFromWord 1 (by decide)
  have hM := ret_Make12n false 0 1 (by decide) (Nat.le_trans (length_le (k := 1) (by decide)) (by decide)) (by decide)
  rw [show Nat.gcd 0 1 = 1 from rfl, Nat.div_one, Nat.div_one, Bool.false_and] at hM
  refine RetN_start Tryz.func33 (by kernel_rfl) rfl fun Q hQ hQ2 => ?_; rw [Tryz.ntmps33]; simp only [u, i64, Nat.reduceSub, Nat.reduceAdd, bm]
  repeat (first | (refine gC ?_; first | refine aA ?_ | ((first | refine cR hF ?_ | refine cR hW ?_ | refine cR hM ?_); refine sX ?_; try refine aA ?_)) | ((first | refine cR hF ?_ | refine cR hW ?_ | refine cR hM ?_); refine sX ?_; try refine aA ?_) | refine gS ?_)
  (refine FinQ hQ (congrArg Array.toList Tryz.results33) _ _ ?_); simp (disch := omega) only [u, i64, ax, if_true, forall_const, reduceCtorEq, implies_true, tvs, bf]
set_option maxHeartbeats 8000000 in
theorem ret_Value22 (k e : Int) (neg : Bool) (cs : List Nat) (hk : k = 0) (hc : Wd cs) (hl : cs.length ≤ 40) (h0 : val cs ≠ 0) (he : -20000 < e ∧ e < 20000) :
    Ret Tryz.prog GEs 62 [.agg [i64 k, .bool neg, ws cs, i64 e]] (.agg [.bool neg, nat (prN (val cs) e), nat (prD (val cs) e)]) := by
  have hZ := ret_Zero22 k e neg cs hc (by omega)
  rw [decF (show ¬ (k = 0 ∧ val cs = 0) from fun h => h0 h.2)] at hZ
  have hM := ret_Make11 neg cs hc (by omega)
  rw [decT h0, Bool.and_true] at hM
  have hvl := length_words_val_le hc
  obtain ⟨p1, p2, p3, p4⟩ := parts_spec e h0
  have tl : ∀ k : Nat, k ≤ 20000 → (words (10 ^ k)).length ≤ 1251 := fun k hk => le_pow_words (ten_le k) (by omega)
  subst hk
  by_cases h : e < 0
  · have e0 : e.toNat = 0 := by omega
    have hE : (0 : Int) - e = (((-e).toNat : Nat) : Int) := by omega
    rw [e0, Nat.pow_zero, Nat.mul_one] at p1
    obtain ⟨u1, u2⟩ := low_uniq (Nat.ne_of_gt (ten_pos (-e).toNat)) p1.symm p2 p3
    have hb : (-e).toNat ≤ 20000 := by omega
    generalize (-e).toNat = j at *
    have hT := ret_rTen j (by omega)
    have hK := ret_Make12n neg (val cs) (10 ^ j) (by omega) (by have := tl j hb; omega) (Nat.ne_of_gt (ten_pos j))
    rw [u1, u2, decT p3, Bool.and_true] at hK
    clear u1 u2 p1 p2 p3 p4 tl h0 hvl
    generalize prN (val cs) e = N at *
    generalize prD (val cs) e = D at *
    generalize 10 ^ j = P at *
    generalize val cs = v at *
    refine RetN_start Tryz.func62 (by kernel_rfl) rfl fun Q hQ hQ2 => ?_; rw [Tryz.ntmps62]; simp only [u, i64, Nat.reduceSub, Nat.reduceAdd, bm]
    repeat (first | (refine gC ?_; first | refine aA ?_ | ((first | refine cR hM ?_ | refine cR hZ ?_); refine sX ?_; try refine aA ?_)) | ((first | refine cR hM ?_ | refine cR hZ ?_); refine sX ?_; try refine aA ?_) | refine gS ?_)
    (refine gC ?_)
    rw [hE]
    repeat (first | (refine gC ?_; first | refine aA ?_ | ((first | refine cR hT ?_ | refine cR hK ?_); refine sX ?_; try refine aA ?_)) | ((first | refine cR hT ?_ | refine cR hK ?_); refine sX ?_; try refine aA ?_) | refine gS ?_)
    (refine FinQ hQ (congrArg Array.toList Tryz.results62) _ _ ?_); simp (disch := omega) only [u, i64, ax, if_true, forall_const, reduceCtorEq, implies_true, tvs, bf]
  · have e0 : (-e).toNat = 0 := by omega
    have hE : e = ((e.toNat : Nat) : Int) := by omega
    rw [e0, Nat.pow_zero, Nat.mul_one] at p1
    have q1 : prD (val cs) e = 1 := by unfold prD; rw [if_pos (by omega)]
    rw [q1, Nat.mul_one] at p1
    rw [q1, p1]
    have hb : e.toNat ≤ 20000 := by omega
    have hT := ret_rTen e.toNat (by omega)
    have htl := tl e.toNat hb
    have hMu := ret_rMul cs (words (10 ^ e.toNat)) hc (Wd_words _) (by omega) (by omega)
    rw [val_words] at hMu
    have hml := length_mul (val cs) (10 ^ e.toNat)
    have hne : val cs * 10 ^ e.toNat ≠ 0 := Nat.mul_ne_zero h0 (Nat.ne_of_gt (ten_pos _))
    have hK := ret_Make11 neg (words (val cs * 10 ^ e.toNat)) (Wd_words _) (by omega)
    rw [val_words, decT hne, Bool.and_true] at hK
    have hW := ret_Whole12v neg (val cs * 10 ^ e.toNat) (by omega)
    rw [decT hne, Bool.and_true] at hW
    clear p1 p2 p3 p4 q1 tl h0 hvl hne hml
    generalize val cs * 10 ^ e.toNat = N at *
    generalize 10 ^ e.toNat = P at *
    generalize val cs = v at *
    generalize hj : e.toNat = j at *
    have hnn : ¬ (j : Int) < 0 := by omega
    subst hE
    refine RetN_start Tryz.func62 (by kernel_rfl) rfl fun Q hQ hQ2 => ?_; rw [Tryz.ntmps62]; simp only [u, i64, Nat.reduceSub, Nat.reduceAdd, bm]
    (refine gO ?_)
    (refine gC ?_)
    (refine cR hM ?_; refine sX ?_; try refine aA ?_)
    skip
    repeat (first | (refine gC ?_; first | refine aA ?_ | ((first | refine cR hZ ?_ | refine cR hT ?_ | refine cR hMu ?_ | refine cR hK ?_ | refine cR hW ?_); refine sX ?_; try refine aA ?_)) | ((first | refine cR hZ ?_ | refine cR hT ?_ | refine cR hMu ?_ | refine cR hK ?_ | refine cR hW ?_); refine sX ?_; try refine aA ?_) | refine gS ?_)
    (refine FinQ hQ (congrArg Array.toList Tryz.results62) _ _ ?_); simp (disch := omega) only [u, i64, ax, if_true, forall_const, reduceCtorEq, implies_true, tvs, bf]
theorem ret_Value22z (k e : Int) (neg : Bool) (cs : List Nat) (hk : k = 0) (hc : Wd cs) (hl : cs.length ≤ 40) (h0 : val cs = 0) :
    Ret Tryz.prog GEs 62 [.agg [i64 k, .bool neg, ws cs, i64 e]] (.agg [.bool false, nat 0, nat 1]) := by
  have hZ := ret_Zero22 k e neg cs hc (by omega)
  rw [decT (show k = 0 ∧ val cs = 0 from ⟨hk, h0⟩)] at hZ
  have hM := ret_Make11 neg cs hc (by omega)
  have hF := ret_From12z
  generalize val cs = v at *
  refine RetN_start Tryz.func62 (by kernel_rfl) rfl fun Q hQ hQ2 => ?_; rw [Tryz.ntmps62]; simp only [u, i64, Nat.reduceSub, Nat.reduceAdd, bm]
  repeat (first | (refine gC ?_; first | refine aA ?_ | ((first | refine cR hM ?_ | refine cR hZ ?_ | refine cR hF ?_); refine sX ?_; try refine aA ?_)) | ((first | refine cR hM ?_ | refine cR hZ ?_ | refine cR hF ?_); refine sX ?_; try refine aA ?_) | refine gS ?_)
  (refine FinQ hQ (congrArg Array.toList Tryz.results62) _ _ ?_); simp (disch := omega) only [u, i64, ax, if_true, forall_const, reduceCtorEq, implies_true, tvs, bf]
/-- Is a value too far for a rational number, or near to that? -/
theorem ret_Far22 (k e : Int) (neg : Bool) (cs : List Nat) (hc : Wd cs) (hl : cs.length ≤ 40) (he1 : -9223372036854775808 ≤ e) (he2 : e < 9223372036854775808) :
    Ret Tryz.prog GEs 69 [.agg [i64 k, .bool neg, ws cs, i64 e]] (if (k = 0 ∧ val cs = 0) ∨ (-3000 < e ∧ e < 3000) then .tup [.bool false, .bool false] else if 79000 < e ∨ e < -80000 then .tup [.bool true, .bool false] else .tup [.bool false, .bool true]) := by
  have hZ := ret_Zero22 k e neg cs hc (by omega)
  by_cases hz : k = 0 ∧ val cs = 0
  · rw [if_pos (Or.inl hz)]
    rw [decT hz] at hZ
    refine RetN_start Tryz.func69 (by kernel_rfl) rfl fun Q hQ hQ2 => ?_; rw [Tryz.ntmps69]; simp only [u, i64, Nat.reduceSub, Nat.reduceAdd, bm]
    repeat (first | (refine gC ?_; first | refine aA ?_ | (refine cR hZ ?_; refine sX ?_; try refine aA ?_)) | (refine cR hZ ?_; refine sX ?_; try refine aA ?_) | refine gS ?_)
    (refine FinQ hQ (congrArg Array.toList Tryz.results69) _ _ ?_); simp (disch := omega) only [u, i64, ax, if_true, forall_const, reduceCtorEq, implies_true, tvs, bf]
  · rw [decF hz] at hZ
    by_cases h1 : -3000 < e
    · by_cases h2 : e < 3000
      · rw [if_pos (Or.inr ⟨h1, h2⟩)]
        clear hz
        refine RetN_start Tryz.func69 (by kernel_rfl) rfl fun Q hQ hQ2 => ?_; rw [Tryz.ntmps69]; simp only [u, i64, Nat.reduceSub, Nat.reduceAdd, bm]
        repeat (first | (refine gC ?_; first | refine aA ?_ | (refine cR hZ ?_; refine sX ?_; try refine aA ?_)) | (refine cR hZ ?_; refine sX ?_; try refine aA ?_) | refine gS ?_)
        (refine FinQ hQ (congrArg Array.toList Tryz.results69) _ _ ?_); simp (disch := omega) only [u, i64, ax, if_true, forall_const, reduceCtorEq, implies_true, tvs, bf]
      · rw [if_neg (fun h => by rcases h with h | h; exact hz h; exact h2 h.2)]
        clear hz
        by_cases h3 : 79000 < e
        · rw [if_pos (Or.inl h3)]
          refine RetN_start Tryz.func69 (by kernel_rfl) rfl fun Q hQ hQ2 => ?_; rw [Tryz.ntmps69]; simp only [u, i64, Nat.reduceSub, Nat.reduceAdd, bm]
          repeat (first | (refine gC ?_; first | refine aA ?_ | (refine cR hZ ?_; refine sX ?_; try refine aA ?_)) | (refine cR hZ ?_; refine sX ?_; try refine aA ?_) | refine gS ?_)
          (refine FinQ hQ (congrArg Array.toList Tryz.results69) _ _ ?_); simp (disch := omega) only [u, i64, ax, if_true, forall_const, reduceCtorEq, implies_true, tvs, bf]
        · rw [if_neg (by omega)]
          refine RetN_start Tryz.func69 (by kernel_rfl) rfl fun Q hQ hQ2 => ?_; rw [Tryz.ntmps69]; simp only [u, i64, Nat.reduceSub, Nat.reduceAdd, bm]
          repeat (first | (refine gC ?_; first | refine aA ?_ | (refine cR hZ ?_; refine sX ?_; try refine aA ?_)) | (refine cR hZ ?_; refine sX ?_; try refine aA ?_) | refine gS ?_)
          (refine FinQ hQ (congrArg Array.toList Tryz.results69) _ _ ?_); simp (disch := omega) only [u, i64, ax, if_true, forall_const, reduceCtorEq, implies_true, tvs, bf]
    · rw [if_neg (fun h => by rcases h with h | h; exact hz h; exact h1 h.1)]
      clear hz
      by_cases h4 : e < -80000
      · rw [if_pos (Or.inr h4)]
        refine RetN_start Tryz.func69 (by kernel_rfl) rfl fun Q hQ hQ2 => ?_; rw [Tryz.ntmps69]; simp only [u, i64, Nat.reduceSub, Nat.reduceAdd, bm]
        repeat (first | (refine gC ?_; first | refine aA ?_ | (refine cR hZ ?_; refine sX ?_; try refine aA ?_)) | (refine cR hZ ?_; refine sX ?_; try refine aA ?_) | refine gS ?_)
        (refine FinQ hQ (congrArg Array.toList Tryz.results69) _ _ ?_); simp (disch := omega) only [u, i64, ax, if_true, forall_const, reduceCtorEq, implies_true, tvs, bf]
      · rw [if_neg (by omega)]
        refine RetN_start Tryz.func69 (by kernel_rfl) rfl fun Q hQ hQ2 => ?_; rw [Tryz.ntmps69]; simp only [u, i64, Nat.reduceSub, Nat.reduceAdd, bm]
        repeat (first | (refine gC ?_; first | refine aA ?_ | (refine cR hZ ?_; refine sX ?_; try refine aA ?_)) | (refine cR hZ ?_; refine sX ?_; try refine aA ?_) | refine gS ?_)
        (refine FinQ hQ (congrArg Array.toList Tryz.results69) _ _ ?_); simp (disch := omega) only [u, i64, ax, if_true, forall_const, reduceCtorEq, implies_true, tvs, bf]
theorem ret_Adjd22 (k e : Int) (neg : Bool) (cs : List Nat) (hc : Wd cs) (h0 : val cs ≠ 0) (hl : cs.length ≤ 10000) (he : -1000000 ≤ e ∧ e ≤ 1000000) :
    Ret Tryz.prog GEs 68 [.agg [i64 k, .bool neg, ws cs, i64 e]] (i64 (e + dg (val cs) - 1)) := by
  have hD := ret_rDigitsW cs hc h0 hl
  have hb := bl_len (val cs)
  have hnl := length_words_val_le hc
  have hdb := dg_le_bl (val cs)
  generalize dg (val cs) = n at *
  refine RetN_start Tryz.func68 (by kernel_rfl) rfl fun Q hQ hQ2 => ?_; rw [Tryz.ntmps68]; simp only [u, i64, Nat.reduceSub, Nat.reduceAdd, bm]
  repeat (first | (refine gC ?_; first | refine aA ?_ | (refine cR hD ?_; refine sX ?_; try refine aA ?_)) | (refine cR hD ?_; refine sX ?_; try refine aA ?_) | refine gS ?_)
  (refine FinQ hQ (congrArg Array.toList Tryz.results68) _ _ ?_); simp (disch := omega) only [u, i64, ax, if_true, forall_const, reduceCtorEq, implies_true, tvs, bf]
theorem ret_DAdjBad (d : DI) (h : d.ok) (hb : ¬ d.good) : Ret Tryz.prog GEs 66 [d.av] (.tup [i64 0, i64 221]) := by
  have hR := ret_rights1 d h
  rw [if_neg hb] at hR
  unfold DI.av
  refine RetN_start Tryz.func66 (by kernel_rfl) rfl fun Q hQ hQ2 => ?_; rw [Tryz.ntmps66]; simp only [u, i64, Nat.reduceSub, Nat.reduceAdd, bm]
  (refine gO ?_)
  (refine gC ?_)
  simp (disch := omega) only [u, i64, ax, eq_self, if_true, if_false, Nat.reduceAdd, Int.reduceToNat, Int.reduceAdd, tvs, bs, Nat.reduceMul, List.take_succ_cons, List.take_zero, List.nil_append, List.cons_append, List.append_nil, Nat.reduceLeDiff]
  repeat (first | (refine gC ?_; first | refine aA ?_ | (refine cR hR ?_; refine sX ?_; try refine aA ?_)) | (refine cR hR ?_; refine sX ?_; try refine aA ?_) | refine gS ?_)
  (refine FinQ hQ (congrArg Array.toList Tryz.results66) _ _ ?_); simp (disch := omega) only [u, i64, ax, if_true, forall_const, reduceCtorEq, implies_true, tvs, bf]
theorem ret_DAdjNone (d : DI) (h : d.ok) (hb : d.good) (hk : d.k ≠ 0) : Ret Tryz.prog GEs 66 [d.av] (.tup [i64 0, i64 4]) := by
  have hR := ret_rights1 d h
  rw [if_pos hb] at hR
  unfold DI.av
  generalize val d.cs = v at *
  refine RetN_start Tryz.func66 (by kernel_rfl) rfl fun Q hQ hQ2 => ?_; rw [Tryz.ntmps66]; simp only [u, i64, Nat.reduceSub, Nat.reduceAdd, bm]
  (refine gO ?_)
  (refine gC ?_)
  simp (disch := omega) only [u, i64, ax, eq_self, if_true, if_false, Nat.reduceAdd, Int.reduceToNat, Int.reduceAdd, tvs, bs, Nat.reduceMul, List.take_succ_cons, List.take_zero, List.nil_append, List.cons_append, List.append_nil, Nat.reduceLeDiff]
  repeat (first | (refine gC ?_; first | refine aA ?_ | (refine cR hR ?_; refine sX ?_; try refine aA ?_)) | (refine cR hR ?_; refine sX ?_; try refine aA ?_) | refine gS ?_)
  (refine FinQ hQ (congrArg Array.toList Tryz.results66) _ _ ?_); simp (disch := omega) only [u, i64, ax, if_true, forall_const, reduceCtorEq, implies_true, tvs, bf]
theorem ret_DAdjZero (d : DI) (h : d.ok) (hb : d.good) (hk : d.k = 0) (h0 : val d.cs = 0) : Ret Tryz.prog GEs 66 [d.av] (.tup [i64 0, i64 4]) := by
  have hR := ret_rights1 d h
  rw [if_pos hb] at hR
  have hZ := ret_dzero d.D (by show d.k.toNat ≤ 2; omega) (Nat.le_trans (d.len_le h) (by decide))
  rw [decT (show d.D.kind = 0 ∧ d.D.coef = 0 from ⟨by show d.k.toNat = 0; omega, h0⟩), DI.dv_eq hb] at hZ
  unfold DI.av
  generalize val d.cs = v at *
  refine RetN_start Tryz.func66 (by kernel_rfl) rfl fun Q hQ hQ2 => ?_; rw [Tryz.ntmps66]; simp only [u, i64, Nat.reduceSub, Nat.reduceAdd, bm]
  (refine gO ?_)
  (refine gC ?_)
  simp (disch := omega) only [u, i64, ax, eq_self, if_true, if_false, Nat.reduceAdd, Int.reduceToNat, Int.reduceAdd, tvs, bs, Nat.reduceMul, List.take_succ_cons, List.take_zero, List.nil_append, List.cons_append, List.append_nil, Nat.reduceLeDiff]
  repeat (first | (refine gC ?_; first | refine aA ?_ | ((first | refine cR hR ?_ | refine cR hZ ?_); refine sX ?_; try refine aA ?_)) | ((first | refine cR hR ?_ | refine cR hZ ?_); refine sX ?_; try refine aA ?_) | refine gS ?_)
  (refine FinQ hQ (congrArg Array.toList Tryz.results66) _ _ ?_); simp (disch := omega) only [u, i64, ax, if_true, forall_const, reduceCtorEq, implies_true, tvs, bf]
theorem ret_DAdj (d : DI) (h : d.ok) (hb : d.good) (hk : d.k = 0) (h0 : val d.cs ≠ 0) : Ret Tryz.prog GEs 66 [d.av] (.tup [i64 (d.e + dg (val d.cs) - 1), i64 0]) := by
  have hR := ret_rights1 d h
  rw [if_pos hb] at hR
  have hl := d.len_le h
  have hl' : (words (val d.cs)).length ≤ 40 := hl
  have hZ := ret_dzero d.D (by show d.k.toNat ≤ 2; omega) (by omega)
  rw [decF (show ¬ (d.D.kind = 0 ∧ d.D.coef = 0) from fun h => h0 h.2), DI.dv_eq hb] at hZ
  have hD := ret_WDigits (val d.cs) (by omega)
  have b1 := bl_len (val d.cs)
  have b2 := dg_le_bl (val d.cs)
  have b3 : -1000000 ≤ d.e ∧ d.e ≤ 1000000 := by have := hb; unfold DI.good goodD at this; omega
  unfold DI.av
  generalize dg (val d.cs) = D at *
  generalize val d.cs = v at *
  refine RetN_start Tryz.func66 (by kernel_rfl) rfl fun Q hQ hQ2 => ?_; rw [Tryz.ntmps66]; simp only [u, i64, Nat.reduceSub, Nat.reduceAdd, bm]
  (refine gO ?_)
  (refine gC ?_)
  simp (disch := omega) only [u, i64, ax, eq_self, if_true, if_false, Nat.reduceAdd, Int.reduceToNat, Int.reduceAdd, tvs, bs, Nat.reduceMul, List.take_succ_cons, List.take_zero, List.nil_append, List.cons_append, List.append_nil, Nat.reduceLeDiff]
  repeat (first | (refine gC ?_; first | refine aA ?_ | ((first | refine cR hR ?_ | refine cR hZ ?_ | refine cR hD ?_); refine sX ?_; try refine aA ?_)) | ((first | refine cR hR ?_ | refine cR hZ ?_ | refine cR hD ?_); refine sX ?_; try refine aA ?_) | refine gS ?_)
  (refine FinQ hQ (congrArg Array.toList Tryz.results66) _ _ ?_); simp (disch := omega) only [u, i64, ax, if_true, forall_const, reduceCtorEq, implies_true, tvs, bf]
theorem ret_NoRat22 : Ret Tryz.prog GEs 30 [.agg [.bool false, .lst 0 [], .lst 0 []]] (.bool true) := ret_NoRat0
set_option maxHeartbeats 16000000 in
theorem ret_LawDecimalValue (d : DI) (hd : d.pra) : Ret Tryz.prog GEs 15 [d.av] (.bool true) := by
  have hS := ret_Short1 d hd.len
  by_cases hs : d.cs.length ≤ 40
  · rw [decT hs] at hS
    have h1 := hd.ok hs
    have hT := ret_TheirD d.k d.e d.neg d.cs
    have hG := ret_Good22 d.k d.e d.neg d.cs h1.k1 h1.k2 h1.e1 h1.e2 h1.wd (by omega)
    have hFr := ret_Far22 d.k d.e d.neg d.cs h1.wd hs h1.e1 h1.e2
    have hZ := ret_Zero22 d.k d.e d.neg d.cs h1.wd (by omega)
    have hN := ret_NoRat22
    by_cases hb : d.good
    · rw [decT (show goodD d.k d.neg (val d.cs) d.e from hb)] at hG
      by_cases k0 : d.k = 0
      · have eb : -1000000 ≤ d.e ∧ d.e ≤ 1000000 := by have := hb; unfold DI.good goodD at this; omega
        by_cases z0 : val d.cs = 0
        · rw [decT (show d.k = 0 ∧ val d.cs = 0 from ⟨k0, z0⟩)] at hZ
          rw [if_pos (Or.inl ⟨k0, z0⟩)] at hFr
          have hAd := ret_DAdjZero d h1 hb k0 z0
          have hV := ret_DValueZero d h1 hb k0 z0
          have hV2 := ret_Value22z d.k d.e d.neg d.cs k0 h1.wd hs z0
          have hIs : Ret Tryz.prog GEs 31 [.agg [.bool false, .lst 0 [], nat 1], .agg [.bool false, nat 0, nat 1]] (.bool true) := ret_Is12g false 0 1 (by decide) (Nat.le_trans (length_le (k := 1) (by decide)) (by decide)) (fun _ => rfl) (by decide) (by decide)
          clear h1 hb eb
          unfold DI.av at *
          refine RetN_start Tryz.func15 (by kernel_rfl) rfl fun Q hQ hQ2 => ?_; rw [Tryz.ntmps15]; simp only [u, i64, Nat.reduceSub, Nat.reduceAdd, bm]
          (refine gO ?_)
          (refine gC ?_)
          simp (disch := omega) only [u, i64, ax, eq_self, if_true, if_false, Nat.reduceAdd, Int.reduceToNat, Int.reduceAdd, tvs, bs, Nat.reduceMul, List.take_succ_cons, List.take_zero, List.nil_append, List.cons_append, List.append_nil, Nat.reduceLeDiff]
          repeat (first | (refine gC ?_; first | refine aA ?_ | ((first | refine cR hS ?_ | refine cR hT ?_ | refine cR hAd ?_ | refine cR hG ?_ | refine cR hZ ?_ | refine cR hFr ?_ | refine cR hV ?_ | refine cR hV2 ?_ | refine cR hIs ?_ | refine cR ret_awake22 ?_); refine sX ?_; try refine aA ?_)) | ((first | refine cR hS ?_ | refine cR hT ?_ | refine cR hAd ?_ | refine cR hG ?_ | refine cR hZ ?_ | refine cR hFr ?_ | refine cR hV ?_ | refine cR hV2 ?_ | refine cR hIs ?_ | refine cR ret_awake22 ?_); refine sX ?_; try refine aA ?_) | refine gS ?_)
          (refine FinQ hQ (congrArg Array.toList Tryz.results15) _ _ ?_); simp (disch := omega) only [u, i64, ax, if_true, forall_const, reduceCtorEq, implies_true, tvs, bf]
        · rw [decF (show ¬ (d.k = 0 ∧ val d.cs = 0) from fun h => z0 h.2)] at hZ
          have hAd := ret_DAdj d h1 hb k0 z0
          have hAj := ret_Adjd22 d.k d.e d.neg d.cs h1.wd z0 (by omega) eb
          have b1 := bl_len (val d.cs)
          have b2 := dg_le_bl (val d.cs)
          have b3 := length_words_val_le h1.wd
          by_cases hn : -3000 < d.e ∧ d.e < 3000
          · rw [if_pos (Or.inr hn)] at hFr
            have hV := ret_DValueNear d h1 hb k0 z0 hn
            have hV2 := ret_Value22 d.k d.e d.neg d.cs k0 h1.wd hs z0 (by omega)
            obtain ⟨p1, p2, p3, p4⟩ := parts_spec d.e z0
            obtain ⟨q1, q2, q3⟩ := near_len (e := d.e) z0 (by omega) hn
            have hIs := ret_Is12g d.neg (prN (val d.cs) d.e) (prD (val d.cs) d.e) (by omega) (by omega) (fun h => absurd h p3) p2 p4
            clear h1 hb p1 p2 p3 p4 q1 q2 q3
            generalize prN (val d.cs) d.e = N at *
            generalize prD (val d.cs) d.e = DD at *
            generalize dg (val d.cs) = D at *
            unfold DI.av at *
            refine RetN_start Tryz.func15 (by kernel_rfl) rfl fun Q hQ hQ2 => ?_; rw [Tryz.ntmps15]; simp only [u, i64, Nat.reduceSub, Nat.reduceAdd, bm]
            (refine gO ?_)
            (refine gC ?_)
            simp (disch := omega) only [u, i64, ax, eq_self, if_true, if_false, Nat.reduceAdd, Int.reduceToNat, Int.reduceAdd, tvs, bs, Nat.reduceMul, List.take_succ_cons, List.take_zero, List.nil_append, List.cons_append, List.append_nil, Nat.reduceLeDiff]
            repeat (first | (refine gC ?_; first | refine aA ?_ | ((first | refine cR hS ?_ | refine cR hT ?_ | refine cR hAd ?_ | refine cR hG ?_ | refine cR hZ ?_ | refine cR hAj ?_ | refine cR hFr ?_ | refine cR hV ?_ | refine cR hV2 ?_ | refine cR hIs ?_ | refine cR ret_awake22 ?_); refine sX ?_; try refine aA ?_)) | ((first | refine cR hS ?_ | refine cR hT ?_ | refine cR hAd ?_ | refine cR hG ?_ | refine cR hZ ?_ | refine cR hAj ?_ | refine cR hFr ?_ | refine cR hV ?_ | refine cR hV2 ?_ | refine cR hIs ?_ | refine cR ret_awake22 ?_); refine sX ?_; try refine aA ?_) | refine gS ?_)
            (refine FinQ hQ (congrArg Array.toList Tryz.results15) _ _ ?_); simp (disch := omega) only [u, i64, ax, if_true, forall_const, reduceCtorEq, implies_true, tvs, bf]
          · rw [if_neg (fun h => by rcases h with h | h; exact z0 h.2; exact hn h)] at hFr
            by_cases hf : 79000 < d.e ∨ d.e < -80000
            · rw [if_pos hf] at hFr
              have hV := ret_DValueFar d h1 hb k0 z0 hf
              unfold rat0 at hV
              clear h1 hb hf hn
              generalize dg (val d.cs) = D at *
              unfold DI.av at *
              refine RetN_start Tryz.func15 (by kernel_rfl) rfl fun Q hQ hQ2 => ?_; rw [Tryz.ntmps15]; simp only [u, i64, Nat.reduceSub, Nat.reduceAdd, bm]
              (refine gO ?_)
              (refine gC ?_)
              simp (disch := omega) only [u, i64, ax, eq_self, if_true, if_false, Nat.reduceAdd, Int.reduceToNat, Int.reduceAdd, tvs, bs, Nat.reduceMul, List.take_succ_cons, List.take_zero, List.nil_append, List.cons_append, List.append_nil, Nat.reduceLeDiff]
              repeat (first | (refine gC ?_; first | refine aA ?_ | ((first | refine cR hS ?_ | refine cR hT ?_ | refine cR hAd ?_ | refine cR hG ?_ | refine cR hZ ?_ | refine cR hAj ?_ | refine cR hFr ?_ | refine cR hV ?_ | refine cR hN ?_ | refine cR ret_awake22 ?_); refine sX ?_; try refine aA ?_)) | ((first | refine cR hS ?_ | refine cR hT ?_ | refine cR hAd ?_ | refine cR hG ?_ | refine cR hZ ?_ | refine cR hAj ?_ | refine cR hFr ?_ | refine cR hV ?_ | refine cR hN ?_ | refine cR ret_awake22 ?_); refine sX ?_; try refine aA ?_) | refine gS ?_)
              (refine FinQ hQ (congrArg Array.toList Tryz.results15) _ _ ?_); simp (disch := omega) only [u, i64, ax, if_true, forall_const, reduceCtorEq, implies_true, tvs, bf]
            · rw [if_neg hf] at hFr
              clear h1 hb hf hn
              generalize dg (val d.cs) = D at *
              unfold DI.av at *
              refine RetN_start Tryz.func15 (by kernel_rfl) rfl fun Q hQ hQ2 => ?_; rw [Tryz.ntmps15]; simp only [u, i64, Nat.reduceSub, Nat.reduceAdd, bm]
              (refine gO ?_)
              (refine gC ?_)
              simp (disch := omega) only [u, i64, ax, eq_self, if_true, if_false, Nat.reduceAdd, Int.reduceToNat, Int.reduceAdd, tvs, bs, Nat.reduceMul, List.take_succ_cons, List.take_zero, List.nil_append, List.cons_append, List.append_nil, Nat.reduceLeDiff]
              repeat (first | (refine gC ?_; first | refine aA ?_ | ((first | refine cR hS ?_ | refine cR hT ?_ | refine cR hAd ?_ | refine cR hG ?_ | refine cR hZ ?_ | refine cR hAj ?_ | refine cR hFr ?_ | refine cR ret_awake22 ?_); refine sX ?_; try refine aA ?_)) | ((first | refine cR hS ?_ | refine cR hT ?_ | refine cR hAd ?_ | refine cR hG ?_ | refine cR hZ ?_ | refine cR hAj ?_ | refine cR hFr ?_ | refine cR ret_awake22 ?_); refine sX ?_; try refine aA ?_) | refine gS ?_)
              (refine FinQ hQ (congrArg Array.toList Tryz.results15) _ _ ?_); simp (disch := omega) only [u, i64, ax, if_true, forall_const, reduceCtorEq, implies_true, tvs, bf]
      · have e0 : d.e = 0 := by have := hb; unfold DI.good goodD at this; omega
        rw [if_pos (Or.inr (by omega))] at hFr
        have hAd := ret_DAdjNone d h1 hb k0
        have hV := ret_DValueNone d h1 hb k0
        unfold rat0 at hV
        clear h1 hb hZ
        unfold DI.av at *
        refine RetN_start Tryz.func15 (by kernel_rfl) rfl fun Q hQ hQ2 => ?_; rw [Tryz.ntmps15]; simp only [u, i64, Nat.reduceSub, Nat.reduceAdd, bm]
        (refine gO ?_)
        (refine gC ?_)
        simp (disch := omega) only [u, i64, ax, eq_self, if_true, if_false, Nat.reduceAdd, Int.reduceToNat, Int.reduceAdd, tvs, bs, Nat.reduceMul, List.take_succ_cons, List.take_zero, List.nil_append, List.cons_append, List.append_nil, Nat.reduceLeDiff]
        repeat (first | (refine gC ?_; first | refine aA ?_ | ((first | refine cR hS ?_ | refine cR hT ?_ | refine cR hAd ?_ | refine cR hG ?_ | refine cR hFr ?_ | refine cR hV ?_ | refine cR hN ?_ | refine cR ret_awake22 ?_); refine sX ?_; try refine aA ?_)) | ((first | refine cR hS ?_ | refine cR hT ?_ | refine cR hAd ?_ | refine cR hG ?_ | refine cR hFr ?_ | refine cR hV ?_ | refine cR hN ?_ | refine cR ret_awake22 ?_); refine sX ?_; try refine aA ?_) | refine gS ?_)
        (refine FinQ hQ (congrArg Array.toList Tryz.results15) _ _ ?_); simp (disch := omega) only [u, i64, ax, if_true, forall_const, reduceCtorEq, implies_true, tvs, bf]
    · rw [decF (show ¬ goodD d.k d.neg (val d.cs) d.e from hb)] at hG
      have hAd := ret_DAdjBad d h1 hb
      have hV := ret_DValueBad d h1 hb
      unfold rat0 at hV
      have hFr2 : ∃ a b, Ret Tryz.prog GEs 69 [.agg [i64 d.k, .bool d.neg, ws d.cs, i64 d.e]] (.tup [.bool a, .bool b]) := by
        revert hFr
        split
        · exact fun h => ⟨_, _, h⟩
        · split
          · exact fun h => ⟨_, _, h⟩
          · exact fun h => ⟨_, _, h⟩
      obtain ⟨a, b, hFr⟩ := hFr2
      clear h1 hb hZ
      unfold DI.av at *
      by_cases k0 : d.k = 0
      · skip
        refine RetN_start Tryz.func15 (by kernel_rfl) rfl fun Q hQ hQ2 => ?_; rw [Tryz.ntmps15]; simp only [u, i64, Nat.reduceSub, Nat.reduceAdd, bm]
        (refine gO ?_)
        (refine gC ?_)
        simp (disch := omega) only [u, i64, ax, eq_self, if_true, if_false, Nat.reduceAdd, Int.reduceToNat, Int.reduceAdd, tvs, bs, Nat.reduceMul, List.take_succ_cons, List.take_zero, List.nil_append, List.cons_append, List.append_nil, Nat.reduceLeDiff]
        repeat (first | (refine gC ?_; first | refine aA ?_ | ((first | refine cR hS ?_ | refine cR hT ?_ | refine cR hAd ?_ | refine cR hG ?_ | refine cR hFr ?_ | refine cR hV ?_ | refine cR hN ?_ | refine cR ret_awake22 ?_); refine sX ?_; try refine aA ?_)) | ((first | refine cR hS ?_ | refine cR hT ?_ | refine cR hAd ?_ | refine cR hG ?_ | refine cR hFr ?_ | refine cR hV ?_ | refine cR hN ?_ | refine cR ret_awake22 ?_); refine sX ?_; try refine aA ?_) | refine gS ?_)
        (refine FinQ hQ (congrArg Array.toList Tryz.results15) _ _ ?_); simp (disch := omega) only [u, i64, ax, if_true, forall_const, reduceCtorEq, implies_true, tvs, bf]
      · skip
        refine RetN_start Tryz.func15 (by kernel_rfl) rfl fun Q hQ hQ2 => ?_; rw [Tryz.ntmps15]; simp only [u, i64, Nat.reduceSub, Nat.reduceAdd, bm]
        (refine gO ?_)
        (refine gC ?_)
        simp (disch := omega) only [u, i64, ax, eq_self, if_true, if_false, Nat.reduceAdd, Int.reduceToNat, Int.reduceAdd, tvs, bs, Nat.reduceMul, List.take_succ_cons, List.take_zero, List.nil_append, List.cons_append, List.append_nil, Nat.reduceLeDiff]
        repeat (first | (refine gC ?_; first | refine aA ?_ | ((first | refine cR hS ?_ | refine cR hT ?_ | refine cR hAd ?_ | refine cR hG ?_ | refine cR hFr ?_ | refine cR hV ?_ | refine cR hN ?_ | refine cR ret_awake22 ?_); refine sX ?_; try refine aA ?_)) | ((first | refine cR hS ?_ | refine cR hT ?_ | refine cR hAd ?_ | refine cR hG ?_ | refine cR hFr ?_ | refine cR hV ?_ | refine cR hN ?_ | refine cR ret_awake22 ?_); refine sX ?_; try refine aA ?_) | refine gS ?_)
        (refine FinQ hQ (congrArg Array.toList Tryz.results15) _ _ ?_); simp (disch := omega) only [u, i64, ax, if_true, forall_const, reduceCtorEq, implies_true, tvs, bf]
  · rw [decF hs] at hS
    unfold DI.av at *
    refine RetN_start Tryz.func15 (by kernel_rfl) rfl fun Q hQ hQ2 => ?_; rw [Tryz.ntmps15]; simp only [u, i64, Nat.reduceSub, Nat.reduceAdd, bm]
    (refine gO ?_)
    (refine gC ?_)
    simp (disch := omega) only [u, i64, ax, eq_self, if_true, if_false, Nat.reduceAdd, Int.reduceToNat, Int.reduceAdd, tvs, bs, Nat.reduceMul, List.take_succ_cons, List.take_zero, List.nil_append, List.cons_append, List.append_nil, Nat.reduceLeDiff]
    repeat (first | (refine gC ?_; first | refine aA ?_ | ((first | refine cR hS ?_ | refine cR ret_awake22 ?_); refine sX ?_; try refine aA ?_)) | ((first | refine cR hS ?_ | refine cR ret_awake22 ?_); refine sX ?_; try refine aA ?_) | refine gS ?_)
    (refine FinQ hQ (congrArg Array.toList Tryz.results15) _ _ ?_); simp (disch := omega) only [u, i64, ax, if_true, forall_const, reduceCtorEq, implies_true, tvs, bf]
end Go.Proofs
