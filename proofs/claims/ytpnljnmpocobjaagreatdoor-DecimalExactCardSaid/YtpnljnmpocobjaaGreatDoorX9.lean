/-
  Plain lemmas, with no program in sight.
-/
import Derived.Test.YtpnljnmpocobjaaGreatDoorX6
import Derived.Shelf.Spec.TrailingZeros
import Derived.Test.YtpnljnmpocobjaaGreatDoorX8
set_option linter.unusedVariables false
set_option linter.unusedSimpArgs false
namespace Go.Proofs
open Go.Ax
/-- Which of two numbers is greater, as an int. -/
def cmpI (a b : Nat) : Int := if a < b then -1 else if b < a then 1 else 0
/-- The length in bits. -/
def bl (n : Nat) : Nat := if n = 0 then 0 else n.log2 + 1
/-- How many bits at the low end are 0. -/
def tz (n : Nat) : Nat := if n = 0 then 0 else Lib.ctzFrom (n.log2 + 1) n
theorem bl_eq {n k : Nat} (h1 : 2 ^ k ≤ n) (h2 : n < 2 ^ (k + 1)) : bl n = k + 1 := by
  have hp : 0 < 2 ^ k := Nat.two_pow_pos k
  unfold bl
  rw [if_neg (by omega), (Nat.log2_eq_iff (by omega)).2 ⟨h1, h2⟩]
theorem bl_spec {n : Nat} (h : n ≠ 0) : 2 ^ (bl n - 1) ≤ n ∧ n < 2 ^ bl n ∧ 1 ≤ bl n := by
  unfold bl
  rw [if_neg h]
  exact ⟨by simpa using Nat.log2_self_le h, Nat.lt_log2_self, by omega⟩
theorem bl_le {n k : Nat} (h : n < 2 ^ k) : bl n ≤ k := by
  by_cases h0 : n = 0
  · subst h0; simp [bl]
  · have := (bl_spec h0).1
    rcases Nat.lt_or_ge k (bl n) with hk | hk
    · have h3 : 2 ^ k ≤ 2 ^ (bl n - 1) := Nat.pow_le_pow_right (by decide) (by omega)
      omega
    · exact hk
theorem ctzFrom_of : ∀ (k f m : Nat), k < f → Lib.ctzFrom f (2 ^ k * (2 * m + 1)) = k
  | 0, 0, m, h => by omega
  | 0, f + 1, m, h => by unfold Lib.ctzFrom; rw [if_pos (by omega)]
  | k + 1, 0, m, h => by omega
  | k + 1, f + 1, m, h => by
    unfold Lib.ctzFrom
    have e : 2 ^ (k + 1) * (2 * m + 1) = 2 * (2 ^ k * (2 * m + 1)) := by rw [Nat.pow_succ, Nat.mul_comm (2 ^ k) 2, Nat.mul_assoc]
    rw [if_neg (by omega), e, Nat.mul_div_cancel_left _ (by decide), ctzFrom_of k f m (by omega), Nat.add_comm]
theorem tz_of (k m : Nat) : tz (2 ^ k * (2 * m + 1)) = k := by
  have hp : 0 < 2 ^ k * (2 * m + 1) := Nat.mul_pos (Nat.two_pow_pos k) (by omega)
  unfold tz
  rw [if_neg (by omega)]
  refine ctzFrom_of k _ m ?_
  have : k ≤ (2 ^ k * (2 * m + 1)).log2 := (Nat.le_log2 (by omega)).2 (Nat.le_mul_of_pos_right _ (by omega))
  omega
theorem tz_spec {n : Nat} (h : n ≠ 0) : ∃ m, n = 2 ^ tz n * (2 * m + 1) := by
  obtain ⟨m, h1, _⟩ := Lib.ctzFrom_spec (n.log2 + 1) n (by omega) Nat.lt_log2_self
  refine ⟨m, ?_⟩
  unfold tz
  rw [if_neg h]; exact h1
/-- What a remainder is: nothing, less than a half, a half, more. -/
def restC (x d : Nat) : Nat := if x = 0 then 0 else if 2 * x < d then 1 else if 2 * x = d then 2 else 3
/-- Does the last digit become greater by 1? -/
def moreF (r : Nat) (neg odd : Bool) (x : Nat) : Bool :=
  if r = 0 then decide (x = 3) || (decide (x = 2) && odd) else if r = 1 then decide (2 ≤ x) else if r = 2 then false else if r = 3 then decide (0 < x) && !neg else decide (0 < x) && neg
theorem restC_le (x d : Nat) : restC x d ≤ 3 := by unfold restC; split <;> (try split) <;> (try split) <;> omega
/-- A quotient, rounded to an integer. -/
def quoN (r : Nat) (neg : Bool) (n d : Nat) : Nat := n / d + if moreF r neg (decide (n / d % 2 = 1)) (restC (n % d) d) = true then 1 else 0
def upR (r : Nat) (neg : Bool) (N : Nat) (half rest : Bool) : Bool :=
  if r = 0 then half && (rest || decide (N % 2 = 1)) else if r = 1 then half else if r = 3 then !neg else if r = 4 then neg else false
def rndR (r : Nat) (neg : Bool) (N : Nat) (half rest : Bool) : Nat := N + if (half || rest) && upR r neg N half rest then 1 else 0
theorem half_facts (n d : Nat) (hd : 0 < d) : 2 * n / d / 2 = n / d ∧ decide (2 * n / d % 2 = 1) = decide (d ≤ 2 * (n % d)) ∧ decide (2 * n % d ≠ 0) = decide (n % d ≠ 0 ∧ 2 * (n % d) ≠ d) := by
  have hx := Nat.mod_lt n hd
  have hn := Nat.div_add_mod n d
  have e : 2 * n = 2 * (n % d) + d * (2 * (n / d)) := by
    conv => lhs; rw [← hn]
    rw [Nat.mul_add, Nat.mul_left_comm]; omega
  generalize n % d = x at *
  generalize n / d = q at *
  rw [e, Nat.add_mul_div_left _ _ hd, Nat.add_mul_mod_self_left (2 * x) d (2 * q)]
  rcases Nat.lt_or_ge (2 * x) d with h | h
  · rw [Nat.div_eq_of_lt h, Nat.mod_eq_of_lt h]
    exact ⟨by omega, by rw [decF (by omega), decF (by omega)], by congr 1; exact propext (by omega)⟩
  · have h1 : 2 * x / d = 1 := Nat.div_eq_of_lt_le (by omega) (by omega)
    have h2 : 2 * x % d = 2 * x - d := by rw [Nat.mod_eq_sub_mod h, Nat.mod_eq_of_lt (by omega)]
    rw [h1, h2]
    exact ⟨by omega, by rw [decT (by omega), decT (by omega)], by congr 1; exact propext (by omega)⟩
theorem rndR_eq (r : Nat) (hr : r ≤ 4) (neg : Bool) (n d : Nat) (hd : 0 < d) : rndR r neg (2 * n / d / 2) (decide (2 * n / d % 2 = 1)) (decide (2 * n % d ≠ 0)) = quoN r neg n d ∧ (!(decide (2 * n / d % 2 = 1)) && !(decide (2 * n % d ≠ 0))) = decide (n % d = 0) := by
  obtain ⟨e1, e2, e3⟩ := half_facts n d hd
  rw [e1, e2, e3]
  have hx := Nat.mod_lt n hd
  unfold rndR quoN
  generalize n / d = q
  generalize n % d = x at *
  have h1 : r = 0 ∨ r = 1 ∨ r = 2 ∨ r = 3 ∨ r = 4 := by omega
  have hc : (x = 0 ∧ restC x d = 0 ∧ decide (d ≤ 2 * x) = false ∧ decide (x ≠ 0 ∧ 2 * x ≠ d) = false) ∨ (x ≠ 0 ∧ restC x d = 1 ∧ decide (d ≤ 2 * x) = false ∧ decide (x ≠ 0 ∧ 2 * x ≠ d) = true) ∨
      (x ≠ 0 ∧ restC x d = 2 ∧ decide (d ≤ 2 * x) = true ∧ decide (x ≠ 0 ∧ 2 * x ≠ d) = false) ∨ (x ≠ 0 ∧ restC x d = 3 ∧ decide (d ≤ 2 * x) = true ∧ decide (x ≠ 0 ∧ 2 * x ≠ d) = true) := by
    unfold restC
    by_cases h0 : x = 0
    · left; refine ⟨h0, by rw [if_pos h0], decF (by omega), decF (by omega)⟩
    · right
      by_cases h2 : 2 * x < d
      · left; exact ⟨h0, by rw [if_neg h0, if_pos h2], decF (by omega), decT (by omega)⟩
      · right
        by_cases h3 : 2 * x = d
        · left; exact ⟨h0, by rw [if_neg h0, if_neg h2, if_pos h3], decT (by omega), decF (by omega)⟩
        · right; exact ⟨h0, by rw [if_neg h0, if_neg h2, if_neg h3], decT (by omega), decT (by omega)⟩
  rcases hc with ⟨a, b, c, e⟩ | ⟨a, b, c, e⟩ | ⟨a, b, c, e⟩ | ⟨a, b, c, e⟩ <;> rw [b, c, e] <;> refine ⟨?_, by simp [a]⟩ <;> rcases h1 with rfl | rfl | rfl | rfl | rfl <;> cases neg <;> simp [upR, moreF]
end Go.Proofs
set_option linter.unusedVariables false
namespace Go.Proofs
open Go.Ax
/-- 2^e is at most n / d. -/
def ge2 (n d : Nat) (e : Int) : Prop := d * 2 ^ e.toNat ≤ n * 2 ^ (-e).toNat
instance (n d : Nat) (e : Int) : Decidable (ge2 n d e) := by unfold ge2; infer_instance
end Go.Proofs
set_option linter.unusedVariables false
namespace Go.Proofs
open Go.Ax
structure FV where
  kind : Nat
  neg : Bool
  exp : Int
  mag : Nat
/-- Does what is too great become the greatest number? -/
def grtF (r : Nat) (neg : Bool) : Bool := decide (r = 2) || (decide (r = 3) && neg) || (decide (r = 4) && !neg)
def de (d : Nat) (s : Int) : Nat := d * 2 ^ s.toNat
theorem moreF_zero (r : Nat) (neg odd : Bool) : moreF r neg odd 0 = false := by
  unfold moreF
  split
  · simp
  · split
    · simp
    · split
      · rfl
      · split <;> simp
theorem bl_ge {n k : Nat} (h : 2 ^ k ≤ n) : k + 1 ≤ bl n := by
  have h0 : n ≠ 0 := by have := Nat.two_pow_pos k; omega
  have := (bl_spec h0).2.1
  rcases Nat.lt_or_ge (bl n) (k + 1) with h1 | h1
  · have h3 : 2 ^ bl n ≤ 2 ^ k := Nat.pow_le_pow_right (by decide) (by omega)
    omega
  · exact h1
end Go.Proofs
set_option linter.unusedVariables false
namespace Go.Proofs
open Go.Ax
theorem quoN_exact (r : Nat) (neg : Bool) (q d : Nat) (hd : 0 < d) : quoN r neg (q * d) d = q := by
  unfold quoN restC
  rw [Nat.mul_mod_left, if_pos rfl, moreF_zero, Nat.mul_div_cancel _ hd, if_neg (by decide), Nat.add_zero]
end Go.Proofs
set_option linter.unusedVariables false
namespace Go.Proofs
open Go.Ax
theorem bl_lt (n : Nat) : n < 2 ^ bl n := by
  by_cases h : n = 0
  · subst h; decide
  · exact (bl_spec h).2.1
end Go.Proofs
set_option linter.unusedVariables false
namespace Go.Proofs
open Go.Ax
theorem quoN_le (r : Nat) (neg : Bool) (n d M : Nat) (hd : 0 < d) (h : n ≤ M * d) : quoN r neg n d ≤ M := by
  by_cases he : n = M * d
  · subst he; rw [quoN_exact r neg M d hd]; exact Nat.le_refl _
  · have h1 : n / d < M := (Nat.div_lt_iff_lt_mul hd).2 (by omega)
    unfold quoN
    split <;> omega
end Go.Proofs
set_option linter.unusedVariables false
namespace Go.Proofs
open Go.Ax
end Go.Proofs
set_option linter.unusedVariables false
namespace Go.Proofs
open Go.Ax
def ds (a b : Nat) : Nat := (a - b) + (b - a)
end Go.Proofs
set_option linter.unusedVariables false
namespace Go.Proofs
open Go.Ax
def dg (n : Nat) : Nat := if h : n = 0 then 0 else dg (n / 10) + 1
decreasing_by omega
/-- How many zeros there are at the end. -/
def st (n : Nat) : Nat := if h : n ≠ 0 ∧ n % 10 = 0 then st (n / 10) + 1 else 0
decreasing_by omega
theorem ten_pos (k : Nat) : 0 < 10 ^ k := Nat.pow_pos (by decide)
theorem dg_zero : dg 0 = 0 := by unfold dg; rfl
theorem dg_spec (n : Nat) : n ≠ 0 → 10 ^ (dg n - 1) ≤ n ∧ n < 10 ^ dg n ∧ 1 ≤ dg n := by
  induction n using Nat.strongRecOn with
  | _ n ih =>
    intro h
    unfold dg
    rw [dif_neg h, Nat.add_sub_cancel]
    by_cases h0 : n / 10 = 0
    · rw [h0, dg_zero]; exact ⟨by omega, by omega, by omega⟩
    · obtain ⟨h1, h2, h3⟩ := ih (n / 10) (by omega) h0
      obtain ⟨k, hk⟩ : ∃ k, dg (n / 10) = k + 1 := ⟨dg (n / 10) - 1, by omega⟩
      rw [hk] at h1 h2 ⊢
      rw [Nat.add_sub_cancel] at h1
      have e1 := Nat.pow_succ 10 k
      have e2 := Nat.pow_succ 10 (k + 1)
      omega
theorem dg_lt (n : Nat) : n < 10 ^ dg n := by
  by_cases h : n = 0
  · subst h; exact ten_pos _
  · exact (dg_spec n h).2.1
theorem ten_mono {a b : Nat} (h : a ≤ b) : 10 ^ a ≤ 10 ^ b := Nat.pow_le_pow_right (by decide) h
theorem dg_le {n k : Nat} (h : n < 10 ^ k) : dg n ≤ k := by
  by_cases h0 : n = 0
  · subst h0; rw [dg_zero]; omega
  · obtain ⟨h1, h2, h3⟩ := dg_spec n h0
    rcases Nat.lt_or_ge k (dg n) with hk | hk
    · have := ten_mono (show k ≤ dg n - 1 by omega); omega
    · exact hk
theorem dg_ge {n k : Nat} (h : 10 ^ k ≤ n) : k + 1 ≤ dg n := by
  have := dg_lt n
  rcases Nat.lt_or_ge (dg n) (k + 1) with hk | hk
  · have := ten_mono (show dg n ≤ k by omega); omega
  · exact hk
theorem dg_eq {n k : Nat} (h1 : 10 ^ k ≤ n) (h2 : n < 10 ^ (k + 1)) : dg n = k + 1 := Nat.le_antisymm (dg_le h2) (dg_ge h1)
theorem dg_mul (n k : Nat) (h : n ≠ 0) : dg (n * 10 ^ k) = dg n + k := by
  obtain ⟨h1, h2, h3⟩ := dg_spec n h
  have := dg_eq (n := n * 10 ^ k) (k := dg n - 1 + k) (by rw [Nat.pow_add]; exact Nat.mul_le_mul_right _ h1) (by
    rw [show dg n - 1 + k + 1 = dg n + k by omega, Nat.pow_add]; exact Nat.mul_lt_mul_of_pos_right h2 (ten_pos k))
  omega
theorem dg_pow (k : Nat) : dg (10 ^ k) = k + 1 := dg_eq (Nat.le_refl _) (Nat.pow_lt_pow_right (by decide) (by omega))
theorem st_spec (n : Nat) : n ≠ 0 → ∃ m, n = m * 10 ^ st n ∧ m % 10 ≠ 0 := by
  induction n using Nat.strongRecOn with
  | _ n ih =>
    intro h
    unfold st
    by_cases h0 : n % 10 = 0
    · rw [dif_pos ⟨h, h0⟩]
      obtain ⟨m, h1, h2⟩ := ih (n / 10) (by omega) (by omega)
      refine ⟨m, ?_, h2⟩
      rw [Nat.pow_succ, ← Nat.mul_assoc, ← h1]
      omega
    · rw [dif_neg (by omega)]
      exact ⟨n, by simp, h0⟩
theorem st_of (m k : Nat) (h : m % 10 ≠ 0) : st (m * 10 ^ k) = k := by
  induction k with
  | zero =>
    rw [Nat.pow_zero, Nat.mul_one]
    unfold st
    rw [dif_neg (by omega)]
  | succ k ih =>
    have hp := ten_pos k
    have h0 : 0 < m * 10 ^ k := Nat.mul_pos (by omega) hp
    unfold st
    rw [Nat.pow_succ, ← Nat.mul_assoc, dif_pos ⟨by omega, by omega⟩, Nat.mul_div_cancel _ (by decide), ih]
theorem st_dvd {n k : Nat} (h : n ≠ 0) : n % 10 ^ k = 0 ↔ k ≤ st n := by
  obtain ⟨m, h1, h2⟩ := st_spec n h
  constructor
  · intro hm
    rcases Nat.lt_or_ge (st n) k with hk | hk
    · exfalso
      obtain ⟨c, hc⟩ := Nat.dvd_of_mod_eq_zero hm
      obtain ⟨j, rfl⟩ : ∃ j, k = st n + (j + 1) := ⟨k - st n - 1, by omega⟩
      rw [h1, st_of m _ h2, Nat.pow_add, Nat.mul_assoc, Nat.mul_comm m] at hc
      have := Nat.eq_of_mul_eq_mul_left (ten_pos _) hc
      rw [Nat.pow_succ, Nat.mul_assoc, Nat.mul_left_comm] at this
      omega
    · exact hk
  · intro hk
    rw [h1, show st n = st n - k + k by omega, Nat.pow_add, ← Nat.mul_assoc]
    exact Nat.mul_mod_left _ _
/-- The part of a number that has no zero at the end. -/
def sm (n : Nat) : Nat := n / 10 ^ st n
theorem sm_mul {n : Nat} (h : n ≠ 0) : n = sm n * 10 ^ st n ∧ sm n % 10 ≠ 0 := by
  obtain ⟨m, h1, h2⟩ := st_spec n h
  have : sm n = m := by
    unfold sm
    conv => lhs; arg 1; rw [h1]
    exact Nat.mul_div_cancel _ (ten_pos _)
  rw [this]
  exact ⟨h1, h2⟩
structure DV where
  kind : Nat
  neg : Bool
  coef : Nat
  exp : Int
def overD (p : Nat) (g : Int) (r : Nat) (neg : Bool) : DV := if grtF r neg = true then ⟨0, neg, 10 ^ p - 1, g - p + 1⟩ else ⟨1, neg, 0, 0⟩
/-- The exponent of the step. -/
def stpD (p : Nat) (g a : Int) : Int := max (a - p + 1) (1 - g - (p - 1))
/-- What is not exact. -/
def ineD (p : Nat) (g : Int) (r : Nat) (neg : Bool) (a s : Int) (N : Nat) : DV × Nat :=
  if N = 10 ^ p then (if g < s + 1 + p - 1 then (overD p g r neg, 5) else (⟨0, neg, 10 ^ (p - 1), s + 1⟩, if a < 1 - g then 3 else 1))
  else if N ≠ 0 ∧ g < s + dg N - 1 then (overD p g r neg, 5) else (⟨0, neg, N, s⟩, if a < 1 - g then 3 else 1)
def finD (p : Nat) (g : Int) (r : Nat) (neg : Bool) (mag : Nat) (exp ideal : Int) : DV × Nat :=
  let a := exp + dg mag - 1
  let s := stpD p g a
  let t := exp + st mag
  if g < a then (overD p g r neg, 5)
  else if s ≤ t then (⟨0, neg, sm mag * 10 ^ (t - min t (max ideal s)).toNat, min t (max ideal s)⟩, 0)
  else ineD p g r neg a s (quoN r neg mag (10 ^ (s - exp).toNat))
/-- Does the program's test for an exact result hold? -/
theorem fits_iff (p : Nat) (g : Int) (mag : Nat) (exp : Int) (h : mag ≠ 0) :
    (¬ ((p : Int) < dg (sm mag) ∨ exp + st mag < 1 - g - (p - 1) ∨ g < exp + st mag + dg (sm mag) - 1)) ↔ (¬ g < exp + dg mag - 1 ∧ stpD p g (exp + dg mag - 1) ≤ exp + st mag) := by
  obtain ⟨h1, h2⟩ := sm_mul h
  have hd : dg mag = dg (sm mag) + st mag := by
    conv => lhs; rw [h1]
    exact dg_mul _ _ (by omega)
  unfold stpD
  omega
/-- The program's exponent. -/
theorem fits_at (p : Nat) (g : Int) (mag : Nat) (exp ideal : Int) (h : mag ≠ 0) :
    min (exp + st mag) (max (max ideal (1 - g - (p - 1))) (exp + st mag - (p - dg (sm mag)))) = min (exp + st mag) (max ideal (stpD p g (exp + dg mag - 1))) := by
  obtain ⟨h1, h2⟩ := sm_mul h
  have hd : dg mag = dg (sm mag) + st mag := by
    conv => lhs; rw [h1]
    exact dg_mul _ _ (by omega)
  unfold stpD
  omega
/-- The rest is less than a tenth. -/
theorem tiny_quo (mag k : Nat) (h : dg mag + 1 < k) (hm : mag ≠ 0) : mag / 10 ^ k = 0 ∧ restC (mag % 10 ^ k) (10 ^ k) = 1 := by
  have h1 := dg_lt mag
  have h2 := ten_mono (show dg mag + 2 ≤ k by omega)
  have e1 := Nat.pow_succ 10 (dg mag)
  have e2 : 10 ^ (dg mag + 2) = 10 ^ (dg mag + 1) * 10 := Nat.pow_succ 10 (dg mag + 1)
  have hlt : mag < 10 ^ k := by omega
  refine ⟨Nat.div_eq_of_lt hlt, ?_⟩
  rw [Nat.mod_eq_of_lt hlt]
  unfold restC
  rw [if_neg hm, if_pos (by omega)]
theorem tiny_ref (mag k : Nat) (h : dg (2 * mag) < k) (hm : mag ≠ 0) : 2 * mag / 10 ^ k = 0 ∧ 2 * mag % 10 ^ k ≠ 0 := by
  have h1 := dg_lt (2 * mag)
  have h2 := ten_mono (show dg (2 * mag) ≤ k by omega)
  have hlt : 2 * mag < 10 ^ k := by omega
  exact ⟨Nat.div_eq_of_lt hlt, by rw [Nat.mod_eq_of_lt hlt]; omega⟩
/-- The rounded number has at most one digit more than the precision. -/
theorem quoD_le (p : Nat) (g : Int) (r : Nat) (neg : Bool) (mag : Nat) (exp s : Int) (hs : s = stpD p g (exp + dg mag - 1)) (he : exp < s) : quoN r neg mag (10 ^ (s - exp).toNat) ≤ 10 ^ p := by
  refine quoN_le r neg mag _ _ (ten_pos _) ?_
  rw [← Nat.pow_add]
  refine Nat.le_trans (Nat.le_of_lt (dg_lt mag)) (ten_mono ?_)
  unfold stpD at hs
  omega
end Go.Proofs
set_option linter.unusedVariables false
namespace Go.Proofs
open Go.Ax
theorem ten643 : ∃ K, K = 2136 ∧ 10 ^ 643 ≤ 2 ^ K := ⟨2136, rfl, by decide +kernel⟩
theorem ten_small : (List.range 643).all (fun b => decide (10 ^ b ≤ 10 * 2 ^ ((100000 * b + 26350) / 30103))) = true := by decide +kernel
/-- Where the digits are first guessed. -/
theorem ten_guess (k : Nat) (h : k < 1000000) : 10 ^ (k * 30103 / 100000) ≤ 10 * 2 ^ k := by
  generalize hn : k * 30103 / 100000 = n
  have h1 : n = 643 * (n / 643) + n % 643 := (Nat.div_add_mod n 643).symm
  have hb := Nat.mod_lt n (show 0 < 643 by decide)
  generalize n / 643 = a at *
  generalize n % 643 = b at *
  have h2 := List.all_eq_true.1 ten_small b (List.mem_range.2 hb)
  have h3 : 10 ^ b ≤ 10 * 2 ^ ((100000 * b + 26350) / 30103) := of_decide_eq_true h2
  obtain ⟨K, hK, h643⟩ := ten643
  have h4 : 2136 * a + (100000 * b + 26350) / 30103 ≤ k := by omega
  rw [← hK] at h4
  calc 10 ^ n = (10 ^ 643) ^ a * 10 ^ b := by rw [h1, Nat.pow_add, Nat.pow_mul]
    _ ≤ (2 ^ K) ^ a * (10 * 2 ^ ((100000 * b + 26350) / 30103)) := Nat.mul_le_mul (Nat.pow_le_pow_left h643 a) h3
    _ = 10 * 2 ^ (K * a + (100000 * b + 26350) / 30103) := by rw [← Nat.pow_mul, Nat.mul_left_comm, ← Nat.pow_add]
    _ ≤ 10 * 2 ^ k := Nat.mul_le_mul_left _ (Nat.pow_le_pow_right (by decide) h4)
theorem dg_guess (x : Nat) (h0 : x ≠ 0) (h : bl x ≤ 1000000) : (bl x - 1) * 30103 / 100000 ≤ dg x := by
  obtain ⟨h1, h2, h3⟩ := bl_spec h0
  have h4 := ten_guess (bl x - 1) (by omega)
  generalize (bl x - 1) * 30103 / 100000 = n at *
  rcases Nat.eq_zero_or_pos n with hn | hn
  · omega
  · obtain ⟨m, rfl⟩ : ∃ m, n = m + 1 := ⟨n - 1, by omega⟩
    refine dg_ge ?_
    rw [Nat.pow_succ] at h4
    omega
theorem ten_eq (k : Nat) : 5 ^ k * 2 ^ k = 10 ^ k := by rw [← Nat.mul_pow]
end Go.Proofs
set_option linter.unusedVariables false
namespace Go.Proofs
open Go.Ax
theorem strip_done {n x k : Nat} (h : x * 10 ^ k = n) (hx : x % 10 ≠ 0) : sm n = x ∧ st n = k := by
  have h1 : st n = k := by rw [← h]; exact st_of x k hx
  refine ⟨?_, h1⟩
  unfold sm
  rw [h1, ← h]
  exact Nat.mul_div_cancel _ (ten_pos _)
theorem sm_le (n : Nat) : sm n ≤ n := Nat.div_le_self _ _
theorem sm_ne {n : Nat} (h : n ≠ 0) : sm n ≠ 0 := fun h0 => by have := (sm_mul h).2; rw [h0] at this; exact this rfl
theorem dg_sm {n : Nat} (h : n ≠ 0) : dg n = dg (sm n) + st n := by
  have h1 := (sm_mul h).1
  conv => lhs; rw [h1]
  exact dg_mul _ _ (sm_ne h)
theorem dg_one : dg 1 = 1 := by have := dg_pow 0; simpa using this
theorem five_le (k : Nat) : 5 ^ k ≤ 2 ^ (3 * k) := by rw [Nat.pow_mul]; exact Nat.pow_le_pow_left (by decide) k
theorem ten_le (k : Nat) : 10 ^ k ≤ 2 ^ (4 * k) := by rw [Nat.pow_mul]; exact Nat.pow_le_pow_left (by decide) k
theorem dg_le_bl (n : Nat) : dg n ≤ bl n := by
  refine dg_le (Nat.lt_of_lt_of_le (bl_lt n) ?_)
  exact Nat.pow_le_pow_left (by decide) _
theorem bl_le_dg (n : Nat) : bl n ≤ 4 * dg n := bl_le (Nat.lt_of_lt_of_le (dg_lt n) (ten_le _))
/-- The exponent and the number of what is exact. -/
def exE (p : Nat) (g : Int) (mag : Nat) (exp ideal : Int) : Int := min (exp + st mag) (max ideal (stpD p g (exp + dg mag - 1)))
def exN (p : Nat) (g : Int) (mag : Nat) (exp ideal : Int) : Nat := sm mag * 10 ^ (exp + st mag - exE p g mag exp ideal).toNat
theorem finD_over (p : Nat) (g : Int) (r : Nat) (neg : Bool) (mag : Nat) (exp ideal : Int) (h : g < exp + dg mag - 1) : finD p g r neg mag exp ideal = (overD p g r neg, 5) := by
  unfold finD; simp only; rw [if_pos h]
theorem finD_exact (p : Nat) (g : Int) (r : Nat) (neg : Bool) (mag : Nat) (exp ideal : Int) (h : ¬ g < exp + dg mag - 1) (h2 : stpD p g (exp + dg mag - 1) ≤ exp + st mag) : finD p g r neg mag exp ideal = (⟨0, neg, exN p g mag exp ideal, exE p g mag exp ideal⟩, 0) := by
  unfold finD; simp only; rw [if_neg h, if_pos h2]; rfl
theorem finD_ine (p : Nat) (g : Int) (r : Nat) (neg : Bool) (mag : Nat) (exp ideal : Int) (h : ¬ g < exp + dg mag - 1) (h2 : ¬ stpD p g (exp + dg mag - 1) ≤ exp + st mag) :
    finD p g r neg mag exp ideal = ineD p g r neg (exp + dg mag - 1) (stpD p g (exp + dg mag - 1)) (quoN r neg mag (10 ^ (stpD p g (exp + dg mag - 1) - exp).toNat)) := by
  unfold finD; simp only; rw [if_neg h, if_neg h2]
/-- What is exact is of the context. -/
theorem exact_facts (p : Nat) (g : Int) (mag : Nat) (exp ideal : Int) (hm : mag ≠ 0) (h : ¬ g < exp + dg mag - 1) (h2 : stpD p g (exp + dg mag - 1) ≤ exp + st mag) :
    stpD p g (exp + dg mag - 1) ≤ exE p g mag exp ideal ∧ exE p g mag exp ideal ≤ exp + st mag ∧ exN p g mag exp ideal ≠ 0 ∧ dg (exN p g mag exp ideal) + exE p g mag exp ideal = dg mag + exp ∧ dg (exN p g mag exp ideal) ≤ p := by
  have e0 := dg_sm hm
  have e1 := dg_mul (sm mag) (exp + st mag - exE p g mag exp ideal).toNat (sm_ne hm)
  have hle : exE p g mag exp ideal ≤ exp + st mag := Int.min_le_left _ _
  have hge : stpD p g (exp + dg mag - 1) ≤ exE p g mag exp ideal := by unfold exE; omega
  have hs : (exp + dg mag - 1) - p + 1 ≤ stpD p g (exp + dg mag - 1) := by unfold stpD; omega
  have e2 : dg (exN p g mag exp ideal) + exE p g mag exp ideal = dg mag + exp := by unfold exN; omega
  refine ⟨hge, hle, Nat.mul_ne_zero (sm_ne hm) (Nat.ne_of_gt (ten_pos _)), e2, by omega⟩
/-- Twice a number, divided by a power of 10; whether something is left. -/
def stQ (mag : Nat) (a : Int) : Nat := if 0 ≤ a then 2 * mag * 10 ^ a.toNat else if (dg (2 * mag) : Int) < -a then 0 else 2 * mag / 10 ^ (-a).toNat
def stR (mag : Nat) (a : Int) : Bool := if 0 ≤ a then false else if (dg (2 * mag) : Int) < -a then true else decide (2 * mag % 10 ^ (-a).toNat ≠ 0)
theorem st_pos (r : Nat) (hr : r ≤ 4) (neg : Bool) (mag : Nat) (exp s : Int) (hm : mag ≠ 0) (h : s ≤ exp) :
    rndR r neg (stQ mag (exp - s) / 2) (decide (stQ mag (exp - s) % 2 = 1)) (stR mag (exp - s)) = mag * 10 ^ (exp - s).toNat ∧ (!(decide (stQ mag (exp - s) % 2 = 1)) && !(stR mag (exp - s))) = true := by
  unfold stQ stR
  rw [if_pos (by omega), if_pos (by omega)]
  generalize (exp - s).toNat = k
  have e : 2 * mag * 10 ^ k = 2 * (mag * 10 ^ k) := Nat.mul_assoc ..
  rw [e, decF (show ¬ 2 * (mag * 10 ^ k) % 2 = 1 by omega), Nat.mul_div_cancel_left _ (by decide)]
  exact ⟨by unfold rndR; simp, rfl⟩
theorem st_neg (r : Nat) (hr : r ≤ 4) (neg : Bool) (mag : Nat) (exp s : Int) (hm : mag ≠ 0) (h : exp < s) :
    rndR r neg (stQ mag (exp - s) / 2) (decide (stQ mag (exp - s) % 2 = 1)) (stR mag (exp - s)) = quoN r neg mag (10 ^ (s - exp).toNat) ∧ (!(decide (stQ mag (exp - s) % 2 = 1)) && !(stR mag (exp - s))) = decide (s ≤ exp + st mag) := by
  have key := rndR_eq r hr neg mag (10 ^ (s - exp).toNat) (ten_pos _)
  have hd : decide (mag % 10 ^ (s - exp).toNat = 0) = decide (s ≤ exp + st mag) := by
    rw [decide_eq_decide, st_dvd hm]; omega
  rw [hd] at key
  have hq : stQ mag (exp - s) = 2 * mag / 10 ^ (s - exp).toNat ∧ stR mag (exp - s) = decide (2 * mag % 10 ^ (s - exp).toNat ≠ 0) := by
    unfold stQ stR
    have hneg : ¬ 0 ≤ exp - s := by omega
    rw [if_neg hneg, if_neg hneg, show -(exp - s) = s - exp by omega]
    by_cases h1 : (dg (2 * mag) : Int) < s - exp
    · rw [if_pos h1, if_pos h1]
      obtain ⟨t1, t2⟩ := tiny_ref mag (s - exp).toNat (by omega) hm
      rw [t1, decT t2]
      exact ⟨rfl, rfl⟩
    · rw [if_neg h1, if_neg h1]
      exact ⟨rfl, rfl⟩
  rw [hq.1, hq.2]
  exact key
/-- What is exact, before its exponent is changed. -/
theorem exact_start (mag : Nat) (exp s : Int) (hm : mag ≠ 0) (h : s ≤ exp + st mag) : (if s ≤ exp then mag * 10 ^ (exp - s).toNat else mag / 10 ^ (s - exp).toNat) = sm mag * 10 ^ (exp + st mag - s).toNat := by
  obtain ⟨h1, h2⟩ := sm_mul hm
  split
  · rename_i hs
    conv => lhs; arg 1; rw [h1]
    rw [Nat.mul_assoc, ← Nat.pow_add]
    congr 2
    omega
  · rename_i hs
    conv => lhs; arg 1; rw [h1]
    rw [show st mag = (exp + st mag - s).toNat + (s - exp).toNat by omega, Nat.pow_add, ← Nat.mul_assoc, Nat.mul_div_cancel _ (ten_pos _)]
    congr 2
    omega
theorem quoN_dvd (r : Nat) (neg : Bool) (n d : Nat) (hd : 0 < d) (h : n % d = 0) : quoN r neg n d = n / d := by
  have e : n / d * d = n := Nat.div_mul_cancel (Nat.dvd_of_mod_eq_zero h)
  conv => lhs; rw [← e]
  exact quoN_exact r neg _ _ hd
/-- The reference's rounded number, where it is exact. -/
theorem ref_exact (r : Nat) (hr : r ≤ 4) (neg : Bool) (mag : Nat) (exp s : Int) (hm : mag ≠ 0) (h : s ≤ exp + st mag) :
    rndR r neg (stQ mag (exp - s) / 2) (decide (stQ mag (exp - s) % 2 = 1)) (stR mag (exp - s)) = sm mag * 10 ^ (exp + st mag - s).toNat ∧ (!(decide (stQ mag (exp - s) % 2 = 1)) && !(stR mag (exp - s))) = true := by
  have hx := exact_start mag exp s hm h
  by_cases hs : s ≤ exp
  · rw [if_pos hs] at hx
    rw [← hx]
    exact st_pos r hr neg mag exp s hm hs
  · rw [if_neg hs] at hx
    obtain ⟨k1, k2⟩ := st_neg r hr neg mag exp s hm (by omega)
    rw [k1, k2, decT h]
    refine ⟨?_, rfl⟩
    rw [← hx]
    exact quoN_dvd r neg _ _ (ten_pos _) ((st_dvd hm).2 (by omega))
theorem ref_ine (r : Nat) (hr : r ≤ 4) (neg : Bool) (mag : Nat) (exp s : Int) (hm : mag ≠ 0) (h : ¬ s ≤ exp + st mag) :
    rndR r neg (stQ mag (exp - s) / 2) (decide (stQ mag (exp - s) % 2 = 1)) (stR mag (exp - s)) = quoN r neg mag (10 ^ (s - exp).toNat) ∧ (!(decide (stQ mag (exp - s) % 2 = 1)) && !(stR mag (exp - s))) = false := by
  obtain ⟨k1, k2⟩ := st_neg r hr neg mag exp s hm (by omega)
  rw [k1, k2, decF h]
  exact ⟨rfl, rfl⟩
/-- One zero less. -/
theorem ten_step (m k : Nat) (h : m % 10 ≠ 0) : (m * 10 ^ k % 10 = 0 ↔ 0 < k) ∧ (0 < k → m * 10 ^ k / 10 = m * 10 ^ (k - 1)) := by
  cases k with
  | zero => rw [Nat.pow_zero, Nat.mul_one]; exact ⟨by omega, by omega⟩
  | succ k =>
    rw [Nat.pow_succ, ← Nat.mul_assoc, Nat.mul_mod_left, Nat.mul_div_cancel _ (by decide)]
    exact ⟨by omega, fun _ => rfl⟩
end Go.Proofs
set_option linter.unusedVariables false
namespace Go.Proofs
open Go.Ax
def nanD : DV := ⟨2, false, 0, 0⟩
/-- A number that may be 0, finished. -/
def finD0 (p : Nat) (g : Int) (r : Nat) (neg : Bool) (mag : Nat) (exp ideal : Int) : DV × Nat :=
  if mag = 0 then (⟨0, neg, 0, min (max ideal (1 - g - (p - 1))) g⟩, 0) else finD p g r neg mag exp ideal
def sumN (r : Nat) (na : Bool) (a : Nat) (nb : Bool) (b : Nat) : Bool := if na = nb then na else if b < a then na else if a < b then nb else decide (r = 4)
def sumM (na : Bool) (a : Nat) (nb : Bool) (b : Nat) : Nat := if na = nb then a + b else if b < a then a - b else b - a
def sgI (neg : Bool) (n : Nat) : Int := if neg = true then -(n : Int) else n
theorem sum_ref (r : Nat) (na : Bool) (a : Nat) (nb : Bool) (b : Nat) : (sgI na a + sgI nb b).natAbs = sumM na a nb b ∧ (sgI na a + sgI nb b ≠ 0 → decide (sgI na a + sgI nb b < 0) = sumN r na a nb b) ∧ (sgI na a + sgI nb b = 0 → sumM na a nb b = 0 ∧ sumN r na a nb b = if na = nb then na else decide (r = 4)) := by
  unfold sgI sumM sumN
  cases na <;> cases nb <;> simp only [Bool.false_eq_true, if_true, if_false, reduceCtorEq]
  · refine ⟨by omega, fun h => decF (by omega), fun h => ⟨by omega, by first | rfl | trivial⟩⟩
  · rcases Nat.lt_trichotomy a b with h | h | h
    · rw [if_neg (by omega), if_neg (by omega), if_pos h]
      exact ⟨by omega, fun _ => decT (by omega), fun h' => by omega⟩
    · subst h
      rw [if_neg (by omega), if_neg (by omega), if_neg (by omega)]
      exact ⟨by omega, fun h' => by omega, fun _ => ⟨by omega, rfl⟩⟩
    · rw [if_pos h, if_pos h]
      exact ⟨by omega, fun _ => decF (by omega), fun h' => by omega⟩
  · rcases Nat.lt_trichotomy a b with h | h | h
    · rw [if_neg (by omega), if_neg (by omega), if_pos h]
      exact ⟨by omega, fun _ => decF (by omega), fun h' => by omega⟩
    · subst h
      rw [if_neg (by omega), if_neg (by omega), if_neg (by omega)]
      exact ⟨by omega, fun h' => by omega, fun _ => ⟨by omega, rfl⟩⟩
    · rw [if_pos h, if_pos h]
      exact ⟨by omega, fun _ => decT (by omega), fun h' => by omega⟩
  · refine ⟨by omega, fun h => decT (by omega), fun h => ⟨by omega, by first | rfl | trivial⟩⟩
def addD (p : Nat) (g : Int) (r : Nat) (x y : DV) : DV × Nat :=
  if x.kind = 2 ∨ y.kind = 2 then (nanD, 0)
  else if x.kind = 1 ∧ y.kind = 1 ∧ x.neg ≠ y.neg then (nanD, 16)
  else if x.kind = 1 then (x, 0)
  else if y.kind = 1 then (y, 0)
  else finD0 p g r (sumN r x.neg (x.coef * 10 ^ (x.exp - min x.exp y.exp).toNat) y.neg (y.coef * 10 ^ (y.exp - min x.exp y.exp).toNat))
    (sumM x.neg (x.coef * 10 ^ (x.exp - min x.exp y.exp).toNat) y.neg (y.coef * 10 ^ (y.exp - min x.exp y.exp).toNat)) (min x.exp y.exp) (min x.exp y.exp)
/-- A canonical right decimal number. -/
def rightD (x : DV) : Prop := (x.kind = 0 ∧ -1000000 ≤ x.exp ∧ x.exp ≤ 1000000) ∨ (x.kind = 1 ∧ x.exp = 0 ∧ x.coef = 0) ∨ (x.kind = 2 ∧ x.neg = false ∧ x.exp = 0 ∧ x.coef = 0)
/-- One of a context. -/
def inD (p : Nat) (g : Int) (x : DV) : Prop := x.kind ≠ 0 ∨ (x.coef = 0 ∧ 1 - g - (p - 1) ≤ x.exp ∧ x.exp ≤ g) ∨ (x.coef ≠ 0 ∧ dg x.coef ≤ p ∧ 1 - g - (p - 1) ≤ x.exp ∧ x.exp + dg x.coef - 1 ≤ g)
instance (x : DV) : Decidable (rightD x) := by unfold rightD; infer_instance
instance (p : Nat) (g : Int) (x : DV) : Decidable (inD p g x) := by unfold inD; infer_instance
theorem inD_exp {p : Nat} {g : Int} {x : DV} (hp : 1 ≤ p) (hr : rightD x) (h : inD p g x) : (x.kind = 0 → 1 - g - (p - 1) ≤ x.exp ∧ x.exp ≤ g) ∧ (x.kind ≠ 0 → x.exp = 0 ∧ x.coef = 0) := by
  refine ⟨fun h0 => ?_, fun h0 => ?_⟩
  · rcases h with h | h | h
    · exact absurd h0 h
    · exact h.2
    · have := (dg_spec x.coef h.1).2.2
      exact ⟨h.2.2.1, by omega⟩
  · rcases hr with hr | hr | hr
    · exact absurd hr.1 h0
    · exact ⟨hr.2.1, hr.2.2⟩
    · exact ⟨hr.2.2.1, hr.2.2.2⟩
/-- A product, before it is finished. -/
def timesD (x y : DV) : DV × Bool :=
  if x.kind = 2 ∨ y.kind = 2 then (nanD, true)
  else if x.kind = 1 ∨ y.kind = 1 then (⟨1, x.neg != y.neg, 0, 0⟩, !(decide (x.kind = 0 ∧ x.coef = 0)) && !(decide (y.kind = 0 ∧ y.coef = 0)))
  else (⟨0, x.neg != y.neg, x.coef * y.coef, x.exp + y.exp⟩, true)
def plusD (p : Nat) (g : Int) (r : Nat) (x : DV) : DV × Nat := if x.kind = 0 then finD0 p g r x.neg x.coef x.exp x.exp else (x, 0)
def mulD (p : Nat) (g : Int) (r : Nat) (x y : DV) : DV × Nat := if (timesD x y).2 = true then plusD p g r (timesD x y).1 else (nanD, 16)
def fusedD (p : Nat) (g : Int) (r : Nat) (x y z : DV) : DV × Nat := if z.kind = 2 then (nanD, 0) else if (timesD x y).2 = true then addD p g r (timesD x y).1 z else (nanD, 16)
/-- What is finished is right, and of the context. -/
theorem overD_in (p : Nat) (g : Int) (r : Nat) (neg : Bool) (hp : 1 ≤ p) (hp2 : p ≤ 400) (hg : 1 ≤ g) (hg2 : g ≤ 6000) : rightD (overD p g r neg) ∧ inD p g (overD p g r neg) := by
  unfold overD
  split
  · have h1 : 10 ^ p - 1 ≠ 0 := by
      have : 10 ^ 1 ≤ 10 ^ p := ten_mono hp
      omega
    have h2 : dg (10 ^ p - 1) ≤ p := dg_le (by have := ten_pos p; omega)
    have h3 := (dg_spec _ h1).2.2
    exact ⟨.inl ⟨rfl, by show -1000000 ≤ g - p + 1; omega, by show g - p + 1 ≤ 1000000; omega⟩, .inr (.inr ⟨h1, h2, by show 1 - g - (p - 1) ≤ g - p + 1; omega, by show g - p + 1 + dg (10 ^ p - 1) - 1 ≤ g; omega⟩)⟩
  · exact ⟨.inr (.inl ⟨rfl, rfl, rfl⟩), .inl (by show 1 ≠ 0; decide)⟩
theorem stpD_range {p : Nat} {g a : Int} (hp : 1 ≤ p) (h : a ≤ g) : 1 - g - (p - 1) ≤ stpD p g a ∧ (1 ≤ g → stpD p g a ≤ g) := by unfold stpD; omega
theorem finD_in (p : Nat) (g : Int) (r : Nat) (neg : Bool) (mag : Nat) (exp ideal : Int) (hp : 1 ≤ p) (hp2 : p ≤ 400) (hg : 1 ≤ g) (hg2 : g ≤ 6000) (hm : mag ≠ 0) : rightD (finD p g r neg mag exp ideal).1 ∧ inD p g (finD p g r neg mag exp ideal).1 := by
  have ho := overD_in p g r neg hp hp2 hg hg2
  by_cases h1 : g < exp + dg mag - 1
  · rw [finD_over p g r neg mag exp ideal h1]; exact ho
  · have hs := stpD_range (p := p) (g := g) (a := exp + dg mag - 1) hp (by omega)
    by_cases h2 : stpD p g (exp + dg mag - 1) ≤ exp + st mag
    · rw [finD_exact p g r neg mag exp ideal h1 h2]
      obtain ⟨f1, f2, f3, f4, f5⟩ := exact_facts p g mag exp ideal hm h1 h2
      have h3 := (dg_spec _ f3).2.2
      exact ⟨.inl ⟨rfl, by show -1000000 ≤ exE p g mag exp ideal; omega, by show exE p g mag exp ideal ≤ 1000000; omega⟩, .inr (.inr ⟨f3, f5, by show 1 - g - (p - 1) ≤ exE p g mag exp ideal; omega, by show exE p g mag exp ideal + dg (exN p g mag exp ideal) - 1 ≤ g; omega⟩)⟩
    · rw [finD_ine p g r neg mag exp ideal h1 h2]
      have hN := quoD_le p g r neg mag exp _ rfl (by omega : exp < stpD p g (exp + dg mag - 1))
      generalize quoN r neg mag (10 ^ (stpD p g (exp + dg mag - 1) - exp).toNat) = N at *
      generalize stpD p g (exp + dg mag - 1) = s at *
      unfold ineD
      by_cases h3 : N = 10 ^ p
      · rw [if_pos h3]
        split
        · exact ho
        · rename_i h4
          have h5 : 10 ^ (p - 1) ≠ 0 := Nat.ne_of_gt (ten_pos _)
          have h6 := dg_pow (p - 1)
          exact ⟨.inl ⟨rfl, by show -1000000 ≤ s + 1; omega, by show s + 1 ≤ 1000000; omega⟩, .inr (.inr ⟨h5, by show dg (10 ^ (p - 1)) ≤ p; omega, by show 1 - g - (p - 1) ≤ s + 1; omega, by show s + 1 + dg (10 ^ (p - 1)) - 1 ≤ g; omega⟩)⟩
      · rw [if_neg h3]
        split
        · exact ho
        · rename_i h4
          refine ⟨.inl ⟨rfl, by show -1000000 ≤ s; omega, by show s ≤ 1000000; omega⟩, .inr ?_⟩
          by_cases h5 : N = 0
          · exact .inl ⟨h5, by show 1 - g - (p - 1) ≤ s; omega, by show s ≤ g; omega⟩
          · have h6 : dg N ≤ p := dg_le (by omega)
            exact .inr ⟨h5, h6, by show 1 - g - (p - 1) ≤ s; omega, by show s + dg N - 1 ≤ g; omega⟩
theorem finD0_in (p : Nat) (g : Int) (r : Nat) (neg : Bool) (mag : Nat) (exp ideal : Int) (hp : 1 ≤ p) (hp2 : p ≤ 400) (hg : 1 ≤ g) (hg2 : g ≤ 6000) : rightD (finD0 p g r neg mag exp ideal).1 ∧ inD p g (finD0 p g r neg mag exp ideal).1 := by
  unfold finD0
  split
  · exact ⟨.inl ⟨rfl, by show -1000000 ≤ min (max ideal (1 - g - (p - 1))) g; omega, by show min (max ideal (1 - g - (p - 1))) g ≤ 1000000; omega⟩, .inr (.inl ⟨rfl, by show 1 - g - (p - 1) ≤ min (max ideal (1 - g - (p - 1))) g; omega, by show min (max ideal (1 - g - (p - 1))) g ≤ g; omega⟩)⟩
  · rename_i h; exact finD_in p g r neg mag exp ideal hp hp2 hg hg2 h
/-- What is of the context is finished as it is. -/
theorem finD0_self (p : Nat) (g : Int) (r : Nat) (x : DV) (hk : x.kind = 0) (h : inD p g x) : finD0 p g r x.neg x.coef x.exp x.exp = (x, 0) := by
  obtain ⟨k, neg, c, e⟩ := x
  simp only at hk
  subst hk
  unfold finD0
  rcases h with h | h | h
  · exact absurd rfl h
  · simp only at h ⊢
    rw [if_pos h.1, h.1]
    have : min (max e (1 - g - (p - 1))) g = e := by omega
    rw [this]
  · simp only at h ⊢
    rw [if_neg h.1]
    have h1 : ¬ g < e + dg c - 1 := by omega
    have hs : stpD p g (e + dg c - 1) ≤ e := by unfold stpD; omega
    rw [finD_exact p g r neg c e e h1 (by omega)]
    have e1 : exE p g c e e = e := by unfold exE; omega
    unfold exN
    rw [e1, show (e + st c - e).toNat = st c by omega, ← (sm_mul h.1).1]
end Go.Proofs
set_option linter.unusedVariables false
namespace Go.Proofs
open Go.Ax
def digs : List Nat → List Nat
  | [] => []
  | x :: xs => x % 4294967296 :: x / 4294967296 :: digs xs
theorem digs_length : ∀ xs : List Nat, (digs xs).length = 2 * xs.length
  | [] => rfl
  | x :: xs => by simp only [digs, List.length_cons, digs_length xs]; omega
theorem digs_Ds : ∀ {xs : List Nat}, Wd xs → Ds 4294967296 (digs xs)
  | [], _ => Ds_nil
  | x :: xs, h => Ds_cons (Nat.mod_lt _ (by decide)) (Ds_cons (by have := h.head; omega) (digs_Ds h.tail))
theorem digs_val : ∀ (xs : List Nat), vb 4294967296 (digs xs) = val xs
  | [] => rfl
  | x :: xs => by
    simp only [digs, vb, val, digs_val xs]
    omega
theorem digs_snoc : ∀ (xs : List Nat) (x : Nat), digs (xs ++ [x]) = digs xs ++ [x % 4294967296, x / 4294967296]
  | [], x => rfl
  | y :: xs, x => by simp only [List.cons_append, digs, digs_snoc xs x]
theorem digs_take (xs : List Nat) (n : Nat) (h : n < xs.length) : digs (xs.take (n + 1)) = digs (xs.take n) ++ [xs.getD n 0 % 4294967296, xs.getD n 0 / 4294967296] := by
  rw [List.take_succ_eq_append_getElem h, digs_snoc, List.getD_eq_getElem?_getD, List.getElem?_eq_getElem h]; rfl
/-- Halves put together. -/
def joined : List Nat → List Nat
  | a :: b :: ds => (a + b * 4294967296) :: joined ds
  | _ => []
theorem joined_length : ∀ (ds : List Nat), (joined ds).length = ds.length / 2
  | [] => rfl
  | [_] => by simp [joined]
  | a :: b :: ds => by simp only [joined, List.length_cons, joined_length ds]; omega
theorem joined_Wd : ∀ {ds : List Nat}, Ds 4294967296 ds → Wd (joined ds)
  | [], _ => Wd_nil
  | [_], _ => Wd_nil
  | a :: b :: ds, h => by
    have h1 := h.head
    have h2 := h.tail.head
    exact Wd_cons (by omega) (joined_Wd h.tail.tail)
theorem joined_val : ∀ (ds : List Nat), ds.length % 2 = 0 → val (joined ds) = vb 4294967296 ds
  | [], _ => rfl
  | [_], h => by simp at h
  | a :: b :: ds, h => by
    have ih := joined_val ds (by simpa [Nat.add_assoc, Nat.add_mod_right] using h)
    simp only [joined, val, vb, ih]
    omega
theorem joined_snoc : ∀ (ds : List Nat) (a b : Nat), ds.length % 2 = 0 → joined (ds ++ [a, b]) = joined ds ++ [a + b * 4294967296]
  | [], a, b, _ => rfl
  | [_], _, _, h => by simp at h
  | x :: y :: ds, a, b, h => by
    have ih := joined_snoc ds a b (by simpa [Nat.add_assoc, Nat.add_mod_right] using h)
    simp only [List.cons_append, joined, ih]
theorem take_two (ds : List Nat) (n : Nat) (h : n + 1 < ds.length) : ds.take (n + 2) = ds.take n ++ [ds.getD n 0, ds.getD (n + 1) 0] := by
  rw [List.take_succ_eq_append_getElem h, List.take_succ_eq_append_getElem (by omega), List.append_assoc]
  simp [List.getD_eq_getElem?_getD, List.getElem?_eq_getElem h, List.getElem?_eq_getElem (show n < ds.length by omega)]
theorem joined_take (ds : List Nat) (i : Nat) (h : 2 * i + 1 < ds.length) : joined (ds.take (2 * (i + 1))) = joined (ds.take (2 * i)) ++ [ds.getD (2 * i) 0 + ds.getD (2 * i + 1) 0 * 4294967296] := by
  rw [show 2 * (i + 1) = 2 * i + 2 by omega, take_two ds (2 * i) h, joined_snoc]
  rw [List.length_take, Nat.min_eq_left (by omega)]; omega
theorem pow_half (n : Nat) : (4294967296 : Nat) ^ (2 * n) = 18446744073709551616 ^ n := by rw [Nat.pow_mul]
/-- Words that have no fewer words in canonical form. -/
theorem canon_of_ge {xs : List Nat} (hw : Wd xs) (h : 18446744073709551616 ^ (xs.length - 1) ≤ val xs) : Canon xs := fun hne h0 => by
  have e := List.dropLast_concat_getLast hne
  rw [h0] at e
  have hv : val xs = val xs.dropLast := by
    conv => lhs; rw [← e]
    rw [val_append]; simp [val]
  have hd : Wd xs.dropLast := fun y hy => hw y ((List.dropLast_sublist _).subset hy)
  have := val_lt hd
  rw [List.length_dropLast] at this
  omega
theorem words_of_ge {xs : List Nat} (hw : Wd xs) (h : 18446744073709551616 ^ (xs.length - 1) ≤ val xs) : xs = words (val xs) := (words_val hw (canon_of_ge hw h)).symm
end Go.Proofs
set_option linter.unusedVariables false
namespace Go.Proofs
open Go.Ax
section
variable {K : Nat}
theorem vtake_zero_rest (hK : 0 < K) {xs : List Nat} {n : Nat} (h : vb K xs < K ^ n) : vb K (xs.take n) = vb K xs ∧ (n ≤ xs.length → vb K (xs.drop n) = 0) := by
  rcases Nat.lt_or_ge n xs.length with hn | hn
  · have e := vb_drop (K := K) xs n (by omega)
    rcases Nat.eq_zero_or_pos (vb K (xs.drop n)) with h0 | h0
    · rw [h0, Nat.mul_zero, Nat.add_zero] at e; exact ⟨e.symm, fun _ => h0⟩
    · have := Nat.mul_le_mul_left (K ^ n) (show 1 ≤ vb K (xs.drop n) from h0)
      omega
  · rw [List.take_of_length_le hn]
    exact ⟨rfl, fun _ => by rw [List.drop_of_length_le hn]; rfl⟩
/-- A row in which a piece is put in the place of another one. -/
def put (U R : List Nat) (j : Nat) : List Nat := U.take j ++ (R ++ U.drop (j + R.length))
theorem put_step (U R : List Nat) (j k : Nat) (hk : k < R.length) (hj : j + k < U.length) :
    (U.take j ++ (R.take k ++ U.drop (j + k))).set (j + k) (R.getD k 0) = U.take j ++ (R.take (k + 1) ++ U.drop (j + (k + 1))) := by
  have h1 : (U.take j).length = j := by rw [List.length_take]; omega
  have h2 : (R.take k).length = k := by rw [List.length_take]; omega
  rw [List.set_append_right _ _ (by omega), List.set_append_right _ _ (by omega), h1, h2, show j + k - j - k = 0 by omega, List.drop_eq_getElem_cons hj, List.set_cons_zero, List.take_succ_eq_append_getElem hk, List.append_assoc, List.getD_eq_getElem?_getD, List.getElem?_eq_getElem hk]
  rfl
theorem put_facts (hK : 0 < K) {U : List Nat} {j n X V : Nat} (hU : Ds K U) (hlen : j + n ≤ U.length) (hX : X = vb K (U.drop j)) (hlt : X < K ^ n) (hV : 0 < V) :
    (put U (wfb K n (X % V)) j).length = U.length ∧ Ds K (put U (wfb K n (X % V)) j) ∧ vb K ((put U (wfb K n (X % V)) j).drop j) = X % V ∧
    vb K (put U (wfb K n (X % V)) j) + V * (K ^ j * (X / V)) = vb K U := by
  have hd : (U.take j).length = j := by rw [List.length_take]; omega
  have hr0 : vb K (U.drop (j + n)) = 0 := by
    have := (vtake_zero_rest hK (xs := U.drop j) (n := n) (by rw [← hX]; exact hlt)).2 (by rw [List.length_drop]; omega)
    rwa [List.drop_drop] at this
  have hmod : X % V < K ^ n := Nat.lt_of_le_of_lt (Nat.mod_le _ _) hlt
  have hp : put U (wfb K n (X % V)) j = U.take j ++ (wfb K n (X % V) ++ U.drop (j + n)) := by unfold put; rw [wfb_length]
  have hdr : (put U (wfb K n (X % V)) j).drop j = wfb K n (X % V) ++ U.drop (j + n) := by
    rw [hp, List.drop_append_of_le_length (by omega), List.drop_of_length_le (by omega), List.nil_append]
  have hv : vb K ((put U (wfb K n (X % V)) j).drop j) = X % V := by
    rw [hdr, vb_append, hr0, Nat.mul_zero, Nat.add_zero, vb_wfb hK _ _ hmod]
  have hl : (put U (wfb K n (X % V)) j).length = U.length := by
    rw [hp, List.length_append, List.length_append, wfb_length, hd, List.length_drop]; omega
  refine ⟨hl, by rw [hp]; exact (hU.take j).append ((wfb_Ds hK _ _).append (hU.drop _)), hv, ?_⟩
  have e1 := vb_drop (K := K) (put U (wfb K n (X % V)) j) j (by omega)
  have e2 := vb_drop (K := K) U j (by omega)
  have e3 : (put U (wfb K n (X % V)) j).take j = U.take j := by
    rw [hp, List.take_append_of_le_length (by omega), List.take_of_length_le (by omega)]
  rw [e3, hv] at e1
  rw [e1, e2, ← hX]
  conv => rhs; rw [← Nat.div_add_mod X V]
  rw [Nat.mul_add, Nat.mul_left_comm V]
  omega
/-- The first guess is not too small. -/
theorem guess1 (hK : 0 < K) {U V : List Nat} {j : Nat} (hU : Ds K U) (hV : Ds K V) (h1 : 1 ≤ V.length) (hlen : j + (V.length + 1) ≤ U.length) (hlt : vb K (U.drop (j + 1)) < vb K V) (htop : 0 < V.getD (V.length - 1) 0) :
    vb K (U.drop j) < K ^ (V.length + 1) ∧ vb K (U.drop j) / vb K V ≤ min ((U.getD (j + V.length) 0 * K + U.getD (j + V.length - 1) 0) / V.getD (V.length - 1) 0) (K - 1) := by
  obtain ⟨m, hm⟩ : ∃ m, V.length = m + 1 := ⟨V.length - 1, by omega⟩
  have hd := vb_drop_one (K := K) U j (by omega)
  have hx := hU.getD hK j
  have hVl := vb_lt hV
  have hB : vb K (U.drop j) < K * vb K V := by
    rw [hd]
    have := Nat.mul_le_mul_left K (show vb K (U.drop (j + 1)) + 1 ≤ vb K V from hlt)
    rw [Nat.mul_add, Nat.mul_one] at this
    omega
  have hsm : vb K (U.drop j) < K ^ (V.length + 1) := by
    rw [Nat.pow_succ, Nat.mul_comm]
    exact Nat.lt_trans hB ((Nat.mul_lt_mul_left hK).2 hVl)
  refine ⟨hsm, ?_⟩
  have hV0 : 0 < vb K V := by omega
  have hQ : vb K (U.drop j) / vb K V < K := (Nat.div_lt_iff_lt_mul hV0).2 hB
  refine Nat.le_min.2 ⟨?_, by omega⟩
  have et := (vtake_zero_rest hK hsm).1
  rw [hm] at et htop ⊢
  simp only [Nat.add_sub_cancel, show j + (m + 1) - 1 = j + m by omega] at htop ⊢
  have eV : vb K V = vb K (V.take (m + 1)) := by rw [List.take_of_length_le (by omega)]
  rw [vb_take_getD V m] at eV
  have eU := et.symm
  rw [vb_take_getD (U.drop j) (m + 1), vb_take_getD (U.drop j) m] at eU
  have hg : ∀ i, (U.drop j).getD i 0 = U.getD (j + i) 0 := fun i => by simp [List.getD_eq_getElem?_getD, List.getElem?_drop]
  rw [hg, hg] at eU
  have hlU := vb_lt ((hU.drop j).take m)
  rw [List.length_take, List.length_drop, Nat.min_eq_left (by omega)] at hlU
  refine (Nat.le_div_iff_mul_le htop).2 (knuth_le (P := K ^ m) (Vl := vb K (V.take m)) (Ul := vb K ((U.drop j).take m)) (V := vb K V) (U := vb K (U.drop j)) ?_ ?_ hlU (Nat.div_mul_le_self _ _))
  · rw [eV, Nat.mul_comm (K ^ m)]; omega
  · rw [eU, Nat.pow_succ, Nat.add_mul, Nat.mul_comm (K ^ m) (U.getD (j + m) 0), Nat.mul_comm (K ^ m * K), Nat.mul_assoc, Nat.mul_comm (K ^ m) K, ← Nat.mul_assoc]; omega
/-- The digits that are there at first. -/
theorem row_top1 (hK : 0 < K) {X V : List Nat} {n : Nat} (hX : Ds K X) (hn : 1 ≤ n) (hV : K ^ (n - 1) ≤ vb K V) : vb K ((X ++ [0]).drop (X.length + 1 - n)) < vb K V := by
  have h0 : vb K (X ++ [0]) = vb K X := by rw [vb_append]; simp [vb]
  have hlt := vb_lt hX
  rcases Nat.lt_or_ge (vb K ((X ++ [0]).drop (X.length + 1 - n))) (vb K V) with h | h
  · exact h
  · have e := vb_drop (K := K) (X ++ [0]) (X.length + 1 - n) (by simp)
    rw [h0] at e
    have h1 := Nat.mul_le_mul_left (K ^ (X.length + 1 - n)) (Nat.le_trans hV h)
    rw [← Nat.pow_add] at h1
    have h2 : K ^ X.length ≤ K ^ (X.length + 1 - n + (n - 1)) := Nat.pow_le_pow_right hK (by omega)
    omega
end
end Go.Proofs
