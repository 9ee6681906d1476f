/-
  Plain lemmas, with no program in sight.
-/
import Derived.Test.YtenfiehjbeojeaaGreatDoorV6
import Derived.Shelf.Spec.TrailingZeros
import Derived.Test.YtenfiehjbeojeaaGreatDoorV8
set_option linter.unusedVariables false
set_option linter.unusedSimpArgs false
namespace Go.Proofs
open Go.Ax
/-- Which of two numbers is greater, as an int. -/
def cmpI (a b : Nat) : Int := if a < b then -1 else if b < a then 1 else 0
/-- The length in bits. -/
def bl (n : Nat) : Nat := if n = 0 then 0 else n.log2 + 1
/-- How many bits at the low end are 0. -/
def tz (n : Nat) : Nat := if n = 0 then 0 else Lib.ctzFrom (n.log2 + 1) n
theorem bl_eq {n k : Nat} (h1 : 2 ^ k ≤ n) (h2 : n < 2 ^ (k + 1)) : bl n = k + 1 := by
  have hp : 0 < 2 ^ k := Nat.two_pow_pos k
  unfold bl
  rw [if_neg (by omega), (Nat.log2_eq_iff (by omega)).2 ⟨h1, h2⟩]
theorem bl_spec {n : Nat} (h : n ≠ 0) : 2 ^ (bl n - 1) ≤ n ∧ n < 2 ^ bl n ∧ 1 ≤ bl n := by
  unfold bl
  rw [if_neg h]
  exact ⟨by simpa using Nat.log2_self_le h, Nat.lt_log2_self, by omega⟩
theorem bl_le {n k : Nat} (h : n < 2 ^ k) : bl n ≤ k := by
  by_cases h0 : n = 0
  · subst h0; simp [bl]
  · have := (bl_spec h0).1
    rcases Nat.lt_or_ge k (bl n) with hk | hk
    · have h3 : 2 ^ k ≤ 2 ^ (bl n - 1) := Nat.pow_le_pow_right (by decide) (by omega)
      omega
    · exact hk
theorem ctzFrom_of : ∀ (k f m : Nat), k < f → Lib.ctzFrom f (2 ^ k * (2 * m + 1)) = k
  | 0, 0, m, h => by omega
  | 0, f + 1, m, h => by unfold Lib.ctzFrom; rw [if_pos (by omega)]
  | k + 1, 0, m, h => by omega
  | k + 1, f + 1, m, h => by
    unfold Lib.ctzFrom
    have e : 2 ^ (k + 1) * (2 * m + 1) = 2 * (2 ^ k * (2 * m + 1)) := by rw [Nat.pow_succ, Nat.mul_comm (2 ^ k) 2, Nat.mul_assoc]
    rw [if_neg (by omega), e, Nat.mul_div_cancel_left _ (by decide), ctzFrom_of k f m (by omega), Nat.add_comm]
theorem tz_of (k m : Nat) : tz (2 ^ k * (2 * m + 1)) = k := by
  have hp : 0 < 2 ^ k * (2 * m + 1) := Nat.mul_pos (Nat.two_pow_pos k) (by omega)
  unfold tz
  rw [if_neg (by omega)]
  refine ctzFrom_of k _ m ?_
  have : k ≤ (2 ^ k * (2 * m + 1)).log2 := (Nat.le_log2 (by omega)).2 (Nat.le_mul_of_pos_right _ (by omega))
  omega
theorem tz_spec {n : Nat} (h : n ≠ 0) : ∃ m, n = 2 ^ tz n * (2 * m + 1) := by
  obtain ⟨m, h1, _⟩ := Lib.ctzFrom_spec (n.log2 + 1) n (by omega) Nat.lt_log2_self
  refine ⟨m, ?_⟩
  unfold tz
  rw [if_neg h]; exact h1
/-- What a remainder is: nothing, less than a half, a half, more. -/
def restC (x d : Nat) : Nat := if x = 0 then 0 else if 2 * x < d then 1 else if 2 * x = d then 2 else 3
/-- Does the last digit become greater by 1? -/
def moreF (r : Nat) (neg odd : Bool) (x : Nat) : Bool :=
  if r = 0 then decide (x = 3) || (decide (x = 2) && odd) else if r = 1 then decide (2 ≤ x) else if r = 2 then false else if r = 3 then decide (0 < x) && !neg else decide (0 < x) && neg
theorem restC_le (x d : Nat) : restC x d ≤ 3 := by unfold restC; split <;> (try split) <;> (try split) <;> omega
/-- A quotient, rounded to an integer. -/
def quoN (r : Nat) (neg : Bool) (n d : Nat) : Nat := n / d + if moreF r neg (decide (n / d % 2 = 1)) (restC (n % d) d) = true then 1 else 0
end Go.Proofs
set_option linter.unusedVariables false
namespace Go.Proofs
open Go.Ax
end Go.Proofs
set_option linter.unusedVariables false
namespace Go.Proofs
open Go.Ax
section
variable {K : Nat}
/-- A row in which a piece is put in the place of another one. -/
def put (U R : List Nat) (j : Nat) : List Nat := U.take j ++ (R ++ U.drop (j + R.length))
end
end Go.Proofs
set_option linter.unusedVariables false
namespace Go.Proofs
open Go.Ax
/-- 2^e is at most n / d. -/
def ge2 (n d : Nat) (e : Int) : Prop := d * 2 ^ e.toNat ≤ n * 2 ^ (-e).toNat
instance (n d : Nat) (e : Int) : Decidable (ge2 n d e) := by unfold ge2; infer_instance
end Go.Proofs
set_option linter.unusedVariables false
namespace Go.Proofs
open Go.Ax
structure FV where
  kind : Nat
  neg : Bool
  exp : Int
  mag : Nat
/-- Does what is too great become the greatest number? -/
def grtF (r : Nat) (neg : Bool) : Bool := decide (r = 2) || (decide (r = 3) && neg) || (decide (r = 4) && !neg)
def de (d : Nat) (s : Int) : Nat := d * 2 ^ s.toNat
theorem moreF_zero (r : Nat) (neg odd : Bool) : moreF r neg odd 0 = false := by
  unfold moreF
  split
  · simp
  · split
    · simp
    · split
      · rfl
      · split <;> simp
theorem bl_ge {n k : Nat} (h : 2 ^ k ≤ n) : k + 1 ≤ bl n := by
  have h0 : n ≠ 0 := by have := Nat.two_pow_pos k; omega
  have := (bl_spec h0).2.1
  rcases Nat.lt_or_ge (bl n) (k + 1) with h1 | h1
  · have h3 : 2 ^ bl n ≤ 2 ^ k := Nat.pow_le_pow_right (by decide) (by omega)
    omega
  · exact h1
end Go.Proofs
set_option linter.unusedVariables false
namespace Go.Proofs
open Go.Ax
theorem quoN_exact (r : Nat) (neg : Bool) (q d : Nat) (hd : 0 < d) : quoN r neg (q * d) d = q := by
  unfold quoN restC
  rw [Nat.mul_mod_left, if_pos rfl, moreF_zero, Nat.mul_div_cancel _ hd, if_neg (by decide), Nat.add_zero]
end Go.Proofs
set_option linter.unusedVariables false
namespace Go.Proofs
open Go.Ax
theorem bl_lt (n : Nat) : n < 2 ^ bl n := by
  by_cases h : n = 0
  · subst h; decide
  · exact (bl_spec h).2.1
end Go.Proofs
set_option linter.unusedVariables false
namespace Go.Proofs
open Go.Ax
theorem quoN_le (r : Nat) (neg : Bool) (n d M : Nat) (hd : 0 < d) (h : n ≤ M * d) : quoN r neg n d ≤ M := by
  by_cases he : n = M * d
  · subst he; rw [quoN_exact r neg M d hd]; exact Nat.le_refl _
  · have h1 : n / d < M := (Nat.div_lt_iff_lt_mul hd).2 (by omega)
    unfold quoN
    split <;> omega
end Go.Proofs
set_option linter.unusedVariables false
namespace Go.Proofs
open Go.Ax
end Go.Proofs
set_option linter.unusedVariables false
namespace Go.Proofs
open Go.Ax
def ds (a b : Nat) : Nat := (a - b) + (b - a)
end Go.Proofs
set_option linter.unusedVariables false
namespace Go.Proofs
open Go.Ax
end Go.Proofs
set_option linter.unusedVariables false
namespace Go.Proofs
open Go.Ax
def dg (n : Nat) : Nat := if h : n = 0 then 0 else dg (n / 10) + 1
decreasing_by omega
/-- How many zeros there are at the end. -/
def st (n : Nat) : Nat := if h : n ≠ 0 ∧ n % 10 = 0 then st (n / 10) + 1 else 0
decreasing_by omega
theorem ten_pos (k : Nat) : 0 < 10 ^ k := Nat.pow_pos (by decide)
theorem dg_zero : dg 0 = 0 := by unfold dg; rfl
theorem dg_spec (n : Nat) : n ≠ 0 → 10 ^ (dg n - 1) ≤ n ∧ n < 10 ^ dg n ∧ 1 ≤ dg n := by
  induction n using Nat.strongRecOn with
  | _ n ih =>
    intro h
    unfold dg
    rw [dif_neg h, Nat.add_sub_cancel]
    by_cases h0 : n / 10 = 0
    · rw [h0, dg_zero]; exact ⟨by omega, by omega, by omega⟩
    · obtain ⟨h1, h2, h3⟩ := ih (n / 10) (by omega) h0
      obtain ⟨k, hk⟩ : ∃ k, dg (n / 10) = k + 1 := ⟨dg (n / 10) - 1, by omega⟩
      rw [hk] at h1 h2 ⊢
      rw [Nat.add_sub_cancel] at h1
      have e1 := Nat.pow_succ 10 k
      have e2 := Nat.pow_succ 10 (k + 1)
      omega
theorem dg_lt (n : Nat) : n < 10 ^ dg n := by
  by_cases h : n = 0
  · subst h; exact ten_pos _
  · exact (dg_spec n h).2.1
theorem ten_mono {a b : Nat} (h : a ≤ b) : 10 ^ a ≤ 10 ^ b := Nat.pow_le_pow_right (by decide) h
theorem dg_le {n k : Nat} (h : n < 10 ^ k) : dg n ≤ k := by
  by_cases h0 : n = 0
  · subst h0; rw [dg_zero]; omega
  · obtain ⟨h1, h2, h3⟩ := dg_spec n h0
    rcases Nat.lt_or_ge k (dg n) with hk | hk
    · have := ten_mono (show k ≤ dg n - 1 by omega); omega
    · exact hk
theorem dg_ge {n k : Nat} (h : 10 ^ k ≤ n) : k + 1 ≤ dg n := by
  have := dg_lt n
  rcases Nat.lt_or_ge (dg n) (k + 1) with hk | hk
  · have := ten_mono (show dg n ≤ k by omega); omega
  · exact hk
theorem dg_eq {n k : Nat} (h1 : 10 ^ k ≤ n) (h2 : n < 10 ^ (k + 1)) : dg n = k + 1 := Nat.le_antisymm (dg_le h2) (dg_ge h1)
theorem dg_mul (n k : Nat) (h : n ≠ 0) : dg (n * 10 ^ k) = dg n + k := by
  obtain ⟨h1, h2, h3⟩ := dg_spec n h
  have := dg_eq (n := n * 10 ^ k) (k := dg n - 1 + k) (by rw [Nat.pow_add]; exact Nat.mul_le_mul_right _ h1) (by
    rw [show dg n - 1 + k + 1 = dg n + k by omega, Nat.pow_add]; exact Nat.mul_lt_mul_of_pos_right h2 (ten_pos k))
  omega
theorem dg_pow (k : Nat) : dg (10 ^ k) = k + 1 := dg_eq (Nat.le_refl _) (Nat.pow_lt_pow_right (by decide) (by omega))
theorem st_spec (n : Nat) : n ≠ 0 → ∃ m, n = m * 10 ^ st n ∧ m % 10 ≠ 0 := by
  induction n using Nat.strongRecOn with
  | _ n ih =>
    intro h
    unfold st
    by_cases h0 : n % 10 = 0
    · rw [dif_pos ⟨h, h0⟩]
      obtain ⟨m, h1, h2⟩ := ih (n / 10) (by omega) (by omega)
      refine ⟨m, ?_, h2⟩
      rw [Nat.pow_succ, ← Nat.mul_assoc, ← h1]
      omega
    · rw [dif_neg (by omega)]
      exact ⟨n, by simp, h0⟩
theorem st_of (m k : Nat) (h : m % 10 ≠ 0) : st (m * 10 ^ k) = k := by
  induction k with
  | zero =>
    rw [Nat.pow_zero, Nat.mul_one]
    unfold st
    rw [dif_neg (by omega)]
  | succ k ih =>
    have hp := ten_pos k
    have h0 : 0 < m * 10 ^ k := Nat.mul_pos (by omega) hp
    unfold st
    rw [Nat.pow_succ, ← Nat.mul_assoc, dif_pos ⟨by omega, by omega⟩, Nat.mul_div_cancel _ (by decide), ih]
/-- The part of a number that has no zero at the end. -/
def sm (n : Nat) : Nat := n / 10 ^ st n
theorem sm_mul {n : Nat} (h : n ≠ 0) : n = sm n * 10 ^ st n ∧ sm n % 10 ≠ 0 := by
  obtain ⟨m, h1, h2⟩ := st_spec n h
  have : sm n = m := by
    unfold sm
    conv => lhs; arg 1; rw [h1]
    exact Nat.mul_div_cancel _ (ten_pos _)
  rw [this]
  exact ⟨h1, h2⟩
structure DV where
  kind : Nat
  neg : Bool
  coef : Nat
  exp : Int
def overD (p : Nat) (g : Int) (r : Nat) (neg : Bool) : DV := if grtF r neg = true then ⟨0, neg, 10 ^ p - 1, g - p + 1⟩ else ⟨1, neg, 0, 0⟩
/-- The exponent of the step. -/
def stpD (p : Nat) (g a : Int) : Int := max (a - p + 1) (1 - g - (p - 1))
/-- What is not exact. -/
def ineD (p : Nat) (g : Int) (r : Nat) (neg : Bool) (a s : Int) (N : Nat) : DV × Nat :=
  if N = 10 ^ p then (if g < s + 1 + p - 1 then (overD p g r neg, 5) else (⟨0, neg, 10 ^ (p - 1), s + 1⟩, if a < 1 - g then 3 else 1))
  else if N ≠ 0 ∧ g < s + dg N - 1 then (overD p g r neg, 5) else (⟨0, neg, N, s⟩, if a < 1 - g then 3 else 1)
def finD (p : Nat) (g : Int) (r : Nat) (neg : Bool) (mag : Nat) (exp ideal : Int) : DV × Nat :=
  let a := exp + dg mag - 1
  let s := stpD p g a
  let t := exp + st mag
  if g < a then (overD p g r neg, 5)
  else if s ≤ t then (⟨0, neg, sm mag * 10 ^ (t - min t (max ideal s)).toNat, min t (max ideal s)⟩, 0)
  else ineD p g r neg a s (quoN r neg mag (10 ^ (s - exp).toNat))
/-- Does the program's test for an exact result hold? -/
theorem fits_iff (p : Nat) (g : Int) (mag : Nat) (exp : Int) (h : mag ≠ 0) :
    (¬ ((p : Int) < dg (sm mag) ∨ exp + st mag < 1 - g - (p - 1) ∨ g < exp + st mag + dg (sm mag) - 1)) ↔ (¬ g < exp + dg mag - 1 ∧ stpD p g (exp + dg mag - 1) ≤ exp + st mag) := by
  obtain ⟨h1, h2⟩ := sm_mul h
  have hd : dg mag = dg (sm mag) + st mag := by
    conv => lhs; rw [h1]
    exact dg_mul _ _ (by omega)
  unfold stpD
  omega
/-- The program's exponent. -/
theorem fits_at (p : Nat) (g : Int) (mag : Nat) (exp ideal : Int) (h : mag ≠ 0) :
    min (exp + st mag) (max (max ideal (1 - g - (p - 1))) (exp + st mag - (p - dg (sm mag)))) = min (exp + st mag) (max ideal (stpD p g (exp + dg mag - 1))) := by
  obtain ⟨h1, h2⟩ := sm_mul h
  have hd : dg mag = dg (sm mag) + st mag := by
    conv => lhs; rw [h1]
    exact dg_mul _ _ (by omega)
  unfold stpD
  omega
/-- The rest is less than a tenth. -/
theorem tiny_quo (mag k : Nat) (h : dg mag + 1 < k) (hm : mag ≠ 0) : mag / 10 ^ k = 0 ∧ restC (mag % 10 ^ k) (10 ^ k) = 1 := by
  have h1 := dg_lt mag
  have h2 := ten_mono (show dg mag + 2 ≤ k by omega)
  have e1 := Nat.pow_succ 10 (dg mag)
  have e2 : 10 ^ (dg mag + 2) = 10 ^ (dg mag + 1) * 10 := Nat.pow_succ 10 (dg mag + 1)
  have hlt : mag < 10 ^ k := by omega
  refine ⟨Nat.div_eq_of_lt hlt, ?_⟩
  rw [Nat.mod_eq_of_lt hlt]
  unfold restC
  rw [if_neg hm, if_pos (by omega)]
/-- The rounded number has at most one digit more than the precision. -/
theorem quoD_le (p : Nat) (g : Int) (r : Nat) (neg : Bool) (mag : Nat) (exp s : Int) (hs : s = stpD p g (exp + dg mag - 1)) (he : exp < s) : quoN r neg mag (10 ^ (s - exp).toNat) ≤ 10 ^ p := by
  refine quoN_le r neg mag _ _ (ten_pos _) ?_
  rw [← Nat.pow_add]
  refine Nat.le_trans (Nat.le_of_lt (dg_lt mag)) (ten_mono ?_)
  unfold stpD at hs
  omega
end Go.Proofs
set_option linter.unusedVariables false
namespace Go.Proofs
open Go.Ax
theorem ten643 : ∃ K, K = 2136 ∧ 10 ^ 643 ≤ 2 ^ K := ⟨2136, rfl, by decide +kernel⟩
theorem ten_small : (List.range 643).all (fun b => decide (10 ^ b ≤ 10 * 2 ^ ((100000 * b + 26350) / 30103))) = true := by decide +kernel
/-- Where the digits are first guessed. -/
theorem ten_guess (k : Nat) (h : k < 1000000) : 10 ^ (k * 30103 / 100000) ≤ 10 * 2 ^ k := by
  generalize hn : k * 30103 / 100000 = n
  have h1 : n = 643 * (n / 643) + n % 643 := (Nat.div_add_mod n 643).symm
  have hb := Nat.mod_lt n (show 0 < 643 by decide)
  generalize n / 643 = a at *
  generalize n % 643 = b at *
  have h2 := List.all_eq_true.1 ten_small b (List.mem_range.2 hb)
  have h3 : 10 ^ b ≤ 10 * 2 ^ ((100000 * b + 26350) / 30103) := of_decide_eq_true h2
  obtain ⟨K, hK, h643⟩ := ten643
  have h4 : 2136 * a + (100000 * b + 26350) / 30103 ≤ k := by omega
  rw [← hK] at h4
  calc 10 ^ n = (10 ^ 643) ^ a * 10 ^ b := by rw [h1, Nat.pow_add, Nat.pow_mul]
    _ ≤ (2 ^ K) ^ a * (10 * 2 ^ ((100000 * b + 26350) / 30103)) := Nat.mul_le_mul (Nat.pow_le_pow_left h643 a) h3
    _ = 10 * 2 ^ (K * a + (100000 * b + 26350) / 30103) := by rw [← Nat.pow_mul, Nat.mul_left_comm, ← Nat.pow_add]
    _ ≤ 10 * 2 ^ k := Nat.mul_le_mul_left _ (Nat.pow_le_pow_right (by decide) h4)
theorem dg_guess (x : Nat) (h0 : x ≠ 0) (h : bl x ≤ 1000000) : (bl x - 1) * 30103 / 100000 ≤ dg x := by
  obtain ⟨h1, h2, h3⟩ := bl_spec h0
  have h4 := ten_guess (bl x - 1) (by omega)
  generalize (bl x - 1) * 30103 / 100000 = n at *
  rcases Nat.eq_zero_or_pos n with hn | hn
  · omega
  · obtain ⟨m, rfl⟩ : ∃ m, n = m + 1 := ⟨n - 1, by omega⟩
    refine dg_ge ?_
    rw [Nat.pow_succ] at h4
    omega
theorem ten_eq (k : Nat) : 5 ^ k * 2 ^ k = 10 ^ k := by rw [← Nat.mul_pow]
end Go.Proofs
set_option linter.unusedVariables false
namespace Go.Proofs
open Go.Ax
theorem strip_done {n x k : Nat} (h : x * 10 ^ k = n) (hx : x % 10 ≠ 0) : sm n = x ∧ st n = k := by
  have h1 : st n = k := by rw [← h]; exact st_of x k hx
  refine ⟨?_, h1⟩
  unfold sm
  rw [h1, ← h]
  exact Nat.mul_div_cancel _ (ten_pos _)
theorem sm_le (n : Nat) : sm n ≤ n := Nat.div_le_self _ _
theorem sm_ne {n : Nat} (h : n ≠ 0) : sm n ≠ 0 := fun h0 => by have := (sm_mul h).2; rw [h0] at this; exact this rfl
theorem dg_sm {n : Nat} (h : n ≠ 0) : dg n = dg (sm n) + st n := by
  have h1 := (sm_mul h).1
  conv => lhs; rw [h1]
  exact dg_mul _ _ (sm_ne h)
theorem dg_one : dg 1 = 1 := by have := dg_pow 0; simpa using this
theorem five_le (k : Nat) : 5 ^ k ≤ 2 ^ (3 * k) := by rw [Nat.pow_mul]; exact Nat.pow_le_pow_left (by decide) k
theorem ten_le (k : Nat) : 10 ^ k ≤ 2 ^ (4 * k) := by rw [Nat.pow_mul]; exact Nat.pow_le_pow_left (by decide) k
theorem dg_le_bl (n : Nat) : dg n ≤ bl n := by
  refine dg_le (Nat.lt_of_lt_of_le (bl_lt n) ?_)
  exact Nat.pow_le_pow_left (by decide) _
/-- The exponent and the number of what is exact. -/
def exE (p : Nat) (g : Int) (mag : Nat) (exp ideal : Int) : Int := min (exp + st mag) (max ideal (stpD p g (exp + dg mag - 1)))
def exN (p : Nat) (g : Int) (mag : Nat) (exp ideal : Int) : Nat := sm mag * 10 ^ (exp + st mag - exE p g mag exp ideal).toNat
theorem finD_over (p : Nat) (g : Int) (r : Nat) (neg : Bool) (mag : Nat) (exp ideal : Int) (h : g < exp + dg mag - 1) : finD p g r neg mag exp ideal = (overD p g r neg, 5) := by
  unfold finD; simp only; rw [if_pos h]
theorem finD_exact (p : Nat) (g : Int) (r : Nat) (neg : Bool) (mag : Nat) (exp ideal : Int) (h : ¬ g < exp + dg mag - 1) (h2 : stpD p g (exp + dg mag - 1) ≤ exp + st mag) : finD p g r neg mag exp ideal = (⟨0, neg, exN p g mag exp ideal, exE p g mag exp ideal⟩, 0) := by
  unfold finD; simp only; rw [if_neg h, if_pos h2]; rfl
theorem finD_ine (p : Nat) (g : Int) (r : Nat) (neg : Bool) (mag : Nat) (exp ideal : Int) (h : ¬ g < exp + dg mag - 1) (h2 : ¬ stpD p g (exp + dg mag - 1) ≤ exp + st mag) :
    finD p g r neg mag exp ideal = ineD p g r neg (exp + dg mag - 1) (stpD p g (exp + dg mag - 1)) (quoN r neg mag (10 ^ (stpD p g (exp + dg mag - 1) - exp).toNat)) := by
  unfold finD; simp only; rw [if_neg h, if_neg h2]
/-- What is exact is of the context. -/
theorem exact_facts (p : Nat) (g : Int) (mag : Nat) (exp ideal : Int) (hm : mag ≠ 0) (h : ¬ g < exp + dg mag - 1) (h2 : stpD p g (exp + dg mag - 1) ≤ exp + st mag) :
    stpD p g (exp + dg mag - 1) ≤ exE p g mag exp ideal ∧ exE p g mag exp ideal ≤ exp + st mag ∧ exN p g mag exp ideal ≠ 0 ∧ dg (exN p g mag exp ideal) + exE p g mag exp ideal = dg mag + exp ∧ dg (exN p g mag exp ideal) ≤ p := by
  have e0 := dg_sm hm
  have e1 := dg_mul (sm mag) (exp + st mag - exE p g mag exp ideal).toNat (sm_ne hm)
  have hle : exE p g mag exp ideal ≤ exp + st mag := Int.min_le_left _ _
  have hge : stpD p g (exp + dg mag - 1) ≤ exE p g mag exp ideal := by unfold exE; omega
  have hs : (exp + dg mag - 1) - p + 1 ≤ stpD p g (exp + dg mag - 1) := by unfold stpD; omega
  have e2 : dg (exN p g mag exp ideal) + exE p g mag exp ideal = dg mag + exp := by unfold exN; omega
  refine ⟨hge, hle, Nat.mul_ne_zero (sm_ne hm) (Nat.ne_of_gt (ten_pos _)), e2, by omega⟩
end Go.Proofs
set_option linter.unusedVariables false
namespace Go.Proofs
open Go.Ax
def nanD : DV := ⟨2, false, 0, 0⟩
/-- A number that may be 0, finished. -/
def finD0 (p : Nat) (g : Int) (r : Nat) (neg : Bool) (mag : Nat) (exp ideal : Int) : DV × Nat :=
  if mag = 0 then (⟨0, neg, 0, min (max ideal (1 - g - (p - 1))) g⟩, 0) else finD p g r neg mag exp ideal
def sumN (r : Nat) (na : Bool) (a : Nat) (nb : Bool) (b : Nat) : Bool := if na = nb then na else if b < a then na else if a < b then nb else decide (r = 4)
def sumM (na : Bool) (a : Nat) (nb : Bool) (b : Nat) : Nat := if na = nb then a + b else if b < a then a - b else b - a
def addD (p : Nat) (g : Int) (r : Nat) (x y : DV) : DV × Nat :=
  if x.kind = 2 ∨ y.kind = 2 then (nanD, 0)
  else if x.kind = 1 ∧ y.kind = 1 ∧ x.neg ≠ y.neg then (nanD, 16)
  else if x.kind = 1 then (x, 0)
  else if y.kind = 1 then (y, 0)
  else finD0 p g r (sumN r x.neg (x.coef * 10 ^ (x.exp - min x.exp y.exp).toNat) y.neg (y.coef * 10 ^ (y.exp - min x.exp y.exp).toNat))
    (sumM x.neg (x.coef * 10 ^ (x.exp - min x.exp y.exp).toNat) y.neg (y.coef * 10 ^ (y.exp - min x.exp y.exp).toNat)) (min x.exp y.exp) (min x.exp y.exp)
/-- A canonical right decimal number. -/
def rightD (x : DV) : Prop := (x.kind = 0 ∧ -1000000 ≤ x.exp ∧ x.exp ≤ 1000000) ∨ (x.kind = 1 ∧ x.exp = 0 ∧ x.coef = 0) ∨ (x.kind = 2 ∧ x.neg = false ∧ x.exp = 0 ∧ x.coef = 0)
/-- One of a context. -/
def inD (p : Nat) (g : Int) (x : DV) : Prop := x.kind ≠ 0 ∨ (x.coef = 0 ∧ 1 - g - (p - 1) ≤ x.exp ∧ x.exp ≤ g) ∨ (x.coef ≠ 0 ∧ dg x.coef ≤ p ∧ 1 - g - (p - 1) ≤ x.exp ∧ x.exp + dg x.coef - 1 ≤ g)
instance (x : DV) : Decidable (rightD x) := by unfold rightD; infer_instance
instance (p : Nat) (g : Int) (x : DV) : Decidable (inD p g x) := by unfold inD; infer_instance
theorem inD_exp {p : Nat} {g : Int} {x : DV} (hp : 1 ≤ p) (hr : rightD x) (h : inD p g x) : (x.kind = 0 → 1 - g - (p - 1) ≤ x.exp ∧ x.exp ≤ g) ∧ (x.kind ≠ 0 → x.exp = 0 ∧ x.coef = 0) := by
  refine ⟨fun h0 => ?_, fun h0 => ?_⟩
  · rcases h with h | h | h
    · exact absurd h0 h
    · exact h.2
    · have := (dg_spec x.coef h.1).2.2
      exact ⟨h.2.2.1, by omega⟩
  · rcases hr with hr | hr | hr
    · exact absurd hr.1 h0
    · exact ⟨hr.2.1, hr.2.2⟩
    · exact ⟨hr.2.2.1, hr.2.2.2⟩
/-- What is of the context is finished as it is. -/
theorem finD0_self (p : Nat) (g : Int) (r : Nat) (x : DV) (hk : x.kind = 0) (h : inD p g x) : finD0 p g r x.neg x.coef x.exp x.exp = (x, 0) := by
  obtain ⟨k, neg, c, e⟩ := x
  simp only at hk
  subst hk
  unfold finD0
  rcases h with h | h | h
  · exact absurd rfl h
  · simp only at h ⊢
    rw [if_pos h.1, h.1]
    have : min (max e (1 - g - (p - 1))) g = e := by omega
    rw [this]
  · simp only at h ⊢
    rw [if_neg h.1]
    have h1 : ¬ g < e + dg c - 1 := by omega
    have hs : stpD p g (e + dg c - 1) ≤ e := by unfold stpD; omega
    rw [finD_exact p g r neg c e e h1 (by omega)]
    have e1 : exE p g c e e = e := by unfold exE; omega
    unfold exN
    rw [e1, show (e + st c - e).toNat = st c by omega, ← (sm_mul h.1).1]
end Go.Proofs
