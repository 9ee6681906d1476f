/-
  Plain lemmas, with no program in sight.
-/
import Derived.Test.YtenfiehjbeojeaaGreatDoorX6
import Derived.Shelf.Spec.TrailingZeros
import Derived.Test.YtenfiehjbeojeaaGreatDoorX8
set_option linter.unusedVariables false
set_option linter.unusedSimpArgs false
namespace Go.Proofs
open Go.Ax
/-- Which of two numbers is greater, as an int. -/
def cmpI (a b : Nat) : Int := if a < b then -1 else if b < a then 1 else 0
/-- The length in bits. -/
def bl (n : Nat) : Nat := if n = 0 then 0 else n.log2 + 1
theorem bl_eq {n k : Nat} (h1 : 2 ^ k ≤ n) (h2 : n < 2 ^ (k + 1)) : bl n = k + 1 := by
  have hp : 0 < 2 ^ k := Nat.two_pow_pos k
  unfold bl
  rw [if_neg (by omega), (Nat.log2_eq_iff (by omega)).2 ⟨h1, h2⟩]
theorem bl_spec {n : Nat} (h : n ≠ 0) : 2 ^ (bl n - 1) ≤ n ∧ n < 2 ^ bl n ∧ 1 ≤ bl n := by
  unfold bl
  rw [if_neg h]
  exact ⟨by simpa using Nat.log2_self_le h, Nat.lt_log2_self, by omega⟩
theorem bl_le {n k : Nat} (h : n < 2 ^ k) : bl n ≤ k := by
  by_cases h0 : n = 0
  · subst h0; simp [bl]
  · have := (bl_spec h0).1
    rcases Nat.lt_or_ge k (bl n) with hk | hk
    · have h3 : 2 ^ k ≤ 2 ^ (bl n - 1) := Nat.pow_le_pow_right (by decide) (by omega)
      omega
    · exact hk
/-- What a remainder is: nothing, less than a half, a half, more. -/
def restC (x d : Nat) : Nat := if x = 0 then 0 else if 2 * x < d then 1 else if 2 * x = d then 2 else 3
/-- Does the last digit become greater by 1? -/
def moreF (r : Nat) (neg odd : Bool) (x : Nat) : Bool :=
  if r = 0 then decide (x = 3) || (decide (x = 2) && odd) else if r = 1 then decide (2 ≤ x) else if r = 2 then false else if r = 3 then decide (0 < x) && !neg else decide (0 < x) && neg
theorem restC_le (x d : Nat) : restC x d ≤ 3 := by unfold restC; split <;> (try split) <;> (try split) <;> omega
/-- A quotient, rounded to an integer. -/
def quoN (r : Nat) (neg : Bool) (n d : Nat) : Nat := n / d + if moreF r neg (decide (n / d % 2 = 1)) (restC (n % d) d) = true then 1 else 0
end Go.Proofs
set_option linter.unusedVariables false
namespace Go.Proofs
open Go.Ax
end Go.Proofs
set_option linter.unusedVariables false
namespace Go.Proofs
open Go.Ax
section
variable {K : Nat}
/-- A row in which a piece is put in the place of another one. -/
def put (U R : List Nat) (j : Nat) : List Nat := U.take j ++ (R ++ U.drop (j + R.length))
end
end Go.Proofs
set_option linter.unusedVariables false
namespace Go.Proofs
open Go.Ax
/-- 2^e is at most n / d. -/
def ge2 (n d : Nat) (e : Int) : Prop := d * 2 ^ e.toNat ≤ n * 2 ^ (-e).toNat
instance (n d : Nat) (e : Int) : Decidable (ge2 n d e) := by unfold ge2; infer_instance
end Go.Proofs
set_option linter.unusedVariables false
namespace Go.Proofs
open Go.Ax
structure FV where
  kind : Nat
  neg : Bool
  exp : Int
  mag : Nat
def de (d : Nat) (s : Int) : Nat := d * 2 ^ s.toNat
end Go.Proofs
set_option linter.unusedVariables false
namespace Go.Proofs
open Go.Ax
end Go.Proofs
set_option linter.unusedVariables false
namespace Go.Proofs
open Go.Ax
end Go.Proofs
set_option linter.unusedVariables false
namespace Go.Proofs
open Go.Ax
end Go.Proofs
set_option linter.unusedVariables false
namespace Go.Proofs
open Go.Ax
end Go.Proofs
set_option linter.unusedVariables false
namespace Go.Proofs
open Go.Ax
def ds (a b : Nat) : Nat := (a - b) + (b - a)
end Go.Proofs
set_option linter.unusedVariables false
namespace Go.Proofs
open Go.Ax
end Go.Proofs
