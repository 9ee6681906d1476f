/-
  Contracts of functions of the program, each proved by a walk.
-/
import Derived.Test.YtenfiehjbeojeaaGreatDoorV22
import Derived.Test.YtenfiehjbeojeaaGreatDoorV32
import Derived.Test.YtenfiehjbeojeaaGreatDoorV9
import Derived.Test.YtenfiehjbeojeaaGreatDoorV31
set_option maxRecDepth 100000
set_option linter.unusedVariables false
set_option linter.unusedSimpArgs false
set_option maxRecDepth 100000
namespace Go.Proofs
open Go.Ax
end Go.Proofs
set_option linter.unusedVariables false
set_option linter.unusedSimpArgs false
namespace Go.Proofs
open Go.Ax
/-- What a fraction in lowest terms has to do with the one before. -/
structure Low (z0 : Int) (d0 : Nat) (z : Int) (d g : Nat) : Prop where
  g0 : 0 < g
  dnz : d ≠ 0
  num : z0 = z * g
  den : d0 = d * g
theorem Low.le {z0 z0' : Int} {d0 d0' : Nat} {z z' : Int} {d d' g g' : Nat} (h : Low z0 d0 z d g) (h' : Low z0' d0' z' d' g') (hle : z0 * d0' ≤ z0' * d0) : z * d' - z' * d ≤ 0 := by
  rw [h.num, h'.num, h.den, h'.den, Int.natCast_mul, Int.natCast_mul] at hle
  have e1 : z * g * (d' * g') = z * d' * (g * g' : Int) := by
    rw [Int.mul_assoc, Int.mul_assoc]; congr 1; rw [Int.mul_left_comm]
  have e2 : z' * g' * (d * g) = z' * d * (g * g' : Int) := by
    rw [Int.mul_assoc, Int.mul_assoc]; congr 1; rw [Int.mul_left_comm, Int.mul_comm (g' : Int)]
  rw [e1, e2] at hle
  have hp : (0 : Int) < g * g' := Int.mul_pos (by have := h.g0; omega) (by have := h'.g0; omega)
  have := Int.le_of_mul_le_mul_right hle hp
  omega
end Go.Proofs
