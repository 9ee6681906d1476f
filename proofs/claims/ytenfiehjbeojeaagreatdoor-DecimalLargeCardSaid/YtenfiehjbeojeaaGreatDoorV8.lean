/-
  Plain lemmas, with no program in sight.
-/
import Derived.Test.YtenfiehjbeojeaaGreatDoorV6
set_option linter.unusedVariables false
namespace Go.Proofs
open Go.Ax
/-- Digits of the base K. -/
def Ds (K : Nat) (xs : List Nat) : Prop := ∀ x ∈ xs, x < K
section
variable {K : Nat}
theorem Ds.tail {x : Nat} {xs : List Nat} (h : Ds K (x :: xs)) : Ds K xs := fun y hy => h y (List.mem_cons_of_mem _ hy)
theorem Ds.head {x : Nat} {xs : List Nat} (h : Ds K (x :: xs)) : x < K := h x (List.mem_cons_self ..)
theorem Ds.append {xs ys : List Nat} (h : Ds K xs) (k : Ds K ys) : Ds K (xs ++ ys) := fun y hy => by
  rcases List.mem_append.1 hy with hy | hy
  · exact h y hy
  · exact k y hy
theorem Ds.take {xs : List Nat} (h : Ds K xs) (n : Nat) : Ds K (xs.take n) := fun y hy => h y (List.mem_of_mem_take hy)
theorem Ds.drop {xs : List Nat} (h : Ds K xs) (n : Nat) : Ds K (xs.drop n) := fun y hy => h y (List.mem_of_mem_drop hy)
theorem Ds.set {xs : List Nat} (h : Ds K xs) (i : Nat) {v : Nat} (hv : v < K) : Ds K (xs.set i v) := fun y hy => by
  rcases List.mem_or_eq_of_mem_set hy with hy | rfl
  · exact h y hy
  · exact hv
theorem Ds.getD {xs : List Nat} (h : Ds K xs) (hK : 0 < K) (i : Nat) : xs.getD i 0 < K := by
  rw [List.getD_eq_getElem?_getD]
  cases hx : xs[i]? with
  | none => exact hK
  | some x => exact h x (List.mem_of_getElem? hx)
end
section
variable {K : Nat}
end
section
variable {V U V2 Vl U3 Ul P Q q B : Nat}
theorem knuth_le (hV : V = V2 * P + Vl) (hU : U = U3 * P + Ul) (hUl : Ul < P) (hQ : Q * V ≤ U) : Q * V2 ≤ U3 := by
  rcases Nat.lt_or_ge U3 (Q * V2) with h | h
  · have h1 := Nat.mul_le_mul_right P (show U3 + 1 ≤ Q * V2 from h)
    rw [Nat.add_mul, Nat.mul_assoc] at h1
    have h2 : Q * (V2 * P) ≤ Q * V := Nat.mul_le_mul_left _ (by omega)
    omega
  · exact h
theorem knuth_ge (hV : V = V2 * P + Vl) (hVl : Vl ≤ P) (hU : U = U3 * P + Ul) (hq : q * V2 ≤ U3) (hb : q ≤ V2 + 1) (h0 : 0 < q) : (q - 1) * V ≤ U := by
  obtain ⟨k, rfl⟩ : ∃ k, q = k + 1 := ⟨q - 1, by omega⟩
  simp only [Nat.add_sub_cancel]
  have h1 := Nat.mul_le_mul_right P hq
  have h2 : k * V = k * (V2 * P) + k * Vl := by rw [hV, Nat.mul_add]
  have h3 : k * Vl ≤ V2 * P := Nat.mul_le_mul (by omega) hVl
  rw [Nat.add_mul, Nat.add_mul, Nat.one_mul, Nat.mul_assoc] at h1
  omega
/-- The estimate of a digit of a quotient is it, or 1 more. -/
theorem knuth (hV : V = V2 * P + Vl) (hVl : Vl < P) (hU : U = U3 * P + Ul) (hUl : Ul < P) (hB : U < B * V) (hV2 : B ≤ V2) (hV0 : 0 < V) :
    U / V ≤ min (B - 1) (U3 / V2) ∧ min (B - 1) (U3 / V2) ≤ U / V + 1 := by
  have hB0 : 0 < B := by
    rcases Nat.eq_zero_or_pos B with h | h
    · subst h; simp at hB
    · exact h
  have h20 : 0 < V2 := by omega
  have hQB : U / V < B := (Nat.div_lt_iff_lt_mul hV0).2 hB
  refine ⟨Nat.le_min.2 ⟨by omega, (Nat.le_div_iff_mul_le h20).2 (knuth_le hV hU hUl (Nat.div_mul_le_self U V))⟩, ?_⟩
  obtain ⟨q, hq⟩ : ∃ q, q = min (B - 1) (U3 / V2) := ⟨_, rfl⟩
  rw [← hq]
  have h1 : q ≤ B - 1 := hq ▸ Nat.min_le_left _ _
  have h2 : q ≤ U3 / V2 := hq ▸ Nat.min_le_right _ _
  rcases Nat.eq_zero_or_pos q with h0 | h0
  · rw [h0]; exact Nat.zero_le _
  · have := knuth_ge hV (Nat.le_of_lt hVl) hU ((Nat.le_div_iff_mul_le h20).1 h2) (by omega) h0
    have := (Nat.le_div_iff_mul_le hV0).2 this
    omega
end
end Go.Proofs
