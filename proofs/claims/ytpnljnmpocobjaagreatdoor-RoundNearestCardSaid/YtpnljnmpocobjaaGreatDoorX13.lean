/-
  Plain lemmas, with no program in sight.
-/
import Derived.Test.YtpnljnmpocobjaaGreatDoorX12
set_option linter.unusedVariables false
namespace Go.Proofs
open Go.Ax
section
variable {K : Nat}
theorem vtake_zero_rest (hK : 0 < K) {xs : List Nat} {n : Nat} (h : vb K xs < K ^ n) : vb K (xs.take n) = vb K xs ∧ (n ≤ xs.length → vb K (xs.drop n) = 0) := by
  rcases Nat.lt_or_ge n xs.length with hn | hn
  · have e := vb_drop (K := K) xs n (by omega)
    rcases Nat.eq_zero_or_pos (vb K (xs.drop n)) with h0 | h0
    · rw [h0, Nat.mul_zero, Nat.add_zero] at e; exact ⟨e.symm, fun _ => h0⟩
    · have := Nat.mul_le_mul_left (K ^ n) (show 1 ≤ vb K (xs.drop n) from h0)
      omega
  · rw [List.take_of_length_le hn]
    exact ⟨rfl, fun _ => by rw [List.drop_of_length_le hn]; rfl⟩
/-- A row in which a piece is put in the place of another one. -/
def put (U R : List Nat) (j : Nat) : List Nat := U.take j ++ (R ++ U.drop (j + R.length))
theorem put_step (U R : List Nat) (j k : Nat) (hk : k < R.length) (hj : j + k < U.length) :
    (U.take j ++ (R.take k ++ U.drop (j + k))).set (j + k) (R.getD k 0) = U.take j ++ (R.take (k + 1) ++ U.drop (j + (k + 1))) := by
  have h1 : (U.take j).length = j := by rw [List.length_take]; omega
  have h2 : (R.take k).length = k := by rw [List.length_take]; omega
  rw [List.set_append_right _ _ (by omega), List.set_append_right _ _ (by omega), h1, h2, show j + k - j - k = 0 by omega, List.drop_eq_getElem_cons hj, List.set_cons_zero, List.take_succ_eq_append_getElem hk, List.append_assoc, List.getD_eq_getElem?_getD, List.getElem?_eq_getElem hk]
  rfl
theorem put_facts (hK : 0 < K) {U : List Nat} {j n X V : Nat} (hU : Ds K U) (hlen : j + n ≤ U.length) (hX : X = vb K (U.drop j)) (hlt : X < K ^ n) (hV : 0 < V) :
    (put U (wfb K n (X % V)) j).length = U.length ∧ Ds K (put U (wfb K n (X % V)) j) ∧ vb K ((put U (wfb K n (X % V)) j).drop j) = X % V ∧
    vb K (put U (wfb K n (X % V)) j) + V * (K ^ j * (X / V)) = vb K U := by
  have hd : (U.take j).length = j := by rw [List.length_take]; omega
  have hr0 : vb K (U.drop (j + n)) = 0 := by
    have := (vtake_zero_rest hK (xs := U.drop j) (n := n) (by rw [← hX]; exact hlt)).2 (by rw [List.length_drop]; omega)
    rwa [List.drop_drop] at this
  have hmod : X % V < K ^ n := Nat.lt_of_le_of_lt (Nat.mod_le _ _) hlt
  have hp : put U (wfb K n (X % V)) j = U.take j ++ (wfb K n (X % V) ++ U.drop (j + n)) := by unfold put; rw [wfb_length]
  have hdr : (put U (wfb K n (X % V)) j).drop j = wfb K n (X % V) ++ U.drop (j + n) := by
    rw [hp, List.drop_append_of_le_length (by omega), List.drop_of_length_le (by omega), List.nil_append]
  have hv : vb K ((put U (wfb K n (X % V)) j).drop j) = X % V := by
    rw [hdr, vb_append, hr0, Nat.mul_zero, Nat.add_zero, vb_wfb hK _ _ hmod]
  have hl : (put U (wfb K n (X % V)) j).length = U.length := by
    rw [hp, List.length_append, List.length_append, wfb_length, hd, List.length_drop]; omega
  refine ⟨hl, by rw [hp]; exact (hU.take j).append ((wfb_Ds hK _ _).append (hU.drop _)), hv, ?_⟩
  have e1 := vb_drop (K := K) (put U (wfb K n (X % V)) j) j (by omega)
  have e2 := vb_drop (K := K) U j (by omega)
  have e3 : (put U (wfb K n (X % V)) j).take j = U.take j := by
    rw [hp, List.take_append_of_le_length (by omega), List.take_of_length_le (by omega)]
  rw [e3, hv] at e1
  rw [e1, e2, ← hX]
  conv => rhs; rw [← Nat.div_add_mod X V]
  rw [Nat.mul_add, Nat.mul_left_comm V]
  omega
/-- The first guess is not too small. -/
theorem guess1 (hK : 0 < K) {U V : List Nat} {j : Nat} (hU : Ds K U) (hV : Ds K V) (h1 : 1 ≤ V.length) (hlen : j + (V.length + 1) ≤ U.length) (hlt : vb K (U.drop (j + 1)) < vb K V) (htop : 0 < V.getD (V.length - 1) 0) :
    vb K (U.drop j) < K ^ (V.length + 1) ∧ vb K (U.drop j) / vb K V ≤ min ((U.getD (j + V.length) 0 * K + U.getD (j + V.length - 1) 0) / V.getD (V.length - 1) 0) (K - 1) := by
  obtain ⟨m, hm⟩ : ∃ m, V.length = m + 1 := ⟨V.length - 1, by omega⟩
  have hd := vb_drop_one (K := K) U j (by omega)
  have hx := hU.getD hK j
  have hVl := vb_lt hV
  have hB : vb K (U.drop j) < K * vb K V := by
    rw [hd]
    have := Nat.mul_le_mul_left K (show vb K (U.drop (j + 1)) + 1 ≤ vb K V from hlt)
    rw [Nat.mul_add, Nat.mul_one] at this
    omega
  have hsm : vb K (U.drop j) < K ^ (V.length + 1) := by
    rw [Nat.pow_succ, Nat.mul_comm]
    exact Nat.lt_trans hB ((Nat.mul_lt_mul_left hK).2 hVl)
  refine ⟨hsm, ?_⟩
  have hV0 : 0 < vb K V := by omega
  have hQ : vb K (U.drop j) / vb K V < K := (Nat.div_lt_iff_lt_mul hV0).2 hB
  refine Nat.le_min.2 ⟨?_, by omega⟩
  have et := (vtake_zero_rest hK hsm).1
  rw [hm] at et htop ⊢
  simp only [Nat.add_sub_cancel, show j + (m + 1) - 1 = j + m by omega] at htop ⊢
  have eV : vb K V = vb K (V.take (m + 1)) := by rw [List.take_of_length_le (by omega)]
  rw [vb_take_getD V m] at eV
  have eU := et.symm
  rw [vb_take_getD (U.drop j) (m + 1), vb_take_getD (U.drop j) m] at eU
  have hg : ∀ i, (U.drop j).getD i 0 = U.getD (j + i) 0 := fun i => by simp [List.getD_eq_getElem?_getD, List.getElem?_drop]
  rw [hg, hg] at eU
  have hlU := vb_lt ((hU.drop j).take m)
  rw [List.length_take, List.length_drop, Nat.min_eq_left (by omega)] at hlU
  refine (Nat.le_div_iff_mul_le htop).2 (knuth_le (P := K ^ m) (Vl := vb K (V.take m)) (Ul := vb K ((U.drop j).take m)) (V := vb K V) (U := vb K (U.drop j)) ?_ ?_ hlU (Nat.div_mul_le_self _ _))
  · rw [eV, Nat.mul_comm (K ^ m)]; omega
  · rw [eU, Nat.pow_succ, Nat.add_mul, Nat.mul_comm (K ^ m) (U.getD (j + m) 0), Nat.mul_comm (K ^ m * K), Nat.mul_assoc, Nat.mul_comm (K ^ m) K, ← Nat.mul_assoc]; omega
/-- The digits that are there at first. -/
theorem row_top1 (hK : 0 < K) {X V : List Nat} {n : Nat} (hX : Ds K X) (hn : 1 ≤ n) (hV : K ^ (n - 1) ≤ vb K V) : vb K ((X ++ [0]).drop (X.length + 1 - n)) < vb K V := by
  have h0 : vb K (X ++ [0]) = vb K X := by rw [vb_append]; simp [vb]
  have hlt := vb_lt hX
  rcases Nat.lt_or_ge (vb K ((X ++ [0]).drop (X.length + 1 - n))) (vb K V) with h | h
  · exact h
  · have e := vb_drop (K := K) (X ++ [0]) (X.length + 1 - n) (by simp)
    rw [h0] at e
    have h1 := Nat.mul_le_mul_left (K ^ (X.length + 1 - n)) (Nat.le_trans hV h)
    rw [← Nat.pow_add] at h1
    have h2 : K ^ X.length ≤ K ^ (X.length + 1 - n + (n - 1)) := Nat.pow_le_pow_right hK (by omega)
    omega
end
end Go.Proofs
