/-
  Contracts of functions of the program, each proved by a walk.
-/
import Derived.Test.YtenfiehjbeojeaaGreatDoorV15
set_option maxRecDepth 100000
set_option linter.unusedVariables false
set_option linter.unusedSimpArgs false
namespace Go.Proofs
open Go.Ax
theorem take_zero_rest {xs : List Nat} {n : Nat} (hx : Wd xs) (h : val xs < 18446744073709551616 ^ n) : val (xs.take n) = val xs := by
  rcases Nat.lt_or_ge n xs.length with hn | hn
  · have e := val_split xs n (by omega)
    rcases Nat.eq_zero_or_pos (val (xs.drop n)) with h0 | h0
    · rw [h0, Nat.mul_zero, Nat.add_zero] at e; exact e.symm
    · have := Nat.mul_le_mul_left (18446744073709551616 ^ n) (show 1 ≤ val (xs.drop n) from h0)
      omega
  · rw [List.take_of_length_le hn]
/-- What the step of the division does to the row. -/
theorem lessR_facts {U V : List Nat} {j q : Nat} (hU : Wd U) (hV : Wd V) (hlen : j + (V.length + 1) ≤ U.length) (hV0 : 0 < val V) (hlt : val (U.drop (j + 1)) < val V)
    (h1 : val (U.drop j) / val V ≤ q) (h2 : q ≤ val (U.drop j) / val V + 1) :
    val ((U.drop j).take (V.length + 1)) = val (U.drop j) ∧ q * val V ≤ val (U.drop j) + val V ∧
    (if val (U.drop j) < q * val V then q - 1 else q) = val (U.drop j) / val V ∧
    (lessR U V j q).length = U.length ∧ Wd (lessR U V j q) ∧ val ((lessR U V j q).drop j) = val (U.drop j) % val V ∧
    val (lessR U V j q) + val V * (18446744073709551616 ^ j * (val (U.drop j) / val V)) = val U := by
  have hd := val_drop U j (by omega)
  have hx := hU.getD j
  have hVl := val_lt hV
  have hsm : val (U.drop j) < 18446744073709551616 ^ (V.length + 1) := by
    rw [hd, Nat.pow_succ]; omega
  have et := take_zero_rest (hU.drop j) hsm
  have hdm := Nat.div_add_mod (val (U.drop j)) (val V)
  have hmd := Nat.mod_lt (val (U.drop j)) hV0
  have hq1 := Nat.mul_le_mul_right (val V) h2
  rw [Nat.add_mul, Nat.mul_comm (val (U.drop j) / val V)] at hq1
  have hfit : q * val V ≤ val (U.drop j) + val V := by omega
  have hcase : (val (U.drop j) < q * val V ∧ q = val (U.drop j) / val V + 1) ∨ (¬ val (U.drop j) < q * val V ∧ q = val (U.drop j) / val V) := by
    rcases Nat.lt_or_ge (val (U.drop j)) (q * val V) with h | h
    · refine .inl ⟨h, ?_⟩
      rcases Nat.lt_or_ge (val (U.drop j) / val V) q with h3 | h3
      · omega
      · have e : q = val (U.drop j) / val V := by omega
        rw [e, Nat.mul_comm] at h
        omega
    · exact .inr ⟨by omega, Nat.le_antisymm ((Nat.le_div_iff_mul_le hV0).2 h) h1⟩
  have hval : (if val (U.drop j) < q * val V then val (U.drop j) + val V - q * val V else val (U.drop j) - q * val V) = val (U.drop j) % val V := by
    rcases hcase with ⟨ha, hb⟩ | ⟨ha, hb⟩
    · rw [if_pos ha, hb, Nat.add_mul, Nat.mul_comm (val (U.drop j) / val V)]; omega
    · rw [if_neg ha, hb, Nat.mul_comm (val (U.drop j) / val V)]; omega
  have hlr : lessR U V j q = U.take j ++ (wf (V.length + 1) (val (U.drop j) % val V) ++ U.drop (j + (V.length + 1))) := by
    unfold lessR; rw [et, hval]
  have hWd : Wd (lessR U V j q) := by rw [hlr]; exact (hU.take j).append ((wf_Wd _ _).append (hU.drop _))
  have hrest : val (U.drop (j + (V.length + 1))) = 0 := by
    have e := val_split (U.drop j) (V.length + 1) (by rw [List.length_drop]; omega)
    rw [List.drop_drop, et] at e
    rcases Nat.eq_zero_or_pos (val (U.drop (j + (V.length + 1)))) with h0 | h0
    · exact h0
    · have := Nat.mul_le_mul_left (18446744073709551616 ^ (V.length + 1)) (show 1 ≤ val (U.drop (j + (V.length + 1))) from h0)
      omega
  have hlt : (U.take j).length = j := by rw [List.length_take]; omega
  have hdr : (lessR U V j q).drop j = wf (V.length + 1) (val (U.drop j) % val V) ++ U.drop (j + (V.length + 1)) := by
    rw [hlr, List.drop_append_of_le_length (by omega), List.drop_of_length_le (by omega), List.nil_append]
  have hvd : val ((lessR U V j q).drop j) = val (U.drop j) % val V := by
    rw [hdr, val_append, hrest, Nat.mul_zero, Nat.add_zero, val_wf _ _ (by rw [Nat.pow_succ]; omega)]
  have hll : (lessR U V j q).length = U.length := by
    rw [hlr, List.length_append, List.length_append, wf_length, hlt, List.length_drop]; omega
  refine ⟨et, hfit, ?_, hll, hWd, hvd, ?_⟩
  · rcases hcase with ⟨ha, hb⟩ | ⟨ha, hb⟩
    · rw [if_pos ha, hb, Nat.add_sub_cancel]
    · rw [if_neg ha, hb]
  · have e1 := val_split (lessR U V j q) j (by omega)
    have e2 := val_split U j (by omega)
    have e3 : (lessR U V j q).take j = U.take j := by
      rw [hlr, List.take_append_of_le_length (by omega), List.take_of_length_le (by omega)]
    rw [e3, hvd] at e1
    rw [e1, e2]
    conv => rhs; rw [← hdm]
    rw [Nat.mul_add, Nat.mul_left_comm (val V)]
    omega
theorem v2_eq (P l a b : Nat) : l + P * b + P * 18446744073709551616 * a = (a * 18446744073709551616 + b) * P + l := by
  rw [Nat.add_mul, Nat.mul_assoc P 18446744073709551616 a, Nat.mul_comm P (18446744073709551616 * a), Nat.mul_comm 18446744073709551616 a, Nat.mul_comm P b]; omega
theorem u3_eq (P l a b c : Nat) : l + P * c + P * 18446744073709551616 * b + P * 18446744073709551616 * 18446744073709551616 * a = ((a * 18446744073709551616 + b) * 18446744073709551616 + c) * P + l := by
  rw [Nat.add_mul _ c P, Nat.mul_right_comm (a * 18446744073709551616 + b) 18446744073709551616 P, Nat.add_mul (a * 18446744073709551616) b P, Nat.mul_right_comm a 18446744073709551616 P, Nat.mul_comm P c, Nat.mul_right_comm P 18446744073709551616 b, Nat.mul_comm P b, Nat.mul_right_comm (P * 18446744073709551616) 18446744073709551616 a, Nat.mul_right_comm P 18446744073709551616 a, Nat.mul_comm P a]; omega
/-- The estimate at the head of the row. -/
theorem guess_ok {U V : List Nat} {j : Nat} (hU : Wd U) (hV : Wd V) (hlen : j + (V.length + 1) ≤ U.length) (h2 : 2 ≤ V.length) (htop : 9223372036854775808 ≤ V.getD (V.length - 1) 0) (hlt : val (U.drop (j + 1)) < val V) :
    val (U.drop j) / val V ≤ min 18446744073709551615 (((U.getD (j + V.length) 0 * 18446744073709551616 + U.getD (j + V.length - 1) 0) * 18446744073709551616 + U.getD (j + V.length - 2) 0) / (V.getD (V.length - 1) 0 * 18446744073709551616 + V.getD (V.length - 2) 0)) ∧
    min 18446744073709551615 (((U.getD (j + V.length) 0 * 18446744073709551616 + U.getD (j + V.length - 1) 0) * 18446744073709551616 + U.getD (j + V.length - 2) 0) / (V.getD (V.length - 1) 0 * 18446744073709551616 + V.getD (V.length - 2) 0)) ≤ val (U.drop j) / val V + 1 := by
  obtain ⟨m, hm⟩ : ∃ m, V.length = m + 2 := ⟨V.length - 2, by omega⟩
  have hd := val_drop U j (by omega)
  have hx := hU.getD j
  have hVl := val_lt hV
  have hsm : val (U.drop j) < 18446744073709551616 ^ (V.length + 1) := by rw [hd, Nat.pow_succ]; omega
  have et := take_zero_rest (hU.drop j) hsm
  rw [hm] at et htop ⊢
  simp only [Nat.add_sub_cancel, show j + (m + 2) - 1 = j + (m + 1) by omega, show j + (m + 2) - 2 = j + m by omega, show m + 2 - 1 = m + 1 by omega] at htop ⊢
  have eV : val V = val (V.take (m + 2)) := by rw [List.take_of_length_le (by omega)]
  rw [val_take_getD V (m + 1), val_take_getD V m] at eV
  have eU := et.symm
  rw [show m + 2 + 1 = (m + 2) + 1 from rfl, val_take_getD (U.drop j) (m + 2), val_take_getD (U.drop j) (m + 1), val_take_getD (U.drop j) m, getd, getd, getd] at eU
  have hP0 : 0 < 18446744073709551616 ^ m := Nat.pow_pos (by decide)
  have hlV := val_lt (hV.take m)
  have hlU := val_lt ((hU.drop j).take m)
  rw [List.length_take, Nat.min_eq_left (by omega)] at hlV
  rw [List.length_take, List.length_drop, Nat.min_eq_left (by omega)] at hlU
  have hB : val (U.drop j) < 18446744073709551616 * val V := by rw [hd]; omega
  simp only [Nat.pow_succ] at eV eU
  have := knuth (V := val V) (U := val (U.drop j)) (V2 := V.getD (m + 1) 0 * 18446744073709551616 + V.getD m 0) (Vl := val (V.take m)) (P := 18446744073709551616 ^ m) (U3 := (U.getD (j + (m + 2)) 0 * 18446744073709551616 + U.getD (j + (m + 1)) 0) * 18446744073709551616 + U.getD (j + m) 0) (Ul := val ((U.drop j).take m)) (B := 18446744073709551616)
    (by rw [eV]; exact v2_eq _ _ _ _) hlV (by rw [eU]; exact u3_eq _ _ _ _ _) hlU hB (by omega) (by omega)
  simpa using this
end Go.Proofs
