/-
  Plain lemmas, with no program in sight.
-/
import Derived.Test.YtpnljnmpocobjaaGreatDoorX6
set_option linter.unusedVariables false
namespace Go.Proofs
open Go.Ax
/-- The value of digits of the base K, the lowest first. -/
def vb (K : Nat) : List Nat → Nat
  | [] => 0
  | x :: xs => x + K * vb K xs
/-- Digits of the base K. -/
def Ds (K : Nat) (xs : List Nat) : Prop := ∀ x ∈ xs, x < K
section
variable {K : Nat}
theorem vb_append : ∀ (xs ys : List Nat), vb K (xs ++ ys) = vb K xs + K ^ xs.length * vb K ys
  | [], ys => by simp [vb]
  | x :: xs, ys => by
    simp only [List.cons_append, vb, vb_append xs ys, List.length_cons, Nat.pow_succ, Nat.mul_add]
    rw [Nat.add_assoc, ← Nat.mul_assoc, Nat.mul_comm K (K ^ xs.length)]
theorem vb_zeros : ∀ n, vb K (List.replicate n 0) = 0
  | 0 => rfl
  | n + 1 => by simp [List.replicate_succ, vb, vb_zeros n]
theorem vb_take_succ (xs : List Nat) (n : Nat) (h : n < xs.length) : vb K (xs.take (n + 1)) = vb K (xs.take n) + K ^ n * xs.getD n 0 := by
  rw [List.take_succ_eq_append_getElem h, vb_append, List.length_take, Nat.min_eq_left (Nat.le_of_lt h)]
  simp [vb, List.getD_eq_getElem?_getD, List.getElem?_eq_getElem h]
theorem vb_take_over (xs : List Nat) (n : Nat) (h : xs.length ≤ n) : vb K (xs.take (n + 1)) = vb K (xs.take n) := by
  rw [List.take_of_length_le (by omega), List.take_of_length_le h]
theorem vb_take_getD (xs : List Nat) (n : Nat) : vb K (xs.take (n + 1)) = vb K (xs.take n) + K ^ n * xs.getD n 0 := by
  rcases Nat.lt_or_ge n xs.length with h | h
  · exact vb_take_succ xs n h
  · rw [vb_take_over xs n h, List.getD_eq_getElem?_getD, List.getElem?_eq_none h]; rfl
theorem vb_set_take (os : List Nat) (n v : Nat) (h : n < os.length) : vb K ((os.set n v).take (n + 1)) = vb K (os.take n) + K ^ n * v := by
  rw [vb_take_succ _ n (by simpa using h), List.getD_eq_getElem?_getD, List.getElem?_set_self h, List.take_set_of_le (Nat.le_refl n)]
  rfl
theorem Ds_nil : Ds K [] := fun x h => by simp at h
theorem Ds_cons {x : Nat} {xs : List Nat} (hx : x < K) (h : Ds K xs) : Ds K (x :: xs) := fun y hy => by
  rcases List.mem_cons.1 hy with rfl | hy
  · exact hx
  · exact h y hy
theorem Ds.tail {x : Nat} {xs : List Nat} (h : Ds K (x :: xs)) : Ds K xs := fun y hy => h y (List.mem_cons_of_mem _ hy)
theorem Ds.head {x : Nat} {xs : List Nat} (h : Ds K (x :: xs)) : x < K := h x (List.mem_cons_self ..)
theorem Ds.append {xs ys : List Nat} (h : Ds K xs) (k : Ds K ys) : Ds K (xs ++ ys) := fun y hy => by
  rcases List.mem_append.1 hy with hy | hy
  · exact h y hy
  · exact k y hy
theorem Ds.take {xs : List Nat} (h : Ds K xs) (n : Nat) : Ds K (xs.take n) := fun y hy => h y (List.mem_of_mem_take hy)
theorem Ds.drop {xs : List Nat} (h : Ds K xs) (n : Nat) : Ds K (xs.drop n) := fun y hy => h y (List.mem_of_mem_drop hy)
theorem Ds.set {xs : List Nat} (h : Ds K xs) (i : Nat) {v : Nat} (hv : v < K) : Ds K (xs.set i v) := fun y hy => by
  rcases List.mem_or_eq_of_mem_set hy with hy | rfl
  · exact h y hy
  · exact hv
theorem Ds.getD {xs : List Nat} (h : Ds K xs) (hK : 0 < K) (i : Nat) : xs.getD i 0 < K := by
  rw [List.getD_eq_getElem?_getD]
  cases hx : xs[i]? with
  | none => exact hK
  | some x => exact h x (List.mem_of_getElem? hx)
theorem Ds_zeros (hK : 0 < K) (n : Nat) : Ds K (List.replicate n 0) := fun y hy => by rw [List.eq_of_mem_replicate hy]; exact hK
theorem vb_lt : ∀ {xs : List Nat}, Ds K xs → vb K xs < K ^ xs.length
  | [], _ => by simp [vb]
  | x :: xs, h => by
    have h1 := vb_lt h.tail
    have h2 := h.head
    simp only [vb, List.length_cons, Nat.pow_succ]
    have : K * vb K xs + K ≤ K * K ^ xs.length := by rw [← Nat.mul_succ]; exact Nat.mul_le_mul_left _ h1
    rw [Nat.mul_comm (K ^ xs.length)]
    omega
theorem vb_drop (xs : List Nat) (n : Nat) (h : n ≤ xs.length) : vb K xs = vb K (xs.take n) + K ^ n * vb K (xs.drop n) := by
  have := vb_append (K := K) (xs.take n) (xs.drop n)
  rwa [List.take_append_drop, List.length_take, Nat.min_eq_left h] at this
theorem vb_drop_one (xs : List Nat) (n : Nat) (h : n < xs.length) : vb K (xs.drop n) = xs.getD n 0 + K * vb K (xs.drop (n + 1)) := by
  rw [List.drop_eq_getElem_cons h]
  simp [vb, List.getD_eq_getElem?_getD, List.getElem?_eq_getElem h]
end
/-- So many digits of a number. -/
def wfb (K : Nat) : Nat → Nat → List Nat
  | 0, _ => []
  | k + 1, n => n % K :: wfb K k (n / K)
section
variable {K : Nat}
theorem wfb_length : ∀ k n, (wfb K k n).length = k
  | 0, _ => rfl
  | k + 1, n => by simp only [wfb, List.length_cons, wfb_length k]
theorem wfb_Ds (hK : 0 < K) : ∀ k n, Ds K (wfb K k n)
  | 0, _ => Ds_nil
  | k + 1, n => Ds_cons (Nat.mod_lt _ hK) (wfb_Ds hK k _)
theorem wfb_vb (hK : 0 < K) : ∀ (xs : List Nat), Ds K xs → wfb K xs.length (vb K xs) = xs
  | [], _ => rfl
  | x :: xs, h => by
    have hx := h.head
    have e1 : vb K (x :: xs) % K = x := by simp only [vb]; rw [Nat.add_mul_mod_self_left, Nat.mod_eq_of_lt hx]
    have e2 : vb K (x :: xs) / K = vb K xs := by simp only [vb]; rw [Nat.add_mul_div_left _ _ hK, Nat.div_eq_of_lt hx, Nat.zero_add]
    simp only [List.length_cons, wfb, e1, e2, wfb_vb hK xs h.tail]
theorem vb_wfb (hK : 0 < K) : ∀ (k n : Nat), n < K ^ k → vb K (wfb K k n) = n
  | 0, n, h => by simp only [Nat.pow_zero] at h; simp [wfb, vb]; omega
  | k + 1, n, h => by
    have : n / K < K ^ k := by rw [Nat.div_lt_iff_lt_mul hK]; rw [Nat.pow_succ] at h; exact h
    simp only [wfb, vb, vb_wfb hK k _ this]
    exact Nat.mod_add_div n K
theorem wfb_of (hK : 0 < K) {xs : List Nat} {k n : Nat} (h : Ds K xs) (hl : xs.length = k) (hv : vb K xs = n) : xs = wfb K k n := by
  subst hl hv; exact (wfb_vb hK xs h).symm
/-- Digits with zeros above them. -/
def pad (ds : List Nat) (m : Nat) : List Nat := ds ++ List.replicate (m - ds.length) 0
theorem pad_length {ds : List Nat} {m : Nat} (h : ds.length ≤ m) : (pad ds m).length = m := by simp [pad]; omega
theorem pad_Ds (hK : 0 < K) {ds : List Nat} (h : Ds K ds) (m : Nat) : Ds K (pad ds m) := h.append (Ds_zeros hK _)
theorem pad_take {ds : List Nat} {m k : Nat} (h1 : ds.length ≤ k) (h2 : k ≤ m) : (pad ds m).take k = pad ds k := by
  unfold pad
  rw [List.take_append, List.take_of_length_le h1, List.take_replicate]
  congr 2
  omega
theorem pad_vb (ds : List Nat) (m : Nat) : vb K (pad ds m) = vb K ds := by
  unfold pad; rw [vb_append, vb_zeros]; simp
end
section
variable {V U V2 Vl U3 Ul P Q q B : Nat}
theorem knuth_le (hV : V = V2 * P + Vl) (hU : U = U3 * P + Ul) (hUl : Ul < P) (hQ : Q * V ≤ U) : Q * V2 ≤ U3 := by
  rcases Nat.lt_or_ge U3 (Q * V2) with h | h
  · have h1 := Nat.mul_le_mul_right P (show U3 + 1 ≤ Q * V2 from h)
    rw [Nat.add_mul, Nat.mul_assoc] at h1
    have h2 : Q * (V2 * P) ≤ Q * V := Nat.mul_le_mul_left _ (by omega)
    omega
  · exact h
theorem knuth_ge (hV : V = V2 * P + Vl) (hVl : Vl ≤ P) (hU : U = U3 * P + Ul) (hq : q * V2 ≤ U3) (hb : q ≤ V2 + 1) (h0 : 0 < q) : (q - 1) * V ≤ U := by
  obtain ⟨k, rfl⟩ : ∃ k, q = k + 1 := ⟨q - 1, by omega⟩
  simp only [Nat.add_sub_cancel]
  have h1 := Nat.mul_le_mul_right P hq
  have h2 : k * V = k * (V2 * P) + k * Vl := by rw [hV, Nat.mul_add]
  have h3 : k * Vl ≤ V2 * P := Nat.mul_le_mul (by omega) hVl
  rw [Nat.add_mul, Nat.add_mul, Nat.one_mul, Nat.mul_assoc] at h1
  omega
/-- The estimate of a digit of a quotient is it, or 1 more. -/
theorem knuth (hV : V = V2 * P + Vl) (hVl : Vl < P) (hU : U = U3 * P + Ul) (hUl : Ul < P) (hB : U < B * V) (hV2 : B ≤ V2) (hV0 : 0 < V) :
    U / V ≤ min (B - 1) (U3 / V2) ∧ min (B - 1) (U3 / V2) ≤ U / V + 1 := by
  have hB0 : 0 < B := by
    rcases Nat.eq_zero_or_pos B with h | h
    · subst h; simp at hB
    · exact h
  have h20 : 0 < V2 := by omega
  have hQB : U / V < B := (Nat.div_lt_iff_lt_mul hV0).2 hB
  refine ⟨Nat.le_min.2 ⟨by omega, (Nat.le_div_iff_mul_le h20).2 (knuth_le hV hU hUl (Nat.div_mul_le_self U V))⟩, ?_⟩
  obtain ⟨q, hq⟩ : ∃ q, q = min (B - 1) (U3 / V2) := ⟨_, rfl⟩
  rw [← hq]
  have h1 : q ≤ B - 1 := hq ▸ Nat.min_le_left _ _
  have h2 : q ≤ U3 / V2 := hq ▸ Nat.min_le_right _ _
  rcases Nat.eq_zero_or_pos q with h0 | h0
  · rw [h0]; exact Nat.zero_le _
  · have := knuth_ge hV (Nat.le_of_lt hVl) hU ((Nat.le_div_iff_mul_le h20).1 h2) (by omega) h0
    have := (Nat.le_div_iff_mul_le hV0).2 this
    omega
end
end Go.Proofs
