/-
  Contracts of functions of the program, each proved by a walk.
-/
import Derived.Test.YtenfiehjbeojeaaGreatDoorV10
import Derived.Test.YtenfiehjbeojeaaGreatDoorV9
set_option maxRecDepth 100000
set_option linter.unusedVariables false
set_option linter.unusedSimpArgs false
namespace Go.Proofs
open Go.Ax
/-- The number of words without zeros at the end. -/
def top : List Nat → Nat
  | [] => 0
  | x :: xs => if top xs = 0 then (if x = 0 then 0 else 1) else top xs + 1
theorem top_le : ∀ xs, top xs ≤ xs.length
  | [] => Nat.le_refl _
  | x :: xs => by simp only [top, List.length_cons]; have := top_le xs; split <;> (try split) <;> omega
theorem top_take : ∀ xs, val (xs.take (top xs)) = val xs
  | [] => rfl
  | x :: xs => by
    have ih := top_take xs
    simp only [top]
    split
    · rename_i h0
      rw [h0] at ih
      simp only [List.take_zero, val] at ih
      split
      · rename_i hx; simp [val, hx, ← ih]
      · simp [val, ← ih]
    · simp [val, ih]
theorem top_can : ∀ xs : List Nat, Canon (xs.take (top xs))
  | [] => fun h => absurd rfl h
  | x :: xs => by
    have ih := top_can xs
    intro hne
    simp only [top] at hne ⊢
    split
    · rename_i h0
      simp only [h0, if_true] at hne
      split
      · rename_i hx; simp [hx] at hne
      · rename_i hx; simpa using hx
    · rename_i h0
      have hne' : xs.take (top xs) ≠ [] := by
        intro h
        have := congrArg List.length h
        simp only [List.length_take, List.length_nil] at this
        have := top_le xs
        omega
      simp only [List.take_succ_cons]
      rw [List.getLast_cons hne']
      exact ih hne'
theorem top_spec (xs : List Nat) (h : Wd xs) : words (val xs) = xs.take (top xs) := by
  rw [← top_take xs]; exact words_val (h.take _) (top_can xs)
theorem top_last : ∀ (xs : List Nat) (n : Nat), top xs ≤ n → n ≤ xs.length → 1 ≤ n → xs.getD (n - 1) 0 ≠ 0 → top xs = n
  | [], n, _, h2, h3, _ => by simp at h2; omega
  | x :: xs, n, h1, h2, h3, h4 => by
    simp only [top] at h1 ⊢
    by_cases hn : n = 1
    · subst hn
      simp at h4
      split
      · simp [h4]
      · rename_i h0; rw [if_neg h0] at h1; omega
    · obtain ⟨m, rfl⟩ : ∃ m, n = m + 1 := ⟨n - 1, by omega⟩
      have h4' : xs.getD (m - 1) 0 ≠ 0 := by
        obtain ⟨k, rfl⟩ : ∃ k, m = k + 1 := ⟨m - 1, by omega⟩
        simpa using h4
      have ih := top_last xs m (by split at h1 <;> omega) (by simpa using h2) (by omega) h4'
      rw [if_neg (by omega), ih]
theorem top_zero (xs : List Nat) (n : Nat) (h1 : top xs ≤ n) (h2 : n ≤ xs.length) (h3 : 1 ≤ n) (h4 : xs.getD (n - 1) 0 = 0) : top xs ≤ n - 1 := by
  rcases Nat.lt_or_ge (n - 1) (top xs) with h | h
  · have ht : top xs = n := by omega
    have hc := top_can xs
    have hne : xs.take (top xs) ≠ [] := by
      intro h
      have := congrArg List.length h
      simp only [List.length_take, List.length_nil] at this
      omega
    have := hc hne
    rw [List.getLast_eq_getElem] at this
    simp only [List.length_take, List.getElem_take] at this
    rw [List.getD_eq_getElem?_getD, List.getElem?_eq_getElem (by omega)] at h4
    simp only [ht, Nat.min_eq_left h2] at this
    exact absurd (by simpa using h4) this
  · exact h
theorem len_zero (n : Nat) : (((words n).length : Int) == 0) = decide (n = 0) := by
  by_cases h : n = 0
  · subst h; rw [words_zero]; rfl
  · have : (words n).length ≠ 0 := fun h0 => h (words_eq_nil.1 (List.eq_nil_of_length_eq_zero h0))
    rw [decide_eq_false h]
    exact beqF (by omega)
set_option maxRecDepth 100000 in
theorem ret_view (xs : List Nat) (hw : Wd xs) (hl : xs.length ≤ 1099511627776) : Ret Tryz.prog GEs 74 [ws xs] (nat (val xs)) := by
  refine RetN_start Tryz.func74 (by kernel_rfl) rfl fun Q hQ hQ' => ?_
  rw [Tryz.ntmps74]; simp only [u, i64, Nat.reduceSub, Nat.reduceAdd, bm]
  (refine gO ?_)
  refine AWp_loop (fun n : Nat => mk 22 [(0, ws xs), (3, i64 n)] []) (fun n => top xs ≤ n ∧ n ≤ xs.length) (fun n => n) xs.length ?_ ⟨top_le xs, Nat.le_refl _⟩ fun n hn => ?_
  · simp only [u, i64, Nat.reduceSub, Nat.reduceAdd, bm]
  simp only [u, i64, Nat.reduceSub, Nat.reduceAdd, bm]
  by_cases h : 0 < n
  · by_cases h0 : xs.getD (n - 1) 0 = 0
    · (refine gO ?_)
      refine ⟨n - 1, ?_, ⟨top_zero xs n hn.1 hn.2 h h0, by omega⟩, by omega⟩
      simp only [u, i64, Nat.reduceSub, Nat.reduceAdd, bm]
    · have ht := top_last xs n hn.1 hn.2 h h0
      (refine gO ?_)
      refine FinQ hQ (congrArg Array.toList Tryz.results74) _ _ ?_
      simp (disch := omega) only [u, i64, ax, if_true, forall_const, reduceCtorEq, implies_true, tvs, bf]
      simp [nat, top_spec xs hw, ht, Nat.min_eq_left hn.2]
  · have hn0 : n = 0 := by omega
    have ht : top xs = 0 := by omega
    (refine gO ?_)
    refine FinQ hQ (congrArg Array.toList Tryz.results74) _ _ ?_
    simp (disch := omega) only [u, i64, ax, if_true, forall_const, reduceCtorEq, implies_true, tvs, bf]
    simp [nat, top_spec xs hw, ht, hn0]
set_option maxRecDepth 100000 in
theorem ret_Zero (xs : List Nat) (hw : Wd xs) (hl : xs.length ≤ 1099511627776) : Ret Tryz.prog GEs 38 [ws xs] (.bool (decide (val xs = 0))) := by
  refine RetN_start Tryz.func38 (by kernel_rfl) rfl fun Q hQ hQ' => ?_
  rw [Tryz.ntmps38]; simp only [u, i64, Nat.reduceSub, Nat.reduceAdd, bm]
  repeat (first | (refine gC ?_; first | refine aA ?_ | (refine cR (ret_view xs hw hl) ?_; refine sX ?_; try refine aA ?_)) | (refine cR (ret_view xs hw hl) ?_; refine sX ?_; try refine aA ?_) | refine gS ?_)
  refine FinQ hQ (congrArg Array.toList Tryz.results38) _ _ ?_
  simp (disch := omega) only [u, i64, ax, if_true, forall_const, reduceCtorEq, implies_true, tvs, bf]
  rw [len_zero]
set_option maxRecDepth 100000 in
theorem ret_Trim (xs : List Nat) (hw : Wd xs) (hl : xs.length ≤ 1099511627776) : Ret Tryz.prog GEs 82 [ws xs] (nat (val xs)) := by
  refine RetN_start Tryz.func82 (by kernel_rfl) rfl fun Q hQ hQ' => ?_
  rw [Tryz.ntmps82]; simp only [u, i64, Nat.reduceSub, Nat.reduceAdd, bm]
  (refine gO ?_)
  (refine gC ?_)
  (refine cR (ret_view xs hw hl) ?_; refine sX ?_; try refine aA ?_)
  have hlen := length_words_val_le hw
  by_cases h : 0 < (words (val xs)).length
  · (refine gO ?_)
    refine FinQ hQ (congrArg Array.toList Tryz.results82) _ _ ?_
    simp (disch := omega) only [u, i64, ax, if_true, forall_const, reduceCtorEq, implies_true, tvs, bf, List.take_length]
  · (refine gO ?_)
    refine FinQ hQ (congrArg Array.toList Tryz.results82) _ _ ?_
    simp (disch := omega) only [u, i64, ax, if_true, forall_const, reduceCtorEq, implies_true, tvs, bf]
    have h0 : words (val xs) = [] := List.eq_nil_of_length_eq_zero (by omega)
    simp only [nat, h0]; rfl
set_option maxRecDepth 100000 in
theorem ret_Word (n : Nat) (h : n < 18446744073709551616) : Ret Tryz.prog GEs 84 [u n] (nat n) := by
  refine RetN_start Tryz.func84 (by kernel_rfl) rfl fun Q hQ hQ' => ?_
  rw [Tryz.ntmps84]; simp only [u, i64, Nat.reduceSub, Nat.reduceAdd, bm]
  repeat (first | (refine gC ?_; first | refine aA ?_ | (refine cR (ret_Trim [n] (Wd_cons h Wd_nil) (by simp)) ?_; refine sX ?_; try refine aA ?_)) | (refine cR (ret_Trim [n] (Wd_cons h Wd_nil) (by simp)) ?_; refine sX ?_; try refine aA ?_) | refine gS ?_)
  refine FinQ hQ (congrArg Array.toList Tryz.results84) _ _ ?_
  simp (disch := omega) only [u, i64, ax, if_true, forall_const, reduceCtorEq, implies_true, tvs, bf]
  simp [val]
end Go.Proofs
set_option linter.unusedVariables false
set_option linter.unusedSimpArgs false
namespace Go.Proofs
open Go.Ax
theorem cmpI_lt {a b : Nat} (h : a < b) : cmpI a b = -1 := if_pos h
theorem cmpI_gt {a b : Nat} (h : b < a) : cmpI a b = 1 := by unfold cmpI; rw [if_neg (by omega), if_pos h]
theorem cmpI_eq {a b : Nat} (h : a = b) : cmpI a b = 0 := by unfold cmpI; rw [if_neg (by omega), if_neg (by omega)]
theorem val_split (xs : List Nat) (k : Nat) (h : k ≤ xs.length) : val xs = val (xs.take k) + 18446744073709551616 ^ k * val (xs.drop k) := by
  conv => lhs; rw [← List.take_append_drop k xs]
  rw [val_append, List.length_take, Nat.min_eq_left h]
theorem val_drop (xs : List Nat) (k : Nat) (h : k < xs.length) : val (xs.drop k) = xs.getD k 0 + 18446744073709551616 * val (xs.drop (k + 1)) := by
  rw [List.drop_eq_getElem_cons h, val, List.getD_eq_getElem?_getD, List.getElem?_eq_getElem h]; rfl
theorem lt_of_top (a b : List Nat) (ha : Wd a) (n : Nat) (h1 : a.length = b.length) (h2 : n < a.length) (h3 : val (a.drop (n + 1)) = val (b.drop (n + 1))) (h4 : a.getD n 0 < b.getD n 0) : val a < val b := by
  rw [val_split a n (by omega), val_split b n (by omega), val_drop a n h2, val_drop b n (by omega), h3]
  have hl := val_lt (ha.take n)
  rw [List.length_take, Nat.min_eq_left (by omega)] at hl
  have : 18446744073709551616 ^ n * (a.getD n 0 + 18446744073709551616 * val (b.drop (n + 1))) + 18446744073709551616 ^ n ≤ 18446744073709551616 ^ n * (b.getD n 0 + 18446744073709551616 * val (b.drop (n + 1))) := by
    rw [← Nat.mul_succ]; exact Nat.mul_le_mul_left _ (by omega)
  omega
theorem lt_of_len {a b : Nat} (h : (words a).length < (words b).length) : a < b := by
  rcases Nat.lt_or_ge a b with h' | h'
  · exact h'
  · have := length_mono h'; omega
set_option maxRecDepth 100000 in
theorem ret_Cmp (xs ys : List Nat) (hx : Wd xs) (hy : Wd ys) (hlx : xs.length ≤ 1099511627776) (hly : ys.length ≤ 1099511627776) : Ret Tryz.prog GEs 71 [ws xs, ws ys] (i64 (cmpI (val xs) (val ys))) := by
  refine RetN_start Tryz.func71 (by kernel_rfl) rfl fun Q hQ hQ2 => ?_; rw [Tryz.ntmps71]; simp only [u, i64, Nat.reduceSub, Nat.reduceAdd, bm]
  (refine gO ?_)
  (refine gC ?_)
  (refine cR (ret_view xs hx hlx) ?_; refine sX ?_; try refine aA ?_)
  (refine cR (ret_view ys hy hly) ?_; refine sX ?_; try refine aA ?_)
  have h1 := length_words_val_le hx
  have h2 := length_words_val_le hy
  by_cases hlt : (words (val xs)).length < (words (val ys)).length
  · (refine gO ?_)
    (refine FinQ hQ (congrArg Array.toList Tryz.results71) _ _ ?_); simp (disch := omega) only [u, i64, ax, if_true, forall_const, reduceCtorEq, implies_true, tvs, bf, cmpI_lt (lt_of_len hlt)]
  by_cases hgt : (words (val ys)).length < (words (val xs)).length
  · (refine gO ?_)
    (refine FinQ hQ (congrArg Array.toList Tryz.results71) _ _ ?_); simp (disch := omega) only [u, i64, ax, if_true, forall_const, reduceCtorEq, implies_true, tvs, bf, cmpI_gt (lt_of_len hgt)]
  have heq : (words (val xs)).length = (words (val ys)).length := by omega
  (refine gO ?_)
  refine AWp_loop (fun n : Nat => mk 45 [(0, nat (val xs)), (1, nat (val ys)), (5, i64 ((n : Int) - 1))] []) (fun n => n ≤ (words (val xs)).length ∧ val ((words (val xs)).drop n) = val ((words (val ys)).drop n)) (fun n => n) (words (val xs)).length ?_ ⟨Nat.le_refl _, ?_⟩ fun n hn => ?_
  · simp only [u, i64, Nat.reduceSub, Nat.reduceAdd, bm]
  · rw [List.drop_of_length_le (Nat.le_refl _), List.drop_of_length_le (by omega)]
  simp only [u, i64, Nat.reduceSub, Nat.reduceAdd, bm]
  by_cases h : 1 ≤ n
  · by_cases hl : (words (val xs)).getD (n - 1) 0 < (words (val ys)).getD (n - 1) 0
    · have hlt := lt_of_top _ _ (Wd_words (val xs)) (n - 1) heq (by omega) (by rw [Nat.sub_add_cancel h]; exact hn.2) hl
      rw [val_words, val_words] at hlt
      (refine gO ?_)
      (refine FinQ hQ (congrArg Array.toList Tryz.results71) _ _ ?_); simp (disch := omega) only [u, i64, ax, if_true, forall_const, reduceCtorEq, implies_true, tvs, bf, cmpI_lt hlt]
    by_cases hg : (words (val ys)).getD (n - 1) 0 < (words (val xs)).getD (n - 1) 0
    · have hgt := lt_of_top _ _ (Wd_words (val ys)) (n - 1) heq.symm (by omega) (by rw [Nat.sub_add_cancel h]; exact hn.2.symm) hg
      rw [val_words, val_words] at hgt
      (refine gO ?_)
      (refine FinQ hQ (congrArg Array.toList Tryz.results71) _ _ ?_); simp (disch := omega) only [u, i64, ax, if_true, forall_const, reduceCtorEq, implies_true, tvs, bf, cmpI_gt hgt]
    have he : (words (val xs)).getD (n - 1) 0 = (words (val ys)).getD (n - 1) 0 := by omega
    (refine gO ?_)
    refine ⟨n - 1, ?_, ⟨by omega, ?_⟩, by omega⟩
    · simp only [u, i64, Nat.reduceSub, Nat.reduceAdd, bm]
    · rw [val_drop (words (val xs)) (n - 1) (by omega), val_drop (words (val ys)) (n - 1) (by omega), he, Nat.sub_add_cancel h, hn.2]
  · have hn0 : n = 0 := by omega
    subst hn0
    have hv := hn.2
    simp only [List.drop_zero, val_words] at hv
    (refine gO ?_)
    (refine FinQ hQ (congrArg Array.toList Tryz.results71) _ _ ?_); simp (disch := omega) only [u, i64, ax, if_true, forall_const, reduceCtorEq, implies_true, tvs, bf, cmpI_eq hv]
end Go.Proofs
set_option linter.unusedVariables false
set_option linter.unusedSimpArgs false
namespace Go.Proofs
open Go.Ax
theorem bitLen_bl (x : Nat) (h : x < 18446744073709551616) : Lib.bitLen x = bl x := by
  by_cases h0 : x = 0
  · subst h0; decide
  · have h1 := Nat.log2_self_le h0
    have h2 : x < 2 ^ (x.log2 + 1) := Nat.lt_log2_self
    rw [Lib.bitLen_shift x.log2 x h1 h]
    have : x / 2 ^ x.log2 = 1 := by
      apply Nat.div_eq_of_lt_le
      · simpa using h1
      · rw [Nat.pow_succ] at h2; omega
    rw [this]
    unfold bl
    rw [if_neg h0, show Lib.bitLen 1 = 1 by decide, Nat.add_comm]
theorem Bpow (k : Nat) : 18446744073709551616 ^ k = 2 ^ (64 * k) := by rw [show 18446744073709551616 = 2 ^ 64 by decide, ← Nat.pow_mul]
theorem bl_words (v : Nat) (h : v ≠ 0) : bl v = 64 * ((words v).length - 1) + bl ((words v).getD ((words v).length - 1) 0) ∧ (words v).getD ((words v).length - 1) 0 < 18446744073709551616 := by
  have hne : words v ≠ [] := fun h0 => h (words_eq_nil.1 h0)
  have hl : 1 ≤ (words v).length := by
    rcases Nat.eq_zero_or_pos (words v).length with h0 | h0
    · exact absurd (List.eq_nil_of_length_eq_zero h0) hne
    · exact h0
  have hlast : (words v).getD ((words v).length - 1) 0 ≠ 0 := by
    have := Canon_words v hne
    rw [List.getLast_eq_getElem] at this
    rw [List.getD_eq_getElem?_getD, List.getElem?_eq_getElem (by omega)]
    exact this
  have hB := (Wd_words v).getD ((words v).length - 1)
  refine ⟨?_, hB⟩
  have hv := val_split (words v) ((words v).length - 1) (by omega)
  rw [val_drop _ _ (by omega), Nat.sub_add_cancel hl, List.drop_of_length_le (Nat.le_refl _), val_words] at hv
  have ht := val_lt ((Wd_words v).take ((words v).length - 1))
  rw [List.length_take, Nat.min_eq_left (by omega)] at ht
  generalize (words v).getD ((words v).length - 1) 0 = t at *
  generalize (words v).length - 1 = L at *
  generalize val ((words v).take L) = lo at *
  simp only [val, Nat.mul_zero, Nat.add_zero] at hv
  obtain ⟨h1, h2, h3⟩ := bl_spec hlast
  rw [Bpow] at hv ht
  have e := bl_eq (n := v) (k := 64 * L + (bl t - 1)) (by rw [hv, Nat.pow_add]; exact Nat.le_trans (Nat.mul_le_mul_left _ h1) (by omega)) (by
    rw [hv, show 64 * L + (bl t - 1) + 1 = 64 * L + bl t by omega, Nat.pow_add]
    have : 2 ^ (64 * L) * t + 2 ^ (64 * L) ≤ 2 ^ (64 * L) * 2 ^ bl t := by rw [← Nat.mul_succ]; exact Nat.mul_le_mul_left _ h2
    omega)
  omega
theorem val_take_succ (xs : List Nat) (n : Nat) (h : n < xs.length) : val (xs.take (n + 1)) = val (xs.take n) + 18446744073709551616 ^ n * xs.getD n 0 := by
  rw [List.take_add_one, val_append, List.length_take, Nat.min_eq_left (by omega), List.getElem?_eq_getElem h, List.getD_eq_getElem?_getD, List.getElem?_eq_getElem h]
  simp [val]
theorem ctz_word (x : Nat) (h0 : x ≠ 0) (h : x < 18446744073709551616) : Lib.ctz 64 x = tz x ∧ tz x < 64 := by
  obtain ⟨m, h1, h2⟩ := Lib.ctzFrom_spec 64 x (by omega) h
  have h3 : tz x = Lib.ctzFrom 64 x := by rw [h1, tz_of, ← h1]
  unfold Lib.ctz
  rw [if_neg h0, h3]
  exact ⟨rfl, h2⟩
theorem tz_val (xs : List Nat) (n : Nat) (hn : n < xs.length) (h0 : val (xs.take n) = 0) (hx : xs.getD n 0 ≠ 0) (hk : tz (xs.getD n 0) < 64) : tz (val xs) = 64 * n + tz (xs.getD n 0) := by
  rw [val_split xs n (by omega), h0, Nat.zero_add, val_drop xs n hn]
  obtain ⟨m, h1⟩ := tz_spec hx
  generalize xs.getD n 0 = x at *
  generalize val (xs.drop (n + 1)) = r
  · have : x + 18446744073709551616 * r = 2 ^ tz x * (2 * (m + 2 ^ (63 - tz x) * r) + 1) := by
      conv => lhs; rw [h1, show 18446744073709551616 = 2 ^ tz x * (2 * 2 ^ (63 - tz x)) by rw [← Nat.pow_succ', ← Nat.pow_add, show tz x + (63 - tz x).succ = 64 by omega]]
      rw [Nat.mul_assoc, ← Nat.mul_add, Nat.mul_assoc 2, Nat.mul_add 2]
      congr 1; omega
    rw [this, Bpow, ← Nat.mul_assoc, ← Nat.pow_add, tz_of]
theorem ret_Len64b (x : Nat) (hx : x < 18446744073709551616) : Ret Tryz.prog GEs 104 [u x] (i64 (bl x)) := bitLen_bl x hx ▸ ret_Len64 x hx
theorem ret_TrailingZeros64b (x : Nat) (hx : x < 18446744073709551616) (h0 : x ≠ 0) : Ret Tryz.prog GEs 127 [u x] (i64 (tz x)) := (ctz_word x h0 hx).1 ▸ ret_TrailingZeros64 x hx
set_option maxRecDepth 100000 in
theorem ret_Len (xs : List Nat) (hx : Wd xs) (hl : xs.length ≤ 1099511627776) : Ret Tryz.prog GEs 75 [ws xs] (i64 (bl (val xs))) := by
  refine RetN_start Tryz.func75 (by kernel_rfl) rfl fun Q hQ hQ2 => ?_; rw [Tryz.ntmps75]; simp only [u, i64, Nat.reduceSub, Nat.reduceAdd, bm]
  (refine gO ?_)
  (refine gC ?_)
  (refine cR (ret_view xs hx hl) ?_; refine sX ?_; try refine aA ?_)
  have h1 := length_words_val_le hx
  by_cases h0 : val xs = 0
  · have hw : (words (val xs)).length = 0 := by rw [h0, words_zero]; rfl
    (refine gO ?_)
    (refine FinQ hQ (congrArg Array.toList Tryz.results75) _ _ ?_); simp (disch := omega) only [u, i64, ax, if_true, forall_const, reduceCtorEq, implies_true, tvs, bf, h0]
    rfl
  · obtain ⟨hb, ht⟩ := bl_words _ h0
    have hbl := bl_le (n := (words (val xs)).getD ((words (val xs)).length - 1) 0) (k := 64) ht
    have hne : 1 ≤ (words (val xs)).length := by
      rcases Nat.eq_zero_or_pos (words (val xs)).length with h | h
      · exact absurd (words_eq_nil.1 (List.eq_nil_of_length_eq_zero h)) h0
      · exact h
    (refine gO ?_)
    (refine gC ?_)
    (refine callK_mem (ret_Len64b _ ht) rfl (by (simp (disch := omega) only [if_true, forall_const, reduceCtorEq, implies_true, bz]) <;> rfl) ?_; refine sX ?_; try refine aA ?_)
    (refine gO ?_)
    (refine FinQ hQ (congrArg Array.toList Tryz.results75) _ _ ?_); simp (disch := omega) only [u, i64, ax, if_true, forall_const, reduceCtorEq, implies_true, tvs, bf]
    exact congrArg i64 (by omega)
set_option maxRecDepth 100000 in
theorem ret_Trailing (xs : List Nat) (hx : Wd xs) (hl : xs.length ≤ 1099511627776) : Ret Tryz.prog GEs 92 [ws xs] (i64 (tz (val xs))) := by
  refine RetN_start Tryz.func92 (by kernel_rfl) rfl fun Q hQ hQ2 => ?_; rw [Tryz.ntmps92]; simp only [u, i64, Nat.reduceSub, Nat.reduceAdd, bm]
  (refine gO ?_)
  refine AWp_loop (fun n : Nat => mk 20 [(0, ws xs), (5, ws xs), (6, i64 xs.length), (7, i64 n)] []) (fun n => n ≤ xs.length ∧ val (xs.take n) = 0) (fun n => xs.length - n) 0 ?_ ⟨Nat.zero_le _, rfl⟩ fun n hn => ?_
  · simp only [u, i64, Nat.reduceSub, Nat.reduceAdd, bm]
  simp only [u, i64, Nat.reduceSub, Nat.reduceAdd, bm]
  by_cases h : n < xs.length
  · by_cases h0 : xs.getD n 0 = 0
    · (refine gO ?_)
      refine ⟨n + 1, ?_, ⟨h, ?_⟩, by omega⟩
      · simp only [u, i64, Nat.reduceSub, Nat.reduceAdd, bm]
      · rw [val_take_succ xs n h, hn.2, h0]; rfl
    · have ht := ctz_word _ h0 (hx.getD n)
      (refine gO ?_)
      (refine gC ?_)
      (refine callK_mem (ret_TrailingZeros64b _ (hx.getD n) h0) rfl (by (simp (disch := omega) only [if_true, forall_const, reduceCtorEq, implies_true, bz]) <;> rfl) ?_; refine sX ?_; try refine aA ?_)
      have e := tz_val xs n h hn.2 h0 ht.2
      (refine gO ?_)
      (refine FinQ hQ (congrArg Array.toList Tryz.results92) _ _ ?_); simp (disch := omega) only [u, i64, ax, if_true, forall_const, reduceCtorEq, implies_true, tvs, bf]
      exact congrArg i64 (by omega)
  · have hn0 : n = xs.length := by omega
    have hv := hn.2
    rw [hn0, List.take_length] at hv
    (refine gO ?_)
    (refine FinQ hQ (congrArg Array.toList Tryz.results92) _ _ ?_); simp (disch := omega) only [u, i64, ax, if_true, forall_const, reduceCtorEq, implies_true, tvs, bf, hv]
    rfl
end Go.Proofs
