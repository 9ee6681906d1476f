/-
  How a row opens its arguments.
-/
import Derived.Test.YtpnljnmpocobjaaGreatDoorX11
import Derived.Test.YtpnljnmpocobjaaGreatDoorX10
import Derived.Test.YtpnljnmpocobjaaGreatDoorX9
import Derived.Test.YtpnljnmpocobjaaGreatDoorX8
set_option maxRecDepth 100000
set_option linter.unusedVariables false
set_option linter.unusedSimpArgs false
set_option maxRecDepth 100000
namespace Go.Proofs.YtpnljnmpocobjaaGreatDoor.Card
open Go Go.ChangeShapes Go.WideShapes Go.ChangeAt Go.RowKit Go.Ax Go.Proofs
theorem cellsCx : Tryz.prog.cellsOf 76 = 3 := by kernel_rfl
theorem cellsRo : Tryz.prog.cellsOf 24 = 1 := by kernel_rfl
theorem cellsDc : Tryz.prog.cellsOf 79 = 4 := by kernel_rfl
theorem cellsKd : Tryz.prog.cellsOf 77 = 1 := by kernel_rfl
/-- A context, opened. -/
theorem opn_ctx : Opn 76 (fun a => ∃ p g r : Int, a = .agg [i64 p, i64 g, i64 r] ∧ (-9223372036854775808 ≤ p ∧ p < 9223372036854775808) ∧ (-9223372036854775808 ≤ g ∧ g < 9223372036854775808) ∧ -9223372036854775808 ≤ r ∧ r < 9223372036854775808) := fun H enc W v d ps hv hd => by
  obtain ⟨cs, rfl, hcs⟩ := okWide_struct Tryz.underlying76 hv
  obtain ⟨fuel, hf⟩ := hd
  have hcl : cs.toList.length = 3 := by simpa [cellsCx] using hcs
  obtain ⟨c0, c1, c2, hc⟩ : ∃ c0 c1 c2, cs.toList = [c0, c1, c2] := by
    match hh : cs.toList, hcl with
    | [c0, c1, c2], _ => exact ⟨c0, c1, c2, rfl⟩
  have hcv : (Value.agg cs).cells.toList = [c0, c1, c2] := hc
  rw [hcv] at hf
  obtain ⟨n0, y0, z0⟩ := flat_get Tryz.underlying76 hf 0 _ 0 3 rfl rfl rfl cells3 rfl
  obtain ⟨n1, y1, z1⟩ := flat_get Tryz.underlying76 hf 1 _ 1 3 rfl rfl rfl cells3 rfl
  obtain ⟨n2, y2, z2⟩ := flat_get Tryz.underlying76 hf 2 _ 2 24 rfl rfl rfl cellsRo rfl
  obtain ⟨k, rfl, k1, k2⟩ := cell_int Tryz.underlying3 z0
  obtain ⟨p, rfl, p1, p2⟩ := cell_int Tryz.underlying3 z1
  obtain ⟨r, rfl, r1, r2⟩ := cell_int Tryz.underlying24 z2
  exact ⟨_, ⟨k, p, r, rfl, ⟨k1, k2⟩, ⟨p1, p2⟩, r1, r2⟩, [.int .i64 k, .int .i64 p, .int .i64 r], congrArg Value.agg (by rw [← hc]), _, _, rfl, rfl, _, _, rfl, rfl, _, _, rfl, rfl, rfl⟩
/-- A decimal number, opened. -/
theorem opn_dec : Opn 79 (fun a => ∃ (k : Int) (n : Bool) (xs : List Nat) (e : Int), a = .agg [i64 k, .bool n, ws xs, i64 e] ∧ (-9223372036854775808 ≤ k ∧ k < 9223372036854775808) ∧ Wl xs ∧ -9223372036854775808 ≤ e ∧ e < 9223372036854775808) := fun H enc W v d ps hv hd => by
  obtain ⟨cs, rfl, hcs⟩ := okWide_struct Tryz.underlying79 hv
  obtain ⟨fuel, hf⟩ := hd
  have hcl : cs.toList.length = 4 := by simpa [cellsDc] using hcs
  obtain ⟨c0, c1, c2, c3, hc⟩ : ∃ c0 c1 c2 c3, cs.toList = [c0, c1, c2, c3] := by
    match hh : cs.toList, hcl with
    | [c0, c1, c2, c3], _ => exact ⟨c0, c1, c2, c3, rfl⟩
  have hcv : (Value.agg cs).cells.toList = [c0, c1, c2, c3] := hc
  rw [hcv] at hf
  obtain ⟨n0, y0, z0⟩ := flat_get Tryz.underlying79 hf 0 _ 0 77 rfl rfl rfl cellsKd rfl
  obtain ⟨n1, y1, z1⟩ := flat_get Tryz.underlying79 hf 1 _ 1 4 rfl rfl rfl cells4 rfl
  obtain ⟨n2, y2, z2⟩ := flat_get Tryz.underlying79 hf 2 _ 2 26 rfl rfl rfl cells26 rfl
  obtain ⟨n3, y3, z3⟩ := flat_get Tryz.underlying79 hf 3 _ 3 3 rfl rfl rfl cells3 rfl
  obtain ⟨k, rfl, k1, k2⟩ := cell_int Tryz.underlying77 z0
  obtain ⟨n, rfl⟩ := cell_bool Tryz.underlying4 z1
  obtain ⟨xs, h1, h2, h3⟩ := open_ws z2
  obtain ⟨e, rfl, e1, e2⟩ := cell_int Tryz.underlying3 z3
  exact ⟨_, ⟨k, n, xs, e, rfl, ⟨k1, k2⟩, ⟨h2, h3⟩, e1, e2⟩, [.int .i64 k, .bool n, c2, .int .i64 e], congrArg Value.agg (by rw [← hc]), _, _, rfl, rfl, _, _, rfl, rfl, _, _, rfl, h1, _, _, rfl, rfl, rfl⟩
end Go.Proofs.YtpnljnmpocobjaaGreatDoor.Card
set_option linter.unusedVariables false
set_option linter.unusedSimpArgs false
namespace Go.Proofs
open Go.Ax
/-- The number of words without zeros at the end. -/
def top : List Nat → Nat
  | [] => 0
  | x :: xs => if top xs = 0 then (if x = 0 then 0 else 1) else top xs + 1
theorem top_le : ∀ xs, top xs ≤ xs.length
  | [] => Nat.le_refl _
  | x :: xs => by simp only [top, List.length_cons]; have := top_le xs; split <;> (try split) <;> omega
theorem top_take : ∀ xs, val (xs.take (top xs)) = val xs
  | [] => rfl
  | x :: xs => by
    have ih := top_take xs
    simp only [top]
    split
    · rename_i h0
      rw [h0] at ih
      simp only [List.take_zero, val] at ih
      split
      · rename_i hx; simp [val, hx, ← ih]
      · simp [val, ← ih]
    · simp [val, ih]
theorem top_can : ∀ xs : List Nat, Canon (xs.take (top xs))
  | [] => fun h => absurd rfl h
  | x :: xs => by
    have ih := top_can xs
    intro hne
    simp only [top] at hne ⊢
    split
    · rename_i h0
      simp only [h0, if_true] at hne
      split
      · rename_i hx; simp [hx] at hne
      · rename_i hx; simpa using hx
    · rename_i h0
      have hne' : xs.take (top xs) ≠ [] := by
        intro h
        have := congrArg List.length h
        simp only [List.length_take, List.length_nil] at this
        have := top_le xs
        omega
      simp only [List.take_succ_cons]
      rw [List.getLast_cons hne']
      exact ih hne'
theorem top_spec (xs : List Nat) (h : Wd xs) : words (val xs) = xs.take (top xs) := by
  rw [← top_take xs]; exact words_val (h.take _) (top_can xs)
theorem top_last : ∀ (xs : List Nat) (n : Nat), top xs ≤ n → n ≤ xs.length → 1 ≤ n → xs.getD (n - 1) 0 ≠ 0 → top xs = n
  | [], n, _, h2, h3, _ => by simp at h2; omega
  | x :: xs, n, h1, h2, h3, h4 => by
    simp only [top] at h1 ⊢
    by_cases hn : n = 1
    · subst hn
      simp at h4
      split
      · simp [h4]
      · rename_i h0; rw [if_neg h0] at h1; omega
    · obtain ⟨m, rfl⟩ : ∃ m, n = m + 1 := ⟨n - 1, by omega⟩
      have h4' : xs.getD (m - 1) 0 ≠ 0 := by
        obtain ⟨k, rfl⟩ : ∃ k, m = k + 1 := ⟨m - 1, by omega⟩
        simpa using h4
      have ih := top_last xs m (by split at h1 <;> omega) (by simpa using h2) (by omega) h4'
      rw [if_neg (by omega), ih]
theorem top_zero (xs : List Nat) (n : Nat) (h1 : top xs ≤ n) (h2 : n ≤ xs.length) (h3 : 1 ≤ n) (h4 : xs.getD (n - 1) 0 = 0) : top xs ≤ n - 1 := by
  rcases Nat.lt_or_ge (n - 1) (top xs) with h | h
  · have ht : top xs = n := by omega
    have hc := top_can xs
    have hne : xs.take (top xs) ≠ [] := by
      intro h
      have := congrArg List.length h
      simp only [List.length_take, List.length_nil] at this
      omega
    have := hc hne
    rw [List.getLast_eq_getElem] at this
    simp only [List.length_take, List.getElem_take] at this
    rw [List.getD_eq_getElem?_getD, List.getElem?_eq_getElem (by omega)] at h4
    simp only [ht, Nat.min_eq_left h2] at this
    exact absurd (by simpa using h4) this
  · exact h
theorem len_zero (n : Nat) : (((words n).length : Int) == 0) = decide (n = 0) := by
  by_cases h : n = 0
  · subst h; rw [words_zero]; rfl
  · have : (words n).length ≠ 0 := fun h0 => h (words_eq_nil.1 (List.eq_nil_of_length_eq_zero h0))
    rw [decide_eq_false h]
    exact beqF (by omega)
set_option maxRecDepth 100000 in
theorem ret_view (xs : List Nat) (hw : Wd xs) (hl : xs.length ≤ 1099511627776) : Ret Tryz.prog GEs 156 [ws xs] (nat (val xs)) := by
  refine RetN_start Tryz.func156 (by kernel_rfl) rfl fun Q hQ hQ' => ?_
  rw [Tryz.ntmps156]; simp only [u, i64, Nat.reduceSub, Nat.reduceAdd, bm]
  (refine gO ?_)
  refine AWp_loop (fun n : Nat => mk 22 [(0, ws xs), (3, i64 n)] []) (fun n => top xs ≤ n ∧ n ≤ xs.length) (fun n => n) xs.length ?_ ⟨top_le xs, Nat.le_refl _⟩ fun n hn => ?_
  · simp only [u, i64, Nat.reduceSub, Nat.reduceAdd, bm]
  simp only [u, i64, Nat.reduceSub, Nat.reduceAdd, bm]
  by_cases h : 0 < n
  · by_cases h0 : xs.getD (n - 1) 0 = 0
    · (refine gO ?_)
      refine ⟨n - 1, ?_, ⟨top_zero xs n hn.1 hn.2 h h0, by omega⟩, by omega⟩
      simp only [u, i64, Nat.reduceSub, Nat.reduceAdd, bm]
    · have ht := top_last xs n hn.1 hn.2 h h0
      (refine gO ?_)
      refine FinQ hQ (congrArg Array.toList Tryz.results156) _ _ ?_
      simp (disch := omega) only [u, i64, ax, if_true, forall_const, reduceCtorEq, implies_true, tvs, bf]
      simp [nat, top_spec xs hw, ht, Nat.min_eq_left hn.2]
  · have hn0 : n = 0 := by omega
    have ht : top xs = 0 := by omega
    (refine gO ?_)
    refine FinQ hQ (congrArg Array.toList Tryz.results156) _ _ ?_
    simp (disch := omega) only [u, i64, ax, if_true, forall_const, reduceCtorEq, implies_true, tvs, bf]
    simp [nat, top_spec xs hw, ht, hn0]
set_option maxRecDepth 100000 in
theorem ret_Zero (xs : List Nat) (hw : Wd xs) (hl : xs.length ≤ 1099511627776) : Ret Tryz.prog GEs 74 [ws xs] (.bool (decide (val xs = 0))) := by
  refine RetN_start Tryz.func74 (by kernel_rfl) rfl fun Q hQ hQ' => ?_
  rw [Tryz.ntmps74]; simp only [u, i64, Nat.reduceSub, Nat.reduceAdd, bm]
  repeat (first | (refine gC ?_; first | refine aA ?_ | (refine cR (ret_view xs hw hl) ?_; refine sX ?_; try refine aA ?_)) | (refine cR (ret_view xs hw hl) ?_; refine sX ?_; try refine aA ?_) | refine gS ?_)
  refine FinQ hQ (congrArg Array.toList Tryz.results74) _ _ ?_
  simp (disch := omega) only [u, i64, ax, if_true, forall_const, reduceCtorEq, implies_true, tvs, bf]
  rw [len_zero]
set_option maxRecDepth 100000 in
theorem ret_Trim (xs : List Nat) (hw : Wd xs) (hl : xs.length ≤ 1099511627776) : Ret Tryz.prog GEs 190 [ws xs] (nat (val xs)) := by
  refine RetN_start Tryz.func190 (by kernel_rfl) rfl fun Q hQ hQ' => ?_
  rw [Tryz.ntmps190]; simp only [u, i64, Nat.reduceSub, Nat.reduceAdd, bm]
  (refine gO ?_)
  (refine gC ?_)
  (refine cR (ret_view xs hw hl) ?_; refine sX ?_; try refine aA ?_)
  have hlen := length_words_val_le hw
  by_cases h : 0 < (words (val xs)).length
  · (refine gO ?_)
    refine FinQ hQ (congrArg Array.toList Tryz.results190) _ _ ?_
    simp (disch := omega) only [u, i64, ax, if_true, forall_const, reduceCtorEq, implies_true, tvs, bf, List.take_length]
  · (refine gO ?_)
    refine FinQ hQ (congrArg Array.toList Tryz.results190) _ _ ?_
    simp (disch := omega) only [u, i64, ax, if_true, forall_const, reduceCtorEq, implies_true, tvs, bf]
    have h0 : words (val xs) = [] := List.eq_nil_of_length_eq_zero (by omega)
    simp only [nat, h0]; rfl
set_option maxRecDepth 100000 in
theorem ret_Word (n : Nat) (h : n < 18446744073709551616) : Ret Tryz.prog GEs 222 [u n] (nat n) := by
  refine RetN_start Tryz.func222 (by kernel_rfl) rfl fun Q hQ hQ' => ?_
  rw [Tryz.ntmps222]; simp only [u, i64, Nat.reduceSub, Nat.reduceAdd, bm]
  repeat (first | (refine gC ?_; first | refine aA ?_ | (refine cR (ret_Trim [n] (Wd_cons h Wd_nil) (by simp)) ?_; refine sX ?_; try refine aA ?_)) | (refine cR (ret_Trim [n] (Wd_cons h Wd_nil) (by simp)) ?_; refine sX ?_; try refine aA ?_) | refine gS ?_)
  refine FinQ hQ (congrArg Array.toList Tryz.results222) _ _ ?_
  simp (disch := omega) only [u, i64, ax, if_true, forall_const, reduceCtorEq, implies_true, tvs, bf]
  simp [val]
end Go.Proofs
set_option linter.unusedVariables false
set_option linter.unusedSimpArgs false
namespace Go.Proofs
open Go.Ax
theorem cmpI_lt {a b : Nat} (h : a < b) : cmpI a b = -1 := if_pos h
theorem cmpI_gt {a b : Nat} (h : b < a) : cmpI a b = 1 := by unfold cmpI; rw [if_neg (by omega), if_pos h]
theorem cmpI_eq {a b : Nat} (h : a = b) : cmpI a b = 0 := by unfold cmpI; rw [if_neg (by omega), if_neg (by omega)]
theorem val_split (xs : List Nat) (k : Nat) (h : k ≤ xs.length) : val xs = val (xs.take k) + 18446744073709551616 ^ k * val (xs.drop k) := by
  conv => lhs; rw [← List.take_append_drop k xs]
  rw [val_append, List.length_take, Nat.min_eq_left h]
theorem val_drop (xs : List Nat) (k : Nat) (h : k < xs.length) : val (xs.drop k) = xs.getD k 0 + 18446744073709551616 * val (xs.drop (k + 1)) := by
  rw [List.drop_eq_getElem_cons h, val, List.getD_eq_getElem?_getD, List.getElem?_eq_getElem h]; rfl
theorem lt_of_top (a b : List Nat) (ha : Wd a) (n : Nat) (h1 : a.length = b.length) (h2 : n < a.length) (h3 : val (a.drop (n + 1)) = val (b.drop (n + 1))) (h4 : a.getD n 0 < b.getD n 0) : val a < val b := by
  rw [val_split a n (by omega), val_split b n (by omega), val_drop a n h2, val_drop b n (by omega), h3]
  have hl := val_lt (ha.take n)
  rw [List.length_take, Nat.min_eq_left (by omega)] at hl
  have : 18446744073709551616 ^ n * (a.getD n 0 + 18446744073709551616 * val (b.drop (n + 1))) + 18446744073709551616 ^ n ≤ 18446744073709551616 ^ n * (b.getD n 0 + 18446744073709551616 * val (b.drop (n + 1))) := by
    rw [← Nat.mul_succ]; exact Nat.mul_le_mul_left _ (by omega)
  omega
theorem lt_of_len {a b : Nat} (h : (words a).length < (words b).length) : a < b := by
  rcases Nat.lt_or_ge a b with h' | h'
  · exact h'
  · have := length_mono h'; omega
set_option maxRecDepth 100000 in
theorem ret_Cmp (xs ys : List Nat) (hx : Wd xs) (hy : Wd ys) (hlx : xs.length ≤ 1099511627776) (hly : ys.length ≤ 1099511627776) : Ret Tryz.prog GEs 112 [ws xs, ws ys] (i64 (cmpI (val xs) (val ys))) := by
  refine RetN_start Tryz.func112 (by kernel_rfl) rfl fun Q hQ hQ2 => ?_; rw [Tryz.ntmps112]; simp only [u, i64, Nat.reduceSub, Nat.reduceAdd, bm]
  (refine gO ?_)
  (refine gC ?_)
  (refine cR (ret_view xs hx hlx) ?_; refine sX ?_; try refine aA ?_)
  (refine cR (ret_view ys hy hly) ?_; refine sX ?_; try refine aA ?_)
  have h1 := length_words_val_le hx
  have h2 := length_words_val_le hy
  by_cases hlt : (words (val xs)).length < (words (val ys)).length
  · (refine gO ?_)
    (refine FinQ hQ (congrArg Array.toList Tryz.results112) _ _ ?_); simp (disch := omega) only [u, i64, ax, if_true, forall_const, reduceCtorEq, implies_true, tvs, bf, cmpI_lt (lt_of_len hlt)]
  by_cases hgt : (words (val ys)).length < (words (val xs)).length
  · (refine gO ?_)
    (refine FinQ hQ (congrArg Array.toList Tryz.results112) _ _ ?_); simp (disch := omega) only [u, i64, ax, if_true, forall_const, reduceCtorEq, implies_true, tvs, bf, cmpI_gt (lt_of_len hgt)]
  have heq : (words (val xs)).length = (words (val ys)).length := by omega
  (refine gO ?_)
  refine AWp_loop (fun n : Nat => mk 45 [(0, nat (val xs)), (1, nat (val ys)), (5, i64 ((n : Int) - 1))] []) (fun n => n ≤ (words (val xs)).length ∧ val ((words (val xs)).drop n) = val ((words (val ys)).drop n)) (fun n => n) (words (val xs)).length ?_ ⟨Nat.le_refl _, ?_⟩ fun n hn => ?_
  · simp only [u, i64, Nat.reduceSub, Nat.reduceAdd, bm]
  · rw [List.drop_of_length_le (Nat.le_refl _), List.drop_of_length_le (by omega)]
  simp only [u, i64, Nat.reduceSub, Nat.reduceAdd, bm]
  by_cases h : 1 ≤ n
  · by_cases hl : (words (val xs)).getD (n - 1) 0 < (words (val ys)).getD (n - 1) 0
    · have hlt := lt_of_top _ _ (Wd_words (val xs)) (n - 1) heq (by omega) (by rw [Nat.sub_add_cancel h]; exact hn.2) hl
      rw [val_words, val_words] at hlt
      (refine gO ?_)
      (refine FinQ hQ (congrArg Array.toList Tryz.results112) _ _ ?_); simp (disch := omega) only [u, i64, ax, if_true, forall_const, reduceCtorEq, implies_true, tvs, bf, cmpI_lt hlt]
    by_cases hg : (words (val ys)).getD (n - 1) 0 < (words (val xs)).getD (n - 1) 0
    · have hgt := lt_of_top _ _ (Wd_words (val ys)) (n - 1) heq.symm (by omega) (by rw [Nat.sub_add_cancel h]; exact hn.2.symm) hg
      rw [val_words, val_words] at hgt
      (refine gO ?_)
      (refine FinQ hQ (congrArg Array.toList Tryz.results112) _ _ ?_); simp (disch := omega) only [u, i64, ax, if_true, forall_const, reduceCtorEq, implies_true, tvs, bf, cmpI_gt hgt]
    have he : (words (val xs)).getD (n - 1) 0 = (words (val ys)).getD (n - 1) 0 := by omega
    (refine gO ?_)
    refine ⟨n - 1, ?_, ⟨by omega, ?_⟩, by omega⟩
    · simp only [u, i64, Nat.reduceSub, Nat.reduceAdd, bm]
    · rw [val_drop (words (val xs)) (n - 1) (by omega), val_drop (words (val ys)) (n - 1) (by omega), he, Nat.sub_add_cancel h, hn.2]
  · have hn0 : n = 0 := by omega
    subst hn0
    have hv := hn.2
    simp only [List.drop_zero, val_words] at hv
    (refine gO ?_)
    (refine FinQ hQ (congrArg Array.toList Tryz.results112) _ _ ?_); simp (disch := omega) only [u, i64, ax, if_true, forall_const, reduceCtorEq, implies_true, tvs, bf, cmpI_eq hv]
end Go.Proofs
set_option linter.unusedVariables false
set_option linter.unusedSimpArgs false
namespace Go.Proofs
open Go.Ax
theorem bitLen_bl (x : Nat) (h : x < 18446744073709551616) : Lib.bitLen x = bl x := by
  by_cases h0 : x = 0
  · subst h0; decide
  · have h1 := Nat.log2_self_le h0
    have h2 : x < 2 ^ (x.log2 + 1) := Nat.lt_log2_self
    rw [Lib.bitLen_shift x.log2 x h1 h]
    have : x / 2 ^ x.log2 = 1 := by
      apply Nat.div_eq_of_lt_le
      · simpa using h1
      · rw [Nat.pow_succ] at h2; omega
    rw [this]
    unfold bl
    rw [if_neg h0, show Lib.bitLen 1 = 1 by decide, Nat.add_comm]
theorem Bpow (k : Nat) : 18446744073709551616 ^ k = 2 ^ (64 * k) := by rw [show 18446744073709551616 = 2 ^ 64 by decide, ← Nat.pow_mul]
theorem bl_words (v : Nat) (h : v ≠ 0) : bl v = 64 * ((words v).length - 1) + bl ((words v).getD ((words v).length - 1) 0) ∧ (words v).getD ((words v).length - 1) 0 < 18446744073709551616 := by
  have hne : words v ≠ [] := fun h0 => h (words_eq_nil.1 h0)
  have hl : 1 ≤ (words v).length := by
    rcases Nat.eq_zero_or_pos (words v).length with h0 | h0
    · exact absurd (List.eq_nil_of_length_eq_zero h0) hne
    · exact h0
  have hlast : (words v).getD ((words v).length - 1) 0 ≠ 0 := by
    have := Canon_words v hne
    rw [List.getLast_eq_getElem] at this
    rw [List.getD_eq_getElem?_getD, List.getElem?_eq_getElem (by omega)]
    exact this
  have hB := (Wd_words v).getD ((words v).length - 1)
  refine ⟨?_, hB⟩
  have hv := val_split (words v) ((words v).length - 1) (by omega)
  rw [val_drop _ _ (by omega), Nat.sub_add_cancel hl, List.drop_of_length_le (Nat.le_refl _), val_words] at hv
  have ht := val_lt ((Wd_words v).take ((words v).length - 1))
  rw [List.length_take, Nat.min_eq_left (by omega)] at ht
  generalize (words v).getD ((words v).length - 1) 0 = t at *
  generalize (words v).length - 1 = L at *
  generalize val ((words v).take L) = lo at *
  simp only [val, Nat.mul_zero, Nat.add_zero] at hv
  obtain ⟨h1, h2, h3⟩ := bl_spec hlast
  rw [Bpow] at hv ht
  have e := bl_eq (n := v) (k := 64 * L + (bl t - 1)) (by rw [hv, Nat.pow_add]; exact Nat.le_trans (Nat.mul_le_mul_left _ h1) (by omega)) (by
    rw [hv, show 64 * L + (bl t - 1) + 1 = 64 * L + bl t by omega, Nat.pow_add]
    have : 2 ^ (64 * L) * t + 2 ^ (64 * L) ≤ 2 ^ (64 * L) * 2 ^ bl t := by rw [← Nat.mul_succ]; exact Nat.mul_le_mul_left _ h2
    omega)
  omega
theorem val_take_succ (xs : List Nat) (n : Nat) (h : n < xs.length) : val (xs.take (n + 1)) = val (xs.take n) + 18446744073709551616 ^ n * xs.getD n 0 := by
  rw [List.take_add_one, val_append, List.length_take, Nat.min_eq_left (by omega), List.getElem?_eq_getElem h, List.getD_eq_getElem?_getD, List.getElem?_eq_getElem h]
  simp [val]
theorem ctz_word (x : Nat) (h0 : x ≠ 0) (h : x < 18446744073709551616) : Lib.ctz 64 x = tz x ∧ tz x < 64 := by
  obtain ⟨m, h1, h2⟩ := Lib.ctzFrom_spec 64 x (by omega) h
  have h3 : tz x = Lib.ctzFrom 64 x := by rw [h1, tz_of, ← h1]
  unfold Lib.ctz
  rw [if_neg h0, h3]
  exact ⟨rfl, h2⟩
theorem tz_val (xs : List Nat) (n : Nat) (hn : n < xs.length) (h0 : val (xs.take n) = 0) (hx : xs.getD n 0 ≠ 0) (hk : tz (xs.getD n 0) < 64) : tz (val xs) = 64 * n + tz (xs.getD n 0) := by
  rw [val_split xs n (by omega), h0, Nat.zero_add, val_drop xs n hn]
  obtain ⟨m, h1⟩ := tz_spec hx
  generalize xs.getD n 0 = x at *
  generalize val (xs.drop (n + 1)) = r
  · have : x + 18446744073709551616 * r = 2 ^ tz x * (2 * (m + 2 ^ (63 - tz x) * r) + 1) := by
      conv => lhs; rw [h1, show 18446744073709551616 = 2 ^ tz x * (2 * 2 ^ (63 - tz x)) by rw [← Nat.pow_succ', ← Nat.pow_add, show tz x + (63 - tz x).succ = 64 by omega]]
      rw [Nat.mul_assoc, ← Nat.mul_add, Nat.mul_assoc 2, Nat.mul_add 2]
      congr 1; omega
    rw [this, Bpow, ← Nat.mul_assoc, ← Nat.pow_add, tz_of]
theorem ret_Len64b (x : Nat) (hx : x < 18446744073709551616) : Ret Tryz.prog GEs 189 [u x] (i64 (bl x)) := bitLen_bl x hx ▸ ret_Len64 x hx
theorem ret_TrailingZeros64b (x : Nat) (hx : x < 18446744073709551616) (h0 : x ≠ 0) : Ret Tryz.prog GEs 240 [u x] (i64 (tz x)) := (ctz_word x h0 hx).1 ▸ ret_TrailingZeros64 x hx
set_option maxRecDepth 100000 in
theorem ret_Len (xs : List Nat) (hx : Wd xs) (hl : xs.length ≤ 1099511627776) : Ret Tryz.prog GEs 104 [ws xs] (i64 (bl (val xs))) := by
  refine RetN_start Tryz.func104 (by kernel_rfl) rfl fun Q hQ hQ2 => ?_; rw [Tryz.ntmps104]; simp only [u, i64, Nat.reduceSub, Nat.reduceAdd, bm]
  (refine gO ?_)
  (refine gC ?_)
  (refine cR (ret_view xs hx hl) ?_; refine sX ?_; try refine aA ?_)
  have h1 := length_words_val_le hx
  by_cases h0 : val xs = 0
  · have hw : (words (val xs)).length = 0 := by rw [h0, words_zero]; rfl
    (refine gO ?_)
    (refine FinQ hQ (congrArg Array.toList Tryz.results104) _ _ ?_); simp (disch := omega) only [u, i64, ax, if_true, forall_const, reduceCtorEq, implies_true, tvs, bf, h0]
    rfl
  · obtain ⟨hb, ht⟩ := bl_words _ h0
    have hbl := bl_le (n := (words (val xs)).getD ((words (val xs)).length - 1) 0) (k := 64) ht
    have hne : 1 ≤ (words (val xs)).length := by
      rcases Nat.eq_zero_or_pos (words (val xs)).length with h | h
      · exact absurd (words_eq_nil.1 (List.eq_nil_of_length_eq_zero h)) h0
      · exact h
    (refine gO ?_)
    (refine gC ?_)
    (refine callK_mem (ret_Len64b _ ht) rfl (by (simp (disch := omega) only [if_true, forall_const, reduceCtorEq, implies_true, bz]) <;> rfl) ?_; refine sX ?_; try refine aA ?_)
    (refine gO ?_)
    (refine FinQ hQ (congrArg Array.toList Tryz.results104) _ _ ?_); simp (disch := omega) only [u, i64, ax, if_true, forall_const, reduceCtorEq, implies_true, tvs, bf]
    exact congrArg i64 (by omega)
set_option maxRecDepth 100000 in
theorem ret_Trailing (xs : List Nat) (hx : Wd xs) (hl : xs.length ≤ 1099511627776) : Ret Tryz.prog GEs 193 [ws xs] (i64 (tz (val xs))) := by
  refine RetN_start Tryz.func193 (by kernel_rfl) rfl fun Q hQ hQ2 => ?_; rw [Tryz.ntmps193]; simp only [u, i64, Nat.reduceSub, Nat.reduceAdd, bm]
  (refine gO ?_)
  refine AWp_loop (fun n : Nat => mk 20 [(0, ws xs), (5, ws xs), (6, i64 xs.length), (7, i64 n)] []) (fun n => n ≤ xs.length ∧ val (xs.take n) = 0) (fun n => xs.length - n) 0 ?_ ⟨Nat.zero_le _, rfl⟩ fun n hn => ?_
  · simp only [u, i64, Nat.reduceSub, Nat.reduceAdd, bm]
  simp only [u, i64, Nat.reduceSub, Nat.reduceAdd, bm]
  by_cases h : n < xs.length
  · by_cases h0 : xs.getD n 0 = 0
    · (refine gO ?_)
      refine ⟨n + 1, ?_, ⟨h, ?_⟩, by omega⟩
      · simp only [u, i64, Nat.reduceSub, Nat.reduceAdd, bm]
      · rw [val_take_succ xs n h, hn.2, h0]; rfl
    · have ht := ctz_word _ h0 (hx.getD n)
      (refine gO ?_)
      (refine gC ?_)
      (refine callK_mem (ret_TrailingZeros64b _ (hx.getD n) h0) rfl (by (simp (disch := omega) only [if_true, forall_const, reduceCtorEq, implies_true, bz]) <;> rfl) ?_; refine sX ?_; try refine aA ?_)
      have e := tz_val xs n h hn.2 h0 ht.2
      (refine gO ?_)
      (refine FinQ hQ (congrArg Array.toList Tryz.results193) _ _ ?_); simp (disch := omega) only [u, i64, ax, if_true, forall_const, reduceCtorEq, implies_true, tvs, bf]
      exact congrArg i64 (by omega)
  · have hn0 : n = xs.length := by omega
    have hv := hn.2
    rw [hn0, List.take_length] at hv
    (refine gO ?_)
    (refine FinQ hQ (congrArg Array.toList Tryz.results193) _ _ ?_); simp (disch := omega) only [u, i64, ax, if_true, forall_const, reduceCtorEq, implies_true, tvs, bf, hv]
    rfl
end Go.Proofs
set_option linter.unusedVariables false
set_option linter.unusedSimpArgs false
namespace Go.Proofs
open Go.Ax
theorem val_set_take (os : List Nat) (n v : Nat) (h : n < os.length) : val ((os.set n v).take (n + 1)) = val (os.take n) + 18446744073709551616 ^ n * v := by
  rw [val_take_succ _ n (by simpa using h), List.getD_eq_getElem?_getD, List.getElem?_set_self h, List.take_set_of_le (Nat.le_refl n)]
  rfl
theorem val_take_over (xs : List Nat) (n : Nat) (h : xs.length ≤ n) : val (xs.take (n + 1)) = val (xs.take n) := by
  rw [List.take_of_length_le (by omega), List.take_of_length_le h]
theorem getD_over (xs : List Nat) (n : Nat) (h : xs.length ≤ n) : xs.getD n 0 = 0 := by
  rw [List.getD_eq_getElem?_getD, List.getElem?_eq_none h]; rfl
theorem val_take_getD (xs : List Nat) (n : Nat) : val (xs.take (n + 1)) = val (xs.take n) + 18446744073709551616 ^ n * xs.getD n 0 := by
  rcases Nat.lt_or_ge n xs.length with h | h
  · exact val_take_succ xs n h
  · rw [val_take_over xs n h, getD_over xs n h]; rfl
theorem add_step (p a b s c x y : Nat) (h : s + c * p = a + b) : s + p * ((x + y + c) % 18446744073709551616) + (x + y + c) / 18446744073709551616 * (p * 18446744073709551616) = a + p * x + (b + p * y) := by
  have e : p * ((x + y + c) % 18446744073709551616) + (x + y + c) / 18446744073709551616 * (p * 18446744073709551616) = p * (x + y + c) := by
    rw [Nat.mul_comm ((x + y + c) / 18446744073709551616), Nat.mul_assoc, ← Nat.mul_add, Nat.mod_add_div]
  rw [Nat.add_assoc, e, Nat.mul_add, Nat.mul_add, Nat.mul_comm p c]
  omega
theorem retx_Add64b (x y c : Nat) (hx : x < 18446744073709551616) (hy : y < 18446744073709551616) (hc : c ≤ 1) : RetX Tryz.prog 192 [u x, u y, u c] (.tup [u ((x + y + c) % 18446744073709551616), u ((x + y + c) / 18446744073709551616)]) := retx_Add64 x y c hc
set_option maxRecDepth 100000 in
theorem ret_Add (xs ys : List Nat) (hx : Wd xs) (hy : Wd ys) (hlx : xs.length ≤ 1099511627775) (hly : ys.length ≤ 1099511627775) : Ret Tryz.prog GEs 109 [ws xs, ws ys] (nat (val xs + val ys)) := by
  refine RetN_start Tryz.func109 (by kernel_rfl) rfl fun Q hQ hQ2 => ?_; rw [Tryz.ntmps109]; simp only [u, i64, Nat.reduceSub, Nat.reduceAdd, bm]
  rcases Nat.lt_or_ge xs.length ys.length with h | h
  · (refine gO ?_)
    have hX : Wd ys := by assumption
    have hY : Wd xs := by assumption
    refine AWp_loop (fun i : Nat × List Nat × Nat => mk 54 [(0, ws ys), (1, ws xs), (5, .own 0 0 0 (ys.length + 1) 1), (6, u i.2.2), (21, i64 ys.length), (22, i64 i.1)] [⟨0, true, us i.2.1⟩])
      (fun i => i.1 ≤ ys.length ∧ i.2.1.length = ys.length + 1 ∧ Wd i.2.1 ∧ i.2.2 ≤ 1 ∧ val (i.2.1.take i.1) + i.2.2 * 18446744073709551616 ^ i.1 = val (ys.take i.1) + val (xs.take i.1)) (fun i => ys.length - i.1) (0, List.replicate (ys.length + 1) 0, 0) ?_ ⟨Nat.zero_le _, by simp, Wd_replicate _ (by decide), by simp, by simp [val]⟩ ?_
    · simp only [u, i64, Nat.reduceSub, Nat.reduceAdd, bm]
    rintro ⟨n, os, c⟩ ⟨h1, h2, h3, h4, h5⟩
    simp only at h1 h2 h3 h4 h5
    simp only [u, i64, Nat.reduceSub, Nat.reduceAdd, bm]
    by_cases hn : n < ys.length
    · have e1 := val_take_getD ys n
      have e2 := val_take_getD xs n
      have hxb := hX.getD n
      have hyb := hY.getD n
      have hs := val_set_take os n ((ys.getD n 0 + xs.getD n 0 + c) % 18446744073709551616) (by omega)
      have hc1 : (ys.getD n 0 + xs.getD n 0 + c) / 18446744073709551616 ≤ 1 := by omega
      by_cases hyn : n < xs.length
      · (refine gO ?_)
        (refine gC ?_)
        (refine callK_ext (retx_Add64b _ _ _ hxb hyb h4) rfl (by (simp (disch := omega) only [if_true, forall_const, reduceCtorEq, implies_true, bz]) <;> rfl) ?_; refine sX ?_; try refine aA ?_)
        (refine gO ?_)
        refine ⟨(n + 1, os.set n ((ys.getD n 0 + xs.getD n 0 + c) % 18446744073709551616), (ys.getD n 0 + xs.getD n 0 + c) / 18446744073709551616), ?_, ⟨hn, by simpa using h2, h3.set n (Nat.mod_lt _ (by decide)), hc1, ?_⟩, by simp only; omega⟩
        · simp only [u, i64, Nat.reduceSub, Nat.reduceAdd, bm]
        · simp only [hs, e1, e2, Nat.pow_succ]; exact add_step _ _ _ _ _ _ _ h5
      · have hy0 := getD_over xs n (by omega)
        rw [hy0] at hs hc1 e2
        have e3 := add_step _ _ _ _ c (ys.getD n 0) 0 h5
        simp only [Nat.add_zero] at hs hc1
        (refine gO ?_)
        (refine gC ?_)
        (refine callK_ext (retx_Add64b _ 0 _ hxb (by decide) h4) rfl (by (simp (disch := omega) only [if_true, forall_const, reduceCtorEq, implies_true, bz]) <;> rfl) ?_; refine sX ?_; try refine aA ?_)
        (refine gO ?_)
        refine ⟨(n + 1, os.set n ((ys.getD n 0 + c) % 18446744073709551616), (ys.getD n 0 + c) / 18446744073709551616), ?_, ⟨hn, by simpa using h2, h3.set n (Nat.mod_lt _ (by decide)), hc1, ?_⟩, by simp only; omega⟩
        · simp only [u, i64, Nat.reduceSub, Nat.reduceAdd, bm]
        · simp only [hs, e1, e2, Nat.pow_succ]; simpa only [Nat.add_zero] using e3
    · have hn0 : n = ys.length := by omega
      subst hn0
      have hs := val_set_take os ys.length c (by omega)
      rw [List.take_of_length_le (by simp; omega)] at hs
      have hv : val (os.set ys.length c) = val ys + val xs := by
        rw [hs, Nat.mul_comm, h5, List.take_length, List.take_of_length_le (by omega)]
      (refine gO ?_)
      have hl2 : (os.set ys.length c).length = ys.length + 1 := by simp; omega
      refine G_cool0 ?_
      (refine gC ?_)
      (refine cR (ret_Trim (os.set ys.length c) (h3.set ys.length (v := c) (by omega)) (by simp; omega)) ?_; refine sX ?_; try refine aA ?_)
      rw [hv]
      (refine gO ?_)
      (refine FinQ hQ (congrArg Array.toList Tryz.results109) _ _ ?_); simp (disch := omega) only [u, i64, ax, if_true, forall_const, reduceCtorEq, implies_true, tvs, bf]
      first | done | rw [Nat.add_comm]
  · (refine gO ?_)
    have hX : Wd xs := by assumption
    have hY : Wd ys := by assumption
    refine AWp_loop (fun i : Nat × List Nat × Nat => mk 54 [(0, ws xs), (1, ws ys), (5, .own 0 0 0 (xs.length + 1) 1), (6, u i.2.2), (21, i64 xs.length), (22, i64 i.1)] [⟨0, true, us i.2.1⟩])
      (fun i => i.1 ≤ xs.length ∧ i.2.1.length = xs.length + 1 ∧ Wd i.2.1 ∧ i.2.2 ≤ 1 ∧ val (i.2.1.take i.1) + i.2.2 * 18446744073709551616 ^ i.1 = val (xs.take i.1) + val (ys.take i.1)) (fun i => xs.length - i.1) (0, List.replicate (xs.length + 1) 0, 0) ?_ ⟨Nat.zero_le _, by simp, Wd_replicate _ (by decide), by simp, by simp [val]⟩ ?_
    · simp only [u, i64, Nat.reduceSub, Nat.reduceAdd, bm]
    rintro ⟨n, os, c⟩ ⟨h1, h2, h3, h4, h5⟩
    simp only at h1 h2 h3 h4 h5
    simp only [u, i64, Nat.reduceSub, Nat.reduceAdd, bm]
    by_cases hn : n < xs.length
    · have e1 := val_take_getD xs n
      have e2 := val_take_getD ys n
      have hxb := hX.getD n
      have hyb := hY.getD n
      have hs := val_set_take os n ((xs.getD n 0 + ys.getD n 0 + c) % 18446744073709551616) (by omega)
      have hc1 : (xs.getD n 0 + ys.getD n 0 + c) / 18446744073709551616 ≤ 1 := by omega
      by_cases hyn : n < ys.length
      · (refine gO ?_)
        (refine gC ?_)
        (refine callK_ext (retx_Add64b _ _ _ hxb hyb h4) rfl (by (simp (disch := omega) only [if_true, forall_const, reduceCtorEq, implies_true, bz]) <;> rfl) ?_; refine sX ?_; try refine aA ?_)
        (refine gO ?_)
        refine ⟨(n + 1, os.set n ((xs.getD n 0 + ys.getD n 0 + c) % 18446744073709551616), (xs.getD n 0 + ys.getD n 0 + c) / 18446744073709551616), ?_, ⟨hn, by simpa using h2, h3.set n (Nat.mod_lt _ (by decide)), hc1, ?_⟩, by simp only; omega⟩
        · simp only [u, i64, Nat.reduceSub, Nat.reduceAdd, bm]
        · simp only [hs, e1, e2, Nat.pow_succ]; exact add_step _ _ _ _ _ _ _ h5
      · have hy0 := getD_over ys n (by omega)
        rw [hy0] at hs hc1 e2
        have e3 := add_step _ _ _ _ c (xs.getD n 0) 0 h5
        simp only [Nat.add_zero] at hs hc1
        (refine gO ?_)
        (refine gC ?_)
        (refine callK_ext (retx_Add64b _ 0 _ hxb (by decide) h4) rfl (by (simp (disch := omega) only [if_true, forall_const, reduceCtorEq, implies_true, bz]) <;> rfl) ?_; refine sX ?_; try refine aA ?_)
        (refine gO ?_)
        refine ⟨(n + 1, os.set n ((xs.getD n 0 + c) % 18446744073709551616), (xs.getD n 0 + c) / 18446744073709551616), ?_, ⟨hn, by simpa using h2, h3.set n (Nat.mod_lt _ (by decide)), hc1, ?_⟩, by simp only; omega⟩
        · simp only [u, i64, Nat.reduceSub, Nat.reduceAdd, bm]
        · simp only [hs, e1, e2, Nat.pow_succ]; simpa only [Nat.add_zero] using e3
    · have hn0 : n = xs.length := by omega
      subst hn0
      have hs := val_set_take os xs.length c (by omega)
      rw [List.take_of_length_le (by simp; omega)] at hs
      have hv : val (os.set xs.length c) = val xs + val ys := by
        rw [hs, Nat.mul_comm, h5, List.take_length, List.take_of_length_le (by omega)]
      (refine gO ?_)
      have hl2 : (os.set xs.length c).length = xs.length + 1 := by simp; omega
      refine G_cool0 ?_
      (refine gC ?_)
      (refine cR (ret_Trim (os.set xs.length c) (h3.set xs.length (v := c) (by omega)) (by simp; omega)) ?_; refine sX ?_; try refine aA ?_)
      rw [hv]
      (refine gO ?_)
      (refine FinQ hQ (congrArg Array.toList Tryz.results109) _ _ ?_); simp (disch := omega) only [u, i64, ax, if_true, forall_const, reduceCtorEq, implies_true, tvs, bf]
      first | done | rw [Nat.add_comm]
theorem sub_step (p a b s c x y : Nat) (hc : c ≤ 1) (hx : x < 18446744073709551616) (hy : y < 18446744073709551616) (h : s + b = a + c * p) : s + p * ((x + 18446744073709551616 - y - c) % 18446744073709551616) + (b + p * y) = a + p * x + (if x < y + c then 1 else 0) * (p * 18446744073709551616) := by
  have e : (x + 18446744073709551616 - y - c) % 18446744073709551616 + y + c = x + (if x < y + c then 1 else 0) * 18446744073709551616 := by split <;> omega
  have e2 : p * ((x + 18446744073709551616 - y - c) % 18446744073709551616) + p * y + p * c = p * x + (if x < y + c then 1 else 0) * (p * 18446744073709551616) := by
    rw [← Nat.mul_add, ← Nat.mul_add, e, Nat.mul_add, Nat.mul_left_comm p]
  rw [Nat.mul_comm c p] at h
  omega
theorem ite_le1 (c : Prop) [Decidable c] : (if c then 1 else 0) ≤ 1 := by split <;> omega
set_option maxRecDepth 100000 in
theorem ret_Sub (xs ys : List Nat) (hx : Wd xs) (hy : Wd ys) (hlx : xs.length ≤ 1099511627775) (hly : ys.length ≤ 1099511627775) (hle : val ys ≤ val xs) : Ret Tryz.prog GEs 107 [ws xs, ws ys] (nat (val xs - val ys)) := by
  refine RetN_start Tryz.func107 (by kernel_rfl) rfl fun Q hQ hQ2 => ?_; rw [Tryz.ntmps107]; simp only [u, i64, Nat.reduceSub, Nat.reduceAdd, bm]
  (refine gO ?_)
  (refine gC ?_)
  (refine cR (ret_view xs hx (by omega)) ?_; refine sX ?_; try refine aA ?_)
  (refine cR (ret_view ys hy (by omega)) ?_; refine sX ?_; try refine aA ?_)
  have hX := length_words_val_le hx
  have hm := length_mono hle
  have hWx := Wd_words (val xs)
  have hWy := Wd_words (val ys)
  have hvx := val_words (val xs)
  have hvy := val_words (val ys)
  simp only [nat]
  generalize words (val xs) = X at *
  generalize words (val ys) = Y at *
  (refine gO ?_)
  refine AWp_loop (fun i : Nat × List Nat × Nat => mk 45 [(0, ws X), (1, ws Y), (5, .own 0 0 0 X.length 1), (6, u i.2.2), (17, i64 X.length), (18, i64 i.1)] [⟨0, true, us i.2.1⟩])
      (fun i => i.1 ≤ X.length ∧ i.2.1.length = X.length ∧ Wd i.2.1 ∧ i.2.2 ≤ 1 ∧ val (i.2.1.take i.1) + val (Y.take i.1) = val (X.take i.1) + i.2.2 * 18446744073709551616 ^ i.1) (fun i => X.length - i.1) (0, List.replicate X.length 0, 0) ?_ ⟨Nat.zero_le _, by simp, Wd_replicate _ (by decide), by simp, by simp [val]⟩ ?_
  · simp only [u, i64, Nat.reduceSub, Nat.reduceAdd, bm]
  rintro ⟨n, os, c⟩ ⟨h1, h2, h3, h4, h5⟩
  simp only at h1 h2 h3 h4 h5
  simp only [u, i64, Nat.reduceSub, Nat.reduceAdd, bm]
  by_cases hn : n < X.length
  · have e1 := val_take_getD X n
    have e2 := val_take_getD Y n
    have hxb := hWx.getD n
    have hyb := hWy.getD n
    have e3 := sub_step _ _ _ _ c (X.getD n 0) (Y.getD n 0) h4 hxb hyb h5
    have hs := val_set_take os n ((X.getD n 0 + 18446744073709551616 - Y.getD n 0 - c) % 18446744073709551616) (by omega)
    by_cases hyn : n < Y.length
    · (refine gO ?_)
      (refine gC ?_)
      (refine callK_ext (retx_Sub64 _ _ _ h4) rfl (by (simp (disch := omega) only [if_true, forall_const, reduceCtorEq, implies_true, bz]) <;> rfl) ?_; refine sX ?_; try refine aA ?_)
      (refine gO ?_)
      refine ⟨(n + 1, os.set n ((X.getD n 0 + 18446744073709551616 - Y.getD n 0 - c) % 18446744073709551616), if X.getD n 0 < Y.getD n 0 + c then 1 else 0), ?_, ⟨hn, by simpa using h2, h3.set n (Nat.mod_lt _ (by decide)), ite_le1 _, ?_⟩, by simp only; omega⟩
      · simp only [u, i64, Nat.reduceSub, Nat.reduceAdd, bm]
      · simp only [hs, e1, e2, Nat.pow_succ]; exact e3
    · have hy0 := getD_over Y n (by omega)
      rw [hy0] at hs e2 e3
      simp only [Nat.sub_zero, Nat.zero_add] at hs e3
      (refine gO ?_)
      (refine gC ?_)
      (refine callK_ext (retx_Sub64 _ 0 _ h4) rfl (by (simp (disch := omega) only [if_true, forall_const, reduceCtorEq, implies_true, bz]) <;> rfl) ?_; refine sX ?_; try refine aA ?_)
      (refine gO ?_)
      refine ⟨(n + 1, os.set n ((X.getD n 0 + 18446744073709551616 - c) % 18446744073709551616), if X.getD n 0 < c then 1 else 0), ?_, ⟨hn, by simpa using h2, h3.set n (Nat.mod_lt _ (by decide)), ite_le1 _, ?_⟩, by simp only; omega⟩
      · simp only [u, i64, Nat.reduceSub, Nat.reduceAdd, bm]
      · simp only [hs, e1, e2, Nat.pow_succ]; exact e3
  · have hn0 : n = X.length := by omega
    subst hn0
    rw [List.take_of_length_le (by omega), List.take_of_length_le (by omega), List.take_length, hvx, hvy] at h5
    have hlt := val_lt h3
    rw [h2] at hlt
    have hc0 : c = 0 := by
      rcases Nat.eq_zero_or_pos c with h | h
      · exact h
      · have : c = 1 := by omega
        subst this
        omega
    subst hc0
    have hv : val os = val xs - val ys := by omega
    (refine gO ?_)
    refine G_cool0 ?_
    (refine gC ?_)
    (refine cR (ret_Trim os h3 (by omega)) ?_; refine sX ?_; try refine aA ?_)
    rw [hv]
    (refine gO ?_)
    (refine FinQ hQ (congrArg Array.toList Tryz.results107) _ _ ?_); simp (disch := omega) only [u, i64, ax, if_true, forall_const, reduceCtorEq, implies_true, tvs, bf]
end Go.Proofs
set_option linter.unusedVariables false
set_option linter.unusedSimpArgs false
namespace Go.Proofs
open Go.Ax
theorem mulw (a b o c : Nat) (ha : a < 18446744073709551616) (hb : b < 18446744073709551616) (ho : o < 18446744073709551616) (hc : c < 18446744073709551616) :
    a * b / 18446744073709551616 + (a * b % 18446744073709551616 + o) / 18446744073709551616 + ((a * b % 18446744073709551616 + o) % 18446744073709551616 + c) / 18446744073709551616 < 18446744073709551616 ∧
    ((a * b % 18446744073709551616 + o) % 18446744073709551616 + c) % 18446744073709551616 + (a * b / 18446744073709551616 + (a * b % 18446744073709551616 + o) / 18446744073709551616 + ((a * b % 18446744073709551616 + o) % 18446744073709551616 + c) / 18446744073709551616) * 18446744073709551616 = a * b + o + c := by
  have h : a * b ≤ 18446744073709551615 * 18446744073709551615 := Nat.mul_le_mul (by omega) (by omega)
  generalize a * b = p at *
  omega
theorem drop_set_above (os : List Nat) (i v : Nat) : (os.set i v).drop (i + 1) = os.drop (i + 1) := by
  apply List.ext_getElem?
  intro k
  rw [List.getElem?_drop, List.getElem?_drop, List.getElem?_set_ne (by omega)]
theorem mul_step2 {s0 s c N M a y b v k o B : Nat} (h : s + c * (N * M) = s0 + N * (a * y)) (e : v + k * B = a * b + o + c) : s + N * M * v + k * (N * M * B) = s0 + N * M * o + N * (a * (y + M * b)) := by
  have e1 : N * M * v + k * (N * M * B) = N * M * (a * b + o + c) := by rw [← e, Nat.mul_add, Nat.mul_left_comm k]
  have e2 : N * (a * (y + M * b)) = N * (a * y) + N * M * (a * b) := by rw [Nat.mul_add a, Nat.mul_add N, Nat.mul_left_comm a M b, Nat.mul_assoc N M]
  rw [Nat.add_assoc, e1, e2, Nat.mul_add, Nat.mul_add, Nat.mul_comm (N * M) c]
  omega
set_option maxRecDepth 100000 in
theorem ret_Mul (xs ys : List Nat) (hx : Wd xs) (hy : Wd ys) (hlx : xs.length ≤ 549755813888) (hly : ys.length ≤ 549755813888) : Ret Tryz.prog GEs 118 [ws xs, ws ys] (nat (val xs * val ys)) := by
  refine RetN_start Tryz.func118 (by kernel_rfl) rfl fun Q hQ hQ2 => ?_; rw [Tryz.ntmps118]; simp only [u, i64, Nat.reduceSub, Nat.reduceAdd, bm]
  (refine gO ?_)
  (refine gC ?_)
  (refine cR (ret_view xs hx (by omega)) ?_; refine sX ?_; try refine aA ?_)
  (refine cR (ret_view ys hy (by omega)) ?_; refine sX ?_; try refine aA ?_)
  have hX := length_words_val_le hx
  have hY := length_words_val_le hy
  have hWx := Wd_words (val xs)
  have hWy := Wd_words (val ys)
  have hvx := val_words (val xs)
  have hvy := val_words (val ys)
  simp only [nat]
  generalize words (val xs) = X at *
  generalize words (val ys) = Y at *
  by_cases hx0 : X.length = 0
  · (refine gO ?_)
    (refine FinQ hQ (congrArg Array.toList Tryz.results118) _ _ ?_); simp (disch := omega) only [u, i64, ax, if_true, forall_const, reduceCtorEq, implies_true, tvs, bf]
    have : X = [] := List.eq_nil_of_length_eq_zero hx0
    subst this
    rw [← hvx]; simp [val, nat, words_zero, us]
  by_cases hy0 : Y.length = 0
  · (refine gO ?_)
    (refine FinQ hQ (congrArg Array.toList Tryz.results118) _ _ ?_); simp (disch := omega) only [u, i64, ax, if_true, forall_const, reduceCtorEq, implies_true, tvs, bf]
    have : Y = [] := List.eq_nil_of_length_eq_zero hy0
    subst this
    rw [← hvy]; simp [val, nat, words_zero, us]
  (refine gO ?_)
  refine AWp_loop (fun i : Nat × List Nat => mk 93 [(1, ws Y), (5, .own 0 0 0 (X.length + Y.length) 1), (32, ws X), (33, i64 X.length), (34, i64 i.1)] [⟨0, true, us i.2⟩])
      (fun i => i.1 ≤ X.length ∧ i.2.length = X.length + Y.length ∧ Wd i.2 ∧ val (i.2.take (i.1 + Y.length)) = val (X.take i.1) * val Y) (fun i => X.length - i.1) (0, List.replicate (X.length + Y.length) 0) ?_ ⟨Nat.zero_le _, by simp, Wd_replicate _ (by decide), by simp [val, val_replicate_zero]⟩ ?_
  · simp only [u, i64, Nat.reduceSub, Nat.reduceAdd, bm]
  rintro ⟨n, os0⟩ ⟨h1, h2, h3, h4⟩
  simp only at h1 h2 h3 h4
  simp only [u, i64, Nat.reduceSub, Nat.reduceAdd, bm]
  by_cases hn : n < X.length
  · have ha := hWx.getD n
    have e1 := val_take_getD X n
    (refine gO ?_)
    refine AWp_loop (fun i : Nat × List Nat × Nat => mk 93 [(1, ws Y), (5, .own 0 0 0 (X.length + Y.length) 1), (6, i64 n), (7, u (X.getD n 0)), (8, u i.2.2), (32, ws X), (33, i64 X.length), (34, i64 n), (39, ws Y), (40, i64 Y.length), (41, i64 i.1)] [⟨0, true, us i.2.1⟩])
      (fun i => i.1 ≤ Y.length ∧ i.2.1.length = X.length + Y.length ∧ Wd i.2.1 ∧ i.2.2 < 18446744073709551616 ∧ i.2.1.drop (n + i.1) = os0.drop (n + i.1) ∧ val (i.2.1.take (n + i.1)) + i.2.2 * 18446744073709551616 ^ (n + i.1) = val (os0.take (n + i.1)) + 18446744073709551616 ^ n * (X.getD n 0 * val (Y.take i.1))) (fun i => Y.length - i.1) (0, os0, 0) ?_ ⟨Nat.zero_le _, h2, h3, by simp, rfl, by simp [val]⟩ ?_
    · simp only [u, i64, Nat.reduceSub, Nat.reduceAdd, bm]
    rintro ⟨m, os, c⟩ ⟨g1, g2, g3, g4, g5, g6⟩
    simp only at g1 g2 g3 g4 g5 g6
    simp only [u, i64, Nat.reduceSub, Nat.reduceAdd, bm]
    by_cases hm : m < Y.length
    · have hb := hWy.getD m
      have ho := g3.getD (n + m)
      obtain ⟨w1, w2⟩ := mulw _ _ _ c ha hb ho g4
      have hd : X.getD n 0 * Y.getD m 0 / 18446744073709551616 < 18446744073709551616 := by
        rw [Nat.div_lt_iff_lt_mul (by decide)]; exact Nat.mul_lt_mul'' ha hb
      (refine gO ?_)
      (refine gC ?_)
      (refine callK_mem (ret_Mul64 _ _ ha hb) rfl (by (simp (disch := omega) only [if_true, forall_const, reduceCtorEq, implies_true, bz]) <;> rfl) ?_; refine sX ?_; try refine aA ?_)
      (refine gO ?_)
      (refine gC ?_)
      (refine callK_ext (retx_Add64 _ _ 0 (by decide)) rfl (by (simp (disch := omega) only [if_true, forall_const, reduceCtorEq, implies_true, bz]) <;> rfl) ?_; refine sX ?_; try refine aA ?_)
      (refine gO ?_)
      (refine gC ?_)
      (refine callK_ext (retx_Add64 _ _ 0 (by decide)) rfl (by (simp (disch := omega) only [if_true, forall_const, reduceCtorEq, implies_true, bz]) <;> rfl) ?_; refine sX ?_; try refine aA ?_)
      (refine gO ?_)
      have e2 := val_take_getD Y m
      have e3 := val_take_getD os0 (n + m)
      have hoo : os.getD (n + m) 0 = os0.getD (n + m) 0 := by
        have := congrArg (fun l => l.getD 0 0) g5
        simpa [List.getD_eq_getElem?_getD, List.getElem?_drop] using this
      have hs := val_set_take os (n + m) (((X.getD n 0 * Y.getD m 0 % 18446744073709551616 + os.getD (n + m) 0) % 18446744073709551616 + c) % 18446744073709551616) (by omega)
      refine ⟨(m + 1, os.set (n + m) (((X.getD n 0 * Y.getD m 0 % 18446744073709551616 + os.getD (n + m) 0) % 18446744073709551616 + c) % 18446744073709551616), X.getD n 0 * Y.getD m 0 / 18446744073709551616 + (X.getD n 0 * Y.getD m 0 % 18446744073709551616 + os.getD (n + m) 0) / 18446744073709551616 + ((X.getD n 0 * Y.getD m 0 % 18446744073709551616 + os.getD (n + m) 0) % 18446744073709551616 + c) / 18446744073709551616), ?_, ⟨hm, by simpa using g2, g3.set _ (Nat.mod_lt _ (by decide)), w1, ?_, ?_⟩, by simp only; omega⟩
      · simp only [u, i64, Nat.reduceSub, Nat.reduceAdd, bm]
      · simp only
        rw [show n + (m + 1) = n + m + 1 by omega, drop_set_above, ← List.drop_drop, g5, List.drop_drop]
      · simp only
        rw [show n + (m + 1) = n + m + 1 by omega, hs, e2, e3, ← hoo]
        rw [Nat.pow_add] at g6
        rw [Nat.pow_succ, Nat.pow_add]
        exact mul_step2 g6 w2
    · have hm0 : m = Y.length := by omega
      subst hm0
      have hs := val_set_take os (n + Y.length) c (by omega)
      rw [List.take_length] at g6
      (refine gO ?_)
      refine ⟨(n + 1, os.set (n + Y.length) c), ?_, ⟨hn, by simpa using g2, g3.set _ g4, ?_⟩, by simp only; omega⟩
      · simp only [u, i64, Nat.reduceSub, Nat.reduceAdd, bm]
      · simp only
        rw [show n + 1 + Y.length = n + Y.length + 1 by omega, hs, Nat.mul_comm _ c, g6, h4, e1, Nat.add_mul, Nat.mul_assoc]
  · have hn0 : n = X.length := by omega
    subst hn0
    rw [List.take_length, List.take_of_length_le (by omega), hvx, hvy] at h4
    (refine gO ?_)
    refine G_cool0 ?_
    (refine gC ?_)
    (refine cR (ret_Trim os0 h3 (by omega)) ?_; refine sX ?_; try refine aA ?_)
    rw [h4]
    (refine gO ?_)
    (refine FinQ hQ (congrArg Array.toList Tryz.results118) _ _ ?_); simp (disch := omega) only [u, i64, ax, if_true, forall_const, reduceCtorEq, implies_true, tvs, bf]
end Go.Proofs
set_option linter.unusedVariables false
set_option linter.unusedSimpArgs false
namespace Go.Proofs
open Go.Ax
theorem getD_rep (n k : Nat) : (List.replicate n 0).getD k 0 = 0 := by
  rw [List.getD_eq_getElem?_getD, List.getElem?_replicate]; split <;> rfl
theorem getD_set_self (os : List Nat) (i v : Nat) (h : i < os.length) : (os.set i v).getD i 0 = v := by
  rw [List.getD_eq_getElem?_getD, List.getElem?_set_self h]; rfl
theorem getD_set_ne (os : List Nat) (i k v : Nat) (h : i ≠ k) : (os.set i v).getD k 0 = os.getD k 0 := by
  rw [List.getD_eq_getElem?_getD, List.getElem?_set_ne h, List.getD_eq_getElem?_getD]
theorem or_add (o w r : Nat) (hr : r < 64) (ho : o < 2 ^ r) (hw : w < 18446744073709551616) : o ||| (w * 2 ^ r % 18446744073709551616) = o + w * 2 ^ r % 18446744073709551616 := by
  have e : w * 2 ^ r % 18446744073709551616 = 2 ^ r * (w % 2 ^ (64 - r)) := by
    rw [show 18446744073709551616 = 2 ^ r * 2 ^ (64 - r) by rw [← Nat.pow_add, show r + (64 - r) = 64 by omega], Nat.mul_comm w, Nat.mul_mod_mul_left]
  rw [e, Nat.or_comm, ← Nat.two_pow_add_eq_or_of_lt ho, Nat.add_comm]
theorem shr_div (w r : Nat) (hr : r < 64) (h0 : 0 < r) : w / 2 ^ (64 - r) = w * 2 ^ r / 18446744073709551616 := by
  rw [show 18446744073709551616 = 2 ^ (64 - r) * 2 ^ r by rw [← Nat.pow_add, show 64 - r + r = 64 by omega], Nat.mul_div_mul_right _ _ (Nat.two_pow_pos r)]
theorem div_lt_two (w r : Nat) (hw : w < 18446744073709551616) : w * 2 ^ r / 18446744073709551616 < 2 ^ r := by
  rw [Nat.div_lt_iff_lt_mul (by decide), Nat.mul_comm]; exact Nat.mul_lt_mul_of_pos_left hw (Nat.two_pow_pos r)
theorem shl_step {v N P M o w t hi lo : Nat} (h : v + P * N * o = M) (e : lo + hi * 18446744073709551616 = w * t) : v + P * N * (o + lo) + P * N * 18446744073709551616 * hi = M + P * (w * (N * t)) := by
  rw [Nat.mul_add, ← Nat.add_assoc, h, Nat.add_assoc, Nat.mul_assoc (P * N), ← Nat.mul_add, Nat.mul_comm 18446744073709551616 hi, e, Nat.mul_assoc P N, Nat.mul_left_comm N w t]
set_option maxRecDepth 100000 in
theorem ret_Shl (xs : List Nat) (s : Nat) (hx : Wd xs) (hl : xs.length ≤ 549755813888) (hs : s ≤ 549755813888) : Ret Tryz.prog GEs 108 [ws xs, i64 s] (nat (val xs * 2 ^ s)) := by
  refine RetN_start Tryz.func108 (by kernel_rfl) rfl fun Q hQ hQ2 => ?_; rw [Tryz.ntmps108]; simp only [u, i64, Nat.reduceSub, Nat.reduceAdd, bm]
  (refine gO ?_)
  (refine gC ?_)
  (refine cR (ret_view xs hx (by omega)) ?_; refine sX ?_; try refine aA ?_)
  have hX := length_words_val_le hx
  have hW := Wd_words (val xs)
  have hv := val_words (val xs)
  simp only [nat]
  generalize words (val xs) = X at *
  by_cases h0 : X.length = 0
  · (refine gO ?_)
    (refine FinQ hQ (congrArg Array.toList Tryz.results108) _ _ ?_); simp (disch := omega) only [u, i64, ax, if_true, forall_const, reduceCtorEq, implies_true, tvs, bf]
    have : X = [] := List.eq_nil_of_length_eq_zero h0
    subst this
    rw [← hv]; simp [val, nat, words_zero, us]
  have hr : s % 64 < 64 := Nat.mod_lt _ (by decide)
  have hsq : s = 64 * (s / 64) + s % 64 := (Nat.div_add_mod s 64).symm
  (refine gO ?_)
  refine AWp_loop (fun i : Nat × List Nat => mk 58 [(0, ws X), (1, i64 s), (5, .own 0 0 0 (X.length + s / 64 + 1) 1), (20, ws X), (21, i64 X.length), (22, i64 i.1)] [⟨0, true, us i.2⟩])
      (fun i => i.1 ≤ X.length ∧ i.2.length = X.length + s / 64 + 1 ∧ Wd i.2 ∧ i.2.getD (i.1 + s / 64) 0 < 2 ^ (s % 64) ∧ (∀ k, i.1 + s / 64 < k → i.2.getD k 0 = 0) ∧ val (i.2.take (i.1 + s / 64)) + 18446744073709551616 ^ (i.1 + s / 64) * i.2.getD (i.1 + s / 64) 0 = val (X.take i.1) * 2 ^ s) (fun i => X.length - i.1) (0, List.replicate (X.length + s / 64 + 1) 0) ?_
      ⟨Nat.zero_le _, by simp, Wd_replicate _ (by decide), by rw [getD_rep]; exact Nat.two_pow_pos _, fun k _ => getD_rep _ _, by simp only [getD_rep]; simp [val, val_replicate_zero]⟩ ?_
  · simp only [u, i64, Nat.reduceSub, Nat.reduceAdd, bm]
  rintro ⟨n, os⟩ ⟨h1, h2, h3, h4, h5, h6⟩
  simp only at h1 h2 h3 h4 h5 h6
  simp only [u, i64, Nat.reduceSub, Nat.reduceAdd, bm]
  by_cases hn : n < X.length
  · have hw := hW.getD n
    have ho := h3.getD (n + s / 64)
    have e1 := val_take_getD X n
    have hlow : X.getD n 0 * 2 ^ (s % 64) % 18446744073709551616 < 18446744073709551616 := Nat.mod_lt _ (by decide)
    have hor := or_add _ _ _ hr h4 hw
    have horb : os.getD (n + s / 64) 0 ||| (X.getD n 0 * 2 ^ (s % 64) % 18446744073709551616) < 18446744073709551616 := Nat.or_lt_two_pow (n := 64) ho hlow
    have hhi := div_lt_two (X.getD n 0) (s % 64) hw
    have hmd : X.getD n 0 * 2 ^ (s % 64) % 18446744073709551616 + X.getD n 0 * 2 ^ (s % 64) / 18446744073709551616 * 18446744073709551616 = X.getD n 0 * 2 ^ (s % 64) := by omega
    have h6' := h6
    rw [Nat.pow_add] at h6'
    have hfin := shl_step h6' hmd
    have hs2 : 2 ^ s = 18446744073709551616 ^ (s / 64) * 2 ^ (s % 64) := by rw [Bpow, ← Nat.pow_add, ← hsq]
    have hB : 2 ^ (s % 64) ≤ 2 ^ 64 := Nat.pow_le_pow_right (by decide) (by omega)
    by_cases hr0 : 0 < s % 64
    · have hsd := shr_div (X.getD n 0) _ hr hr0
      (refine gO ?_)
      refine ⟨(n + 1, (os.set (n + s / 64) (os.getD (n + s / 64) 0 ||| (X.getD n 0 * 2 ^ (s % 64) % 18446744073709551616))).set (n + s / 64 + 1) (X.getD n 0 / 2 ^ (64 - s % 64))), ?_, ⟨hn, by simpa using h2, (h3.set _ horb).set _ (by rw [hsd]; exact Nat.lt_of_lt_of_le hhi hB), ?_, ?_, ?_⟩, by simp only; omega⟩
      · simp only [u, i64, Nat.reduceSub, Nat.reduceAdd, bm]
      · simp only
        rw [show n + 1 + s / 64 = n + s / 64 + 1 by omega, getD_set_self _ _ _ (by simp; omega), hsd]
        exact hhi
      · intro k hk
        simp only at hk ⊢
        rw [getD_set_ne _ _ _ _ (by omega), getD_set_ne _ _ _ _ (by omega)]
        exact h5 k (by omega)
      · simp only
        rw [show n + 1 + s / 64 = n + s / 64 + 1 by omega, getD_set_self _ _ _ (by simp; omega), List.take_set_of_le (by omega), val_set_take _ _ _ (by omega), hsd, hor, e1, Nat.add_mul, hs2, ← hs2, Nat.pow_succ, Nat.pow_add]
        rw [hfin, hs2, Nat.mul_assoc (18446744073709551616 ^ n)]
    · have hr1 : s % 64 = 0 := by omega
      (refine gO ?_)
      refine ⟨(n + 1, os.set (n + s / 64) (os.getD (n + s / 64) 0 ||| (X.getD n 0 * 2 ^ (s % 64) % 18446744073709551616))), ?_, ⟨hn, by simpa using h2, h3.set _ horb, ?_, ?_, ?_⟩, by simp only; omega⟩
      · simp only [u, i64, Nat.reduceSub, Nat.reduceAdd, bm]
      · simp only
        rw [getD_set_ne _ _ _ _ (by omega), h5 (n + 1 + s / 64) (by omega)]
        exact Nat.two_pow_pos _
      · intro k hk
        simp only at hk ⊢
        rw [getD_set_ne _ _ _ _ (by omega)]
        exact h5 k (by omega)
      · have hh0 : X.getD n 0 * 2 ^ (s % 64) / 18446744073709551616 = 0 := by rw [hr1, Nat.pow_zero, Nat.mul_one]; exact Nat.div_eq_of_lt hw
        rw [hh0, Nat.mul_zero, Nat.add_zero] at hfin
        simp only
        rw [getD_set_ne _ _ _ _ (by omega), h5 (n + 1 + s / 64) (by omega), Nat.mul_zero, Nat.add_zero, show n + 1 + s / 64 = n + s / 64 + 1 by omega, val_set_take _ _ _ (by omega), hor, e1, Nat.add_mul, Nat.pow_add]
        rw [hfin, hs2, Nat.mul_assoc (18446744073709551616 ^ n)]
  · have hn0 : n = X.length := by omega
    subst hn0
    have hall : val os = val xs * 2 ^ s := by
      have e := val_take_getD os (X.length + s / 64)
      rw [List.take_of_length_le (by omega), h6, List.take_length, hv] at e
      exact e
    (refine gO ?_)
    refine G_cool0 ?_
    (refine gC ?_)
    (refine cR (ret_Trim os h3 (by omega)) ?_; refine sX ?_; try refine aA ?_)
    rw [hall]
    (refine gO ?_)
    (refine FinQ hQ (congrArg Array.toList Tryz.results108) _ _ ?_); simp (disch := omega) only [u, i64, ax, if_true, forall_const, reduceCtorEq, implies_true, tvs, bf]
end Go.Proofs
set_option linter.unusedVariables false
set_option linter.unusedSimpArgs false
namespace Go.Proofs
open Go.Ax
theorem bit_val (xs : List Nat) (i : Nat) (hx : Wd xs) (h : i / 64 < xs.length) : val xs / 2 ^ i % 2 = xs.getD (i / 64) 0 / 2 ^ (i % 64) % 2 := by
  have hv := val_split xs (i / 64) (by omega)
  rw [val_drop xs _ h] at hv
  have hl := val_lt (hx.take (i / 64))
  rw [List.length_take, Nat.min_eq_left (by omega), Bpow] at hl
  rw [Bpow] at hv
  have hr : i % 64 < 64 := Nat.mod_lt _ (by decide)
  generalize xs.getD (i / 64) 0 = w at *
  generalize val (xs.drop (i / 64 + 1)) = hi at *
  generalize val (xs.take (i / 64)) = lo at *
  have e1 : val xs / 2 ^ (64 * (i / 64)) = w + 18446744073709551616 * hi := by
    rw [hv, Nat.add_mul_div_left _ _ (Nat.two_pow_pos _), Nat.div_eq_of_lt hl, Nat.zero_add]
  have e2 : val xs / 2 ^ i = (w + 18446744073709551616 * hi) / 2 ^ (i % 64) := by
    conv => lhs; rw [show i = 64 * (i / 64) + i % 64 from (Nat.div_add_mod i 64).symm]
    rw [Nat.pow_add, ← Nat.div_div_eq_div_mul, e1]
  rw [e2, show 18446744073709551616 * hi = 2 ^ (i % 64) * (2 ^ (64 - i % 64) * hi) by rw [← Nat.mul_assoc, ← Nat.pow_add, show i % 64 + (64 - i % 64) = 64 by omega], Nat.add_mul_div_left _ _ (Nat.two_pow_pos _)]
  obtain ⟨k, hk⟩ : ∃ k, 64 - i % 64 = k + 1 := ⟨63 - i % 64, by omega⟩
  rw [hk, Nat.pow_succ, Nat.mul_assoc, Nat.mul_left_comm, Nat.add_mul_mod_self_left]
theorem bit_over (xs : List Nat) (i : Nat) (hx : Wd xs) (h : xs.length ≤ i / 64) : val xs / 2 ^ i = 0 := by
  have hl := val_lt hx
  rw [Bpow] at hl
  exact Nat.div_eq_of_lt (Nat.lt_of_lt_of_le hl (Nat.pow_le_pow_right (by decide) (by omega)))
set_option maxRecDepth 100000 in
theorem ret_Bit (xs : List Nat) (i : Nat) (hx : Wd xs) (hl : xs.length ≤ 1099511627776) (hi : i ≤ 1099511627776) : Ret Tryz.prog GEs 105 [ws xs, i64 i] (.bool (decide (val xs / 2 ^ i % 2 = 1))) := by
  refine RetN_start Tryz.func105 (by kernel_rfl) rfl fun Q hQ hQ2 => ?_; rw [Tryz.ntmps105]; simp only [u, i64, Nat.reduceSub, Nat.reduceAdd, bm]
  have hr : i % 64 < 64 := Nat.mod_lt _ (by decide)
  by_cases h : i / 64 < xs.length
  · have hw := hx.getD (i / 64)
    have hw2 : xs.getD (i / 64) 0 / 2 ^ (i % 64) < 18446744073709551616 := Nat.lt_of_le_of_lt (Nat.div_le_self _ _) hw
    (refine gO ?_)
    (refine FinQ hQ (congrArg Array.toList Tryz.results105) _ _ ?_); simp (disch := omega) only [u, i64, ax, if_true, forall_const, reduceCtorEq, implies_true, tvs, bf, bit_val xs i hx h]
  · (refine gO ?_)
    (refine FinQ hQ (congrArg Array.toList Tryz.results105) _ _ ?_); simp (disch := omega) only [u, i64, ax, if_true, forall_const, reduceCtorEq, implies_true, tvs, bf, bit_over xs i hx (by omega)]
    rfl
theorem shr_step {r w w1 : Nat} (hr : r < 64) (h0 : 0 < r) (hw : w < 18446744073709551616) (hw1 : w1 < 18446744073709551616) : (w / 2 ^ r ||| w1 * 2 ^ (64 - r) % 18446744073709551616) * 2 ^ r + w % 2 ^ r = w + w1 % 2 ^ r * 18446744073709551616 := by
  have hlt : w / 2 ^ r < 2 ^ (64 - r) := by
    rw [Nat.div_lt_iff_lt_mul (Nat.two_pow_pos r), ← Nat.pow_add, show 64 - r + r = 64 by omega]; exact hw
  rw [or_add _ _ _ (by omega) hlt hw1]
  have e : w1 * 2 ^ (64 - r) % 18446744073709551616 = 2 ^ (64 - r) * (w1 % 2 ^ r) := by
    rw [show 18446744073709551616 = 2 ^ (64 - r) * 2 ^ r by rw [← Nat.pow_add, show 64 - r + r = 64 by omega], Nat.mul_comm w1, Nat.mul_mod_mul_left]
  have hB : 18446744073709551616 = 2 ^ (64 - r) * 2 ^ r := by rw [← Nat.pow_add, show 64 - r + r = 64 by omega]
  rw [e, Nat.add_mul]
  have e2 : 2 ^ (64 - r) * (w1 % 2 ^ r) * 2 ^ r = w1 % 2 ^ r * 18446744073709551616 := by
    rw [hB, Nat.mul_comm (2 ^ (64 - r)) (w1 % 2 ^ r), Nat.mul_assoc]
  have := Nat.div_add_mod w (2 ^ r)
  rw [Nat.mul_comm] at this
  omega
theorem shr_inv {V Y P R y0 yn yn1 o w B : Nat} (h : V * R + y0 = Y + yn * P) (e : o * R + yn = w + yn1 * B) : (V + P * o) * R + y0 = Y + P * w + yn1 * (P * B) := by
  have : P * (o * R) + P * yn = P * w + yn1 * (P * B) := by rw [← Nat.mul_add, e, Nat.mul_add, Nat.mul_left_comm P]
  rw [Nat.add_mul, Nat.mul_assoc P o R]
  rw [Nat.mul_comm yn P] at h
  omega
theorem div_of {a b q r : Nat} (hb : 0 < b) (h : q * b + r = a) (hr : r < b) : a / b = q := by
  rw [← h, Nat.add_comm, Nat.add_mul_div_right _ _ hb, Nat.div_eq_of_lt hr, Nat.zero_add]
set_option maxRecDepth 100000 in
theorem ret_Shr (xs : List Nat) (s : Nat) (hx : Wd xs) (hl : xs.length ≤ 1099511627776) (hs : s ≤ 1099511627776) : Ret Tryz.prog GEs 106 [ws xs, i64 s] (nat (val xs / 2 ^ s)) := by
  refine RetN_start Tryz.func106 (by kernel_rfl) rfl fun Q hQ hQ2 => ?_; rw [Tryz.ntmps106]; simp only [u, i64, Nat.reduceSub, Nat.reduceAdd, bm]
  (refine gO ?_)
  (refine gC ?_)
  (refine cR (ret_view xs hx (by omega)) ?_; refine sX ?_; try refine aA ?_)
  have hX := length_words_val_le hx
  have hW := Wd_words (val xs)
  have hv := val_words (val xs)
  simp only [nat]
  generalize words (val xs) = X at *
  by_cases h0 : X.length ≤ s / 64
  · (refine gO ?_)
    (refine FinQ hQ (congrArg Array.toList Tryz.results106) _ _ ?_); simp (disch := omega) only [u, i64, ax, if_true, forall_const, reduceCtorEq, implies_true, tvs, bf]
    rw [← hv, bit_over X s hW h0, nat, words_zero]; rfl
  have hr : s % 64 < 64 := Nat.mod_lt _ (by decide)
  have hYl : (X.drop (s / 64)).length = X.length - s / 64 := List.length_drop
  have hWY := hW.drop (s / 64)
  have hsh : val xs / 2 ^ s = val (X.drop (s / 64)) / 2 ^ (s % 64) := by
    have e := val_split X (s / 64) (by omega)
    have hlo := val_lt (hW.take (s / 64))
    rw [List.length_take, Nat.min_eq_left (by omega), Bpow] at hlo
    rw [Bpow] at e
    conv => lhs; rw [← hv, show s = 64 * (s / 64) + s % 64 from (Nat.div_add_mod s 64).symm, Nat.pow_add, ← Nat.div_div_eq_div_mul]
    rw [e, Nat.add_mul_div_left _ _ (Nat.two_pow_pos _), Nat.div_eq_of_lt hlo, Nat.zero_add]
  rw [hsh] at hQ
  have hYb : X.length - s / 64 ≤ 1099511627776 := by omega
  (refine gO ?_)
  clear hsh
  generalize X.drop (s / 64) = Y at *
  generalize X.length - s / 64 = L at *
  subst hYl
  refine AWp_loop (fun i : Nat × List Nat => mk 64 [(0, ws Y), (1, i64 s), (5, .own 0 0 0 Y.length 1), (21, ws Y), (22, i64 Y.length), (23, i64 i.1)] [⟨0, true, us i.2⟩])
      (fun i => i.1 ≤ Y.length ∧ i.2.length = Y.length ∧ Wd i.2 ∧ val (i.2.take i.1) * 2 ^ (s % 64) + Y.getD 0 0 % 2 ^ (s % 64) = val (Y.take i.1) + Y.getD i.1 0 % 2 ^ (s % 64) * 18446744073709551616 ^ i.1) (fun i => Y.length - i.1) (0, List.replicate Y.length 0) ?_
      ⟨Nat.zero_le _, by simp, Wd_replicate _ (by decide), by simp [val]⟩ ?_
  · simp only [u, i64, Nat.reduceSub, Nat.reduceAdd, bm]
  rintro ⟨n, os⟩ ⟨h1, h2, h3, h4⟩
  simp only at h1 h2 h3 h4
  simp only [u, i64, Nat.reduceSub, Nat.reduceAdd, bm]
  by_cases hn : n < Y.length
  · have hw := hWY.getD n
    have hw1 := hWY.getD (n + 1)
    have e1 := val_take_getD Y n
    have hq1 : Y.getD n 0 / 2 ^ (s % 64) < 18446744073709551616 := Nat.lt_of_le_of_lt (Nat.div_le_self _ _) hw
    by_cases hr0 : 0 < s % 64
    · have hst := shr_step hr hr0 hw hw1
      have hfin := shr_inv h4 hst
      have hlow : Y.getD (n + 1) 0 * 2 ^ (64 - s % 64) % 18446744073709551616 < 18446744073709551616 := Nat.mod_lt _ (by decide)
      by_cases hn1 : n + 1 < Y.length
      · have horb : Y.getD n 0 / 2 ^ (s % 64) ||| (Y.getD (n + 1) 0 * 2 ^ (64 - s % 64) % 18446744073709551616) < 18446744073709551616 := Nat.or_lt_two_pow (n := 64) hq1 hlow
        have hself := getD_set_self os n (Y.getD n 0 / 2 ^ (s % 64)) (by omega)
        have hsl : (os.set n (Y.getD n 0 / 2 ^ (s % 64))).length = Y.length := by simp; omega
        have horb2 : (os.set n (Y.getD n 0 / 2 ^ (s % 64))).getD n 0 ||| (Y.getD (n + 1) 0 * 2 ^ (64 - s % 64) % 18446744073709551616) < 18446744073709551616 := by rw [hself]; exact horb
        (refine gO ?_)
        refine ⟨(n + 1, (os.set n (Y.getD n 0 / 2 ^ (s % 64))).set n ((os.set n (Y.getD n 0 / 2 ^ (s % 64))).getD n 0 ||| (Y.getD (n + 1) 0 * 2 ^ (64 - s % 64) % 18446744073709551616))), ?_, ⟨hn, by simpa using h2, (h3.set _ hq1).set _ horb2, ?_⟩, by simp only; omega⟩
        · simp only [u, i64, Nat.reduceSub, Nat.reduceAdd, bm]
        · simp only
          rw [val_set_take _ _ _ (by simp; omega), hself, List.take_set_of_le (Nat.le_refl n), e1, Nat.pow_succ]
          exact hfin
      · have hy0 := getD_over Y (n + 1) (by omega)
        rw [hy0, Nat.zero_mul, Nat.zero_mod, Nat.or_zero, Nat.zero_mod, Nat.zero_mul, Nat.add_zero] at hfin
        (refine gO ?_)
        refine ⟨(n + 1, os.set n (Y.getD n 0 / 2 ^ (s % 64))), ?_, ⟨hn, by simpa using h2, h3.set _ hq1, ?_⟩, by simp only; omega⟩
        · simp only [u, i64, Nat.reduceSub, Nat.reduceAdd, bm]
        · simp only
          rw [val_set_take _ _ _ (by omega), e1, hy0, Nat.zero_mod, Nat.zero_mul, Nat.add_zero]
          exact hfin
    · have hr1 : s % 64 = 0 := by omega
      (refine gO ?_)
      refine ⟨(n + 1, os.set n (Y.getD n 0 / 2 ^ (s % 64))), ?_, ⟨hn, by simpa using h2, h3.set _ hq1, ?_⟩, by simp only; omega⟩
      · simp only [u, i64, Nat.reduceSub, Nat.reduceAdd, bm]
      · simp only
        rw [val_set_take _ _ _ (by omega), e1]
        simp only [hr1, Nat.pow_zero, Nat.mod_one, Nat.div_one, Nat.mul_one, Nat.zero_mul, Nat.add_zero] at h4 ⊢
        rw [h4]
  · have hn0 : n = Y.length := by omega
    subst hn0
    rw [List.take_of_length_le (by omega), List.take_length, getD_over Y _ (Nat.le_refl _), Nat.zero_mod, Nat.zero_mul, Nat.add_zero] at h4
    have hall := div_of (Nat.two_pow_pos _) h4 (Nat.mod_lt _ (Nat.two_pow_pos _))
    (refine gO ?_)
    refine G_cool0 ?_
    (refine gC ?_)
    (refine cR (ret_Trim os h3 (by omega)) ?_; refine sX ?_; try refine aA ?_)
    rw [← hall]
    (refine gO ?_)
    (refine FinQ hQ (congrArg Array.toList Tryz.results106) _ _ ?_); simp (disch := omega) only [u, i64, ax, if_true, forall_const, reduceCtorEq, implies_true, tvs, bf]
end Go.Proofs
set_option linter.unusedVariables false
set_option linter.unusedSimpArgs false
namespace Go.Proofs
open Go.Ax
/-- A loop in a block, cut off from what follows: the state behind it is said to be F. -/
theorem G_cutB {P : Program} {GE : Nat → Option (List AV)} {c y : Code} {id : Nat} {st : St} {Q Q2 : Exit → St → Prop} (F : St) (h2 : AWp P GE y Q F) (h1 : AWp P GE c (blockA id (fun e s => e = .normal ∧ leS s F)) st) :
    AWp P GE c (blockA id (thenA (AWp P GE y Q) Q2)) st := AWp_mono h1 fun e s hs => by
  cases e with
  | exit k =>
    simp only [blockA] at hs ⊢
    by_cases hk : k = id
    · rw [if_pos hk] at hs ⊢; exact AWp_le hs.2 h2
    · rw [if_neg hk] at hs; cases hs.1
  | normal => exact AWp_le hs.2 h2
  | _ => cases hs.1
section half
variable {K D v1 v0 x a Q R : Nat}
theorem half_lt (hx : x < D) (ha : a < K) : (x * K + a) / D < K := by
  rw [Nat.div_lt_iff_lt_mul (by omega)]
  have := Nat.mul_le_mul_right K (show x + 1 ≤ D from hx)
  rw [Nat.mul_comm K D]
  rw [Nat.add_mul] at this
  omega
theorem half_eq (hD : D = v1 * K + v0) (h : Q * v1 + R = x) : Q * D + R * K = x * K + Q * v0 := by
  rw [hD, Nat.mul_add Q (v1 * K) v0, ← Nat.mul_assoc Q v1, ← h, Nat.add_mul (Q * v1) R]; omega
theorem half_more (hD : D = v1 * K + v0) (hD0 : 0 < D) (h : Q * v1 + R = x) (hc : K * R + a < Q * v0) : (x * K + a) / D < Q := by
  have := half_eq hD h
  rw [Nat.mul_comm K R] at hc
  refine (Nat.div_lt_iff_lt_mul hD0).2 ?_
  omega
theorem half_less (hD : D = v1 * K + v0) (hD0 : 0 < D) (h : Q * v1 + R = x) (hc : Q * v0 ≤ K * R + a) : Q ≤ (x * K + a) / D := by
  have := half_eq hD h
  rw [Nat.mul_comm K R] at hc
  refine (Nat.le_div_iff_mul_le hD0).2 ?_
  omega
theorem half_start (hD : D = v1 * K + v0) (h0 : v0 < K) (h1 : K ≤ 2 * v1) (hx : x < D) (ha : a < K) :
    (x * K + a) / D ≤ x / v1 ∧ x / v1 * v1 + x % v1 = x ∧ x % v1 < v1 ∧ x / v1 ≤ K + 1 := by
  refine ⟨?_, by rw [Nat.mul_comm]; exact Nat.div_add_mod x v1, Nat.mod_lt _ (by omega), ?_⟩
  · refine (Nat.le_div_iff_mul_le (by omega)).2 ?_
    have h := Nat.div_mul_le_self (x * K + a) D
    generalize (x * K + a) / D = q at *
    have e : q * D = q * v1 * K + q * v0 := by rw [hD, Nat.mul_add, Nat.mul_assoc]
    rcases Nat.lt_or_ge x (q * v1) with hlt | hge
    · have := Nat.mul_le_mul_right K (show x + 1 ≤ q * v1 from hlt)
      rw [Nat.add_mul] at this
      omega
    · exact hge
  · have h : x / v1 * v1 ≤ x := Nat.div_mul_le_self x v1
    rcases Nat.lt_or_ge (x / v1) (K + 2) with hq | hq
    · omega
    · have := Nat.mul_le_mul_right v1 hq
      rw [Nat.add_mul, Nat.mul_comm K v1] at this
      omega
theorem half_small (hD : D = v1 * K + v0) (h0 : v0 < K) (hx : x < D) (h : Q * v1 + R = x) (hR : K ≤ R) : Q < K := by
  rcases Nat.lt_or_ge Q K with hq | hq
  · exact hq
  · have := Nat.mul_le_mul_right v1 hq
    rw [Nat.mul_comm K v1] at this
    omega
theorem half_break (h0 : v0 < K) (hQ : Q < K) (hR : K ≤ R) : Q * v0 ≤ K * R + a := by
  have h1 : Q * v0 ≤ K * K := Nat.mul_le_mul (by omega) (by omega)
  have h2 := Nat.mul_le_mul_left K hR
  omega
theorem half_bound (hQ : Q ≤ 4294967297) (h0 : v0 < 4294967296) : Q * v0 < 18446744073709551616 := by
  have : Q * v0 ≤ 4294967297 * 4294967295 := Nat.mul_le_mul hQ (by omega)
  omega
theorem half_rem0 {q r : Nat} (h : r + q * D = x * 4294967296 + a) (hr : r < D) (hDB : D < 18446744073709551616) : (x * 4294967296 % 18446744073709551616 + a + 18446744073709551616 - q * D % 18446744073709551616) % 18446744073709551616 = r := by omega
theorem half_rem (hx : x < D) (hDB : D < 18446744073709551616) (ha : a < 4294967296) :
    (x * 4294967296 % 18446744073709551616 + a + 18446744073709551616 - (x * 4294967296 + a) / D * D % 18446744073709551616) % 18446744073709551616 = (x * 4294967296 + a) % D :=
  half_rem0 (by have := Nat.div_add_mod (x * 4294967296 + a) D; rw [Nat.mul_comm D] at this; rw [Nat.add_comm]; exact this) (Nat.mod_lt _ (by omega)) hDB
end half
theorem div_join0 {D U N q r b : Nat} (hD : 0 < D) (hN : D * q + r = N) (hU : U = N * 4294967296 + b) : U / D = q * 4294967296 + (r * 4294967296 + b) / D ∧ U % D = (r * 4294967296 + b) % D := by
  have : U = (r * 4294967296 + b) + D * (q * 4294967296) := by rw [hU, ← hN, Nat.add_mul (D * q) r, Nat.mul_assoc D q]; omega
  rw [this]
  exact ⟨by rw [Nat.add_mul_div_left _ _ hD, Nat.add_comm], by rw [Nat.add_mul_mod_self_left]⟩
theorem div_join {D U x a b : Nat} (hD : 0 < D) (hU : U = (x * 4294967296 + a) * 4294967296 + b) :
    U / D = (x * 4294967296 + a) / D * 4294967296 + ((x * 4294967296 + a) % D * 4294967296 + b) / D ∧ U % D = ((x * 4294967296 + a) % D * 4294967296 + b) % D :=
  div_join0 hD (Nat.div_add_mod _ D) hU
set_option maxRecDepth 100000 in
theorem ret_LeadingZeros64 (x : Nat) (hx : x < 18446744073709551616) : Ret Tryz.prog GEs 223 [u x] (i64 ((64 - bl x : Nat) : Int)) := by
  have hb := bl_le (n := x) (k := 64) hx
  refine RetN_start Tryz.func223 (by kernel_rfl) rfl fun Q hQ hQ2 => ?_; rw [Tryz.ntmps223]; simp only [u, i64, Nat.reduceSub, Nat.reduceAdd, bm]
  (refine gO ?_)
  (refine gC ?_)
  (refine callK_mem (ret_Len64b x hx) rfl (by (simp (disch := omega) only [if_true, forall_const, reduceCtorEq, implies_true, bz]) <;> rfl) ?_; refine sX ?_; try refine aA ?_)
  (refine gO ?_)
  (refine FinQ hQ (congrArg Array.toList Tryz.results223) _ _ ?_); simp (disch := omega) only [u, i64, ax, if_true, forall_const, reduceCtorEq, implies_true, tvs, bf]
set_option maxRecDepth 100000 in
set_option maxHeartbeats 4000000 in
theorem ret_Div64 (hi lo y : Nat) (hlo : lo < 18446744073709551616) (hy : y < 18446744073709551616) (hh : hi < y) : Ret Tryz.prog GEs 249 [u hi, u lo, u y] (.tup [u ((hi * 18446744073709551616 + lo) / y), u ((hi * 18446744073709551616 + lo) % y)]) := by
  refine RetN_start Tryz.func249 (by kernel_rfl) rfl fun Q hQ hQ2 => ?_; rw [Tryz.ntmps249]; simp only [u, i64, Nat.reduceSub, Nat.reduceAdd, bm]
  by_cases h0 : hi = 0
  · have hq : lo / y < 18446744073709551616 := Nat.lt_of_le_of_lt (Nat.div_le_self _ _) hlo
    (refine gO ?_)
    (refine FinQ hQ (congrArg Array.toList Tryz.results249) _ _ ?_); simp (disch := omega) only [u, i64, ax, if_true, forall_const, reduceCtorEq, implies_true, tvs, bf, h0, Nat.zero_mul, Nat.zero_add]
  have hb := bl_le (n := y) (k := 64) hy
  obtain ⟨hb1, hb2, hb3⟩ := bl_spec (n := y) (by omega)
  (refine gO ?_)
  (refine gC ?_)
  (refine callK_mem (ret_LeadingZeros64 y hy) rfl (by (simp (disch := omega) only [if_true, forall_const, reduceCtorEq, implies_true, bz]) <;> rfl) ?_; refine sX ?_; try refine aA ?_)
  obtain ⟨s, hs⟩ : ∃ s, 64 - bl y = s := ⟨_, rfl⟩
  have hs64 : s < 64 := by omega
  have hp : 2 ^ bl y * 2 ^ s = 18446744073709551616 := by rw [← Nat.pow_add, show bl y + s = 64 by omega]
  have hDB : y * 2 ^ s < 18446744073709551616 := by rw [← hp]; exact Nat.mul_lt_mul_of_pos_right hb2 (Nat.two_pow_pos s)
  have hD63 : 9223372036854775808 ≤ y * 2 ^ s := by
    have e : 2 ^ (bl y - 1) * 2 ^ s = 9223372036854775808 := by rw [← Nat.pow_add, show bl y - 1 + s = 63 by omega]
    rw [← e]; exact Nat.mul_le_mul_right _ hb1
  have hhD : (hi + 1) * 2 ^ s ≤ y * 2 ^ s := Nat.mul_le_mul_right _ hh
  rw [Nat.add_mul, Nat.one_mul] at hhD
  have hps := Nat.two_pow_pos s
  have hlo1 : lo / 2 ^ (64 - s) = lo * 2 ^ s / 18446744073709551616 := by
    rw [show 18446744073709551616 = 2 ^ (64 - s) * 2 ^ s by rw [← Nat.pow_add, show 64 - s + s = 64 by omega], Nat.mul_div_mul_right _ _ hps]
  have hlo2 : lo * 2 ^ s / 18446744073709551616 < 2 ^ s := div_lt_two lo s hlo
  have hor : hi * 2 ^ s ||| lo / 2 ^ (64 - s) = hi * 2 ^ s + lo * 2 ^ s / 18446744073709551616 := by
    rw [hlo1, Nat.mul_comm hi, ← Nat.two_pow_add_eq_or_of_lt hlo2]
  have hlo3 : lo / 2 ^ (64 - s) < 18446744073709551616 := Nat.lt_of_le_of_lt (Nat.div_le_self _ _) hlo
  have hxB : hi * 2 ^ s ||| lo / 2 ^ (64 - s) < 18446744073709551616 := by rw [hor]; omega
  have hv1 : 0 < y * 2 ^ s / 4294967296 := by omega
  have hstart := half_start (K := 4294967296) (D := y * 2 ^ s) (v1 := y * 2 ^ s / 4294967296) (v0 := y * 2 ^ s % 4294967296) (x := hi * 2 ^ s ||| lo / 2 ^ (64 - s)) (a := lo * 2 ^ s % 18446744073709551616 / 4294967296) (by omega) (by omega) (by omega) (by rw [hor]; omega) (by omega)
  simp only [hs]
  (refine gO ?_)
  generalize hxd : (hi * 2 ^ s ||| lo / 2 ^ (64 - s)) = x at *
  generalize hDd : y * 2 ^ s = D at *
  generalize hld : lo * 2 ^ s % 18446744073709551616 = l at *
  have hlB : l < 18446744073709551616 := by rw [← hld]; exact Nat.mod_lt _ (by decide)
  have hDv : D = D / 4294967296 * 4294967296 + D % 4294967296 := by omega
  have hv0 : D % 4294967296 < 4294967296 := Nat.mod_lt _ (by decide)
  have hv1B : D / 4294967296 < 4294967296 := by omega
  generalize D / 4294967296 = v1 at *
  generalize D % 4294967296 = v0 at *
  have ha : l / 4294967296 < 4294967296 := by omega
  have hb : l % 4294967296 < 4294967296 := Nat.mod_lt _ (by decide)
  generalize had : l / 4294967296 = a at *
  generalize hbd : l % 4294967296 = b at *
  have hxD : x < D := by rw [hor]; omega
  have hD0 : 0 < D := by omega
  have hq1 := half_lt hxD ha
  obtain ⟨q1, hq1d⟩ : ∃ q, (x * 4294967296 + a) / D = q := ⟨_, rfl⟩
  refine G_cutB (mk 135 [(2, u D), (8, u s), (9, u v1), (10, u v0), (11, u x), (13, u a), (14, u b), (15, u q1)] []) ?_ ?_
  · simp only [u, i64, Nat.reduceSub, Nat.reduceAdd, bm]
    have hrem := half_rem hxD hDB ha
    have hrD := Nat.mod_lt (x * 4294967296 + a) hD0
    have hU : (hi * 18446744073709551616 + lo) * 2 ^ s = (x * 4294967296 + a) * 4294967296 + b := by
      have h1 : lo * 2 ^ s = lo * 2 ^ s / 18446744073709551616 * 18446744073709551616 + l := by rw [← hld]; omega
      rw [Nat.add_mul, Nat.mul_right_comm, h1, hor]
      omega
    obtain ⟨hj1, hj2⟩ := div_join hD0 hU
    have hdiv : (hi * 18446744073709551616 + lo) / y = (x * 4294967296 + a) / D * 4294967296 + ((x * 4294967296 + a) % D * 4294967296 + b) / D := by
      rw [← hj1, ← hDd, Nat.mul_div_mul_right _ _ hps]
    have hmod : (hi * 18446744073709551616 + lo) % y = ((x * 4294967296 + a) % D * 4294967296 + b) % D / 2 ^ s := by
      rw [← hj2, ← hDd, Nat.mul_mod_mul_right, Nat.mul_div_cancel _ hps]
    obtain ⟨r1, hr1d⟩ : ∃ r, (x * 4294967296 + a) % D = r := ⟨_, rfl⟩
    rw [hq1d, hr1d] at hdiv
    rw [hr1d] at hmod hrD
    rw [hq1d, hr1d] at hrem
    rw [hdiv, hmod] at hQ
    rw [hq1d] at hq1
    clear hdiv hmod hj1 hj2 hU hor hlo1 hlo2 hlo3 hxB hxd hDd hld hstart had hbd hhD hp hlB
    refine G_sreg mixed (by first | rfl | kernel_rfl) ?_
    simp (disch := omega) only [u, i64, ax, eq_self, if_true, if_false, Nat.reduceAdd, Int.reduceToNat, Int.reduceAdd, tvs, bs, hrem]
    refine aft_any ?_
    have hrem2 := half_rem hrD hDB hb
    have hq2 := half_lt hrD hb
    have hstart2 := half_start (K := 4294967296) (a := b) hDv hv0 (by omega) hrD hb
    clear hrem ha
    (refine gO ?_)
    refine G_cutB (mk 135 [(2, u D), (8, u s), (14, u b), (15, u q1), (17, u r1), (18, u ((r1 * 4294967296 + b) / D))] []) ?_ ?_
    · simp only [u, i64, Nat.reduceSub, Nat.reduceAdd, bm]
      (refine gO ?_)
      (refine FinQ hQ (congrArg Array.toList Tryz.results249) _ _ ?_); simp (disch := omega) only [u, i64, ax, if_true, forall_const, reduceCtorEq, implies_true, tvs, bf, hrem2, Nat.mod_eq_of_lt (show q1 * 4294967296 < 18446744073709551616 by omega)]
    · refine AWp_loop (fun i : Nat × Nat => mk 135 [(2, u D), (8, u s), (9, u v1), (10, u v0), (14, u b), (15, u q1), (17, u r1), (18, u i.1), (16, u i.2)] [])
        (fun i => i.1 * v1 + i.2 = r1 ∧ (r1 * 4294967296 + b) / D ≤ i.1 ∧ i.2 < 4294967296 ∧ i.1 ≤ 4294967297) (fun i => i.1) (r1 / v1, r1 - r1 / v1 * v1) ?_ ⟨by simp only; omega, hstart2.1, by simp only; omega, hstart2.2.2.2⟩ ?_
      · simp only [u, i64, Nat.reduceSub, Nat.reduceAdd, bm]
      rintro ⟨Q1, R1⟩ ⟨g1, g2, g3, g4⟩
      simp only at g1 g2 g3 g4
      simp only [u, i64, Nat.reduceSub, Nat.reduceAdd, bm]
      have hbd2 := half_bound g4 hv0
      by_cases hc1 : 4294967296 ≤ Q1
      · have hlt : (r1 * 4294967296 + b) / D < Q1 := by omega
        have hpos : 1 ≤ Q1 := Nat.lt_of_le_of_lt (Nat.zero_le _) hlt
        have hnew : (Q1 - 1) * v1 + (R1 + v1) = r1 := by
          have : (Q1 - 1) * v1 + v1 = Q1 * v1 := by rw [← Nat.succ_mul, show (Q1 - 1).succ = Q1 by omega]
          omega
        by_cases h3 : 4294967296 ≤ R1 + v1
        · have hsm := half_small hDv hv0 hrD hnew h3
          have he := half_less (a := b) hDv hD0 hnew (half_break hv0 hsm h3)
          have e : Q1 - 1 = (r1 * 4294967296 + b) / D := by omega
          (refine gO ?_)
          refine ⟨rfl, ?_⟩
          rw [e]
          simp only [u, i64, Nat.reduceSub, Nat.reduceAdd, bm]
        · (refine gO ?_)
          refine ⟨(Q1 - 1, R1 + v1), ?_, ⟨hnew, Nat.le_sub_one_of_lt hlt, by simp only; omega, by simp only; omega⟩, by simp only; omega⟩
          simp only [u, i64, Nat.reduceSub, Nat.reduceAdd, bm]
      by_cases hc2 : 4294967296 * R1 + b < Q1 * v0
      · have hlt : (r1 * 4294967296 + b) / D < Q1 := half_more hDv hD0 g1 hc2
        have hpos : 1 ≤ Q1 := Nat.lt_of_le_of_lt (Nat.zero_le _) hlt
        have hnew : (Q1 - 1) * v1 + (R1 + v1) = r1 := by
          have : (Q1 - 1) * v1 + v1 = Q1 * v1 := by rw [← Nat.succ_mul, show (Q1 - 1).succ = Q1 by omega]
          omega
        by_cases h3 : 4294967296 ≤ R1 + v1
        · have hsm := half_small hDv hv0 hrD hnew h3
          have he := half_less (a := b) hDv hD0 hnew (half_break hv0 hsm h3)
          have e : Q1 - 1 = (r1 * 4294967296 + b) / D := by omega
          (refine gO ?_)
          refine ⟨rfl, ?_⟩
          rw [e]
          simp only [u, i64, Nat.reduceSub, Nat.reduceAdd, bm]
        · (refine gO ?_)
          refine ⟨(Q1 - 1, R1 + v1), ?_, ⟨hnew, Nat.le_sub_one_of_lt hlt, by simp only; omega, by simp only; omega⟩, by simp only; omega⟩
          simp only [u, i64, Nat.reduceSub, Nat.reduceAdd, bm]
      · have he := half_less (a := b) hDv hD0 g1 (by omega)
        have e : Q1 = (r1 * 4294967296 + b) / D := by omega
        (refine gO ?_)
        refine ⟨rfl, ?_⟩
        rw [e]
        simp only [u, i64, Nat.reduceSub, Nat.reduceAdd, bm]
  · refine AWp_loop (fun i : Nat × Nat => mk 135 [(2, u D), (8, u s), (9, u v1), (10, u v0), (11, u x), (13, u a), (14, u b), (15, u i.1), (16, u i.2)] [])
      (fun i => i.1 * v1 + i.2 = x ∧ (x * 4294967296 + a) / D ≤ i.1 ∧ i.2 < 4294967296 ∧ i.1 ≤ 4294967297) (fun i => i.1) (x / v1, x - x / v1 * v1) ?_ ⟨by simp only; omega, hstart.1, by simp only; omega, hstart.2.2.2⟩ ?_
    · simp only [u, i64, Nat.reduceSub, Nat.reduceAdd, bm]
    rintro ⟨Q1, R1⟩ ⟨g1, g2, g3, g4⟩
    simp only at g1 g2 g3 g4
    simp only [u, i64, Nat.reduceSub, Nat.reduceAdd, bm]
    have hbd2 := half_bound g4 hv0
    by_cases hc1 : 4294967296 ≤ Q1
    · have hlt : (x * 4294967296 + a) / D < Q1 := by omega
      have hpos : 1 ≤ Q1 := Nat.lt_of_le_of_lt (Nat.zero_le _) hlt
      have hnew : (Q1 - 1) * v1 + (R1 + v1) = x := by
        have : (Q1 - 1) * v1 + v1 = Q1 * v1 := by rw [← Nat.succ_mul, show (Q1 - 1).succ = Q1 by omega]
        omega
      by_cases h3 : 4294967296 ≤ R1 + v1
      · have hsm := half_small hDv hv0 hxD hnew h3
        have he := half_less (a := a) hDv hD0 hnew (half_break hv0 hsm h3)
        have e : Q1 - 1 = (x * 4294967296 + a) / D := by omega
        (refine gO ?_)
        refine ⟨rfl, ?_⟩
        rw [e, hq1d]
        simp only [u, i64, Nat.reduceSub, Nat.reduceAdd, bm]
      · (refine gO ?_)
        refine ⟨(Q1 - 1, R1 + v1), ?_, ⟨hnew, Nat.le_sub_one_of_lt hlt, by simp only; omega, by simp only; omega⟩, by simp only; omega⟩
        simp only [u, i64, Nat.reduceSub, Nat.reduceAdd, bm]
    by_cases hc2 : 4294967296 * R1 + a < Q1 * v0
    · have hlt : (x * 4294967296 + a) / D < Q1 := half_more hDv hD0 g1 hc2
      have hpos : 1 ≤ Q1 := Nat.lt_of_le_of_lt (Nat.zero_le _) hlt
      have hnew : (Q1 - 1) * v1 + (R1 + v1) = x := by
        have : (Q1 - 1) * v1 + v1 = Q1 * v1 := by rw [← Nat.succ_mul, show (Q1 - 1).succ = Q1 by omega]
        omega
      by_cases h3 : 4294967296 ≤ R1 + v1
      · have hsm := half_small hDv hv0 hxD hnew h3
        have he := half_less (a := a) hDv hD0 hnew (half_break hv0 hsm h3)
        have e : Q1 - 1 = (x * 4294967296 + a) / D := by omega
        (refine gO ?_)
        refine ⟨rfl, ?_⟩
        rw [e, hq1d]
        simp only [u, i64, Nat.reduceSub, Nat.reduceAdd, bm]
      · (refine gO ?_)
        refine ⟨(Q1 - 1, R1 + v1), ?_, ⟨hnew, Nat.le_sub_one_of_lt hlt, by simp only; omega, by simp only; omega⟩, by simp only; omega⟩
        simp only [u, i64, Nat.reduceSub, Nat.reduceAdd, bm]
    · have he := half_less (a := a) hDv hD0 g1 (by omega)
      have e : Q1 = (x * 4294967296 + a) / D := by omega
      (refine gO ?_)
      refine ⟨rfl, ?_⟩
      rw [e, hq1d]
      simp only [u, i64, Nat.reduceSub, Nat.reduceAdd, bm]
end Go.Proofs
set_option linter.unusedVariables false
set_option linter.unusedSimpArgs false
namespace Go.Proofs
open Go.Ax
theorem divw_step {w R D Q a : Nat} (hw : 0 < w) (hq : Q = D / w) (hr : R = D % w) :
    (R * 18446744073709551616 + a) / w + 18446744073709551616 * Q = (a + 18446744073709551616 * D) / w ∧ (R * 18446744073709551616 + a) % w = (a + 18446744073709551616 * D) % w := by
  have h := Nat.div_add_mod D w
  have e : a + 18446744073709551616 * D = (R * 18446744073709551616 + a) + w * (18446744073709551616 * Q) := by
    conv => lhs; rw [← h]
    rw [Nat.mul_add, hq, hr, Nat.mul_left_comm]
    omega
  rw [e]
  exact ⟨by rw [Nat.add_mul_div_left _ _ hw], by rw [Nat.add_mul_mod_self_left]⟩
theorem divw_lt {w R a : Nat} (hR : R < w) (ha : a < 18446744073709551616) : (R * 18446744073709551616 + a) / w < 18446744073709551616 := by
  refine (Nat.div_lt_iff_lt_mul (by omega)).2 ?_
  have := Nat.mul_le_mul_right 18446744073709551616 (show R + 1 ≤ w from hR)
  rw [Nat.mul_comm 18446744073709551616 w]
  omega
theorem val_drop_set (os : List Nat) (n v : Nat) (h : n < os.length) : val ((os.set n v).drop n) = v + 18446744073709551616 * val (os.drop (n + 1)) := by
  rw [val_drop _ n (by simpa using h), List.getD_eq_getElem?_getD, List.getElem?_set_self h, List.drop_set_of_lt (Nat.lt_succ_self n)]
  rfl
set_option maxRecDepth 100000 in
theorem ret_divWord (xs : List Nat) (w : Nat) (hx : Wd xs) (hw : w < 18446744073709551616) (h0 : 0 < w) (hl : xs.length ≤ 1099511627775) : Ret Tryz.prog GEs 221 [ws xs, u w] (.tup [nat (val xs / w), u (val xs % w)]) := by
  refine RetN_start Tryz.func221 (by kernel_rfl) rfl fun Q hQ hQ2 => ?_; rw [Tryz.ntmps221]; simp only [u, i64, Nat.reduceSub, Nat.reduceAdd, bm]
  (refine gO ?_)
  refine AWp_loop (fun i : Nat × List Nat × Nat => mk 35 [(0, ws xs), (1, u w), (6, .own 0 0 0 xs.length 1), (7, u i.2.2), (8, i64 ((i.1 : Int) - 1))] [⟨0, true, us i.2.1⟩])
    (fun i => i.1 ≤ xs.length ∧ i.2.1.length = xs.length ∧ Wd i.2.1 ∧ val (i.2.1.drop i.1) = val (xs.drop i.1) / w ∧ i.2.2 = val (xs.drop i.1) % w) (fun i => i.1) (xs.length, List.replicate xs.length 0, 0) ?_ ⟨Nat.le_refl _, by simp, Wd_replicate _ (by decide), by simp [val], by simp [val]⟩ ?_
  · simp only [u, i64, Nat.reduceSub, Nat.reduceAdd, bm]
  rintro ⟨n, os, r⟩ ⟨h1, h2, h3, h4, h5⟩
  simp only at h1 h2 h3 h4 h5
  simp only [u, i64, Nat.reduceSub, Nat.reduceAdd, bm]
  by_cases hn : 1 ≤ n
  · obtain ⟨m, rfl⟩ : ∃ m, n = m + 1 := ⟨n - 1, by omega⟩
    have ha := hx.getD m
    have hr : r < w := by rw [h5]; exact Nat.mod_lt _ h0
    have hst := divw_step (a := xs.getD m 0) h0 h4 h5
    have hq := divw_lt hr ha
    have hv := val_drop xs m (by omega)
    rw [← hv] at hst
    have hr2 : (r * 18446744073709551616 + xs.getD m 0) % w < w := Nat.mod_lt _ h0
    have hs := val_drop_set os m ((r * 18446744073709551616 + xs.getD m 0) / w) (by omega)
    rw [hst.1] at hs
    simp only [Int.natCast_add, Int.natCast_one, Int.add_sub_cancel]
    repeat (first | (refine gC ?_; first | refine aA ?_ | (refine cR (ret_Div64 r (xs.getD m 0) w ha hw hr) ?_; refine sX ?_; try refine aA ?_)) | (refine cR (ret_Div64 r (xs.getD m 0) w ha hw hr) ?_; refine sX ?_; try refine aA ?_) | refine gS ?_)
    refine ⟨(m, os.set m ((r * 18446744073709551616 + xs.getD m 0) / w), (r * 18446744073709551616 + xs.getD m 0) % w), ?_, ⟨by simp only; omega, by simpa using h2, h3.set m hq, hs, hst.2⟩, by simp only; omega⟩
    simp only [u, i64, Nat.reduceSub, Nat.reduceAdd, bm]
  · have hn0 : n = 0 := by omega
    subst hn0
    simp only [List.drop_zero] at h4 h5
    (refine gO ?_)
    refine G_cool0 ?_
    (refine gC ?_)
    (refine cR (ret_Trim os h3 (by omega)) ?_; refine sX ?_; try refine aA ?_)
    rw [h4]
    (refine gO ?_)
    (refine FinQ hQ (congrArg Array.toList Tryz.results221) _ _ ?_); simp (disch := omega) only [u, i64, ax, if_true, forall_const, reduceCtorEq, implies_true, tvs, bf, h5]
theorem guess_test {q r v w c N V2 U3 : Nat} (hN : q * v + r = N) (hV : V2 = v * 18446744073709551616 + w) (hU : U3 = N * 18446744073709551616 + c) : q * V2 ≤ U3 ↔ q * w ≤ r * 18446744073709551616 + c := by
  have e : q * V2 = q * v * 18446744073709551616 + q * w := by rw [hV, Nat.mul_add, Nat.mul_assoc]
  rw [e, hU, ← hN, Nat.add_mul]; omega
theorem guess_over {q r v w c N V2 U3 : Nat} (hN : q * v + r = N) (hV : V2 = v * 18446744073709551616 + w) (hU : U3 = N * 18446744073709551616 + c) (hq : q < 18446744073709551616) (hw : w < 18446744073709551616) (hr : 18446744073709551616 ≤ r) : q * V2 ≤ U3 := by
  refine (guess_test hN hV hU).2 ?_
  have h1 : q * w ≤ 18446744073709551616 * 18446744073709551616 := Nat.mul_le_mul (by omega) (by omega)
  omega
theorem guess_less {q r v N : Nat} (hN : q * v + r = N) (h : 1 ≤ q) : (q - 1) * v + (r + v) = N := by
  obtain ⟨k, rfl⟩ : ∃ k, q = k + 1 := ⟨q - 1, by omega⟩
  rw [Nat.add_mul] at hN
  simp only [Nat.add_sub_cancel]
  omega
set_option maxRecDepth 100000 in
set_option maxHeartbeats 4000000 in
theorem ret_guess (a b c v w : Nat) (ha : a < 18446744073709551616) (hb : b < 18446744073709551616) (hc : c < 18446744073709551616) (hv : v < 18446744073709551616) (hw : w < 18446744073709551616) (hv0 : 0 < v) :
    Ret Tryz.prog GEs 224 [u a, u b, u c, u v, u w] (u (min 18446744073709551615 (((a * 18446744073709551616 + b) * 18446744073709551616 + c) / (v * 18446744073709551616 + w)))) := by
  obtain ⟨N, hN⟩ : ∃ N, a * 18446744073709551616 + b = N := ⟨_, rfl⟩
  obtain ⟨V2, hV2⟩ : ∃ V, v * 18446744073709551616 + w = V := ⟨_, rfl⟩
  obtain ⟨U3, hU3⟩ : ∃ U, N * 18446744073709551616 + c = U := ⟨_, rfl⟩
  rw [hN, hU3, hV2]
  have hV0 : 0 < V2 := by omega
  obtain ⟨T, hT⟩ : ∃ T, min 18446744073709551615 (U3 / V2) = T := ⟨_, rfl⟩
  have hT1 : T ≤ 18446744073709551615 := hT ▸ Nat.min_le_left _ _
  have hT2 : T * V2 ≤ U3 := (Nat.le_div_iff_mul_le hV0).1 (hT ▸ Nat.min_le_right _ _)
  have hT3 : ∀ q, q ≤ 18446744073709551615 → q * V2 ≤ U3 → q ≤ T := fun q h1 h2 => hT ▸ Nat.le_min.2 ⟨h1, (Nat.le_div_iff_mul_le hV0).2 h2⟩
  rw [hT]
  clear hT
  refine RetN_start Tryz.func224 (by kernel_rfl) rfl fun Q hQ hQ2 => ?_; rw [Tryz.ntmps224]; simp only [u, i64, Nat.reduceSub, Nat.reduceAdd, bm]
  by_cases hav : v < a
  · have h1 := hT3 18446744073709551615 (Nat.le_refl _) (by omega)
    have e : T = 18446744073709551615 := by omega
    clear hT3 hT2 hT1
    (refine gO ?_)
    (refine FinQ hQ (congrArg Array.toList Tryz.results224) _ _ ?_); simp (disch := omega) only [u, i64, ax, if_true, forall_const, reduceCtorEq, implies_true, tvs, bf, e]
    rfl
  by_cases heq : a = v
  · obtain ⟨i0, hi0⟩ : ∃ i : Nat × Nat × Bool, i = (18446744073709551615, (b + v) % 18446744073709551616, decide ((b + v) / 18446744073709551616 = 1)) := ⟨_, rfl⟩
    have hI0 : T ≤ i0.1 ∧ i0.1 < 18446744073709551616 ∧ i0.2.1 < 18446744073709551616 ∧ (i0.2.2 = false → i0.1 * v + i0.2.1 = N) ∧ (i0.2.2 = true → i0.1 * V2 ≤ U3) := by
      rw [hi0]
      simp only
      refine ⟨hT1, by omega, by omega, fun h => ?_, fun h => ?_⟩
      · have := of_decide_eq_false h
        omega
      · have := of_decide_eq_true h
        exact guess_over (r := b + v) (N := N) (v := v) (w := w) (c := c) (by omega) hV2.symm hU3.symm (by omega) hw (by omega)
    (refine gO ?_)
    (refine gC ?_)
    (refine callK_ext (retx_Add64 b v 0 (by decide)) rfl (by (simp (disch := omega) only [if_true, forall_const, reduceCtorEq, implies_true, bz]) <;> rfl) ?_; refine sX ?_; try refine aA ?_)
    (refine gO ?_)
    refine G_cutB (mk 71 [(11, u T)] []) ?_ ?_
    · simp only [u, i64, Nat.reduceSub, Nat.reduceAdd, bm]
      (refine gO ?_)
      (refine FinQ hQ (congrArg Array.toList Tryz.results224) _ _ ?_); simp (disch := omega) only [u, i64, ax, if_true, forall_const, reduceCtorEq, implies_true, tvs, bf]
    refine AWp_loop (fun i : Nat × Nat × Bool => mk 71 [(0, u a), (1, u b), (2, u c), (3, u v), (4, u w), (11, u i.1), (12, u i.2.1), (13, .bool i.2.2)] [])
      (fun i => T ≤ i.1 ∧ i.1 < 18446744073709551616 ∧ i.2.1 < 18446744073709551616 ∧ (i.2.2 = false → i.1 * v + i.2.1 = N) ∧ (i.2.2 = true → i.1 * V2 ≤ U3)) (fun i => i.1) i0 ?_ hI0 ?_
    · subst hi0
      dsimp only
      simp only [u, i64, Nat.reduceSub, Nat.reduceAdd, bm]
      try simp only [Int.cast_ofNat_Int, leT_same, leT_any, leT_nil, and_self]
    clear hi0 hI0 i0
    rintro ⟨q, r, o⟩ ⟨g1, g2, g3, g4, g5⟩
    simp only at g1 g2 g3 g4 g5
    simp only [u, i64, Nat.reduceSub, Nat.reduceAdd, bm]
    cases o with
    | true =>
      have e := hT3 q (by omega) (g5 rfl)
      have e : q = T := by omega
      (refine gO ?_)
      refine ⟨rfl, ?_⟩
      rw [e]
      simp only [u, i64, Nat.reduceSub, Nat.reduceAdd, bm]
    | false =>
      have hN1 := g4 rfl
      have htest := guess_test hN1 hV2.symm hU3.symm
      have hp : q * w < 18446744073709551616 * 18446744073709551616 := by
        have := Nat.mul_le_mul (show q ≤ 18446744073709551615 by omega) (show w ≤ 18446744073709551615 by omega)
        omega
      have hsp := Nat.div_add_mod (q * w) 18446744073709551616
      have hlo : q * w % 18446744073709551616 < 18446744073709551616 := Nat.mod_lt _ (by decide)
      have hhi : q * w / 18446744073709551616 < 18446744073709551616 := Nat.div_lt_of_lt_mul hp
      by_cases ht : q * w ≤ r * 18446744073709551616 + c
      · have e := hT3 q (by omega) (htest.2 ht)
        have e : q = T := by omega
        clear htest hp g4 g5 hN1
        by_cases h1 : q * w / 18446744073709551616 < r
        · (refine gO ?_)
          (refine gC ?_)
          (refine callK_mem (ret_Mul64 q w g2 hw) rfl (by (simp (disch := omega) only [if_true, forall_const, reduceCtorEq, implies_true, bz]) <;> rfl) ?_; refine sX ?_; try refine aA ?_)
          (refine gO ?_)
          refine ⟨rfl, ?_⟩
          rw [e]
          simp only [u, i64, Nat.reduceSub, Nat.reduceAdd, bm]
        · have h2 : q * w / 18446744073709551616 = r := by omega
          have h3 : q * w % 18446744073709551616 ≤ c := by omega
          (refine gO ?_)
          (refine gC ?_)
          (refine callK_mem (ret_Mul64 q w g2 hw) rfl (by (simp (disch := omega) only [if_true, forall_const, reduceCtorEq, implies_true, bz]) <;> rfl) ?_; refine sX ?_; try refine aA ?_)
          (refine gO ?_)
          refine ⟨rfl, ?_⟩
          rw [e]
          simp only [u, i64, Nat.reduceSub, Nat.reduceAdd, bm]
      · have hlt : T < q := by
          rcases Nat.lt_or_ge T q with h | h
          · exact h
          · have e : q = T := by omega
            rw [← e] at hT2
            exact absurd (htest.1 hT2) ht
        have hnew := guess_less hN1 (by omega)
        have hov := fun h => guess_over hnew hV2.symm hU3.symm (by omega) hw h
        have hI1 : T ≤ q - 1 ∧ q - 1 < 18446744073709551616 ∧ (r + v) % 18446744073709551616 < 18446744073709551616 ∧ (decide ((r + v) / 18446744073709551616 = 1) = false → (q - 1) * v + (r + v) % 18446744073709551616 = N) ∧ (decide ((r + v) / 18446744073709551616 = 1) = true → (q - 1) * V2 ≤ U3) :=
          ⟨by omega, by omega, by omega, fun h => by rw [Nat.mod_eq_of_lt (by have := of_decide_eq_false h; omega)]; exact hnew, fun h => hov (by have := of_decide_eq_true h; omega)⟩
        clear htest hp g4 g5 hN1 hnew hov
        by_cases h2 : q * w / 18446744073709551616 = r
        · have h3 : ¬ q * w % 18446744073709551616 ≤ c := by omega
          have h1 : ¬ q * w / 18446744073709551616 < r := by omega
          (refine gO ?_)
          (refine gC ?_)
          (refine callK_mem (ret_Mul64 q w g2 hw) rfl (by (simp (disch := omega) only [if_true, forall_const, reduceCtorEq, implies_true, bz]) <;> rfl) ?_; refine sX ?_; try refine aA ?_)
          (refine gO ?_)
          (refine gC ?_)
          (refine callK_ext (retx_Add64 r v 0 (by decide)) rfl (by (simp (disch := omega) only [if_true, forall_const, reduceCtorEq, implies_true, bz]) <;> rfl) ?_; refine sX ?_; try refine aA ?_)
          (refine gO ?_)
          refine ⟨(q - 1, (r + v) % 18446744073709551616, decide ((r + v) / 18446744073709551616 = 1)), ?_, hI1, by simp only; omega⟩
          simp only [u, i64, Nat.reduceSub, Nat.reduceAdd, bm]
        · have h1 : ¬ q * w / 18446744073709551616 < r := by omega
          (refine gO ?_)
          (refine gC ?_)
          (refine callK_mem (ret_Mul64 q w g2 hw) rfl (by (simp (disch := omega) only [if_true, forall_const, reduceCtorEq, implies_true, bz]) <;> rfl) ?_; refine sX ?_; try refine aA ?_)
          (refine gO ?_)
          (refine gC ?_)
          (refine callK_ext (retx_Add64 r v 0 (by decide)) rfl (by (simp (disch := omega) only [if_true, forall_const, reduceCtorEq, implies_true, bz]) <;> rfl) ?_; refine sX ?_; try refine aA ?_)
          (refine gO ?_)
          refine ⟨(q - 1, (r + v) % 18446744073709551616, decide ((r + v) / 18446744073709551616 = 1)), ?_, hI1, by simp only; omega⟩
          simp only [u, i64, Nat.reduceSub, Nat.reduceAdd, bm]
  · have hlt : a < v := by omega
    have hNv : N < v * 18446744073709551616 := by omega
    have hq := (Nat.div_lt_iff_lt_mul hv0).2 (show N < 18446744073709551616 * v by omega)
    have hr := Nat.mod_lt N hv0
    obtain ⟨i0, hi0⟩ : ∃ i : Nat × Nat × Bool, i = (N / v, N % v, false) := ⟨_, rfl⟩
    have hI0 : T ≤ i0.1 ∧ i0.1 < 18446744073709551616 ∧ i0.2.1 < 18446744073709551616 ∧ (i0.2.2 = false → i0.1 * v + i0.2.1 = N) ∧ (i0.2.2 = true → i0.1 * V2 ≤ U3) := by
      rw [hi0]
      simp only
      refine ⟨(Nat.le_div_iff_mul_le hv0).2 (knuth_le hV2.symm hU3.symm hc hT2), hq, by omega, fun _ => by rw [Nat.mul_comm]; exact Nat.div_add_mod N v, fun h => by cases h⟩
    (refine gO ?_)
    (refine gC ?_)
    (refine cR (ret_Div64 a b v hb hv hlt) ?_; refine sX ?_; try refine aA ?_)
    rw [hN]
    (refine gO ?_)
    clear hT1
    refine G_cutB (mk 71 [(11, u T)] []) ?_ ?_
    · simp only [u, i64, Nat.reduceSub, Nat.reduceAdd, bm]
      (refine gO ?_)
      (refine FinQ hQ (congrArg Array.toList Tryz.results224) _ _ ?_); simp (disch := omega) only [u, i64, ax, if_true, forall_const, reduceCtorEq, implies_true, tvs, bf]
    refine AWp_loop (fun i : Nat × Nat × Bool => mk 71 [(0, u a), (1, u b), (2, u c), (3, u v), (4, u w), (11, u i.1), (12, u i.2.1), (13, .bool i.2.2)] [])
      (fun i => T ≤ i.1 ∧ i.1 < 18446744073709551616 ∧ i.2.1 < 18446744073709551616 ∧ (i.2.2 = false → i.1 * v + i.2.1 = N) ∧ (i.2.2 = true → i.1 * V2 ≤ U3)) (fun i => i.1) i0 ?_ hI0 ?_
    · subst hi0
      dsimp only
      simp only [u, i64, Nat.reduceSub, Nat.reduceAdd, bm]
      try simp only [Int.cast_ofNat_Int, leT_same, leT_any, leT_nil, and_self]
    clear hi0 hI0 i0
    rintro ⟨q, r, o⟩ ⟨g1, g2, g3, g4, g5⟩
    simp only at g1 g2 g3 g4 g5
    simp only [u, i64, Nat.reduceSub, Nat.reduceAdd, bm]
    cases o with
    | true =>
      have e := hT3 q (by omega) (g5 rfl)
      have e : q = T := by omega
      (refine gO ?_)
      refine ⟨rfl, ?_⟩
      rw [e]
      simp only [u, i64, Nat.reduceSub, Nat.reduceAdd, bm]
    | false =>
      have hN1 := g4 rfl
      have htest := guess_test hN1 hV2.symm hU3.symm
      have hp : q * w < 18446744073709551616 * 18446744073709551616 := by
        have := Nat.mul_le_mul (show q ≤ 18446744073709551615 by omega) (show w ≤ 18446744073709551615 by omega)
        omega
      have hsp := Nat.div_add_mod (q * w) 18446744073709551616
      have hlo : q * w % 18446744073709551616 < 18446744073709551616 := Nat.mod_lt _ (by decide)
      have hhi : q * w / 18446744073709551616 < 18446744073709551616 := Nat.div_lt_of_lt_mul hp
      by_cases ht : q * w ≤ r * 18446744073709551616 + c
      · have e := hT3 q (by omega) (htest.2 ht)
        have e : q = T := by omega
        clear htest hp g4 g5 hN1
        by_cases h1 : q * w / 18446744073709551616 < r
        · (refine gO ?_)
          (refine gC ?_)
          (refine callK_mem (ret_Mul64 q w g2 hw) rfl (by (simp (disch := omega) only [if_true, forall_const, reduceCtorEq, implies_true, bz]) <;> rfl) ?_; refine sX ?_; try refine aA ?_)
          (refine gO ?_)
          refine ⟨rfl, ?_⟩
          rw [e]
          simp only [u, i64, Nat.reduceSub, Nat.reduceAdd, bm]
        · have h2 : q * w / 18446744073709551616 = r := by omega
          have h3 : q * w % 18446744073709551616 ≤ c := by omega
          (refine gO ?_)
          (refine gC ?_)
          (refine callK_mem (ret_Mul64 q w g2 hw) rfl (by (simp (disch := omega) only [if_true, forall_const, reduceCtorEq, implies_true, bz]) <;> rfl) ?_; refine sX ?_; try refine aA ?_)
          (refine gO ?_)
          refine ⟨rfl, ?_⟩
          rw [e]
          simp only [u, i64, Nat.reduceSub, Nat.reduceAdd, bm]
      · have hlt : T < q := by
          rcases Nat.lt_or_ge T q with h | h
          · exact h
          · have e : q = T := by omega
            rw [← e] at hT2
            exact absurd (htest.1 hT2) ht
        have hnew := guess_less hN1 (by omega)
        have hov := fun h => guess_over hnew hV2.symm hU3.symm (by omega) hw h
        have hI1 : T ≤ q - 1 ∧ q - 1 < 18446744073709551616 ∧ (r + v) % 18446744073709551616 < 18446744073709551616 ∧ (decide ((r + v) / 18446744073709551616 = 1) = false → (q - 1) * v + (r + v) % 18446744073709551616 = N) ∧ (decide ((r + v) / 18446744073709551616 = 1) = true → (q - 1) * V2 ≤ U3) :=
          ⟨by omega, by omega, by omega, fun h => by rw [Nat.mod_eq_of_lt (by have := of_decide_eq_false h; omega)]; exact hnew, fun h => hov (by have := of_decide_eq_true h; omega)⟩
        clear htest hp g4 g5 hN1 hnew hov
        by_cases h2 : q * w / 18446744073709551616 = r
        · have h3 : ¬ q * w % 18446744073709551616 ≤ c := by omega
          have h1 : ¬ q * w / 18446744073709551616 < r := by omega
          (refine gO ?_)
          (refine gC ?_)
          (refine callK_mem (ret_Mul64 q w g2 hw) rfl (by (simp (disch := omega) only [if_true, forall_const, reduceCtorEq, implies_true, bz]) <;> rfl) ?_; refine sX ?_; try refine aA ?_)
          (refine gO ?_)
          (refine gC ?_)
          (refine callK_ext (retx_Add64 r v 0 (by decide)) rfl (by (simp (disch := omega) only [if_true, forall_const, reduceCtorEq, implies_true, bz]) <;> rfl) ?_; refine sX ?_; try refine aA ?_)
          (refine gO ?_)
          refine ⟨(q - 1, (r + v) % 18446744073709551616, decide ((r + v) / 18446744073709551616 = 1)), ?_, hI1, by simp only; omega⟩
          simp only [u, i64, Nat.reduceSub, Nat.reduceAdd, bm]
        · have h1 : ¬ q * w / 18446744073709551616 < r := by omega
          (refine gO ?_)
          (refine gC ?_)
          (refine callK_mem (ret_Mul64 q w g2 hw) rfl (by (simp (disch := omega) only [if_true, forall_const, reduceCtorEq, implies_true, bz]) <;> rfl) ?_; refine sX ?_; try refine aA ?_)
          (refine gO ?_)
          (refine gC ?_)
          (refine callK_ext (retx_Add64 r v 0 (by decide)) rfl (by (simp (disch := omega) only [if_true, forall_const, reduceCtorEq, implies_true, bz]) <;> rfl) ?_; refine sX ?_; try refine aA ?_)
          (refine gO ?_)
          refine ⟨(q - 1, (r + v) % 18446744073709551616, decide ((r + v) / 18446744073709551616 = 1)), ?_, hI1, by simp only; omega⟩
          simp only [u, i64, Nat.reduceSub, Nat.reduceAdd, bm]
end Go.Proofs
set_option linter.unusedVariables false
set_option linter.unusedSimpArgs false
namespace Go.Proofs
open Go.Ax
set_option maxRecDepth 100000 in
theorem retF_Trim (xs : List Nat) (hne : val xs ≠ 0) (hw : Wd xs) (hl : xs.length ≤ 1099511627776) : RetF Tryz.prog GEs 190 [ws xs] (us (words (val xs))) := by
  refine RetF_start Tryz.func190 (by kernel_rfl) rfl fun Q hQ hQ2 => ?_; rw [Tryz.ntmps190]; simp only [u, i64, Nat.reduceSub, Nat.reduceAdd, bm]
  (refine gO ?_)
  (refine gC ?_)
  (refine cR (ret_view xs hw hl) ?_; refine sX ?_; try refine aA ?_)
  have hlen := length_words_val_le hw
  have hpos : 0 < (words (val xs)).length := List.length_pos_iff.2 fun h => hne (words_eq_nil.1 h)
  (refine gO ?_)
  refine FinQF hQ (congrArg Array.toList Tryz.results190) _ _ _ _ _ _ _ rfl rfl (by simp [us_length]) (by rw [List.take_of_length_le (by simp [us_length])]) (us_noMem _)
set_option maxRecDepth 100000 in
theorem retF_Shl (xs : List Nat) (s : Nat) (hne : val xs ≠ 0) (hx : Wd xs) (hl : xs.length ≤ 549755813888) (hs : s ≤ 549755813888) : RetF Tryz.prog GEs 108 [ws xs, i64 s] (us (words (val xs * 2 ^ s))) := by
  refine RetF_start Tryz.func108 (by kernel_rfl) rfl fun Q hQ hQ2 => ?_; rw [Tryz.ntmps108]; simp only [u, i64, Nat.reduceSub, Nat.reduceAdd, bm]
  (refine gO ?_)
  (refine gC ?_)
  (refine cR (ret_view xs hx (by omega)) ?_; refine sX ?_; try refine aA ?_)
  have hX := length_words_val_le hx
  have hW := Wd_words (val xs)
  have hv := val_words (val xs)
  simp only [nat]
  generalize words (val xs) = X at *
  by_cases h0 : X.length = 0
  · have : X = [] := List.eq_nil_of_length_eq_zero h0
    subst this
    exact absurd hv.symm hne
  have hr : s % 64 < 64 := Nat.mod_lt _ (by decide)
  have hsq : s = 64 * (s / 64) + s % 64 := (Nat.div_add_mod s 64).symm
  (refine gO ?_)
  refine AWp_loop (fun i : Nat × List Nat => mk 58 [(0, ws X), (1, i64 s), (5, .own 0 0 0 (X.length + s / 64 + 1) 1), (20, ws X), (21, i64 X.length), (22, i64 i.1)] [⟨0, true, us i.2⟩])
      (fun i => i.1 ≤ X.length ∧ i.2.length = X.length + s / 64 + 1 ∧ Wd i.2 ∧ i.2.getD (i.1 + s / 64) 0 < 2 ^ (s % 64) ∧ (∀ k, i.1 + s / 64 < k → i.2.getD k 0 = 0) ∧ val (i.2.take (i.1 + s / 64)) + 18446744073709551616 ^ (i.1 + s / 64) * i.2.getD (i.1 + s / 64) 0 = val (X.take i.1) * 2 ^ s) (fun i => X.length - i.1) (0, List.replicate (X.length + s / 64 + 1) 0) ?_
      ⟨Nat.zero_le _, by simp, Wd_replicate _ (by decide), by rw [getD_rep]; exact Nat.two_pow_pos _, fun k _ => getD_rep _ _, by simp only [getD_rep]; simp [val, val_replicate_zero]⟩ ?_
  · simp only [u, i64, Nat.reduceSub, Nat.reduceAdd, bm]
  rintro ⟨n, os⟩ ⟨h1, h2, h3, h4, h5, h6⟩
  simp only at h1 h2 h3 h4 h5 h6
  simp only [u, i64, Nat.reduceSub, Nat.reduceAdd, bm]
  by_cases hn : n < X.length
  · have hw := hW.getD n
    have ho := h3.getD (n + s / 64)
    have e1 := val_take_getD X n
    have hlow : X.getD n 0 * 2 ^ (s % 64) % 18446744073709551616 < 18446744073709551616 := Nat.mod_lt _ (by decide)
    have hor := or_add _ _ _ hr h4 hw
    have horb : os.getD (n + s / 64) 0 ||| (X.getD n 0 * 2 ^ (s % 64) % 18446744073709551616) < 18446744073709551616 := Nat.or_lt_two_pow (n := 64) ho hlow
    have hhi := div_lt_two (X.getD n 0) (s % 64) hw
    have hmd : X.getD n 0 * 2 ^ (s % 64) % 18446744073709551616 + X.getD n 0 * 2 ^ (s % 64) / 18446744073709551616 * 18446744073709551616 = X.getD n 0 * 2 ^ (s % 64) := by omega
    have h6' := h6
    rw [Nat.pow_add] at h6'
    have hfin := shl_step h6' hmd
    have hs2 : 2 ^ s = 18446744073709551616 ^ (s / 64) * 2 ^ (s % 64) := by rw [Bpow, ← Nat.pow_add, ← hsq]
    have hB : 2 ^ (s % 64) ≤ 2 ^ 64 := Nat.pow_le_pow_right (by decide) (by omega)
    by_cases hr0 : 0 < s % 64
    · have hsd := shr_div (X.getD n 0) _ hr hr0
      (refine gO ?_)
      refine ⟨(n + 1, (os.set (n + s / 64) (os.getD (n + s / 64) 0 ||| (X.getD n 0 * 2 ^ (s % 64) % 18446744073709551616))).set (n + s / 64 + 1) (X.getD n 0 / 2 ^ (64 - s % 64))), ?_, ⟨hn, by simpa using h2, (h3.set _ horb).set _ (by rw [hsd]; exact Nat.lt_of_lt_of_le hhi hB), ?_, ?_, ?_⟩, by simp only; omega⟩
      · simp only [u, i64, Nat.reduceSub, Nat.reduceAdd, bm]
      · simp only
        rw [show n + 1 + s / 64 = n + s / 64 + 1 by omega, getD_set_self _ _ _ (by simp; omega), hsd]
        exact hhi
      · intro k hk
        simp only at hk ⊢
        rw [getD_set_ne _ _ _ _ (by omega), getD_set_ne _ _ _ _ (by omega)]
        exact h5 k (by omega)
      · simp only
        rw [show n + 1 + s / 64 = n + s / 64 + 1 by omega, getD_set_self _ _ _ (by simp; omega), List.take_set_of_le (by omega), val_set_take _ _ _ (by omega), hsd, hor, e1, Nat.add_mul, hs2, ← hs2, Nat.pow_succ, Nat.pow_add]
        rw [hfin, hs2, Nat.mul_assoc (18446744073709551616 ^ n)]
    · have hr1 : s % 64 = 0 := by omega
      (refine gO ?_)
      refine ⟨(n + 1, os.set (n + s / 64) (os.getD (n + s / 64) 0 ||| (X.getD n 0 * 2 ^ (s % 64) % 18446744073709551616))), ?_, ⟨hn, by simpa using h2, h3.set _ horb, ?_, ?_, ?_⟩, by simp only; omega⟩
      · simp only [u, i64, Nat.reduceSub, Nat.reduceAdd, bm]
      · simp only
        rw [getD_set_ne _ _ _ _ (by omega), h5 (n + 1 + s / 64) (by omega)]
        exact Nat.two_pow_pos _
      · intro k hk
        simp only at hk ⊢
        rw [getD_set_ne _ _ _ _ (by omega)]
        exact h5 k (by omega)
      · have hh0 : X.getD n 0 * 2 ^ (s % 64) / 18446744073709551616 = 0 := by rw [hr1, Nat.pow_zero, Nat.mul_one]; exact Nat.div_eq_of_lt hw
        rw [hh0, Nat.mul_zero, Nat.add_zero] at hfin
        simp only
        rw [getD_set_ne _ _ _ _ (by omega), h5 (n + 1 + s / 64) (by omega), Nat.mul_zero, Nat.add_zero, show n + 1 + s / 64 = n + s / 64 + 1 by omega, val_set_take _ _ _ (by omega), hor, e1, Nat.add_mul, Nat.pow_add]
        rw [hfin, hs2, Nat.mul_assoc (18446744073709551616 ^ n)]
  · have hn0 : n = X.length := by omega
    subst hn0
    have hall : val os = val xs * 2 ^ s := by
      have e := val_take_getD os (X.length + s / 64)
      rw [List.take_of_length_le (by omega), h6, List.take_length, hv] at e
      exact e
    have hne2 : val xs * 2 ^ s ≠ 0 := Nat.mul_ne_zero hne (Nat.ne_of_gt (Nat.two_pow_pos s))
    have hF := retF_Trim os (by rw [hall]; exact hne2) h3 (by omega)
    rw [hall] at hF
    (refine gO ?_)
    ((first | refine G_sregL 1 mixed (by first | rfl | kernel_rfl) rfl rfl ?_ | refine G_regL 1 mixed (by first | rfl | kernel_rfl) rfl rfl ?_); simp (disch := omega) only [u, i64, ax, eq_self, if_true, if_false, Nat.reduceAdd, Int.reduceToNat, Int.reduceAdd, tvs, bs, tk_0, tk_S]; refine aft_any ?_)
    (refine LStep_fresh rfl (by rfl) (by refine sX ?_; (simp (disch := omega) only [if_true, forall_const, reduceCtorEq, implies_true, bz]) <;> rfl) (us_noMem _) hF ?_; simp (disch := omega) only [u, i64, ax, eq_self, if_true, if_false, Nat.reduceAdd, Int.reduceToNat, Int.reduceAdd, tvs, bs, mp_0, mp_S, ap_0, ap_S, tk_0, tk_S, us_length]; try refine aA ?_)
    (refine gO ?_)
    refine FinQF hQ (congrArg Array.toList Tryz.results108) _ _ _ _ _ _ _ rfl rfl (by simp [us_length]) (by rw [List.take_of_length_le (by simp [us_length])]) (us_noMem _)
end Go.Proofs
set_option linter.unusedVariables false
set_option linter.unusedSimpArgs false
namespace Go.Proofs
open Go.Ax
def wf : Nat → Nat → List Nat
  | 0, _ => []
  | k + 1, n => n % 18446744073709551616 :: wf k (n / 18446744073709551616)
theorem wf_length : ∀ k n, (wf k n).length = k
  | 0, _ => rfl
  | k + 1, n => by simp only [wf, List.length_cons, wf_length k]
theorem wf_Wd : ∀ k n, Wd (wf k n)
  | 0, _ => Wd_nil
  | k + 1, n => Wd_cons (Nat.mod_lt _ (by decide)) (wf_Wd k _)
theorem wf_val : ∀ (xs : List Nat), Wd xs → wf xs.length (val xs) = xs
  | [], _ => rfl
  | x :: xs, h => by
    have hx := h.head
    have e1 : val (x :: xs) % 18446744073709551616 = x := by simp only [val]; omega
    have e2 : val (x :: xs) / 18446744073709551616 = val xs := by simp only [val]; omega
    simp only [List.length_cons, wf, e1, e2, wf_val xs h.tail]
theorem val_wf : ∀ (k n : Nat), n < 18446744073709551616 ^ k → val (wf k n) = n
  | 0, n, h => by simp only [Nat.pow_zero] at h; simp [wf, val]; omega
  | k + 1, n, h => by
    have : n / 18446744073709551616 < 18446744073709551616 ^ k := by rw [Nat.div_lt_iff_lt_mul (by decide)]; rw [Nat.pow_succ] at h; exact h
    simp only [wf, val, val_wf k _ this]
    exact Nat.mod_add_div n 18446744073709551616
/-- A list in three pieces. -/
theorem three (W : List Nat) (off n : Nat) : W = W.take off ++ ((W.drop off).take n ++ W.drop (off + n)) := by
  conv => lhs; rw [← List.take_append_drop off W]
  congr 1
  conv => lhs; rw [← List.take_append_drop n (W.drop off)]
  rw [List.drop_drop]
theorem less_word {q w c b x : Nat} (hq : q < 18446744073709551616) (hw : w < 18446744073709551616) (hc : c < 18446744073709551616) (hb : b ≤ 1) (hx : x < 18446744073709551616) :
    (q * w / 18446744073709551616 + (q * w % 18446744073709551616 + c) / 18446744073709551616) < 18446744073709551616 ∧ (q * w % 18446744073709551616 + c) / 18446744073709551616 ≤ 1 ∧
    (x + 18446744073709551616 - (q * w % 18446744073709551616 + c) % 18446744073709551616 - b) % 18446744073709551616 + q * w + (c + b) = x + (q * w / 18446744073709551616 + (q * w % 18446744073709551616 + c) / 18446744073709551616 + (if x < (q * w % 18446744073709551616 + c) % 18446744073709551616 + b then 1 else 0)) * 18446744073709551616 := by
  have hp : q * w ≤ 18446744073709551616 * 18446744073709551616 - 2 * 18446744073709551616 + 1 := by
    have := Nat.mul_le_mul (show q ≤ 18446744073709551615 by omega) (show w ≤ 18446744073709551615 by omega)
    omega
  generalize q * w = p at *
  refine ⟨by omega, by omega, ?_⟩
  split <;> omega
theorem less_step {P S U k u' x k' V w q : Nat} (h : S + q * V = U + k * P) (h2 : u' + q * w + k = x + k' * 18446744073709551616) :
    (S + P * u') + q * (V + P * w) = (U + P * x) + k' * (P * 18446744073709551616) := by
  have e : P * (u' + q * w + k) = P * (x + k' * 18446744073709551616) := by rw [h2]
  have e1 : q * (V + P * w) = q * V + P * (q * w) := by rw [Nat.mul_add, Nat.mul_left_comm]
  have e2 : P * (k' * 18446744073709551616) = k' * (P * 18446744073709551616) := by rw [Nat.mul_left_comm]
  have e3 : k * P = P * k := Nat.mul_comm _ _
  simp only [Nat.mul_add] at e
  rw [e1]
  omega
theorem setd (W : List Nat) (off i v : Nat) : (W.set (off + i) v).drop off = (W.drop off).set i v := by
  rw [List.drop_set, if_neg (by omega), Nat.add_sub_cancel_left]
theorem getd (W : List Nat) (off i : Nat) : (W.drop off).getD i 0 = W.getD (off + i) 0 := by
  simp [List.getD_eq_getElem?_getD, List.getElem?_drop]
theorem getd_of {W U : List Nat} {k : Nat} (h : W.drop k = U.drop k) : W.getD k 0 = U.getD k 0 := by
  have := congrArg (fun l : List Nat => l.getD 0 0) h
  simpa [List.getD_eq_getElem?_getD, List.getElem?_drop] using this
/-- What becomes of the row. -/
def lessR (U V : List Nat) (off q : Nat) : List Nat :=
  U.take off ++ (wf (V.length + 1) (if val ((U.drop off).take (V.length + 1)) < q * val V then val ((U.drop off).take (V.length + 1)) + val V - q * val V else val ((U.drop off).take (V.length + 1)) - q * val V) ++ U.drop (off + (V.length + 1)))
theorem lessR_of {U V W : List Nat} {off q : Nat} (hW : Wd W) (hl : W.length = U.length) (hoff : off + (V.length + 1) ≤ U.length) (h1 : W.take off = U.take off) (h2 : W.drop (off + (V.length + 1)) = U.drop (off + (V.length + 1)))
    (h3 : val ((W.drop off).take (V.length + 1)) = if val ((U.drop off).take (V.length + 1)) < q * val V then val ((U.drop off).take (V.length + 1)) + val V - q * val V else val ((U.drop off).take (V.length + 1)) - q * val V) : W = lessR U V off q := by
  unfold lessR
  rw [← h3, ← h1, ← h2]
  have hlen : ((W.drop off).take (V.length + 1)).length = V.length + 1 := by
    rw [List.length_take, List.length_drop]; omega
  have := wf_val _ ((hW.drop off).take (V.length + 1))
  rw [hlen] at this
  rw [this]
  exact three W off (V.length + 1)
theorem less_end {T s c P A S qV X Vv : Nat} (h1 : A + P * s = S) (h2 : S + qV = X + 1 * (P * 18446744073709551616)) (h3 : T + c * P = A + Vv) (h4 : qV ≤ X + Vv) (h5 : T < P) (h6 : s < 18446744073709551616) (h7 : c ≤ 1) : T + P * ((s + c) % 18446744073709551616) = X + Vv - qV := by
  have e1 : c * P = P * c := Nat.mul_comm _ _
  rcases Nat.lt_or_ge (s + c) 18446744073709551616 with h | h
  · have e2 := Nat.mul_le_mul_left P (show s + c + 1 ≤ 18446744073709551616 from h)
    simp only [Nat.mul_add, Nat.mul_one] at e2
    omega
  · have e3 : s + c = 18446744073709551616 := by omega
    have e4 : P * (s + c) = P * 18446744073709551616 := by rw [e3]
    rw [Nat.mul_add] at e4
    rw [e3, Nat.mod_self, Nat.mul_zero]
    omega
theorem last_word {c b x : Nat} (hc : c < 18446744073709551616) (hb : b ≤ 1) (hx : x < 18446744073709551616) : (x + 18446744073709551616 - c - b) % 18446744073709551616 + (c + b) = x + (if x < c + b then 1 else 0) * 18446744073709551616 := by
  split <;> omega
theorem drop_more {W U : List Nat} {k : Nat} (h : W.drop k = U.drop k) : W.drop (k + 1) = U.drop (k + 1) := by
  have := congrArg (List.drop 1) h
  simpa [List.drop_drop] using this
set_option maxRecDepth 100000 in
set_option maxHeartbeats 4000000 in
theorem ret_less (U V : List Nat) (off q : Nat) (hU : Wd U) (hV : Wd V) (hq : q < 18446744073709551616) (hoff : off + (V.length + 1) ≤ U.length) (hl : U.length ≤ 1099511627776) (hfit : q * val V ≤ val ((U.drop off).take (V.length + 1)) + val V) :
    RetM Tryz.prog GEs 225 [.own 0 0 off (V.length + 1) 1, ws V, u q] (us U) (us (lessR U V off q)) (.bool (decide (val ((U.drop off).take (V.length + 1)) < q * val V))) := by
  refine RetM_start Tryz.func225 (by kernel_rfl) rfl fun Q hQ hQ2 => ?_; rw [Tryz.ntmps225, sM_eq]; simp only [u, i64, Nat.reduceSub, Nat.reduceAdd, bm]
  (refine gO ?_)
  refine AWp_loop (fun i : Nat × List Nat × Nat × Nat => mk 99 [(0, .own 0 0 off (V.length + 1) 1), (1, ws V), (2, u q), (7, u i.2.2.1), (8, u i.2.2.2), (17, ws V), (18, i64 V.length), (19, i64 i.1)] [⟨0, true, us i.2.1⟩])
    (fun i => i.1 ≤ V.length ∧ i.2.1.length = U.length ∧ Wd i.2.1 ∧ i.2.2.1 < 18446744073709551616 ∧ i.2.2.2 ≤ 1 ∧ i.2.1.take off = U.take off ∧ i.2.1.drop (off + i.1) = U.drop (off + i.1) ∧ val ((i.2.1.drop off).take i.1) + q * val (V.take i.1) = val ((U.drop off).take i.1) + (i.2.2.1 + i.2.2.2) * 18446744073709551616 ^ i.1)
    (fun i => V.length - i.1) (0, U, 0, 0) ?_ ⟨Nat.zero_le _, rfl, hU, by simp, by simp, rfl, rfl, by simp [val]⟩ ?_
  · simp only [u, i64, Nat.reduceSub, Nat.reduceAdd, bm]
  rintro ⟨n, W, c, b⟩ ⟨h1, h2, h3, h4, h5, h6, h7, h8⟩
  simp only at h1 h2 h3 h4 h5 h6 h7 h8
  simp only [u, i64, Nat.reduceSub, Nat.reduceAdd, bm]
  have hx := h3.getD (off + n)
  have e1 := val_take_getD (U.drop off) n
  rw [getd, ← getd_of h7] at e1
  by_cases hn : n < V.length
  · have hw := hV.getD n
    obtain ⟨k1, k2, k3⟩ := less_word hq hw h4 h5 hx
    have e2 := val_take_getD V n
    have hs := val_set_take (W.drop off) n ((W.getD (off + n) 0 + 18446744073709551616 - (q * V.getD n 0 % 18446744073709551616 + c) % 18446744073709551616 - b) % 18446744073709551616) (by rw [List.length_drop]; omega)
    rw [← setd] at hs
    have e3 := less_step h8 k3
    rw [← hs, ← e1, ← e2, ← Nat.pow_succ] at e3
    have hlow : (q * V.getD n 0 % 18446744073709551616 + c) % 18446744073709551616 < 18446744073709551616 := Nat.mod_lt _ (by decide)
    (refine gO ?_)
    (refine gC ?_)
    (refine callK_mem (ret_Mul64 q (V.getD n 0) hq hw) rfl (by (simp (disch := omega) only [if_true, forall_const, reduceCtorEq, implies_true, bz]) <;> rfl) ?_; refine sX ?_; try refine aA ?_)
    (refine gO ?_)
    (refine gC ?_)
    (refine callK_ext (retx_Add64 (q * V.getD n 0 % 18446744073709551616) c 0 (by decide)) rfl (by (simp (disch := omega) only [if_true, forall_const, reduceCtorEq, implies_true, bz]) <;> rfl) ?_; refine sX ?_; try refine aA ?_)
    (refine gO ?_)
    (refine gC ?_)
    (refine callK_ext (retx_Sub64 (W.getD (off + n) 0) ((q * V.getD n 0 % 18446744073709551616 + c) % 18446744073709551616) b h5) rfl (by (simp (disch := omega) only [if_true, forall_const, reduceCtorEq, implies_true, bz]) <;> rfl) ?_; refine sX ?_; try refine aA ?_)
    (refine gO ?_)
    refine ⟨(n + 1, W.set (off + n) ((W.getD (off + n) 0 + 18446744073709551616 - (q * V.getD n 0 % 18446744073709551616 + c) % 18446744073709551616 - b) % 18446744073709551616), q * V.getD n 0 / 18446744073709551616 + (q * V.getD n 0 % 18446744073709551616 + c) / 18446744073709551616, if W.getD (off + n) 0 < (q * V.getD n 0 % 18446744073709551616 + c) % 18446744073709551616 + b then 1 else 0), ?_,
      ⟨hn, by simpa using h2, h3.set _ (Nat.mod_lt _ (by decide)), k1, ite_le1 _, by rw [List.take_set_of_le (by omega)]; exact h6, ?_, e3⟩, by simp only; omega⟩
    · simp only [u, i64, Nat.reduceSub, Nat.reduceAdd, bm]
    · show (W.set (off + n) _).drop (off + n + 1) = U.drop (off + n + 1)
      rw [List.drop_set_of_lt (by omega)]
      exact drop_more h7
  · have hn0 : n = V.length := by omega
    subst hn0
    rw [List.take_of_length_le (Nat.le_refl _)] at h8
    have k3 := last_word h4 h5 hx
    have hs := val_set_take (W.drop off) V.length ((W.getD (off + V.length) 0 + 18446744073709551616 - c - b) % 18446744073709551616) (by rw [List.length_drop]; omega)
    rw [← setd] at hs
    have e3 := less_step (V := val V) (w := 0) h8 (by rw [Nat.mul_zero, Nat.add_zero]; exact k3)
    rw [← hs, ← e1] at e3
    simp only [Nat.mul_zero, Nat.add_zero] at e3
    have g1 : (W.set (off + V.length) ((W.getD (off + V.length) 0 + 18446744073709551616 - c - b) % 18446744073709551616)).length = U.length := by simpa using h2
    have g2 : Wd (W.set (off + V.length) ((W.getD (off + V.length) 0 + 18446744073709551616 - c - b) % 18446744073709551616)) := h3.set _ (Nat.mod_lt _ (by decide))
    have g3 : (W.set (off + V.length) ((W.getD (off + V.length) 0 + 18446744073709551616 - c - b) % 18446744073709551616)).take off = U.take off := by rw [List.take_set_of_le (by omega)]; exact h6
    have g4 : (W.set (off + V.length) ((W.getD (off + V.length) 0 + 18446744073709551616 - c - b) % 18446744073709551616)).drop (off + (V.length + 1)) = U.drop (off + (V.length + 1)) := by
      show (W.set (off + V.length) _).drop (off + V.length + 1) = U.drop (off + V.length + 1)
      rw [List.drop_set_of_lt (by omega)]
      exact drop_more h7
    have g5 := val_lt ((g2.drop off).take (V.length + 1))
    rw [List.length_take, List.length_drop, Nat.min_eq_left (by omega), Nat.pow_succ] at g5
    by_cases hb : W.getD (off + V.length) 0 < c + b
    · rw [if_pos hb] at e3
      have hmod : (W.getD (off + V.length) 0 + 18446744073709551616 - c - b) % 18446744073709551616 = W.getD (off + V.length) 0 + 18446744073709551616 - c - b := Nat.mod_eq_of_lt (by omega)
      rw [hmod] at g1 g2 g3 g4 g5 e3
      have hlt : val ((U.drop off).take (V.length + 1)) < q * val V := by omega
      (refine gO ?_)
      (refine gC ?_)
      (refine callK_ext (retx_Sub64 (W.getD (off + V.length) 0) c b h5) rfl (by (simp (disch := omega) only [if_true, forall_const, reduceCtorEq, implies_true, bz]) <;> rfl) ?_; refine sX ?_; try refine aA ?_)
      generalize hW1 : W.set (off + V.length) (W.getD (off + V.length) 0 + 18446744073709551616 - c - b) = W1 at *
      clear hmod k3 hs h8 h7 h6 hx e1 h3 h2 hW1 hb
      (refine gO ?_)
      refine AWp_loop (fun i : Nat × List Nat × Nat => mk 99 [(0, .own 0 0 off (V.length + 1) 1), (1, ws V), (14, u i.2.2), (70, ws V), (71, i64 V.length), (72, i64 i.1)] [⟨0, true, us i.2.1⟩])
        (fun i => i.1 ≤ V.length ∧ i.2.1.length = U.length ∧ Wd i.2.1 ∧ i.2.2 ≤ 1 ∧ i.2.1.take off = U.take off ∧ i.2.1.drop (off + i.1) = W1.drop (off + i.1) ∧ val ((i.2.1.drop off).take i.1) + i.2.2 * 18446744073709551616 ^ i.1 = val ((W1.drop off).take i.1) + val (V.take i.1))
        (fun i => V.length - i.1) (0, W1, 0) ?_ ⟨Nat.zero_le _, g1, g2, by simp, g3, rfl, by simp [val]⟩ ?_
      · simp only [u, i64, Nat.reduceSub, Nat.reduceAdd, bm]
      rintro ⟨n, W, c⟩ ⟨h1, h2, h3, h4, h6, h7, h8⟩
      simp only at h1 h2 h3 h4 h6 h7 h8
      simp only [u, i64, Nat.reduceSub, Nat.reduceAdd, bm]
      have hx := h3.getD (off + n)
      have e1 := val_take_getD (W1.drop off) n
      rw [getd, ← getd_of h7] at e1
      by_cases hn : n < V.length
      · have hw := hV.getD n
        have e2 := val_take_getD V n
        have hs := val_set_take (W.drop off) n ((W.getD (off + n) 0 + V.getD n 0 + c) % 18446744073709551616) (by rw [List.length_drop]; omega)
        rw [← setd] at hs
        have e4 := add_step _ _ _ _ c (W.getD (off + n) 0) (V.getD n 0) h8
        rw [← hs, ← e1, ← e2, ← Nat.pow_succ] at e4
        have hc1 : (W.getD (off + n) 0 + V.getD n 0 + c) / 18446744073709551616 ≤ 1 := by omega
        (refine gO ?_)
        (refine gC ?_)
        (refine callK_ext (retx_Add64 (W.getD (off + n) 0) (V.getD n 0) c h4) rfl (by (simp (disch := omega) only [if_true, forall_const, reduceCtorEq, implies_true, bz]) <;> rfl) ?_; refine sX ?_; try refine aA ?_)
        (refine gO ?_)
        refine ⟨(n + 1, W.set (off + n) ((W.getD (off + n) 0 + V.getD n 0 + c) % 18446744073709551616), (W.getD (off + n) 0 + V.getD n 0 + c) / 18446744073709551616), ?_,
          ⟨hn, by simpa using h2, h3.set _ (Nat.mod_lt _ (by decide)), hc1, by rw [List.take_set_of_le (by omega)]; exact h6, ?_, e4⟩, by simp only; omega⟩
        · simp only [u, i64, Nat.reduceSub, Nat.reduceAdd, bm]
        · show (W.set (off + n) _).drop (off + n + 1) = W1.drop (off + n + 1)
          rw [List.drop_set_of_lt (by omega)]
          exact drop_more h7
      · have hn0 : n = V.length := by omega
        subst hn0
        rw [List.take_of_length_le (Nat.le_refl _)] at h8
        have hT := val_lt ((h3.drop off).take V.length)
        rw [List.length_take, List.length_drop, Nat.min_eq_left (by omega)] at hT
        have hs := val_set_take (W.drop off) V.length ((W.getD (off + V.length) 0 + c) % 18446744073709551616) (by rw [List.length_drop]; omega)
        rw [← setd, less_end e1.symm e3 h8 hfit hT hx h4] at hs
        have hend : W.set (off + V.length) ((W.getD (off + V.length) 0 + c) % 18446744073709551616) = lessR U V off q := by
          refine lessR_of (h3.set _ (Nat.mod_lt _ (by decide))) (by simpa using h2) hoff (by rw [List.take_set_of_le (by omega)]; exact h6) ?_ (by rw [if_pos hlt]; exact hs)
          show (W.set (off + V.length) _).drop (off + V.length + 1) = U.drop (off + V.length + 1)
          rw [List.drop_set_of_lt (by omega), drop_more h7]
          exact g4
        (refine gO ?_)
        rw [hend]
        refine FinQM hQ (congrArg Array.toList Tryz.results225) _ _ rfl (us_noMem _) ?_; simp (disch := omega) only [u, i64, ax, if_true, forall_const, reduceCtorEq, implies_true, tvs, bf, decT hlt]
    · rw [if_neg hb, Nat.zero_mul, Nat.add_zero] at e3
      have hge : ¬ val ((U.drop off).take (V.length + 1)) < q * val V := by omega
      have hend : W.set (off + V.length) ((W.getD (off + V.length) 0 + 18446744073709551616 - c - b) % 18446744073709551616) = lessR U V off q :=
        lessR_of g2 g1 hoff g3 g4 (by rw [if_neg hge]; omega)
      (refine gO ?_)
      (refine gC ?_)
      (refine callK_ext (retx_Sub64 (W.getD (off + V.length) 0) c b h5) rfl (by (simp (disch := omega) only [if_true, forall_const, reduceCtorEq, implies_true, bz]) <;> rfl) ?_; refine sX ?_; try refine aA ?_)
      (refine gO ?_)
      rw [hend]
      refine FinQM hQ (congrArg Array.toList Tryz.results225) _ _ rfl (us_noMem _) ?_; simp (disch := omega) only [u, i64, ax, if_true, forall_const, reduceCtorEq, implies_true, tvs, bf, decF hge]
end Go.Proofs
set_option linter.unusedVariables false
set_option linter.unusedSimpArgs false
namespace Go.Proofs
open Go.Ax
theorem take_zero_rest {xs : List Nat} {n : Nat} (hx : Wd xs) (h : val xs < 18446744073709551616 ^ n) : val (xs.take n) = val xs := by
  rcases Nat.lt_or_ge n xs.length with hn | hn
  · have e := val_split xs n (by omega)
    rcases Nat.eq_zero_or_pos (val (xs.drop n)) with h0 | h0
    · rw [h0, Nat.mul_zero, Nat.add_zero] at e; exact e.symm
    · have := Nat.mul_le_mul_left (18446744073709551616 ^ n) (show 1 ≤ val (xs.drop n) from h0)
      omega
  · rw [List.take_of_length_le hn]
/-- What the step of the division does to the row. -/
theorem lessR_facts {U V : List Nat} {j q : Nat} (hU : Wd U) (hV : Wd V) (hlen : j + (V.length + 1) ≤ U.length) (hV0 : 0 < val V) (hlt : val (U.drop (j + 1)) < val V)
    (h1 : val (U.drop j) / val V ≤ q) (h2 : q ≤ val (U.drop j) / val V + 1) :
    val ((U.drop j).take (V.length + 1)) = val (U.drop j) ∧ q * val V ≤ val (U.drop j) + val V ∧
    (if val (U.drop j) < q * val V then q - 1 else q) = val (U.drop j) / val V ∧
    (lessR U V j q).length = U.length ∧ Wd (lessR U V j q) ∧ val ((lessR U V j q).drop j) = val (U.drop j) % val V ∧
    val (lessR U V j q) + val V * (18446744073709551616 ^ j * (val (U.drop j) / val V)) = val U := by
  have hd := val_drop U j (by omega)
  have hx := hU.getD j
  have hVl := val_lt hV
  have hsm : val (U.drop j) < 18446744073709551616 ^ (V.length + 1) := by
    rw [hd, Nat.pow_succ]; omega
  have et := take_zero_rest (hU.drop j) hsm
  have hdm := Nat.div_add_mod (val (U.drop j)) (val V)
  have hmd := Nat.mod_lt (val (U.drop j)) hV0
  have hq1 := Nat.mul_le_mul_right (val V) h2
  rw [Nat.add_mul, Nat.mul_comm (val (U.drop j) / val V)] at hq1
  have hfit : q * val V ≤ val (U.drop j) + val V := by omega
  have hcase : (val (U.drop j) < q * val V ∧ q = val (U.drop j) / val V + 1) ∨ (¬ val (U.drop j) < q * val V ∧ q = val (U.drop j) / val V) := by
    rcases Nat.lt_or_ge (val (U.drop j)) (q * val V) with h | h
    · refine .inl ⟨h, ?_⟩
      rcases Nat.lt_or_ge (val (U.drop j) / val V) q with h3 | h3
      · omega
      · have e : q = val (U.drop j) / val V := by omega
        rw [e, Nat.mul_comm] at h
        omega
    · exact .inr ⟨by omega, Nat.le_antisymm ((Nat.le_div_iff_mul_le hV0).2 h) h1⟩
  have hval : (if val (U.drop j) < q * val V then val (U.drop j) + val V - q * val V else val (U.drop j) - q * val V) = val (U.drop j) % val V := by
    rcases hcase with ⟨ha, hb⟩ | ⟨ha, hb⟩
    · rw [if_pos ha, hb, Nat.add_mul, Nat.mul_comm (val (U.drop j) / val V)]; omega
    · rw [if_neg ha, hb, Nat.mul_comm (val (U.drop j) / val V)]; omega
  have hlr : lessR U V j q = U.take j ++ (wf (V.length + 1) (val (U.drop j) % val V) ++ U.drop (j + (V.length + 1))) := by
    unfold lessR; rw [et, hval]
  have hWd : Wd (lessR U V j q) := by rw [hlr]; exact (hU.take j).append ((wf_Wd _ _).append (hU.drop _))
  have hrest : val (U.drop (j + (V.length + 1))) = 0 := by
    have e := val_split (U.drop j) (V.length + 1) (by rw [List.length_drop]; omega)
    rw [List.drop_drop, et] at e
    rcases Nat.eq_zero_or_pos (val (U.drop (j + (V.length + 1)))) with h0 | h0
    · exact h0
    · have := Nat.mul_le_mul_left (18446744073709551616 ^ (V.length + 1)) (show 1 ≤ val (U.drop (j + (V.length + 1))) from h0)
      omega
  have hlt : (U.take j).length = j := by rw [List.length_take]; omega
  have hdr : (lessR U V j q).drop j = wf (V.length + 1) (val (U.drop j) % val V) ++ U.drop (j + (V.length + 1)) := by
    rw [hlr, List.drop_append_of_le_length (by omega), List.drop_of_length_le (by omega), List.nil_append]
  have hvd : val ((lessR U V j q).drop j) = val (U.drop j) % val V := by
    rw [hdr, val_append, hrest, Nat.mul_zero, Nat.add_zero, val_wf _ _ (by rw [Nat.pow_succ]; omega)]
  have hll : (lessR U V j q).length = U.length := by
    rw [hlr, List.length_append, List.length_append, wf_length, hlt, List.length_drop]; omega
  refine ⟨et, hfit, ?_, hll, hWd, hvd, ?_⟩
  · rcases hcase with ⟨ha, hb⟩ | ⟨ha, hb⟩
    · rw [if_pos ha, hb, Nat.add_sub_cancel]
    · rw [if_neg ha, hb]
  · have e1 := val_split (lessR U V j q) j (by omega)
    have e2 := val_split U j (by omega)
    have e3 : (lessR U V j q).take j = U.take j := by
      rw [hlr, List.take_append_of_le_length (by omega), List.take_of_length_le (by omega)]
    rw [e3, hvd] at e1
    rw [e1, e2]
    conv => rhs; rw [← hdm]
    rw [Nat.mul_add, Nat.mul_left_comm (val V)]
    omega
theorem v2_eq (P l a b : Nat) : l + P * b + P * 18446744073709551616 * a = (a * 18446744073709551616 + b) * P + l := by
  rw [Nat.add_mul, Nat.mul_assoc P 18446744073709551616 a, Nat.mul_comm P (18446744073709551616 * a), Nat.mul_comm 18446744073709551616 a, Nat.mul_comm P b]; omega
theorem u3_eq (P l a b c : Nat) : l + P * c + P * 18446744073709551616 * b + P * 18446744073709551616 * 18446744073709551616 * a = ((a * 18446744073709551616 + b) * 18446744073709551616 + c) * P + l := by
  rw [Nat.add_mul _ c P, Nat.mul_right_comm (a * 18446744073709551616 + b) 18446744073709551616 P, Nat.add_mul (a * 18446744073709551616) b P, Nat.mul_right_comm a 18446744073709551616 P, Nat.mul_comm P c, Nat.mul_right_comm P 18446744073709551616 b, Nat.mul_comm P b, Nat.mul_right_comm (P * 18446744073709551616) 18446744073709551616 a, Nat.mul_right_comm P 18446744073709551616 a, Nat.mul_comm P a]; omega
/-- The estimate at the head of the row. -/
theorem guess_ok {U V : List Nat} {j : Nat} (hU : Wd U) (hV : Wd V) (hlen : j + (V.length + 1) ≤ U.length) (h2 : 2 ≤ V.length) (htop : 9223372036854775808 ≤ V.getD (V.length - 1) 0) (hlt : val (U.drop (j + 1)) < val V) :
    val (U.drop j) / val V ≤ min 18446744073709551615 (((U.getD (j + V.length) 0 * 18446744073709551616 + U.getD (j + V.length - 1) 0) * 18446744073709551616 + U.getD (j + V.length - 2) 0) / (V.getD (V.length - 1) 0 * 18446744073709551616 + V.getD (V.length - 2) 0)) ∧
    min 18446744073709551615 (((U.getD (j + V.length) 0 * 18446744073709551616 + U.getD (j + V.length - 1) 0) * 18446744073709551616 + U.getD (j + V.length - 2) 0) / (V.getD (V.length - 1) 0 * 18446744073709551616 + V.getD (V.length - 2) 0)) ≤ val (U.drop j) / val V + 1 := by
  obtain ⟨m, hm⟩ : ∃ m, V.length = m + 2 := ⟨V.length - 2, by omega⟩
  have hd := val_drop U j (by omega)
  have hx := hU.getD j
  have hVl := val_lt hV
  have hsm : val (U.drop j) < 18446744073709551616 ^ (V.length + 1) := by rw [hd, Nat.pow_succ]; omega
  have et := take_zero_rest (hU.drop j) hsm
  rw [hm] at et htop ⊢
  simp only [Nat.add_sub_cancel, show j + (m + 2) - 1 = j + (m + 1) by omega, show j + (m + 2) - 2 = j + m by omega, show m + 2 - 1 = m + 1 by omega] at htop ⊢
  have eV : val V = val (V.take (m + 2)) := by rw [List.take_of_length_le (by omega)]
  rw [val_take_getD V (m + 1), val_take_getD V m] at eV
  have eU := et.symm
  rw [show m + 2 + 1 = (m + 2) + 1 from rfl, val_take_getD (U.drop j) (m + 2), val_take_getD (U.drop j) (m + 1), val_take_getD (U.drop j) m, getd, getd, getd] at eU
  have hP0 : 0 < 18446744073709551616 ^ m := Nat.pow_pos (by decide)
  have hlV := val_lt (hV.take m)
  have hlU := val_lt ((hU.drop j).take m)
  rw [List.length_take, Nat.min_eq_left (by omega)] at hlV
  rw [List.length_take, List.length_drop, Nat.min_eq_left (by omega)] at hlU
  have hB : val (U.drop j) < 18446744073709551616 * val V := by rw [hd]; omega
  simp only [Nat.pow_succ] at eV eU
  have := knuth (V := val V) (U := val (U.drop j)) (V2 := V.getD (m + 1) 0 * 18446744073709551616 + V.getD m 0) (Vl := val (V.take m)) (P := 18446744073709551616 ^ m) (U3 := (U.getD (j + (m + 2)) 0 * 18446744073709551616 + U.getD (j + (m + 1)) 0) * 18446744073709551616 + U.getD (j + m) 0) (Ul := val ((U.drop j).take m)) (B := 18446744073709551616)
    (by rw [eV]; exact v2_eq _ _ _ _) hlV (by rw [eU]; exact u3_eq _ _ _ _ _) hlU hB (by omega) (by omega)
  simpa using this
end Go.Proofs
