/-
  Contracts of functions of the program, each proved by a walk.
-/
import Derived.Test.YtpnljnmpocobjaaGreatDoorX12
import Derived.Test.YtpnljnmpocobjaaGreatDoorX9
set_option maxRecDepth 100000
set_option linter.unusedVariables false
set_option linter.unusedSimpArgs false
namespace Go.Proofs
open Go.Ax
set_option maxRecDepth 100000 in
theorem ret_Digits (xs : List Nat) (hx : Wd xs) (hl : xs.length ≤ 549755813888) : Ret Tryz.prog GEs 217 [ws xs] (ws (digs xs)) := by
  refine RetN_start Tryz.func217 (by kernel_rfl) rfl fun Q hQ hQ2 => ?_; rw [Tryz.ntmps217]; simp only [u, i64, Nat.reduceSub, Nat.reduceAdd, bm]
  (refine gO ?_)
  refine AWp_loop (fun i : Nat × List Nat => mk 25 [(0, ws xs), (3, gA i.2 i.1), (4, i64 i.1)] (gR i.2 i.1)) (fun i => i.1 ≤ xs.length ∧ i.2 = digs (xs.take i.1)) (fun i => xs.length - i.1) (0, []) ?_ ⟨Nat.zero_le _, rfl⟩ ?_
  · simp only [u, i64, Nat.reduceSub, Nat.reduceAdd, bm]
  rintro ⟨k, ds⟩ ⟨hk, hds⟩
  simp only at hk hds
  have hlen : ds.length = 2 * k := by rw [hds, digs_length, List.length_take]; omega
  by_cases hn : k < xs.length
  · have hdt := digs_take xs k hn
    rw [← hds] at hdt
    have hw := hx.getD k
    cases k with
    | zero =>
      have h0 : ds = [] := hds
      subst h0
      simp only [u, i64, Nat.reduceSub, Nat.reduceAdd, bm]
      (refine gO ?_)
      refine ⟨(1, [xs.getD 0 0 % 4294967296, xs.getD 0 0 / 4294967296]), ?_, ⟨hn, hdt.symm⟩, by simp only; omega⟩
      simp only [u, i64, Nat.reduceSub, Nat.reduceAdd, bm]
    | succ k =>
      simp only [u, i64, Nat.reduceSub, Nat.reduceAdd, bm]
      (refine gO ?_)
      refine ⟨(k + 2, ds ++ [xs.getD (k + 1) 0 % 4294967296, xs.getD (k + 1) 0 / 4294967296]), ?_, ⟨hn, hdt.symm⟩, by simp only; omega⟩
      simp only [u, i64, Nat.reduceSub, Nat.reduceAdd, bm]
  · have hk0 : k = xs.length := by omega
    rw [hk0, List.take_length] at hds
    subst hds
    cases k with
    | zero =>
      have hx0 : xs = [] := List.eq_nil_of_length_eq_zero hk0.symm
      subst hx0
      simp only [u, i64, Nat.reduceSub, Nat.reduceAdd, bm]
      (refine gO ?_)
      (refine FinQ hQ (congrArg Array.toList Tryz.results217) _ _ ?_); simp (disch := omega) only [u, i64, ax, if_true, forall_const, reduceCtorEq, implies_true, tvs, bf]
      rfl
    | succ k =>
      simp only [u, i64, Nat.reduceSub, Nat.reduceAdd, bm]
      (refine gO ?_)
      (refine FinQ hQ (congrArg Array.toList Tryz.results217) _ _ ?_); simp (disch := omega) only [u, i64, ax, if_true, forall_const, reduceCtorEq, implies_true, tvs, bf]
set_option maxRecDepth 100000 in
theorem ret_Row (ds : List Nat) (hd : Ds 4294967296 ds) (he : ds.length % 2 = 0) (hl : ds.length ≤ 1099511627776) : Ret Tryz.prog GEs 253 [ws ds] (ws (joined ds)) := by
  refine RetN_start Tryz.func253 (by kernel_rfl) rfl fun Q hQ hQ2 => ?_; rw [Tryz.ntmps253]; simp only [u, i64, Nat.reduceSub, Nat.reduceAdd, bm]
  (refine gO ?_)
  refine AWp_loop (fun i : Nat × Nat × List Nat => mk 27 [(0, ws ds), (3, gA i.2.2 i.1), (4, i64 i.2.1)] (gR i.2.2 i.1)) (fun i => i.2.1 = 2 * i.1 ∧ i.2.1 ≤ ds.length ∧ i.2.2 = joined (ds.take i.2.1)) (fun i => ds.length - i.2.1) (0, 0, []) ?_ ⟨rfl, Nat.zero_le _, rfl⟩ ?_
  · simp only [u, i64, Nat.reduceSub, Nat.reduceAdd, bm]
  rintro ⟨k, j, rs⟩ ⟨hj, hk, hrs⟩
  simp only at hj hk hrs
  by_cases hn : j + 1 < ds.length
  · have hdt := joined_take ds k (by omega)
    rw [show 2 * (k + 1) = j + 2 by omega, ← hj, ← hrs] at hdt
    have h1 := hd.getD (by decide) j
    have h2 := hd.getD (by decide) (j + 1)
    have hrl : rs.length ≤ ds.length := by rw [hrs, joined_length, List.length_take]; omega
    cases k with
    | zero =>
      have hj0 : j = 0 := by omega
      subst hj0
      have h0 : rs = [] := hrs
      subst h0
      simp only [Nat.zero_add] at h2
      simp only [u, i64, Nat.reduceSub, Nat.reduceAdd, bm]
      (refine gO ?_)
      refine ⟨(1, 2, [ds.getD 0 0 + ds.getD 1 0 * 4294967296]), ?_, ⟨rfl, by simp only; omega, hdt.symm⟩, by simp only; omega⟩
      simp only [u, i64, Nat.reduceSub, Nat.reduceAdd, bm]
    | succ k =>
      simp only [u, i64, Nat.reduceSub, Nat.reduceAdd, bm]
      (refine gO ?_)
      refine ⟨(k + 2, j + 2, rs ++ [ds.getD j 0 + ds.getD (j + 1) 0 * 4294967296]), ?_, ⟨by simp only; omega, by simp only; omega, hdt.symm⟩, by simp only; omega⟩
      simp only [u, i64, Nat.reduceSub, Nat.reduceAdd, bm]
  · have hk0 : j = ds.length := by omega
    rw [hk0, List.take_length] at hrs
    subst hrs
    cases k with
    | zero =>
      have hx0 : ds = [] := List.eq_nil_of_length_eq_zero (by omega)
      subst hx0
      have hj0 : j = 0 := hk0
      subst hj0
      simp only [u, i64, Nat.reduceSub, Nat.reduceAdd, bm]
      (refine gO ?_)
      (refine FinQ hQ (congrArg Array.toList Tryz.results253) _ _ ?_); simp (disch := omega) only [u, i64, ax, if_true, forall_const, reduceCtorEq, implies_true, tvs, bf]
      rfl
    | succ k =>
      simp only [u, i64, Nat.reduceSub, Nat.reduceAdd, bm]
      (refine gO ?_)
      (refine FinQ hQ (congrArg Array.toList Tryz.results253) _ _ ?_); simp (disch := omega) only [u, i64, ax, if_true, forall_const, reduceCtorEq, implies_true, tvs, bf]
set_option maxRecDepth 100000 in
theorem ret_Short (xs : List Nat) (hl : xs.length ≤ 1099511627776) : Ret Tryz.prog GEs 239 [ws xs] (ws (xs.take (top xs))) := by
  refine RetN_start Tryz.func239 (by kernel_rfl) rfl fun Q hQ hQ2 => ?_; rw [Tryz.ntmps239]; simp only [u, i64, Nat.reduceSub, Nat.reduceAdd, bm]
  (refine gO ?_)
  refine AWp_loop (fun n : Nat => mk 21 [(0, ws xs), (3, i64 n)] []) (fun n => top xs ≤ n ∧ n ≤ xs.length) (fun n => n) xs.length ?_ ⟨top_le xs, Nat.le_refl _⟩ fun n hn => ?_
  · simp only [u, i64, Nat.reduceSub, Nat.reduceAdd, bm]
  simp only [u, i64, Nat.reduceSub, Nat.reduceAdd, bm]
  by_cases h : 0 < n
  · by_cases h0 : xs.getD (n - 1) 0 = 0
    · (refine gO ?_)
      refine ⟨n - 1, ?_, ⟨top_zero xs n hn.1 hn.2 h h0, by omega⟩, by omega⟩
      simp only [u, i64, Nat.reduceSub, Nat.reduceAdd, bm]
    · have ht := top_last xs n hn.1 hn.2 h h0
      (refine gO ?_)
      (refine FinQ hQ (congrArg Array.toList Tryz.results239) _ _ ?_); simp (disch := omega) only [u, i64, ax, if_true, forall_const, reduceCtorEq, implies_true, tvs, bf]
      simp [ht, Nat.min_eq_left hn.2]
  · have hn0 : n = 0 := by omega
    have ht : top xs = 0 := by omega
    (refine gO ?_)
    (refine FinQ hQ (congrArg Array.toList Tryz.results239) _ _ ?_); simp (disch := omega) only [u, i64, ax, if_true, forall_const, reduceCtorEq, implies_true, tvs, bf]
    simp [ht, hn0]
theorem eq_of_getD {xs ys : List Nat} (hl : xs.length = ys.length) (h : ∀ i, i < xs.length → xs.getD i 0 = ys.getD i 0) : xs = ys := by
  refine List.ext_getElem hl fun i h1 h2 => ?_
  have := h i h1
  simpa [List.getD_eq_getElem?_getD, List.getElem?_eq_getElem h1, List.getElem?_eq_getElem h2] using this
set_option maxRecDepth 100000 in
theorem ret_digit (xs : List Nat) (i : Nat) (hl : xs.length ≤ 1099511627776) : Ret Tryz.prog GEs 252 [ws xs, i64 i] (u (xs.getD i 0)) := by
  refine RetN_start Tryz.func252 (by kernel_rfl) rfl fun Q hQ hQ2 => ?_; rw [Tryz.ntmps252]; simp only [u, i64, Nat.reduceSub, Nat.reduceAdd, bm]
  by_cases h : i < xs.length
  · (refine gO ?_)
    (refine FinQ hQ (congrArg Array.toList Tryz.results252) _ _ ?_); simp (disch := omega) only [u, i64, ax, if_true, forall_const, reduceCtorEq, implies_true, tvs, bf]
  · (refine gO ?_)
    (refine FinQ hQ (congrArg Array.toList Tryz.results252) _ _ ?_); simp (disch := omega) only [u, i64, ax, if_true, forall_const, reduceCtorEq, implies_true, tvs, bf, getD_over xs i (by omega)]
    rfl
end Go.Proofs
set_option linter.unusedVariables false
set_option linter.unusedSimpArgs false
namespace Go.Proofs
open Go.Ax
theorem pad_snoc (ds : List Nat) (z : Nat) : ds ++ List.replicate (z + 1) 0 = (ds ++ List.replicate z 0) ++ [0] := by
  rw [List.append_assoc, ← List.replicate_succ']
theorem vb_top {K : Nat} : ∀ xs, vb K (xs.take (top xs)) = vb K xs
  | [] => rfl
  | x :: xs => by
    have ih := vb_top (K := K) xs
    simp only [top]
    split
    · rename_i h0
      rw [h0] at ih
      simp only [List.take_zero, vb] at ih
      split
      · rename_i hx; simp [vb, hx, ← ih]
      · simp [vb, ← ih]
    · simp [vb, ih]
theorem vb_top_ge {K : Nat} : ∀ xs, 0 < top xs → K ^ (top xs - 1) ≤ vb K xs
  | [], h => by simp [top] at h
  | x :: xs, h => by
    simp only [top] at h ⊢
    by_cases h0 : top xs = 0
    · simp only [h0, if_true] at h ⊢
      by_cases hx : x = 0
      · simp [hx] at h
      · simp only [hx, if_false, Nat.sub_self, Nat.pow_zero, vb]; omega
    · have ih := vb_top_ge (K := K) xs (by omega)
      simp only [h0, if_false, Nat.add_sub_cancel, vb]
      obtain ⟨t, ht⟩ : ∃ t, top xs = t + 1 := ⟨top xs - 1, by omega⟩
      rw [ht, Nat.add_sub_cancel] at ih
      rw [ht, Nat.pow_succ, Nat.mul_comm]
      have := Nat.mul_le_mul_left K ih
      omega
set_option maxRecDepth 100000 in
set_option maxHeartbeats 1000000 in
theorem ret_Cut (ds : List Nat) (n : Nat) (hd : Ds 4294967296 ds) (hl : ds.length ≤ 1099511627776) (hn : n ≤ 274877906944) :
    Ret Tryz.prog GEs 238 [ws ds, i64 n] (.tup [ws (joined ((pad ds (2 * n + 2)).take (2 * n))), u ((pad ds (2 * n + 2)).getD (2 * n) 0 + (pad ds (2 * n + 2)).getD (2 * n + 1) 0 * 4294967296)]) := by
  refine RetN_start Tryz.func238 (by kernel_rfl) rfl fun Q hQ hQ2 => ?_; rw [Tryz.ntmps238]; simp only [u, i64, Nat.reduceSub, Nat.reduceAdd, bm]
  by_cases h0 : 0 < ds.length
  · obtain ⟨i0, hi0⟩ : ∃ i : Nat × Nat × List Nat, i = (1, 0, ds) := ⟨_, rfl⟩
    have hI0 : i0.2.2 = ds ++ List.replicate i0.2.1 0 ∧ i0.2.2.length ≤ max ds.length (2 * n + 2) ∧ (i0.1 = 0 → i0.2.2 = []) := by rw [hi0]; exact ⟨by simp, by simp only; omega, fun h => by simp at h⟩
    (refine gO ?_)
    refine AWp_loop (fun i : Nat × Nat × List Nat => mk 37 [(0, ws ds), (1, i64 n), (6, gA i.2.2 i.1)] (gR i.2.2 i.1)) (fun i => i.2.2 = ds ++ List.replicate i.2.1 0 ∧ i.2.2.length ≤ max ds.length (2 * n + 2) ∧ (i.1 = 0 → i.2.2 = [])) (fun i => 2 * n + 2 - i.2.2.length) i0 ?_ hI0 ?_
    · subst hi0; dsimp only; simp only [u, i64, Nat.reduceSub, Nat.reduceAdd, bm]
    clear hi0 hI0 i0
    rintro ⟨k, z, all⟩ ⟨hall, hlen, hk⟩
    simp only at hall hlen hk
    by_cases hc : all.length < 2 * n + 2
    · cases k with
      | zero =>
        have h0 := hk rfl
        subst h0
        simp only [u, i64, Nat.reduceSub, Nat.reduceAdd, bm]
        simp only [List.length_nil] at hc
        (refine gO ?_)
        refine ⟨(1, z + 1, [0]), ?_, ⟨by simp only; rw [pad_snoc, ← hall]; rfl, by simp only [List.length_append, List.length_cons, List.length_nil]; omega, fun h => by simp at h⟩, by simp only [List.length_append, List.length_cons, List.length_nil]; omega⟩
        simp only [u, i64, Nat.reduceSub, Nat.reduceAdd, bm]
      | succ k =>
        simp only [u, i64, Nat.reduceSub, Nat.reduceAdd, bm]
        (refine gO ?_)
        refine ⟨(k + 2, z + 1, all ++ [0]), ?_, ⟨by simp only; rw [hall, pad_snoc], by simp only [List.length_append, List.length_cons, List.length_nil]; omega, fun h => by simp at h⟩, by simp only [List.length_append, List.length_cons, List.length_nil]; omega⟩
        simp only [u, i64, Nat.reduceSub, Nat.reduceAdd, bm]
    · have hp : (pad ds (2 * n + 2)).take (2 * n) = all.take (2 * n) ∧ (pad ds (2 * n + 2)).getD (2 * n) 0 = all.getD (2 * n) 0 ∧ (pad ds (2 * n + 2)).getD (2 * n + 1) 0 = all.getD (2 * n + 1) 0 := by
        have e : pad ds (2 * n + 2) = all := by
          unfold pad
          rw [hall]
          congr 2
          rw [hall, List.length_append, List.length_replicate] at hlen hc
          rcases Nat.lt_or_ge (2 * n + 2) ds.length with h | h <;> omega
        rw [e]
        exact ⟨rfl, rfl, rfl⟩
      obtain ⟨hp1, hp2, hp3⟩ := hp
      have hD : Ds 4294967296 all := by rw [hall]; exact hd.append (Ds_zeros (by decide) _)
      have hd1 := hD.getD (by decide) (2 * n)
      have hd2 := hD.getD (by decide) (2 * n + 1)
      cases k with
      | zero =>
        have h0 := hk rfl
        rw [h0] at hc
        simp at hc
      | succ k =>
        simp only [u, i64, Nat.reduceSub, Nat.reduceAdd, bm]
        (refine gO ?_)
        refine G_cool0 ?_
        (refine gC ?_)
        refine callK_ret (ret_Row (all.take (2 * n)) (hD.take _) (by rw [List.length_take]; omega) (by rw [List.length_take]; omega)) (by rw [fzs_cons, fz_own, rget0, fzO_usT _ _ _ _ (by omega), fzs_nil, fzC_some]) ?_
        simp (disch := omega) only [u, i64, ax, eq_self, if_true, if_false, Nat.reduceAdd, Int.reduceToNat, Int.reduceAdd, tvs, bs]
        try refine aft_any ?_
        (refine gO ?_)
        (refine FinQ hQ (congrArg Array.toList Tryz.results238) _ _ ?_); simp (disch := omega) only [u, i64, ax, if_true, forall_const, reduceCtorEq, implies_true, tvs, bf, hp1, hp2, hp3]
  · have hx : ds = [] := List.eq_nil_of_length_eq_zero (by omega)
    obtain ⟨i0, hi0⟩ : ∃ i : Nat × Nat × List Nat, i = (0, 0, []) := ⟨_, rfl⟩
    have hI0 : i0.2.2 = ds ++ List.replicate i0.2.1 0 ∧ i0.2.2.length ≤ max ds.length (2 * n + 2) ∧ (i0.1 = 0 → i0.2.2 = []) := by rw [hi0, hx]; exact ⟨by simp, by simp, fun h => rfl⟩
    (refine gO ?_)
    refine AWp_loop (fun i : Nat × Nat × List Nat => mk 37 [(0, ws ds), (1, i64 n), (6, gA i.2.2 i.1)] (gR i.2.2 i.1)) (fun i => i.2.2 = ds ++ List.replicate i.2.1 0 ∧ i.2.2.length ≤ max ds.length (2 * n + 2) ∧ (i.1 = 0 → i.2.2 = [])) (fun i => 2 * n + 2 - i.2.2.length) i0 ?_ hI0 ?_
    · subst hi0; dsimp only; simp only [u, i64, Nat.reduceSub, Nat.reduceAdd, bm]
    clear hi0 hI0 i0
    rintro ⟨k, z, all⟩ ⟨hall, hlen, hk⟩
    simp only at hall hlen hk
    by_cases hc : all.length < 2 * n + 2
    · cases k with
      | zero =>
        have h0 := hk rfl
        subst h0
        simp only [u, i64, Nat.reduceSub, Nat.reduceAdd, bm]
        simp only [List.length_nil] at hc
        (refine gO ?_)
        refine ⟨(1, z + 1, [0]), ?_, ⟨by simp only; rw [pad_snoc, ← hall]; rfl, by simp only [List.length_append, List.length_cons, List.length_nil]; omega, fun h => by simp at h⟩, by simp only [List.length_append, List.length_cons, List.length_nil]; omega⟩
        simp only [u, i64, Nat.reduceSub, Nat.reduceAdd, bm]
      | succ k =>
        simp only [u, i64, Nat.reduceSub, Nat.reduceAdd, bm]
        (refine gO ?_)
        refine ⟨(k + 2, z + 1, all ++ [0]), ?_, ⟨by simp only; rw [hall, pad_snoc], by simp only [List.length_append, List.length_cons, List.length_nil]; omega, fun h => by simp at h⟩, by simp only [List.length_append, List.length_cons, List.length_nil]; omega⟩
        simp only [u, i64, Nat.reduceSub, Nat.reduceAdd, bm]
    · have hp : (pad ds (2 * n + 2)).take (2 * n) = all.take (2 * n) ∧ (pad ds (2 * n + 2)).getD (2 * n) 0 = all.getD (2 * n) 0 ∧ (pad ds (2 * n + 2)).getD (2 * n + 1) 0 = all.getD (2 * n + 1) 0 := by
        have e : pad ds (2 * n + 2) = all := by
          unfold pad
          rw [hall]
          congr 2
          rw [hall, List.length_append, List.length_replicate] at hlen hc
          rcases Nat.lt_or_ge (2 * n + 2) ds.length with h | h <;> omega
        rw [e]
        exact ⟨rfl, rfl, rfl⟩
      obtain ⟨hp1, hp2, hp3⟩ := hp
      have hD : Ds 4294967296 all := by rw [hall]; exact hd.append (Ds_zeros (by decide) _)
      have hd1 := hD.getD (by decide) (2 * n)
      have hd2 := hD.getD (by decide) (2 * n + 1)
      cases k with
      | zero =>
        have h0 := hk rfl
        rw [h0] at hc
        simp at hc
      | succ k =>
        simp only [u, i64, Nat.reduceSub, Nat.reduceAdd, bm]
        (refine gO ?_)
        refine G_cool0 ?_
        (refine gC ?_)
        refine callK_ret (ret_Row (all.take (2 * n)) (hD.take _) (by rw [List.length_take]; omega) (by rw [List.length_take]; omega)) (by rw [fzs_cons, fz_own, rget0, fzO_usT _ _ _ _ (by omega), fzs_nil, fzC_some]) ?_
        simp (disch := omega) only [u, i64, ax, eq_self, if_true, if_false, Nat.reduceAdd, Int.reduceToNat, Int.reduceAdd, tvs, bs]
        try refine aft_any ?_
        (refine gO ?_)
        (refine FinQ hQ (congrArg Array.toList Tryz.results238) _ _ ?_); simp (disch := omega) only [u, i64, ax, if_true, forall_const, reduceCtorEq, implies_true, tvs, bf, hp1, hp2, hp3]
theorem nat_row (ds : List Nat) (hd : Ds 4294967296 ds) : joined ((pad (ds.take (top ds)) (2 * (((ds.take (top ds)).length + 1) / 2) + 2)).take (2 * (((ds.take (top ds)).length + 1) / 2))) = words (vb 4294967296 ds) := by
  have htl := top_le ds
  have hlt : (ds.take (top ds)).length = top ds := by rw [List.length_take, Nat.min_eq_left htl]
  rw [hlt]
  have hv : vb 4294967296 (ds.take (top ds)) = vb 4294967296 ds := vb_top ds
  rcases Nat.eq_zero_or_pos (top ds) with h0 | h0
  · rw [h0] at hv ⊢
    simp only [List.take_zero, vb] at hv
    rw [← hv, words_zero]
    rfl
  rw [pad_take (by omega) (by omega)]
  have hpl : (pad (ds.take (top ds)) (2 * ((top ds + 1) / 2))).length = 2 * ((top ds + 1) / 2) := pad_length (by omega)
  have hev : val (joined (pad (ds.take (top ds)) (2 * ((top ds + 1) / 2)))) = vb 4294967296 ds := by
    rw [joined_val _ (by omega), pad_vb, hv]
  rw [← hev]
  refine words_of_ge (joined_Wd (pad_Ds (by decide) (hd.take _) _)) ?_
  rw [hev, joined_length, hpl, ← pow_half]
  exact Nat.le_trans (Nat.pow_le_pow_right (by decide) (by omega)) (vb_top_ge ds h0)
set_option maxRecDepth 100000 in
theorem ret_nat (ds : List Nat) (hd : Ds 4294967296 ds) (hl : ds.length ≤ 274877906944) : Ret Tryz.prog GEs 185 [ws ds] (nat (vb 4294967296 ds)) := by
  have htl : (ds.take (top ds)).length ≤ ds.length := by rw [List.length_take]; omega
  refine RetN_start Tryz.func185 (by kernel_rfl) rfl fun Q hQ hQ2 => ?_; rw [Tryz.ntmps185]; simp only [u, i64, Nat.reduceSub, Nat.reduceAdd, bm]
  repeat (first | (refine gC ?_; first | refine aA ?_ | (refine cR (ret_Short ds (by omega)) ?_; refine sX ?_; try refine aA ?_)) | (refine cR (ret_Short ds (by omega)) ?_; refine sX ?_; try refine aA ?_) | refine gS ?_)
  (refine gC ?_)
  (refine cR (ret_Cut (ds.take (top ds)) (((ds.take (top ds)).length + 1) / 2) (hd.take _) (by omega) (by omega)) ?_; refine sX ?_; try refine aA ?_)
  rw [nat_row ds hd]
  (refine gO ?_)
  (refine FinQ hQ (congrArg Array.toList Tryz.results185) _ _ ?_); simp (disch := omega) only [u, i64, ax, if_true, forall_const, reduceCtorEq, implies_true, tvs, bf]
end Go.Proofs
set_option linter.unusedVariables false
set_option linter.unusedSimpArgs false
namespace Go.Proofs
open Go.Ax
theorem dplus_step {K p s c a b x y : Nat} (h : s + c * p = a + b) : s + p * ((c + x + y) % K) + (c + x + y) / K * (p * K) = a + p * x + (b + p * y) := by
  have e : p * ((c + x + y) % K) + (c + x + y) / K * (p * K) = p * (c + x + y) := by
    rw [Nat.mul_comm ((c + x + y) / K), Nat.mul_assoc, ← Nat.mul_add, Nat.mod_add_div]
  rw [Nat.add_assoc, e, Nat.mul_add, Nat.mul_add, Nat.mul_comm p c]
  omega
theorem vb_snoc {K : Nat} (xs : List Nat) (x : Nat) : vb K (xs ++ [x]) = vb K xs + K ^ xs.length * x := by rw [vb_append]; simp [vb]
theorem Ds_snoc {K : Nat} {xs : List Nat} {x : Nat} (h : Ds K xs) (hx : x < K) : Ds K (xs ++ [x]) := h.append (Ds_cons hx Ds_nil)
set_option maxRecDepth 100000 in
set_option maxHeartbeats 1000000 in
theorem ret_Plus (a b : List Nat) (ha : Ds 4294967296 a) (hb : Ds 4294967296 b) (hla : a.length ≤ 1099511627775) (hlb : b.length ≤ 1099511627775) :
    Ret Tryz.prog GEs 242 [ws a, ws b] (ws (wfb 4294967296 (max a.length b.length + 1) (vb 4294967296 a + vb 4294967296 b))) := by
  refine RetN_start Tryz.func242 (by kernel_rfl) rfl fun Q hQ hQ2 => ?_; rw [Tryz.ntmps242]; simp only [u, i64, Nat.reduceSub, Nat.reduceAdd, bm]
  (refine gO ?_)
  refine AWp_loop (fun i : Nat × List Nat × Nat => mk 40 [(0, ws a), (1, ws b), (5, gA i.2.1 i.1), (6, u i.2.2), (7, i64 i.1)] (gR i.2.1 i.1))
    (fun i => i.1 ≤ max a.length b.length ∧ i.2.1.length = i.1 ∧ Ds 4294967296 i.2.1 ∧ i.2.2 ≤ 1 ∧ vb 4294967296 i.2.1 + i.2.2 * 4294967296 ^ i.1 = vb 4294967296 (a.take i.1) + vb 4294967296 (b.take i.1)) (fun i => max a.length b.length - i.1) (0, [], 0) ?_
    ⟨Nat.zero_le _, rfl, Ds_nil, by simp, by simp [vb]⟩ ?_
  · simp only [u, i64, Nat.reduceSub, Nat.reduceAdd, bm]
  rintro ⟨k, os, c⟩ ⟨h1, h2, h3, h4, h5⟩
  simp only at h1 h2 h3 h4 h5
  have e1 := vb_take_getD (K := 4294967296) a k
  have e2 := vb_take_getD (K := 4294967296) b k
  have ga := ha.getD (by decide) k
  have gb := hb.getD (by decide) k
  have e3 := dplus_step (K := 4294967296) (x := a.getD k 0) (y := b.getD k 0) h5
  rw [← e1, ← e2, ← Nat.pow_succ] at e3
  by_cases hn : k < max a.length b.length
  · have hor : k < a.length ∨ k < b.length := by omega
    have hs := vb_snoc (K := 4294967296) os ((c + a.getD k 0 + b.getD k 0) % 4294967296)
    rw [h2] at hs
    rw [← hs] at e3
    have hI : k + 1 ≤ max a.length b.length ∧ (os ++ [(c + a.getD k 0 + b.getD k 0) % 4294967296]).length = k + 1 ∧ Ds 4294967296 (os ++ [(c + a.getD k 0 + b.getD k 0) % 4294967296]) ∧ (c + a.getD k 0 + b.getD k 0) / 4294967296 ≤ 1 ∧
        vb 4294967296 (os ++ [(c + a.getD k 0 + b.getD k 0) % 4294967296]) + (c + a.getD k 0 + b.getD k 0) / 4294967296 * 4294967296 ^ (k + 1) = vb 4294967296 (a.take (k + 1)) + vb 4294967296 (b.take (k + 1)) :=
      ⟨hn, by simp [h2], Ds_snoc h3 (Nat.mod_lt _ (by decide)), by omega, e3⟩
    clear e3 hs e1 e2
    by_cases hka : k < a.length
    · cases k with
      | zero =>
        have h0 : os = [] := List.eq_nil_of_length_eq_zero h2
        subst h0
        simp only [u, i64, Nat.reduceSub, Nat.reduceAdd, bm]
        repeat (first | (refine gC ?_; first | refine aA ?_ | ((first | refine cR (ret_digit a 0 (by omega)) ?_ | refine cR (ret_digit b 0 (by omega)) ?_); refine sX ?_; try refine aA ?_)) | ((first | refine cR (ret_digit a 0 (by omega)) ?_ | refine cR (ret_digit b 0 (by omega)) ?_); refine sX ?_; try refine aA ?_) | refine gS ?_)
        refine ⟨(1, [(c + a.getD 0 0 + b.getD 0 0) % 4294967296], (c + a.getD 0 0 + b.getD 0 0) / 4294967296), ?_, hI, by simp only; omega⟩
        simp only [u, i64, Nat.reduceSub, Nat.reduceAdd, bm]
      | succ k =>
        simp only [u, i64, Nat.reduceSub, Nat.reduceAdd, bm]
        repeat (first | (refine gC ?_; first | refine aA ?_ | ((first | refine cR (ret_digit a (k + 1) (by omega)) ?_ | refine cR (ret_digit b (k + 1) (by omega)) ?_); refine sX ?_; try refine aA ?_)) | ((first | refine cR (ret_digit a (k + 1) (by omega)) ?_ | refine cR (ret_digit b (k + 1) (by omega)) ?_); refine sX ?_; try refine aA ?_) | refine gS ?_)
        refine ⟨(k + 2, os ++ [(c + a.getD (k + 1) 0 + b.getD (k + 1) 0) % 4294967296], (c + a.getD (k + 1) 0 + b.getD (k + 1) 0) / 4294967296), ?_, hI, by simp only; omega⟩
        simp only [u, i64, Nat.reduceSub, Nat.reduceAdd, bm]
    · have hkb : k < b.length := by omega
      cases k with
      | zero =>
        have h0 : os = [] := List.eq_nil_of_length_eq_zero h2
        subst h0
        simp only [u, i64, Nat.reduceSub, Nat.reduceAdd, bm]
        repeat (first | (refine gC ?_; first | refine aA ?_ | ((first | refine cR (ret_digit a 0 (by omega)) ?_ | refine cR (ret_digit b 0 (by omega)) ?_); refine sX ?_; try refine aA ?_)) | ((first | refine cR (ret_digit a 0 (by omega)) ?_ | refine cR (ret_digit b 0 (by omega)) ?_); refine sX ?_; try refine aA ?_) | refine gS ?_)
        refine ⟨(1, [(c + a.getD 0 0 + b.getD 0 0) % 4294967296], (c + a.getD 0 0 + b.getD 0 0) / 4294967296), ?_, hI, by simp only; omega⟩
        simp only [u, i64, Nat.reduceSub, Nat.reduceAdd, bm]
      | succ k =>
        simp only [u, i64, Nat.reduceSub, Nat.reduceAdd, bm]
        repeat (first | (refine gC ?_; first | refine aA ?_ | ((first | refine cR (ret_digit a (k + 1) (by omega)) ?_ | refine cR (ret_digit b (k + 1) (by omega)) ?_); refine sX ?_; try refine aA ?_)) | ((first | refine cR (ret_digit a (k + 1) (by omega)) ?_ | refine cR (ret_digit b (k + 1) (by omega)) ?_); refine sX ?_; try refine aA ?_) | refine gS ?_)
        refine ⟨(k + 2, os ++ [(c + a.getD (k + 1) 0 + b.getD (k + 1) 0) % 4294967296], (c + a.getD (k + 1) 0 + b.getD (k + 1) 0) / 4294967296), ?_, hI, by simp only; omega⟩
        simp only [u, i64, Nat.reduceSub, Nat.reduceAdd, bm]
  · have hk0 : k = max a.length b.length := by omega
    rw [List.take_of_length_le (by omega), List.take_of_length_le (by omega)] at h5
    have hend : os ++ [c] = wfb 4294967296 (max a.length b.length + 1) (vb 4294967296 a + vb 4294967296 b) :=
      wfb_of (by decide) (Ds_snoc h3 (by omega)) (by simp [h2, hk0]) (by rw [vb_snoc, h2, Nat.mul_comm, h5])
    rw [← hend] at hQ
    have hna : ¬ k < a.length := by omega
    have hnb : ¬ k < b.length := by omega
    cases k with
    | zero =>
      have h0 : os = [] := List.eq_nil_of_length_eq_zero h2
      subst h0
      simp only [u, i64, Nat.reduceSub, Nat.reduceAdd, bm]
      (refine gO ?_)
      (refine FinQ hQ (congrArg Array.toList Tryz.results242) _ _ ?_); simp (disch := omega) only [u, i64, ax, if_true, forall_const, reduceCtorEq, implies_true, tvs, bf]
      rfl
    | succ k =>
      simp only [u, i64, Nat.reduceSub, Nat.reduceAdd, bm]
      (refine gO ?_)
      have hlen : (os ++ [c]).length = os.length + 1 := by simp
      rw [← us_snoc1 os c]
      (refine FinQ hQ (congrArg Array.toList Tryz.results242) _ _ ?_); simp (disch := omega) only [u, i64, ax, if_true, forall_const, reduceCtorEq, implies_true, tvs, bf]
/-- The difference of digits, as many as the first ones have. -/
theorem dminus_step {K p s c a b x y : Nat} (hc : c ≤ 1) (hx : x < K) (hy : y < K) (h : s + b = a + c * p) :
    s + p * ((x + K - y - c) % K) + (b + p * y) = a + p * x + (1 - (x + K - y - c) / K) * (p * K) ∧ 1 - (x + K - y - c) / K ≤ 1 := by
  have hlt : (x + K - y - c) / K ≤ 1 := by
    have : x + K - y - c < 2 * K := by omega
    exact Nat.le_of_lt_succ ((Nat.div_lt_iff_lt_mul (show 0 < K by omega)).2 this)
  refine ⟨?_, Nat.sub_le _ _⟩
  have e := Nat.div_add_mod (x + K - y - c) K
  generalize (x + K - y - c) / K = q at *
  generalize (x + K - y - c) % K = r at *
  have e2 : p * (r + y + c) = p * (x + (1 - q) * K) := by
    have : q = 0 ∨ q = 1 := by omega
    rcases this with rfl | rfl
    · simp at e ⊢; congr 1; omega
    · simp at e ⊢; congr 1; omega
  simp only [Nat.mul_add] at e2
  rw [Nat.mul_left_comm p, Nat.mul_comm p c] at e2
  omega
def mdiff (K n a b : Nat) : List Nat := wfb K n (if b ≤ a then a - b else a + K ^ n - b)
set_option maxRecDepth 100000 in
set_option maxHeartbeats 1000000 in
theorem retT_Minus (a b : List Nat) (ha : Ds 4294967296 a) (hb : Ds 4294967296 b) (h0 : a ≠ []) (hla : a.length ≤ 1099511627775) (hlb : b.length ≤ 1099511627775) :
    RetT Tryz.prog GEs 255 [ws a, ws b] (us (mdiff 4294967296 a.length (vb 4294967296 a) (vb 4294967296 (b.take a.length)))) [.bool (decide (vb 4294967296 a < vb 4294967296 (b.take a.length)))] := by
  refine RetT_start Tryz.func255 (by kernel_rfl) rfl fun Q hQ hQ2 => ?_; rw [Tryz.ntmps255]; simp only [u, i64, Nat.reduceSub, Nat.reduceAdd, bm]
  (refine gO ?_)
  refine AWp_loop (fun i : Nat × List Nat × Nat => mk 38 [(0, ws a), (1, ws b), (6, gA i.2.1 i.1), (7, u i.2.2), (8, i64 i.1)] (gR i.2.1 i.1))
    (fun i => i.1 ≤ a.length ∧ i.2.1.length = i.1 ∧ Ds 4294967296 i.2.1 ∧ i.2.2 ≤ 1 ∧ vb 4294967296 i.2.1 + vb 4294967296 (b.take i.1) = vb 4294967296 (a.take i.1) + i.2.2 * 4294967296 ^ i.1) (fun i => a.length - i.1) (0, [], 0) ?_
    ⟨Nat.zero_le _, rfl, Ds_nil, by simp, by simp [vb]⟩ ?_
  · simp only [u, i64, Nat.reduceSub, Nat.reduceAdd, bm]
  rintro ⟨k, os, c⟩ ⟨h1, h2, h3, h4, h5⟩
  simp only at h1 h2 h3 h4 h5
  have e1 := vb_take_getD (K := 4294967296) a k
  have e2 := vb_take_getD (K := 4294967296) b k
  have ga := ha.getD (by decide) k
  have gb := hb.getD (by decide) k
  obtain ⟨e3, e4⟩ := dminus_step (K := 4294967296) h4 ga gb h5
  rw [← e1, ← e2, ← Nat.pow_succ] at e3
  by_cases hn : k < a.length
  · have hs := vb_snoc (K := 4294967296) os ((a.getD k 0 + 4294967296 - b.getD k 0 - c) % 4294967296)
    rw [h2] at hs
    rw [← hs] at e3
    have hI : k + 1 ≤ a.length ∧ (os ++ [(a.getD k 0 + 4294967296 - b.getD k 0 - c) % 4294967296]).length = k + 1 ∧ Ds 4294967296 (os ++ [(a.getD k 0 + 4294967296 - b.getD k 0 - c) % 4294967296]) ∧ 1 - (a.getD k 0 + 4294967296 - b.getD k 0 - c) / 4294967296 ≤ 1 ∧
        vb 4294967296 (os ++ [(a.getD k 0 + 4294967296 - b.getD k 0 - c) % 4294967296]) + vb 4294967296 (b.take (k + 1)) = vb 4294967296 (a.take (k + 1)) + (1 - (a.getD k 0 + 4294967296 - b.getD k 0 - c) / 4294967296) * 4294967296 ^ (k + 1) :=
      ⟨hn, by simp [h2], Ds_snoc h3 (Nat.mod_lt _ (by decide)), e4, e3⟩
    clear e3 hs e1 e2
    cases k with
    | zero =>
      have h0 : os = [] := List.eq_nil_of_length_eq_zero h2
      subst h0
      simp only [u, i64, Nat.reduceSub, Nat.reduceAdd, bm]
      repeat (first | (refine gC ?_; first | refine aA ?_ | (refine cR (ret_digit b 0 (by omega)) ?_; refine sX ?_; try refine aA ?_)) | (refine cR (ret_digit b 0 (by omega)) ?_; refine sX ?_; try refine aA ?_) | refine gS ?_)
      refine ⟨(1, [(a.getD 0 0 + 4294967296 - b.getD 0 0 - c) % 4294967296], 1 - (a.getD 0 0 + 4294967296 - b.getD 0 0 - c) / 4294967296), ?_, hI, by simp only; omega⟩
      simp only [u, i64, Nat.reduceSub, Nat.reduceAdd, bm]
    | succ k =>
      simp only [u, i64, Nat.reduceSub, Nat.reduceAdd, bm]
      repeat (first | (refine gC ?_; first | refine aA ?_ | (refine cR (ret_digit b (k + 1) (by omega)) ?_; refine sX ?_; try refine aA ?_)) | (refine cR (ret_digit b (k + 1) (by omega)) ?_; refine sX ?_; try refine aA ?_) | refine gS ?_)
      refine ⟨(k + 2, os ++ [(a.getD (k + 1) 0 + 4294967296 - b.getD (k + 1) 0 - c) % 4294967296], 1 - (a.getD (k + 1) 0 + 4294967296 - b.getD (k + 1) 0 - c) / 4294967296), ?_, hI, by simp only; omega⟩
      simp only [u, i64, Nat.reduceSub, Nat.reduceAdd, bm]
  · have hk0 : k = a.length := by omega
    rw [hk0, List.take_length] at h5
    have hlt := vb_lt h3
    have hlt2 := vb_lt ha
    have hlt3 := vb_lt (hb.take a.length)
    rw [List.length_take] at hlt3
    have hlt4 : 4294967296 ^ min a.length b.length ≤ 4294967296 ^ a.length := Nat.pow_le_pow_right (by decide) (Nat.min_le_left _ _)
    rw [h2, hk0] at hlt
    have hend : os = mdiff 4294967296 a.length (vb 4294967296 a) (vb 4294967296 (b.take a.length)) ∧ decide (c = 1) = decide (vb 4294967296 a < vb 4294967296 (b.take a.length)) := by
      have : c = 0 ∨ c = 1 := by omega
      rcases this with rfl | rfl
      · refine ⟨wfb_of (by decide) h3 (h2.trans hk0) ?_, ?_⟩
        · rw [if_pos (by omega)]; omega
        · rw [decF (by decide), decF (by omega)]
      · refine ⟨wfb_of (by decide) h3 (h2.trans hk0) ?_, ?_⟩
        · rw [if_neg (by omega)]; omega
        · rw [decT rfl, decT (by omega)]
    rw [← hend.1, ← hend.2] at hQ
    cases k with
    | zero => exact absurd (List.eq_nil_of_length_eq_zero hk0.symm) h0
    | succ k =>
      simp only [u, i64, Nat.reduceSub, Nat.reduceAdd, bm]
      (refine gO ?_)
      refine FinQT hQ (congrArg Array.toList Tryz.results255) _ _ _ _ _ _ _ rfl rfl (by simp [us_length]) (by rw [List.take_of_length_le (by simp [us_length])]) (us_noMem _) rfl rfl
end Go.Proofs
set_option linter.unusedVariables false
set_option linter.unusedSimpArgs false
namespace Go.Proofs
open Go.Ax
theorem times_word {c o x y : Nat} (hc : c < 4294967296) (ho : o < 4294967296) (hx : x < 4294967296) (hy : y < 4294967296) : x * y < 18446744073709551616 ∧ c + o < 18446744073709551616 ∧ c + o + x * y < 18446744073709551616 ∧ (c + o + x * y) / 4294967296 < 4294967296 := by
  have h := Nat.mul_le_mul (show x ≤ 4294967295 by omega) (show y ≤ 4294967295 by omega)
  generalize x * y = p at *
  omega
theorem times_step {K P Q A S c o x y V M : Nat} (h : S + P * c = M + Q * x * V) (hP : P = Q * A) : (S + P * ((c + o + x * y) % K)) + P * K * ((c + o + x * y) / K) = (M + P * o) + Q * x * (V + A * y) := by
  have e := Nat.mod_add_div (c + o + x * y) K
  have e1 : P * ((c + o + x * y) % K) + P * K * ((c + o + x * y) / K) = P * (c + o + x * y) := by
    rw [Nat.mul_assoc P K, ← Nat.mul_add, e]
  have e2 : P * (x * y) = Q * x * (A * y) := by rw [hP, Nat.mul_assoc Q A, Nat.mul_left_comm A x, ← Nat.mul_assoc Q x]
  rw [Nat.mul_add, Nat.mul_add, e2] at e1
  rw [Nat.mul_add (Q * x)]
  omega
theorem getDs (os : List Nat) (i k v : Nat) : (os.set i v).getD k 0 = if i = k ∧ k < os.length then v else os.getD k 0 := by
  rw [List.getD_eq_getElem?_getD, List.getElem?_set]
  by_cases h : i = k
  · subst h
    by_cases h2 : i < os.length
    · simp [h2]
    · simp [h2, List.getD_eq_getElem?_getD, List.getElem?_eq_none (Nat.le_of_not_lt h2)]
  · simp [h, List.getD_eq_getElem?_getD]
set_option maxRecDepth 100000 in
set_option maxHeartbeats 1000000 in
theorem retF_Times (a b : List Nat) (ha : Ds 4294967296 a) (hb : Ds 4294967296 b) (hla : a.length ≤ 549755813888) (hlb : b.length ≤ 549755813888) :
    RetF Tryz.prog GEs 216 [ws a, ws b] (us (wfb 4294967296 (a.length + b.length) (vb 4294967296 a * vb 4294967296 b))) := by
  refine RetF_start Tryz.func216 (by kernel_rfl) rfl fun Q hQ hQ2 => ?_; rw [Tryz.ntmps216]; simp only [u, i64, Nat.reduceSub, Nat.reduceAdd, bm]
  (refine gO ?_)
  refine AWp_loop (fun i : Nat × List Nat => mk 62 [(0, ws a), (1, ws b), (5, .own 0 0 0 (a.length + b.length) 1), (6, i64 i.1)] [⟨0, true, us i.2⟩])
    (fun i => i.1 ≤ a.length ∧ i.2.length = a.length + b.length ∧ Ds 4294967296 i.2 ∧ (∀ j, i.1 + b.length ≤ j → i.2.getD j 0 = 0) ∧ vb 4294967296 (i.2.take (i.1 + b.length)) = vb 4294967296 (a.take i.1) * vb 4294967296 b) (fun i => a.length - i.1) (0, List.replicate (a.length + b.length) 0) ?_
    ⟨Nat.zero_le _, by simp, Ds_zeros (by decide) _, fun j _ => getD_rep _ _, by simp [vb, List.take_replicate, vb_zeros]⟩ ?_
  · simp only [u, i64, Nat.reduceSub, Nat.reduceAdd, bm]
  rintro ⟨n, os⟩ ⟨h1, h2, h3, h4, h5⟩
  simp only at h1 h2 h3 h4 h5
  simp only [u, i64, Nat.reduceSub, Nat.reduceAdd, bm]
  by_cases hn : n < a.length
  · have hx := ha.getD (by decide) n
    have e1 := vb_take_getD (K := 4294967296) a n
    (refine gO ?_)
    refine AWp_loop (fun i : Nat × List Nat × Nat => mk 62 [(0, ws a), (1, ws b), (5, .own 0 0 0 (a.length + b.length) 1), (6, i64 n), (7, u i.2.2), (8, i64 i.1)] [⟨0, true, us i.2.1⟩])
      (fun i => i.1 ≤ b.length ∧ i.2.1.length = a.length + b.length ∧ Ds 4294967296 i.2.1 ∧ i.2.2 < 4294967296 ∧ (∀ j, n + i.1 ≤ j → i.2.1.getD j 0 = os.getD j 0) ∧
        vb 4294967296 (i.2.1.take (n + i.1)) + 4294967296 ^ (n + i.1) * i.2.2 = vb 4294967296 (os.take (n + i.1)) + 4294967296 ^ n * a.getD n 0 * vb 4294967296 (b.take i.1)) (fun i => b.length - i.1) (0, os, 0) ?_
      ⟨Nat.zero_le _, h2, h3, by simp, fun j _ => rfl, by simp [vb]⟩ ?_
    · simp only [u, i64, Nat.reduceSub, Nat.reduceAdd, bm]
    rintro ⟨k, ps, c⟩ ⟨g1, g2, g3, g4, g5, g6⟩
    simp only at g1 g2 g3 g4 g5 g6
    simp only [u, i64, Nat.reduceSub, Nat.reduceAdd, bm]
    by_cases hk : k < b.length
    · have hy := hb.getD (by decide) k
      have ho := g3.getD (by decide) (n + k)
      have e2 := vb_take_getD (K := 4294967296) b k
      have e3 := vb_take_getD (K := 4294967296) os (n + k)
      rw [← g5 (n + k) (Nat.le_refl _)] at e3
      have hs := vb_set_take (K := 4294967296) ps (n + k) ((c + ps.getD (n + k) 0 + a.getD n 0 * b.getD k 0) % 4294967296) (by omega)
      have e4 := times_step (K := 4294967296) (o := ps.getD (n + k) 0) (y := b.getD k 0) g6 (Nat.pow_add _ _ _)
      rw [← hs, ← e3, ← e2, ← Nat.pow_succ] at e4
      obtain ⟨w1, w2, w3, w4⟩ := times_word g4 ho hx hy
      (refine gO ?_)
      refine ⟨(k + 1, ps.set (n + k) ((c + ps.getD (n + k) 0 + a.getD n 0 * b.getD k 0) % 4294967296), (c + ps.getD (n + k) 0 + a.getD n 0 * b.getD k 0) / 4294967296), ?_,
        ⟨hk, by simpa using g2, g3.set _ (Nat.mod_lt _ (by decide)), w4, fun j hj => ?_, e4⟩, by simp only; omega⟩
      · simp only [u, i64, Nat.reduceSub, Nat.reduceAdd, bm]
      · simp only at hj ⊢
        rw [getDs, if_neg (by omega)]
        exact g5 j (by omega)
    · have hk0 : k = b.length := by omega
      subst hk0
      rw [List.take_of_length_le (Nat.le_refl _), h5] at g6
      have hs := vb_set_take (K := 4294967296) ps (n + b.length) c (by omega)
      have hfin : vb 4294967296 ((ps.set (n + b.length) c).take (n + 1 + b.length)) = vb 4294967296 (a.take (n + 1)) * vb 4294967296 b := by
        rw [show n + 1 + b.length = n + b.length + 1 by omega, hs, g6, e1, Nat.add_mul]
      (refine gO ?_)
      refine ⟨(n + 1, ps.set (n + b.length) c), ?_, ⟨hn, by simpa using g2, g3.set _ g4, fun j hj => ?_, hfin⟩, by simp only; omega⟩
      · simp only [u, i64, Nat.reduceSub, Nat.reduceAdd, bm]
      · simp only at hj ⊢
        rw [getDs, if_neg (by omega), g5 j (by omega)]
        exact h4 j (by omega)
  · have hn0 : n = a.length := by omega
    subst hn0
    rw [List.take_of_length_le (by omega), List.take_length] at h5
    rw [← wfb_of (by decide) h3 h2 h5] at hQ
    (refine gO ?_)
    refine FinQF hQ (congrArg Array.toList Tryz.results216) _ _ _ _ _ _ _ rfl rfl (by simp [us_length, h2]) (by rw [List.take_of_length_le (by simp [us_length]; omega)]) (us_noMem _)
theorem ret_Times (a b : List Nat) (ha : Ds 4294967296 a) (hb : Ds 4294967296 b) (hla : a.length ≤ 549755813888) (hlb : b.length ≤ 549755813888) :
    Ret Tryz.prog GEs 216 [ws a, ws b] (ws (wfb 4294967296 (a.length + b.length) (vb 4294967296 a * vb 4294967296 b))) := by
  have := (retF_Times a b ha hb hla hlb).ret
  rwa [us_length] at this
theorem ret_Minus (a b : List Nat) (ha : Ds 4294967296 a) (hb : Ds 4294967296 b) (h0 : a ≠ []) (hla : a.length ≤ 1099511627775) (hlb : b.length ≤ 1099511627775) :
    Ret Tryz.prog GEs 255 [ws a, ws b] (.tup [ws (mdiff 4294967296 a.length (vb 4294967296 a) (vb 4294967296 (b.take a.length))), .bool (decide (vb 4294967296 a < vb 4294967296 (b.take a.length)))]) := by
  have := (retT_Minus a b ha hb h0 hla hlb).ret
  rwa [us_length] at this
end Go.Proofs
set_option linter.unusedVariables false
set_option linter.unusedSimpArgs false
namespace Go.Proofs
open Go.Ax
theorem ddiv_step {K w R D Q a : Nat} (hw : 0 < w) (hq : Q = D / w) (hr : R = D % w) :
    (R * K + a) / w + K * Q = (a + K * D) / w ∧ (R * K + a) % w = (a + K * D) % w := by
  have h := Nat.div_add_mod D w
  have e : a + K * D = (R * K + a) + w * (K * Q) := by
    conv => lhs; rw [← h]
    rw [Nat.mul_add, hq, hr, Nat.mul_left_comm, Nat.mul_comm K (D % w)]
    omega
  rw [e]
  exact ⟨by rw [Nat.add_mul_div_left _ _ hw], by rw [Nat.add_mul_mod_self_left]⟩
theorem ddiv_lt {K w R a : Nat} (hR : R < w) (ha : a < K) : (R * K + a) / w < K := by
  refine (Nat.div_lt_iff_lt_mul (by omega)).2 ?_
  have := Nat.mul_le_mul_right K (show R + 1 ≤ w from hR)
  rw [Nat.add_mul] at this
  rw [Nat.mul_comm K w]
  omega
theorem vb_drop_set {K : Nat} (os : List Nat) (n v : Nat) (h : n < os.length) : vb K ((os.set n v).drop n) = v + K * vb K (os.drop (n + 1)) := by
  rw [vb_drop_one _ n (by simpa using h), List.getD_eq_getElem?_getD, List.getElem?_set_self h, List.drop_set_of_lt (Nat.lt_succ_self n)]
  rfl
set_option maxRecDepth 100000 in
theorem ret_one (xs : List Nat) (w : Nat) (hx : Ds 4294967296 xs) (hw : w < 4294967296) (h0 : 0 < w) (hl : xs.length ≤ 1099511627775) : Ret Tryz.prog GEs 254 [ws xs, u w] (.tup [ws (wfb 4294967296 xs.length (vb 4294967296 xs / w)), ws [vb 4294967296 xs % w]]) := by
  refine RetN_start Tryz.func254 (by kernel_rfl) rfl fun Q hQ hQ2 => ?_; rw [Tryz.ntmps254]; simp only [u, i64, Nat.reduceSub, Nat.reduceAdd, bm]
  (refine gO ?_)
  refine AWp_loop (fun i : Nat × List Nat × Nat => mk 38 [(0, ws xs), (1, u w), (6, .own 0 0 0 xs.length 1), (7, u i.2.2), (8, i64 ((i.1 : Int) - 1))] [⟨0, true, us i.2.1⟩])
    (fun i => i.1 ≤ xs.length ∧ i.2.1.length = xs.length ∧ Ds 4294967296 i.2.1 ∧ vb 4294967296 (i.2.1.drop i.1) = vb 4294967296 (xs.drop i.1) / w ∧ i.2.2 = vb 4294967296 (xs.drop i.1) % w) (fun i => i.1) (xs.length, List.replicate xs.length 0, 0) ?_ ⟨Nat.le_refl _, by simp, Ds_zeros (by decide) _, by simp [vb], by simp [vb]⟩ ?_
  · simp only [u, i64, Nat.reduceSub, Nat.reduceAdd, bm]
  rintro ⟨n, os, r⟩ ⟨h1, h2, h3, h4, h5⟩
  simp only at h1 h2 h3 h4 h5
  simp only [u, i64, Nat.reduceSub, Nat.reduceAdd, bm]
  by_cases hn : 1 ≤ n
  · obtain ⟨m, rfl⟩ : ∃ m, n = m + 1 := ⟨n - 1, by omega⟩
    have ha := hx.getD (by decide) m
    have hr : r < w := by rw [h5]; exact Nat.mod_lt _ h0
    have hst := ddiv_step (K := 4294967296) (a := xs.getD m 0) h0 h4 h5
    have hq := ddiv_lt hr ha
    have hv := vb_drop_one (K := 4294967296) xs m (by omega)
    rw [← hv] at hst
    have hs := vb_drop_set (K := 4294967296) os m ((r * 4294967296 + xs.getD m 0) / w) (by omega)
    rw [hst.1] at hs
    have hqB : (r * 4294967296 + xs.getD m 0) / w < 18446744073709551616 := by omega
    simp only [Int.natCast_add, Int.natCast_one, Int.add_sub_cancel]
    (refine gO ?_)
    refine ⟨(m, os.set m ((r * 4294967296 + xs.getD m 0) / w), (r * 4294967296 + xs.getD m 0) % w), ?_, ⟨by simp only; omega, by simpa using h2, h3.set m hq, hs, hst.2⟩, by simp only; omega⟩
    simp only [u, i64, Nat.reduceSub, Nat.reduceAdd, bm]
  · have hn0 : n = 0 := by omega
    subst hn0
    simp only [List.drop_zero] at h4 h5
    rw [← h5, ← wfb_of (by decide) h3 h2 h4] at hQ
    (refine gO ?_)
    (refine FinQ hQ (congrArg Array.toList Tryz.results254) _ _ ?_); simp (disch := omega) only [u, i64, ax, if_true, forall_const, reduceCtorEq, implies_true, tvs, bf]
    rfl
end Go.Proofs
