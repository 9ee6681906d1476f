/-
  Contracts of functions of the program, each proved by a walk.
-/
import Derived.Test.YtpnljnmpocobjaaDoorR1
set_option linter.unusedVariables false
set_option linter.unusedSimpArgs false
namespace Go.Proofs
open Go.Ax

theorem pad_snoc (ds : List Nat) (z : Nat) : ds ++ List.replicate (z + 1) 0 = (ds ++ List.replicate z 0) ++ [0] := by
  rw [List.append_assoc, ← List.replicate_succ']
theorem two_digits {a b : Nat} (ha : a < 4294967296) (hb : b < 4294967296) : b * 4294967296 % 18446744073709551616 = b * 4294967296 ∧ (a + b * 4294967296) % 18446744073709551616 = a + b * 4294967296 := by omega

theorem vb_top {K : Nat} : ∀ xs, vb K (xs.take (top xs)) = vb K xs
  | [] => rfl
  | x :: xs => by
    have ih := vb_top (K := K) xs
    simp only [top]
    split
    · rename_i h0
      rw [h0] at ih
      simp only [List.take_zero, vb] at ih
      split
      · rename_i hx; simp [vb, hx, ← ih]
      · simp [vb, ← ih]
    · simp [vb, ih]
theorem vb_top_ge {K : Nat} : ∀ xs, 0 < top xs → K ^ (top xs - 1) ≤ vb K xs
  | [], h => by simp [top] at h
  | x :: xs, h => by
    simp only [top] at h ⊢
    by_cases h0 : top xs = 0
    · simp only [h0, if_true] at h ⊢
      by_cases hx : x = 0
      · simp [hx] at h
      · simp only [hx, if_false, Nat.sub_self, Nat.pow_zero, vb]; omega
    · have ih := vb_top_ge (K := K) xs (by omega)
      simp only [h0, if_false, Nat.add_sub_cancel, vb]
      obtain ⟨t, ht⟩ : ∃ t, top xs = t + 1 := ⟨top xs - 1, by omega⟩
      rw [ht, Nat.add_sub_cancel] at ih
      rw [ht, Nat.pow_succ, Nat.mul_comm]
      have := Nat.mul_le_mul_left K ih
      omega

set_option maxRecDepth 100000 in
set_option maxHeartbeats 1000000 in
theorem ret_Cut (ds : List Nat) (n : Nat) (hd : Ds 4294967296 ds) (hl : ds.length ≤ 1099511627776) (hn : n ≤ 274877906944) :
    Ret Tryd.prog GEs 188 [ws ds, i64 n] (.tup [ws (joined ((pad ds (2 * n + 2)).take (2 * n))), u ((pad ds (2 * n + 2)).getD (2 * n) 0 + (pad ds (2 * n + 2)).getD (2 * n + 1) 0 * 4294967296)]) := by
  refine RetN_start Tryd.func188 (by kernel_rfl) rfl fun Q hQ hQ2 => ?_
  rw [Tryd.ntmps188]; simp only [u, i64, Nat.reduceSub, Nat.reduceAdd, bm]
  by_cases h0 : 0 < ds.length
  · obtain ⟨i0, hi0⟩ : ∃ i : Nat × Nat × List Nat, i = (1, 0, ds) := ⟨_, rfl⟩
    have hI0 : i0.2.2 = ds ++ List.replicate i0.2.1 0 ∧ i0.2.2.length ≤ max ds.length (2 * n + 2) ∧ (i0.1 = 0 → i0.2.2 = []) := by rw [hi0]; exact ⟨by simp, by simp only; omega, fun h => by simp at h⟩
    repeat (first | (((first | refine G_sreg mixed (by first | rfl | kernel_rfl) ?_ | refine G_reg mixed (by first | rfl | kernel_rfl) ?_); simp (disch := omega) only [u, i64, ax, eq_self, if_true, if_false, Nat.reduceAdd, Int.reduceToNat, Int.reduceAdd, tvs, bs]; refine aft_any ?_)) | refine G_seq ?_ | refine G_block ?_ | refine G_condT rfl ?_ | refine G_condF rfl ?_ | refine G_skip ?_ | refine G_ret ?_ | refine G_exit ?_ | refine q_tn ?_ | refine q_tr ?_ | refine q_tx ?_ | refine q_bn ?_ | refine q_br ?_ | refine q_bx ?_ | refine q_by (by decide) ?_)
    refine AWp_loop (fun i : Nat × Nat × List Nat => mk 37 [(0, ws ds), (1, i64 n), (6, gA i.2.2 i.1)] (gR i.2.2 i.1)) (fun i => i.2.2 = ds ++ List.replicate i.2.1 0 ∧ i.2.2.length ≤ max ds.length (2 * n + 2) ∧ (i.1 = 0 → i.2.2 = [])) (fun i => 2 * n + 2 - i.2.2.length) i0 ?_ hI0 ?_
    · subst hi0; dsimp only; simp only [u, i64, Nat.reduceSub, Nat.reduceAdd, bm]
    clear hi0 hI0 i0
    rintro ⟨k, z, all⟩ ⟨hall, hlen, hk⟩
    simp only at hall hlen hk
    by_cases hc : all.length < 2 * n + 2
    · cases k with
      | zero =>
        have h0 := hk rfl
        subst h0
        simp only [u, i64, Nat.reduceSub, Nat.reduceAdd, bm]
        simp only [List.length_nil] at hc
        repeat (first | (((first | refine G_sreg mixed (by first | rfl | kernel_rfl) ?_ | refine G_reg mixed (by first | rfl | kernel_rfl) ?_); simp (disch := omega) only [u, i64, ax, eq_self, if_true, if_false, Nat.reduceAdd, Int.reduceToNat, Int.reduceAdd, tvs, bs]; refine aft_any ?_)) | refine G_seq ?_ | refine G_block ?_ | refine G_condT rfl ?_ | refine G_condF rfl ?_ | refine G_skip ?_ | refine G_ret ?_ | refine G_exit ?_ | refine q_tn ?_ | refine q_tr ?_ | refine q_tx ?_ | refine q_bn ?_ | refine q_br ?_ | refine q_bx ?_ | refine q_by (by decide) ?_)
        refine ⟨(1, z + 1, [0]), ?_, ⟨by simp only; rw [pad_snoc, ← hall]; rfl, by simp only [List.length_append, List.length_cons, List.length_nil]; omega, fun h => by simp at h⟩, by simp only [List.length_append, List.length_cons, List.length_nil]; omega⟩
        simp only [u, i64, Nat.reduceSub, Nat.reduceAdd, bm]
      | succ k =>
        simp only [u, i64, Nat.reduceSub, Nat.reduceAdd, bm]
        repeat (first | (((first | refine G_sreg mixed (by first | rfl | kernel_rfl) ?_ | refine G_reg mixed (by first | rfl | kernel_rfl) ?_); simp (disch := omega) only [u, i64, ax, eq_self, if_true, if_false, Nat.reduceAdd, Int.reduceToNat, Int.reduceAdd, tvs, bs]; refine aft_any ?_)) | refine G_seq ?_ | refine G_block ?_ | refine G_condT rfl ?_ | refine G_condF rfl ?_ | refine G_skip ?_ | refine G_ret ?_ | refine G_exit ?_ | refine q_tn ?_ | refine q_tr ?_ | refine q_tx ?_ | refine q_bn ?_ | refine q_br ?_ | refine q_bx ?_ | refine q_by (by decide) ?_)
        refine ⟨(k + 2, z + 1, all ++ [0]), ?_, ⟨by simp only; rw [hall, pad_snoc], by simp only [List.length_append, List.length_cons, List.length_nil]; omega, fun h => by simp at h⟩, by simp only [List.length_append, List.length_cons, List.length_nil]; omega⟩
        simp only [u, i64, Nat.reduceSub, Nat.reduceAdd, bm]
    · have hp : (pad ds (2 * n + 2)).take (2 * n) = all.take (2 * n) ∧ (pad ds (2 * n + 2)).getD (2 * n) 0 = all.getD (2 * n) 0 ∧ (pad ds (2 * n + 2)).getD (2 * n + 1) 0 = all.getD (2 * n + 1) 0 := by
        have e : pad ds (2 * n + 2) = all := by
          unfold pad
          rw [hall]
          congr 2
          rw [hall, List.length_append, List.length_replicate] at hlen hc
          rcases Nat.lt_or_ge (2 * n + 2) ds.length with h | h <;> omega
        rw [e]
        exact ⟨rfl, rfl, rfl⟩
      obtain ⟨hp1, hp2, hp3⟩ := hp
      have hD : Ds 4294967296 all := by rw [hall]; exact hd.append (Ds_zeros (by decide) _)
      have hd1 := hD.getD (by decide) (2 * n)
      have hd2 := hD.getD (by decide) (2 * n + 1)
      cases k with
      | zero =>
        have h0 := hk rfl
        rw [h0] at hc
        simp at hc
      | succ k =>
        simp only [u, i64, Nat.reduceSub, Nat.reduceAdd, bm]
        repeat (first | (((first | refine G_sreg mixed (by first | rfl | kernel_rfl) ?_ | refine G_reg mixed (by first | rfl | kernel_rfl) ?_); simp (disch := omega) only [u, i64, ax, eq_self, if_true, if_false, Nat.reduceAdd, Int.reduceToNat, Int.reduceAdd, tvs, bs]; refine aft_any ?_)) | refine G_seq ?_ | refine G_block ?_ | refine G_condT rfl ?_ | refine G_condF rfl ?_ | refine G_skip ?_ | refine G_ret ?_ | refine G_exit ?_ | refine q_tn ?_ | refine q_tr ?_ | refine q_tx ?_ | refine q_bn ?_ | refine q_br ?_ | refine q_bx ?_ | refine q_by (by decide) ?_)
        refine G_cool0 ?_
        ((first | refine G_sreg mixed (by first | rfl | kernel_rfl) ?_ | refine G_reg mixed (by first | rfl | kernel_rfl) ?_); simp (disch := omega) only [u, i64, ax, eq_self, if_true, if_false, Nat.reduceAdd, Int.reduceToNat, Int.reduceAdd, tvs, bs])
        refine callK_ret (ret_Row (all.take (2 * n)) (hD.take _) (by rw [List.length_take]; omega) (by rw [List.length_take]; omega)) (by rw [fzs_cons, fz_own, rget0, fzO_usT _ _ _ _ (by omega), fzs_nil, fzC_some]) ?_
        simp (disch := omega) only [u, i64, ax, eq_self, if_true, if_false, Nat.reduceAdd, Int.reduceToNat, Int.reduceAdd, tvs, bs]
        try refine aft_any ?_
        repeat (first | (((first | refine G_sreg mixed (by first | rfl | kernel_rfl) ?_ | refine G_reg mixed (by first | rfl | kernel_rfl) ?_); simp (disch := omega) only [u, i64, ax, eq_self, if_true, if_false, Nat.reduceAdd, Int.reduceToNat, Int.reduceAdd, tvs, bs]; refine aft_any ?_)) | refine G_seq ?_ | refine G_block ?_ | refine G_condT rfl ?_ | refine G_condF rfl ?_ | refine G_skip ?_ | refine G_ret ?_ | refine G_exit ?_ | refine q_tn ?_ | refine q_tr ?_ | refine q_tx ?_ | refine q_bn ?_ | refine q_br ?_ | refine q_bx ?_ | refine q_by (by decide) ?_)
        (refine FinQ hQ (congrArg Array.toList Tryd.results188) _ _ ?_); simp (disch := omega) only [u, i64, ax, if_true, forall_const, reduceCtorEq, implies_true, tvs, bf, hp1, hp2, hp3]
  · have hx : ds = [] := List.eq_nil_of_length_eq_zero (by omega)
    obtain ⟨i0, hi0⟩ : ∃ i : Nat × Nat × List Nat, i = (0, 0, []) := ⟨_, rfl⟩
    have hI0 : i0.2.2 = ds ++ List.replicate i0.2.1 0 ∧ i0.2.2.length ≤ max ds.length (2 * n + 2) ∧ (i0.1 = 0 → i0.2.2 = []) := by rw [hi0, hx]; exact ⟨by simp, by simp, fun h => rfl⟩
    repeat (first | (((first | refine G_sreg mixed (by first | rfl | kernel_rfl) ?_ | refine G_reg mixed (by first | rfl | kernel_rfl) ?_); simp (disch := omega) only [u, i64, ax, eq_self, if_true, if_false, Nat.reduceAdd, Int.reduceToNat, Int.reduceAdd, tvs, bs]; refine aft_any ?_)) | refine G_seq ?_ | refine G_block ?_ | refine G_condT rfl ?_ | refine G_condF rfl ?_ | refine G_skip ?_ | refine G_ret ?_ | refine G_exit ?_ | refine q_tn ?_ | refine q_tr ?_ | refine q_tx ?_ | refine q_bn ?_ | refine q_br ?_ | refine q_bx ?_ | refine q_by (by decide) ?_)
    refine AWp_loop (fun i : Nat × Nat × List Nat => mk 37 [(0, ws ds), (1, i64 n), (6, gA i.2.2 i.1)] (gR i.2.2 i.1)) (fun i => i.2.2 = ds ++ List.replicate i.2.1 0 ∧ i.2.2.length ≤ max ds.length (2 * n + 2) ∧ (i.1 = 0 → i.2.2 = [])) (fun i => 2 * n + 2 - i.2.2.length) i0 ?_ hI0 ?_
    · subst hi0; dsimp only; simp only [u, i64, Nat.reduceSub, Nat.reduceAdd, bm]
    clear hi0 hI0 i0
    rintro ⟨k, z, all⟩ ⟨hall, hlen, hk⟩
    simp only at hall hlen hk
    by_cases hc : all.length < 2 * n + 2
    · cases k with
      | zero =>
        have h0 := hk rfl
        subst h0
        simp only [u, i64, Nat.reduceSub, Nat.reduceAdd, bm]
        simp only [List.length_nil] at hc
        repeat (first | (((first | refine G_sreg mixed (by first | rfl | kernel_rfl) ?_ | refine G_reg mixed (by first | rfl | kernel_rfl) ?_); simp (disch := omega) only [u, i64, ax, eq_self, if_true, if_false, Nat.reduceAdd, Int.reduceToNat, Int.reduceAdd, tvs, bs]; refine aft_any ?_)) | refine G_seq ?_ | refine G_block ?_ | refine G_condT rfl ?_ | refine G_condF rfl ?_ | refine G_skip ?_ | refine G_ret ?_ | refine G_exit ?_ | refine q_tn ?_ | refine q_tr ?_ | refine q_tx ?_ | refine q_bn ?_ | refine q_br ?_ | refine q_bx ?_ | refine q_by (by decide) ?_)
        refine ⟨(1, z + 1, [0]), ?_, ⟨by simp only; rw [pad_snoc, ← hall]; rfl, by simp only [List.length_append, List.length_cons, List.length_nil]; omega, fun h => by simp at h⟩, by simp only [List.length_append, List.length_cons, List.length_nil]; omega⟩
        simp only [u, i64, Nat.reduceSub, Nat.reduceAdd, bm]
      | succ k =>
        simp only [u, i64, Nat.reduceSub, Nat.reduceAdd, bm]
        repeat (first | (((first | refine G_sreg mixed (by first | rfl | kernel_rfl) ?_ | refine G_reg mixed (by first | rfl | kernel_rfl) ?_); simp (disch := omega) only [u, i64, ax, eq_self, if_true, if_false, Nat.reduceAdd, Int.reduceToNat, Int.reduceAdd, tvs, bs]; refine aft_any ?_)) | refine G_seq ?_ | refine G_block ?_ | refine G_condT rfl ?_ | refine G_condF rfl ?_ | refine G_skip ?_ | refine G_ret ?_ | refine G_exit ?_ | refine q_tn ?_ | refine q_tr ?_ | refine q_tx ?_ | refine q_bn ?_ | refine q_br ?_ | refine q_bx ?_ | refine q_by (by decide) ?_)
        refine ⟨(k + 2, z + 1, all ++ [0]), ?_, ⟨by simp only; rw [hall, pad_snoc], by simp only [List.length_append, List.length_cons, List.length_nil]; omega, fun h => by simp at h⟩, by simp only [List.length_append, List.length_cons, List.length_nil]; omega⟩
        simp only [u, i64, Nat.reduceSub, Nat.reduceAdd, bm]
    · have hp : (pad ds (2 * n + 2)).take (2 * n) = all.take (2 * n) ∧ (pad ds (2 * n + 2)).getD (2 * n) 0 = all.getD (2 * n) 0 ∧ (pad ds (2 * n + 2)).getD (2 * n + 1) 0 = all.getD (2 * n + 1) 0 := by
        have e : pad ds (2 * n + 2) = all := by
          unfold pad
          rw [hall]
          congr 2
          rw [hall, List.length_append, List.length_replicate] at hlen hc
          rcases Nat.lt_or_ge (2 * n + 2) ds.length with h | h <;> omega
        rw [e]
        exact ⟨rfl, rfl, rfl⟩
      obtain ⟨hp1, hp2, hp3⟩ := hp
      have hD : Ds 4294967296 all := by rw [hall]; exact hd.append (Ds_zeros (by decide) _)
      have hd1 := hD.getD (by decide) (2 * n)
      have hd2 := hD.getD (by decide) (2 * n + 1)
      cases k with
      | zero =>
        have h0 := hk rfl
        rw [h0] at hc
        simp at hc
      | succ k =>
        simp only [u, i64, Nat.reduceSub, Nat.reduceAdd, bm]
        repeat (first | (((first | refine G_sreg mixed (by first | rfl | kernel_rfl) ?_ | refine G_reg mixed (by first | rfl | kernel_rfl) ?_); simp (disch := omega) only [u, i64, ax, eq_self, if_true, if_false, Nat.reduceAdd, Int.reduceToNat, Int.reduceAdd, tvs, bs]; refine aft_any ?_)) | refine G_seq ?_ | refine G_block ?_ | refine G_condT rfl ?_ | refine G_condF rfl ?_ | refine G_skip ?_ | refine G_ret ?_ | refine G_exit ?_ | refine q_tn ?_ | refine q_tr ?_ | refine q_tx ?_ | refine q_bn ?_ | refine q_br ?_ | refine q_bx ?_ | refine q_by (by decide) ?_)
        refine G_cool0 ?_
        ((first | refine G_sreg mixed (by first | rfl | kernel_rfl) ?_ | refine G_reg mixed (by first | rfl | kernel_rfl) ?_); simp (disch := omega) only [u, i64, ax, eq_self, if_true, if_false, Nat.reduceAdd, Int.reduceToNat, Int.reduceAdd, tvs, bs])
        refine callK_ret (ret_Row (all.take (2 * n)) (hD.take _) (by rw [List.length_take]; omega) (by rw [List.length_take]; omega)) (by rw [fzs_cons, fz_own, rget0, fzO_usT _ _ _ _ (by omega), fzs_nil, fzC_some]) ?_
        simp (disch := omega) only [u, i64, ax, eq_self, if_true, if_false, Nat.reduceAdd, Int.reduceToNat, Int.reduceAdd, tvs, bs]
        try refine aft_any ?_
        repeat (first | (((first | refine G_sreg mixed (by first | rfl | kernel_rfl) ?_ | refine G_reg mixed (by first | rfl | kernel_rfl) ?_); simp (disch := omega) only [u, i64, ax, eq_self, if_true, if_false, Nat.reduceAdd, Int.reduceToNat, Int.reduceAdd, tvs, bs]; refine aft_any ?_)) | refine G_seq ?_ | refine G_block ?_ | refine G_condT rfl ?_ | refine G_condF rfl ?_ | refine G_skip ?_ | refine G_ret ?_ | refine G_exit ?_ | refine q_tn ?_ | refine q_tr ?_ | refine q_tx ?_ | refine q_bn ?_ | refine q_br ?_ | refine q_bx ?_ | refine q_by (by decide) ?_)
        (refine FinQ hQ (congrArg Array.toList Tryd.results188) _ _ ?_); simp (disch := omega) only [u, i64, ax, if_true, forall_const, reduceCtorEq, implies_true, tvs, bf, hp1, hp2, hp3]

theorem nat_row (ds : List Nat) (hd : Ds 4294967296 ds) : joined ((pad (ds.take (top ds)) (2 * (((ds.take (top ds)).length + 1) / 2) + 2)).take (2 * (((ds.take (top ds)).length + 1) / 2))) = words (vb 4294967296 ds) := by
  have htl := top_le ds
  have hlt : (ds.take (top ds)).length = top ds := by rw [List.length_take, Nat.min_eq_left htl]
  rw [hlt]
  have hv : vb 4294967296 (ds.take (top ds)) = vb 4294967296 ds := vb_top ds
  rcases Nat.eq_zero_or_pos (top ds) with h0 | h0
  · rw [h0] at hv ⊢
    simp only [List.take_zero, vb] at hv
    rw [← hv, words_zero]
    rfl
  rw [pad_take (by omega) (by omega)]
  have hpl : (pad (ds.take (top ds)) (2 * ((top ds + 1) / 2))).length = 2 * ((top ds + 1) / 2) := pad_length (by omega)
  have hev : val (joined (pad (ds.take (top ds)) (2 * ((top ds + 1) / 2)))) = vb 4294967296 ds := by
    rw [joined_val _ (by omega), pad_vb, hv]
  rw [← hev]
  refine words_of_ge (joined_Wd (pad_Ds (by decide) (hd.take _) _)) ?_
  rw [hev, joined_length, hpl, ← pow_half]
  exact Nat.le_trans (Nat.pow_le_pow_right (by decide) (by omega)) (vb_top_ge ds h0)
set_option maxRecDepth 100000 in
theorem ret_nat (ds : List Nat) (hd : Ds 4294967296 ds) (hl : ds.length ≤ 274877906944) : Ret Tryd.prog GEs 154 [ws ds] (nat (vb 4294967296 ds)) := by
  have htl : (ds.take (top ds)).length ≤ ds.length := by rw [List.length_take]; omega
  refine RetN_start Tryd.func154 (by kernel_rfl) rfl fun Q hQ hQ2 => ?_
  rw [Tryd.ntmps154]; simp only [u, i64, Nat.reduceSub, Nat.reduceAdd, bm]
  repeat (first | (((first | refine G_sreg mixed (by first | rfl | kernel_rfl) ?_ | refine G_reg mixed (by first | rfl | kernel_rfl) ?_); simp (disch := omega) only [u, i64, ax, eq_self, if_true, if_false, Nat.reduceAdd, Int.reduceToNat, Int.reduceAdd, tvs, bs]; refine aft_any ?_)) | refine G_seq ?_ | refine G_block ?_ | refine G_condT rfl ?_ | refine G_condF rfl ?_ | refine G_skip ?_ | refine G_ret ?_ | refine G_exit ?_ | refine q_tn ?_ | refine q_tr ?_ | refine q_tx ?_ | refine q_bn ?_ | refine q_br ?_ | refine q_bx ?_ | refine q_by (by decide) ?_)
  ((first | refine G_sreg mixed (by first | rfl | kernel_rfl) ?_ | refine G_reg mixed (by first | rfl | kernel_rfl) ?_); simp (disch := omega) only [u, i64, ax, eq_self, if_true, if_false, Nat.reduceAdd, Int.reduceToNat, Int.reduceAdd, tvs, bs])
  (refine callK_ret (ret_Short ds (by omega)) (by (simp (disch := omega) only [if_true, forall_const, reduceCtorEq, implies_true, bz]) <;> rfl) ?_; simp (disch := omega) only [u, i64, ax, eq_self, if_true, if_false, Nat.reduceAdd, Int.reduceToNat, Int.reduceAdd, tvs, bs]; try refine aft_any ?_)
  repeat (first | (((first | refine G_sreg mixed (by first | rfl | kernel_rfl) ?_ | refine G_reg mixed (by first | rfl | kernel_rfl) ?_); simp (disch := omega) only [u, i64, ax, eq_self, if_true, if_false, Nat.reduceAdd, Int.reduceToNat, Int.reduceAdd, tvs, bs]; refine aft_any ?_)) | refine G_seq ?_ | refine G_block ?_ | refine G_condT rfl ?_ | refine G_condF rfl ?_ | refine G_skip ?_ | refine G_ret ?_ | refine G_exit ?_ | refine q_tn ?_ | refine q_tr ?_ | refine q_tx ?_ | refine q_bn ?_ | refine q_br ?_ | refine q_bx ?_ | refine q_by (by decide) ?_)
  ((first | refine G_sreg mixed (by first | rfl | kernel_rfl) ?_ | refine G_reg mixed (by first | rfl | kernel_rfl) ?_); simp (disch := omega) only [u, i64, ax, eq_self, if_true, if_false, Nat.reduceAdd, Int.reduceToNat, Int.reduceAdd, tvs, bs])
  (refine callK_ret (ret_Cut (ds.take (top ds)) (((ds.take (top ds)).length + 1) / 2) (hd.take _) (by omega) (by omega)) (by (simp (disch := omega) only [if_true, forall_const, reduceCtorEq, implies_true, bz]) <;> rfl) ?_; simp (disch := omega) only [u, i64, ax, eq_self, if_true, if_false, Nat.reduceAdd, Int.reduceToNat, Int.reduceAdd, tvs, bs]; try refine aft_any ?_)
  rw [nat_row ds hd]
  repeat (first | (((first | refine G_sreg mixed (by first | rfl | kernel_rfl) ?_ | refine G_reg mixed (by first | rfl | kernel_rfl) ?_); simp (disch := omega) only [u, i64, ax, eq_self, if_true, if_false, Nat.reduceAdd, Int.reduceToNat, Int.reduceAdd, tvs, bs]; refine aft_any ?_)) | refine G_seq ?_ | refine G_block ?_ | refine G_condT rfl ?_ | refine G_condF rfl ?_ | refine G_skip ?_ | refine G_ret ?_ | refine G_exit ?_ | refine q_tn ?_ | refine q_tr ?_ | refine q_tx ?_ | refine q_bn ?_ | refine q_br ?_ | refine q_bx ?_ | refine q_by (by decide) ?_)
  (refine FinQ hQ (congrArg Array.toList Tryd.results154) _ _ ?_); simp (disch := omega) only [u, i64, ax, if_true, forall_const, reduceCtorEq, implies_true, tvs, bf]
end Go.Proofs
