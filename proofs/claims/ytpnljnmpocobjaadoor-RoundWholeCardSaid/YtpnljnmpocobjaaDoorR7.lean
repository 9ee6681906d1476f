/-
  Contracts of functions of the program, each proved by a walk.
-/
import Derived.Test.YtpnljnmpocobjaaDoorR6
set_option linter.unusedVariables false
set_option linter.unusedSimpArgs false
namespace Go.Proofs
open Go.Ax
set_option maxRecDepth 100000 in
set_option maxHeartbeats 4000000 in
theorem ret_Divide (a b : List Nat) (ha : Ds 4294967296 a) (hb : Ds 4294967296 b) (hne : vb 4294967296 b ≠ 0) (hla : a.length ≤ 137438953472) (hlb : b.length ≤ 137438953472) :
    ∃ qs rs : List Nat, Ds 4294967296 qs ∧ Ds 4294967296 rs ∧ vb 4294967296 qs = vb 4294967296 a / vb 4294967296 b ∧ vb 4294967296 rs = vb 4294967296 a % vb 4294967296 b ∧ qs.length ≤ a.length + 2 ∧ rs.length ≤ a.length + 2 ∧
      Ret Tryd.prog GEs 161 [ws a, ws b] (.tup [ws qs, ws rs]) := by
  have htp : 0 < top b := by
    rcases Nat.eq_zero_or_pos (top b) with h | h
    · have := vb_top (K := 4294967296) b
      rw [h] at this
      exact absurd this.symm hne
    · exact h
  have hT := top_last_ne hb htp
  have hvB := vb_top (K := 4294967296) b
  have hlB : (b.take (top b)).length = top b := by rw [List.length_take, Nat.min_eq_left (top_le b)]
  have hdB := hb.take (top b)
  have hSh := ret_Short b (by omega)
  rw [← hlB] at hT
  have htl := top_le b
  obtain ⟨B, hBd⟩ : ∃ B, b.take (top b) = B := ⟨_, rfl⟩
  rw [hBd] at hT hvB hlB hdB hSh
  have hBp : 0 < B.length := by omega
  have hBl : B.length ≤ 137438953472 := by omega
  obtain ⟨y, hy⟩ : ∃ y, vb 4294967296 b = y := ⟨_, rfl⟩
  obtain ⟨x, hx⟩ : ∃ x, vb 4294967296 a = x := ⟨_, rfl⟩
  rw [hy] at hvB hne ⊢
  rw [hx]
  have hy0 : 0 < y := Nat.pos_of_ne_zero hne
  have hxl := vb_lt ha
  rw [hx] at hxl
  by_cases h1 : B.length = 1
  · have hB0 : B.getD 0 0 = y := by
      have := vb_take_getD (K := 4294967296) B 0
      rw [List.take_of_length_le (by omega), hvB] at this
      simp [vb] at this
      simp
      omega
    have hyB := hdB.getD (by decide) 0
    rw [hB0] at hyB
    have hlt2 : x / y < 4294967296 ^ a.length := Nat.lt_of_le_of_lt (Nat.div_le_self _ _) hxl
    have hmd := Nat.mod_lt x hy0
    refine ⟨wfb 4294967296 a.length (x / y), [x % y], wfb_Ds (by decide) _ _, Ds_cons (by omega) Ds_nil, vb_wfb (by decide) _ _ hlt2, one_vb _, by rw [wfb_length]; omega, by simp, ?_⟩
    have hO := ret_one a y ha hyB hy0 (by omega)
    rw [hx] at hO
    refine RetN_start Tryd.func161 (by kernel_rfl) rfl fun Q hQ hQ2 => ?_; rw [Tryd.ntmps161]; simp only [u, i64, Nat.reduceSub, Nat.reduceAdd, bm]
    repeat (first | (((first | refine G_sreg mixed (by first | rfl | kernel_rfl) ?_ | refine G_reg mixed (by first | rfl | kernel_rfl) ?_); simp (disch := omega) only [u, i64, ax, eq_self, if_true, if_false, Nat.reduceAdd, Int.reduceToNat, Int.reduceAdd, tvs, bs]; refine aft_any ?_)) | refine G_seq ?_ | refine G_block ?_ | refine G_condT rfl ?_ | refine G_condF rfl ?_ | refine G_skip ?_ | refine G_ret ?_ | refine G_exit ?_ | refine q_tn ?_ | refine q_tr ?_ | refine q_tx ?_ | refine q_bn ?_ | refine q_br ?_ | refine q_bx ?_ | refine q_by (by decide) ?_)
    ((first | refine G_sreg mixed (by first | rfl | kernel_rfl) ?_ | refine G_reg mixed (by first | rfl | kernel_rfl) ?_); simp (disch := omega) only [u, i64, ax, eq_self, if_true, if_false, Nat.reduceAdd, Int.reduceToNat, Int.reduceAdd, tvs, bs])
    (refine callK_ret hSh (by (simp (disch := omega) only [if_true, forall_const, reduceCtorEq, implies_true, bz]) <;> rfl) ?_; simp (disch := omega) only [u, i64, ax, eq_self, if_true, if_false, Nat.reduceAdd, Int.reduceToNat, Int.reduceAdd, tvs, bs]; try refine aft_any ?_)
    repeat (first | (((first | refine G_sreg mixed (by first | rfl | kernel_rfl) ?_ | refine G_reg mixed (by first | rfl | kernel_rfl) ?_); simp (disch := omega) only [u, i64, ax, eq_self, if_true, if_false, Nat.reduceAdd, Int.reduceToNat, Int.reduceAdd, tvs, bs]; refine aft_any ?_)) | refine G_seq ?_ | refine G_block ?_ | refine G_condT rfl ?_ | refine G_condF rfl ?_ | refine G_skip ?_ | refine G_ret ?_ | refine G_exit ?_ | refine q_tn ?_ | refine q_tr ?_ | refine q_tx ?_ | refine q_bn ?_ | refine q_br ?_ | refine q_bx ?_ | refine q_by (by decide) ?_)
    ((first | refine G_sreg mixed (by first | rfl | kernel_rfl) ?_ | refine G_reg mixed (by first | rfl | kernel_rfl) ?_); simp (disch := omega) only [u, i64, ax, eq_self, if_true, if_false, Nat.reduceAdd, Int.reduceToNat, Int.reduceAdd, tvs, bs])
    rw [hB0]
    (refine callK_ret hO (by (simp (disch := omega) only [if_true, forall_const, reduceCtorEq, implies_true, bz]) <;> rfl) ?_; simp (disch := omega) only [u, i64, ax, eq_self, if_true, if_false, Nat.reduceAdd, Int.reduceToNat, Int.reduceAdd, tvs, bs]; try refine aft_any ?_)
    repeat (first | (((first | refine G_sreg mixed (by first | rfl | kernel_rfl) ?_ | refine G_reg mixed (by first | rfl | kernel_rfl) ?_); simp (disch := omega) only [u, i64, ax, eq_self, if_true, if_false, Nat.reduceAdd, Int.reduceToNat, Int.reduceAdd, tvs, bs]; refine aft_any ?_)) | refine G_seq ?_ | refine G_block ?_ | refine G_condT rfl ?_ | refine G_condF rfl ?_ | refine G_skip ?_ | refine G_ret ?_ | refine G_exit ?_ | refine q_tn ?_ | refine q_tr ?_ | refine q_tx ?_ | refine q_bn ?_ | refine q_br ?_ | refine q_bx ?_ | refine q_by (by decide) ?_)
    (refine FinQ hQ (congrArg Array.toList Tryd.results161) _ _ ?_); simp (disch := omega) only [u, i64, ax, if_true, forall_const, reduceCtorEq, implies_true, tvs, bf]
  obtain ⟨bt, hbt⟩ : ∃ t, B.getD (B.length - 1) 0 = t := ⟨_, rfl⟩
  rw [hlB, hBd, ← hlB, hbt] at hT
  have hbtB := hdB.getD (by decide) (B.length - 1)
  rw [hbt] at hbtB
  obtain ⟨S, hS⟩ : ∃ S, 2 ^ (32 - bl bt) = S := ⟨_, rfl⟩
  obtain ⟨hS1, hS2, hS3, hS4⟩ := scale_facts hT.1 hbtB (32 - bl bt) (Nat.le_refl _)
  rw [hS] at hS1 hS2 hS3 hS4
  -- the scaled ones
  obtain ⟨W, hW⟩ : ∃ W, wfb 4294967296 (B.length + 1) (y * S) = W := ⟨_, rfl⟩
  obtain ⟨X, hX⟩ : ∃ X, wfb 4294967296 (a.length + 1) (x * S) = X := ⟨_, rfl⟩
  have hyl := vb_lt hdB
  rw [hvB] at hyl
  have hWv : vb 4294967296 W = y * S := by
    rw [← hW]; refine vb_wfb (by decide) _ _ ?_
    rw [Nat.pow_succ]; exact Nat.mul_lt_mul'' hyl (by omega)
  have hXv : vb 4294967296 X = x * S := by
    rw [← hX]; refine vb_wfb (by decide) _ _ ?_
    rw [Nat.pow_succ]; exact Nat.mul_lt_mul'' hxl (by omega)
  have hWd : Ds 4294967296 W := by rw [← hW]; exact wfb_Ds (by decide) _ _
  have hXd : Ds 4294967296 X := by rw [← hX]; exact wfb_Ds (by decide) _ _
  have hXl : X.length = a.length + 1 := by rw [← hX, wfb_length]
  have hWl : W.length = B.length + 1 := by rw [← hW, wfb_length]
  have hyS : 0 < y * S := Nat.mul_pos hy0 hS1
  have hWt : 0 < top W := by
    rcases Nat.eq_zero_or_pos (top W) with h | h
    · have := vb_top (K := 4294967296) W
      rw [h, hWv] at this
      simp [vb] at this
      omega
    · exact h
  have hTV := top_last_ne hWd hWt
  have hVge := vb_top_ge (K := 4294967296) W hWt
  have hVl : (W.take (top W)).length = top W := by rw [List.length_take, Nat.min_eq_left (top_le W)]
  have hVv : vb 4294967296 (W.take (top W)) = y * S := by rw [vb_top, hWv]
  have hVd := hWd.take (top W)
  have htW := top_le W
  rw [hWv] at hVge
  have hShV := ret_Short W (by omega)
  have hTV2 : 0 < (W.take (top W)).getD ((W.take (top W)).length - 1) 0 := by rw [hVl]; exact hTV.2
  have hVge2 : 4294967296 ^ ((W.take (top W)).length - 1) ≤ y * S := by rw [hVl]; exact hVge
  have hVpos : 0 < (W.take (top W)).length := by rw [hVl]; exact hWt
  clear hTV hVge hWt
  obtain ⟨V, hVdef⟩ : ∃ V, W.take (top W) = V := ⟨_, rfl⟩
  rw [hVdef] at hVl hVv hVd hShV hTV2 hVge2 hVpos
  have hVle : V.length ≤ W.length := by omega
  have hTa := retF_Times a [S] ha (Ds_cons (by omega) Ds_nil) (by omega) (by simp)
  rw [one_vb, hx] at hTa
  have hTa2 : RetF Tryd.prog GEs 155 [ws a, ws [S]] (us X) := by rw [← hX]; exact hTa
  have hTb := ret_Times B [S] hdB (Ds_cons (by omega) Ds_nil) (by omega) (by simp)
  rw [one_vb, hvB] at hTb
  have hTb2 : Ret Tryd.prog GEs 155 [ws B, ws [S]] (ws W) := by rw [← hW]; exact hTb
  clear hTa hTb
  have hdiv : x * S / (y * S) = x / y := Nat.mul_div_mul_right _ _ hS1
  have hmod : x * S % (y * S) = x % y * S := Nat.mul_mod_mul_right _ _ _
  have hR : x % y * S < 4294967296 ^ (a.length + 2) := by
    have := vb_lt hXd
    rw [hXv, hXl] at this
    exact Nat.lt_of_le_of_lt (Nat.mul_le_mul_right _ (Nat.mod_le _ _)) (Nat.lt_of_lt_of_le this (Nat.pow_le_pow_right (by decide) (by omega)))
  obtain ⟨r, hr⟩ : ∃ r, (wfb 4294967296 (a.length + 2) (x % y * S)).take (top (wfb 4294967296 (a.length + 2) (x % y * S))) = r := ⟨_, rfl⟩
  have hrd : Ds 4294967296 r := by rw [← hr]; exact (wfb_Ds (by decide) _ _).take _
  have hrv : vb 4294967296 r = x % y * S := by rw [← hr, vb_top, vb_wfb (by decide) _ _ hR]
  have hrl : r.length ≤ a.length + 2 := by rw [← hr, List.length_take, wfb_length]; omega
  have hrlt := vb_lt hrd
  rw [hrv] at hrlt
  have hq1 : x / y < 4294967296 ^ (a.length + 2 - V.length) := by
    rcases Nat.lt_or_ge (a.length + 2) V.length with h | h
    · have h3 := vb_lt hXd
      rw [hXv, hXl] at h3
      have h4 : 4294967296 ^ (a.length + 1) ≤ 4294967296 ^ (V.length - 1) := Nat.pow_le_pow_right (by decide) (by omega)
      rw [← hdiv, Nat.div_eq_of_lt (by omega)]
      exact Nat.pow_pos (by decide)
    · rw [← hdiv, Nat.div_lt_iff_lt_mul hyS]
      have h3 := vb_lt hXd
      rw [hXv, hXl] at h3
      have h4 := Nat.mul_le_mul_left (4294967296 ^ (a.length + 2 - V.length)) hVge2
      rw [← Nat.pow_add, show a.length + 2 - V.length + (V.length - 1) = a.length + 1 by omega] at h4
      omega
  have hd1 : x % y < 4294967296 ^ r.length := Nat.lt_of_le_of_lt (Nat.le_mul_of_pos_right _ hS1) hrlt
  refine ⟨wfb 4294967296 (a.length + 2 - V.length) (x / y), wfb 4294967296 r.length (x % y), wfb_Ds (by decide) _ _, wfb_Ds (by decide) _ _, vb_wfb (by decide) _ _ hq1, vb_wfb (by decide) _ _ hd1, by rw [wfb_length]; omega, by rw [wfb_length]; exact hrl, ?_⟩
  have hwalk := ret_Divide_walk a b B V X W r S (y * S) (x * S) bt _ hSh (by omega) (by omega) hbt hT.1 hbtB hS hS1 hS2 hTa2 hTb2 hShV hXl hla hXd hXv hVd hVv hVpos (by omega) rfl hTV2 hVge2 hyS (by rw [hmod]; exact hr) hrd (by rw [hmod]; exact hrv) hrl
  rw [hdiv, hmod, Nat.mul_div_cancel _ hS1] at hwalk
  exact hwalk
end Go.Proofs
