/-
  Contracts of functions of the program, each proved by a walk.
-/
import Derived.Test.YtpnljnmpocobjaaGreatDoorX14
import Derived.Test.YtpnljnmpocobjaaGreatDoorX11
import Derived.Test.YtpnljnmpocobjaaGreatDoorX12
set_option maxRecDepth 100000
set_option linter.unusedVariables false
set_option linter.unusedSimpArgs false
namespace Go.Proofs
open Go.Ax
set_option maxRecDepth 100000 in
set_option maxHeartbeats 4000000 in
theorem ret_Divide (a b : List Nat) (ha : Ds 4294967296 a) (hb : Ds 4294967296 b) (hne : vb 4294967296 b ≠ 0) (hla : a.length ≤ 137438953472) (hlb : b.length ≤ 137438953472) :
    ∃ qs rs : List Nat, Ds 4294967296 qs ∧ Ds 4294967296 rs ∧ vb 4294967296 qs = vb 4294967296 a / vb 4294967296 b ∧ vb 4294967296 rs = vb 4294967296 a % vb 4294967296 b ∧ qs.length ≤ a.length + 2 ∧ rs.length ≤ a.length + 2 ∧
      Ret Tryz.prog GEs 243 [ws a, ws b] (.tup [ws qs, ws rs]) := by
  have htp : 0 < top b := by
    rcases Nat.eq_zero_or_pos (top b) with h | h
    · have := vb_top (K := 4294967296) b
      rw [h] at this
      exact absurd this.symm hne
    · exact h
  have hT := top_last_ne hb htp
  have hvB := vb_top (K := 4294967296) b
  have hlB : (b.take (top b)).length = top b := by rw [List.length_take, Nat.min_eq_left (top_le b)]
  have hdB := hb.take (top b)
  have hSh := ret_Short b (by omega)
  rw [← hlB] at hT
  have htl := top_le b
  obtain ⟨B, hBd⟩ : ∃ B, b.take (top b) = B := ⟨_, rfl⟩
  rw [hBd] at hT hvB hlB hdB hSh
  have hBp : 0 < B.length := by omega
  have hBl : B.length ≤ 137438953472 := by omega
  obtain ⟨y, hy⟩ : ∃ y, vb 4294967296 b = y := ⟨_, rfl⟩
  obtain ⟨x, hx⟩ : ∃ x, vb 4294967296 a = x := ⟨_, rfl⟩
  rw [hy] at hvB hne ⊢
  rw [hx]
  have hy0 : 0 < y := Nat.pos_of_ne_zero hne
  have hxl := vb_lt ha
  rw [hx] at hxl
  by_cases h1 : B.length = 1
  · have hB0 : B.getD 0 0 = y := by
      have := vb_take_getD (K := 4294967296) B 0
      rw [List.take_of_length_le (by omega), hvB] at this
      simp [vb] at this
      simp
      omega
    have hyB := hdB.getD (by decide) 0
    rw [hB0] at hyB
    have hlt2 : x / y < 4294967296 ^ a.length := Nat.lt_of_le_of_lt (Nat.div_le_self _ _) hxl
    have hmd := Nat.mod_lt x hy0
    refine ⟨wfb 4294967296 a.length (x / y), [x % y], wfb_Ds (by decide) _ _, Ds_cons (by omega) Ds_nil, vb_wfb (by decide) _ _ hlt2, one_vb _, by rw [wfb_length]; omega, by simp, ?_⟩
    have hO := ret_one a y ha hyB hy0 (by omega)
    rw [hx] at hO
    refine RetN_start Tryz.func243 (by kernel_rfl) rfl fun Q hQ hQ2 => ?_; rw [Tryz.ntmps243]; simp only [u, i64, Nat.reduceSub, Nat.reduceAdd, bm]
    repeat (first | ((first | refine Gs ?_ | refine Gr ?_); simp (disch := omega) only [u, i64, ax, eq_self, if_true, if_false, Nat.reduceAdd, Int.reduceToNat, Int.reduceAdd, tvs, bs]; first | refine aA ?_ | (refine cR hSh ?_; simp (disch := omega) only [u, i64, ax, eq_self, if_true, if_false, Nat.reduceAdd, Int.reduceToNat, Int.reduceAdd, tvs, bs]; try refine aA ?_)) | (refine cR hSh ?_; simp (disch := omega) only [u, i64, ax, eq_self, if_true, if_false, Nat.reduceAdd, Int.reduceToNat, Int.reduceAdd, tvs, bs]; try refine aA ?_) | refine G_seq ?_ | refine G_block ?_ | refine G_condT rfl ?_ | refine G_condF rfl ?_ | refine G_skip ?_ | refine G_ret ?_ | refine G_exit ?_ | refine q_tn ?_ | refine q_tr ?_ | refine q_tx ?_ | refine q_bn ?_ | refine q_br ?_ | refine q_bx ?_ | refine q_by (by decide) ?_)
    ((first | refine Gs ?_ | refine Gr ?_); simp (disch := omega) only [u, i64, ax, eq_self, if_true, if_false, Nat.reduceAdd, Int.reduceToNat, Int.reduceAdd, tvs, bs])
    rw [hB0]
    repeat (first | ((first | refine Gs ?_ | refine Gr ?_); simp (disch := omega) only [u, i64, ax, eq_self, if_true, if_false, Nat.reduceAdd, Int.reduceToNat, Int.reduceAdd, tvs, bs]; first | refine aA ?_ | (refine cR hO ?_; simp (disch := omega) only [u, i64, ax, eq_self, if_true, if_false, Nat.reduceAdd, Int.reduceToNat, Int.reduceAdd, tvs, bs]; try refine aA ?_)) | (refine cR hO ?_; simp (disch := omega) only [u, i64, ax, eq_self, if_true, if_false, Nat.reduceAdd, Int.reduceToNat, Int.reduceAdd, tvs, bs]; try refine aA ?_) | refine G_seq ?_ | refine G_block ?_ | refine G_condT rfl ?_ | refine G_condF rfl ?_ | refine G_skip ?_ | refine G_ret ?_ | refine G_exit ?_ | refine q_tn ?_ | refine q_tr ?_ | refine q_tx ?_ | refine q_bn ?_ | refine q_br ?_ | refine q_bx ?_ | refine q_by (by decide) ?_)
    (refine FinQ hQ (congrArg Array.toList Tryz.results243) _ _ ?_); simp (disch := omega) only [u, i64, ax, if_true, forall_const, reduceCtorEq, implies_true, tvs, bf]
  obtain ⟨bt, hbt⟩ : ∃ t, B.getD (B.length - 1) 0 = t := ⟨_, rfl⟩
  rw [hlB, hBd, ← hlB, hbt] at hT
  have hbtB := hdB.getD (by decide) (B.length - 1)
  rw [hbt] at hbtB
  obtain ⟨S, hS⟩ : ∃ S, 2 ^ (32 - bl bt) = S := ⟨_, rfl⟩
  obtain ⟨hS1, hS2, hS3, hS4⟩ := scale_facts hT.1 hbtB (32 - bl bt) (Nat.le_refl _)
  rw [hS] at hS1 hS2 hS3 hS4
  -- the scaled ones
  obtain ⟨W, hW⟩ : ∃ W, wfb 4294967296 (B.length + 1) (y * S) = W := ⟨_, rfl⟩
  obtain ⟨X, hX⟩ : ∃ X, wfb 4294967296 (a.length + 1) (x * S) = X := ⟨_, rfl⟩
  have hyl := vb_lt hdB
  rw [hvB] at hyl
  have hWv : vb 4294967296 W = y * S := by
    rw [← hW]; refine vb_wfb (by decide) _ _ ?_
    rw [Nat.pow_succ]; exact Nat.mul_lt_mul'' hyl (by omega)
  have hXv : vb 4294967296 X = x * S := by
    rw [← hX]; refine vb_wfb (by decide) _ _ ?_
    rw [Nat.pow_succ]; exact Nat.mul_lt_mul'' hxl (by omega)
  have hWd : Ds 4294967296 W := by rw [← hW]; exact wfb_Ds (by decide) _ _
  have hXd : Ds 4294967296 X := by rw [← hX]; exact wfb_Ds (by decide) _ _
  have hXl : X.length = a.length + 1 := by rw [← hX, wfb_length]
  have hWl : W.length = B.length + 1 := by rw [← hW, wfb_length]
  have hyS : 0 < y * S := Nat.mul_pos hy0 hS1
  have hWt : 0 < top W := by
    rcases Nat.eq_zero_or_pos (top W) with h | h
    · have := vb_top (K := 4294967296) W
      rw [h, hWv] at this
      simp [vb] at this
      omega
    · exact h
  have hTV := top_last_ne hWd hWt
  have hVge := vb_top_ge (K := 4294967296) W hWt
  have hVl : (W.take (top W)).length = top W := by rw [List.length_take, Nat.min_eq_left (top_le W)]
  have hVv : vb 4294967296 (W.take (top W)) = y * S := by rw [vb_top, hWv]
  have hVd := hWd.take (top W)
  have htW := top_le W
  rw [hWv] at hVge
  have hShV := ret_Short W (by omega)
  have hTV2 : 0 < (W.take (top W)).getD ((W.take (top W)).length - 1) 0 := by rw [hVl]; exact hTV.2
  have hVge2 : 4294967296 ^ ((W.take (top W)).length - 1) ≤ y * S := by rw [hVl]; exact hVge
  have hVpos : 0 < (W.take (top W)).length := by rw [hVl]; exact hWt
  clear hTV hVge hWt
  obtain ⟨V, hVdef⟩ : ∃ V, W.take (top W) = V := ⟨_, rfl⟩
  rw [hVdef] at hVl hVv hVd hShV hTV2 hVge2 hVpos
  have hVle : V.length ≤ W.length := by omega
  have hTa := retF_Times a [S] ha (Ds_cons (by omega) Ds_nil) (by omega) (by simp)
  rw [one_vb, hx] at hTa
  have hTa2 : RetF Tryz.prog GEs 216 [ws a, ws [S]] (us X) := by rw [← hX]; exact hTa
  have hTb := ret_Times B [S] hdB (Ds_cons (by omega) Ds_nil) (by omega) (by simp)
  rw [one_vb, hvB] at hTb
  have hTb2 : Ret Tryz.prog GEs 216 [ws B, ws [S]] (ws W) := by rw [← hW]; exact hTb
  clear hTa hTb
  have hdiv : x * S / (y * S) = x / y := Nat.mul_div_mul_right _ _ hS1
  have hmod : x * S % (y * S) = x % y * S := Nat.mul_mod_mul_right _ _ _
  have hR : x % y * S < 4294967296 ^ (a.length + 2) := by
    have := vb_lt hXd
    rw [hXv, hXl] at this
    exact Nat.lt_of_le_of_lt (Nat.mul_le_mul_right _ (Nat.mod_le _ _)) (Nat.lt_of_lt_of_le this (Nat.pow_le_pow_right (by decide) (by omega)))
  obtain ⟨r, hr⟩ : ∃ r, (wfb 4294967296 (a.length + 2) (x % y * S)).take (top (wfb 4294967296 (a.length + 2) (x % y * S))) = r := ⟨_, rfl⟩
  have hrd : Ds 4294967296 r := by rw [← hr]; exact (wfb_Ds (by decide) _ _).take _
  have hrv : vb 4294967296 r = x % y * S := by rw [← hr, vb_top, vb_wfb (by decide) _ _ hR]
  have hrl : r.length ≤ a.length + 2 := by rw [← hr, List.length_take, wfb_length]; omega
  have hrlt := vb_lt hrd
  rw [hrv] at hrlt
  have hq1 : x / y < 4294967296 ^ (a.length + 2 - V.length) := by
    rcases Nat.lt_or_ge (a.length + 2) V.length with h | h
    · have h3 := vb_lt hXd
      rw [hXv, hXl] at h3
      have h4 : 4294967296 ^ (a.length + 1) ≤ 4294967296 ^ (V.length - 1) := Nat.pow_le_pow_right (by decide) (by omega)
      rw [← hdiv, Nat.div_eq_of_lt (by omega)]
      exact Nat.pow_pos (by decide)
    · rw [← hdiv, Nat.div_lt_iff_lt_mul hyS]
      have h3 := vb_lt hXd
      rw [hXv, hXl] at h3
      have h4 := Nat.mul_le_mul_left (4294967296 ^ (a.length + 2 - V.length)) hVge2
      rw [← Nat.pow_add, show a.length + 2 - V.length + (V.length - 1) = a.length + 1 by omega] at h4
      omega
  have hd1 : x % y < 4294967296 ^ r.length := Nat.lt_of_le_of_lt (Nat.le_mul_of_pos_right _ hS1) hrlt
  refine ⟨wfb 4294967296 (a.length + 2 - V.length) (x / y), wfb 4294967296 r.length (x % y), wfb_Ds (by decide) _ _, wfb_Ds (by decide) _ _, vb_wfb (by decide) _ _ hq1, vb_wfb (by decide) _ _ hd1, by rw [wfb_length]; omega, by rw [wfb_length]; exact hrl, ?_⟩
  have hwalk := ret_Divide_walk a b B V X W r S (y * S) (x * S) bt _ hSh (by omega) (by omega) hbt hT.1 hbtB hS hS1 hS2 hTa2 hTb2 hShV hXl hla hXd hXv hVd hVv hVpos (by omega) rfl hTV2 hVge2 hyS (by rw [hmod]; exact hr) hrd (by rw [hmod]; exact hrv) hrl
  rw [hdiv, hmod, Nat.mul_div_cancel _ hS1] at hwalk
  exact hwalk
end Go.Proofs
set_option linter.unusedVariables false
set_option linter.unusedSimpArgs false
namespace Go.Proofs
open Go.Ax
set_option maxRecDepth 100000 in
theorem ret_rWord (w : Nat) (hw : w < 18446744073709551616) : Ret Tryz.prog GEs 186 [u w] (ws [w % 4294967296, w / 4294967296]) := by
  have h2 : w / 4294967296 < 18446744073709551616 := by omega
  refine RetN_start Tryz.func186 (by kernel_rfl) rfl fun Q hQ hQ2 => ?_; rw [Tryz.ntmps186]; simp only [u, i64, Nat.reduceSub, Nat.reduceAdd, bm]
  repeat (first | ((first | refine Gs ?_ | refine Gr ?_); simp (disch := omega) only [u, i64, ax, eq_self, if_true, if_false, Nat.reduceAdd, Int.reduceToNat, Int.reduceAdd, tvs, bs]; refine aA ?_) | refine G_seq ?_ | refine G_block ?_ | refine G_condT rfl ?_ | refine G_condF rfl ?_ | refine G_skip ?_ | refine G_ret ?_ | refine G_exit ?_ | refine q_tn ?_ | refine q_tr ?_ | refine q_tx ?_ | refine q_bn ?_ | refine q_br ?_ | refine q_bx ?_ | refine q_by (by decide) ?_)
  (refine FinQ hQ (congrArg Array.toList Tryz.results186) _ _ ?_); simp (disch := omega) only [u, i64, ax, if_true, forall_const, reduceCtorEq, implies_true, tvs, bf]
  rfl
set_option maxRecDepth 100000 in
theorem ret_rTrim (xs : List Nat) (hx : Wd xs) (hl : xs.length ≤ 34359738368) : Ret Tryz.prog GEs 169 [ws xs] (nat (val xs)) := by
  refine RetN_start Tryz.func169 (by kernel_rfl) rfl fun Q hQ hQ2 => ?_; rw [Tryz.ntmps169]; simp only [u, i64, Nat.reduceSub, Nat.reduceAdd, bm]
  repeat (first | ((first | refine Gs ?_ | refine Gr ?_); simp (disch := omega) only [u, i64, ax, eq_self, if_true, if_false, Nat.reduceAdd, Int.reduceToNat, Int.reduceAdd, tvs, bs]; refine aA ?_) | refine G_seq ?_ | refine G_block ?_ | refine G_condT rfl ?_ | refine G_condF rfl ?_ | refine G_skip ?_ | refine G_ret ?_ | refine G_exit ?_ | refine q_tn ?_ | refine q_tr ?_ | refine q_tx ?_ | refine q_bn ?_ | refine q_br ?_ | refine q_bx ?_ | refine q_by (by decide) ?_)
  ((first | refine Gs ?_ | refine Gr ?_); simp (disch := omega) only [u, i64, ax, eq_self, if_true, if_false, Nat.reduceAdd, Int.reduceToNat, Int.reduceAdd, tvs, bs])
  (refine cR (ret_Digits xs hx (by omega)) ?_; simp (disch := omega) only [u, i64, ax, eq_self, if_true, if_false, Nat.reduceAdd, Int.reduceToNat, Int.reduceAdd, tvs, bs]; try refine aA ?_)
  (refine cR (ret_nat (digs xs) (digs_Ds hx) (by rw [digs_length]; omega)) ?_; simp (disch := omega) only [u, i64, ax, eq_self, if_true, if_false, Nat.reduceAdd, Int.reduceToNat, Int.reduceAdd, tvs, bs]; try refine aA ?_)
  rw [digs_val]
  repeat (first | ((first | refine Gs ?_ | refine Gr ?_); simp (disch := omega) only [u, i64, ax, eq_self, if_true, if_false, Nat.reduceAdd, Int.reduceToNat, Int.reduceAdd, tvs, bs]; refine aA ?_) | refine G_seq ?_ | refine G_block ?_ | refine G_condT rfl ?_ | refine G_condF rfl ?_ | refine G_skip ?_ | refine G_ret ?_ | refine G_exit ?_ | refine q_tn ?_ | refine q_tr ?_ | refine q_tx ?_ | refine q_bn ?_ | refine q_br ?_ | refine q_bx ?_ | refine q_by (by decide) ?_)
  (refine FinQ hQ (congrArg Array.toList Tryz.results169) _ _ ?_); simp (disch := omega) only [u, i64, ax, if_true, forall_const, reduceCtorEq, implies_true, tvs, bf]
set_option maxRecDepth 100000 in
theorem ret_rFromWord (w : Nat) (hw : w < 18446744073709551616) : Ret Tryz.prog GEs 100 [u w] (nat w) := by
  refine RetN_start Tryz.func100 (by kernel_rfl) rfl fun Q hQ hQ2 => ?_; rw [Tryz.ntmps100]; simp only [u, i64, Nat.reduceSub, Nat.reduceAdd, bm]
  repeat (first | ((first | refine Gs ?_ | refine Gr ?_); simp (disch := omega) only [u, i64, ax, eq_self, if_true, if_false, Nat.reduceAdd, Int.reduceToNat, Int.reduceAdd, tvs, bs]; refine aA ?_) | refine G_seq ?_ | refine G_block ?_ | refine G_condT rfl ?_ | refine G_condF rfl ?_ | refine G_skip ?_ | refine G_ret ?_ | refine G_exit ?_ | refine q_tn ?_ | refine q_tr ?_ | refine q_tx ?_ | refine q_bn ?_ | refine q_br ?_ | refine q_bx ?_ | refine q_by (by decide) ?_)
  ((first | refine Gs ?_ | refine Gr ?_); simp (disch := omega) only [u, i64, ax, eq_self, if_true, if_false, Nat.reduceAdd, Int.reduceToNat, Int.reduceAdd, tvs, bs])
  (refine cR (ret_rWord w hw) ?_; simp (disch := omega) only [u, i64, ax, eq_self, if_true, if_false, Nat.reduceAdd, Int.reduceToNat, Int.reduceAdd, tvs, bs]; try refine aA ?_)
  (refine cR (ret_nat [w % 4294967296, w / 4294967296] (Ds_cons (by omega) (Ds_cons (by omega) Ds_nil)) (by simp)) ?_; simp (disch := omega) only [u, i64, ax, eq_self, if_true, if_false, Nat.reduceAdd, Int.reduceToNat, Int.reduceAdd, tvs, bs]; try refine aA ?_)
  rw [show vb 4294967296 [w % 4294967296, w / 4294967296] = w by simp only [vb]; omega]
  repeat (first | ((first | refine Gs ?_ | refine Gr ?_); simp (disch := omega) only [u, i64, ax, eq_self, if_true, if_false, Nat.reduceAdd, Int.reduceToNat, Int.reduceAdd, tvs, bs]; refine aA ?_) | refine G_seq ?_ | refine G_block ?_ | refine G_condT rfl ?_ | refine G_condF rfl ?_ | refine G_skip ?_ | refine G_ret ?_ | refine G_exit ?_ | refine q_tn ?_ | refine q_tr ?_ | refine q_tx ?_ | refine q_bn ?_ | refine q_br ?_ | refine q_bx ?_ | refine q_by (by decide) ?_)
  (refine FinQ hQ (congrArg Array.toList Tryz.results100) _ _ ?_); simp (disch := omega) only [u, i64, ax, if_true, forall_const, reduceCtorEq, implies_true, tvs, bf]
/-- What the bits below the i-th one say: zeros ahead, zeros behind, ones. -/
def cntS (w : Nat) : Nat → Nat × Nat × Nat
  | 0 => (64, 64, 0)
  | i + 1 => if w / 2 ^ i % 2 = 1 then (63 - i, min (cntS w i).2.1 i, (cntS w i).2.2 + 1) else cntS w i
theorem mod_two_pow_succ (w i : Nat) : w % 2 ^ (i + 1) = w % 2 ^ i + 2 ^ i * (w / 2 ^ i % 2) := by
  rw [Nat.pow_succ, Nat.mod_mul]
theorem cntS_lead (w : Nat) : ∀ i, i ≤ 64 → (cntS w i).1 = 64 - bl (w % 2 ^ i)
  | 0, _ => by simp [cntS, bl, Nat.mod_one]
  | i + 1, h => by
    have ih := cntS_lead w i (by omega)
    have hm := mod_two_pow_succ w i
    have hlt := Nat.mod_lt w (Nat.two_pow_pos i)
    simp only [cntS]
    by_cases hb : w / 2 ^ i % 2 = 1
    · rw [if_pos hb]
      have : bl (w % 2 ^ (i + 1)) = i + 1 := bl_eq (by rw [hm, hb]; omega) (Nat.mod_lt _ (Nat.two_pow_pos _))
      rw [this]; simp only; omega
    · have h0 : w / 2 ^ i % 2 = 0 := by omega
      rw [if_neg hb, ih, hm, h0, Nat.mul_zero, Nat.add_zero]
theorem cntS_bd (w : Nat) : ∀ i, (cntS w i).1 ≤ 64 ∧ (cntS w i).2.1 ≤ 64 ∧ (cntS w i).2.2 ≤ i
  | 0 => by simp [cntS]
  | i + 1 => by
    have := cntS_bd w i
    simp only [cntS]
    split <;> (try simp only) <;> omega
set_option maxRecDepth 100000 in
theorem ret_Count (w : Nat) (hw : w < 18446744073709551616) : Ret Tryz.prog GEs 196 [u w] (.tup [i64 (cntS w 64).1, i64 (cntS w 64).2.1, i64 (cntS w 64).2.2]) := by
  refine RetN_start Tryz.func196 (by kernel_rfl) rfl fun Q hQ hQ2 => ?_; rw [Tryz.ntmps196]; simp only [u, i64, Nat.reduceSub, Nat.reduceAdd, bm]
  repeat (first | ((first | refine Gs ?_ | refine Gr ?_); simp (disch := omega) only [u, i64, ax, eq_self, if_true, if_false, Nat.reduceAdd, Int.reduceToNat, Int.reduceAdd, tvs, bs]; refine aA ?_) | refine G_seq ?_ | refine G_block ?_ | refine G_condT rfl ?_ | refine G_condF rfl ?_ | refine G_skip ?_ | refine G_ret ?_ | refine G_exit ?_ | refine q_tn ?_ | refine q_tr ?_ | refine q_tx ?_ | refine q_bn ?_ | refine q_br ?_ | refine q_bx ?_ | refine q_by (by decide) ?_)
  refine AWp_loop (fun i : Nat => mk 28 [(0, u w), (5, i64 (cntS w i).1), (6, i64 (cntS w i).2.1), (7, i64 (cntS w i).2.2), (8, i64 i)] []) (fun i => i ≤ 64) (fun i => 64 - i) 0 ?_ (Nat.zero_le _) fun i hi => ?_
  · show leS _ (mk 28 [(0, u w), (5, i64 (64 : Nat)), (6, i64 (64 : Nat)), (7, i64 (0 : Nat)), (8, i64 (0 : Nat))] [])
    simp only [u, i64, Nat.reduceSub, Nat.reduceAdd, bm]
  have hbd := cntS_bd w i
  simp only [u, i64, Nat.reduceSub, Nat.reduceAdd, bm]
  by_cases h : i < 64
  · have hq : w / 2 ^ i < 18446744073709551616 := Nat.lt_of_le_of_lt (Nat.div_le_self _ _) hw
    by_cases hb : w / 2 ^ i % 2 = 1
    · have e : cntS w (i + 1) = (63 - i, min (cntS w i).2.1 i, (cntS w i).2.2 + 1) := by simp only [cntS]; rw [if_pos hb]
      repeat (first | ((first | refine Gs ?_ | refine Gr ?_); simp (disch := omega) only [u, i64, ax, eq_self, if_true, if_false, Nat.reduceAdd, Int.reduceToNat, Int.reduceAdd, tvs, bs]; refine aA ?_) | refine G_seq ?_ | refine G_block ?_ | refine G_condT rfl ?_ | refine G_condF rfl ?_ | refine G_skip ?_ | refine G_ret ?_ | refine G_exit ?_ | refine q_tn ?_ | refine q_tr ?_ | refine q_tx ?_ | refine q_bn ?_ | refine q_br ?_ | refine q_bx ?_ | refine q_by (by decide) ?_)
      refine ⟨i + 1, ?_, h, by omega⟩
      simp only [e]
      simp only [u, i64, Nat.reduceSub, Nat.reduceAdd, bm]
    · have e : cntS w (i + 1) = cntS w i := by simp only [cntS]; rw [if_neg hb]
      repeat (first | ((first | refine Gs ?_ | refine Gr ?_); simp (disch := omega) only [u, i64, ax, eq_self, if_true, if_false, Nat.reduceAdd, Int.reduceToNat, Int.reduceAdd, tvs, bs]; refine aA ?_) | refine G_seq ?_ | refine G_block ?_ | refine G_condT rfl ?_ | refine G_condF rfl ?_ | refine G_skip ?_ | refine G_ret ?_ | refine G_exit ?_ | refine q_tn ?_ | refine q_tr ?_ | refine q_tx ?_ | refine q_bn ?_ | refine q_br ?_ | refine q_bx ?_ | refine q_by (by decide) ?_)
      refine ⟨i + 1, ?_, h, by omega⟩
      simp only [e]
      simp only [u, i64, Nat.reduceSub, Nat.reduceAdd, bm]
  · have hi64 : i = 64 := by omega
    subst hi64
    repeat (first | ((first | refine Gs ?_ | refine Gr ?_); simp (disch := omega) only [u, i64, ax, eq_self, if_true, if_false, Nat.reduceAdd, Int.reduceToNat, Int.reduceAdd, tvs, bs]; refine aA ?_) | refine G_seq ?_ | refine G_block ?_ | refine G_condT rfl ?_ | refine G_condF rfl ?_ | refine G_skip ?_ | refine G_ret ?_ | refine G_exit ?_ | refine q_tn ?_ | refine q_tr ?_ | refine q_tx ?_ | refine q_bn ?_ | refine q_br ?_ | refine q_bx ?_ | refine q_by (by decide) ?_)
    (refine FinQ hQ (congrArg Array.toList Tryz.results196) _ _ ?_); simp (disch := omega) only [u, i64, ax, if_true, forall_const, reduceCtorEq, implies_true, tvs, bf]
theorem bl_val (xs : List Nat) (hx : Wd xs) (n : Nat) (hn : top xs = n + 1) : bl (val xs) = 64 * n + bl (xs.getD n 0) := by
  have hw := top_spec xs hx
  have htl := top_le xs
  have hv : val xs ≠ 0 := fun h0 => by
    rw [h0, words_zero, hn] at hw
    have := congrArg List.length hw
    simp at this
    omega
  have := (bl_words (val xs) hv).1
  rw [hw, List.length_take, hn, Nat.min_eq_left (by omega), Nat.add_sub_cancel] at this
  rw [this]
  congr 2
  simp [List.getD_eq_getElem?_getD, List.getElem?_take]
theorem val_top0 (xs : List Nat) (h : top xs = 0) : val xs = 0 := by
  have := top_take xs
  rw [h] at this
  exact this.symm
set_option maxRecDepth 100000 in
theorem ret_rLen (xs : List Nat) (hx : Wd xs) (hl : xs.length ≤ 34359738368) : Ret Tryz.prog GEs 114 [ws xs] (i64 (bl (val xs))) := by
  refine RetN_start Tryz.func114 (by kernel_rfl) rfl fun Q hQ hQ2 => ?_; rw [Tryz.ntmps114]; simp only [u, i64, Nat.reduceSub, Nat.reduceAdd, bm]
  repeat (first | ((first | refine Gs ?_ | refine Gr ?_); simp (disch := omega) only [u, i64, ax, eq_self, if_true, if_false, Nat.reduceAdd, Int.reduceToNat, Int.reduceAdd, tvs, bs]; refine aA ?_) | refine G_seq ?_ | refine G_block ?_ | refine G_condT rfl ?_ | refine G_condF rfl ?_ | refine G_skip ?_ | refine G_ret ?_ | refine G_exit ?_ | refine q_tn ?_ | refine q_tr ?_ | refine q_tx ?_ | refine q_bn ?_ | refine q_br ?_ | refine q_bx ?_ | refine q_by (by decide) ?_)
  refine AWp_loop (fun n : Nat => mk 33 [(0, ws xs), (3, i64 ((n : Int) - 1))] []) (fun n => top xs ≤ n ∧ n ≤ xs.length) (fun n => n) xs.length ?_ ⟨top_le xs, Nat.le_refl _⟩ fun n hn => ?_
  · simp only [u, i64, Nat.reduceSub, Nat.reduceAdd, bm]
  simp only [u, i64, Nat.reduceSub, Nat.reduceAdd, bm]
  by_cases h : 1 ≤ n
  · obtain ⟨m, rfl⟩ : ∃ m, n = m + 1 := ⟨n - 1, by omega⟩
    simp only [Int.natCast_add, Int.natCast_one, Int.add_sub_cancel]
    have hw := hx.getD m
    by_cases h0 : xs.getD m 0 = 0
    · have := top_zero xs (m + 1) hn.1 hn.2 h (by simpa using h0)
      repeat (first | ((first | refine Gs ?_ | refine Gr ?_); simp (disch := omega) only [u, i64, ax, eq_self, if_true, if_false, Nat.reduceAdd, Int.reduceToNat, Int.reduceAdd, tvs, bs]; refine aA ?_) | refine G_seq ?_ | refine G_block ?_ | refine G_condT rfl ?_ | refine G_condF rfl ?_ | refine G_skip ?_ | refine G_ret ?_ | refine G_exit ?_ | refine q_tn ?_ | refine q_tr ?_ | refine q_tx ?_ | refine q_bn ?_ | refine q_br ?_ | refine q_bx ?_ | refine q_by (by decide) ?_)
      refine ⟨m, ?_, ⟨by omega, by omega⟩, by omega⟩
      simp only [u, i64, Nat.reduceSub, Nat.reduceAdd, bm]
    · have ht := top_last xs (m + 1) hn.1 hn.2 h (by simpa using h0)
      have hb := bl_val xs hx m ht
      have hc := cntS_lead (xs.getD m 0) 64 (Nat.le_refl _)
      rw [Nat.mod_eq_of_lt (show xs.getD m 0 < 2 ^ 64 from hw)] at hc
      have hb2 := bl_le (n := xs.getD m 0) (k := 64) hw
      repeat (first | ((first | refine Gs ?_ | refine Gr ?_); simp (disch := omega) only [u, i64, ax, eq_self, if_true, if_false, Nat.reduceAdd, Int.reduceToNat, Int.reduceAdd, tvs, bs]; first | refine aA ?_ | (refine cR (ret_Count (xs.getD m 0) hw) ?_; simp (disch := omega) only [u, i64, ax, eq_self, if_true, if_false, Nat.reduceAdd, Int.reduceToNat, Int.reduceAdd, tvs, bs]; try refine aA ?_)) | (refine cR (ret_Count (xs.getD m 0) hw) ?_; simp (disch := omega) only [u, i64, ax, eq_self, if_true, if_false, Nat.reduceAdd, Int.reduceToNat, Int.reduceAdd, tvs, bs]; try refine aA ?_) | refine G_seq ?_ | refine G_block ?_ | refine G_condT rfl ?_ | refine G_condF rfl ?_ | refine G_skip ?_ | refine G_ret ?_ | refine G_exit ?_ | refine q_tn ?_ | refine q_tr ?_ | refine q_tx ?_ | refine q_bn ?_ | refine q_br ?_ | refine q_bx ?_ | refine q_by (by decide) ?_)
      (refine FinQ hQ (congrArg Array.toList Tryz.results114) _ _ ?_); simp (disch := omega) only [u, i64, ax, if_true, forall_const, reduceCtorEq, implies_true, tvs, bf]
      rw [hb, hc]
      congr 1
      omega
  · have hn0 : n = 0 := by omega
    have hv := val_top0 xs (by omega)
    subst hn0
    repeat (first | ((first | refine Gs ?_ | refine Gr ?_); simp (disch := omega) only [u, i64, ax, eq_self, if_true, if_false, Nat.reduceAdd, Int.reduceToNat, Int.reduceAdd, tvs, bs]; refine aA ?_) | refine G_seq ?_ | refine G_block ?_ | refine G_condT rfl ?_ | refine G_condF rfl ?_ | refine G_skip ?_ | refine G_ret ?_ | refine G_exit ?_ | refine q_tn ?_ | refine q_tr ?_ | refine q_tx ?_ | refine q_bn ?_ | refine q_br ?_ | refine q_bx ?_ | refine q_by (by decide) ?_)
    (refine FinQ hQ (congrArg Array.toList Tryz.results114) _ _ ?_); simp (disch := omega) only [u, i64, ax, if_true, forall_const, reduceCtorEq, implies_true, tvs, bf, hv]
    rfl
theorem bl_zero (n : Nat) : (((bl n : Nat) : Int) == 0) = decide (n = 0) := by
  by_cases h : n = 0
  · subst h; rfl
  · have := (bl_spec h).2.2
    rw [decide_eq_false h]; exact beqF (by omega)
set_option maxRecDepth 100000 in
theorem ret_rIsZero (xs : List Nat) (hx : Wd xs) (hl : xs.length ≤ 34359738368) : Ret Tryz.prog GEs 39 [ws xs] (.bool (decide (val xs = 0))) := by
  refine RetN_start Tryz.func39 (by kernel_rfl) rfl fun Q hQ hQ2 => ?_; rw [Tryz.ntmps39]; simp only [u, i64, Nat.reduceSub, Nat.reduceAdd, bm]
  repeat (first | ((first | refine Gs ?_ | refine Gr ?_); simp (disch := omega) only [u, i64, ax, eq_self, if_true, if_false, Nat.reduceAdd, Int.reduceToNat, Int.reduceAdd, tvs, bs]; first | refine aA ?_ | (refine cR (ret_rLen xs hx hl) ?_; simp (disch := omega) only [u, i64, ax, eq_self, if_true, if_false, Nat.reduceAdd, Int.reduceToNat, Int.reduceAdd, tvs, bs]; try refine aA ?_)) | (refine cR (ret_rLen xs hx hl) ?_; simp (disch := omega) only [u, i64, ax, eq_self, if_true, if_false, Nat.reduceAdd, Int.reduceToNat, Int.reduceAdd, tvs, bs]; try refine aA ?_) | refine G_seq ?_ | refine G_block ?_ | refine G_condT rfl ?_ | refine G_condF rfl ?_ | refine G_skip ?_ | refine G_ret ?_ | refine G_exit ?_ | refine q_tn ?_ | refine q_tr ?_ | refine q_tx ?_ | refine q_bn ?_ | refine q_br ?_ | refine q_bx ?_ | refine q_by (by decide) ?_)
  (refine FinQ hQ (congrArg Array.toList Tryz.results39) _ _ ?_); simp (disch := omega) only [u, i64, ax, if_true, forall_const, reduceCtorEq, implies_true, tvs, bf]
  rw [bl_zero]
set_option maxRecDepth 100000 in
theorem ret_rLarge (xs : List Nat) (hl : xs.length ≤ 34359738368) : Ret Tryz.prog GEs 203 [ws xs] (.bool (decide (4096 < xs.length))) := by
  refine RetN_start Tryz.func203 (by kernel_rfl) rfl fun Q hQ hQ2 => ?_; rw [Tryz.ntmps203]; simp only [u, i64, Nat.reduceSub, Nat.reduceAdd, bm]
  by_cases h : 4096 < xs.length
  · repeat (first | ((first | refine Gs ?_ | refine Gr ?_); simp (disch := omega) only [u, i64, ax, eq_self, if_true, if_false, Nat.reduceAdd, Int.reduceToNat, Int.reduceAdd, tvs, bs]; refine aA ?_) | refine G_seq ?_ | refine G_block ?_ | refine G_condT rfl ?_ | refine G_condF rfl ?_ | refine G_skip ?_ | refine G_ret ?_ | refine G_exit ?_ | refine q_tn ?_ | refine q_tr ?_ | refine q_tx ?_ | refine q_bn ?_ | refine q_br ?_ | refine q_bx ?_ | refine q_by (by decide) ?_)
    (refine FinQ hQ (congrArg Array.toList Tryz.results203) _ _ ?_); simp (disch := omega) only [u, i64, ax, if_true, forall_const, reduceCtorEq, implies_true, tvs, bf, decT h]
  · repeat (first | ((first | refine Gs ?_ | refine Gr ?_); simp (disch := omega) only [u, i64, ax, eq_self, if_true, if_false, Nat.reduceAdd, Int.reduceToNat, Int.reduceAdd, tvs, bs]; refine aA ?_) | refine G_seq ?_ | refine G_block ?_ | refine G_condT rfl ?_ | refine G_condF rfl ?_ | refine G_skip ?_ | refine G_ret ?_ | refine G_exit ?_ | refine q_tn ?_ | refine q_tr ?_ | refine q_tx ?_ | refine q_bn ?_ | refine q_br ?_ | refine q_bx ?_ | refine q_by (by decide) ?_)
    (refine FinQ hQ (congrArg Array.toList Tryz.results203) _ _ ?_); simp (disch := omega) only [u, i64, ax, if_true, forall_const, reduceCtorEq, implies_true, tvs, bf, decF h]
set_option maxRecDepth 100000 in
theorem ret_rAdd (xs ys : List Nat) (hx : Wd xs) (hy : Wd ys) (hlx : xs.length ≤ 34359738368) (hly : ys.length ≤ 34359738368) : Ret Tryz.prog GEs 208 [ws xs, ws ys] (nat (val xs + val ys)) := by
  have hb : vb 4294967296 (digs xs) + vb 4294967296 (digs ys) < 4294967296 ^ (max (digs xs).length (digs ys).length + 1) := by
    have h1 := Nat.lt_of_lt_of_le (vb_lt (digs_Ds hx)) (Nat.pow_le_pow_right (n := 4294967296) (by decide) (Nat.le_max_left _ (digs ys).length))
    have h2 := Nat.lt_of_lt_of_le (vb_lt (digs_Ds hy)) (Nat.pow_le_pow_right (n := 4294967296) (by decide) (Nat.le_max_right (digs xs).length _))
    rw [Nat.pow_succ]; omega
  refine RetN_start Tryz.func208 (by kernel_rfl) rfl fun Q hQ hQ2 => ?_; rw [Tryz.ntmps208]; simp only [u, i64, Nat.reduceSub, Nat.reduceAdd, bm]
  repeat (first | ((first | refine Gs ?_ | refine Gr ?_); simp (disch := omega) only [u, i64, ax, eq_self, if_true, if_false, Nat.reduceAdd, Int.reduceToNat, Int.reduceAdd, tvs, bs]; refine aA ?_) | refine G_seq ?_ | refine G_block ?_ | refine G_condT rfl ?_ | refine G_condF rfl ?_ | refine G_skip ?_ | refine G_ret ?_ | refine G_exit ?_ | refine q_tn ?_ | refine q_tr ?_ | refine q_tx ?_ | refine q_bn ?_ | refine q_br ?_ | refine q_bx ?_ | refine q_by (by decide) ?_)
  ((first | refine Gs ?_ | refine Gr ?_); simp (disch := omega) only [u, i64, ax, eq_self, if_true, if_false, Nat.reduceAdd, Int.reduceToNat, Int.reduceAdd, tvs, bs])
  (refine cR (ret_Digits xs hx (by omega)) ?_; simp (disch := omega) only [u, i64, ax, eq_self, if_true, if_false, Nat.reduceAdd, Int.reduceToNat, Int.reduceAdd, tvs, bs]; try refine aA ?_)
  (refine cR (ret_Digits ys hy (by omega)) ?_; simp (disch := omega) only [u, i64, ax, eq_self, if_true, if_false, Nat.reduceAdd, Int.reduceToNat, Int.reduceAdd, tvs, bs]; try refine aA ?_)
  (refine cR (ret_Plus (digs xs) (digs ys) (digs_Ds hx) (digs_Ds hy) (by rw [digs_length]; omega) (by rw [digs_length]; omega)) ?_; simp (disch := omega) only [u, i64, ax, eq_self, if_true, if_false, Nat.reduceAdd, Int.reduceToNat, Int.reduceAdd, tvs, bs]; try refine aA ?_)
  (refine cR (ret_nat (wfb 4294967296 (max (digs xs).length (digs ys).length + 1) (vb 4294967296 (digs xs) + vb 4294967296 (digs ys))) (wfb_Ds (by decide) _ _) (by rw [wfb_length, digs_length, digs_length]; omega)) ?_; simp (disch := omega) only [u, i64, ax, eq_self, if_true, if_false, Nat.reduceAdd, Int.reduceToNat, Int.reduceAdd, tvs, bs]; try refine aA ?_)
  rw [vb_wfb (by decide) _ _ hb, digs_val, digs_val]
  repeat (first | ((first | refine Gs ?_ | refine Gr ?_); simp (disch := omega) only [u, i64, ax, eq_self, if_true, if_false, Nat.reduceAdd, Int.reduceToNat, Int.reduceAdd, tvs, bs]; refine aA ?_) | refine G_seq ?_ | refine G_block ?_ | refine G_condT rfl ?_ | refine G_condF rfl ?_ | refine G_skip ?_ | refine G_ret ?_ | refine G_exit ?_ | refine q_tn ?_ | refine q_tr ?_ | refine q_tx ?_ | refine q_bn ?_ | refine q_br ?_ | refine q_bx ?_ | refine q_by (by decide) ?_)
  (refine FinQ hQ (congrArg Array.toList Tryz.results208) _ _ ?_); simp (disch := omega) only [u, i64, ax, if_true, forall_const, reduceCtorEq, implies_true, tvs, bf]
set_option maxRecDepth 100000 in
theorem ret_rDivMod (xs ys : List Nat) (hx : Wd xs) (hy : Wd ys) (hne : val ys ≠ 0) (hlx : xs.length ≤ 34359738368) (hly : ys.length ≤ 34359738368) : Ret Tryz.prog GEs 209 [ws xs, ws ys] (.tup [nat (val xs / val ys), nat (val xs % val ys)]) := by
  obtain ⟨qs, rs, h1, h2, h3, h4, h5, h6, hD⟩ := ret_Divide (digs xs) (digs ys) (digs_Ds hx) (digs_Ds hy) (by rw [digs_val]; exact hne) (by rw [digs_length]; omega) (by rw [digs_length]; omega)
  rw [digs_val, digs_val] at h3 h4
  rw [digs_length] at h5 h6
  refine RetN_start Tryz.func209 (by kernel_rfl) rfl fun Q hQ hQ2 => ?_; rw [Tryz.ntmps209]; simp only [u, i64, Nat.reduceSub, Nat.reduceAdd, bm]
  repeat (first | ((first | refine Gs ?_ | refine Gr ?_); simp (disch := omega) only [u, i64, ax, eq_self, if_true, if_false, Nat.reduceAdd, Int.reduceToNat, Int.reduceAdd, tvs, bs]; first | refine aA ?_ | ((first | refine cR (ret_Digits xs hx (by omega)) ?_ | refine cR (ret_Digits ys hy (by omega)) ?_ | refine cR hD ?_); simp (disch := omega) only [u, i64, ax, eq_self, if_true, if_false, Nat.reduceAdd, Int.reduceToNat, Int.reduceAdd, tvs, bs]; try refine aA ?_)) | ((first | refine cR (ret_Digits xs hx (by omega)) ?_ | refine cR (ret_Digits ys hy (by omega)) ?_ | refine cR hD ?_); simp (disch := omega) only [u, i64, ax, eq_self, if_true, if_false, Nat.reduceAdd, Int.reduceToNat, Int.reduceAdd, tvs, bs]; try refine aA ?_) | refine G_seq ?_ | refine G_block ?_ | refine G_condT rfl ?_ | refine G_condF rfl ?_ | refine G_skip ?_ | refine G_ret ?_ | refine G_exit ?_ | refine q_tn ?_ | refine q_tr ?_ | refine q_tx ?_ | refine q_bn ?_ | refine q_br ?_ | refine q_bx ?_ | refine q_by (by decide) ?_)
  ((first | refine Gs ?_ | refine Gr ?_); simp (disch := omega) only [u, i64, ax, eq_self, if_true, if_false, Nat.reduceAdd, Int.reduceToNat, Int.reduceAdd, tvs, bs])
  (refine cR (ret_nat qs h1 (by omega)) ?_; simp (disch := omega) only [u, i64, ax, eq_self, if_true, if_false, Nat.reduceAdd, Int.reduceToNat, Int.reduceAdd, tvs, bs]; try refine aA ?_)
  (refine cR (ret_nat rs h2 (by omega)) ?_; simp (disch := omega) only [u, i64, ax, eq_self, if_true, if_false, Nat.reduceAdd, Int.reduceToNat, Int.reduceAdd, tvs, bs]; try refine aA ?_)
  rw [h3, h4]
  repeat (first | ((first | refine Gs ?_ | refine Gr ?_); simp (disch := omega) only [u, i64, ax, eq_self, if_true, if_false, Nat.reduceAdd, Int.reduceToNat, Int.reduceAdd, tvs, bs]; refine aA ?_) | refine G_seq ?_ | refine G_block ?_ | refine G_condT rfl ?_ | refine G_condF rfl ?_ | refine G_skip ?_ | refine G_ret ?_ | refine G_exit ?_ | refine q_tn ?_ | refine q_tr ?_ | refine q_tx ?_ | refine q_bn ?_ | refine q_br ?_ | refine q_bx ?_ | refine q_by (by decide) ?_)
  (refine FinQ hQ (congrArg Array.toList Tryz.results209) _ _ ?_); simp (disch := omega) only [u, i64, ax, if_true, forall_const, reduceCtorEq, implies_true, tvs, bf]
set_option maxRecDepth 100000 in
theorem ret_rDiv (xs ys : List Nat) (hx : Wd xs) (hy : Wd ys) (hne : val ys ≠ 0) (hlx : xs.length ≤ 34359738368) (hly : ys.length ≤ 34359738368) : Ret Tryz.prog GEs 179 [ws xs, ws ys] (nat (val xs / val ys)) := by
  refine RetN_start Tryz.func179 (by kernel_rfl) rfl fun Q hQ hQ2 => ?_; rw [Tryz.ntmps179]; simp only [u, i64, Nat.reduceSub, Nat.reduceAdd, bm]
  repeat (first | ((first | refine Gs ?_ | refine Gr ?_); simp (disch := omega) only [u, i64, ax, eq_self, if_true, if_false, Nat.reduceAdd, Int.reduceToNat, Int.reduceAdd, tvs, bs]; first | refine aA ?_ | (refine cR (ret_rDivMod xs ys hx hy hne hlx hly) ?_; simp (disch := omega) only [u, i64, ax, eq_self, if_true, if_false, Nat.reduceAdd, Int.reduceToNat, Int.reduceAdd, tvs, bs]; try refine aA ?_)) | (refine cR (ret_rDivMod xs ys hx hy hne hlx hly) ?_; simp (disch := omega) only [u, i64, ax, eq_self, if_true, if_false, Nat.reduceAdd, Int.reduceToNat, Int.reduceAdd, tvs, bs]; try refine aA ?_) | refine G_seq ?_ | refine G_block ?_ | refine G_condT rfl ?_ | refine G_condF rfl ?_ | refine G_skip ?_ | refine G_ret ?_ | refine G_exit ?_ | refine q_tn ?_ | refine q_tr ?_ | refine q_tx ?_ | refine q_bn ?_ | refine q_br ?_ | refine q_bx ?_ | refine q_by (by decide) ?_)
  (refine FinQ hQ (congrArg Array.toList Tryz.results179) _ _ ?_); simp (disch := omega) only [u, i64, ax, if_true, forall_const, reduceCtorEq, implies_true, tvs, bf]
set_option maxRecDepth 100000 in
theorem ret_rMod (xs ys : List Nat) (hx : Wd xs) (hy : Wd ys) (hne : val ys ≠ 0) (hlx : xs.length ≤ 34359738368) (hly : ys.length ≤ 34359738368) : Ret Tryz.prog GEs 236 [ws xs, ws ys] (nat (val xs % val ys)) := by
  refine RetN_start Tryz.func236 (by kernel_rfl) rfl fun Q hQ hQ2 => ?_; rw [Tryz.ntmps236]; simp only [u, i64, Nat.reduceSub, Nat.reduceAdd, bm]
  repeat (first | ((first | refine Gs ?_ | refine Gr ?_); simp (disch := omega) only [u, i64, ax, eq_self, if_true, if_false, Nat.reduceAdd, Int.reduceToNat, Int.reduceAdd, tvs, bs]; first | refine aA ?_ | (refine cR (ret_rDivMod xs ys hx hy hne hlx hly) ?_; simp (disch := omega) only [u, i64, ax, eq_self, if_true, if_false, Nat.reduceAdd, Int.reduceToNat, Int.reduceAdd, tvs, bs]; try refine aA ?_)) | (refine cR (ret_rDivMod xs ys hx hy hne hlx hly) ?_; simp (disch := omega) only [u, i64, ax, eq_self, if_true, if_false, Nat.reduceAdd, Int.reduceToNat, Int.reduceAdd, tvs, bs]; try refine aA ?_) | refine G_seq ?_ | refine G_block ?_ | refine G_condT rfl ?_ | refine G_condF rfl ?_ | refine G_skip ?_ | refine G_ret ?_ | refine G_exit ?_ | refine q_tn ?_ | refine q_tr ?_ | refine q_tx ?_ | refine q_bn ?_ | refine q_br ?_ | refine q_bx ?_ | refine q_by (by decide) ?_)
  (refine FinQ hQ (congrArg Array.toList Tryz.results236) _ _ ?_); simp (disch := omega) only [u, i64, ax, if_true, forall_const, reduceCtorEq, implies_true, tvs, bf]
set_option maxRecDepth 100000 in
theorem ret_Gcd (xs ys : List Nat) (hx : Wd xs) (hy : Wd ys) (hlx : xs.length ≤ 34359738368) (hly : ys.length ≤ 34359738368) : Ret Tryz.prog GEs 178 [ws xs, ws ys] (nat (Nat.gcd (val xs) (val ys))) := by
  have hxl := length_words_val_le hx
  refine RetN_start Tryz.func178 (by kernel_rfl) rfl fun Q hQ hQ2 => ?_; rw [Tryz.ntmps178]; simp only [u, i64, Nat.reduceSub, Nat.reduceAdd, bm]
  repeat (first | ((first | refine Gs ?_ | refine Gr ?_); simp (disch := omega) only [u, i64, ax, eq_self, if_true, if_false, Nat.reduceAdd, Int.reduceToNat, Int.reduceAdd, tvs, bs]; first | refine aA ?_ | (refine cR (ret_rTrim xs hx hlx) ?_; simp (disch := omega) only [u, i64, ax, eq_self, if_true, if_false, Nat.reduceAdd, Int.reduceToNat, Int.reduceAdd, tvs, bs]; try refine aA ?_)) | (refine cR (ret_rTrim xs hx hlx) ?_; simp (disch := omega) only [u, i64, ax, eq_self, if_true, if_false, Nat.reduceAdd, Int.reduceToNat, Int.reduceAdd, tvs, bs]; try refine aA ?_) | refine G_seq ?_ | refine G_block ?_ | refine G_condT rfl ?_ | refine G_condF rfl ?_ | refine G_skip ?_ | refine G_ret ?_ | refine G_exit ?_ | refine q_tn ?_ | refine q_tr ?_ | refine q_tx ?_ | refine q_bn ?_ | refine q_br ?_ | refine q_bx ?_ | refine q_by (by decide) ?_)
  refine AWp_loop (fun i : Nat × List Nat => mk 16 [(0, nat i.1), (1, ws i.2)] []) (fun i => Wd i.2 ∧ i.2.length ≤ 34359738368 ∧ (words i.1).length ≤ 34359738368 ∧ Nat.gcd i.1 (val i.2) = Nat.gcd (val xs) (val ys)) (fun i => val i.2) (val xs, ys) ?_ ⟨hy, hly, by simp only; omega, rfl⟩ ?_
  · simp only [u, i64, Nat.reduceSub, Nat.reduceAdd, bm]
  rintro ⟨X, Y⟩ ⟨g1, g2, g3, g4⟩
  simp only at g1 g2 g3 g4
  simp only [u, i64, Nat.reduceSub, Nat.reduceAdd, bm]
  repeat (first | ((first | refine Gs ?_ | refine Gr ?_); simp (disch := omega) only [u, i64, ax, eq_self, if_true, if_false, Nat.reduceAdd, Int.reduceToNat, Int.reduceAdd, tvs, bs]; refine aA ?_) | refine G_seq ?_ | refine G_block ?_ | refine G_condT rfl ?_ | refine G_condF rfl ?_ | refine G_skip ?_ | refine G_ret ?_ | refine G_exit ?_ | refine q_tn ?_ | refine q_tr ?_ | refine q_tx ?_ | refine q_bn ?_ | refine q_br ?_ | refine q_bx ?_ | refine q_by (by decide) ?_)
  ((first | refine Gs ?_ | refine Gr ?_); simp (disch := omega) only [u, i64, ax, eq_self, if_true, if_false, Nat.reduceAdd, Int.reduceToNat, Int.reduceAdd, tvs, bs])
  (refine cR (ret_rIsZero Y g1 g2) ?_; simp (disch := omega) only [u, i64, ax, eq_self, if_true, if_false, Nat.reduceAdd, Int.reduceToNat, Int.reduceAdd, tvs, bs]; try refine aA ?_)
  have hYl := length_words_val_le g1
  by_cases h0 : val Y = 0
  · rw [decT h0]
    rw [h0, Nat.gcd_zero_right] at g4
    rw [← g4] at hQ
    repeat (first | ((first | refine Gs ?_ | refine Gr ?_); simp (disch := omega) only [u, i64, ax, eq_self, if_true, if_false, Nat.reduceAdd, Int.reduceToNat, Int.reduceAdd, tvs, bs]; refine aA ?_) | refine G_seq ?_ | refine G_block ?_ | refine G_condT rfl ?_ | refine G_condF rfl ?_ | refine G_skip ?_ | refine G_ret ?_ | refine G_exit ?_ | refine q_tn ?_ | refine q_tr ?_ | refine q_tx ?_ | refine q_bn ?_ | refine q_br ?_ | refine q_bx ?_ | refine q_by (by decide) ?_)
    (refine FinQ hQ (congrArg Array.toList Tryz.results178) _ _ ?_); simp (disch := omega) only [u, i64, ax, if_true, forall_const, reduceCtorEq, implies_true, tvs, bf]
  · rw [decF h0]
    have hm := Nat.mod_lt X (Nat.pos_of_ne_zero h0)
    have hml := length_mono (Nat.le_of_lt hm)
    repeat (first | ((first | refine Gs ?_ | refine Gr ?_); simp (disch := omega) only [u, i64, ax, eq_self, if_true, if_false, Nat.reduceAdd, Int.reduceToNat, Int.reduceAdd, tvs, bs]; refine aA ?_) | refine G_seq ?_ | refine G_block ?_ | refine G_condT rfl ?_ | refine G_condF rfl ?_ | refine G_skip ?_ | refine G_ret ?_ | refine G_exit ?_ | refine q_tn ?_ | refine q_tr ?_ | refine q_tx ?_ | refine q_bn ?_ | refine q_br ?_ | refine q_bx ?_ | refine q_by (by decide) ?_)
    ((first | refine Gs ?_ | refine Gr ?_); simp (disch := omega) only [u, i64, ax, eq_self, if_true, if_false, Nat.reduceAdd, Int.reduceToNat, Int.reduceAdd, tvs, bs])
    (refine cR (ret_rTrim Y g1 g2) ?_; simp (disch := omega) only [u, i64, ax, eq_self, if_true, if_false, Nat.reduceAdd, Int.reduceToNat, Int.reduceAdd, tvs, bs]; try refine aA ?_)
    (refine cR (ret_rMod (words X) Y (Wd_words X) g1 h0 g3 g2) ?_; simp (disch := omega) only [u, i64, ax, eq_self, if_true, if_false, Nat.reduceAdd, Int.reduceToNat, Int.reduceAdd, tvs, bs]; try refine aA ?_)
    rw [val_words]
    repeat (first | ((first | refine Gs ?_ | refine Gr ?_); simp (disch := omega) only [u, i64, ax, eq_self, if_true, if_false, Nat.reduceAdd, Int.reduceToNat, Int.reduceAdd, tvs, bs]; refine aA ?_) | refine G_seq ?_ | refine G_block ?_ | refine G_condT rfl ?_ | refine G_condF rfl ?_ | refine G_skip ?_ | refine G_ret ?_ | refine G_exit ?_ | refine q_tn ?_ | refine q_tr ?_ | refine q_tx ?_ | refine q_bn ?_ | refine q_br ?_ | refine q_bx ?_ | refine q_by (by decide) ?_)
    refine ⟨(val Y, words (X % val Y)), ?_, ⟨Wd_words _, by simp only; omega, by simp only; omega, ?_⟩, ?_⟩
    · simp only [u, i64, Nat.reduceSub, Nat.reduceAdd, bm]
    · simp only
      rw [val_words, ← g4]
      exact (Nat.gcd_comm _ _).trans ((Nat.gcd_rec (val Y) X).symm.trans (Nat.gcd_comm _ _))
    · simp only; rw [val_words]; exact hm
end Go.Proofs
set_option linter.unusedVariables false
set_option linter.unusedSimpArgs false
namespace Go.Proofs
open Go.Ax
set_option maxRecDepth 100000 in
theorem ret_rBit (xs : List Nat) (i : Nat) (hx : Wd xs) (hl : xs.length ≤ 1099511627776) (hi : i ≤ 1099511627776) : Ret Tryz.prog GEs 207 [ws xs, i64 i] (.bool (decide (val xs / 2 ^ i % 2 = 1))) := by
  refine RetN_start Tryz.func207 (by kernel_rfl) rfl fun Q hQ hQ2 => ?_; rw [Tryz.ntmps207]; simp only [u, i64, Nat.reduceSub, Nat.reduceAdd, bm]
  have hr : i % 64 < 64 := Nat.mod_lt _ (by decide)
  by_cases h : i / 64 < xs.length
  · have hw := hx.getD (i / 64)
    have hw2 : xs.getD (i / 64) 0 / 2 ^ (i % 64) < 18446744073709551616 := Nat.lt_of_le_of_lt (Nat.div_le_self _ _) hw
    repeat (first | ((first | refine Gs ?_ | refine Gr ?_); simp (disch := omega) only [u, i64, ax, eq_self, if_true, if_false, Nat.reduceAdd, Int.reduceToNat, Int.reduceAdd, tvs, bs]; refine aA ?_) | refine G_seq ?_ | refine G_block ?_ | refine G_condT rfl ?_ | refine G_condF rfl ?_ | refine G_skip ?_ | refine G_ret ?_ | refine G_exit ?_ | refine q_tn ?_ | refine q_tr ?_ | refine q_tx ?_ | refine q_bn ?_ | refine q_br ?_ | refine q_bx ?_ | refine q_by (by decide) ?_)
    (refine FinQ hQ (congrArg Array.toList Tryz.results207) _ _ ?_); simp (disch := omega) only [u, i64, ax, if_true, forall_const, reduceCtorEq, implies_true, tvs, bf, bit_val xs i hx h]
  · repeat (first | ((first | refine Gs ?_ | refine Gr ?_); simp (disch := omega) only [u, i64, ax, eq_self, if_true, if_false, Nat.reduceAdd, Int.reduceToNat, Int.reduceAdd, tvs, bs]; refine aA ?_) | refine G_seq ?_ | refine G_block ?_ | refine G_condT rfl ?_ | refine G_condF rfl ?_ | refine G_skip ?_ | refine G_ret ?_ | refine G_exit ?_ | refine q_tn ?_ | refine q_tr ?_ | refine q_tx ?_ | refine q_bn ?_ | refine q_br ?_ | refine q_bx ?_ | refine q_by (by decide) ?_)
    (refine FinQ hQ (congrArg Array.toList Tryz.results207) _ _ ?_); simp (disch := omega) only [u, i64, ax, if_true, forall_const, reduceCtorEq, implies_true, tvs, bf, bit_over xs i hx (by omega)]
    rfl
theorem left_row (xs : List Nat) (v : Nat) (D : List Nat) (hD : D = wfb 4294967296 (2 * xs.length + 2) v) (hv : v < 4294967296 ^ (2 * xs.length + 2)) :
    Wd (joined (D.take (2 * xs.length)) ++ [D.getD (2 * xs.length) 0 + D.getD (2 * xs.length + 1) 0 * 4294967296]) ∧ val (joined (D.take (2 * xs.length)) ++ [D.getD (2 * xs.length) 0 + D.getD (2 * xs.length + 1) 0 * 4294967296]) = v ∧ (joined (D.take (2 * xs.length))).length = xs.length := by
  have hl : D.length = 2 * xs.length + 2 := by rw [hD, wfb_length]
  have e := joined_take D xs.length (by omega)
  rw [List.take_of_length_le (by omega)] at e
  rw [← e]
  have hd : Ds 4294967296 D := by rw [hD]; exact wfb_Ds (by decide) _ _
  refine ⟨joined_Wd hd, ?_, ?_⟩
  · rw [joined_val _ (by omega), hD, vb_wfb (by decide) _ _ hv]
  · rw [joined_length, List.length_take]; omega
theorem pad_self (ds : List Nat) (m : Nat) (h : ds.length = m) : pad ds m = ds := by unfold pad; rw [h, Nat.sub_self]; simp
set_option maxRecDepth 100000 in
theorem ret_rLeft1 (xs : List Nat) (s : Nat) (hx : Wd xs) (hs : s < 64) (hl : xs.length ≤ 34359738368) : ∃ row : List Nat, ∃ hi : Nat, Wd (row ++ [hi]) ∧ val (row ++ [hi]) = val xs * 2 ^ s ∧ row.length = xs.length ∧ Ret Tryz.prog GEs 183 [ws xs, i64 s] (.tup [ws row, u hi]) := by
  have hp : 2 ^ s < 18446744073709551616 := Nat.pow_lt_pow_right (a := 2) (m := s) (n := 64) (by decide) hs
  have hv : val xs * 2 ^ s < 4294967296 ^ (2 * xs.length + 2) := by
    rw [Nat.pow_add, pow_half]
    exact Nat.mul_lt_mul'' (val_lt hx) hp
  obtain ⟨D, hD⟩ : ∃ D, D = wfb 4294967296 (2 * xs.length + 2) (val xs * 2 ^ s) := ⟨_, rfl⟩
  obtain ⟨h1, h2, h3⟩ := left_row xs _ D hD hv
  refine ⟨_, _, h1, h2, h3, ?_⟩
  have hT := ret_Times (digs xs) [2 ^ s % 4294967296, 2 ^ s / 4294967296] (digs_Ds hx) (Ds_cons (by omega) (Ds_cons (by omega) Ds_nil)) (by rw [digs_length]; omega) (by simp)
  rw [digs_val, digs_length, show vb 4294967296 [2 ^ s % 4294967296, 2 ^ s / 4294967296] = 2 ^ s by simp only [vb]; omega, show [2 ^ s % 4294967296, 2 ^ s / 4294967296].length = 2 from rfl, ← hD] at hT
  have hC := ret_Cut D xs.length (by rw [hD]; exact wfb_Ds (by decide) _ _) (by rw [hD, wfb_length]; omega) (by omega)
  rw [pad_self D _ (by rw [hD, wfb_length])] at hC
  refine RetN_start Tryz.func183 (by kernel_rfl) rfl fun Q hQ hQ2 => ?_; rw [Tryz.ntmps183]; simp only [u, i64, Nat.reduceSub, Nat.reduceAdd, bm]
  repeat (first | ((first | refine Gs ?_ | refine Gr ?_); simp (disch := omega) only [u, i64, ax, eq_self, if_true, if_false, Nat.reduceAdd, Int.reduceToNat, Int.reduceAdd, tvs, bs]; refine aA ?_) | refine G_seq ?_ | refine G_block ?_ | refine G_condT rfl ?_ | refine G_condF rfl ?_ | refine G_skip ?_ | refine G_ret ?_ | refine G_exit ?_ | refine q_tn ?_ | refine q_tr ?_ | refine q_tx ?_ | refine q_bn ?_ | refine q_br ?_ | refine q_bx ?_ | refine q_by (by decide) ?_)
  ((first | refine Gs ?_ | refine Gr ?_); simp (disch := omega) only [u, i64, ax, eq_self, if_true, if_false, Nat.reduceAdd, Int.reduceToNat, Int.reduceAdd, tvs, bs])
  (refine cR (ret_Digits xs hx (by omega)) ?_; simp (disch := omega) only [u, i64, ax, eq_self, if_true, if_false, Nat.reduceAdd, Int.reduceToNat, Int.reduceAdd, tvs, bs]; try refine aA ?_)
  simp only [Nat.one_mul]
  repeat (first | ((first | refine Gs ?_ | refine Gr ?_); simp (disch := omega) only [u, i64, ax, eq_self, if_true, if_false, Nat.reduceAdd, Int.reduceToNat, Int.reduceAdd, tvs, bs]; first | refine aA ?_ | ((first | refine cR (ret_rWord (2 ^ s) hp) ?_ | refine cR hT ?_ | refine cR hC ?_); simp (disch := omega) only [u, i64, ax, eq_self, if_true, if_false, Nat.reduceAdd, Int.reduceToNat, Int.reduceAdd, tvs, bs]; try refine aA ?_)) | ((first | refine cR (ret_rWord (2 ^ s) hp) ?_ | refine cR hT ?_ | refine cR hC ?_); simp (disch := omega) only [u, i64, ax, eq_self, if_true, if_false, Nat.reduceAdd, Int.reduceToNat, Int.reduceAdd, tvs, bs]; try refine aA ?_) | refine G_seq ?_ | refine G_block ?_ | refine G_condT rfl ?_ | refine G_condF rfl ?_ | refine G_skip ?_ | refine G_ret ?_ | refine G_exit ?_ | refine q_tn ?_ | refine q_tr ?_ | refine q_tx ?_ | refine q_bn ?_ | refine q_br ?_ | refine q_bx ?_ | refine q_by (by decide) ?_)
  (refine FinQ hQ (congrArg Array.toList Tryz.results183) _ _ ?_); simp (disch := omega) only [u, i64, ax, if_true, forall_const, reduceCtorEq, implies_true, tvs, bf]
set_option maxRecDepth 100000 in
theorem ret_rLeft (xs : List Nat) (s : Nat) (hx : Wd xs) (hl : xs.length ≤ 8589934592) (hs : s ≤ 549755813888) : Ret Tryz.prog GEs 98 [ws xs, i64 s] (nat (val xs * 2 ^ s)) := by
  have hr : s % 64 < 64 := Nat.mod_lt _ (by decide)
  obtain ⟨row, hi, h1, h2, h3, hL⟩ := ret_rLeft1 xs (s % 64) hx hr (by omega)
  have hW : Wd (List.replicate (s / 64) 0 ++ (row ++ [hi])) := (Wd_replicate _ (by decide)).append h1
  have hv : val (List.replicate (s / 64) 0 ++ (row ++ [hi])) = val xs * 2 ^ s := by
    rw [val_append, val_replicate_zero, h2, List.length_replicate, Nat.zero_add, Nat.mul_left_comm, Bpow, ← Nat.pow_add, Nat.div_add_mod]
  have hT := ret_rTrim _ hW (by simp [h3]; omega)
  rw [hv] at hT
  refine RetN_start Tryz.func98 (by kernel_rfl) rfl fun Q hQ hQ2 => ?_; rw [Tryz.ntmps98]; simp only [u, i64, Nat.reduceSub, Nat.reduceAdd, bm]
  repeat (first | ((first | refine Gs ?_ | refine Gr ?_); simp (disch := omega) only [u, i64, ax, eq_self, if_true, if_false, Nat.reduceAdd, Int.reduceToNat, Int.reduceAdd, tvs, bs]; refine aA ?_) | refine G_seq ?_ | refine G_block ?_ | refine G_condT rfl ?_ | refine G_condF rfl ?_ | refine G_skip ?_ | refine G_ret ?_ | refine G_exit ?_ | refine q_tn ?_ | refine q_tr ?_ | refine q_tx ?_ | refine q_bn ?_ | refine q_br ?_ | refine q_bx ?_ | refine q_by (by decide) ?_)
  ((first | refine Gs ?_ | refine Gr ?_); simp (disch := omega) only [u, i64, ax, eq_self, if_true, if_false, Nat.reduceAdd, Int.reduceToNat, Int.reduceAdd, tvs, bs])
  (refine cR hL ?_; simp (disch := omega) only [u, i64, ax, eq_self, if_true, if_false, Nat.reduceAdd, Int.reduceToNat, Int.reduceAdd, tvs, bs]; try refine aA ?_)
  have hrl : row.length ≤ 8589934592 := by omega
  have hall : (List.replicate (s / 64) 0 ++ row) ++ [hi] = List.replicate (s / 64) 0 ++ (row ++ [hi]) := List.append_assoc _ _ _
  have hlen : ((List.replicate (s / 64) 0 ++ row) ++ [hi]).length = s / 64 + row.length + 1 := by simp; omega
  have hlen2 : (List.replicate (s / 64) 0 ++ row).length = s / 64 + row.length := by simp
  rw [← hall] at hT
  repeat (first | ((first | refine Gs ?_ | refine Gr ?_); simp (disch := omega) only [u, i64, ax, eq_self, if_true, if_false, Nat.reduceAdd, Int.reduceToNat, Int.reduceAdd, tvs, bs]; refine aA ?_) | refine G_seq ?_ | refine G_block ?_ | refine G_condT rfl ?_ | refine G_condF rfl ?_ | refine G_skip ?_ | refine G_ret ?_ | refine G_exit ?_ | refine q_tn ?_ | refine q_tr ?_ | refine q_tx ?_ | refine q_bn ?_ | refine q_br ?_ | refine q_bx ?_ | refine q_by (by decide) ?_)
  ((first | refine G_sregL 4 mixed (by first | rfl | kernel_rfl) rfl rfl ?_ | refine G_regL 4 mixed (by first | rfl | kernel_rfl) rfl rfl ?_); simp (disch := omega) only [u, i64, ax, eq_self, if_true, if_false, Nat.reduceAdd, Int.reduceToNat, Int.reduceAdd, tvs, bs, tk_0, tk_S]; refine aft_any ?_)
  rw [← us_snoc1]
  refine LStep_cool0 ?_
  (refine LStep_ret rfl (by rfl) (by simp (disch := omega) only [u, i64, ax, eq_self, if_true, if_false, Nat.reduceAdd, Int.reduceToNat, Int.reduceAdd, tvs, bs]; (simp (disch := omega) only [if_true, forall_const, reduceCtorEq, implies_true, bz]) <;> rfl) hT ?_; simp (disch := omega) only [u, i64, ax, eq_self, if_true, if_false, Nat.reduceAdd, Int.reduceToNat, Int.reduceAdd, tvs, bs, mp_0, mp_S, ap_0, ap_S, tk_0, tk_S, us_length]; try refine aA ?_)
  repeat (first | ((first | refine Gs ?_ | refine Gr ?_); simp (disch := omega) only [u, i64, ax, eq_self, if_true, if_false, Nat.reduceAdd, Int.reduceToNat, Int.reduceAdd, tvs, bs]; refine aA ?_) | refine G_seq ?_ | refine G_block ?_ | refine G_condT rfl ?_ | refine G_condF rfl ?_ | refine G_skip ?_ | refine G_ret ?_ | refine G_exit ?_ | refine q_tn ?_ | refine q_tr ?_ | refine q_tx ?_ | refine q_bn ?_ | refine q_br ?_ | refine q_bx ?_ | refine q_by (by decide) ?_)
  (refine FinQ hQ (congrArg Array.toList Tryz.results98) _ _ ?_); simp (disch := omega) only [u, i64, ax, if_true, forall_const, reduceCtorEq, implies_true, tvs, bf]
end Go.Proofs
set_option linter.unusedVariables false
set_option linter.unusedSimpArgs false
namespace Go.Proofs
open Go.Ax
theorem right_word {R a s : Nat} (hs : s < 64) (ha : a < 18446744073709551616) : (R * 18446744073709551616 + a) / 2 ^ s = R * 2 ^ (64 - s) + a / 2 ^ s ∧ (R * 18446744073709551616 + a) % 2 ^ s = a % 2 ^ s ∧ a * 2 ^ (64 - s) % 18446744073709551616 = a % 2 ^ s * 2 ^ (64 - s) := by
  have e : 18446744073709551616 = 2 ^ s * 2 ^ (64 - s) := by rw [← Nat.pow_add, show s + (64 - s) = 64 by omega]
  refine ⟨?_, ?_, ?_⟩
  · rw [e, Nat.mul_left_comm, Nat.add_comm, Nat.add_mul_div_left _ _ (Nat.two_pow_pos s), Nat.add_comm]
  · rw [e, Nat.mul_left_comm, Nat.add_comm, Nat.add_mul_mod_self_left]
  · rw [e, Nat.mul_comm (2 ^ s), Nat.mul_comm a, Nat.mul_mod_mul_left, Nat.mul_comm]
set_option maxRecDepth 100000 in
set_option maxHeartbeats 1000000 in
theorem ret_rRight1 (xs : List Nat) (s : Nat) (hx : Wd xs) (hs : s < 64) (hl : xs.length ≤ 34359738368) : ∃ f : Nat, Ret Tryz.prog GEs 234 [ws xs, i64 s] (.tup [ws (wf xs.length (val xs / 2 ^ s)), u f]) := by
  refine ⟨if s = 0 then 0 else val xs % 2 ^ s * 2 ^ (64 - s), ?_⟩
  have hp := Nat.two_pow_pos s
  refine RetN_start Tryz.func234 (by kernel_rfl) rfl fun Q hQ hQ2 => ?_; rw [Tryz.ntmps234]; simp only [u, i64, Nat.reduceSub, Nat.reduceAdd, bm]
  repeat (first | ((first | refine Gs ?_ | refine Gr ?_); simp (disch := omega) only [u, i64, ax, eq_self, if_true, if_false, Nat.reduceAdd, Int.reduceToNat, Int.reduceAdd, tvs, bs]; refine aA ?_) | refine G_seq ?_ | refine G_block ?_ | refine G_condT rfl ?_ | refine G_condF rfl ?_ | refine G_skip ?_ | refine G_ret ?_ | refine G_exit ?_ | refine q_tn ?_ | refine q_tr ?_ | refine q_tx ?_ | refine q_bn ?_ | refine q_br ?_ | refine q_bx ?_ | refine q_by (by decide) ?_)
  refine AWp_loop (fun i : Nat × List Nat => mk 41 [(0, ws xs), (1, i64 s), (6, .own 0 0 0 xs.length 1), (7, u (if s = 0 then 0 else val (xs.drop i.1) % 2 ^ s * 2 ^ (64 - s))), (8, i64 ((i.1 : Int) - 1))] [⟨0, true, us i.2⟩])
    (fun i => i.1 ≤ xs.length ∧ i.2.length = xs.length ∧ Wd i.2 ∧ val (i.2.drop i.1) = val (xs.drop i.1) / 2 ^ s) (fun i => i.1) (xs.length, List.replicate xs.length 0) ?_ ⟨Nat.le_refl _, by simp, Wd_replicate _ (by decide), by simp [val]⟩ ?_
  · have : (if s = 0 then 0 else val (xs.drop xs.length) % 2 ^ s * 2 ^ (64 - s)) = 0 := by simp [val]
    simp only [this]
    simp only [u, i64, Nat.reduceSub, Nat.reduceAdd, bm]
  rintro ⟨n, os⟩ ⟨h1, h2, h3, h4⟩
  simp only at h1 h2 h3 h4
  simp only [u, i64, Nat.reduceSub, Nat.reduceAdd, bm]
  by_cases hn : 1 ≤ n
  · obtain ⟨m, rfl⟩ : ∃ m, n = m + 1 := ⟨n - 1, by omega⟩
    have ha := hx.getD m
    have hst := divw_step (a := xs.getD m 0) hp h4 rfl
    have hq := divw_lt (Nat.mod_lt (val (xs.drop (m + 1))) hp) ha
    have hv := val_drop xs m (by omega)
    rw [← hv] at hst
    obtain ⟨r1, r2, r3⟩ := right_word (R := val (xs.drop (m + 1)) % 2 ^ s) hs ha
    obtain ⟨q, hqd⟩ : ∃ q, (val (xs.drop (m + 1)) % 2 ^ s * 18446744073709551616 + xs.getD m 0) / 2 ^ s = q := ⟨_, rfl⟩
    have hs2 := val_drop_set os m q (by omega)
    rw [hqd] at hst hq r1
    rw [hst.1] at hs2
    have hmod : xs.getD m 0 % 2 ^ s = val (xs.drop m) % 2 ^ s := by rw [← r2]; exact hst.2
    have hx2 : xs.getD m 0 / 2 ^ s < 18446744073709551616 := Nat.lt_of_le_of_lt (Nat.div_le_self _ _) ha
    simp only [Int.natCast_add, Int.natCast_one, Int.add_sub_cancel]
    by_cases h0 : s = 0
    · subst h0
      simp only [if_true, Nat.pow_zero, Nat.mod_one, Nat.zero_mul, Nat.zero_add, Nat.div_one] at r1 hx2 hs2 h4 ⊢
      repeat (first | ((first | refine Gs ?_ | refine Gr ?_); simp (disch := omega) only [u, i64, ax, eq_self, if_true, if_false, Nat.reduceAdd, Int.reduceToNat, Int.reduceAdd, tvs, bs]; refine aA ?_) | refine G_seq ?_ | refine G_block ?_ | refine G_condT rfl ?_ | refine G_condF rfl ?_ | refine G_skip ?_ | refine G_ret ?_ | refine G_exit ?_ | refine q_tn ?_ | refine q_tr ?_ | refine q_tx ?_ | refine q_bn ?_ | refine q_br ?_ | refine q_bx ?_ | refine q_by (by decide) ?_)
      refine ⟨(m, os.set m q), ?_, ⟨by simp only; omega, by simpa using h2, h3.set m hq, by simpa using hs2⟩, by simp only; omega⟩
      simp only [if_true]
      rw [r1]
      simp only [Int.zero_add, Nat.pow_zero, Nat.div_one, wrapU_mod, Nat.mod_eq_of_lt ha, us_set]
      simp only [u, i64, Nat.reduceSub, Nat.reduceAdd, bm]
    · simp only [if_neg h0]
      have hw1 : val (xs.drop (m + 1)) % 2 ^ s * 2 ^ (64 - s) < 18446744073709551616 := by
        have e : 18446744073709551616 = 2 ^ s * 2 ^ (64 - s) := by rw [← Nat.pow_add, show s + (64 - s) = 64 by omega]
        rw [e]; exact (Nat.mul_lt_mul_right (Nat.two_pow_pos _)).2 (Nat.mod_lt _ hp)
      have hw2 : val (xs.drop (m + 1)) % 2 ^ s * 2 ^ (64 - s) + xs.getD m 0 / 2 ^ s < 18446744073709551616 := by rw [← r1]; exact hq
      repeat (first | ((first | refine Gs ?_ | refine Gr ?_); simp (disch := omega) only [u, i64, ax, eq_self, if_true, if_false, Nat.reduceAdd, Int.reduceToNat, Int.reduceAdd, tvs, bs]; refine aA ?_) | refine G_seq ?_ | refine G_block ?_ | refine G_condT rfl ?_ | refine G_condF rfl ?_ | refine G_skip ?_ | refine G_ret ?_ | refine G_exit ?_ | refine q_tn ?_ | refine q_tr ?_ | refine q_tx ?_ | refine q_bn ?_ | refine q_br ?_ | refine q_bx ?_ | refine q_by (by decide) ?_)
      refine ⟨(m, os.set m q), ?_, ⟨by simp only; omega, by simpa using h2, h3.set m hq, hs2⟩, by simp only; omega⟩
      simp only [if_neg h0]
      rw [r1, ← hmod, ← r3]
      simp only [u, i64, Nat.reduceSub, Nat.reduceAdd, bm]
  · have hn0 : n = 0 := by omega
    subst hn0
    simp only [List.drop_zero] at h4 ⊢
    have he := wf_val os h3
    rw [h2, h4] at he
    rw [he] at hQ
    repeat (first | ((first | refine Gs ?_ | refine Gr ?_); simp (disch := omega) only [u, i64, ax, eq_self, if_true, if_false, Nat.reduceAdd, Int.reduceToNat, Int.reduceAdd, tvs, bs]; refine aA ?_) | refine G_seq ?_ | refine G_block ?_ | refine G_condT rfl ?_ | refine G_condF rfl ?_ | refine G_skip ?_ | refine G_ret ?_ | refine G_exit ?_ | refine q_tn ?_ | refine q_tr ?_ | refine q_tx ?_ | refine q_bn ?_ | refine q_br ?_ | refine q_bx ?_ | refine q_by (by decide) ?_)
    (refine FinQ hQ (congrArg Array.toList Tryz.results234) _ _ ?_); simp (disch := omega) only [u, i64, ax, if_true, forall_const, reduceCtorEq, implies_true, tvs, bf]
theorem val_div (xs : List Nat) (s : Nat) (hx : Wd xs) (h : s / 64 ≤ xs.length) : val (xs.drop (s / 64)) / 2 ^ (s % 64) = val xs / 2 ^ s := by
  have e := val_split xs (s / 64) h
  have hl := val_lt (hx.take (s / 64))
  rw [List.length_take, Nat.min_eq_left h] at hl
  have hB : 0 < 18446744073709551616 ^ (s / 64) := Nat.pow_pos (by decide)
  have e1 : val xs / 18446744073709551616 ^ (s / 64) = val (xs.drop (s / 64)) := by
    rw [e, Nat.add_mul_div_left _ _ hB, Nat.div_eq_of_lt hl, Nat.zero_add]
  rw [← e1, Nat.div_div_eq_div_mul, Bpow, ← Nat.pow_add, Nat.div_add_mod]
set_option maxRecDepth 100000 in
theorem ret_rRight (xs : List Nat) (s : Nat) (hx : Wd xs) (hl : xs.length ≤ 34359738368) (hs : s ≤ 1099511627776) : Ret Tryz.prog GEs 175 [ws xs, i64 s] (nat (val xs / 2 ^ s)) := by
  have hr : s % 64 < 64 := Nat.mod_lt _ (by decide)
  refine RetN_start Tryz.func175 (by kernel_rfl) rfl fun Q hQ hQ2 => ?_; rw [Tryz.ntmps175]; simp only [u, i64, Nat.reduceSub, Nat.reduceAdd, bm]
  by_cases h : s / 64 < xs.length
  · obtain ⟨f, hR⟩ := ret_rRight1 (xs.drop (s / 64)) (s % 64) (hx.drop _) hr (by rw [List.length_drop]; omega)
    have hdl : (xs.drop (s / 64)).length = xs.length - s / 64 := by rw [List.length_drop]
    have hlt : val (xs.drop (s / 64)) / 2 ^ (s % 64) < 18446744073709551616 ^ (xs.drop (s / 64)).length := Nat.lt_of_le_of_lt (Nat.div_le_self _ _) (val_lt (hx.drop _))
    have hT := ret_rTrim (wf (xs.drop (s / 64)).length (val (xs.drop (s / 64)) / 2 ^ (s % 64))) (wf_Wd _ _) (by rw [wf_length]; omega)
    rw [val_wf _ _ hlt] at hT
    repeat (first | ((first | refine Gs ?_ | refine Gr ?_); simp (disch := omega) only [u, i64, ax, eq_self, if_true, if_false, Nat.reduceAdd, Int.reduceToNat, Int.reduceAdd, tvs, bs]; refine aA ?_) | refine G_seq ?_ | refine G_block ?_ | refine G_condT rfl ?_ | refine G_condF rfl ?_ | refine G_skip ?_ | refine G_ret ?_ | refine G_exit ?_ | refine q_tn ?_ | refine q_tr ?_ | refine q_tx ?_ | refine q_bn ?_ | refine q_br ?_ | refine q_bx ?_ | refine q_by (by decide) ?_)
    ((first | refine Gs ?_ | refine Gr ?_); simp (disch := omega) only [u, i64, ax, eq_self, if_true, if_false, Nat.reduceAdd, Int.reduceToNat, Int.reduceAdd, tvs, bs])
    rw [← hdl]
    repeat (first | ((first | refine Gs ?_ | refine Gr ?_); simp (disch := omega) only [u, i64, ax, eq_self, if_true, if_false, Nat.reduceAdd, Int.reduceToNat, Int.reduceAdd, tvs, bs]; first | refine aA ?_ | (refine cR hR ?_; simp (disch := omega) only [u, i64, ax, eq_self, if_true, if_false, Nat.reduceAdd, Int.reduceToNat, Int.reduceAdd, tvs, bs]; try refine aA ?_)) | (refine cR hR ?_; simp (disch := omega) only [u, i64, ax, eq_self, if_true, if_false, Nat.reduceAdd, Int.reduceToNat, Int.reduceAdd, tvs, bs]; try refine aA ?_) | refine G_seq ?_ | refine G_block ?_ | refine G_condT rfl ?_ | refine G_condF rfl ?_ | refine G_skip ?_ | refine G_ret ?_ | refine G_exit ?_ | refine q_tn ?_ | refine q_tr ?_ | refine q_tx ?_ | refine q_bn ?_ | refine q_br ?_ | refine q_bx ?_ | refine q_by (by decide) ?_)
    ((first | refine Gs ?_ | refine Gr ?_); simp (disch := omega) only [u, i64, ax, eq_self, if_true, if_false, Nat.reduceAdd, Int.reduceToNat, Int.reduceAdd, tvs, bs])
    (refine cR hT ?_; simp (disch := omega) only [u, i64, ax, eq_self, if_true, if_false, Nat.reduceAdd, Int.reduceToNat, Int.reduceAdd, tvs, bs]; try refine aA ?_)
    rw [val_div xs s hx (by omega)]
    repeat (first | ((first | refine Gs ?_ | refine Gr ?_); simp (disch := omega) only [u, i64, ax, eq_self, if_true, if_false, Nat.reduceAdd, Int.reduceToNat, Int.reduceAdd, tvs, bs]; refine aA ?_) | refine G_seq ?_ | refine G_block ?_ | refine G_condT rfl ?_ | refine G_condF rfl ?_ | refine G_skip ?_ | refine G_ret ?_ | refine G_exit ?_ | refine q_tn ?_ | refine q_tr ?_ | refine q_tx ?_ | refine q_bn ?_ | refine q_br ?_ | refine q_bx ?_ | refine q_by (by decide) ?_)
    (refine FinQ hQ (congrArg Array.toList Tryz.results175) _ _ ?_); simp (disch := omega) only [u, i64, ax, if_true, forall_const, reduceCtorEq, implies_true, tvs, bf]
  · have hz : val xs / 2 ^ s = 0 := by
      refine Nat.div_eq_of_lt (Nat.lt_of_lt_of_le (val_lt hx) ?_)
      rw [Bpow]; exact Nat.pow_le_pow_right (by decide) (by omega)
    rw [hz] at hQ
    repeat (first | ((first | refine Gs ?_ | refine Gr ?_); simp (disch := omega) only [u, i64, ax, eq_self, if_true, if_false, Nat.reduceAdd, Int.reduceToNat, Int.reduceAdd, tvs, bs]; refine aA ?_) | refine G_seq ?_ | refine G_block ?_ | refine G_condT rfl ?_ | refine G_condF rfl ?_ | refine G_skip ?_ | refine G_ret ?_ | refine G_exit ?_ | refine q_tn ?_ | refine q_tr ?_ | refine q_tx ?_ | refine q_bn ?_ | refine q_br ?_ | refine q_bx ?_ | refine q_by (by decide) ?_)
    (refine FinQ hQ (congrArg Array.toList Tryz.results175) _ _ ?_); simp (disch := omega) only [u, i64, ax, if_true, forall_const, reduceCtorEq, implies_true, tvs, bf]
    simp [nat, words_zero, us]
end Go.Proofs
set_option linter.unusedVariables false
set_option linter.unusedSimpArgs false
namespace Go.Proofs
open Go.Ax
set_option maxRecDepth 100000 in
theorem ret_Make (neg : Bool) (xs : List Nat) (hx : Wd xs) (hl : xs.length ≤ 34359738368) : Ret Tryz.prog GEs 173 [.bool neg, ws xs] (.agg [.bool (neg && decide (val xs ≠ 0)), nat (val xs)]) := by
  have hxl := length_words_val_le hx
  rw [← len_pos]
  refine RetN_start Tryz.func173 (by kernel_rfl) rfl fun Q hQ hQ2 => ?_; rw [Tryz.ntmps173]; simp only [u, i64, Nat.reduceSub, Nat.reduceAdd, bm]
  repeat (first | ((first | refine Gs ?_ | refine Gr ?_); simp (disch := omega) only [u, i64, ax, eq_self, if_true, if_false, Nat.reduceAdd, Int.reduceToNat, Int.reduceAdd, tvs, bs]; refine aA ?_) | refine G_seq ?_ | refine G_block ?_ | refine G_condT rfl ?_ | refine G_condF rfl ?_ | refine G_skip ?_ | refine G_ret ?_ | refine G_exit ?_ | refine q_tn ?_ | refine q_tr ?_ | refine q_tx ?_ | refine q_bn ?_ | refine q_br ?_ | refine q_bx ?_ | refine q_by (by decide) ?_)
  ((first | refine Gs ?_ | refine Gr ?_); simp (disch := omega) only [u, i64, ax, eq_self, if_true, if_false, Nat.reduceAdd, Int.reduceToNat, Int.reduceAdd, tvs, bs])
  (refine cR (ret_rTrim xs hx hl) ?_; simp (disch := omega) only [u, i64, ax, eq_self, if_true, if_false, Nat.reduceAdd, Int.reduceToNat, Int.reduceAdd, tvs, bs]; try refine aA ?_)
  cases neg with
  | true =>
    by_cases h : 0 < (words (val xs)).length
    · repeat (first | ((first | refine Gs ?_ | refine Gr ?_); simp (disch := omega) only [u, i64, ax, eq_self, if_true, if_false, Nat.reduceAdd, Int.reduceToNat, Int.reduceAdd, tvs, bs]; refine aA ?_) | refine G_seq ?_ | refine G_block ?_ | refine G_condT rfl ?_ | refine G_condF rfl ?_ | refine G_skip ?_ | refine G_ret ?_ | refine G_exit ?_ | refine q_tn ?_ | refine q_tr ?_ | refine q_tx ?_ | refine q_bn ?_ | refine q_br ?_ | refine q_bx ?_ | refine q_by (by decide) ?_)
      (refine FinQ hQ (congrArg Array.toList Tryz.results173) _ _ ?_); simp (disch := omega) only [u, i64, ax, if_true, forall_const, reduceCtorEq, implies_true, tvs, bf, decT h]
    · repeat (first | ((first | refine Gs ?_ | refine Gr ?_); simp (disch := omega) only [u, i64, ax, eq_self, if_true, if_false, Nat.reduceAdd, Int.reduceToNat, Int.reduceAdd, tvs, bs]; refine aA ?_) | refine G_seq ?_ | refine G_block ?_ | refine G_condT rfl ?_ | refine G_condF rfl ?_ | refine G_skip ?_ | refine G_ret ?_ | refine G_exit ?_ | refine q_tn ?_ | refine q_tr ?_ | refine q_tx ?_ | refine q_bn ?_ | refine q_br ?_ | refine q_bx ?_ | refine q_by (by decide) ?_)
      (refine FinQ hQ (congrArg Array.toList Tryz.results173) _ _ ?_); simp (disch := omega) only [u, i64, ax, if_true, forall_const, reduceCtorEq, implies_true, tvs, bf, decF h]
  | false =>
    repeat (first | ((first | refine Gs ?_ | refine Gr ?_); simp (disch := omega) only [u, i64, ax, eq_self, if_true, if_false, Nat.reduceAdd, Int.reduceToNat, Int.reduceAdd, tvs, bs]; refine aA ?_) | refine G_seq ?_ | refine G_block ?_ | refine G_condT rfl ?_ | refine G_condF rfl ?_ | refine G_skip ?_ | refine G_ret ?_ | refine G_exit ?_ | refine q_tn ?_ | refine q_tr ?_ | refine q_tx ?_ | refine q_bn ?_ | refine q_br ?_ | refine q_bx ?_ | refine q_by (by decide) ?_)
    (refine FinQ hQ (congrArg Array.toList Tryz.results173) _ _ ?_); simp (disch := omega) only [u, i64, ax, if_true, forall_const, reduceCtorEq, implies_true, tvs, bf]
    all_goals rfl
set_option maxRecDepth 100000 in
theorem ret_Trim03 (neg : Bool) (xs : List Nat) (hx : Wd xs) (hl : xs.length ≤ 34359738368) : Ret Tryz.prog GEs 237 [.agg [.bool neg, ws xs]] (.agg [.bool (neg && decide (val xs ≠ 0)), nat (val xs)]) := by
  refine RetN_start Tryz.func237 (by kernel_rfl) rfl fun Q hQ hQ2 => ?_; rw [Tryz.ntmps237]; simp only [u, i64, Nat.reduceSub, Nat.reduceAdd, bm]
  repeat (first | ((first | refine Gs ?_ | refine Gr ?_); simp (disch := omega) only [u, i64, ax, eq_self, if_true, if_false, Nat.reduceAdd, Int.reduceToNat, Int.reduceAdd, tvs, bs]; first | refine aA ?_ | (refine cR (ret_Make neg xs hx hl) ?_; simp (disch := omega) only [u, i64, ax, eq_self, if_true, if_false, Nat.reduceAdd, Int.reduceToNat, Int.reduceAdd, tvs, bs]; try refine aA ?_)) | (refine cR (ret_Make neg xs hx hl) ?_; simp (disch := omega) only [u, i64, ax, eq_self, if_true, if_false, Nat.reduceAdd, Int.reduceToNat, Int.reduceAdd, tvs, bs]; try refine aA ?_) | refine G_seq ?_ | refine G_block ?_ | refine G_condT rfl ?_ | refine G_condF rfl ?_ | refine G_skip ?_ | refine G_ret ?_ | refine G_exit ?_ | refine q_tn ?_ | refine q_tr ?_ | refine q_tx ?_ | refine q_bn ?_ | refine q_br ?_ | refine q_bx ?_ | refine q_by (by decide) ?_)
  (refine FinQ hQ (congrArg Array.toList Tryz.results237) _ _ ?_); simp (disch := omega) only [u, i64, ax, if_true, forall_const, reduceCtorEq, implies_true, tvs, bf]
set_option maxRecDepth 100000 in
theorem ret_Make11 (neg : Bool) (xs : List Nat) (hx : Wd xs) (hl : xs.length ≤ 34359738368) : Ret Tryz.prog GEs 84 [.bool neg, ws xs] (.agg [.bool (neg && decide (val xs ≠ 0)), nat (val xs)]) := by
  refine RetN_start Tryz.func84 (by kernel_rfl) rfl fun Q hQ hQ2 => ?_; rw [Tryz.ntmps84]; simp only [u, i64, Nat.reduceSub, Nat.reduceAdd, bm]
  repeat (first | ((first | refine Gs ?_ | refine Gr ?_); simp (disch := omega) only [u, i64, ax, eq_self, if_true, if_false, Nat.reduceAdd, Int.reduceToNat, Int.reduceAdd, tvs, bs]; first | refine aA ?_ | (refine cR (ret_Make neg xs hx hl) ?_; simp (disch := omega) only [u, i64, ax, eq_self, if_true, if_false, Nat.reduceAdd, Int.reduceToNat, Int.reduceAdd, tvs, bs]; try refine aA ?_)) | (refine cR (ret_Make neg xs hx hl) ?_; simp (disch := omega) only [u, i64, ax, eq_self, if_true, if_false, Nat.reduceAdd, Int.reduceToNat, Int.reduceAdd, tvs, bs]; try refine aA ?_) | refine G_seq ?_ | refine G_block ?_ | refine G_condT rfl ?_ | refine G_condF rfl ?_ | refine G_skip ?_ | refine G_ret ?_ | refine G_exit ?_ | refine q_tn ?_ | refine q_tr ?_ | refine q_tx ?_ | refine q_bn ?_ | refine q_br ?_ | refine q_bx ?_ | refine q_by (by decide) ?_)
  (refine FinQ hQ (congrArg Array.toList Tryz.results84) _ _ ?_); simp (disch := omega) only [u, i64, ax, if_true, forall_const, reduceCtorEq, implies_true, tvs, bf]
/-- The sign of an integer. -/
def sgn (neg : Bool) (v : Nat) : Int := if v = 0 then 0 else if neg then -1 else 1
set_option maxRecDepth 100000 in
theorem ret_Sign03 (neg : Bool) (xs : List Nat) (hx : Wd xs) (hl : xs.length ≤ 34359738368) : Ret Tryz.prog GEs 230 [.agg [.bool neg, ws xs]] (i64 (sgn neg (val xs))) := by
  have hT := ret_Trim03 neg xs hx hl
  have hxl := length_words_val_le hx
  by_cases h0 : val xs = 0
  · have e : sgn neg (val xs) = 0 := if_pos h0
    rw [decF (show ¬ val xs ≠ 0 from fun h => h h0), Bool.and_false] at hT
    have hl0 : ¬ 0 < (words (val xs)).length := by rw [h0, words_zero]; simp
    refine RetN_start Tryz.func230 (by kernel_rfl) rfl fun Q hQ hQ2 => ?_; rw [Tryz.ntmps230]; simp only [u, i64, Nat.reduceSub, Nat.reduceAdd, bm]
    repeat (first | ((first | refine Gs ?_ | refine Gr ?_); simp (disch := omega) only [u, i64, ax, eq_self, if_true, if_false, Nat.reduceAdd, Int.reduceToNat, Int.reduceAdd, tvs, bs]; first | refine aA ?_ | (refine cR hT ?_; simp (disch := omega) only [u, i64, ax, eq_self, if_true, if_false, Nat.reduceAdd, Int.reduceToNat, Int.reduceAdd, tvs, bs]; try refine aA ?_)) | (refine cR hT ?_; simp (disch := omega) only [u, i64, ax, eq_self, if_true, if_false, Nat.reduceAdd, Int.reduceToNat, Int.reduceAdd, tvs, bs]; try refine aA ?_) | refine G_seq ?_ | refine G_block ?_ | refine G_condT rfl ?_ | refine G_condF rfl ?_ | refine G_skip ?_ | refine G_ret ?_ | refine G_exit ?_ | refine q_tn ?_ | refine q_tr ?_ | refine q_tx ?_ | refine q_bn ?_ | refine q_br ?_ | refine q_bx ?_ | refine q_by (by decide) ?_)
    (refine FinQ hQ (congrArg Array.toList Tryz.results230) _ _ ?_); simp (disch := omega) only [u, i64, ax, if_true, forall_const, reduceCtorEq, implies_true, tvs, bf, e]
  · rw [decT h0, Bool.and_true] at hT
    have hl0 : 0 < (words (val xs)).length := List.length_pos_iff.2 fun h => h0 (words_eq_nil.1 h)
    cases neg with
    | true =>
      have e : sgn true (val xs) = -1 := by unfold sgn; rw [if_neg h0]; rfl
      refine RetN_start Tryz.func230 (by kernel_rfl) rfl fun Q hQ hQ2 => ?_; rw [Tryz.ntmps230]; simp only [u, i64, Nat.reduceSub, Nat.reduceAdd, bm]
      repeat (first | ((first | refine Gs ?_ | refine Gr ?_); simp (disch := omega) only [u, i64, ax, eq_self, if_true, if_false, Nat.reduceAdd, Int.reduceToNat, Int.reduceAdd, tvs, bs]; first | refine aA ?_ | (refine cR hT ?_; simp (disch := omega) only [u, i64, ax, eq_self, if_true, if_false, Nat.reduceAdd, Int.reduceToNat, Int.reduceAdd, tvs, bs]; try refine aA ?_)) | (refine cR hT ?_; simp (disch := omega) only [u, i64, ax, eq_self, if_true, if_false, Nat.reduceAdd, Int.reduceToNat, Int.reduceAdd, tvs, bs]; try refine aA ?_) | refine G_seq ?_ | refine G_block ?_ | refine G_condT rfl ?_ | refine G_condF rfl ?_ | refine G_skip ?_ | refine G_ret ?_ | refine G_exit ?_ | refine q_tn ?_ | refine q_tr ?_ | refine q_tx ?_ | refine q_bn ?_ | refine q_br ?_ | refine q_bx ?_ | refine q_by (by decide) ?_)
      (refine FinQ hQ (congrArg Array.toList Tryz.results230) _ _ ?_); simp (disch := omega) only [u, i64, ax, if_true, forall_const, reduceCtorEq, implies_true, tvs, bf, e]
    | false =>
      have e : sgn false (val xs) = 1 := by unfold sgn; rw [if_neg h0]; rfl
      refine RetN_start Tryz.func230 (by kernel_rfl) rfl fun Q hQ hQ2 => ?_; rw [Tryz.ntmps230]; simp only [u, i64, Nat.reduceSub, Nat.reduceAdd, bm]
      repeat (first | ((first | refine Gs ?_ | refine Gr ?_); simp (disch := omega) only [u, i64, ax, eq_self, if_true, if_false, Nat.reduceAdd, Int.reduceToNat, Int.reduceAdd, tvs, bs]; first | refine aA ?_ | (refine cR hT ?_; simp (disch := omega) only [u, i64, ax, eq_self, if_true, if_false, Nat.reduceAdd, Int.reduceToNat, Int.reduceAdd, tvs, bs]; try refine aA ?_)) | (refine cR hT ?_; simp (disch := omega) only [u, i64, ax, eq_self, if_true, if_false, Nat.reduceAdd, Int.reduceToNat, Int.reduceAdd, tvs, bs]; try refine aA ?_) | refine G_seq ?_ | refine G_block ?_ | refine G_condT rfl ?_ | refine G_condF rfl ?_ | refine G_skip ?_ | refine G_ret ?_ | refine G_exit ?_ | refine q_tn ?_ | refine q_tr ?_ | refine q_tx ?_ | refine q_bn ?_ | refine q_br ?_ | refine q_bx ?_ | refine q_by (by decide) ?_)
      (refine FinQ hQ (congrArg Array.toList Tryz.results230) _ _ ?_); simp (disch := omega) only [u, i64, ax, if_true, forall_const, reduceCtorEq, implies_true, tvs, bf, e]
set_option maxRecDepth 100000 in
theorem ret_Sign11 (neg : Bool) (xs : List Nat) (hx : Wd xs) (hl : xs.length ≤ 34359738368) : Ret Tryz.prog GEs 164 [.agg [.bool neg, ws xs]] (i64 (sgn neg (val xs))) := by
  refine RetN_start Tryz.func164 (by kernel_rfl) rfl fun Q hQ hQ2 => ?_; rw [Tryz.ntmps164]; simp only [u, i64, Nat.reduceSub, Nat.reduceAdd, bm]
  repeat (first | ((first | refine Gs ?_ | refine Gr ?_); simp (disch := omega) only [u, i64, ax, eq_self, if_true, if_false, Nat.reduceAdd, Int.reduceToNat, Int.reduceAdd, tvs, bs]; first | refine aA ?_ | (refine cR (ret_Sign03 neg xs hx hl) ?_; simp (disch := omega) only [u, i64, ax, eq_self, if_true, if_false, Nat.reduceAdd, Int.reduceToNat, Int.reduceAdd, tvs, bs]; try refine aA ?_)) | (refine cR (ret_Sign03 neg xs hx hl) ?_; simp (disch := omega) only [u, i64, ax, eq_self, if_true, if_false, Nat.reduceAdd, Int.reduceToNat, Int.reduceAdd, tvs, bs]; try refine aA ?_) | refine G_seq ?_ | refine G_block ?_ | refine G_condT rfl ?_ | refine G_condF rfl ?_ | refine G_skip ?_ | refine G_ret ?_ | refine G_exit ?_ | refine q_tn ?_ | refine q_tr ?_ | refine q_tx ?_ | refine q_bn ?_ | refine q_br ?_ | refine q_bx ?_ | refine q_by (by decide) ?_)
  (refine FinQ hQ (congrArg Array.toList Tryz.results164) _ _ ?_); simp (disch := omega) only [u, i64, ax, if_true, forall_const, reduceCtorEq, implies_true, tvs, bf]
theorem gcd_len (a b n : Nat) (h : b ≠ 0) (hb : (words b).length ≤ n) : (words (Nat.gcd a b)).length ≤ n :=
  Nat.le_trans (length_mono (Nat.gcd_le_right a (Nat.pos_of_ne_zero h))) hb
set_option maxRecDepth 100000 in
theorem ret_Norm (neg : Bool) (ns ds : List Nat) (hn : Wd ns) (hd : Wd ds) (hln : ns.length ≤ 8589934592) (hld : ds.length ≤ 8589934592) (h0 : val ds ≠ 0) :
    Ret Tryz.prog GEs 94 [.agg [.bool neg, ws ns, ws ds]] (.agg [.bool (neg && decide (val ns / Nat.gcd (val ns) (val ds) ≠ 0)), nat (val ns / Nat.gcd (val ns) (val ds)), nat (val ds / Nat.gcd (val ns) (val ds))]) := by
  have hnl := length_words_val_le hn
  have hdl := length_words_val_le hd
  have hg0 : Nat.gcd (val ns) (val ds) ≠ 0 := fun h => h0 (Nat.eq_zero_of_gcd_eq_zero_right h)
  have hgl := gcd_len (val ns) (val ds) 8589934592 h0 (by omega)
  have hq1 := length_mono (Nat.div_le_self (val ns) (Nat.gcd (val ns) (val ds)))
  have hG := ret_Gcd ns ds hn hd (by omega) (by omega)
  have hD1 := ret_rDiv ns (words (Nat.gcd (val ns) (val ds))) hn (Wd_words _) (by rw [val_words]; exact hg0) (by omega) (by omega)
  have hD2 := ret_rDiv ds (words (Nat.gcd (val ns) (val ds))) hd (Wd_words _) (by rw [val_words]; exact hg0) (by omega) (by omega)
  rw [val_words] at hD1 hD2
  generalize Nat.gcd (val ns) (val ds) = g at *
  have hM := ret_Make11 neg (words (val ns / g)) (Wd_words _) (by omega)
  rw [val_words] at hM
  refine RetN_start Tryz.func94 (by kernel_rfl) rfl fun Q hQ hQ2 => ?_; rw [Tryz.ntmps94]; simp only [u, i64, Nat.reduceSub, Nat.reduceAdd, bm]
  repeat (first | ((first | refine Gs ?_ | refine Gr ?_); simp (disch := omega) only [u, i64, ax, eq_self, if_true, if_false, Nat.reduceAdd, Int.reduceToNat, Int.reduceAdd, tvs, bs]; first | refine aA ?_ | ((first | refine cR hG ?_ | refine cR hD1 ?_ | refine cR hM ?_ | refine cR hD2 ?_); simp (disch := omega) only [u, i64, ax, eq_self, if_true, if_false, Nat.reduceAdd, Int.reduceToNat, Int.reduceAdd, tvs, bs]; try refine aA ?_)) | ((first | refine cR hG ?_ | refine cR hD1 ?_ | refine cR hM ?_ | refine cR hD2 ?_); simp (disch := omega) only [u, i64, ax, eq_self, if_true, if_false, Nat.reduceAdd, Int.reduceToNat, Int.reduceAdd, tvs, bs]; try refine aA ?_) | refine G_seq ?_ | refine G_block ?_ | refine G_condT rfl ?_ | refine G_condF rfl ?_ | refine G_skip ?_ | refine G_ret ?_ | refine G_exit ?_ | refine q_tn ?_ | refine q_tr ?_ | refine q_tx ?_ | refine q_bn ?_ | refine q_br ?_ | refine q_bx ?_ | refine q_by (by decide) ?_)
  (refine FinQ hQ (congrArg Array.toList Tryz.results94) _ _ ?_); simp (disch := omega) only [u, i64, ax, if_true, forall_const, reduceCtorEq, implies_true, tvs, bf]
set_option maxRecDepth 100000 in
theorem ret_Large16 (neg : Bool) (ns ds : List Nat) (hln : ns.length ≤ 34359738368) (hld : ds.length ≤ 34359738368) : Ret Tryz.prog GEs 159 [.agg [.bool neg, ws ns, ws ds]] (.bool (decide (4096 < ns.length ∨ 4096 < ds.length))) := by
  have h1 := ret_rLarge ns hln
  have h2 := ret_rLarge ds hld
  by_cases ha : 4096 < ns.length
  · rw [decT ha] at h1
    rw [decT (Or.inl ha)]
    refine RetN_start Tryz.func159 (by kernel_rfl) rfl fun Q hQ hQ2 => ?_; rw [Tryz.ntmps159]; simp only [u, i64, Nat.reduceSub, Nat.reduceAdd, bm]
    repeat (first | ((first | refine Gs ?_ | refine Gr ?_); simp (disch := omega) only [u, i64, ax, eq_self, if_true, if_false, Nat.reduceAdd, Int.reduceToNat, Int.reduceAdd, tvs, bs]; first | refine aA ?_ | (refine cR h1 ?_; simp (disch := omega) only [u, i64, ax, eq_self, if_true, if_false, Nat.reduceAdd, Int.reduceToNat, Int.reduceAdd, tvs, bs]; try refine aA ?_)) | (refine cR h1 ?_; simp (disch := omega) only [u, i64, ax, eq_self, if_true, if_false, Nat.reduceAdd, Int.reduceToNat, Int.reduceAdd, tvs, bs]; try refine aA ?_) | refine G_seq ?_ | refine G_block ?_ | refine G_condT rfl ?_ | refine G_condF rfl ?_ | refine G_skip ?_ | refine G_ret ?_ | refine G_exit ?_ | refine q_tn ?_ | refine q_tr ?_ | refine q_tx ?_ | refine q_bn ?_ | refine q_br ?_ | refine q_bx ?_ | refine q_by (by decide) ?_)
    (refine FinQ hQ (congrArg Array.toList Tryz.results159) _ _ ?_); simp (disch := omega) only [u, i64, ax, if_true, forall_const, reduceCtorEq, implies_true, tvs, bf]
  · rw [decF ha] at h1
    rw [show decide (4096 < ns.length ∨ 4096 < ds.length) = decide (4096 < ds.length) by simp [ha]]
    refine RetN_start Tryz.func159 (by kernel_rfl) rfl fun Q hQ hQ2 => ?_; rw [Tryz.ntmps159]; simp only [u, i64, Nat.reduceSub, Nat.reduceAdd, bm]
    repeat (first | ((first | refine Gs ?_ | refine Gr ?_); simp (disch := omega) only [u, i64, ax, eq_self, if_true, if_false, Nat.reduceAdd, Int.reduceToNat, Int.reduceAdd, tvs, bs]; first | refine aA ?_ | ((first | refine cR h1 ?_ | refine cR h2 ?_); simp (disch := omega) only [u, i64, ax, eq_self, if_true, if_false, Nat.reduceAdd, Int.reduceToNat, Int.reduceAdd, tvs, bs]; try refine aA ?_)) | ((first | refine cR h1 ?_ | refine cR h2 ?_); simp (disch := omega) only [u, i64, ax, eq_self, if_true, if_false, Nat.reduceAdd, Int.reduceToNat, Int.reduceAdd, tvs, bs]; try refine aA ?_) | refine G_seq ?_ | refine G_block ?_ | refine G_condT rfl ?_ | refine G_condF rfl ?_ | refine G_skip ?_ | refine G_ret ?_ | refine G_exit ?_ | refine q_tn ?_ | refine q_tr ?_ | refine q_tx ?_ | refine q_bn ?_ | refine q_br ?_ | refine q_bx ?_ | refine q_by (by decide) ?_)
    (refine FinQ hQ (congrArg Array.toList Tryz.results159) _ _ ?_); simp (disch := omega) only [u, i64, ax, if_true, forall_const, reduceCtorEq, implies_true, tvs, bf]
    all_goals simp
set_option maxRecDepth 100000 in
theorem ret_Known (r : Int) (h1 : -9223372036854775808 ≤ r) (h2 : r < 9223372036854775808) : Ret Tryz.prog GEs 160 [i64 r] (.bool (decide (0 ≤ r ∧ r ≤ 4))) := by
  refine RetN_start Tryz.func160 (by kernel_rfl) rfl fun Q hQ hQ2 => ?_; rw [Tryz.ntmps160]; simp only [u, i64, Nat.reduceSub, Nat.reduceAdd, bm]
  by_cases ha : 0 ≤ r
  · by_cases hb : r ≤ 4
    · repeat (first | ((first | refine Gs ?_ | refine Gr ?_); simp (disch := omega) only [u, i64, ax, eq_self, if_true, if_false, Nat.reduceAdd, Int.reduceToNat, Int.reduceAdd, tvs, bs]; refine aA ?_) | refine G_seq ?_ | refine G_block ?_ | refine G_condT rfl ?_ | refine G_condF rfl ?_ | refine G_skip ?_ | refine G_ret ?_ | refine G_exit ?_ | refine q_tn ?_ | refine q_tr ?_ | refine q_tx ?_ | refine q_bn ?_ | refine q_br ?_ | refine q_bx ?_ | refine q_by (by decide) ?_)
      (refine FinQ hQ (congrArg Array.toList Tryz.results160) _ _ ?_); simp (disch := omega) only [u, i64, ax, if_true, forall_const, reduceCtorEq, implies_true, tvs, bf, decT (show 0 ≤ r ∧ r ≤ 4 from ⟨ha, hb⟩)]
    · repeat (first | ((first | refine Gs ?_ | refine Gr ?_); simp (disch := omega) only [u, i64, ax, eq_self, if_true, if_false, Nat.reduceAdd, Int.reduceToNat, Int.reduceAdd, tvs, bs]; refine aA ?_) | refine G_seq ?_ | refine G_block ?_ | refine G_condT rfl ?_ | refine G_condF rfl ?_ | refine G_skip ?_ | refine G_ret ?_ | refine G_exit ?_ | refine q_tn ?_ | refine q_tr ?_ | refine q_tx ?_ | refine q_bn ?_ | refine q_br ?_ | refine q_bx ?_ | refine q_by (by decide) ?_)
      (refine FinQ hQ (congrArg Array.toList Tryz.results160) _ _ ?_); simp (disch := omega) only [u, i64, ax, if_true, forall_const, reduceCtorEq, implies_true, tvs, bf, decF (show ¬ (0 ≤ r ∧ r ≤ 4) from fun h => hb h.2)]
  · repeat (first | ((first | refine Gs ?_ | refine Gr ?_); simp (disch := omega) only [u, i64, ax, eq_self, if_true, if_false, Nat.reduceAdd, Int.reduceToNat, Int.reduceAdd, tvs, bs]; refine aA ?_) | refine G_seq ?_ | refine G_block ?_ | refine G_condT rfl ?_ | refine G_condF rfl ?_ | refine G_skip ?_ | refine G_ret ?_ | refine G_exit ?_ | refine q_tn ?_ | refine q_tr ?_ | refine q_tx ?_ | refine q_bn ?_ | refine q_br ?_ | refine q_bx ?_ | refine q_by (by decide) ?_)
    (refine FinQ hQ (congrArg Array.toList Tryz.results160) _ _ ?_); simp (disch := omega) only [u, i64, ax, if_true, forall_const, reduceCtorEq, implies_true, tvs, bf, decF (show ¬ (0 ≤ r ∧ r ≤ 4) from fun h => ha h.1)]
set_option maxRecDepth 100000 in
set_option maxHeartbeats 1000000 in
theorem ret_Args (r : Int) (h1 : -9223372036854775808 ≤ r) (h2 : r < 9223372036854775808) (neg : Bool) (ns ds : List Nat) (hn : Wd ns) (hd : Wd ds) (hln : ns.length ≤ 34359738368) (hld : ds.length ≤ 34359738368) :
    Ret Tryz.prog GEs 76 [i64 r, .lst 1 [.bool neg, ws ns, ws ds]] (i64 ((errQ r ns.length ds.length (val ds) : Nat) : Int)) := by
  have hL := ret_Large16 neg ns ds hln hld
  have hZ := ret_rIsZero ds hd hld
  have hK := ret_Known r h1 h2
  refine RetN_start Tryz.func76 (by kernel_rfl) rfl fun Q hQ hQ2 => ?_; rw [Tryz.ntmps76]; simp only [u, i64, Nat.reduceSub, Nat.reduceAdd, bm]
  repeat (first | ((first | refine Gs ?_ | refine Gr ?_); simp (disch := omega) only [u, i64, ax, eq_self, if_true, if_false, Nat.reduceAdd, Int.reduceToNat, Int.reduceAdd, tvs, bs]; refine aA ?_) | refine G_seq ?_ | refine G_block ?_ | refine G_condT rfl ?_ | refine G_condF rfl ?_ | refine G_skip ?_ | refine G_ret ?_ | refine G_exit ?_ | refine q_tn ?_ | refine q_tr ?_ | refine q_tx ?_ | refine q_bn ?_ | refine q_br ?_ | refine q_bx ?_ | refine q_by (by decide) ?_)
  refine AWp_loop (fun i : Bool => bif i then mk 33 [(0, i64 r), (1, .lst 1 [.bool neg, ws ns, ws ds]), (5, i64 1)] [] else mk 33 [(0, i64 r), (1, .lst 1 [.bool neg, ws ns, ws ds]), (5, i64 0)] []) (fun i => i = true → ¬ 4096 < ns.length ∧ ¬ 4096 < ds.length) (fun i => bif i then 0 else 1) false ?_ (fun h => by cases h) ?_
  · simp only [cond_false]
    simp only [u, i64, Nat.reduceSub, Nat.reduceAdd, bm]
  intro i hi
  cases i with
  | false =>
    simp only [cond_false]
    simp only [u, i64, Nat.reduceSub, Nat.reduceAdd, bm]
    by_cases ha : 4096 < ns.length ∨ 4096 < ds.length
    · rw [decT ha] at hL
      repeat (first | ((first | refine Gs ?_ | refine Gr ?_); simp (disch := omega) only [u, i64, ax, eq_self, if_true, if_false, Nat.reduceAdd, Int.reduceToNat, Int.reduceAdd, tvs, bs]; first | refine aA ?_ | (refine cR hL ?_; simp (disch := omega) only [u, i64, ax, eq_self, if_true, if_false, Nat.reduceAdd, Int.reduceToNat, Int.reduceAdd, tvs, bs]; try refine aA ?_)) | (refine cR hL ?_; simp (disch := omega) only [u, i64, ax, eq_self, if_true, if_false, Nat.reduceAdd, Int.reduceToNat, Int.reduceAdd, tvs, bs]; try refine aA ?_) | refine G_seq ?_ | refine G_block ?_ | refine G_condT rfl ?_ | refine G_condF rfl ?_ | refine G_skip ?_ | refine G_ret ?_ | refine G_exit ?_ | refine q_tn ?_ | refine q_tr ?_ | refine q_tx ?_ | refine q_bn ?_ | refine q_br ?_ | refine q_bx ?_ | refine q_by (by decide) ?_)
      (refine FinQ hQ (congrArg Array.toList Tryz.results76) _ _ ?_); simp (disch := omega) only [u, i64, ax, if_true, forall_const, reduceCtorEq, implies_true, tvs, bf, errQ_size ha]
      rfl
    rw [decF ha] at hL
    repeat (first | ((first | refine Gs ?_ | refine Gr ?_); simp (disch := omega) only [u, i64, ax, eq_self, if_true, if_false, Nat.reduceAdd, Int.reduceToNat, Int.reduceAdd, tvs, bs]; first | refine aA ?_ | (refine cR hL ?_; simp (disch := omega) only [u, i64, ax, eq_self, if_true, if_false, Nat.reduceAdd, Int.reduceToNat, Int.reduceAdd, tvs, bs]; try refine aA ?_)) | (refine cR hL ?_; simp (disch := omega) only [u, i64, ax, eq_self, if_true, if_false, Nat.reduceAdd, Int.reduceToNat, Int.reduceAdd, tvs, bs]; try refine aA ?_) | refine G_seq ?_ | refine G_block ?_ | refine G_condT rfl ?_ | refine G_condF rfl ?_ | refine G_skip ?_ | refine G_ret ?_ | refine G_exit ?_ | refine q_tn ?_ | refine q_tr ?_ | refine q_tx ?_ | refine q_bn ?_ | refine q_br ?_ | refine q_bx ?_ | refine q_by (by decide) ?_)
    refine ⟨true, ?_, fun _ => ⟨fun h => ha (Or.inl h), fun h => ha (Or.inr h)⟩, by decide⟩
    simp only [cond_true]
    simp only [u, i64, Nat.reduceSub, Nat.reduceAdd, bm]
  | true =>
    obtain ⟨ha, hb⟩ := hi rfl
    simp only [cond_true]
    simp only [u, i64, Nat.reduceSub, Nat.reduceAdd, bm]
    repeat (first | ((first | refine Gs ?_ | refine Gr ?_); simp (disch := omega) only [u, i64, ax, eq_self, if_true, if_false, Nat.reduceAdd, Int.reduceToNat, Int.reduceAdd, tvs, bs]; refine aA ?_) | refine G_seq ?_ | refine G_block ?_ | refine G_condT rfl ?_ | refine G_condF rfl ?_ | refine G_skip ?_ | refine G_ret ?_ | refine G_exit ?_ | refine q_tn ?_ | refine q_tr ?_ | refine q_tx ?_ | refine q_bn ?_ | refine q_br ?_ | refine q_bx ?_ | refine q_by (by decide) ?_)
    refine AWp_loop (fun i : Bool => bif i then mk 33 [(0, i64 r), (1, .lst 1 [.bool neg, ws ns, ws ds]), (6, i64 1)] [] else mk 33 [(0, i64 r), (1, .lst 1 [.bool neg, ws ns, ws ds]), (6, i64 0)] []) (fun i => i = true → val ds ≠ 0) (fun i => bif i then 0 else 1) false ?_ (fun h => by cases h) ?_
    · simp only [cond_false]
      simp only [u, i64, Nat.reduceSub, Nat.reduceAdd, bm]
    intro i hi
    cases i with
    | false =>
      simp only [cond_false]
      simp only [u, i64, Nat.reduceSub, Nat.reduceAdd, bm]
      by_cases h0 : val ds = 0
      · rw [decT h0] at hZ
        repeat (first | ((first | refine Gs ?_ | refine Gr ?_); simp (disch := omega) only [u, i64, ax, eq_self, if_true, if_false, Nat.reduceAdd, Int.reduceToNat, Int.reduceAdd, tvs, bs]; first | refine aA ?_ | (refine cR hZ ?_; simp (disch := omega) only [u, i64, ax, eq_self, if_true, if_false, Nat.reduceAdd, Int.reduceToNat, Int.reduceAdd, tvs, bs]; try refine aA ?_)) | (refine cR hZ ?_; simp (disch := omega) only [u, i64, ax, eq_self, if_true, if_false, Nat.reduceAdd, Int.reduceToNat, Int.reduceAdd, tvs, bs]; try refine aA ?_) | refine G_seq ?_ | refine G_block ?_ | refine G_condT rfl ?_ | refine G_condF rfl ?_ | refine G_skip ?_ | refine G_ret ?_ | refine G_exit ?_ | refine q_tn ?_ | refine q_tr ?_ | refine q_tx ?_ | refine q_bn ?_ | refine q_br ?_ | refine q_bx ?_ | refine q_by (by decide) ?_)
        (refine FinQ hQ (congrArg Array.toList Tryz.results76) _ _ ?_); simp (disch := omega) only [u, i64, ax, if_true, forall_const, reduceCtorEq, implies_true, tvs, bf, errQ_zero ha hb h0]
        rfl
      · rw [decF h0] at hZ
        repeat (first | ((first | refine Gs ?_ | refine Gr ?_); simp (disch := omega) only [u, i64, ax, eq_self, if_true, if_false, Nat.reduceAdd, Int.reduceToNat, Int.reduceAdd, tvs, bs]; first | refine aA ?_ | (refine cR hZ ?_; simp (disch := omega) only [u, i64, ax, eq_self, if_true, if_false, Nat.reduceAdd, Int.reduceToNat, Int.reduceAdd, tvs, bs]; try refine aA ?_)) | (refine cR hZ ?_; simp (disch := omega) only [u, i64, ax, eq_self, if_true, if_false, Nat.reduceAdd, Int.reduceToNat, Int.reduceAdd, tvs, bs]; try refine aA ?_) | refine G_seq ?_ | refine G_block ?_ | refine G_condT rfl ?_ | refine G_condF rfl ?_ | refine G_skip ?_ | refine G_ret ?_ | refine G_exit ?_ | refine q_tn ?_ | refine q_tr ?_ | refine q_tx ?_ | refine q_bn ?_ | refine q_br ?_ | refine q_bx ?_ | refine q_by (by decide) ?_)
        refine ⟨true, ?_, fun _ => h0, by decide⟩
        simp only [cond_true]
        simp only [u, i64, Nat.reduceSub, Nat.reduceAdd, bm]
    | true =>
      have h0 := hi rfl
      simp only [cond_true]
      simp only [u, i64, Nat.reduceSub, Nat.reduceAdd, bm]
      by_cases hr : 0 ≤ r ∧ r ≤ 4
      · rw [decT hr] at hK
        repeat (first | ((first | refine Gs ?_ | refine Gr ?_); simp (disch := omega) only [u, i64, ax, eq_self, if_true, if_false, Nat.reduceAdd, Int.reduceToNat, Int.reduceAdd, tvs, bs]; first | refine aA ?_ | (refine cR hK ?_; simp (disch := omega) only [u, i64, ax, eq_self, if_true, if_false, Nat.reduceAdd, Int.reduceToNat, Int.reduceAdd, tvs, bs]; try refine aA ?_)) | (refine cR hK ?_; simp (disch := omega) only [u, i64, ax, eq_self, if_true, if_false, Nat.reduceAdd, Int.reduceToNat, Int.reduceAdd, tvs, bs]; try refine aA ?_) | refine G_seq ?_ | refine G_block ?_ | refine G_condT rfl ?_ | refine G_condF rfl ?_ | refine G_skip ?_ | refine G_ret ?_ | refine G_exit ?_ | refine q_tn ?_ | refine q_tr ?_ | refine q_tx ?_ | refine q_bn ?_ | refine q_br ?_ | refine q_bx ?_ | refine q_by (by decide) ?_)
        (refine FinQ hQ (congrArg Array.toList Tryz.results76) _ _ ?_); simp (disch := omega) only [u, i64, ax, if_true, forall_const, reduceCtorEq, implies_true, tvs, bf, errQ_ok ha hb h0 hr]
        rfl
      · rw [decF hr] at hK
        repeat (first | ((first | refine Gs ?_ | refine Gr ?_); simp (disch := omega) only [u, i64, ax, eq_self, if_true, if_false, Nat.reduceAdd, Int.reduceToNat, Int.reduceAdd, tvs, bs]; first | refine aA ?_ | (refine cR hK ?_; simp (disch := omega) only [u, i64, ax, eq_self, if_true, if_false, Nat.reduceAdd, Int.reduceToNat, Int.reduceAdd, tvs, bs]; try refine aA ?_)) | (refine cR hK ?_; simp (disch := omega) only [u, i64, ax, eq_self, if_true, if_false, Nat.reduceAdd, Int.reduceToNat, Int.reduceAdd, tvs, bs]; try refine aA ?_) | refine G_seq ?_ | refine G_block ?_ | refine G_condT rfl ?_ | refine G_condF rfl ?_ | refine G_skip ?_ | refine G_ret ?_ | refine G_exit ?_ | refine q_tn ?_ | refine q_tr ?_ | refine q_tx ?_ | refine q_bn ?_ | refine q_br ?_ | refine q_bx ?_ | refine q_by (by decide) ?_)
        (refine FinQ hQ (congrArg Array.toList Tryz.results76) _ _ ?_); simp (disch := omega) only [u, i64, ax, if_true, forall_const, reduceCtorEq, implies_true, tvs, bf, errQ_arg ha hb h0 hr]
        rfl
end Go.Proofs
set_option linter.unusedVariables false
set_option linter.unusedSimpArgs false
namespace Go.Proofs
open Go.Ax
end Go.Proofs
set_option linter.unusedVariables false
set_option linter.unusedSimpArgs false
namespace Go.Proofs
open Go.Ax
set_option maxRecDepth 100000 in
theorem ret_Brief1 (neg : Bool) (ns ds : List Nat) (hln : ns.length ≤ 9223372036854775807) (hld : ds.length ≤ 9223372036854775807) : Ret Tryz.prog GEs 16 [.lst 1 [.bool neg, ws ns, ws ds]] (.bool (decide (ns.length ≤ 40 ∧ ds.length ≤ 40))) := by
  refine RetN_start Tryz.func16 (by kernel_rfl) rfl fun Q hQ hQ2 => ?_; rw [Tryz.ntmps16]; simp only [u, i64, Nat.reduceSub, Nat.reduceAdd, bm]
  repeat (first | ((first | refine Gs ?_ | refine Gr ?_); simp (disch := omega) only [u, i64, ax, eq_self, if_true, if_false, Nat.reduceAdd, Int.reduceToNat, Int.reduceAdd, tvs, bs]; refine aA ?_) | refine G_seq ?_ | refine G_block ?_ | refine G_condT rfl ?_ | refine G_condF rfl ?_ | refine G_skip ?_ | refine G_ret ?_ | refine G_exit ?_ | refine q_tn ?_ | refine q_tr ?_ | refine q_tx ?_ | refine q_bn ?_ | refine q_br ?_ | refine q_bx ?_ | refine q_by (by decide) ?_)
  refine AWp_loop (fun i : Bool => bif i then mk 27 [(0, .lst 1 [.bool neg, ws ns, ws ds]), (3, i64 1)] [] else mk 27 [(0, .lst 1 [.bool neg, ws ns, ws ds]), (3, i64 0)] []) (fun i => i = true → ns.length ≤ 40 ∧ ds.length ≤ 40) (fun i => bif i then 0 else 1) false ?_ (fun h => by cases h) ?_
  · simp only [cond_false]
    simp only [u, i64, Nat.reduceSub, Nat.reduceAdd, bm]
  intro i hi
  cases i with
  | false =>
    simp only [cond_false]
    simp only [u, i64, Nat.reduceSub, Nat.reduceAdd, bm]
    by_cases ha : 40 < ns.length
    · repeat (first | ((first | refine Gs ?_ | refine Gr ?_); simp (disch := omega) only [u, i64, ax, eq_self, if_true, if_false, Nat.reduceAdd, Int.reduceToNat, Int.reduceAdd, tvs, bs]; refine aA ?_) | refine G_seq ?_ | refine G_block ?_ | refine G_condT rfl ?_ | refine G_condF rfl ?_ | refine G_skip ?_ | refine G_ret ?_ | refine G_exit ?_ | refine q_tn ?_ | refine q_tr ?_ | refine q_tx ?_ | refine q_bn ?_ | refine q_br ?_ | refine q_bx ?_ | refine q_by (by decide) ?_)
      (refine FinQ hQ (congrArg Array.toList Tryz.results16) _ _ ?_); simp (disch := omega) only [u, i64, ax, if_true, forall_const, reduceCtorEq, implies_true, tvs, bf, decF (show ¬ (ns.length ≤ 40 ∧ ds.length ≤ 40) by omega)]
    by_cases hb : 40 < ds.length
    · repeat (first | ((first | refine Gs ?_ | refine Gr ?_); simp (disch := omega) only [u, i64, ax, eq_self, if_true, if_false, Nat.reduceAdd, Int.reduceToNat, Int.reduceAdd, tvs, bs]; refine aA ?_) | refine G_seq ?_ | refine G_block ?_ | refine G_condT rfl ?_ | refine G_condF rfl ?_ | refine G_skip ?_ | refine G_ret ?_ | refine G_exit ?_ | refine q_tn ?_ | refine q_tr ?_ | refine q_tx ?_ | refine q_bn ?_ | refine q_br ?_ | refine q_bx ?_ | refine q_by (by decide) ?_)
      (refine FinQ hQ (congrArg Array.toList Tryz.results16) _ _ ?_); simp (disch := omega) only [u, i64, ax, if_true, forall_const, reduceCtorEq, implies_true, tvs, bf, decF (show ¬ (ns.length ≤ 40 ∧ ds.length ≤ 40) by omega)]
    repeat (first | ((first | refine Gs ?_ | refine Gr ?_); simp (disch := omega) only [u, i64, ax, eq_self, if_true, if_false, Nat.reduceAdd, Int.reduceToNat, Int.reduceAdd, tvs, bs]; refine aA ?_) | refine G_seq ?_ | refine G_block ?_ | refine G_condT rfl ?_ | refine G_condF rfl ?_ | refine G_skip ?_ | refine G_ret ?_ | refine G_exit ?_ | refine q_tn ?_ | refine q_tr ?_ | refine q_tx ?_ | refine q_bn ?_ | refine q_br ?_ | refine q_bx ?_ | refine q_by (by decide) ?_)
    refine ⟨true, ?_, fun _ => by omega, by decide⟩
    simp only [cond_true]
    simp only [u, i64, Nat.reduceSub, Nat.reduceAdd, bm]
  | true =>
    simp only [cond_true]
    simp only [u, i64, Nat.reduceSub, Nat.reduceAdd, bm]
    repeat (first | ((first | refine Gs ?_ | refine Gr ?_); simp (disch := omega) only [u, i64, ax, eq_self, if_true, if_false, Nat.reduceAdd, Int.reduceToNat, Int.reduceAdd, tvs, bs]; refine aA ?_) | refine G_seq ?_ | refine G_block ?_ | refine G_condT rfl ?_ | refine G_condF rfl ?_ | refine G_skip ?_ | refine G_ret ?_ | refine G_exit ?_ | refine q_tn ?_ | refine q_tr ?_ | refine q_tx ?_ | refine q_bn ?_ | refine q_br ?_ | refine q_bx ?_ | refine q_by (by decide) ?_)
    (refine FinQ hQ (congrArg Array.toList Tryz.results16) _ _ ?_); simp (disch := omega) only [u, i64, ax, if_true, forall_const, reduceCtorEq, implies_true, tvs, bf, decT (hi rfl)]
theorem ret_awake16 : Ret Tryz.prog GEs 17 [] (.bool true) := ran (n := 60) (by kernel_rfl)
end Go.Proofs
set_option linter.unusedVariables false
set_option linter.unusedSimpArgs false
namespace Go.Proofs
open Go.Ax
set_option maxRecDepth 100000 in
set_option maxHeartbeats 4000000 in
theorem ret_Right15 (k p : Int) : Ret Tryz.prog GEs 162 [.agg [i64 k, i64 p]] (.bool (decide (okFm k p))) := by
  by_cases a1 : k < 2
  · rw [decF (show ¬ okFm k p by omega)]
    refine RetN_start Tryz.func162 (by kernel_rfl) rfl fun Q hQ hQ2 => ?_; rw [Tryz.ntmps162]; simp only [u, i64, Nat.reduceSub, Nat.reduceAdd, bm]
    repeat (first | ((first | refine Gs ?_ | refine Gr ?_); simp (disch := omega) only [u, i64, ax, eq_self, if_true, if_false, Nat.reduceAdd, Int.reduceToNat, Int.reduceAdd, tvs, bs]; refine aA ?_) | refine G_seq ?_ | refine G_block ?_ | refine G_condT rfl ?_ | refine G_condF rfl ?_ | refine G_skip ?_ | refine G_ret ?_ | refine G_exit ?_ | refine q_tn ?_ | refine q_tr ?_ | refine q_tx ?_ | refine q_bn ?_ | refine q_br ?_ | refine q_bx ?_ | refine q_by (by decide) ?_)
    (refine FinQ hQ (congrArg Array.toList Tryz.results162) _ _ ?_); simp (disch := omega) only [u, i64, ax, if_true, forall_const, reduceCtorEq, implies_true, tvs, bf]
  by_cases a2 : 15 < k
  · rw [decF (show ¬ okFm k p by omega)]
    refine RetN_start Tryz.func162 (by kernel_rfl) rfl fun Q hQ hQ2 => ?_; rw [Tryz.ntmps162]; simp only [u, i64, Nat.reduceSub, Nat.reduceAdd, bm]
    repeat (first | ((first | refine Gs ?_ | refine Gr ?_); simp (disch := omega) only [u, i64, ax, eq_self, if_true, if_false, Nat.reduceAdd, Int.reduceToNat, Int.reduceAdd, tvs, bs]; refine aA ?_) | refine G_seq ?_ | refine G_block ?_ | refine G_condT rfl ?_ | refine G_condF rfl ?_ | refine G_skip ?_ | refine G_ret ?_ | refine G_exit ?_ | refine q_tn ?_ | refine q_tr ?_ | refine q_tx ?_ | refine q_bn ?_ | refine q_br ?_ | refine q_bx ?_ | refine q_by (by decide) ?_)
    (refine FinQ hQ (congrArg Array.toList Tryz.results162) _ _ ?_); simp (disch := omega) only [u, i64, ax, if_true, forall_const, reduceCtorEq, implies_true, tvs, bf]
  by_cases a3 : p < 2
  · rw [decF (show ¬ okFm k p by omega)]
    refine RetN_start Tryz.func162 (by kernel_rfl) rfl fun Q hQ hQ2 => ?_; rw [Tryz.ntmps162]; simp only [u, i64, Nat.reduceSub, Nat.reduceAdd, bm]
    repeat (first | ((first | refine Gs ?_ | refine Gr ?_); simp (disch := omega) only [u, i64, ax, eq_self, if_true, if_false, Nat.reduceAdd, Int.reduceToNat, Int.reduceAdd, tvs, bs]; refine aA ?_) | refine G_seq ?_ | refine G_block ?_ | refine G_condT rfl ?_ | refine G_condF rfl ?_ | refine G_skip ?_ | refine G_ret ?_ | refine G_exit ?_ | refine q_tn ?_ | refine q_tr ?_ | refine q_tx ?_ | refine q_bn ?_ | refine q_br ?_ | refine q_bx ?_ | refine q_by (by decide) ?_)
    (refine FinQ hQ (congrArg Array.toList Tryz.results162) _ _ ?_); simp (disch := omega) only [u, i64, ax, if_true, forall_const, reduceCtorEq, implies_true, tvs, bf]
  by_cases a4 : 256 < p
  · rw [decF (show ¬ okFm k p by omega)]
    refine RetN_start Tryz.func162 (by kernel_rfl) rfl fun Q hQ hQ2 => ?_; rw [Tryz.ntmps162]; simp only [u, i64, Nat.reduceSub, Nat.reduceAdd, bm]
    repeat (first | ((first | refine Gs ?_ | refine Gr ?_); simp (disch := omega) only [u, i64, ax, eq_self, if_true, if_false, Nat.reduceAdd, Int.reduceToNat, Int.reduceAdd, tvs, bs]; refine aA ?_) | refine G_seq ?_ | refine G_block ?_ | refine G_condT rfl ?_ | refine G_condF rfl ?_ | refine G_skip ?_ | refine G_ret ?_ | refine G_exit ?_ | refine q_tn ?_ | refine q_tr ?_ | refine q_tx ?_ | refine q_bn ?_ | refine q_br ?_ | refine q_bx ?_ | refine q_by (by decide) ?_)
    (refine FinQ hQ (congrArg Array.toList Tryz.results162) _ _ ?_); simp (disch := omega) only [u, i64, ax, if_true, forall_const, reduceCtorEq, implies_true, tvs, bf]
  rw [decT (show okFm k p by omega)]
  refine RetN_start Tryz.func162 (by kernel_rfl) rfl fun Q hQ hQ2 => ?_; rw [Tryz.ntmps162]; simp only [u, i64, Nat.reduceSub, Nat.reduceAdd, bm]
  repeat (first | ((first | refine Gs ?_ | refine Gr ?_); simp (disch := omega) only [u, i64, ax, eq_self, if_true, if_false, Nat.reduceAdd, Int.reduceToNat, Int.reduceAdd, tvs, bs]; refine aA ?_) | refine G_seq ?_ | refine G_block ?_ | refine G_condT rfl ?_ | refine G_condF rfl ?_ | refine G_skip ?_ | refine G_ret ?_ | refine G_exit ?_ | refine q_tn ?_ | refine q_tr ?_ | refine q_tx ?_ | refine q_bn ?_ | refine q_br ?_ | refine q_bx ?_ | refine q_by (by decide) ?_)
  (refine FinQ hQ (congrArg Array.toList Tryz.results162) _ _ ?_); simp (disch := omega) only [u, i64, ax, if_true, forall_const, reduceCtorEq, implies_true, tvs, bf]
set_option maxRecDepth 100000 in
set_option maxHeartbeats 2000000 in
theorem ret_Check15 (k p : Int) : Ret Tryz.prog GEs 77 [.agg [i64 k, i64 p], .emp] (i64 (if okFm k p then 0 else 150)) := by
  have hR := ret_Right15 k p
  by_cases h : okFm k p
  · rw [decT h] at hR
    rw [if_pos h]
    refine RetN_start Tryz.func77 (by kernel_rfl) rfl fun Q hQ hQ2 => ?_; rw [Tryz.ntmps77]; simp only [u, i64, Nat.reduceSub, Nat.reduceAdd, bm]
    repeat (first | ((first | refine Gs ?_ | refine Gr ?_); simp (disch := omega) only [u, i64, ax, eq_self, if_true, if_false, Nat.reduceAdd, Int.reduceToNat, Int.reduceAdd, tvs, bs]; refine aA ?_) | refine G_seq ?_ | refine G_block ?_ | refine G_condT rfl ?_ | refine G_condF rfl ?_ | refine G_skip ?_ | refine G_ret ?_ | refine G_exit ?_ | refine q_tn ?_ | refine q_tr ?_ | refine q_tx ?_ | refine q_bn ?_ | refine q_br ?_ | refine q_bx ?_ | refine q_by (by decide) ?_)
    refine AWp_loop (fun _ : Unit => mk 42 [(0, .agg [i64 k, i64 p]), (1, .emp), (2, .ptr 0 0 0), (4, i64 0), (5, i64 0)] [⟨0, true, [i64 k, i64 p]⟩]) (fun _ => True) (fun _ => 0) () ?_ trivial ?_
    · simp only [u, i64, Nat.reduceSub, Nat.reduceAdd, bm]
    intro _ _
    simp only [u, i64, Nat.reduceSub, Nat.reduceAdd, bm]
    repeat (first | ((first | refine Gs ?_ | refine Gr ?_); simp (disch := omega) only [u, i64, ax, eq_self, if_true, if_false, Nat.reduceAdd, Int.reduceToNat, Int.reduceAdd, tvs, bs]; first | refine aA ?_ | (refine cR hR ?_; simp (disch := omega) only [u, i64, ax, eq_self, if_true, if_false, Nat.reduceAdd, Int.reduceToNat, Int.reduceAdd, tvs, bs]; try refine aA ?_)) | (refine cR hR ?_; simp (disch := omega) only [u, i64, ax, eq_self, if_true, if_false, Nat.reduceAdd, Int.reduceToNat, Int.reduceAdd, tvs, bs]; try refine aA ?_) | refine G_seq ?_ | refine G_block ?_ | refine G_condT rfl ?_ | refine G_condF rfl ?_ | refine G_skip ?_ | refine G_ret ?_ | refine G_exit ?_ | refine q_tn ?_ | refine q_tr ?_ | refine q_tx ?_ | refine q_bn ?_ | refine q_br ?_ | refine q_bx ?_ | refine q_by (by decide) ?_)
    refine AWp_loop (fun _ : Unit => mk 42 [(0, .agg [i64 k, i64 p]), (1, .emp), (2, .ptr 0 0 0), (4, i64 0), (6, i64 0)] [⟨0, true, [i64 k, i64 p]⟩]) (fun _ => True) (fun _ => 0) () ?_ trivial ?_
    · simp only [u, i64, Nat.reduceSub, Nat.reduceAdd, bm]
    intro _ _
    simp only [u, i64, Nat.reduceSub, Nat.reduceAdd, bm]
    repeat (first | ((first | refine Gs ?_ | refine Gr ?_); simp (disch := omega) only [u, i64, ax, eq_self, if_true, if_false, Nat.reduceAdd, Int.reduceToNat, Int.reduceAdd, tvs, bs]; refine aA ?_) | refine G_seq ?_ | refine G_block ?_ | refine G_condT rfl ?_ | refine G_condF rfl ?_ | refine G_skip ?_ | refine G_ret ?_ | refine G_exit ?_ | refine q_tn ?_ | refine q_tr ?_ | refine q_tx ?_ | refine q_bn ?_ | refine q_br ?_ | refine q_bx ?_ | refine q_by (by decide) ?_)
    (refine FinQ hQ (congrArg Array.toList Tryz.results77) _ _ ?_); simp (disch := omega) only [u, i64, ax, if_true, forall_const, reduceCtorEq, implies_true, tvs, bf]
  · rw [decF h] at hR
    rw [if_neg h]
    refine RetN_start Tryz.func77 (by kernel_rfl) rfl fun Q hQ hQ2 => ?_; rw [Tryz.ntmps77]; simp only [u, i64, Nat.reduceSub, Nat.reduceAdd, bm]
    repeat (first | ((first | refine Gs ?_ | refine Gr ?_); simp (disch := omega) only [u, i64, ax, eq_self, if_true, if_false, Nat.reduceAdd, Int.reduceToNat, Int.reduceAdd, tvs, bs]; refine aA ?_) | refine G_seq ?_ | refine G_block ?_ | refine G_condT rfl ?_ | refine G_condF rfl ?_ | refine G_skip ?_ | refine G_ret ?_ | refine G_exit ?_ | refine q_tn ?_ | refine q_tr ?_ | refine q_tx ?_ | refine q_bn ?_ | refine q_br ?_ | refine q_bx ?_ | refine q_by (by decide) ?_)
    refine AWp_loop (fun _ : Unit => mk 42 [(0, .agg [i64 k, i64 p]), (1, .emp), (2, .ptr 0 0 0), (4, i64 0), (5, i64 0)] [⟨0, true, [i64 k, i64 p]⟩]) (fun _ => True) (fun _ => 0) () ?_ trivial ?_
    · simp only [u, i64, Nat.reduceSub, Nat.reduceAdd, bm]
    intro _ _
    simp only [u, i64, Nat.reduceSub, Nat.reduceAdd, bm]
    repeat (first | ((first | refine Gs ?_ | refine Gr ?_); simp (disch := omega) only [u, i64, ax, eq_self, if_true, if_false, Nat.reduceAdd, Int.reduceToNat, Int.reduceAdd, tvs, bs]; first | refine aA ?_ | (refine cR hR ?_; simp (disch := omega) only [u, i64, ax, eq_self, if_true, if_false, Nat.reduceAdd, Int.reduceToNat, Int.reduceAdd, tvs, bs]; try refine aA ?_)) | (refine cR hR ?_; simp (disch := omega) only [u, i64, ax, eq_self, if_true, if_false, Nat.reduceAdd, Int.reduceToNat, Int.reduceAdd, tvs, bs]; try refine aA ?_) | refine G_seq ?_ | refine G_block ?_ | refine G_condT rfl ?_ | refine G_condF rfl ?_ | refine G_skip ?_ | refine G_ret ?_ | refine G_exit ?_ | refine q_tn ?_ | refine q_tr ?_ | refine q_tx ?_ | refine q_bn ?_ | refine q_br ?_ | refine q_bx ?_ | refine q_by (by decide) ?_)
    (refine FinQ hQ (congrArg Array.toList Tryz.results77) _ _ ?_); simp (disch := omega) only [u, i64, ax, if_true, forall_const, reduceCtorEq, implies_true, tvs, bf]
set_option maxRecDepth 100000 in
set_option maxHeartbeats 2000000 in
theorem ret_Bits (xs : List Nat) (hx : Wd xs) (hl : xs.length ≤ 1000000) : Ret Tryz.prog GEs 174 [ws xs] (.tup [i64 (bitsI (val xs) (bl (val xs)) 0).1, i64 (bitsI (val xs) (bl (val xs)) 0).2]) := by
  have hL := ret_rLen xs hx (by omega)
  have hb := bl_valL hx
  have hBt := fun i (hi : i ≤ 64000000) => ret_rBit xs i hx (by omega) (by omega)
  have htop := bitsI_top (val xs)
  have hst := bitsI_step (val xs) (bl (val xs))
  have hbd : ∀ j, j ≤ bl (val xs) → (bitsI (val xs) (bl (val xs)) j).1 ≤ 64000000 ∧ (bitsI (val xs) (bl (val xs)) j).2 ≤ bl (val xs) - j := fun j hj => by
    obtain ⟨k, hk⟩ : ∃ k, j + k = bl (val xs) := ⟨bl (val xs) - j, by omega⟩
    induction k generalizing j with
    | zero => rw [show j = bl (val xs) by omega, htop]; exact ⟨by omega, by omega⟩
    | succ k ih =>
      obtain ⟨h1, h2⟩ := ih (j + 1) (by omega) (by omega)
      rw [hst j (by omega)]
      split
      · exact ⟨by show j ≤ _; omega, by show _ + 1 ≤ _; omega⟩
      · exact ⟨h1, by omega⟩
  generalize bl (val xs) = L at *
  generalize val xs = n at *
  refine RetN_start Tryz.func174 (by kernel_rfl) rfl fun Q hQ hQ2 => ?_; rw [Tryz.ntmps174]; simp only [u, i64, Nat.reduceSub, Nat.reduceAdd, bm]
  repeat (first | ((first | refine Gs ?_ | refine Gr ?_); simp (disch := omega) only [u, i64, ax, eq_self, if_true, if_false, Nat.reduceAdd, Int.reduceToNat, Int.reduceAdd, tvs, bs]; first | refine aA ?_ | (refine cR hL ?_; simp (disch := omega) only [u, i64, ax, eq_self, if_true, if_false, Nat.reduceAdd, Int.reduceToNat, Int.reduceAdd, tvs, bs]; try refine aA ?_)) | (refine cR hL ?_; simp (disch := omega) only [u, i64, ax, eq_self, if_true, if_false, Nat.reduceAdd, Int.reduceToNat, Int.reduceAdd, tvs, bs]; try refine aA ?_) | refine G_seq ?_ | refine G_block ?_ | refine G_condT rfl ?_ | refine G_condF rfl ?_ | refine G_skip ?_ | refine G_ret ?_ | refine G_exit ?_ | refine q_tn ?_ | refine q_tr ?_ | refine q_tx ?_ | refine q_bn ?_ | refine q_br ?_ | refine q_bx ?_ | refine q_by (by decide) ?_)
  refine AWp_loop (fun j : Nat => mk 22 [(0, ws xs), (2, i64 0), (3, i64 0), (4, i64 (bitsI n L j).1), (5, i64 (bitsI n L j).2), (6, i64 ((j : Int) - 1))] []) (fun j => j ≤ L) (fun j => j) L ?_ (Nat.le_refl _) ?_
  · rw [htop]
    simp only [u, i64, Nat.reduceSub, Nat.reduceAdd, bm]
  intro j hj
  simp only [u, i64, Nat.reduceSub, Nat.reduceAdd, bm]
  cases j with
  | zero =>
    repeat (first | ((first | refine Gs ?_ | refine Gr ?_); simp (disch := omega) only [u, i64, ax, eq_self, if_true, if_false, Nat.reduceAdd, Int.reduceToNat, Int.reduceAdd, tvs, bs]; refine aA ?_) | refine G_seq ?_ | refine G_block ?_ | refine G_condT rfl ?_ | refine G_condF rfl ?_ | refine G_skip ?_ | refine G_ret ?_ | refine G_exit ?_ | refine q_tn ?_ | refine q_tr ?_ | refine q_tx ?_ | refine q_bn ?_ | refine q_br ?_ | refine q_bx ?_ | refine q_by (by decide) ?_)
    (refine FinQ hQ (congrArg Array.toList Tryz.results174) _ _ ?_); simp (disch := omega) only [u, i64, ax, if_true, forall_const, reduceCtorEq, implies_true, tvs, bf]
  | succ j =>
    have hB := hBt j (by omega)
    obtain ⟨b1, b2⟩ := hbd (j + 1) hj
    have hs := hst j (by omega)
    rw [show ((j + 1 : Nat) : Int) - 1 = (j : Int) by omega]
    by_cases ho : n / 2 ^ j % 2 = 1
    · rw [decT ho] at hB
      rw [if_pos ho] at hs
      repeat (first | ((first | refine Gs ?_ | refine Gr ?_); simp (disch := omega) only [u, i64, ax, eq_self, if_true, if_false, Nat.reduceAdd, Int.reduceToNat, Int.reduceAdd, tvs, bs]; first | refine aA ?_ | (refine cR hB ?_; simp (disch := omega) only [u, i64, ax, eq_self, if_true, if_false, Nat.reduceAdd, Int.reduceToNat, Int.reduceAdd, tvs, bs]; try refine aA ?_)) | (refine cR hB ?_; simp (disch := omega) only [u, i64, ax, eq_self, if_true, if_false, Nat.reduceAdd, Int.reduceToNat, Int.reduceAdd, tvs, bs]; try refine aA ?_) | refine G_seq ?_ | refine G_block ?_ | refine G_condT rfl ?_ | refine G_condF rfl ?_ | refine G_skip ?_ | refine G_ret ?_ | refine G_exit ?_ | refine q_tn ?_ | refine q_tr ?_ | refine q_tx ?_ | refine q_bn ?_ | refine q_br ?_ | refine q_bx ?_ | refine q_by (by decide) ?_)
      refine ⟨j, ?_, by omega, by omega⟩
      rw [hs]
      simp only [u, i64, Nat.reduceSub, Nat.reduceAdd, bm]
    · rw [decF ho] at hB
      rw [if_neg ho] at hs
      repeat (first | ((first | refine Gs ?_ | refine Gr ?_); simp (disch := omega) only [u, i64, ax, eq_self, if_true, if_false, Nat.reduceAdd, Int.reduceToNat, Int.reduceAdd, tvs, bs]; first | refine aA ?_ | (refine cR hB ?_; simp (disch := omega) only [u, i64, ax, eq_self, if_true, if_false, Nat.reduceAdd, Int.reduceToNat, Int.reduceAdd, tvs, bs]; try refine aA ?_)) | (refine cR hB ?_; simp (disch := omega) only [u, i64, ax, eq_self, if_true, if_false, Nat.reduceAdd, Int.reduceToNat, Int.reduceAdd, tvs, bs]; try refine aA ?_) | refine G_seq ?_ | refine G_block ?_ | refine G_condT rfl ?_ | refine G_condF rfl ?_ | refine G_skip ?_ | refine G_ret ?_ | refine G_exit ?_ | refine q_tn ?_ | refine q_tr ?_ | refine q_tx ?_ | refine q_bn ?_ | refine q_br ?_ | refine q_bx ?_ | refine q_by (by decide) ?_)
      refine ⟨j, ?_, by omega, by omega⟩
      rw [hs]
      simp only [u, i64, Nat.reduceSub, Nat.reduceAdd, bm]
end Go.Proofs
set_option linter.unusedVariables false
set_option linter.unusedSimpArgs false
namespace Go.Proofs
open Go.Ax
set_option maxRecDepth 100000 in
set_option maxHeartbeats 1000000 in
theorem ret_odd (kd : Int) (neg : Bool) (e : Int) (xs : List Nat) (hx : Wd xs) (hl : xs.length ≤ 1000000) (h0 : val xs ≠ 0) (h1 : -1099511627776 ≤ e) (h2 : e ≤ 1099511627776) :
    Ret Tryz.prog GEs 85 [.agg [i64 kd, .bool neg, i64 e, ws xs]] (.tup [nat (val xs / 2 ^ tz (val xs)), i64 (e + tz (val xs))]) := by
  have hB := ret_Bits xs hx hl
  rw [bitsI_zero _ h0] at hB
  have hb := bl_valL hx
  have ht := tz_le_bl (val xs)
  have hR := ret_rRight xs (tz (val xs)) hx (by omega) (by omega)
  refine RetN_start Tryz.func85 (by kernel_rfl) rfl fun Q hQ hQ2 => ?_; rw [Tryz.ntmps85]; simp only [u, i64, Nat.reduceSub, Nat.reduceAdd, bm]
  repeat (first | ((first | refine Gs ?_ | refine Gr ?_); simp (disch := omega) only [u, i64, ax, eq_self, if_true, if_false, Nat.reduceAdd, Int.reduceToNat, Int.reduceAdd, tvs, bs]; first | refine aA ?_ | ((first | refine cR hB ?_ | refine cR hR ?_); simp (disch := omega) only [u, i64, ax, eq_self, if_true, if_false, Nat.reduceAdd, Int.reduceToNat, Int.reduceAdd, tvs, bs]; try refine aA ?_)) | ((first | refine cR hB ?_ | refine cR hR ?_); simp (disch := omega) only [u, i64, ax, eq_self, if_true, if_false, Nat.reduceAdd, Int.reduceToNat, Int.reduceAdd, tvs, bs]; try refine aA ?_) | refine G_seq ?_ | refine G_block ?_ | refine G_condT rfl ?_ | refine G_condF rfl ?_ | refine G_skip ?_ | refine G_ret ?_ | refine G_exit ?_ | refine q_tn ?_ | refine q_tr ?_ | refine q_tx ?_ | refine q_bn ?_ | refine q_br ?_ | refine q_bx ?_ | refine q_by (by decide) ?_)
  (refine FinQ hQ (congrArg Array.toList Tryz.results85) _ _ ?_); simp (disch := omega) only [u, i64, ax, if_true, forall_const, reduceCtorEq, implies_true, tvs, bf]
set_option maxRecDepth 100000 in
set_option maxHeartbeats 1000000 in
theorem ret_Good15 (neg : Bool) (e : Int) (xs : List Nat) (hx : Wd xs) (hl : xs.length ≤ 10000) (h0 : val xs ≠ 0) (h1 : -300000 ≤ e) (h2 : e ≤ 300000) :
    Ret Tryz.prog GEs 25 [.agg [i64 1, .bool neg, i64 e, ws xs]] (.bool true) := by
  have hO := ret_odd 1 neg e xs hx (by omega) h0 (by omega) (by omega)
  have hZ := ret_rIsZero xs hx (by omega)
  rw [decF h0] at hZ
  have hb := bl_valL hx
  have ht := tz_le_bl (val xs)
  refine RetN_start Tryz.func25 (by kernel_rfl) rfl fun Q hQ hQ2 => ?_; rw [Tryz.ntmps25]; simp only [u, i64, Nat.reduceSub, Nat.reduceAdd, bm]
  repeat (first | ((first | refine Gs ?_ | refine Gr ?_); simp (disch := omega) only [u, i64, ax, eq_self, if_true, if_false, Nat.reduceAdd, Int.reduceToNat, Int.reduceAdd, tvs, bs]; first | refine aA ?_ | ((first | refine cR hZ ?_ | refine cR hO ?_); simp (disch := omega) only [u, i64, ax, eq_self, if_true, if_false, Nat.reduceAdd, Int.reduceToNat, Int.reduceAdd, tvs, bs]; try refine aA ?_)) | ((first | refine cR hZ ?_ | refine cR hO ?_); simp (disch := omega) only [u, i64, ax, eq_self, if_true, if_false, Nat.reduceAdd, Int.reduceToNat, Int.reduceAdd, tvs, bs]; try refine aA ?_) | refine G_seq ?_ | refine G_block ?_ | refine G_condT rfl ?_ | refine G_condF rfl ?_ | refine G_skip ?_ | refine G_ret ?_ | refine G_exit ?_ | refine q_tn ?_ | refine q_tr ?_ | refine q_tx ?_ | refine q_bn ?_ | refine q_br ?_ | refine q_bx ?_ | refine q_by (by decide) ?_)
  (refine FinQ hQ (congrArg Array.toList Tryz.results25) _ _ ?_); simp (disch := omega) only [u, i64, ax, if_true, forall_const, reduceCtorEq, implies_true, tvs, bf]
/-- The canonical float of a right one. -/
def canF (x : FV) : FV := if x.kind = 1 then mkF x.neg x.mag x.exp else ⟨x.kind, x.neg, 0, 0⟩
/-- Two floats are the same. -/
def eqF (x y : FV) : Bool := decide (x.kind = y.kind ∧ x.neg = y.neg ∧ x.exp = y.exp ∧ x.mag = y.mag)
theorem ret_Their (x : FV) : Ret Tryz.prog GEs 26 [flv x] (flv x) := by
  unfold flv
  refine RetN_start Tryz.func26 (by kernel_rfl) rfl fun Q hQ hQ2 => ?_; rw [Tryz.ntmps26]; simp only [u, i64, Nat.reduceSub, Nat.reduceAdd, bm]
  repeat (first | ((first | refine Gs ?_ | refine Gr ?_); simp (disch := omega) only [u, i64, ax, eq_self, if_true, if_false, Nat.reduceAdd, Int.reduceToNat, Int.reduceAdd, tvs, bs]; refine aA ?_) | refine G_seq ?_ | refine G_block ?_ | refine G_condT rfl ?_ | refine G_condF rfl ?_ | refine G_skip ?_ | refine G_ret ?_ | refine G_exit ?_ | refine q_tn ?_ | refine q_tr ?_ | refine q_tx ?_ | refine q_bn ?_ | refine q_br ?_ | refine q_bx ?_ | refine q_by (by decide) ?_)
  (refine FinQ hQ (congrArg Array.toList Tryz.results26) _ _ ?_); simp (disch := omega) only [u, i64, ax, if_true, forall_const, reduceCtorEq, implies_true, tvs, bf]
  all_goals rfl
theorem ret_Fmt (k p : Int) : Ret Tryz.prog GEs 22 [.agg [i64 k, i64 p]] (.agg [i64 k, i64 p]) := by
  refine RetN_start Tryz.func22 (by kernel_rfl) rfl fun Q hQ hQ2 => ?_; rw [Tryz.ntmps22]; simp only [u, i64, Nat.reduceSub, Nat.reduceAdd, bm]
  repeat (first | ((first | refine Gs ?_ | refine Gr ?_); simp (disch := omega) only [u, i64, ax, eq_self, if_true, if_false, Nat.reduceAdd, Int.reduceToNat, Int.reduceAdd, tvs, bs]; refine aA ?_) | refine G_seq ?_ | refine G_block ?_ | refine G_condT rfl ?_ | refine G_condF rfl ?_ | refine G_skip ?_ | refine G_ret ?_ | refine G_exit ?_ | refine q_tn ?_ | refine q_tr ?_ | refine q_tx ?_ | refine q_bn ?_ | refine q_br ?_ | refine q_bx ?_ | refine q_by (by decide) ?_)
  (refine FinQ hQ (congrArg Array.toList Tryz.results22) _ _ ?_); simp (disch := omega) only [u, i64, ax, if_true, forall_const, reduceCtorEq, implies_true, tvs, bf]
end Go.Proofs
set_option linter.unusedVariables false
namespace Go.Proofs
open Go.Ax
theorem tz_odd (k : Nat) : tz (2 * k + 1) = 0 := by
  have := tz_of 0 k
  rwa [Nat.pow_zero, Nat.one_mul] at this
theorem mkF_oddS (neg : Bool) (k : Nat) (e : Int) : mkF neg (2 * k + 1) e = ⟨1, neg, e, 2 * k + 1⟩ := by
  have := mkF_odd neg k 0 e
  rwa [Nat.pow_zero, Nat.mul_one, Int.natCast_zero, Int.add_zero] at this
end Go.Proofs
set_option linter.unusedVariables false
set_option linter.unusedSimpArgs false
namespace Go.Proofs
open Go.Ax
theorem ret_args16 (r k p : Int) (h1 : -9223372036854775808 ≤ r) (h2 : r < 9223372036854775808) (neg : Bool) (ns dn : List Nat) (hn : Wd ns) (hd : Wd dn) (hln : ns.length ≤ 34359738368) (hld : dn.length ≤ 34359738368) :
    Ret Tryz.prog GEs 19 [.agg [i64 k, i64 p], i64 r, .lst 1 [.bool neg, ws ns, ws dn]] (i64 (errR r k p ns.length dn.length (val dn) : Nat)) := by
  have hA := ret_Args r h1 h2 neg ns dn hn hd hln hld
  have hF := ret_Fmt k p
  have hC := ret_Check15 k p
  unfold errR
  by_cases h0 : errQ r ns.length dn.length (val dn) = 0
  · rw [if_neg (not_not_intro h0)]
    rw [h0] at hA
    by_cases hf : okFm k p
    · rw [if_pos hf] at hC ⊢
      refine RetN_start Tryz.func19 (by kernel_rfl) rfl fun Q hQ hQ2 => ?_; rw [Tryz.ntmps19]; simp only [u, i64, Nat.reduceSub, Nat.reduceAdd, bm]
      repeat (first | ((first | refine Gs ?_ | refine Gr ?_); simp (disch := omega) only [u, i64, ax, eq_self, if_true, if_false, Nat.reduceAdd, Int.reduceToNat, Int.reduceAdd, tvs, bs]; first | refine aA ?_ | ((first | refine cR hA ?_ | refine cR hF ?_ | refine cR hC ?_); simp (disch := omega) only [u, i64, ax, eq_self, if_true, if_false, Nat.reduceAdd, Int.reduceToNat, Int.reduceAdd, tvs, bs]; try refine aA ?_)) | ((first | refine cR hA ?_ | refine cR hF ?_ | refine cR hC ?_); simp (disch := omega) only [u, i64, ax, eq_self, if_true, if_false, Nat.reduceAdd, Int.reduceToNat, Int.reduceAdd, tvs, bs]; try refine aA ?_) | refine G_seq ?_ | refine G_block ?_ | refine G_condT rfl ?_ | refine G_condF rfl ?_ | refine G_skip ?_ | refine G_ret ?_ | refine G_exit ?_ | refine q_tn ?_ | refine q_tr ?_ | refine q_tx ?_ | refine q_bn ?_ | refine q_br ?_ | refine q_bx ?_ | refine q_by (by decide) ?_)
      (refine FinQ hQ (congrArg Array.toList Tryz.results19) _ _ ?_); simp (disch := omega) only [u, i64, ax, if_true, forall_const, reduceCtorEq, implies_true, tvs, bf]
      all_goals rfl
    · rw [if_neg hf] at hC ⊢
      refine RetN_start Tryz.func19 (by kernel_rfl) rfl fun Q hQ hQ2 => ?_; rw [Tryz.ntmps19]; simp only [u, i64, Nat.reduceSub, Nat.reduceAdd, bm]
      repeat (first | ((first | refine Gs ?_ | refine Gr ?_); simp (disch := omega) only [u, i64, ax, eq_self, if_true, if_false, Nat.reduceAdd, Int.reduceToNat, Int.reduceAdd, tvs, bs]; first | refine aA ?_ | ((first | refine cR hA ?_ | refine cR hF ?_ | refine cR hC ?_); simp (disch := omega) only [u, i64, ax, eq_self, if_true, if_false, Nat.reduceAdd, Int.reduceToNat, Int.reduceAdd, tvs, bs]; try refine aA ?_)) | ((first | refine cR hA ?_ | refine cR hF ?_ | refine cR hC ?_); simp (disch := omega) only [u, i64, ax, eq_self, if_true, if_false, Nat.reduceAdd, Int.reduceToNat, Int.reduceAdd, tvs, bs]; try refine aA ?_) | refine G_seq ?_ | refine G_block ?_ | refine G_condT rfl ?_ | refine G_condF rfl ?_ | refine G_skip ?_ | refine G_ret ?_ | refine G_exit ?_ | refine q_tn ?_ | refine q_tr ?_ | refine q_tx ?_ | refine q_bn ?_ | refine q_br ?_ | refine q_bx ?_ | refine q_by (by decide) ?_)
      (refine FinQ hQ (congrArg Array.toList Tryz.results19) _ _ ?_); simp (disch := omega) only [u, i64, ax, if_true, forall_const, reduceCtorEq, implies_true, tvs, bf]
      all_goals rfl
  · rw [if_pos h0]
    generalize errQ r ns.length dn.length (val dn) = e at *
    refine RetN_start Tryz.func19 (by kernel_rfl) rfl fun Q hQ hQ2 => ?_; rw [Tryz.ntmps19]; simp only [u, i64, Nat.reduceSub, Nat.reduceAdd, bm]
    repeat (first | ((first | refine Gs ?_ | refine Gr ?_); simp (disch := omega) only [u, i64, ax, eq_self, if_true, if_false, Nat.reduceAdd, Int.reduceToNat, Int.reduceAdd, tvs, bs]; first | refine aA ?_ | (refine cR hA ?_; simp (disch := omega) only [u, i64, ax, eq_self, if_true, if_false, Nat.reduceAdd, Int.reduceToNat, Int.reduceAdd, tvs, bs]; try refine aA ?_)) | (refine cR hA ?_; simp (disch := omega) only [u, i64, ax, eq_self, if_true, if_false, Nat.reduceAdd, Int.reduceToNat, Int.reduceAdd, tvs, bs]; try refine aA ?_) | refine G_seq ?_ | refine G_block ?_ | refine G_condT rfl ?_ | refine G_condF rfl ?_ | refine G_skip ?_ | refine G_ret ?_ | refine G_exit ?_ | refine q_tn ?_ | refine q_tr ?_ | refine q_tx ?_ | refine q_bn ?_ | refine q_br ?_ | refine q_bx ?_ | refine q_by (by decide) ?_)
    (refine FinQ hQ (congrArg Array.toList Tryz.results19) _ _ ?_); simp (disch := omega) only [u, i64, ax, if_true, forall_const, reduceCtorEq, implies_true, tvs, bf]
    all_goals rfl
end Go.Proofs
set_option linter.unusedVariables false
set_option linter.unusedSimpArgs false
namespace Go.Proofs
open Go.Ax
theorem errR_same {r r' k p : Int} {nl dl v : Nat} (h : 0 ≤ r ∧ r ≤ 4) (h' : 0 ≤ r' ∧ r' ≤ 4) : errR r k p nl dl v = errR r' k p nl dl v := by
  have : errQ r nl dl v = errQ r' nl dl v := by unfold errQ; rw [if_pos h, if_pos h']
  unfold errR
  rw [this]
theorem errR_ok {r k p : Int} {nl dl v : Nat} (h : errR r k p nl dl v = 0) : v ≠ 0 ∧ nl ≤ 4096 ∧ dl ≤ 4096 ∧ (0 ≤ r ∧ r ≤ 4) ∧ okFm k p := by
  unfold errR at h
  split at h
  · rename_i h0; exact absurd h h0
  · rename_i h0
    rw [Decidable.not_not] at h0
    split at h
    · rename_i hf
      unfold errQ at h0
      split at h0
      · cases h0
      · split at h0
        · cases h0
        · split at h0
          · rename_i a b c; exact ⟨b, by omega, by omega, c, hf⟩
          · cases h0
    · cases h
end Go.Proofs
