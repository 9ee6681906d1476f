/-
  Contracts of functions of the program, each proved by a walk.
-/
import Derived.Test.YtpnljnmpocobjaaDoorX14
import Derived.Test.YtpnljnmpocobjaaDoorX8
import Derived.Test.YtpnljnmpocobjaaDoorX12
import Derived.Test.YtpnljnmpocobjaaDoorX11
import Derived.Test.YtpnljnmpocobjaaDoorX10
set_option maxRecDepth 100000
set_option linter.unusedVariables false
set_option linter.unusedSimpArgs false
namespace Go.Proofs
open Go.Ax
set_option maxRecDepth 100000 in
set_option maxHeartbeats 4000000 in
theorem ret_Divide (a b : List Nat) (ha : Ds 4294967296 a) (hb : Ds 4294967296 b) (hne : vb 4294967296 b ≠ 0) (hla : a.length ≤ 137438953472) (hlb : b.length ≤ 137438953472) :
    ∃ qs rs : List Nat, Ds 4294967296 qs ∧ Ds 4294967296 rs ∧ vb 4294967296 qs = vb 4294967296 a / vb 4294967296 b ∧ vb 4294967296 rs = vb 4294967296 a % vb 4294967296 b ∧ qs.length ≤ a.length + 2 ∧ rs.length ≤ a.length + 2 ∧
      Ret Tryd.prog GEs 161 [ws a, ws b] (.tup [ws qs, ws rs]) := by
  have htp : 0 < top b := by
    rcases Nat.eq_zero_or_pos (top b) with h | h
    · have := vb_top (K := 4294967296) b
      rw [h] at this
      exact absurd this.symm hne
    · exact h
  have hT := top_last_ne hb htp
  have hvB := vb_top (K := 4294967296) b
  have hlB : (b.take (top b)).length = top b := by rw [List.length_take, Nat.min_eq_left (top_le b)]
  have hdB := hb.take (top b)
  have hSh := ret_Short b (by omega)
  rw [← hlB] at hT
  have htl := top_le b
  obtain ⟨B, hBd⟩ : ∃ B, b.take (top b) = B := ⟨_, rfl⟩
  rw [hBd] at hT hvB hlB hdB hSh
  have hBp : 0 < B.length := by omega
  have hBl : B.length ≤ 137438953472 := by omega
  obtain ⟨y, hy⟩ : ∃ y, vb 4294967296 b = y := ⟨_, rfl⟩
  obtain ⟨x, hx⟩ : ∃ x, vb 4294967296 a = x := ⟨_, rfl⟩
  rw [hy] at hvB hne ⊢
  rw [hx]
  have hy0 : 0 < y := Nat.pos_of_ne_zero hne
  have hxl := vb_lt ha
  rw [hx] at hxl
  by_cases h1 : B.length = 1
  · have hB0 : B.getD 0 0 = y := by
      have := vb_take_getD (K := 4294967296) B 0
      rw [List.take_of_length_le (by omega), hvB] at this
      simp [vb] at this
      simp
      omega
    have hyB := hdB.getD (by decide) 0
    rw [hB0] at hyB
    have hlt2 : x / y < 4294967296 ^ a.length := Nat.lt_of_le_of_lt (Nat.div_le_self _ _) hxl
    have hmd := Nat.mod_lt x hy0
    refine ⟨wfb 4294967296 a.length (x / y), [x % y], wfb_Ds (by decide) _ _, Ds_cons (by omega) Ds_nil, vb_wfb (by decide) _ _ hlt2, one_vb _, by rw [wfb_length]; omega, by simp, ?_⟩
    have hO := ret_one a y ha hyB hy0 (by omega)
    rw [hx] at hO
    refine RetN_start Tryd.func161 (by kernel_rfl) rfl fun Q hQ hQ2 => ?_; rw [Tryd.ntmps161]; simp only [u, i64, Nat.reduceSub, Nat.reduceAdd, bm]
    repeat (first | (refine gC ?_; first | refine aA ?_ | (refine cR hSh ?_; refine sX ?_; try refine aA ?_)) | (refine cR hSh ?_; refine sX ?_; try refine aA ?_) | refine gS ?_)
    (refine gC ?_)
    rw [hB0]
    repeat (first | (refine gC ?_; first | refine aA ?_ | (refine cR hO ?_; refine sX ?_; try refine aA ?_)) | (refine cR hO ?_; refine sX ?_; try refine aA ?_) | refine gS ?_)
    (refine FinQ hQ (congrArg Array.toList Tryd.results161) _ _ ?_); simp (disch := omega) only [u, i64, ax, if_true, forall_const, reduceCtorEq, implies_true, tvs, bf]
  obtain ⟨bt, hbt⟩ : ∃ t, B.getD (B.length - 1) 0 = t := ⟨_, rfl⟩
  rw [hlB, hBd, ← hlB, hbt] at hT
  have hbtB := hdB.getD (by decide) (B.length - 1)
  rw [hbt] at hbtB
  obtain ⟨S, hS⟩ : ∃ S, 2 ^ (32 - bl bt) = S := ⟨_, rfl⟩
  obtain ⟨hS1, hS2, hS3, hS4⟩ := scale_facts hT.1 hbtB (32 - bl bt) (Nat.le_refl _)
  rw [hS] at hS1 hS2 hS3 hS4
  -- the scaled ones
  obtain ⟨W, hW⟩ : ∃ W, wfb 4294967296 (B.length + 1) (y * S) = W := ⟨_, rfl⟩
  obtain ⟨X, hX⟩ : ∃ X, wfb 4294967296 (a.length + 1) (x * S) = X := ⟨_, rfl⟩
  have hyl := vb_lt hdB
  rw [hvB] at hyl
  have hWv : vb 4294967296 W = y * S := by
    rw [← hW]; refine vb_wfb (by decide) _ _ ?_
    rw [Nat.pow_succ]; exact Nat.mul_lt_mul'' hyl (by omega)
  have hXv : vb 4294967296 X = x * S := by
    rw [← hX]; refine vb_wfb (by decide) _ _ ?_
    rw [Nat.pow_succ]; exact Nat.mul_lt_mul'' hxl (by omega)
  have hWd : Ds 4294967296 W := by rw [← hW]; exact wfb_Ds (by decide) _ _
  have hXd : Ds 4294967296 X := by rw [← hX]; exact wfb_Ds (by decide) _ _
  have hXl : X.length = a.length + 1 := by rw [← hX, wfb_length]
  have hWl : W.length = B.length + 1 := by rw [← hW, wfb_length]
  have hyS : 0 < y * S := Nat.mul_pos hy0 hS1
  have hWt : 0 < top W := by
    rcases Nat.eq_zero_or_pos (top W) with h | h
    · have := vb_top (K := 4294967296) W
      rw [h, hWv] at this
      simp [vb] at this
      omega
    · exact h
  have hTV := top_last_ne hWd hWt
  have hVge := vb_top_ge (K := 4294967296) W hWt
  have hVl : (W.take (top W)).length = top W := by rw [List.length_take, Nat.min_eq_left (top_le W)]
  have hVv : vb 4294967296 (W.take (top W)) = y * S := by rw [vb_top, hWv]
  have hVd := hWd.take (top W)
  have htW := top_le W
  rw [hWv] at hVge
  have hShV := ret_Short W (by omega)
  have hTV2 : 0 < (W.take (top W)).getD ((W.take (top W)).length - 1) 0 := by rw [hVl]; exact hTV.2
  have hVge2 : 4294967296 ^ ((W.take (top W)).length - 1) ≤ y * S := by rw [hVl]; exact hVge
  have hVpos : 0 < (W.take (top W)).length := by rw [hVl]; exact hWt
  clear hTV hVge hWt
  obtain ⟨V, hVdef⟩ : ∃ V, W.take (top W) = V := ⟨_, rfl⟩
  rw [hVdef] at hVl hVv hVd hShV hTV2 hVge2 hVpos
  have hVle : V.length ≤ W.length := by omega
  have hTa := retF_Times a [S] ha (Ds_cons (by omega) Ds_nil) (by omega) (by simp)
  rw [one_vb, hx] at hTa
  have hTa2 : RetF Tryd.prog GEs 155 [ws a, ws [S]] (us X) := by rw [← hX]; exact hTa
  have hTb := ret_Times B [S] hdB (Ds_cons (by omega) Ds_nil) (by omega) (by simp)
  rw [one_vb, hvB] at hTb
  have hTb2 : Ret Tryd.prog GEs 155 [ws B, ws [S]] (ws W) := by rw [← hW]; exact hTb
  clear hTa hTb
  have hdiv : x * S / (y * S) = x / y := Nat.mul_div_mul_right _ _ hS1
  have hmod : x * S % (y * S) = x % y * S := Nat.mul_mod_mul_right _ _ _
  have hR : x % y * S < 4294967296 ^ (a.length + 2) := by
    have := vb_lt hXd
    rw [hXv, hXl] at this
    exact Nat.lt_of_le_of_lt (Nat.mul_le_mul_right _ (Nat.mod_le _ _)) (Nat.lt_of_lt_of_le this (Nat.pow_le_pow_right (by decide) (by omega)))
  obtain ⟨r, hr⟩ : ∃ r, (wfb 4294967296 (a.length + 2) (x % y * S)).take (top (wfb 4294967296 (a.length + 2) (x % y * S))) = r := ⟨_, rfl⟩
  have hrd : Ds 4294967296 r := by rw [← hr]; exact (wfb_Ds (by decide) _ _).take _
  have hrv : vb 4294967296 r = x % y * S := by rw [← hr, vb_top, vb_wfb (by decide) _ _ hR]
  have hrl : r.length ≤ a.length + 2 := by rw [← hr, List.length_take, wfb_length]; omega
  have hrlt := vb_lt hrd
  rw [hrv] at hrlt
  have hq1 : x / y < 4294967296 ^ (a.length + 2 - V.length) := by
    rcases Nat.lt_or_ge (a.length + 2) V.length with h | h
    · have h3 := vb_lt hXd
      rw [hXv, hXl] at h3
      have h4 : 4294967296 ^ (a.length + 1) ≤ 4294967296 ^ (V.length - 1) := Nat.pow_le_pow_right (by decide) (by omega)
      rw [← hdiv, Nat.div_eq_of_lt (by omega)]
      exact Nat.pow_pos (by decide)
    · rw [← hdiv, Nat.div_lt_iff_lt_mul hyS]
      have h3 := vb_lt hXd
      rw [hXv, hXl] at h3
      have h4 := Nat.mul_le_mul_left (4294967296 ^ (a.length + 2 - V.length)) hVge2
      rw [← Nat.pow_add, show a.length + 2 - V.length + (V.length - 1) = a.length + 1 by omega] at h4
      omega
  have hd1 : x % y < 4294967296 ^ r.length := Nat.lt_of_le_of_lt (Nat.le_mul_of_pos_right _ hS1) hrlt
  refine ⟨wfb 4294967296 (a.length + 2 - V.length) (x / y), wfb 4294967296 r.length (x % y), wfb_Ds (by decide) _ _, wfb_Ds (by decide) _ _, vb_wfb (by decide) _ _ hq1, vb_wfb (by decide) _ _ hd1, by rw [wfb_length]; omega, by rw [wfb_length]; exact hrl, ?_⟩
  have hwalk := ret_Divide_walk a b B V X W r S (y * S) (x * S) bt _ hSh (by omega) (by omega) hbt hT.1 hbtB hS hS1 hS2 hTa2 hTb2 hShV hXl hla hXd hXv hVd hVv hVpos (by omega) rfl hTV2 hVge2 hyS (by rw [hmod]; exact hr) hrd (by rw [hmod]; exact hrv) hrl
  rw [hdiv, hmod, Nat.mul_div_cancel _ hS1] at hwalk
  exact hwalk
end Go.Proofs
set_option linter.unusedVariables false
set_option linter.unusedSimpArgs false
namespace Go.Proofs
open Go.Ax
set_option maxRecDepth 100000 in
theorem ret_rWord (w : Nat) (hw : w < 18446744073709551616) : Ret Tryd.prog GEs 162 [u w] (ws [w % 4294967296, w / 4294967296]) := by
  have h2 : w / 4294967296 < 18446744073709551616 := by omega
  refine RetN_start Tryd.func162 (by kernel_rfl) rfl fun Q hQ hQ2 => ?_; rw [Tryd.ntmps162]; simp only [u, i64, Nat.reduceSub, Nat.reduceAdd, bm]
  (refine gO ?_)
  (refine FinQ hQ (congrArg Array.toList Tryd.results162) _ _ ?_); simp (disch := omega) only [u, i64, ax, if_true, forall_const, reduceCtorEq, implies_true, tvs, bf]
  rfl
set_option maxRecDepth 100000 in
theorem ret_rTrim (xs : List Nat) (hx : Wd xs) (hl : xs.length ≤ 34359738368) : Ret Tryd.prog GEs 105 [ws xs] (nat (val xs)) := by
  refine RetN_start Tryd.func105 (by kernel_rfl) rfl fun Q hQ hQ2 => ?_; rw [Tryd.ntmps105]; simp only [u, i64, Nat.reduceSub, Nat.reduceAdd, bm]
  (refine gO ?_)
  (refine gC ?_)
  (refine cR (ret_Digits xs hx (by omega)) ?_; refine sX ?_; try refine aA ?_)
  (refine cR (ret_nat (digs xs) (digs_Ds hx) (by rw [digs_length]; omega)) ?_; refine sX ?_; try refine aA ?_)
  rw [digs_val]
  (refine gO ?_)
  (refine FinQ hQ (congrArg Array.toList Tryd.results105) _ _ ?_); simp (disch := omega) only [u, i64, ax, if_true, forall_const, reduceCtorEq, implies_true, tvs, bf]
set_option maxRecDepth 100000 in
theorem ret_rFromWord (w : Nat) (hw : w < 18446744073709551616) : Ret Tryd.prog GEs 119 [u w] (nat w) := by
  refine RetN_start Tryd.func119 (by kernel_rfl) rfl fun Q hQ hQ2 => ?_; rw [Tryd.ntmps119]; simp only [u, i64, Nat.reduceSub, Nat.reduceAdd, bm]
  (refine gO ?_)
  (refine gC ?_)
  (refine cR (ret_rWord w hw) ?_; refine sX ?_; try refine aA ?_)
  (refine cR (ret_nat [w % 4294967296, w / 4294967296] (Ds_cons (by omega) (Ds_cons (by omega) Ds_nil)) (by simp)) ?_; refine sX ?_; try refine aA ?_)
  rw [show vb 4294967296 [w % 4294967296, w / 4294967296] = w by simp only [vb]; omega]
  (refine gO ?_)
  (refine FinQ hQ (congrArg Array.toList Tryd.results119) _ _ ?_); simp (disch := omega) only [u, i64, ax, if_true, forall_const, reduceCtorEq, implies_true, tvs, bf]
/-- What the bits below the i-th one say: zeros ahead, zeros behind, ones. -/
def cntS (w : Nat) : Nat → Nat × Nat × Nat
  | 0 => (64, 64, 0)
  | i + 1 => if w / 2 ^ i % 2 = 1 then (63 - i, min (cntS w i).2.1 i, (cntS w i).2.2 + 1) else cntS w i
theorem mod_two_pow_succ (w i : Nat) : w % 2 ^ (i + 1) = w % 2 ^ i + 2 ^ i * (w / 2 ^ i % 2) := by
  rw [Nat.pow_succ, Nat.mod_mul]
theorem cntS_lead (w : Nat) : ∀ i, i ≤ 64 → (cntS w i).1 = 64 - bl (w % 2 ^ i)
  | 0, _ => by simp [cntS, bl, Nat.mod_one]
  | i + 1, h => by
    have ih := cntS_lead w i (by omega)
    have hm := mod_two_pow_succ w i
    have hlt := Nat.mod_lt w (Nat.two_pow_pos i)
    simp only [cntS]
    by_cases hb : w / 2 ^ i % 2 = 1
    · rw [if_pos hb]
      have : bl (w % 2 ^ (i + 1)) = i + 1 := bl_eq (by rw [hm, hb]; omega) (Nat.mod_lt _ (Nat.two_pow_pos _))
      rw [this]; simp only; omega
    · have h0 : w / 2 ^ i % 2 = 0 := by omega
      rw [if_neg hb, ih, hm, h0, Nat.mul_zero, Nat.add_zero]
theorem cntS_bd (w : Nat) : ∀ i, (cntS w i).1 ≤ 64 ∧ (cntS w i).2.1 ≤ 64 ∧ (cntS w i).2.2 ≤ i
  | 0 => by simp [cntS]
  | i + 1 => by
    have := cntS_bd w i
    simp only [cntS]
    split <;> (try simp only) <;> omega
set_option maxRecDepth 100000 in
theorem ret_Count (w : Nat) (hw : w < 18446744073709551616) : Ret Tryd.prog GEs 140 [u w] (.tup [i64 (cntS w 64).1, i64 (cntS w 64).2.1, i64 (cntS w 64).2.2]) := by
  refine RetN_start Tryd.func140 (by kernel_rfl) rfl fun Q hQ hQ2 => ?_; rw [Tryd.ntmps140]; simp only [u, i64, Nat.reduceSub, Nat.reduceAdd, bm]
  (refine gO ?_)
  refine AWp_loop (fun i : Nat => mk 28 [(0, u w), (5, i64 (cntS w i).1), (6, i64 (cntS w i).2.1), (7, i64 (cntS w i).2.2), (8, i64 i)] []) (fun i => i ≤ 64) (fun i => 64 - i) 0 ?_ (Nat.zero_le _) fun i hi => ?_
  · show leS _ (mk 28 [(0, u w), (5, i64 (64 : Nat)), (6, i64 (64 : Nat)), (7, i64 (0 : Nat)), (8, i64 (0 : Nat))] [])
    simp only [u, i64, Nat.reduceSub, Nat.reduceAdd, bm]
  have hbd := cntS_bd w i
  simp only [u, i64, Nat.reduceSub, Nat.reduceAdd, bm]
  by_cases h : i < 64
  · have hq : w / 2 ^ i < 18446744073709551616 := Nat.lt_of_le_of_lt (Nat.div_le_self _ _) hw
    by_cases hb : w / 2 ^ i % 2 = 1
    · have e : cntS w (i + 1) = (63 - i, min (cntS w i).2.1 i, (cntS w i).2.2 + 1) := by simp only [cntS]; rw [if_pos hb]
      (refine gO ?_)
      refine ⟨i + 1, ?_, h, by omega⟩
      simp only [e]
      simp only [u, i64, Nat.reduceSub, Nat.reduceAdd, bm]
    · have e : cntS w (i + 1) = cntS w i := by simp only [cntS]; rw [if_neg hb]
      (refine gO ?_)
      refine ⟨i + 1, ?_, h, by omega⟩
      simp only [e]
      simp only [u, i64, Nat.reduceSub, Nat.reduceAdd, bm]
  · have hi64 : i = 64 := by omega
    subst hi64
    (refine gO ?_)
    (refine FinQ hQ (congrArg Array.toList Tryd.results140) _ _ ?_); simp (disch := omega) only [u, i64, ax, if_true, forall_const, reduceCtorEq, implies_true, tvs, bf]
theorem bl_val (xs : List Nat) (hx : Wd xs) (n : Nat) (hn : top xs = n + 1) : bl (val xs) = 64 * n + bl (xs.getD n 0) := by
  have hw := top_spec xs hx
  have htl := top_le xs
  have hv : val xs ≠ 0 := fun h0 => by
    rw [h0, words_zero, hn] at hw
    have := congrArg List.length hw
    simp at this
    omega
  have := (bl_words (val xs) hv).1
  rw [hw, List.length_take, hn, Nat.min_eq_left (by omega), Nat.add_sub_cancel] at this
  rw [this]
  congr 2
  simp [List.getD_eq_getElem?_getD, List.getElem?_take]
theorem val_top0 (xs : List Nat) (h : top xs = 0) : val xs = 0 := by
  have := top_take xs
  rw [h] at this
  exact this.symm
set_option maxRecDepth 100000 in
theorem ret_rLen (xs : List Nat) (hx : Wd xs) (hl : xs.length ≤ 34359738368) : Ret Tryd.prog GEs 76 [ws xs] (i64 (bl (val xs))) := by
  refine RetN_start Tryd.func76 (by kernel_rfl) rfl fun Q hQ hQ2 => ?_; rw [Tryd.ntmps76]; simp only [u, i64, Nat.reduceSub, Nat.reduceAdd, bm]
  (refine gO ?_)
  refine AWp_loop (fun n : Nat => mk 33 [(0, ws xs), (3, i64 ((n : Int) - 1))] []) (fun n => top xs ≤ n ∧ n ≤ xs.length) (fun n => n) xs.length ?_ ⟨top_le xs, Nat.le_refl _⟩ fun n hn => ?_
  · simp only [u, i64, Nat.reduceSub, Nat.reduceAdd, bm]
  simp only [u, i64, Nat.reduceSub, Nat.reduceAdd, bm]
  by_cases h : 1 ≤ n
  · obtain ⟨m, rfl⟩ : ∃ m, n = m + 1 := ⟨n - 1, by omega⟩
    simp only [Int.natCast_add, Int.natCast_one, Int.add_sub_cancel]
    have hw := hx.getD m
    by_cases h0 : xs.getD m 0 = 0
    · have := top_zero xs (m + 1) hn.1 hn.2 h (by simpa using h0)
      (refine gO ?_)
      refine ⟨m, ?_, ⟨by omega, by omega⟩, by omega⟩
      simp only [u, i64, Nat.reduceSub, Nat.reduceAdd, bm]
    · have ht := top_last xs (m + 1) hn.1 hn.2 h (by simpa using h0)
      have hb := bl_val xs hx m ht
      have hc := cntS_lead (xs.getD m 0) 64 (Nat.le_refl _)
      rw [Nat.mod_eq_of_lt (show xs.getD m 0 < 2 ^ 64 from hw)] at hc
      have hb2 := bl_le (n := xs.getD m 0) (k := 64) hw
      repeat (first | (refine gC ?_; first | refine aA ?_ | (refine cR (ret_Count (xs.getD m 0) hw) ?_; refine sX ?_; try refine aA ?_)) | (refine cR (ret_Count (xs.getD m 0) hw) ?_; refine sX ?_; try refine aA ?_) | refine gS ?_)
      (refine FinQ hQ (congrArg Array.toList Tryd.results76) _ _ ?_); simp (disch := omega) only [u, i64, ax, if_true, forall_const, reduceCtorEq, implies_true, tvs, bf]
      rw [hb, hc]
      congr 1
      omega
  · have hn0 : n = 0 := by omega
    have hv := val_top0 xs (by omega)
    subst hn0
    (refine gO ?_)
    (refine FinQ hQ (congrArg Array.toList Tryd.results76) _ _ ?_); simp (disch := omega) only [u, i64, ax, if_true, forall_const, reduceCtorEq, implies_true, tvs, bf, hv]
    rfl
theorem bl_zero (n : Nat) : (((bl n : Nat) : Int) == 0) = decide (n = 0) := by
  by_cases h : n = 0
  · subst h; rfl
  · have := (bl_spec h).2.2
    rw [decide_eq_false h]; exact beqF (by omega)
set_option maxRecDepth 100000 in
theorem ret_rIsZero (xs : List Nat) (hx : Wd xs) (hl : xs.length ≤ 34359738368) : Ret Tryd.prog GEs 65 [ws xs] (.bool (decide (val xs = 0))) := by
  refine RetN_start Tryd.func65 (by kernel_rfl) rfl fun Q hQ hQ2 => ?_; rw [Tryd.ntmps65]; simp only [u, i64, Nat.reduceSub, Nat.reduceAdd, bm]
  repeat (first | (refine gC ?_; first | refine aA ?_ | (refine cR (ret_rLen xs hx hl) ?_; refine sX ?_; try refine aA ?_)) | (refine cR (ret_rLen xs hx hl) ?_; refine sX ?_; try refine aA ?_) | refine gS ?_)
  (refine FinQ hQ (congrArg Array.toList Tryd.results65) _ _ ?_); simp (disch := omega) only [u, i64, ax, if_true, forall_const, reduceCtorEq, implies_true, tvs, bf]
  rw [bl_zero]
set_option maxRecDepth 100000 in
theorem ret_rLarge (xs : List Nat) (hl : xs.length ≤ 34359738368) : Ret Tryd.prog GEs 106 [ws xs] (.bool (decide (4096 < xs.length))) := by
  refine RetN_start Tryd.func106 (by kernel_rfl) rfl fun Q hQ hQ2 => ?_; rw [Tryd.ntmps106]; simp only [u, i64, Nat.reduceSub, Nat.reduceAdd, bm]
  by_cases h : 4096 < xs.length
  · (refine gO ?_)
    (refine FinQ hQ (congrArg Array.toList Tryd.results106) _ _ ?_); simp (disch := omega) only [u, i64, ax, if_true, forall_const, reduceCtorEq, implies_true, tvs, bf, decT h]
  · (refine gO ?_)
    (refine FinQ hQ (congrArg Array.toList Tryd.results106) _ _ ?_); simp (disch := omega) only [u, i64, ax, if_true, forall_const, reduceCtorEq, implies_true, tvs, bf, decF h]
set_option maxRecDepth 100000 in
theorem ret_rDivMod (xs ys : List Nat) (hx : Wd xs) (hy : Wd ys) (hne : val ys ≠ 0) (hlx : xs.length ≤ 34359738368) (hly : ys.length ≤ 34359738368) : Ret Tryd.prog GEs 118 [ws xs, ws ys] (.tup [nat (val xs / val ys), nat (val xs % val ys)]) := by
  obtain ⟨qs, rs, h1, h2, h3, h4, h5, h6, hD⟩ := ret_Divide (digs xs) (digs ys) (digs_Ds hx) (digs_Ds hy) (by rw [digs_val]; exact hne) (by rw [digs_length]; omega) (by rw [digs_length]; omega)
  rw [digs_val, digs_val] at h3 h4
  rw [digs_length] at h5 h6
  refine RetN_start Tryd.func118 (by kernel_rfl) rfl fun Q hQ hQ2 => ?_; rw [Tryd.ntmps118]; simp only [u, i64, Nat.reduceSub, Nat.reduceAdd, bm]
  repeat (first | (refine gC ?_; first | refine aA ?_ | ((first | refine cR (ret_Digits xs hx (by omega)) ?_ | refine cR (ret_Digits ys hy (by omega)) ?_ | refine cR hD ?_); refine sX ?_; try refine aA ?_)) | ((first | refine cR (ret_Digits xs hx (by omega)) ?_ | refine cR (ret_Digits ys hy (by omega)) ?_ | refine cR hD ?_); refine sX ?_; try refine aA ?_) | refine gS ?_)
  (refine gC ?_)
  (refine cR (ret_nat qs h1 (by omega)) ?_; refine sX ?_; try refine aA ?_)
  (refine cR (ret_nat rs h2 (by omega)) ?_; refine sX ?_; try refine aA ?_)
  rw [h3, h4]
  (refine gO ?_)
  (refine FinQ hQ (congrArg Array.toList Tryd.results118) _ _ ?_); simp (disch := omega) only [u, i64, ax, if_true, forall_const, reduceCtorEq, implies_true, tvs, bf]
end Go.Proofs
set_option linter.unusedVariables false
set_option linter.unusedSimpArgs false
namespace Go.Proofs
open Go.Ax
theorem vb_at {K : Nat} (hK : 0 < K) (xs : List Nat) (hx : Ds K xs) (j : Nat) : ∃ lo, lo < K ^ j ∧ vb K xs = lo + K ^ j * (xs.getD j 0 + K * vb K (xs.drop (j + 1))) := by
  by_cases h : j < xs.length
  · refine ⟨vb K (xs.take j), ?_, ?_⟩
    · have := vb_lt (hx.take j)
      rwa [List.length_take, Nat.min_eq_left (by omega)] at this
    · rw [← vb_drop_one xs j h]
      exact vb_drop xs j (by omega)
  · refine ⟨vb K xs, ?_, ?_⟩
    · exact Nat.lt_of_lt_of_le (vb_lt hx) (Nat.pow_le_pow_right hK (by omega))
    · rw [getD_over xs j (by omega), List.drop_of_length_le (by omega)]
      show vb K xs = vb K xs + K ^ j * (0 + K * 0)
      rw [Nat.mul_zero, Nat.zero_add, Nat.mul_zero, Nat.add_zero]
theorem vb_first {K : Nat} (hK : 0 < K) {xs ys : List Nat} (hx : Ds K xs) (hy : Ds K ys) (j : Nat) (he : vb K (xs.drop (j + 1)) = vb K (ys.drop (j + 1))) (hlt : xs.getD j 0 < ys.getD j 0) : vb K xs < vb K ys := by
  obtain ⟨a, a1, a2⟩ := vb_at hK xs hx j
  obtain ⟨b, b1, b2⟩ := vb_at hK ys hy j
  rw [a2, b2, he]
  have h1 : K ^ j * (xs.getD j 0 + K * vb K (ys.drop (j + 1)) + 1) ≤ K ^ j * (ys.getD j 0 + K * vb K (ys.drop (j + 1))) := Nat.mul_le_mul_left _ (by omega)
  rw [Nat.mul_succ] at h1
  omega
theorem vb_step {K : Nat} {xs ys : List Nat} (j : Nat) (he : vb K (xs.drop (j + 1)) = vb K (ys.drop (j + 1))) (heq : xs.getD j 0 = ys.getD j 0) : vb K (xs.drop j) = vb K (ys.drop j) := by
  have key : ∀ zs : List Nat, vb K (zs.drop j) = zs.getD j 0 + K * vb K (zs.drop (j + 1)) := fun zs => by
    by_cases h : j < zs.length
    · exact vb_drop_one zs j h
    · rw [getD_over zs j (by omega), List.drop_of_length_le (by omega), List.drop_of_length_le (by omega)]
      show 0 = 0 + K * 0
      rw [Nat.mul_zero]
  rw [key xs, key ys, he, heq]
set_option maxRecDepth 100000 in
set_option maxHeartbeats 2000000 in
theorem ret_Compare01 (xs ys : List Nat) (hx : Ds 4294967296 xs) (hy : Ds 4294967296 ys) (hl : xs.length ≤ 1099511627776) (hl2 : ys.length ≤ 1099511627776) :
    Ret Tryd.prog GEs 189 [ws xs, ws ys] (i64 (cmpI (vb 4294967296 xs) (vb 4294967296 ys))) := by
  have hd1 := fun i => ret_digit xs i hl
  have hd2 := fun i => ret_digit ys i hl2
  have hx4 := fun i => hx.getD (by decide) i
  have hy4 := fun i => hy.getD (by decide) i
  obtain ⟨M, hM⟩ : ∃ M, max xs.length ys.length = M := ⟨_, rfl⟩
  refine RetN_start Tryd.func189 (by kernel_rfl) rfl fun Q hQ hQ2 => ?_; rw [Tryd.ntmps189]; simp only [u, i64, Nat.reduceSub, Nat.reduceAdd, bm]
  (refine gO ?_)
  rw [hM]
  refine AWp_loop (fun j : Nat => mk 32 [(0, ws xs), (1, ws ys), (4, i64 0), (5, i64 ((j : Int) - 1))] []) (fun j => j ≤ M ∧ vb 4294967296 (xs.drop j) = vb 4294967296 (ys.drop j)) (fun j => j) M ?_ ⟨Nat.le_refl _, by rw [List.drop_of_length_le (by omega), List.drop_of_length_le (by omega)]⟩ ?_
  · simp only [u, i64, Nat.reduceSub, Nat.reduceAdd, bm]
  intro j hj
  simp only [u, i64, Nat.reduceSub, Nat.reduceAdd, bm]
  cases j with
  | zero =>
    have h0 : cmpI (vb 4294967296 xs) (vb 4294967296 ys) = 0 := by
      have := hj.2
      rw [List.drop_zero, List.drop_zero] at this
      rw [this]; unfold cmpI; rw [if_neg (by omega), if_neg (by omega)]
    rw [h0] at hQ
    (refine gO ?_)
    (refine FinQ hQ (congrArg Array.toList Tryd.results189) _ _ ?_); simp (disch := omega) only [u, i64, ax, if_true, forall_const, reduceCtorEq, implies_true, tvs, bf]
  | succ j =>
    have e1 := hd1 j
    have e2 := hd2 j
    have l1 := hx4 j
    have l2 := hy4 j
    have hf := vb_first (K := 4294967296) (by decide) hx hy j hj.2
    have hf2 := vb_first (K := 4294967296) (by decide) hy hx j hj.2.symm
    have hs := vb_step (K := 4294967296) (xs := xs) (ys := ys) j hj.2
    rw [show ((j + 1 : Nat) : Int) - 1 = (j : Int) by omega]
    generalize xs.getD j 0 = x at *
    generalize ys.getD j 0 = y at *
    by_cases c1 : x < y
    · have h0 : cmpI (vb 4294967296 xs) (vb 4294967296 ys) = -1 := by unfold cmpI; rw [if_pos (hf c1)]
      rw [h0] at hQ
      repeat (first | (refine gC ?_; first | refine aA ?_ | ((first | refine cR e1 ?_ | refine cR e2 ?_); refine sX ?_; try refine aA ?_)) | ((first | refine cR e1 ?_ | refine cR e2 ?_); refine sX ?_; try refine aA ?_) | refine gS ?_)
      (refine FinQ hQ (congrArg Array.toList Tryd.results189) _ _ ?_); simp (disch := omega) only [u, i64, ax, if_true, forall_const, reduceCtorEq, implies_true, tvs, bf]
    · by_cases c2 : y < x
      · have h0 : cmpI (vb 4294967296 xs) (vb 4294967296 ys) = 1 := by
          have := hf2 c2
          unfold cmpI; rw [if_neg (by omega), if_pos this]
        rw [h0] at hQ
        repeat (first | (refine gC ?_; first | refine aA ?_ | ((first | refine cR e1 ?_ | refine cR e2 ?_); refine sX ?_; try refine aA ?_)) | ((first | refine cR e1 ?_ | refine cR e2 ?_); refine sX ?_; try refine aA ?_) | refine gS ?_)
        (refine FinQ hQ (congrArg Array.toList Tryd.results189) _ _ ?_); simp (disch := omega) only [u, i64, ax, if_true, forall_const, reduceCtorEq, implies_true, tvs, bf]
      · repeat (first | (refine gC ?_; first | refine aA ?_ | ((first | refine cR e1 ?_ | refine cR e2 ?_); refine sX ?_; try refine aA ?_)) | ((first | refine cR e1 ?_ | refine cR e2 ?_); refine sX ?_; try refine aA ?_) | refine gS ?_)
        refine ⟨j, ?_, ⟨by omega, hs (by omega)⟩, by omega⟩
        simp only [u, i64, Nat.reduceSub, Nat.reduceAdd, bm]
theorem ret_rCmp (xs ys : List Nat) (hx : Wd xs) (hy : Wd ys) (hl : xs.length ≤ 34359738368) (hl2 : ys.length ≤ 34359738368) : Ret Tryd.prog GEs 158 [ws xs, ws ys] (i64 (cmpI (val xs) (val ys))) := by
  have h1 := ret_Digits xs hx (by omega)
  have h2 := ret_Digits ys hy (by omega)
  have h3 := ret_Compare01 (digs xs) (digs ys) (digs_Ds hx) (digs_Ds hy) (by rw [digs_length]; omega) (by rw [digs_length]; omega)
  rw [digs_val, digs_val] at h3
  refine RetN_start Tryd.func158 (by kernel_rfl) rfl fun Q hQ hQ2 => ?_; rw [Tryd.ntmps158]; simp only [u, i64, Nat.reduceSub, Nat.reduceAdd, bm]
  repeat (first | (refine gC ?_; first | refine aA ?_ | ((first | refine cR h1 ?_ | refine cR h2 ?_ | refine cR h3 ?_); refine sX ?_; try refine aA ?_)) | ((first | refine cR h1 ?_ | refine cR h2 ?_ | refine cR h3 ?_); refine sX ?_; try refine aA ?_) | refine gS ?_)
  (refine FinQ hQ (congrArg Array.toList Tryd.results158) _ _ ?_); simp (disch := omega) only [u, i64, ax, if_true, forall_const, reduceCtorEq, implies_true, tvs, bf]
end Go.Proofs
set_option linter.unusedVariables false
set_option linter.unusedSimpArgs false
namespace Go.Proofs
open Go.Ax
set_option maxRecDepth 100000 in
theorem ret_Known (r : Int) (h1 : -9223372036854775808 ≤ r) (h2 : r < 9223372036854775808) : Ret Tryd.prog GEs 31 [i64 r] (.bool (decide (0 ≤ r ∧ r ≤ 4))) := by
  refine RetN_start Tryd.func31 (by kernel_rfl) rfl fun Q hQ hQ2 => ?_; rw [Tryd.ntmps31]; simp only [u, i64, Nat.reduceSub, Nat.reduceAdd, bm]
  by_cases ha : 0 ≤ r
  · by_cases hb : r ≤ 4
    · (refine gO ?_)
      (refine FinQ hQ (congrArg Array.toList Tryd.results31) _ _ ?_); simp (disch := omega) only [u, i64, ax, if_true, forall_const, reduceCtorEq, implies_true, tvs, bf, decT (show 0 ≤ r ∧ r ≤ 4 from ⟨ha, hb⟩)]
    · (refine gO ?_)
      (refine FinQ hQ (congrArg Array.toList Tryd.results31) _ _ ?_); simp (disch := omega) only [u, i64, ax, if_true, forall_const, reduceCtorEq, implies_true, tvs, bf, decF (show ¬ (0 ≤ r ∧ r ≤ 4) from fun h => hb h.2)]
  · (refine gO ?_)
    (refine FinQ hQ (congrArg Array.toList Tryd.results31) _ _ ?_); simp (disch := omega) only [u, i64, ax, if_true, forall_const, reduceCtorEq, implies_true, tvs, bf, decF (show ¬ (0 ≤ r ∧ r ≤ 4) from fun h => ha h.1)]
end Go.Proofs
set_option linter.unusedVariables false
set_option linter.unusedSimpArgs false
namespace Go.Proofs
open Go.Ax
theorem ret_rMul (xs ys : List Nat) (hx : Wd xs) (hy : Wd ys) (hl : xs.length ≤ 10000000) (hl2 : ys.length ≤ 10000000) : Ret Tryd.prog GEs 97 [ws xs, ws ys] (nat (val xs * val ys)) := by
  have h1 := ret_Digits xs hx (by omega)
  have h2 := ret_Digits ys hy (by omega)
  have e1 := digs_length xs
  have e2 := digs_length ys
  have h3 := ret_Times (digs xs) (digs ys) (digs_Ds hx) (digs_Ds hy) (by omega) (by omega)
  have hlt : vb 4294967296 (digs xs) * vb 4294967296 (digs ys) < 4294967296 ^ ((digs xs).length + (digs ys).length) := by
    rw [Nat.pow_add]
    exact Nat.mul_lt_mul'' (vb_lt (digs_Ds hx)) (vb_lt (digs_Ds hy))
  have hv := vb_wfb (K := 4294967296) (by decide) _ _ hlt
  have hds : Ds 4294967296 (wfb 4294967296 ((digs xs).length + (digs ys).length) (vb 4294967296 (digs xs) * vb 4294967296 (digs ys))) := wfb_Ds (by decide) _ _
  have hml : (wfb 4294967296 ((digs xs).length + (digs ys).length) (vb 4294967296 (digs xs) * vb 4294967296 (digs ys))).length = (digs xs).length + (digs ys).length := wfb_length _ _
  have h4 := ret_nat _ hds (by omega)
  rw [hv, digs_val, digs_val] at h4
  rw [digs_val, digs_val] at h3
  generalize wfb 4294967296 ((digs xs).length + (digs ys).length) (val xs * val ys) = dd at *
  refine RetN_start Tryd.func97 (by kernel_rfl) rfl fun Q hQ hQ2 => ?_; rw [Tryd.ntmps97]; simp only [u, i64, Nat.reduceSub, Nat.reduceAdd, bm]
  repeat (first | (refine gC ?_; first | refine aA ?_ | ((first | refine cR h1 ?_ | refine cR h2 ?_ | refine cR h3 ?_ | refine cR h4 ?_); refine sX ?_; try refine aA ?_)) | ((first | refine cR h1 ?_ | refine cR h2 ?_ | refine cR h3 ?_ | refine cR h4 ?_); refine sX ?_; try refine aA ?_) | refine gS ?_)
  (refine FinQ hQ (congrArg Array.toList Tryd.results97) _ _ ?_); simp (disch := omega) only [u, i64, ax, if_true, forall_const, reduceCtorEq, implies_true, tvs, bf]
end Go.Proofs
set_option linter.unusedVariables false
set_option linter.unusedSimpArgs false
set_option maxRecDepth 100000
namespace Go.Proofs
open Go.Ax
set_option maxRecDepth 100000 in
set_option maxHeartbeats 1000000 in
theorem ret_rPow (b k L : Nat) (hb : b ≠ 0) (hk : k ≤ 4000000) (h1 : (words b).length ≤ L) (h2 : (words (b ^ k)).length ≤ L) (hL : L ≤ 1000000) : Ret Tryd.prog GEs 157 [nat b, i64 k] (nat (b ^ k)) := by
  have hF := ret_rFromWord 1 (by decide)
  have hTr := ret_rTrim (words b) (Wd_words _) (by omega)
  rw [val_words] at hTr
  refine RetN_start Tryd.func157 (by kernel_rfl) rfl fun Q hQ hQ2 => ?_; rw [Tryd.ntmps157]; simp only [u, i64, Nat.reduceSub, Nat.reduceAdd, bm]
  repeat (first | (refine gC ?_; first | refine aA ?_ | ((first | refine cR hF ?_ | refine cR hTr ?_); refine sX ?_; try refine aA ?_)) | ((first | refine cR hF ?_ | refine cR hTr ?_); refine sX ?_; try refine aA ?_) | refine gS ?_)
  refine AWp_loop (fun i : Nat × Nat × Nat => mk 25 [(0, nat i.2.2), (1, i64 i.1), (4, .emp), (5, nat i.2.1)] []) (fun i => i.1 ≤ k ∧ i.2.1 * i.2.2 ^ i.1 = b ^ k ∧ i.2.2 ≠ 0 ∧ (words i.2.2).length ≤ L) (fun i => i.1) (k, 1, b) ?_ ⟨Nat.le_refl _, Nat.one_mul _, hb, h1⟩ ?_
  · simp only [u, i64, Nat.reduceSub, Nat.reduceAdd, bm]
  rintro ⟨j, o, x⟩ ⟨i1, i2, i3, i4⟩
  simp only at i1 i2 i3 i4
  simp only [u, i64, Nat.reduceSub, Nat.reduceAdd, bm]
  have hpos : 0 < b ^ k := Nat.pow_pos (Nat.pos_of_ne_zero hb)
  have ho : o ≠ 0 := fun h => by rw [h, Nat.zero_mul] at i2; omega
  have hxj : x ^ j ≤ b ^ k := by rw [← i2]; exact Nat.le_mul_of_pos_left _ (Nat.pos_of_ne_zero ho)
  have hol : (words o).length ≤ L := lenLe (by rw [← i2]; exact Nat.le_mul_of_pos_right _ (Nat.pow_pos (Nat.pos_of_ne_zero i3))) h2
  by_cases hj : 0 < j
  · have hd := Nat.div_add_mod j 2
    have hM1 := ret_rMul (words o) (words x) (Wd_words _) (Wd_words _) (by omega) (by omega)
    have hM2 := ret_rMul (words x) (words x) (Wd_words _) (Wd_words _) (by omega) (by omega)
    rw [val_words, val_words] at hM1
    rw [val_words] at hM2
    have hx2 : 1 < j → x * x ≤ b ^ k := fun h => by
      refine Nat.le_trans ?_ hxj
      rw [← Nat.pow_two]
      exact Nat.pow_le_pow_right (Nat.pos_of_ne_zero i3) h
    by_cases c1 : j % 2 = 1
    · by_cases c2 : 1 < j
      · have hpw : o * x * (x * x) ^ (j / 2) = b ^ k := by
          rw [← i2, ← Nat.pow_two, ← Nat.pow_mul, Nat.mul_assoc, ← Nat.pow_succ']
          congr 2
          omega
        repeat (first | (refine gC ?_; first | refine aA ?_ | ((first | refine cR hM1 ?_ | refine cR hM2 ?_); refine sX ?_; try refine aA ?_)) | ((first | refine cR hM1 ?_ | refine cR hM2 ?_); refine sX ?_; try refine aA ?_) | refine gS ?_)
        refine ⟨(j / 2, o * x, x * x), ?_, ⟨by simp only; omega, hpw, Nat.mul_ne_zero i3 i3, lenLe (hx2 c2) h2⟩, by simp only; omega⟩
        simp only [u, i64, Nat.reduceSub, Nat.reduceAdd, bm]
      · have hpw : o * x * x ^ (j / 2) = b ^ k := by
          rw [← i2, show j = 1 by omega, Nat.pow_one, show 1 / 2 = 0 from rfl, Nat.pow_zero, Nat.mul_one]
        repeat (first | (refine gC ?_; first | refine aA ?_ | (refine cR hM1 ?_; refine sX ?_; try refine aA ?_)) | (refine cR hM1 ?_; refine sX ?_; try refine aA ?_) | refine gS ?_)
        refine ⟨(j / 2, o * x, x), ?_, ⟨by simp only; omega, hpw, i3, i4⟩, by simp only; omega⟩
        simp only [u, i64, Nat.reduceSub, Nat.reduceAdd, bm]
    · have hpw : o * (x * x) ^ (j / 2) = b ^ k := by
        rw [← i2, ← Nat.pow_two, ← Nat.pow_mul]
        congr 2
        omega
      repeat (first | (refine gC ?_; first | refine aA ?_ | (refine cR hM2 ?_; refine sX ?_; try refine aA ?_)) | (refine cR hM2 ?_; refine sX ?_; try refine aA ?_) | refine gS ?_)
      refine ⟨(j / 2, o, x * x), ?_, ⟨by simp only; omega, hpw, Nat.mul_ne_zero i3 i3, lenLe (hx2 (by omega)) h2⟩, by simp only; omega⟩
      simp only [u, i64, Nat.reduceSub, Nat.reduceAdd, bm]
  · have h0 : j = 0 := by omega
    subst h0
    rw [Nat.pow_zero, Nat.mul_one] at i2
    rw [← i2] at hQ
    (refine gO ?_)
    (refine FinQ hQ (congrArg Array.toList Tryd.results157) _ _ ?_); simp (disch := omega) only [u, i64, ax, if_true, forall_const, reduceCtorEq, implies_true, tvs, bf]
theorem ret_rTen (k : Nat) (hk : k ≤ 1000000) : Ret Tryd.prog GEs 98 [i64 k] (nat (10 ^ k)) := by
  have h10 : (words 10).length ≤ 63000 := Nat.le_trans (length_le (k := 1) (by decide)) (by decide)
  have hP := ret_rPow 10 k 63000 (by decide) (by omega) h10 (ten_len hk) (by decide)
  have hF := ret_rFromWord 10 (by decide)
  generalize 10 ^ k = T at *
  refine RetN_start Tryd.func98 (by kernel_rfl) rfl fun Q hQ hQ2 => ?_; rw [Tryd.ntmps98]; simp only [u, i64, Nat.reduceSub, Nat.reduceAdd, bm]
  repeat (first | (refine gC ?_; first | refine aA ?_ | ((first | refine cR hF ?_ | refine cR hP ?_); refine sX ?_; try refine aA ?_)) | ((first | refine cR hF ?_ | refine cR hP ?_); refine sX ?_; try refine aA ?_) | refine gS ?_)
  (refine FinQ hQ (congrArg Array.toList Tryd.results98) _ _ ?_); simp (disch := omega) only [u, i64, ax, if_true, forall_const, reduceCtorEq, implies_true, tvs, bf]
set_option maxRecDepth 100000 in
set_option maxHeartbeats 1000000 in
theorem ret_rDigitsW (xs : List Nat) (hx : Wd xs) (h0 : val xs ≠ 0) (hl : xs.length ≤ 10000) : Ret Tryd.prog GEs 102 [ws xs] (i64 (dg (val xs))) := by
  have hL := ret_rLen xs hx (by omega)
  have hb := bl_len (val xs)
  have hnl := length_words_val_le hx
  have hT := fun j (hj : j ≤ dg (val xs) + 1) => ret_rTen j (by have := dg_le_bl (val xs); omega)
  have hC := fun j (hj : j ≤ dg (val xs) + 1) => ret_rCmp xs (words (10 ^ j)) hx (Wd_words _) (by omega) (by have := dg_le_bl (val xs); have := ten_len (k := j) (by omega); omega)
  simp only [val_words] at hC
  generalize val xs = n at *
  have hg := dg_guess n h0 (by omega)
  have hdb := dg_le_bl n
  have hb1 := (bl_spec h0).2.2
  have hd1 := (dg_spec n h0).2.2
  refine RetN_start Tryd.func102 (by kernel_rfl) rfl fun Q hQ hQ2 => ?_; rw [Tryd.ntmps102]; simp only [u, i64, Nat.reduceSub, Nat.reduceAdd, bm]
  repeat (first | (refine gC ?_; first | refine aA ?_ | (refine cR hL ?_; refine sX ?_; try refine aA ?_)) | (refine cR hL ?_; refine sX ?_; try refine aA ?_) | refine gS ?_)
  refine AWp_loop (fun j : Nat => mk 30 [(0, ws xs), (2, i64 0), (3, i64 j)] []) (fun j => 1 ≤ j ∧ j ≤ dg n + 1) (fun j => dg n + 1 - j) ((bl n - 1) * 30103 / 100000 + 1) ?_ ⟨by omega, by omega⟩ ?_
  · simp only [u, i64, Nat.reduceSub, Nat.reduceAdd, bm]
  intro j hj
  simp only [u, i64, Nat.reduceSub, Nat.reduceAdd, bm]
  have hs := cmpI_sign n (10 ^ j)
  have hTj := hT j hj.2
  have hCj := hC j hj.2
  by_cases hc : 10 ^ j ≤ n
  · have h1 := hs.1.2 hc
    have h2 := dg_ge hc
    generalize cmpI n (10 ^ j) = c at *
    repeat (first | (refine gC ?_; first | refine aA ?_ | ((first | refine cR hTj ?_ | refine cR hCj ?_); refine sX ?_; try refine aA ?_)) | ((first | refine cR hTj ?_ | refine cR hCj ?_); refine sX ?_; try refine aA ?_) | refine gS ?_)
    refine ⟨j + 1, ?_, by omega, by omega⟩
    simp only [u, i64, Nat.reduceSub, Nat.reduceAdd, bm]
  · have h1 := hs.2.1.2 (by omega)
    have h2 := dg_le (n := n) (k := j) (by omega)
    generalize cmpI n (10 ^ j) = c at *
    repeat (first | (refine gC ?_; first | refine aA ?_ | ((first | refine cR hTj ?_ | refine cR hCj ?_); refine sX ?_; try refine aA ?_)) | ((first | refine cR hTj ?_ | refine cR hCj ?_); refine sX ?_; try refine aA ?_) | refine gS ?_)
    refine AWp_loop (fun j : Nat => mk 30 [(0, ws xs), (2, i64 0), (3, i64 j)] []) (fun j => dg n ≤ j ∧ j ≤ dg n + 1) (fun j => j) j ?_ ⟨h2, hj.2⟩ ?_
    · simp only [u, i64, Nat.reduceSub, Nat.reduceAdd, bm]
    intro i hi
    simp only [u, i64, Nat.reduceSub, Nat.reduceAdd, bm]
    by_cases hi1 : 1 < i
    · obtain ⟨m, rfl⟩ : ∃ m, i = m + 1 := ⟨i - 1, by omega⟩
      have hs := cmpI_sign n (10 ^ m)
      have hTm := hT m (by omega)
      have hCm := hC m (by omega)
      by_cases hc : n < 10 ^ m
      · have h1 := hs.2.1.2 hc
        have h2 := dg_le (n := n) (k := m) (by omega)
        generalize cmpI n (10 ^ m) = c' at *
        repeat (first | (refine gC ?_; first | refine aA ?_ | ((first | refine cR hTm ?_ | refine cR hCm ?_); refine sX ?_; try refine aA ?_)) | ((first | refine cR hTm ?_ | refine cR hCm ?_); refine sX ?_; try refine aA ?_) | refine gS ?_)
        refine ⟨m, ?_, by omega, by omega⟩
        rw [show m + 1 - 1 = m from rfl]
        simp only [u, i64, Nat.reduceSub, Nat.reduceAdd, bm]
      · have h1 : ¬ cmpI n (10 ^ m) < 0 := fun h => hc (hs.2.1.1 h)
        have h2 := dg_ge (n := n) (k := m) (by omega)
        have hcb : -1 ≤ cmpI n (10 ^ m) ∧ cmpI n (10 ^ m) ≤ 1 := by unfold cmpI; split <;> (try split) <;> omega
        generalize cmpI n (10 ^ m) = c' at *
        have e : ((dg n : Nat) : Int) = ((m + 1 : Nat) : Int) := by omega
        rw [e] at hQ
        repeat (first | (refine gC ?_; first | refine aA ?_ | ((first | refine cR hTm ?_ | refine cR hCm ?_); refine sX ?_; try refine aA ?_)) | ((first | refine cR hTm ?_ | refine cR hCm ?_); refine sX ?_; try refine aA ?_) | refine gS ?_)
        (refine FinQ hQ (congrArg Array.toList Tryd.results102) _ _ ?_); simp (disch := omega) only [u, i64, ax, if_true, forall_const, reduceCtorEq, implies_true, tvs, bf]
    · have e : ((dg n : Nat) : Int) = (i : Int) := by omega
      rw [e] at hQ
      (refine gO ?_)
      (refine FinQ hQ (congrArg Array.toList Tryd.results102) _ _ ?_); simp (disch := omega) only [u, i64, ax, if_true, forall_const, reduceCtorEq, implies_true, tvs, bf]
end Go.Proofs
set_option linter.unusedVariables false
set_option linter.unusedSimpArgs false
set_option maxRecDepth 100000
namespace Go.Proofs
open Go.Ax
theorem ret_Ctx (p g r : Int) : Ret Tryd.prog GEs 43 [cx p g r] (cx p g r) := by
  unfold cx
  refine RetN_start Tryd.func43 (by kernel_rfl) rfl fun Q hQ hQ2 => ?_; rw [Tryd.ntmps43]; simp only [u, i64, Nat.reduceSub, Nat.reduceAdd, bm]
  (refine gO ?_)
  (refine FinQ hQ (congrArg Array.toList Tryd.results43) _ _ ?_); simp (disch := omega) only [u, i64, ax, if_true, forall_const, reduceCtorEq, implies_true, tvs, bf]
theorem ret_TheirD (k e : Int) (neg : Bool) (cs : List Nat) : Ret Tryd.prog GEs 39 [.agg [i64 k, .bool neg, ws cs, i64 e]] (.agg [i64 k, .bool neg, ws cs, i64 e]) := by
  refine RetN_start Tryd.func39 (by kernel_rfl) rfl fun Q hQ hQ2 => ?_; rw [Tryd.ntmps39]; simp only [u, i64, Nat.reduceSub, Nat.reduceAdd, bm]
  (refine gO ?_)
  (refine FinQ hQ (congrArg Array.toList Tryd.results39) _ _ ?_); simp (disch := omega) only [u, i64, ax, if_true, forall_const, reduceCtorEq, implies_true, tvs, bf]
theorem ret_Least22 (p g r : Int) (hg : 1 ≤ g ∧ g ≤ 6000) : Ret Tryd.prog GEs 48 [cx p g r] (i64 (1 - g)) := by
  unfold cx
  refine RetN_start Tryd.func48 (by kernel_rfl) rfl fun Q hQ hQ2 => ?_; rw [Tryd.ntmps48]; simp only [u, i64, Nat.reduceSub, Nat.reduceAdd, bm]
  (refine gO ?_)
  (refine FinQ hQ (congrArg Array.toList Tryd.results48) _ _ ?_); simp (disch := omega) only [u, i64, ax, if_true, forall_const, reduceCtorEq, implies_true, tvs, bf]
theorem ret_Tiny22 (p g r : Int) (hp : 1 ≤ p ∧ p ≤ 400) (hg : 1 ≤ g ∧ g ≤ 6000) : Ret Tryd.prog GEs 49 [cx p g r] (i64 (1 - g - (p - 1))) := by
  have hL := ret_Least22 p g r hg
  unfold cx at *
  refine RetN_start Tryd.func49 (by kernel_rfl) rfl fun Q hQ hQ2 => ?_; rw [Tryd.ntmps49]; simp only [u, i64, Nat.reduceSub, Nat.reduceAdd, bm]
  repeat (first | (refine gC ?_; first | refine aA ?_ | (refine cR hL ?_; refine sX ?_; try refine aA ?_)) | (refine cR hL ?_; refine sX ?_; try refine aA ?_) | refine gS ?_)
  (refine FinQ hQ (congrArg Array.toList Tryd.results49) _ _ ?_); simp (disch := omega) only [u, i64, ax, if_true, forall_const, reduceCtorEq, implies_true, tvs, bf]
theorem ret_Right22 (p g r : Int) (h1 : -9223372036854775808 ≤ r) (h2 : r < 9223372036854775808) : Ret Tryd.prog GEs 107 [cx p g r] (.bool (decide (okC p g r))) := by
  have hK := ret_Known r h1 h2
  unfold cx
  by_cases hp1 : 1 ≤ p
  · by_cases hp2 : p ≤ 400
    · by_cases hg1 : 1 ≤ g
      · by_cases hg2 : g ≤ 6000
        · by_cases hr : 0 ≤ r ∧ r ≤ 4
          · rw [decT hr] at hK
            rw [decT (show okC p g r from ⟨⟨hp1, hp2⟩, ⟨hg1, hg2⟩, hr⟩)]
            refine RetN_start Tryd.func107 (by kernel_rfl) rfl fun Q hQ hQ2 => ?_; rw [Tryd.ntmps107]; simp only [u, i64, Nat.reduceSub, Nat.reduceAdd, bm]
            repeat (first | (refine gC ?_; first | refine aA ?_ | (refine cR hK ?_; refine sX ?_; try refine aA ?_)) | (refine cR hK ?_; refine sX ?_; try refine aA ?_) | refine gS ?_)
            (refine FinQ hQ (congrArg Array.toList Tryd.results107) _ _ ?_); simp (disch := omega) only [u, i64, ax, if_true, forall_const, reduceCtorEq, implies_true, tvs, bf]
          · rw [decF hr] at hK
            rw [decF (show ¬ okC p g r from fun h => hr h.2.2)]
            refine RetN_start Tryd.func107 (by kernel_rfl) rfl fun Q hQ hQ2 => ?_; rw [Tryd.ntmps107]; simp only [u, i64, Nat.reduceSub, Nat.reduceAdd, bm]
            repeat (first | (refine gC ?_; first | refine aA ?_ | (refine cR hK ?_; refine sX ?_; try refine aA ?_)) | (refine cR hK ?_; refine sX ?_; try refine aA ?_) | refine gS ?_)
            (refine FinQ hQ (congrArg Array.toList Tryd.results107) _ _ ?_); simp (disch := omega) only [u, i64, ax, if_true, forall_const, reduceCtorEq, implies_true, tvs, bf]
        · rw [decF (show ¬ okC p g r from fun h => hg2 h.2.1.2)]
          refine RetN_start Tryd.func107 (by kernel_rfl) rfl fun Q hQ hQ2 => ?_; rw [Tryd.ntmps107]; simp only [u, i64, Nat.reduceSub, Nat.reduceAdd, bm]
          (refine gO ?_)
          (refine FinQ hQ (congrArg Array.toList Tryd.results107) _ _ ?_); simp (disch := omega) only [u, i64, ax, if_true, forall_const, reduceCtorEq, implies_true, tvs, bf]
      · rw [decF (show ¬ okC p g r from fun h => hg1 h.2.1.1)]
        refine RetN_start Tryd.func107 (by kernel_rfl) rfl fun Q hQ hQ2 => ?_; rw [Tryd.ntmps107]; simp only [u, i64, Nat.reduceSub, Nat.reduceAdd, bm]
        (refine gO ?_)
        (refine FinQ hQ (congrArg Array.toList Tryd.results107) _ _ ?_); simp (disch := omega) only [u, i64, ax, if_true, forall_const, reduceCtorEq, implies_true, tvs, bf]
    · rw [decF (show ¬ okC p g r from fun h => hp2 h.1.2)]
      refine RetN_start Tryd.func107 (by kernel_rfl) rfl fun Q hQ hQ2 => ?_; rw [Tryd.ntmps107]; simp only [u, i64, Nat.reduceSub, Nat.reduceAdd, bm]
      (refine gO ?_)
      (refine FinQ hQ (congrArg Array.toList Tryd.results107) _ _ ?_); simp (disch := omega) only [u, i64, ax, if_true, forall_const, reduceCtorEq, implies_true, tvs, bf]
  · rw [decF (show ¬ okC p g r from fun h => hp1 h.1.1)]
    refine RetN_start Tryd.func107 (by kernel_rfl) rfl fun Q hQ hQ2 => ?_; rw [Tryd.ntmps107]; simp only [u, i64, Nat.reduceSub, Nat.reduceAdd, bm]
    (refine gO ?_)
    (refine FinQ hQ (congrArg Array.toList Tryd.results107) _ _ ?_); simp (disch := omega) only [u, i64, ax, if_true, forall_const, reduceCtorEq, implies_true, tvs, bf]
theorem ret_Good22 (k e : Int) (neg : Bool) (cs : List Nat) (hk1 : -9223372036854775808 ≤ k) (hk2 : k < 9223372036854775808) (he1 : -9223372036854775808 ≤ e) (he2 : e < 9223372036854775808) (hc : Wd cs) (hl : cs.length ≤ 100000) :
    Ret Tryd.prog GEs 53 [.agg [i64 k, .bool neg, ws cs, i64 e]] (.bool (decide (goodD k neg (val cs) e))) := by
  have hZ := ret_rIsZero cs hc (by omega)
  generalize val cs = v at *
  by_cases k0 : k = 0
  · subst k0
    have hg : goodD 0 neg v e ↔ (-1000000 ≤ e ∧ e ≤ 1000000) := by unfold goodD; omega
    by_cases h1 : -1000000 ≤ e
    · by_cases h2 : e ≤ 1000000
      · rw [decT (hg.2 ⟨h1, h2⟩)]
        refine RetN_start Tryd.func53 (by kernel_rfl) rfl fun Q hQ hQ2 => ?_; rw [Tryd.ntmps53]; simp only [u, i64, Nat.reduceSub, Nat.reduceAdd, bm]
        (refine gO ?_)
        (refine FinQ hQ (congrArg Array.toList Tryd.results53) _ _ ?_); simp (disch := omega) only [u, i64, ax, if_true, forall_const, reduceCtorEq, implies_true, tvs, bf]
      · rw [decF (show ¬ goodD 0 neg v e from fun h => h2 (hg.1 h).2)]
        refine RetN_start Tryd.func53 (by kernel_rfl) rfl fun Q hQ hQ2 => ?_; rw [Tryd.ntmps53]; simp only [u, i64, Nat.reduceSub, Nat.reduceAdd, bm]
        (refine gO ?_)
        (refine FinQ hQ (congrArg Array.toList Tryd.results53) _ _ ?_); simp (disch := omega) only [u, i64, ax, if_true, forall_const, reduceCtorEq, implies_true, tvs, bf]
    · rw [decF (show ¬ goodD 0 neg v e from fun h => h1 (hg.1 h).1)]
      refine RetN_start Tryd.func53 (by kernel_rfl) rfl fun Q hQ hQ2 => ?_; rw [Tryd.ntmps53]; simp only [u, i64, Nat.reduceSub, Nat.reduceAdd, bm]
      (refine gO ?_)
      (refine FinQ hQ (congrArg Array.toList Tryd.results53) _ _ ?_); simp (disch := omega) only [u, i64, ax, if_true, forall_const, reduceCtorEq, implies_true, tvs, bf]
  · by_cases k1 : k = 1
    · subst k1
      have hg : goodD 1 neg v e ↔ (e = 0 ∧ v = 0) := by unfold goodD; omega
      by_cases h1 : e = 0
      · rw [show decide (goodD 1 neg v e) = decide (v = 0) by rw [decide_eq_decide, hg]; exact ⟨fun h => h.2, fun h => ⟨h1, h⟩⟩]
        refine RetN_start Tryd.func53 (by kernel_rfl) rfl fun Q hQ hQ2 => ?_; rw [Tryd.ntmps53]; simp only [u, i64, Nat.reduceSub, Nat.reduceAdd, bm]
        repeat (first | (refine gC ?_; first | refine aA ?_ | (refine cR hZ ?_; refine sX ?_; try refine aA ?_)) | (refine cR hZ ?_; refine sX ?_; try refine aA ?_) | refine gS ?_)
        (refine FinQ hQ (congrArg Array.toList Tryd.results53) _ _ ?_); simp (disch := omega) only [u, i64, ax, if_true, forall_const, reduceCtorEq, implies_true, tvs, bf]
      · rw [decF (show ¬ goodD 1 neg v e from fun h => h1 (hg.1 h).1)]
        refine RetN_start Tryd.func53 (by kernel_rfl) rfl fun Q hQ hQ2 => ?_; rw [Tryd.ntmps53]; simp only [u, i64, Nat.reduceSub, Nat.reduceAdd, bm]
        (refine gO ?_)
        (refine FinQ hQ (congrArg Array.toList Tryd.results53) _ _ ?_); simp (disch := omega) only [u, i64, ax, if_true, forall_const, reduceCtorEq, implies_true, tvs, bf]
    · by_cases k2 : k = 2
      · subst k2
        have hg : goodD 2 neg v e ↔ (neg = false ∧ e = 0 ∧ v = 0) := by unfold goodD; simp
        cases neg with
        | true =>
          rw [decF (show ¬ goodD 2 true v e from fun h => by cases (hg.1 h).1)]
          refine RetN_start Tryd.func53 (by kernel_rfl) rfl fun Q hQ hQ2 => ?_; rw [Tryd.ntmps53]; simp only [u, i64, Nat.reduceSub, Nat.reduceAdd, bm]
          (refine gO ?_)
          (refine FinQ hQ (congrArg Array.toList Tryd.results53) _ _ ?_); simp (disch := omega) only [u, i64, ax, if_true, forall_const, reduceCtorEq, implies_true, tvs, bf]
        | false =>
          by_cases h1 : e = 0
          · rw [show decide (goodD 2 false v e) = decide (v = 0) by rw [decide_eq_decide, hg]; exact ⟨fun h => h.2.2, fun h => ⟨rfl, h1, h⟩⟩]
            refine RetN_start Tryd.func53 (by kernel_rfl) rfl fun Q hQ hQ2 => ?_; rw [Tryd.ntmps53]; simp only [u, i64, Nat.reduceSub, Nat.reduceAdd, bm]
            repeat (first | (refine gC ?_; first | refine aA ?_ | (refine cR hZ ?_; refine sX ?_; try refine aA ?_)) | (refine cR hZ ?_; refine sX ?_; try refine aA ?_) | refine gS ?_)
            (refine FinQ hQ (congrArg Array.toList Tryd.results53) _ _ ?_); simp (disch := omega) only [u, i64, ax, if_true, forall_const, reduceCtorEq, implies_true, tvs, bf]
          · rw [decF (show ¬ goodD 2 false v e from fun h => h1 (hg.1 h).2.1)]
            refine RetN_start Tryd.func53 (by kernel_rfl) rfl fun Q hQ hQ2 => ?_; rw [Tryd.ntmps53]; simp only [u, i64, Nat.reduceSub, Nat.reduceAdd, bm]
            (refine gO ?_)
            (refine FinQ hQ (congrArg Array.toList Tryd.results53) _ _ ?_); simp (disch := omega) only [u, i64, ax, if_true, forall_const, reduceCtorEq, implies_true, tvs, bf]
      · rw [decF (show ¬ goodD k neg v e by unfold goodD; omega)]
        refine RetN_start Tryd.func53 (by kernel_rfl) rfl fun Q hQ hQ2 => ?_; rw [Tryd.ntmps53]; simp only [u, i64, Nat.reduceSub, Nat.reduceAdd, bm]
        (refine gO ?_)
        (refine FinQ hQ (congrArg Array.toList Tryd.results53) _ _ ?_); simp (disch := omega) only [u, i64, ax, if_true, forall_const, reduceCtorEq, implies_true, tvs, bf]
theorem ret_Zero22 (k e : Int) (neg : Bool) (cs : List Nat) (hc : Wd cs) (hl : cs.length ≤ 100000) :
    Ret Tryd.prog GEs 95 [.agg [i64 k, .bool neg, ws cs, i64 e]] (.bool (decide (k = 0 ∧ val cs = 0))) := by
  have hZ := ret_rIsZero cs hc (by omega)
  generalize val cs = v at *
  by_cases k0 : k = 0
  · rw [show decide (k = 0 ∧ v = 0) = decide (v = 0) by rw [decide_eq_decide]; exact ⟨fun h => h.2, fun h => ⟨k0, h⟩⟩]
    refine RetN_start Tryd.func95 (by kernel_rfl) rfl fun Q hQ hQ2 => ?_; rw [Tryd.ntmps95]; simp only [u, i64, Nat.reduceSub, Nat.reduceAdd, bm]
    repeat (first | (refine gC ?_; first | refine aA ?_ | (refine cR hZ ?_; refine sX ?_; try refine aA ?_)) | (refine cR hZ ?_; refine sX ?_; try refine aA ?_) | refine gS ?_)
    (refine FinQ hQ (congrArg Array.toList Tryd.results95) _ _ ?_); simp (disch := omega) only [u, i64, ax, if_true, forall_const, reduceCtorEq, implies_true, tvs, bf]
  · rw [decF (show ¬ (k = 0 ∧ v = 0) from fun h => k0 h.1)]
    refine RetN_start Tryd.func95 (by kernel_rfl) rfl fun Q hQ hQ2 => ?_; rw [Tryd.ntmps95]; simp only [u, i64, Nat.reduceSub, Nat.reduceAdd, bm]
    (refine gO ?_)
    (refine FinQ hQ (congrArg Array.toList Tryd.results95) _ _ ?_); simp (disch := omega) only [u, i64, ax, if_true, forall_const, reduceCtorEq, implies_true, tvs, bf]
end Go.Proofs
set_option linter.unusedVariables false
set_option linter.unusedSimpArgs false
set_option maxRecDepth 100000
namespace Go.Proofs
open Go.Ax
set_option maxHeartbeats 1000000 in
theorem ret_In22 (p : Nat) (g r : Int) (hp : 1 ≤ p ∧ p ≤ 400) (hg : 1 ≤ g ∧ g ≤ 6000) (k e : Int) (neg : Bool) (cs : List Nat) (hk : 0 ≤ k ∧ k ≤ 2) (he : -3000000 ≤ e ∧ e ≤ 3000000) (hc : Wd cs) (hl : cs.length ≤ 2000) :
    Ret Tryd.prog GEs 42 [cx p g r, .agg [i64 k, .bool neg, ws cs, i64 e]] (.bool (decide (inD p g (mkD k neg (val cs) e)))) := by
  have hZ := ret_Zero22 k e neg cs hc (by omega)
  have hT := ret_Tiny22 p g r (by omega) hg
  have hD := fun h => ret_rDigitsW cs hc h (by omega)
  have hbn := bl_len (val cs)
  have hnl := length_words_val_le hc
  have hdb := dg_le_bl (val cs)
  have hT1 : -7000 ≤ 1 - g - ((p : Int) - 1) ∧ 1 - g - ((p : Int) - 1) ≤ 0 := by omega
  have hin : inD p g (mkD k neg (val cs) e) ↔ k ≠ 0 ∨ (val cs = 0 ∧ 1 - g - ((p : Int) - 1) ≤ e ∧ e ≤ g) ∨ (val cs ≠ 0 ∧ dg (val cs) ≤ p ∧ 1 - g - ((p : Int) - 1) ≤ e ∧ e + dg (val cs) - 1 ≤ g) := by
    unfold inD mkD
    simp only
    rw [show (k.toNat ≠ 0 ↔ k ≠ 0) by omega]
  unfold cx at *
  generalize val cs = c at *
  generalize 1 - g - ((p : Int) - 1) = T at *
  by_cases k0 : k = 0
  · by_cases c0 : c = 0
    · rw [decT (show k = 0 ∧ c = 0 from ⟨k0, c0⟩)] at hZ
      clear hD
      by_cases h1 : T ≤ e
      · by_cases h2 : e ≤ g
        · rw [decT (hin.2 (.inr (.inl ⟨c0, h1, h2⟩)))]
          clear hin
          refine RetN_start Tryd.func42 (by kernel_rfl) rfl fun Q hQ hQ2 => ?_; rw [Tryd.ntmps42]; simp only [u, i64, Nat.reduceSub, Nat.reduceAdd, bm]
          repeat (first | (refine gC ?_; first | refine aA ?_ | ((first | refine cR hZ ?_ | refine cR hT ?_); refine sX ?_; try refine aA ?_)) | ((first | refine cR hZ ?_ | refine cR hT ?_); refine sX ?_; try refine aA ?_) | refine gS ?_)
          (refine FinQ hQ (congrArg Array.toList Tryd.results42) _ _ ?_); simp (disch := omega) only [u, i64, ax, if_true, forall_const, reduceCtorEq, implies_true, tvs, bf]
        · rw [decF (fun h => by have := hin.1 h; omega)]
          clear hin
          refine RetN_start Tryd.func42 (by kernel_rfl) rfl fun Q hQ hQ2 => ?_; rw [Tryd.ntmps42]; simp only [u, i64, Nat.reduceSub, Nat.reduceAdd, bm]
          repeat (first | (refine gC ?_; first | refine aA ?_ | ((first | refine cR hZ ?_ | refine cR hT ?_); refine sX ?_; try refine aA ?_)) | ((first | refine cR hZ ?_ | refine cR hT ?_); refine sX ?_; try refine aA ?_) | refine gS ?_)
          (refine FinQ hQ (congrArg Array.toList Tryd.results42) _ _ ?_); simp (disch := omega) only [u, i64, ax, if_true, forall_const, reduceCtorEq, implies_true, tvs, bf]
      · rw [decF (fun h => by have := hin.1 h; omega)]
        clear hin
        refine RetN_start Tryd.func42 (by kernel_rfl) rfl fun Q hQ hQ2 => ?_; rw [Tryd.ntmps42]; simp only [u, i64, Nat.reduceSub, Nat.reduceAdd, bm]
        repeat (first | (refine gC ?_; first | refine aA ?_ | ((first | refine cR hZ ?_ | refine cR hT ?_); refine sX ?_; try refine aA ?_)) | ((first | refine cR hZ ?_ | refine cR hT ?_); refine sX ?_; try refine aA ?_) | refine gS ?_)
        (refine FinQ hQ (congrArg Array.toList Tryd.results42) _ _ ?_); simp (disch := omega) only [u, i64, ax, if_true, forall_const, reduceCtorEq, implies_true, tvs, bf]
    · rw [decF (show ¬ (k = 0 ∧ c = 0) from fun h => c0 h.2)] at hZ
      have hd1 := (dg_spec c c0).2.2
      have hD := hD c0
      by_cases h0 : dg c ≤ p
      · by_cases h1 : T ≤ e
        · by_cases h2 : e + dg c - 1 ≤ g
          · rw [decT (hin.2 (.inr (.inr ⟨c0, h0, h1, h2⟩)))]
            clear hin
            refine RetN_start Tryd.func42 (by kernel_rfl) rfl fun Q hQ hQ2 => ?_; rw [Tryd.ntmps42]; simp only [u, i64, Nat.reduceSub, Nat.reduceAdd, bm]
            repeat (first | (refine gC ?_; first | refine aA ?_ | ((first | refine cR hZ ?_ | refine cR hD ?_ | refine cR hT ?_); refine sX ?_; try refine aA ?_)) | ((first | refine cR hZ ?_ | refine cR hD ?_ | refine cR hT ?_); refine sX ?_; try refine aA ?_) | refine gS ?_)
            (refine FinQ hQ (congrArg Array.toList Tryd.results42) _ _ ?_); simp (disch := omega) only [u, i64, ax, if_true, forall_const, reduceCtorEq, implies_true, tvs, bf]
          · rw [decF (fun h => by have := hin.1 h; omega)]
            clear hin
            refine RetN_start Tryd.func42 (by kernel_rfl) rfl fun Q hQ hQ2 => ?_; rw [Tryd.ntmps42]; simp only [u, i64, Nat.reduceSub, Nat.reduceAdd, bm]
            repeat (first | (refine gC ?_; first | refine aA ?_ | ((first | refine cR hZ ?_ | refine cR hD ?_ | refine cR hT ?_); refine sX ?_; try refine aA ?_)) | ((first | refine cR hZ ?_ | refine cR hD ?_ | refine cR hT ?_); refine sX ?_; try refine aA ?_) | refine gS ?_)
            (refine FinQ hQ (congrArg Array.toList Tryd.results42) _ _ ?_); simp (disch := omega) only [u, i64, ax, if_true, forall_const, reduceCtorEq, implies_true, tvs, bf]
        · rw [decF (fun h => by have := hin.1 h; omega)]
          clear hin
          refine RetN_start Tryd.func42 (by kernel_rfl) rfl fun Q hQ hQ2 => ?_; rw [Tryd.ntmps42]; simp only [u, i64, Nat.reduceSub, Nat.reduceAdd, bm]
          repeat (first | (refine gC ?_; first | refine aA ?_ | ((first | refine cR hZ ?_ | refine cR hD ?_ | refine cR hT ?_); refine sX ?_; try refine aA ?_)) | ((first | refine cR hZ ?_ | refine cR hD ?_ | refine cR hT ?_); refine sX ?_; try refine aA ?_) | refine gS ?_)
          (refine FinQ hQ (congrArg Array.toList Tryd.results42) _ _ ?_); simp (disch := omega) only [u, i64, ax, if_true, forall_const, reduceCtorEq, implies_true, tvs, bf]
      · rw [decF (fun h => by have := hin.1 h; omega)]
        clear hin
        refine RetN_start Tryd.func42 (by kernel_rfl) rfl fun Q hQ hQ2 => ?_; rw [Tryd.ntmps42]; simp only [u, i64, Nat.reduceSub, Nat.reduceAdd, bm]
        repeat (first | (refine gC ?_; first | refine aA ?_ | ((first | refine cR hZ ?_ | refine cR hD ?_); refine sX ?_; try refine aA ?_)) | ((first | refine cR hZ ?_ | refine cR hD ?_); refine sX ?_; try refine aA ?_) | refine gS ?_)
        (refine FinQ hQ (congrArg Array.toList Tryd.results42) _ _ ?_); simp (disch := omega) only [u, i64, ax, if_true, forall_const, reduceCtorEq, implies_true, tvs, bf]
  · rw [decT (hin.2 (.inl k0))]
    clear hin hD
    refine RetN_start Tryd.func42 (by kernel_rfl) rfl fun Q hQ hQ2 => ?_; rw [Tryd.ntmps42]; simp only [u, i64, Nat.reduceSub, Nat.reduceAdd, bm]
    (refine gO ?_)
    (refine FinQ hQ (congrArg Array.toList Tryd.results42) _ _ ?_); simp (disch := omega) only [u, i64, ax, if_true, forall_const, reduceCtorEq, implies_true, tvs, bf]
theorem ret_Canonical22 (k e : Int) (neg : Bool) (cs : List Nat) (hc : Wd cs) (hl : cs.length ≤ 100000) :
    Ret Tryd.prog GEs 113 [.agg [i64 k, .bool neg, ws cs, i64 e]] (.agg [i64 k, .bool neg, nat (val cs), i64 e]) := by
  have hT := ret_rTrim cs hc (by omega)
  refine RetN_start Tryd.func113 (by kernel_rfl) rfl fun Q hQ hQ2 => ?_; rw [Tryd.ntmps113]; simp only [u, i64, Nat.reduceSub, Nat.reduceAdd, bm]
  repeat (first | (refine gC ?_; first | refine aA ?_ | (refine cR hT ?_; refine sX ?_; try refine aA ?_)) | (refine cR hT ?_; refine sX ?_; try refine aA ?_) | refine gS ?_)
  (refine FinQ hQ (congrArg Array.toList Tryd.results113) _ _ ?_); simp (disch := omega) only [u, i64, ax, if_true, forall_const, reduceCtorEq, implies_true, tvs, bf]
theorem ret_NoneD (k e : Int) (neg : Bool) (cs : List Nat) (hl : cs.length ≤ 100000) : Ret Tryd.prog GEs 116 [.agg [i64 k, .bool neg, ws cs, i64 e]] (.bool (decide (k = 0 ∧ neg = false ∧ e = 0 ∧ cs.length = 0))) := by
  by_cases h1 : k = 0
  · cases neg with
    | true =>
      rw [decF (fun h => by cases h.2.1)]
      refine RetN_start Tryd.func116 (by kernel_rfl) rfl fun Q hQ hQ2 => ?_; rw [Tryd.ntmps116]; simp only [u, i64, Nat.reduceSub, Nat.reduceAdd, bm]
      (refine gO ?_)
      (refine FinQ hQ (congrArg Array.toList Tryd.results116) _ _ ?_); simp (disch := omega) only [u, i64, ax, if_true, forall_const, reduceCtorEq, implies_true, tvs, bf]
    | false =>
      by_cases h2 : e = 0
      · by_cases h3 : cs.length = 0
        · rw [decT ⟨h1, rfl, h2, h3⟩]
          refine RetN_start Tryd.func116 (by kernel_rfl) rfl fun Q hQ hQ2 => ?_; rw [Tryd.ntmps116]; simp only [u, i64, Nat.reduceSub, Nat.reduceAdd, bm]
          (refine gO ?_)
          (refine FinQ hQ (congrArg Array.toList Tryd.results116) _ _ ?_); simp (disch := omega) only [u, i64, ax, if_true, forall_const, reduceCtorEq, implies_true, tvs, bf]
        · rw [decF (fun h => h3 h.2.2.2)]
          refine RetN_start Tryd.func116 (by kernel_rfl) rfl fun Q hQ hQ2 => ?_; rw [Tryd.ntmps116]; simp only [u, i64, Nat.reduceSub, Nat.reduceAdd, bm]
          (refine gO ?_)
          (refine FinQ hQ (congrArg Array.toList Tryd.results116) _ _ ?_); simp (disch := omega) only [u, i64, ax, if_true, forall_const, reduceCtorEq, implies_true, tvs, bf]
      · rw [decF (fun h => h2 h.2.2.1)]
        refine RetN_start Tryd.func116 (by kernel_rfl) rfl fun Q hQ hQ2 => ?_; rw [Tryd.ntmps116]; simp only [u, i64, Nat.reduceSub, Nat.reduceAdd, bm]
        (refine gO ?_)
        (refine FinQ hQ (congrArg Array.toList Tryd.results116) _ _ ?_); simp (disch := omega) only [u, i64, ax, if_true, forall_const, reduceCtorEq, implies_true, tvs, bf]
  · rw [decF (fun h => h1 h.1)]
    refine RetN_start Tryd.func116 (by kernel_rfl) rfl fun Q hQ hQ2 => ?_; rw [Tryd.ntmps116]; simp only [u, i64, Nat.reduceSub, Nat.reduceAdd, bm]
    (refine gO ?_)
    (refine FinQ hQ (congrArg Array.toList Tryd.results116) _ _ ?_); simp (disch := omega) only [u, i64, ax, if_true, forall_const, reduceCtorEq, implies_true, tvs, bf]
end Go.Proofs
set_option linter.unusedVariables false
set_option linter.unusedSimpArgs false
set_option maxRecDepth 100000
namespace Go.Proofs
open Go.Ax
set_option maxHeartbeats 4000000 in
theorem ret_Equal22 (k1 k2 e1 e2 : Int) (n1 n2 : Bool) (xs ys : List Nat) (hl : xs.length ≤ 1099511627776) (hl2 : ys.length ≤ 1099511627776) :
    Ret Tryd.prog GEs 112 [.agg [i64 k1, .bool n1, ws xs, i64 e1], .agg [i64 k2, .bool n2, ws ys, i64 e2]] (.bool (decide (k1 = k2 ∧ n1 = n2 ∧ e1 = e2 ∧ xs = ys))) := by
  by_cases hk : k1 = k2
  · by_cases hn : n1 = n2
    · by_cases he : e1 = e2
      · by_cases hlen : xs.length = ys.length
        · subst hn
          subst hk
          subst he
          have hbb : (n1 != n1) = false := by cases n1 <;> rfl
          rw [show decide (k1 = k1 ∧ n1 = n1 ∧ e1 = e1 ∧ xs = ys) = decide (xs = ys) by simp]
          refine RetN_start Tryd.func112 (by kernel_rfl) rfl fun Q hQ hQ2 => ?_; rw [Tryd.ntmps112]; simp only [u, i64, Nat.reduceSub, Nat.reduceAdd, bm]
          (refine gT ?_)
          (refine gT ?_)
          (refine gT ?_)
          (refine gC ?_)
          rw [hbb]
          simp (disch := omega) only [u, i64, ax, eq_self, if_true, if_false, Nat.reduceAdd, Int.reduceToNat, Int.reduceAdd, tvs, bs]
          refine aft_any ?_
          (refine gO ?_)
          refine AWp_loop (fun n : Nat => mk 52 [(0, .agg [i64 k1, .bool n1, ws xs, i64 e1]), (1, .agg [i64 k1, .bool n1, ws ys, i64 e1]), (2, .ptr 0 0 0), (3, .ptr 1 0 0), (4, .bool false), (5, i64 n)] [⟨0, true, [i64 k1, .bool n1, ws xs, i64 e1]⟩, ⟨0, true, [i64 k1, .bool n1, ws ys, i64 e1]⟩]) (fun n => n ≤ xs.length ∧ ∀ i, i < n → xs.getD i 0 = ys.getD i 0) (fun n => xs.length - n) 0 ?_ ⟨Nat.zero_le _, fun i hi => by omega⟩ fun n hn => ?_
          · simp only [u, i64, Nat.reduceSub, Nat.reduceAdd, bm]
          simp only [u, i64, Nat.reduceSub, Nat.reduceAdd, bm]
          by_cases h : n < xs.length
          · by_cases he : xs.getD n 0 = ys.getD n 0
            · (refine gO ?_)
              refine ⟨n + 1, ?_, ⟨h, fun i hi => ?_⟩, by omega⟩
              · simp only [u, i64, Nat.reduceSub, Nat.reduceAdd, bm]
              · rcases Nat.lt_or_ge i n with h1 | h1
                · exact hn.2 i h1
                · rw [show i = n by omega]; exact he
            · have hne : ¬ xs = ys := fun h => he (by rw [h])
              (refine gO ?_)
              (refine FinQ hQ (congrArg Array.toList Tryd.results112) _ _ ?_); simp (disch := omega) only [u, i64, ax, if_true, forall_const, reduceCtorEq, implies_true, tvs, bf, decF hne]
          · (refine gO ?_)
            (refine FinQ hQ (congrArg Array.toList Tryd.results112) _ _ ?_); simp (disch := omega) only [u, i64, ax, if_true, forall_const, reduceCtorEq, implies_true, tvs, bf, decT (show xs = ys from eq_of_getD hlen fun i hi => hn.2 i (by omega))]
        · have hne : ¬ (k1 = k2 ∧ n1 = n2 ∧ e1 = e2 ∧ xs = ys) := fun h => hlen (by rw [h.2.2.2])
          have hbb : (n1 != n2) = false := by subst hn; cases n1 <;> rfl
          refine RetN_start Tryd.func112 (by kernel_rfl) rfl fun Q hQ hQ2 => ?_; rw [Tryd.ntmps112]; simp only [u, i64, Nat.reduceSub, Nat.reduceAdd, bm]
          (refine gT ?_)
          (refine gT ?_)
          (refine gT ?_)
          (refine gC ?_)
          rw [hbb]
          simp (disch := omega) only [u, i64, ax, eq_self, if_true, if_false, Nat.reduceAdd, Int.reduceToNat, Int.reduceAdd, tvs, bs]
          refine aft_any ?_
          (refine gO ?_)
          (refine FinQ hQ (congrArg Array.toList Tryd.results112) _ _ ?_); simp (disch := omega) only [u, i64, ax, if_true, forall_const, reduceCtorEq, implies_true, tvs, bf, decF hne]
      · have hne : ¬ (k1 = k2 ∧ n1 = n2 ∧ e1 = e2 ∧ xs = ys) := fun h => he h.2.2.1
        have hbb : (n1 != n2) = false := by subst hn; cases n1 <;> rfl
        refine RetN_start Tryd.func112 (by kernel_rfl) rfl fun Q hQ hQ2 => ?_; rw [Tryd.ntmps112]; simp only [u, i64, Nat.reduceSub, Nat.reduceAdd, bm]
        (refine gT ?_)
        (refine gT ?_)
        (refine gT ?_)
        (refine gC ?_)
        rw [hbb]
        simp (disch := omega) only [u, i64, ax, eq_self, if_true, if_false, Nat.reduceAdd, Int.reduceToNat, Int.reduceAdd, tvs, bs]
        refine aft_any ?_
        (refine gO ?_)
        (refine FinQ hQ (congrArg Array.toList Tryd.results112) _ _ ?_); simp (disch := omega) only [u, i64, ax, if_true, forall_const, reduceCtorEq, implies_true, tvs, bf, decF hne]
    · have hne : ¬ (k1 = k2 ∧ n1 = n2 ∧ e1 = e2 ∧ xs = ys) := fun h => hn h.2.1
      have hbb : (n1 != n2) = true := by cases n1 <;> cases n2 <;> simp_all
      refine RetN_start Tryd.func112 (by kernel_rfl) rfl fun Q hQ hQ2 => ?_; rw [Tryd.ntmps112]; simp only [u, i64, Nat.reduceSub, Nat.reduceAdd, bm]
      (refine gT ?_)
      (refine gT ?_)
      (refine gT ?_)
      (refine gC ?_)
      rw [hbb]
      simp (disch := omega) only [u, i64, ax, eq_self, if_true, if_false, Nat.reduceAdd, Int.reduceToNat, Int.reduceAdd, tvs, bs]
      refine aft_any ?_
      (refine gO ?_)
      (refine FinQ hQ (congrArg Array.toList Tryd.results112) _ _ ?_); simp (disch := omega) only [u, i64, ax, if_true, forall_const, reduceCtorEq, implies_true, tvs, bf, decF hne]
  · have hne : ¬ (k1 = k2 ∧ n1 = n2 ∧ e1 = e2 ∧ xs = ys) := fun h => hk h.1
    refine RetN_start Tryd.func112 (by kernel_rfl) rfl fun Q hQ hQ2 => ?_; rw [Tryd.ntmps112]; simp only [u, i64, Nat.reduceSub, Nat.reduceAdd, bm]
    (refine gO ?_)
    (refine FinQ hQ (congrArg Array.toList Tryd.results112) _ _ ?_); simp (disch := omega) only [u, i64, ax, if_true, forall_const, reduceCtorEq, implies_true, tvs, bf, decF hne]
theorem ret_Is22 (x y : DV) (lx : (words x.coef).length ≤ 100000) (ly : (words y.coef).length ≤ 100000) : Ret Tryd.prog GEs 117 [dv x, dv y] (.bool (decide (x.kind = y.kind ∧ x.neg = y.neg ∧ x.exp = y.exp ∧ x.coef = y.coef))) := by
  have hC := ret_Canonical22 y.kind y.exp y.neg (words y.coef) (Wd_words _) ly
  rw [val_words] at hC
  have hE := ret_Equal22 x.kind y.kind x.exp y.exp x.neg y.neg (words x.coef) (words y.coef) (by omega) (by omega)
  have e : decide ((x.kind : Int) = y.kind ∧ x.neg = y.neg ∧ x.exp = y.exp ∧ words x.coef = words y.coef) = decide (x.kind = y.kind ∧ x.neg = y.neg ∧ x.exp = y.exp ∧ x.coef = y.coef) := by
    rw [decide_eq_decide]
    constructor
    · intro ⟨h1, h2, h3, h4⟩
      exact ⟨by omega, h2, h3, by have := congrArg val h4; rwa [val_words, val_words] at this⟩
    · intro ⟨h1, h2, h3, h4⟩
      exact ⟨by omega, h2, h3, by rw [h4]⟩
  rw [e] at hE
  unfold dv
  refine RetN_start Tryd.func117 (by kernel_rfl) rfl fun Q hQ hQ2 => ?_; rw [Tryd.ntmps117]; simp only [u, i64, Nat.reduceSub, Nat.reduceAdd, bm]
  repeat (first | (refine gC ?_; first | refine aA ?_ | ((first | refine cR hC ?_ | refine cR hE ?_); refine sX ?_; try refine aA ?_)) | ((first | refine cR hC ?_ | refine cR hE ?_); refine sX ?_; try refine aA ?_) | refine gS ?_)
  (refine FinQ hQ (congrArg Array.toList Tryd.results117) _ _ ?_); simp (disch := omega) only [u, i64, ax, if_true, forall_const, reduceCtorEq, implies_true, tvs, bf]
/-- A result that is the reference's. -/
theorem ret_FitsOk (x : DV) (fl : Nat) (lx : (words x.coef).length ≤ 100000) : Ret Tryd.prog GEs 55 [dv x, i64 fl, i64 0, dv x, i64 fl, i64 0] (.bool true) := by
  have hI := ret_Is22 x x lx lx
  rw [decT (show x.kind = x.kind ∧ x.neg = x.neg ∧ x.exp = x.exp ∧ x.coef = x.coef from ⟨rfl, rfl, rfl, rfl⟩)] at hI
  have hT := ret_TheirD x.kind x.exp x.neg (words x.coef)
  unfold dv at *
  refine RetN_start Tryd.func55 (by kernel_rfl) rfl fun Q hQ hQ2 => ?_; rw [Tryd.ntmps55]; simp only [u, i64, Nat.reduceSub, Nat.reduceAdd, bm]
  repeat (first | (refine gC ?_; first | refine aA ?_ | ((first | refine cR hT ?_ | refine cR hI ?_); refine sX ?_; try refine aA ?_)) | ((first | refine cR hT ?_ | refine cR hI ?_); refine sX ?_; try refine aA ?_) | refine gS ?_)
  (refine FinQ hQ (congrArg Array.toList Tryd.results55) _ _ ?_); simp (disch := omega) only [u, i64, ax, if_true, forall_const, reduceCtorEq, implies_true, tvs, bf]
theorem ret_FitsErr (w : Nat) (hw : w ≠ 0) (hw2 : w < 1000) : Ret Tryd.prog GEs 55 [dv zD, i64 0, i64 w, dv zD, i64 0, i64 w] (.bool true) := by
  have hN := ret_NoneD 0 0 false [] (by decide)
  rw [decT (show (0 : Int) = 0 ∧ false = false ∧ (0 : Int) = 0 ∧ ([] : List Nat).length = 0 from ⟨rfl, rfl, rfl, rfl⟩)] at hN
  rw [dvz]
  refine RetN_start Tryd.func55 (by kernel_rfl) rfl fun Q hQ hQ2 => ?_; rw [Tryd.ntmps55]; simp only [u, i64, Nat.reduceSub, Nat.reduceAdd, bm]
  repeat (first | (refine gC ?_; first | refine aA ?_ | (refine cR hN ?_; refine sX ?_; try refine aA ?_)) | (refine cR hN ?_; refine sX ?_; try refine aA ?_) | refine gS ?_)
  (refine FinQ hQ (congrArg Array.toList Tryd.results55) _ _ ?_); simp (disch := omega) only [u, i64, ax, if_true, forall_const, reduceCtorEq, implies_true, tvs, bf]
theorem one_of22 (p : Nat) (g r : Int) (hp : 1 ≤ p ∧ p ≤ 400) (hg : 1 ≤ g ∧ g ≤ 6000) (d : DI) (h : d.ok) :
    (¬ d.good ∧ Ret Tryd.prog GEs 53 [.agg [i64 d.k, .bool d.neg, ws d.cs, i64 d.e]] (.bool false)) ∨
    (d.good ∧ Ret Tryd.prog GEs 53 [.agg [i64 d.k, .bool d.neg, ws d.cs, i64 d.e]] (.bool true) ∧ Ret Tryd.prog GEs 42 [cx p g r, .agg [i64 d.k, .bool d.neg, ws d.cs, i64 d.e]] (.bool (decide (inD p g d.D)))) := by
  have hG := ret_Good22 d.k d.e d.neg d.cs h.k1 h.k2 h.e1 h.e2 h.wd (Nat.le_trans h.len (by decide))
  by_cases g1 : d.good
  · right
    have hgg : goodD d.k d.neg (val d.cs) d.e := g1
    rw [decT hgg] at hG
    obtain ⟨q1, q2, q3⟩ := goodD_right hgg
    exact ⟨g1, hG, ret_In22 p g r hp hg d.k d.e d.neg d.cs ⟨q2, q3⟩ (by unfold goodD at hgg; omega) h.wd (Nat.le_trans h.len (by decide))⟩
  · left
    rw [decF (show ¬ goodD d.k d.neg (val d.cs) d.e from g1)] at hG
    exact ⟨g1, hG⟩
theorem ret_Short1 (d : DI) (h1 : d.cs.length ≤ 9223372036854775807) : Ret Tryd.prog GEs 34 [.lst 1 [i64 d.k, .bool d.neg, ws d.cs, i64 d.e]] (.bool (decide (d.cs.length ≤ 40))) := by
  by_cases q1 : d.cs.length ≤ 40
  · skip
    rw [decT (show d.cs.length ≤ 40 from q1)]
    refine RetN_start Tryd.func34 (by kernel_rfl) rfl fun Q hQ hQ2 => ?_; rw [Tryd.ntmps34]; simp only [u, i64, Nat.reduceSub, Nat.reduceAdd, bm]
    (refine gO ?_)
    refine G_loop ?_
    refine G_round ?_
    (refine gO ?_)
    refine G_round ?_
    (refine gO ?_)
    (refine FinQ hQ (congrArg Array.toList Tryd.results34) _ _ ?_); simp (disch := omega) only [u, i64, ax, if_true, forall_const, reduceCtorEq, implies_true, tvs, bf]
  · skip
    rw [decF (show ¬ (d.cs.length ≤ 40) from fun h => q1 h)]
    refine RetN_start Tryd.func34 (by kernel_rfl) rfl fun Q hQ hQ2 => ?_; rw [Tryd.ntmps34]; simp only [u, i64, Nat.reduceSub, Nat.reduceAdd, bm]
    (refine gO ?_)
    refine G_loop ?_
    refine G_round ?_
    (refine gO ?_)
    (refine FinQ hQ (congrArg Array.toList Tryd.results34) _ _ ?_); simp (disch := omega) only [u, i64, ax, if_true, forall_const, reduceCtorEq, implies_true, tvs, bf]
set_option maxHeartbeats 2000000 in
theorem ret_Check22_1 (p : Nat) (g : Int) (r : Nat) (hp : 1 ≤ p ∧ p ≤ 400) (hg : 1 ≤ g ∧ g ≤ 6000) (hr : r ≤ 4) (d : DI) (h1 : d.ok) :
    Ret Tryd.prog GEs 45 [cx p g r, .lst 1 [i64 d.k, .bool d.neg, ws d.cs, i64 d.e]] (i64 (if d.okIn p g then 0 else 221)) := by
  have hR := ret_Right22 p g r (by omega) (by omega)
  rw [decT (show okC p g r from ⟨by omega, hg, by omega⟩)] at hR
  have l1 := ret_rLarge d.cs (by have := h1.len; omega)
  rw [decF (show ¬ 4096 < d.cs.length by have := h1.len; omega)] at l1
  have o1 := one_of22 p g r hp hg d h1
  obtain ⟨k1, n1, c1, e1⟩ := d
  simp only at *
  unfold cx at *
  rcases o1 with ⟨g1, a1⟩ | ⟨g1, a1, b1⟩
  · skip
    rw [if_neg (show ¬ (DI.okIn p g ⟨k1, n1, c1, e1⟩) from fun h => g1 h.1)]
    refine RetN_start Tryd.func45 (by kernel_rfl) rfl fun Q hQ hQ2 => ?_; rw [Tryd.ntmps45]; simp only [u, i64, Nat.reduceSub, Nat.reduceAdd, bm]
    (refine gO ?_)
    refine G_loop ?_
    refine G_round ?_
    repeat (first | (refine gC ?_; first | refine aA ?_ | (refine cR l1 ?_; refine sX ?_; try refine aA ?_)) | (refine cR l1 ?_; refine sX ?_; try refine aA ?_) | refine gS ?_)
    refine G_round ?_
    repeat (first | (refine gC ?_; first | refine aA ?_ | (refine cR hR ?_; refine sX ?_; try refine aA ?_)) | (refine cR hR ?_; refine sX ?_; try refine aA ?_) | refine gS ?_)
    refine G_loop ?_
    refine G_round ?_
    repeat (first | (refine gC ?_; first | refine aA ?_ | (refine cR a1 ?_; refine sX ?_; try refine aA ?_)) | (refine cR a1 ?_; refine sX ?_; try refine aA ?_) | refine gS ?_)
    (refine FinQ hQ (congrArg Array.toList Tryd.results45) _ _ ?_); simp (disch := omega) only [u, i64, ax, if_true, forall_const, reduceCtorEq, implies_true, tvs, bf]
  · by_cases q1 : inD p g (DI.D ⟨k1, n1, c1, e1⟩)
    · rw [decT q1] at b1
      rw [if_pos (show DI.okIn p g ⟨k1, n1, c1, e1⟩ from ⟨g1, q1⟩)]
      refine RetN_start Tryd.func45 (by kernel_rfl) rfl fun Q hQ hQ2 => ?_; rw [Tryd.ntmps45]; simp only [u, i64, Nat.reduceSub, Nat.reduceAdd, bm]
      (refine gO ?_)
      refine G_loop ?_
      refine G_round ?_
      repeat (first | (refine gC ?_; first | refine aA ?_ | (refine cR l1 ?_; refine sX ?_; try refine aA ?_)) | (refine cR l1 ?_; refine sX ?_; try refine aA ?_) | refine gS ?_)
      refine G_round ?_
      repeat (first | (refine gC ?_; first | refine aA ?_ | (refine cR hR ?_; refine sX ?_; try refine aA ?_)) | (refine cR hR ?_; refine sX ?_; try refine aA ?_) | refine gS ?_)
      refine G_loop ?_
      refine G_round ?_
      repeat (first | (refine gC ?_; first | refine aA ?_ | ((first | refine cR a1 ?_ | refine cR b1 ?_); refine sX ?_; try refine aA ?_)) | ((first | refine cR a1 ?_ | refine cR b1 ?_); refine sX ?_; try refine aA ?_) | refine gS ?_)
      refine G_round ?_
      (refine gO ?_)
      (refine FinQ hQ (congrArg Array.toList Tryd.results45) _ _ ?_); simp (disch := omega) only [u, i64, ax, if_true, forall_const, reduceCtorEq, implies_true, tvs, bf]
    · rw [decF q1] at b1
      rw [if_neg (show ¬ (DI.okIn p g ⟨k1, n1, c1, e1⟩) from fun h => q1 h.2)]
      refine RetN_start Tryd.func45 (by kernel_rfl) rfl fun Q hQ hQ2 => ?_; rw [Tryd.ntmps45]; simp only [u, i64, Nat.reduceSub, Nat.reduceAdd, bm]
      (refine gO ?_)
      refine G_loop ?_
      refine G_round ?_
      repeat (first | (refine gC ?_; first | refine aA ?_ | (refine cR l1 ?_; refine sX ?_; try refine aA ?_)) | (refine cR l1 ?_; refine sX ?_; try refine aA ?_) | refine gS ?_)
      refine G_round ?_
      repeat (first | (refine gC ?_; first | refine aA ?_ | (refine cR hR ?_; refine sX ?_; try refine aA ?_)) | (refine cR hR ?_; refine sX ?_; try refine aA ?_) | refine gS ?_)
      refine G_loop ?_
      refine G_round ?_
      repeat (first | (refine gC ?_; first | refine aA ?_ | ((first | refine cR a1 ?_ | refine cR b1 ?_); refine sX ?_; try refine aA ?_)) | ((first | refine cR a1 ?_ | refine cR b1 ?_); refine sX ?_; try refine aA ?_) | refine gS ?_)
      (refine FinQ hQ (congrArg Array.toList Tryd.results45) _ _ ?_); simp (disch := omega) only [u, i64, ax, if_true, forall_const, reduceCtorEq, implies_true, tvs, bf]
theorem ret_Check22b_1 (p g r : Int) (r1 : -9223372036854775808 ≤ r) (r2 : r < 9223372036854775808) (hb : ¬ okC p g r) (d : DI) (h1 : d.ok) :
    Ret Tryd.prog GEs 45 [cx p g r, .lst 1 [i64 d.k, .bool d.neg, ws d.cs, i64 d.e]] (i64 220) := by
  have hR := ret_Right22 p g r r1 r2
  rw [decF hb] at hR
  have l1 := ret_rLarge d.cs (by have := h1.len; omega)
  rw [decF (show ¬ 4096 < d.cs.length by have := h1.len; omega)] at l1
  clear hb
  unfold cx at *
  refine RetN_start Tryd.func45 (by kernel_rfl) rfl fun Q hQ hQ2 => ?_; rw [Tryd.ntmps45]; simp only [u, i64, Nat.reduceSub, Nat.reduceAdd, bm]
  (refine gO ?_)
  refine G_loop ?_
  refine G_round ?_
  repeat (first | (refine gC ?_; first | refine aA ?_ | (refine cR l1 ?_; refine sX ?_; try refine aA ?_)) | (refine cR l1 ?_; refine sX ?_; try refine aA ?_) | refine gS ?_)
  refine G_round ?_
  repeat (first | (refine gC ?_; first | refine aA ?_ | (refine cR hR ?_; refine sX ?_; try refine aA ?_)) | (refine cR hR ?_; refine sX ?_; try refine aA ?_) | refine gS ?_)
  (refine FinQ hQ (congrArg Array.toList Tryd.results45) _ _ ?_); simp (disch := omega) only [u, i64, ax, if_true, forall_const, reduceCtorEq, implies_true, tvs, bf]
end Go.Proofs
set_option linter.unusedVariables false
set_option linter.unusedSimpArgs false
set_option maxRecDepth 100000
namespace Go.Proofs
open Go.Ax
theorem dg_small {n k : Nat} (h1 : 10 ^ k ≤ n) (h2 : n < 10 ^ (k + 1)) : dg n = k + 1 := dg_eq h1 h2
theorem okDI (n : Nat) (h : n < 1000000) (k : Nat) (hk : k < 3) (e : Int) (he : -100 ≤ e ∧ e ≤ 100) : DI.ok ⟨k, false, [n], e⟩ :=
  ⟨by show -9223372036854775808 ≤ (k : Int); omega, by show (k : Int) < 9223372036854775808; omega, by show -9223372036854775808 ≤ e; omega, by show e < 9223372036854775808; omega, Wd_cons (by omega) Wd_nil, by show 1 ≤ 40; decide⟩
theorem val1 (n : Nat) : val [n] = n := by simp [val]
theorem okIn1 (n : Nat) (e : Int) (k : Nat) (h1 : 10 ^ k ≤ n) (h2 : n < 10 ^ (k + 1)) (hk : k + 1 ≤ 5) (he : -13 ≤ e) (he2 : e + k ≤ 10) : DI.okIn 5 10 ⟨0, false, [n], e⟩ := by
  have hd := dg_small h1 h2
  have hn : n ≠ 0 := by have := ten_pos k; omega
  refine ⟨.inl ⟨rfl, by show -1000000 ≤ e; omega, by show e ≤ 1000000; omega⟩, .inr (.inr ?_)⟩
  show val [n] ≠ 0 ∧ dg (val [n]) ≤ 5 ∧ 1 - 10 - ((5 : Nat) - 1 : Int) ≤ e ∧ e + dg (val [n]) - 1 ≤ 10
  rw [val1, hd]
  exact ⟨hn, hk, by omega, by omega⟩
theorem add_ex1 : addD 5 10 0 ⟨0, false, 120, -2⟩ ⟨0, false, 3, -1⟩ = (⟨0, false, 150, -2⟩, 0) := by
  have h := finD0_self 5 10 0 ⟨0, false, 150, -2⟩ rfl (.inr (.inr ⟨by decide, by rw [show dg 150 = 3 from dg_small (k := 2) (by decide) (by decide)]; decide, by decide, by rw [show dg 150 = 3 from dg_small (k := 2) (by decide) (by decide)]; decide⟩))
  exact h
theorem add_ex2 : addD 5 10 0 ⟨0, false, 99999, 0⟩ ⟨0, false, 2, 0⟩ = (⟨0, false, 10000, 1⟩, 1) := by
  have hd : dg 100001 = 6 := dg_small (k := 5) (by decide) (by decide)
  have hst : st 100001 = 0 := by have := st_of 100001 0 (by decide); simpa using this
  show finD0 5 10 0 false 100001 0 0 = _
  unfold finD0
  rw [if_neg (by decide), finD_ine 5 10 0 false 100001 0 0 (by rw [hd]; decide) (by rw [hd, hst]; decide), hd]
  have hs : stpD 5 10 (0 + ((6 : Nat) : Int) - 1) = 1 := by decide
  rw [hs]
  have hq : quoN 0 false 100001 (10 ^ ((1 : Int) - 0).toNat) = 10000 := by decide
  rw [hq]
  have hd5 : dg 10000 = 5 := dg_small (k := 4) (by decide) (by decide)
  unfold ineD
  rw [if_neg (by decide), hd5]
  rfl
theorem quant_ex : quantD 5 10 0 ⟨0, false, 2675, -3⟩ (-2) = (⟨0, false, 268, -2⟩, 1) := by
  have hd : dg 268 = 3 := dg_small (k := 2) (by decide) (by decide)
  have hN : quantN 0 ⟨0, false, 2675, -3⟩ (-2) = 268 := by decide
  have hX : quantX ⟨0, false, 2675, -3⟩ (-2) = false := by decide
  unfold quantD
  rw [if_neg (by decide), if_neg (by decide), hN, hX]
  rw [if_pos (show inD 5 10 ⟨0, false, 268, -2⟩ from .inr (.inr ⟨by decide, by rw [hd]; decide, by decide, by rw [hd]; decide⟩))]
  rfl
theorem w1 (n : Nat) (h : words n = [n]) : nat n = .lst 1 [.int .u64 n] := by
  unfold nat
  rw [h]
  rfl
set_option maxHeartbeats 2000000 in
theorem ret_awake22 : Ret Tryd.prog GEs 37 [] (.bool true) := by
  have h1 := ret_DAdd 5 10 0 (by decide) (by decide) (by decide) ⟨0, false, [120], -2⟩ ⟨0, false, [3], -1⟩ (okDI 120 (by decide) 0 (by decide) (-2) (by decide)) (okDI 3 (by decide) 0 (by decide) (-1) (by decide))
  rw [if_pos ⟨okIn1 120 (-2) 2 (by decide) (by decide) (by decide) (by decide) (by decide), okIn1 3 (-1) 0 (by decide) (by decide) (by decide) (by decide) (by decide)⟩] at h1
  rw [show DI.D ⟨0, false, [120], -2⟩ = ⟨0, false, 120, -2⟩ by unfold DI.D mkD; rw [val1]; rfl, show DI.D ⟨0, false, [3], -1⟩ = ⟨0, false, 3, -1⟩ by unfold DI.D mkD; rw [val1]; rfl, add_ex1] at h1
  have h2 := ret_DAdd 5 10 0 (by decide) (by decide) (by decide) ⟨0, false, [99999], 0⟩ ⟨0, false, [2], 0⟩ (okDI 99999 (by decide) 0 (by decide) 0 (by decide)) (okDI 2 (by decide) 0 (by decide) 0 (by decide))
  rw [if_pos ⟨okIn1 99999 0 4 (by decide) (by decide) (by decide) (by decide) (by decide), okIn1 2 0 0 (by decide) (by decide) (by decide) (by decide) (by decide)⟩] at h2
  rw [show DI.D ⟨0, false, [99999], 0⟩ = ⟨0, false, 99999, 0⟩ by unfold DI.D mkD; rw [val1]; rfl, show DI.D ⟨0, false, [2], 0⟩ = ⟨0, false, 2, 0⟩ by unfold DI.D mkD; rw [val1]; rfl, add_ex2] at h2
  have h3 := ret_DQuantize 5 10 0 (by decide) (by decide) (by decide) ⟨0, false, [2675], -3⟩ (okDI 2675 (by decide) 0 (by decide) (-3) (by decide)) (-2) (by decide)
  rw [if_pos (okIn1 2675 (-3) 3 (by decide) (by decide) (by decide) (by decide) (by decide))] at h3
  rw [show DI.D ⟨0, false, [2675], -3⟩ = ⟨0, false, 2675, -3⟩ by unfold DI.D mkD; rw [val1]; rfl, quant_ex] at h3
  unfold dv DI.av cx at h1 h2 h3
  simp only at h1 h2 h3
  rw [w1 150 (by decide +kernel)] at h1
  rw [w1 10000 (by decide +kernel)] at h2
  rw [w1 268 (by decide +kernel)] at h3
  refine RetN_start Tryd.func37 (by kernel_rfl) rfl fun Q hQ hQ2 => ?_; rw [Tryd.ntmps37]; simp only [u, i64, Nat.reduceSub, Nat.reduceAdd, bm]
  repeat (first | (refine gC ?_; first | refine aA ?_ | ((first | refine cR h1 ?_ | refine cR h2 ?_ | refine cR h3 ?_); refine sX ?_; try refine aA ?_)) | ((first | refine cR h1 ?_ | refine cR h2 ?_ | refine cR h3 ?_); refine sX ?_; try refine aA ?_) | refine gS ?_)
  simp only [List.append_eq, List.cons_append, List.nil_append]
  (refine gO ?_)
  (refine FinQ hQ (congrArg Array.toList Tryd.results37) _ _ ?_); simp (disch := omega) only [u, i64, ax, if_true, forall_const, reduceCtorEq, implies_true, tvs, bf]
end Go.Proofs
set_option linter.unusedVariables false
set_option linter.unusedSimpArgs false
set_option maxRecDepth 100000
namespace Go.Proofs
open Go.Ax
theorem fzO_allS (s : Bool) (ver n sz : Nat) (cs : List AV) (h : n * sz = cs.length) (hp : pureAs cs = true) : fzO s ver 0 n sz (some ⟨ver, false, cs⟩) = some (.lst n cs) := by
  rw [fzO_some, if_pos (show _ ∧ _ ∧ _ ∧ _ from ⟨rfl, (fun h => rfl), by omega, hp⟩), h, List.drop_zero, List.take_length]
theorem fzO_s1 (s : Bool) (ver : Nat) (k : Int) (n : Bool) (v : List Nat) (e : Int) : fzO s ver 0 1 4 (some ⟨ver, false, [.int .i64 k, .bool n, ws v, .int .i64 e]⟩) = some (.lst 1 [.int .i64 k, .bool n, ws v, .int .i64 e]) :=
  fzO_allS _ _ _ _ _ rfl (by simp only [pAs_cons, pAs_nil, pA_int, pA_bool, pA_lst, us_pure, Bool.and_true])
theorem ret_Args22_1 (p g r z : Int) (d : DI) (hC : Ret Tryd.prog GEs 45 [cx p g r, .lst 1 [i64 d.k, .bool d.neg, ws d.cs, i64 d.e]] (i64 z)) :
    Ret Tryd.prog GEs 35 [cx p g r, .lst 1 [i64 d.k, .bool d.neg, ws d.cs, i64 d.e]] (i64 z) := by
  have hX := ret_Ctx p g r
  have t1 := ret_TheirD d.k d.e d.neg d.cs
  unfold cx at *
  refine RetN_start Tryd.func35 (by kernel_rfl) rfl fun Q hQ hQ2 => ?_; rw [Tryd.ntmps35]; simp only [u, i64, Nat.reduceSub, Nat.reduceAdd, bm]
  (refine gO ?_)
  refine G_loop ?_
  refine G_round ?_
  (refine gO ?_)
  (refine gC ?_)
  (refine cR t1 ?_; refine sX ?_; try refine aA ?_)
  refine ⟨⟨rfl, rfl⟩, ?_⟩
  simp (disch := omega) only [u, i64, ax, eq_self, if_true, if_false, Nat.reduceAdd, Int.reduceToNat, Int.reduceAdd, tvs, bs, Nat.reduceMul, List.take_succ_cons, List.take_zero, List.nil_append, List.cons_append, List.append_nil, Nat.reduceLeDiff]
  refine aft_any ?_
  (refine gO ?_)
  refine G_round ?_
  (refine gO ?_)
  refine G_cool1 ?_
  (refine gC ?_)
  (refine cR hX ?_; refine sX ?_; try refine aA ?_)
  refine callK_ret hC (by (simp (disch := omega) only [if_true, forall_const, reduceCtorEq, implies_true, bz]); rw [fzO_s1]; rfl) ?_
  simp (disch := omega) only [u, i64, ax, eq_self, if_true, if_false, Nat.reduceAdd, Int.reduceToNat, Int.reduceAdd, tvs, bs]
  refine aft_any ?_
  (refine gO ?_)
  (refine FinQ hQ (congrArg Array.toList Tryd.results35) _ _ ?_); simp (disch := omega) only [u, i64, ax, if_true, forall_const, reduceCtorEq, implies_true, tvs, bf]
/-- A wrong context. -/
theorem ret_Args1b (p g r : Int) (r1 : -9223372036854775808 ≤ r) (r2 : r < 9223372036854775808) (hb : ¬ okC p g r) (d : DI) (h : d.ok) : Ret Tryd.prog GEs 110 [cx p g r, .bool false, .lst 1 [i64 d.k, .bool d.neg, ws d.cs, i64 d.e]] (.tup [.lst 0 [], i64 220]) := by
  have hS := ret_sizes1 d (Nat.le_trans h.len (by decide))
  have hC := ret_DCheck p g r r1 r2
  rw [if_neg hb] at hC
  clear hb
  unfold cx at *
  refine RetN_start Tryd.func110 (by kernel_rfl) rfl fun Q hQ hQ2 => ?_; rw [Tryd.ntmps110]; simp only [u, i64, Nat.reduceSub, Nat.reduceAdd, bm]
  repeat (first | (refine gC ?_; first | refine aA ?_ | ((first | refine cR hS ?_ | refine cR hC ?_); refine sX ?_; try refine aA ?_)) | ((first | refine cR hS ?_ | refine cR hC ?_); refine sX ?_; try refine aA ?_) | refine gS ?_)
  (refine FinQ hQ (congrArg Array.toList Tryd.results110) _ _ ?_); simp (disch := omega) only [u, i64, ax, if_true, forall_const, reduceCtorEq, implies_true, tvs, bf]
theorem ret_DReduceB (p g r : Int) (r1 : -9223372036854775808 ≤ r) (r2 : r < 9223372036854775808) (hb : ¬ okC p g r) (d : DI) (h : d.ok) : Ret Tryd.prog GEs 54 [cx p g r, d.av] (.tup [dv zD, i64 220]) := by
  have hA := ret_Args1b p g r r1 r2 hb d h
  clear hb
  rw [dvz]
  unfold DI.av cx at *
  refine RetN_start Tryd.func54 (by kernel_rfl) rfl fun Q hQ hQ2 => ?_; rw [Tryd.ntmps54]; simp only [u, i64, Nat.reduceSub, Nat.reduceAdd, bm]
  (refine gO ?_)
  (refine gC ?_)
  simp (disch := omega) only [u, i64, ax, eq_self, if_true, if_false, Nat.reduceAdd, Int.reduceToNat, Int.reduceAdd, tvs, bs, Nat.reduceMul, List.take_succ_cons, List.take_zero, List.nil_append, List.cons_append, List.append_nil, Nat.reduceLeDiff]
  repeat (first | (refine gC ?_; first | refine aA ?_ | (refine cR hA ?_; refine sX ?_; try refine aA ?_)) | (refine cR hA ?_; refine sX ?_; try refine aA ?_) | refine gS ?_)
  (refine FinQ hQ (congrArg Array.toList Tryd.results54) _ _ ?_); simp (disch := omega) only [u, i64, ax, if_true, forall_const, reduceCtorEq, implies_true, tvs, bf]
end Go.Proofs
set_option linter.unusedVariables false
set_option linter.unusedSimpArgs false
namespace Go.Proofs
open Go.Ax
end Go.Proofs
set_option linter.unusedVariables false
set_option linter.unusedSimpArgs false
namespace Go.Proofs
open Go.Ax
end Go.Proofs
set_option linter.unusedVariables false
set_option linter.unusedSimpArgs false
namespace Go.Proofs
open Go.Ax
end Go.Proofs
set_option linter.unusedVariables false
set_option linter.unusedSimpArgs false
namespace Go.Proofs
open Go.Ax
theorem length_bl {n k : Nat} (h : bl n ≤ 64 * k) : (words n).length ≤ k := length_le (by
  rw [Bpow]
  exact Nat.lt_of_lt_of_le (bl_lt n) (Nat.pow_le_pow_right (by decide) h))
end Go.Proofs
set_option linter.unusedVariables false
set_option linter.unusedSimpArgs false
namespace Go.Proofs
open Go.Ax
end Go.Proofs
set_option linter.unusedVariables false
set_option linter.unusedSimpArgs false
namespace Go.Proofs
open Go.Ax
end Go.Proofs
set_option linter.unusedVariables false
set_option linter.unusedSimpArgs false
namespace Go.Proofs
open Go.Ax
end Go.Proofs
set_option linter.unusedVariables false
set_option linter.unusedSimpArgs false
namespace Go.Proofs
open Go.Ax
theorem cmpI_beq (a b : Nat) : (cmpI a b == 0) = decide (a = b) := by
  unfold cmpI
  by_cases h : a = b
  · subst h; simp
  · rw [decide_eq_false h]
    split
    · rfl
    · split
      · rfl
      · omega
end Go.Proofs
set_option linter.unusedVariables false
set_option linter.unusedSimpArgs false
namespace Go.Proofs
open Go.Ax
/-- The sign of a number. -/
def sgD (x : DV) : Int := if x.kind = 0 ∧ x.coef = 0 then 0 else if x.neg = true then -1 else 1
theorem sgD_b (x : DV) : -1 ≤ sgD x ∧ sgD x ≤ 1 := by unfold sgD; split <;> (try split) <;> omega
theorem ret_dsign (x : DV) (hk : x.kind ≤ 2) (hl : (words x.coef).length ≤ 100000) : Ret Tryd.prog GEs 164 [dv x] (i64 (sgD x)) := by
  have hZ := ret_dzero x hk hl
  unfold sgD
  by_cases h : x.kind = 0 ∧ x.coef = 0
  · rw [decT h] at hZ
    rw [if_pos h]
    unfold dv at *
    refine RetN_start Tryd.func164 (by kernel_rfl) rfl fun Q hQ hQ2 => ?_; rw [Tryd.ntmps164]; simp only [u, i64, Nat.reduceSub, Nat.reduceAdd, bm]
    repeat (first | (refine gC ?_; first | refine aA ?_ | (refine cR hZ ?_; refine sX ?_; try refine aA ?_)) | (refine cR hZ ?_; refine sX ?_; try refine aA ?_) | refine gS ?_)
    (refine FinQ hQ (congrArg Array.toList Tryd.results164) _ _ ?_); simp (disch := omega) only [u, i64, ax, if_true, forall_const, reduceCtorEq, implies_true, tvs, bf]
  · rw [decF h] at hZ
    rw [if_neg h]
    obtain ⟨kd, ng, c, e⟩ := x
    unfold dv at *
    simp only at *
    cases ng with
    | true =>
      refine RetN_start Tryd.func164 (by kernel_rfl) rfl fun Q hQ hQ2 => ?_; rw [Tryd.ntmps164]; simp only [u, i64, Nat.reduceSub, Nat.reduceAdd, bm]
      repeat (first | (refine gC ?_; first | refine aA ?_ | (refine cR hZ ?_; refine sX ?_; try refine aA ?_)) | (refine cR hZ ?_; refine sX ?_; try refine aA ?_) | refine gS ?_)
      (refine FinQ hQ (congrArg Array.toList Tryd.results164) _ _ ?_); simp (disch := omega) only [u, i64, ax, if_true, forall_const, reduceCtorEq, implies_true, tvs, bf]
      all_goals rfl
    | false =>
      refine RetN_start Tryd.func164 (by kernel_rfl) rfl fun Q hQ hQ2 => ?_; rw [Tryd.ntmps164]; simp only [u, i64, Nat.reduceSub, Nat.reduceAdd, bm]
      repeat (first | (refine gC ?_; first | refine aA ?_ | (refine cR hZ ?_; refine sX ?_; try refine aA ?_)) | (refine cR hZ ?_; refine sX ?_; try refine aA ?_) | refine gS ?_)
      (refine FinQ hQ (congrArg Array.toList Tryd.results164) _ _ ?_); simp (disch := omega) only [u, i64, ax, if_true, forall_const, reduceCtorEq, implies_true, tvs, bf]
      all_goals rfl
/-- Two numbers that are not NaN, compared. -/
def cmpD (x y : DV) : Int :=
  if sgD x < sgD y then -1 else if sgD y < sgD x then 1
  else if sgD x = 0 then 0
  else if x.kind = 1 then (if y.kind = 1 then 0 else sgD x)
  else if y.kind = 1 then 0 - sgD x
  else if x.exp + dg x.coef < y.exp + dg y.coef then 0 - sgD x
  else if y.exp + dg y.coef < x.exp + dg x.coef then sgD x
  else sgD x * cmpI (x.coef * 10 ^ (x.exp - min x.exp y.exp).toNat) (y.coef * 10 ^ (y.exp - min x.exp y.exp).toNat)
set_option maxRecDepth 100000 in
set_option maxHeartbeats 2000000 in
theorem ret_dcompare (x y : DV) (hx : x.kind ≤ 1) (hy : y.kind ≤ 1) (lx : (words x.coef).length ≤ 90) (ly : (words y.coef).length ≤ 90) (ex : -1000000 ≤ x.exp ∧ x.exp ≤ 1000000) (ey : -1000000 ≤ y.exp ∧ y.exp ≤ 1000000) :
    Ret Tryd.prog GEs 122 [dv x, dv y] (i64 (cmpD x y)) := by
  have hSx := ret_dsign x (by omega) (by omega)
  have hSy := ret_dsign y (by omega) (by omega)
  have bx := sgD_b x
  have bby := sgD_b y
  have hDx := ret_WDigits x.coef (by omega)
  have hDy := ret_WDigits y.coef (by omega)
  have b1 := bl_len x.coef
  have b2 := dg_le_bl x.coef
  have b3 := bl_len y.coef
  have b4 := dg_le_bl y.coef
  unfold cmpD
  generalize sgD x = a at *
  generalize sgD y = b at *
  obtain ⟨k1, n1, c1, e1⟩ := x
  obtain ⟨k2, n2, c2, e2⟩ := y
  simp only at *
  by_cases q1 : a < b
  · rw [if_pos q1]
    unfold dv at *
    simp only at *
    refine RetN_start Tryd.func122 (by kernel_rfl) rfl fun Q hQ hQ2 => ?_; rw [Tryd.ntmps122]; simp only [u, i64, Nat.reduceSub, Nat.reduceAdd, bm]
    repeat (first | (refine gC ?_; first | refine aA ?_ | ((first | refine cR hSx ?_ | refine cR hSy ?_); refine sX ?_; try refine aA ?_)) | ((first | refine cR hSx ?_ | refine cR hSy ?_); refine sX ?_; try refine aA ?_) | refine gS ?_)
    (refine FinQ hQ (congrArg Array.toList Tryd.results122) _ _ ?_); simp (disch := omega) only [u, i64, ax, if_true, forall_const, reduceCtorEq, implies_true, tvs, bf]
    all_goals rfl
  by_cases q2 : b < a
  · rw [if_neg q1, if_pos q2]
    unfold dv at *
    simp only at *
    refine RetN_start Tryd.func122 (by kernel_rfl) rfl fun Q hQ hQ2 => ?_; rw [Tryd.ntmps122]; simp only [u, i64, Nat.reduceSub, Nat.reduceAdd, bm]
    repeat (first | (refine gC ?_; first | refine aA ?_ | ((first | refine cR hSx ?_ | refine cR hSy ?_); refine sX ?_; try refine aA ?_)) | ((first | refine cR hSx ?_ | refine cR hSy ?_); refine sX ?_; try refine aA ?_) | refine gS ?_)
    (refine FinQ hQ (congrArg Array.toList Tryd.results122) _ _ ?_); simp (disch := omega) only [u, i64, ax, if_true, forall_const, reduceCtorEq, implies_true, tvs, bf]
  rw [if_neg q1, if_neg q2]
  have hab : b = a := by omega
  subst hab
  by_cases q3 : b = 0
  · rw [if_pos q3]
    unfold dv at *
    simp only at *
    refine RetN_start Tryd.func122 (by kernel_rfl) rfl fun Q hQ hQ2 => ?_; rw [Tryd.ntmps122]; simp only [u, i64, Nat.reduceSub, Nat.reduceAdd, bm]
    repeat (first | (refine gC ?_; first | refine aA ?_ | ((first | refine cR hSx ?_ | refine cR hSy ?_); refine sX ?_; try refine aA ?_)) | ((first | refine cR hSx ?_ | refine cR hSy ?_); refine sX ?_; try refine aA ?_) | refine gS ?_)
    (refine FinQ hQ (congrArg Array.toList Tryd.results122) _ _ ?_); simp (disch := omega) only [u, i64, ax, if_true, forall_const, reduceCtorEq, implies_true, tvs, bf]
  rw [if_neg q3]
  by_cases q4 : k1 = 1
  · rw [if_pos q4]
    by_cases q5 : k2 = 1
    · rw [if_pos q5]
      unfold dv at *
      simp only at *
      refine RetN_start Tryd.func122 (by kernel_rfl) rfl fun Q hQ hQ2 => ?_; rw [Tryd.ntmps122]; simp only [u, i64, Nat.reduceSub, Nat.reduceAdd, bm]
      repeat (first | (refine gC ?_; first | refine aA ?_ | ((first | refine cR hSx ?_ | refine cR hSy ?_); refine sX ?_; try refine aA ?_)) | ((first | refine cR hSx ?_ | refine cR hSy ?_); refine sX ?_; try refine aA ?_) | refine gS ?_)
      (refine FinQ hQ (congrArg Array.toList Tryd.results122) _ _ ?_); simp (disch := omega) only [u, i64, ax, if_true, forall_const, reduceCtorEq, implies_true, tvs, bf]
    · rw [if_neg q5]
      unfold dv at *
      simp only at *
      refine RetN_start Tryd.func122 (by kernel_rfl) rfl fun Q hQ hQ2 => ?_; rw [Tryd.ntmps122]; simp only [u, i64, Nat.reduceSub, Nat.reduceAdd, bm]
      repeat (first | (refine gC ?_; first | refine aA ?_ | ((first | refine cR hSx ?_ | refine cR hSy ?_); refine sX ?_; try refine aA ?_)) | ((first | refine cR hSx ?_ | refine cR hSy ?_); refine sX ?_; try refine aA ?_) | refine gS ?_)
      (refine FinQ hQ (congrArg Array.toList Tryd.results122) _ _ ?_); simp (disch := omega) only [u, i64, ax, if_true, forall_const, reduceCtorEq, implies_true, tvs, bf]
  rw [if_neg q4]
  by_cases q5 : k2 = 1
  · rw [if_pos q5]
    unfold dv at *
    simp only at *
    refine RetN_start Tryd.func122 (by kernel_rfl) rfl fun Q hQ hQ2 => ?_; rw [Tryd.ntmps122]; simp only [u, i64, Nat.reduceSub, Nat.reduceAdd, bm]
    repeat (first | (refine gC ?_; first | refine aA ?_ | ((first | refine cR hSx ?_ | refine cR hSy ?_); refine sX ?_; try refine aA ?_)) | ((first | refine cR hSx ?_ | refine cR hSy ?_); refine sX ?_; try refine aA ?_) | refine gS ?_)
    (refine FinQ hQ (congrArg Array.toList Tryd.results122) _ _ ?_); simp (disch := omega) only [u, i64, ax, if_true, forall_const, reduceCtorEq, implies_true, tvs, bf]
  rw [if_neg q5]
  by_cases q6 : e1 + dg c1 < e2 + dg c2
  · rw [if_pos q6]
    unfold dv at *
    simp only at *
    refine RetN_start Tryd.func122 (by kernel_rfl) rfl fun Q hQ hQ2 => ?_; rw [Tryd.ntmps122]; simp only [u, i64, Nat.reduceSub, Nat.reduceAdd, bm]
    repeat (first | (refine gC ?_; first | refine aA ?_ | ((first | refine cR hSx ?_ | refine cR hSy ?_ | refine cR hDx ?_ | refine cR hDy ?_); refine sX ?_; try refine aA ?_)) | ((first | refine cR hSx ?_ | refine cR hSy ?_ | refine cR hDx ?_ | refine cR hDy ?_); refine sX ?_; try refine aA ?_) | refine gS ?_)
    (refine FinQ hQ (congrArg Array.toList Tryd.results122) _ _ ?_); simp (disch := omega) only [u, i64, ax, if_true, forall_const, reduceCtorEq, implies_true, tvs, bf]
  rw [if_neg q6]
  by_cases q7 : e2 + dg c2 < e1 + dg c1
  · rw [if_pos q7]
    unfold dv at *
    simp only at *
    refine RetN_start Tryd.func122 (by kernel_rfl) rfl fun Q hQ hQ2 => ?_; rw [Tryd.ntmps122]; simp only [u, i64, Nat.reduceSub, Nat.reduceAdd, bm]
    repeat (first | (refine gC ?_; first | refine aA ?_ | ((first | refine cR hSx ?_ | refine cR hSy ?_ | refine cR hDx ?_ | refine cR hDy ?_); refine sX ?_; try refine aA ?_)) | ((first | refine cR hSx ?_ | refine cR hSy ?_ | refine cR hDx ?_ | refine cR hDy ?_); refine sX ?_; try refine aA ?_) | refine gS ?_)
    (refine FinQ hQ (congrArg Array.toList Tryd.results122) _ _ ?_); simp (disch := omega) only [u, i64, ax, if_true, forall_const, reduceCtorEq, implies_true, tvs, bf]
  rw [if_neg q7]
  have hTx := ret_Ten (e1 - min e1 e2).toNat (by omega)
  have hTy := ret_Ten (e2 - min e1 e2).toNat (by omega)
  have tx := ten_len (k := (e1 - min e1 e2).toNat) (by omega)
  have ty := ten_len (k := (e2 - min e1 e2).toNat) (by omega)
  have hMx := ret_Mul (words c1) (words (10 ^ (e1 - min e1 e2).toNat)) (Wd_words _) (Wd_words _) (by omega) (by omega)
  have hMy := ret_Mul (words c2) (words (10 ^ (e2 - min e1 e2).toNat)) (Wd_words _) (Wd_words _) (by omega) (by omega)
  rw [val_words, val_words] at hMx hMy
  have mx := length_mul c1 (10 ^ (e1 - min e1 e2).toNat)
  have my := length_mul c2 (10 ^ (e2 - min e1 e2).toNat)
  have hcx : e1 - min e1 e2 = (((e1 - min e1 e2).toNat : Nat) : Int) := by omega
  have hcy : e2 - min e1 e2 = (((e2 - min e1 e2).toNat : Nat) : Int) := by omega
  generalize c1 * 10 ^ (e1 - min e1 e2).toNat = A at *
  generalize c2 * 10 ^ (e2 - min e1 e2).toNat = B at *
  have hC := ret_Cmp (words A) (words B) (Wd_words _) (Wd_words _) (by omega) (by omega)
  rw [val_words, val_words] at hC
  have hcb : -1 ≤ cmpI A B ∧ cmpI A B ≤ 1 := by unfold cmpI; split <;> (try split) <;> omega
  generalize cmpI A B = cc at *
  generalize hE : min e1 e2 = E at *
  generalize (e1 - E).toNat = t1 at *
  generalize (e2 - E).toNat = t2 at *
  generalize 10 ^ t1 = T1 at *
  generalize 10 ^ t2 = T2 at *
  have hb1 : b = 1 ∨ b = -1 := by omega
  unfold dv at *
  simp only at *
  rcases hb1 with rfl | rfl
  · skip
    refine RetN_start Tryd.func122 (by kernel_rfl) rfl fun Q hQ hQ2 => ?_; rw [Tryd.ntmps122]; simp only [u, i64, Nat.reduceSub, Nat.reduceAdd, bm]
    repeat (first | (refine gC ?_; first | refine aA ?_ | ((first | refine cR hSx ?_ | refine cR hSy ?_ | refine cR hDx ?_ | refine cR hDy ?_); refine sX ?_; try refine aA ?_)) | ((first | refine cR hSx ?_ | refine cR hSy ?_ | refine cR hDx ?_ | refine cR hDy ?_); refine sX ?_; try refine aA ?_) | refine gS ?_)
    (refine gC ?_)
    rw [hE, hcx]
    (refine cR hTx ?_; refine sX ?_; try refine aA ?_)
    (refine cR hMx ?_; refine sX ?_; try refine aA ?_)
    rw [hcy]
    repeat (first | (refine gC ?_; first | refine aA ?_ | ((first | refine cR hTy ?_ | refine cR hMy ?_ | refine cR hC ?_); refine sX ?_; try refine aA ?_)) | ((first | refine cR hTy ?_ | refine cR hMy ?_ | refine cR hC ?_); refine sX ?_; try refine aA ?_) | refine gS ?_)
    (refine FinQ hQ (congrArg Array.toList Tryd.results122) _ _ ?_); simp (disch := omega) only [u, i64, ax, if_true, forall_const, reduceCtorEq, implies_true, tvs, bf]
  · skip
    refine RetN_start Tryd.func122 (by kernel_rfl) rfl fun Q hQ hQ2 => ?_; rw [Tryd.ntmps122]; simp only [u, i64, Nat.reduceSub, Nat.reduceAdd, bm]
    repeat (first | (refine gC ?_; first | refine aA ?_ | ((first | refine cR hSx ?_ | refine cR hSy ?_ | refine cR hDx ?_ | refine cR hDy ?_); refine sX ?_; try refine aA ?_)) | ((first | refine cR hSx ?_ | refine cR hSy ?_ | refine cR hDx ?_ | refine cR hDy ?_); refine sX ?_; try refine aA ?_) | refine gS ?_)
    (refine gC ?_)
    rw [hE, hcx]
    (refine cR hTx ?_; refine sX ?_; try refine aA ?_)
    (refine cR hMx ?_; refine sX ?_; try refine aA ?_)
    rw [hcy]
    repeat (first | (refine gC ?_; first | refine aA ?_ | ((first | refine cR hTy ?_ | refine cR hMy ?_ | refine cR hC ?_); refine sX ?_; try refine aA ?_)) | ((first | refine cR hTy ?_ | refine cR hMy ?_ | refine cR hC ?_); refine sX ?_; try refine aA ?_) | refine gS ?_)
    (refine FinQ hQ (congrArg Array.toList Tryd.results122) _ _ ?_); simp (disch := omega) only [u, i64, ax, if_true, forall_const, reduceCtorEq, implies_true, tvs, bf]
end Go.Proofs
set_option linter.unusedVariables false
set_option linter.unusedSimpArgs false
set_option maxRecDepth 100000
namespace Go.Proofs
open Go.Ax
set_option maxRecDepth 100000 in
set_option maxHeartbeats 1000000 in
theorem ret_DCompare (d c : DI) (h1 : d.ok) (h2 : c.ok) :
    Ret Tryd.prog GEs 58 [d.av, c.av] (if d.good ∧ c.good then (if d.D.kind = 2 ∨ c.D.kind = 2 then .tup [i64 0, .bool false, i64 0] else .tup [i64 (cmpD d.D c.D), .bool true, i64 0]) else .tup [i64 0, .bool false, i64 221]) := by
  have hA := ret_rights2 d c h1 h2
  by_cases h : d.good ∧ c.good
  · rw [if_pos h] at hA ⊢
    obtain ⟨q1, q2, q3⟩ := goodD_right h.1
    obtain ⟨r1, r2, r3⟩ := goodD_right h.2
    have k1 : d.D.kind = 2 ↔ d.k = 2 := by show d.k.toNat = 2 ↔ _; omega
    have k2 : c.D.kind = 2 ↔ c.k = 2 := by show c.k.toNat = 2 ↔ _; omega
    by_cases a1 : d.k = 2
    · rw [if_pos (Or.inl (k1.2 a1))]
      clear q1 r1 k1 k2
      unfold DI.av
      generalize val d.cs = v1 at *
      generalize val c.cs = v2 at *
      refine RetN_start Tryd.func58 (by kernel_rfl) rfl fun Q hQ hQ2 => ?_; rw [Tryd.ntmps58]; simp only [u, i64, Nat.reduceSub, Nat.reduceAdd, bm]
      (refine gO ?_)
      (refine gC ?_)
      simp (disch := omega) only [u, i64, ax, eq_self, if_true, if_false, Nat.reduceAdd, Int.reduceToNat, Int.reduceAdd, tvs, bs, Nat.reduceMul, List.take_succ_cons, List.take_zero, List.nil_append, List.cons_append, List.append_nil, Nat.reduceLeDiff]
      repeat (first | (refine gC ?_; first | refine aA ?_ | (refine cR hA ?_; refine sX ?_; try refine aA ?_)) | (refine cR hA ?_; refine sX ?_; try refine aA ?_) | refine gS ?_)
      (refine FinQ hQ (congrArg Array.toList Tryd.results58) _ _ ?_); simp (disch := omega) only [u, i64, ax, if_true, forall_const, reduceCtorEq, implies_true, tvs, bf]
    by_cases a2 : c.k = 2
    · rw [if_pos (Or.inr (k2.2 a2))]
      clear q1 r1 k1 k2
      unfold DI.av
      generalize val d.cs = v1 at *
      generalize val c.cs = v2 at *
      refine RetN_start Tryd.func58 (by kernel_rfl) rfl fun Q hQ hQ2 => ?_; rw [Tryd.ntmps58]; simp only [u, i64, Nat.reduceSub, Nat.reduceAdd, bm]
      (refine gO ?_)
      (refine gC ?_)
      simp (disch := omega) only [u, i64, ax, eq_self, if_true, if_false, Nat.reduceAdd, Int.reduceToNat, Int.reduceAdd, tvs, bs, Nat.reduceMul, List.take_succ_cons, List.take_zero, List.nil_append, List.cons_append, List.append_nil, Nat.reduceLeDiff]
      repeat (first | (refine gC ?_; first | refine aA ?_ | (refine cR hA ?_; refine sX ?_; try refine aA ?_)) | (refine cR hA ?_; refine sX ?_; try refine aA ?_) | refine gS ?_)
      (refine FinQ hQ (congrArg Array.toList Tryd.results58) _ _ ?_); simp (disch := omega) only [u, i64, ax, if_true, forall_const, reduceCtorEq, implies_true, tvs, bf]
    rw [if_neg (fun h => by rcases h with h | h; exact a1 (k1.1 h); exact a2 (k2.1 h))]
    have e1 : -1000000 ≤ d.e ∧ d.e ≤ 1000000 := by have := h.1; unfold DI.good goodD at this; omega
    have e2 : -1000000 ≤ c.e ∧ c.e ≤ 1000000 := by have := h.2; unfold DI.good goodD at this; omega
    have hC := ret_dcompare d.D c.D (by show d.k.toNat ≤ 1; omega) (by show c.k.toNat ≤ 1; omega) (Nat.le_trans (d.len_le h1) (by decide)) (Nat.le_trans (c.len_le h2) (by decide)) e1 e2
    rw [DI.dv_eq h.1, DI.dv_eq h.2] at hC
    clear q1 r1 k1 k2
    generalize cmpD d.D c.D = z at *
    unfold DI.av
    generalize val d.cs = v1 at *
    generalize val c.cs = v2 at *
    refine RetN_start Tryd.func58 (by kernel_rfl) rfl fun Q hQ hQ2 => ?_; rw [Tryd.ntmps58]; simp only [u, i64, Nat.reduceSub, Nat.reduceAdd, bm]
    (refine gO ?_)
    (refine gC ?_)
    simp (disch := omega) only [u, i64, ax, eq_self, if_true, if_false, Nat.reduceAdd, Int.reduceToNat, Int.reduceAdd, tvs, bs, Nat.reduceMul, List.take_succ_cons, List.take_zero, List.nil_append, List.cons_append, List.append_nil, Nat.reduceLeDiff]
    repeat (first | (refine gC ?_; first | refine aA ?_ | ((first | refine cR hA ?_ | refine cR hC ?_); refine sX ?_; try refine aA ?_)) | ((first | refine cR hA ?_ | refine cR hC ?_); refine sX ?_; try refine aA ?_) | refine gS ?_)
    (refine FinQ hQ (congrArg Array.toList Tryd.results58) _ _ ?_); simp (disch := omega) only [u, i64, ax, if_true, forall_const, reduceCtorEq, implies_true, tvs, bf]
  · rw [if_neg h] at hA ⊢
    unfold DI.av
    refine RetN_start Tryd.func58 (by kernel_rfl) rfl fun Q hQ hQ2 => ?_; rw [Tryd.ntmps58]; simp only [u, i64, Nat.reduceSub, Nat.reduceAdd, bm]
    (refine gO ?_)
    (refine gC ?_)
    simp (disch := omega) only [u, i64, ax, eq_self, if_true, if_false, Nat.reduceAdd, Int.reduceToNat, Int.reduceAdd, tvs, bs, Nat.reduceMul, List.take_succ_cons, List.take_zero, List.nil_append, List.cons_append, List.append_nil, Nat.reduceLeDiff]
    repeat (first | (refine gC ?_; first | refine aA ?_ | (refine cR hA ?_; refine sX ?_; try refine aA ?_)) | (refine cR hA ?_; refine sX ?_; try refine aA ?_) | refine gS ?_)
    (refine FinQ hQ (congrArg Array.toList Tryd.results58) _ _ ?_); simp (disch := omega) only [u, i64, ax, if_true, forall_const, reduceCtorEq, implies_true, tvs, bf]
/-- Are two numbers the same? -/
def sameD (d c : DI) : Prop := d.good ∧ c.good ∧ d.k = c.k ∧ d.neg = c.neg ∧ d.e = c.e ∧ val d.cs = val c.cs
instance (d c : DI) : Decidable (sameD d c) := by unfold sameD; infer_instance
set_option maxRecDepth 100000 in
set_option maxHeartbeats 1000000 in
theorem ret_DSame (d c : DI) (h1 : d.ok) (h2 : c.ok) : Ret Tryd.prog GEs 51 [d.av, c.av] (.bool (decide (sameD d c))) := by
  obtain ⟨k', n', v', e', hC, hE⟩ := ret_dcanonical d.k d.neg d.cs d.e h1.k1 h1.k2 h1.e1 h1.e2 h1.wd (Nat.le_trans h1.len (by decide))
  obtain ⟨k'', n'', v'', e'', hC2, hE2⟩ := ret_dcanonical c.k c.neg c.cs c.e h2.k1 h2.k2 h2.e1 h2.e2 h2.wd (Nat.le_trans h2.len (by decide))
  by_cases g1 : d.good
  · by_cases g2 : c.good
    · obtain ⟨rfl, rfl, rfl, rfl⟩ := hE g1
      obtain ⟨rfl, rfl, rfl, rfl⟩ := hE2 g2
      rw [decT (show goodD d.k d.neg (val d.cs) d.e from g1)] at hC
      rw [decT (show goodD c.k c.neg (val c.cs) c.e from g2)] at hC2
      have l1 := length_words_val_le h1.wd
      have l2 := length_words_val_le h2.wd
      have l3 := h1.len
      have l4 := h2.len
      have hCm := ret_Cmp (words (val d.cs)) (words (val c.cs)) (Wd_words _) (Wd_words _) (by omega) (by omega)
      rw [val_words, val_words] at hCm
      have hs := cmpI_beq (val d.cs) (val c.cs)
      have hsm : sameD d c ↔ (d.k = c.k ∧ d.neg = c.neg ∧ d.e = c.e ∧ val d.cs = val c.cs) := ⟨fun h => h.2.2, fun h => ⟨g1, g2, h⟩⟩
      have hsd : decide (sameD d c) = decide (d.k = c.k ∧ d.neg = c.neg ∧ d.e = c.e ∧ val d.cs = val c.cs) := by rw [decide_eq_decide]; exact hsm
      rw [hsd]
      clear hsm hsd hE hE2 g1 g2
      unfold DI.av
      generalize d.k = dk at *
      generalize d.neg = dn at *
      generalize d.e = de at *
      generalize val d.cs = dv at *
      generalize c.k = ck at *
      generalize c.neg = cn at *
      generalize c.e = ce at *
      generalize val c.cs = cv at *
      generalize cmpI dv cv = cc at *
      by_cases b1 : dk = ck
      · subst b1
        by_cases b2 : dn = cn
        · subst b2
          have hbb : (dn == dn) = true := by cases dn <;> rfl
          by_cases b3 : de = ce
          · subst b3
            rw [show decide (dk = dk ∧ dn = dn ∧ de = de ∧ dv = cv) = decide (dv = cv) by simp, ← hs]
            refine RetN_start Tryd.func51 (by kernel_rfl) rfl fun Q hQ hQ2 => ?_; rw [Tryd.ntmps51]; simp only [u, i64, Nat.reduceSub, Nat.reduceAdd, bm]
            repeat (first | (refine gC ?_; first | refine aA ?_ | ((first | refine cR hC ?_ | refine cR hC2 ?_); refine sX ?_; try refine aA ?_)) | ((first | refine cR hC ?_ | refine cR hC2 ?_); refine sX ?_; try refine aA ?_) | refine gS ?_)
            (refine gC ?_)
            rw [hbb]
            simp (disch := omega) only [u, i64, ax, eq_self, if_true, if_false, Nat.reduceAdd, Int.reduceToNat, Int.reduceAdd, tvs, bs]
            repeat (first | (refine gC ?_; first | refine aA ?_ | (refine cR hCm ?_; refine sX ?_; try refine aA ?_)) | (refine cR hCm ?_; refine sX ?_; try refine aA ?_) | refine gS ?_)
            (refine FinQ hQ (congrArg Array.toList Tryd.results51) _ _ ?_); simp (disch := omega) only [u, i64, ax, if_true, forall_const, reduceCtorEq, implies_true, tvs, bf]
          · rw [decF (show ¬ (dk = dk ∧ dn = dn ∧ de = ce ∧ dv = cv) from fun h => b3 h.2.2.1)]
            refine RetN_start Tryd.func51 (by kernel_rfl) rfl fun Q hQ hQ2 => ?_; rw [Tryd.ntmps51]; simp only [u, i64, Nat.reduceSub, Nat.reduceAdd, bm]
            repeat (first | (refine gC ?_; first | refine aA ?_ | ((first | refine cR hC ?_ | refine cR hC2 ?_); refine sX ?_; try refine aA ?_)) | ((first | refine cR hC ?_ | refine cR hC2 ?_); refine sX ?_; try refine aA ?_) | refine gS ?_)
            (refine gC ?_)
            rw [hbb]
            simp (disch := omega) only [u, i64, ax, eq_self, if_true, if_false, Nat.reduceAdd, Int.reduceToNat, Int.reduceAdd, tvs, bs]
            refine aft_any ?_
            (refine gO ?_)
            (refine FinQ hQ (congrArg Array.toList Tryd.results51) _ _ ?_); simp (disch := omega) only [u, i64, ax, if_true, forall_const, reduceCtorEq, implies_true, tvs, bf]
        · rw [decF (show ¬ (dk = dk ∧ dn = cn ∧ de = ce ∧ dv = cv) from fun h => b2 h.2.1)]
          have hbb : (dn == cn) = false := by cases dn <;> cases cn <;> first | rfl | exact absurd rfl b2
          refine RetN_start Tryd.func51 (by kernel_rfl) rfl fun Q hQ hQ2 => ?_; rw [Tryd.ntmps51]; simp only [u, i64, Nat.reduceSub, Nat.reduceAdd, bm]
          repeat (first | (refine gC ?_; first | refine aA ?_ | ((first | refine cR hC ?_ | refine cR hC2 ?_); refine sX ?_; try refine aA ?_)) | ((first | refine cR hC ?_ | refine cR hC2 ?_); refine sX ?_; try refine aA ?_) | refine gS ?_)
          (refine gC ?_)
          rw [hbb]
          simp (disch := omega) only [u, i64, ax, eq_self, if_true, if_false, Nat.reduceAdd, Int.reduceToNat, Int.reduceAdd, tvs, bs]
          refine aft_any ?_
          (refine gO ?_)
          (refine FinQ hQ (congrArg Array.toList Tryd.results51) _ _ ?_); simp (disch := omega) only [u, i64, ax, if_true, forall_const, reduceCtorEq, implies_true, tvs, bf]
      · rw [decF (show ¬ (dk = ck ∧ dn = cn ∧ de = ce ∧ dv = cv) from fun h => b1 h.1)]
        refine RetN_start Tryd.func51 (by kernel_rfl) rfl fun Q hQ hQ2 => ?_; rw [Tryd.ntmps51]; simp only [u, i64, Nat.reduceSub, Nat.reduceAdd, bm]
        repeat (first | (refine gC ?_; first | refine aA ?_ | ((first | refine cR hC ?_ | refine cR hC2 ?_); refine sX ?_; try refine aA ?_)) | ((first | refine cR hC ?_ | refine cR hC2 ?_); refine sX ?_; try refine aA ?_) | refine gS ?_)
        (refine FinQ hQ (congrArg Array.toList Tryd.results51) _ _ ?_); simp (disch := omega) only [u, i64, ax, if_true, forall_const, reduceCtorEq, implies_true, tvs, bf]
    · rw [decF (show ¬ sameD d c from fun h => g2 h.2.1)]
      rw [decT (show goodD d.k d.neg (val d.cs) d.e from g1)] at hC
      rw [decF (show ¬ goodD c.k c.neg (val c.cs) c.e from g2)] at hC2
      clear hE hE2
      unfold DI.av
      refine RetN_start Tryd.func51 (by kernel_rfl) rfl fun Q hQ hQ2 => ?_; rw [Tryd.ntmps51]; simp only [u, i64, Nat.reduceSub, Nat.reduceAdd, bm]
      repeat (first | (refine gC ?_; first | refine aA ?_ | ((first | refine cR hC ?_ | refine cR hC2 ?_); refine sX ?_; try refine aA ?_)) | ((first | refine cR hC ?_ | refine cR hC2 ?_); refine sX ?_; try refine aA ?_) | refine gS ?_)
      (refine FinQ hQ (congrArg Array.toList Tryd.results51) _ _ ?_); simp (disch := omega) only [u, i64, ax, if_true, forall_const, reduceCtorEq, implies_true, tvs, bf]
  · rw [decF (show ¬ sameD d c from fun h => g1 h.1)]
    rw [decF (show ¬ goodD d.k d.neg (val d.cs) d.e from g1)] at hC
    clear hE hE2
    unfold DI.av
    refine RetN_start Tryd.func51 (by kernel_rfl) rfl fun Q hQ hQ2 => ?_; rw [Tryd.ntmps51]; simp only [u, i64, Nat.reduceSub, Nat.reduceAdd, bm]
    repeat (first | (refine gC ?_; first | refine aA ?_ | ((first | refine cR hC ?_ | refine cR hC2 ?_); refine sX ?_; try refine aA ?_)) | ((first | refine cR hC ?_ | refine cR hC2 ?_); refine sX ?_; try refine aA ?_) | refine gS ?_)
    (refine FinQ hQ (congrArg Array.toList Tryd.results51) _ _ ?_); simp (disch := omega) only [u, i64, ax, if_true, forall_const, reduceCtorEq, implies_true, tvs, bf]
end Go.Proofs
set_option linter.unusedVariables false
set_option linter.unusedSimpArgs false
set_option maxRecDepth 100000
namespace Go.Proofs
open Go.Ax
/-- Of the type. -/
structure DI.pre (d : DI) : Prop where
  k1 : -9223372036854775808 ≤ d.k
  k2 : d.k < 9223372036854775808
  e1 : -9223372036854775808 ≤ d.e
  e2 : d.e < 9223372036854775808
  wd : Wd d.cs
  len : d.cs.length ≤ 9223372036854775807
theorem DI.pre.ok {d : DI} (h : d.pre) (hl : d.cs.length ≤ 40) : d.ok := ⟨h.k1, h.k2, h.e1, h.e2, h.wd, hl⟩
theorem same_self (d : DI) : sameD d d ↔ d.good := ⟨fun h => h.1, fun h => ⟨h, h, rfl, rfl, rfl, rfl⟩⟩
/-- A decimal number as an argument. -/
def toDI (x : DV) : DI := ⟨x.kind, x.neg, words x.coef, x.exp⟩
theorem toDI_D (x : DV) : (toDI x).D = x := by
  unfold DI.D toDI mkD
  simp only
  rw [val_words]
  rfl
theorem toDI_good {x : DV} (h : rightD x) : (toDI x).good := by
  unfold DI.good toDI goodD
  simp only
  rw [val_words]
  unfold rightD at h
  rcases h with h | h | h
  · exact .inl ⟨by omega, h.2⟩
  · exact .inr (.inl ⟨by omega, h.2⟩)
  · exact .inr (.inr ⟨by omega, h.2⟩)
theorem in_len {p : Nat} {g : Int} {x : DV} (hp : p ≤ 400) (hr : rightD x) (h : inD p g x) : (words x.coef).length ≤ 40 := by
  have hb := bl_le_dg x.coef
  rcases h with h | h | h
  · have h0 : x.coef = 0 := by
      rcases hr with hr | hr | hr
      · exact absurd hr.1 h
      · exact hr.2.2
      · exact hr.2.2.2
    rw [h0]; decide
  · rw [h.1]; decide
  · exact Nat.le_trans (length_bl (k := 25) (by omega)) (by decide)
theorem toDI_ok {x : DV} (hr : rightD x) (hl : (words x.coef).length ≤ 40) : (toDI x).ok := by
  unfold rightD at hr
  exact ⟨by show -9223372036854775808 ≤ (x.kind : Int); omega, by show (x.kind : Int) < 9223372036854775808; omega, by show -9223372036854775808 ≤ x.exp; omega, by show x.exp < 9223372036854775808; omega, Wd_words _, hl⟩
theorem ret_sameSelf (x : DV) (hr : rightD x) (hl : (words x.coef).length ≤ 40) : Ret Tryd.prog GEs 51 [dv x, dv x] (.bool true) := by
  have h := ret_DSame (toDI x) (toDI x) (toDI_ok hr hl) (toDI_ok hr hl)
  rw [decT ((same_self _).2 (toDI_good hr))] at h
  exact h
end Go.Proofs
set_option linter.unusedVariables false
set_option linter.unusedSimpArgs false
namespace Go.Proofs
open Go.Ax
set_option maxRecDepth 100000 in
set_option maxHeartbeats 1000000 in
theorem ret_DPlus (p : Nat) (g : Int) (r : Nat) (hp : 1 ≤ p ∧ p ≤ 400) (hg : 1 ≤ g ∧ g ≤ 6000) (hr : r ≤ 4) (d : DI) (h : d.ok) :
    Ret Tryd.prog GEs 60 [cx p g r, d.av] (if d.good then .tup [dv (plusD p g r d.D).1, i64 (plusD p g r d.D).2, i64 0] else .tup [dv zD, i64 0, i64 221]) := by
  have hK := ret_DCheck p g r (by omega) (by omega)
  rw [if_pos (show okC p g r from ⟨by omega, hg, by omega⟩)] at hK
  obtain ⟨k', n', v', e', hC, hE⟩ := ret_dcanonical d.k d.neg d.cs d.e h.k1 h.k2 h.e1 h.e2 h.wd (Nat.le_trans h.len (by decide))
  have hl := d.len_le h
  have hlen := h.len
  by_cases hg' : d.good
  · obtain ⟨rfl, rfl, rfl, rfl⟩ := hE hg'
    have hgg : goodD d.k d.neg (val d.cs) d.e := hg'
    rw [decT hgg] at hC
    rw [if_pos hg']
    obtain ⟨q1, q2, q3⟩ := goodD_right hgg
    have hk : ((d.D.kind : Nat) : Int) = d.k := by show ((d.k.toNat : Nat) : Int) = d.k; omega
    have hb : d.k = 0 → -1000000 ≤ d.e ∧ d.e ≤ 1000000 := fun h0 => by unfold goodD at hgg; omega
    have hD : d.D = ⟨d.k.toNat, d.neg, val d.cs, d.e⟩ := rfl
    unfold plusD
    by_cases k0 : d.k = 0
    · have hF := ret_dFinish p g r d.neg (val d.cs) d.e d.e hp hg hr (by have : (words (val d.cs)).length ≤ 40 := hl; omega) (by have := hb k0; omega) (by have := hb k0; omega)
      rw [if_pos (show d.D.kind = 0 by omega)]
      rw [show d.D.neg = d.neg from rfl, show d.D.coef = val d.cs from rfl, show d.D.exp = d.e from rfl]
      clear hb hgg hE q1 hD hk
      unfold DI.av
      generalize d.k = dk at *
      generalize d.neg = dn at *
      generalize val d.cs = v at *
      generalize d.e = de at *
      generalize finD0 p g r dn v de de = z at *
      unfold dv cx at *
      refine RetN_start Tryd.func60 (by kernel_rfl) rfl fun Q hQ hQ2 => ?_; rw [Tryd.ntmps60]; simp only [u, i64, Nat.reduceSub, Nat.reduceAdd, bm]
      repeat (first | (refine gC ?_; first | refine aA ?_ | ((first | refine cR hK ?_ | refine cR hC ?_ | refine cR hF ?_); refine sX ?_; try refine aA ?_)) | ((first | refine cR hK ?_ | refine cR hC ?_ | refine cR hF ?_); refine sX ?_; try refine aA ?_) | refine gS ?_)
      (refine FinQ hQ (congrArg Array.toList Tryd.results60) _ _ ?_); simp (disch := omega) only [u, i64, ax, if_true, forall_const, reduceCtorEq, implies_true, tvs, bf]
      all_goals rfl
    · rw [if_neg (show ¬ d.D.kind = 0 by omega)]
      rw [DI.dv_eq hg']
      clear hb hgg hE q1 hD hk
      unfold DI.av
      generalize d.k = dk at *
      generalize d.neg = dn at *
      generalize val d.cs = v at *
      generalize d.e = de at *
      unfold cx at *
      refine RetN_start Tryd.func60 (by kernel_rfl) rfl fun Q hQ hQ2 => ?_; rw [Tryd.ntmps60]; simp only [u, i64, Nat.reduceSub, Nat.reduceAdd, bm]
      repeat (first | (refine gC ?_; first | refine aA ?_ | ((first | refine cR hK ?_ | refine cR hC ?_); refine sX ?_; try refine aA ?_)) | ((first | refine cR hK ?_ | refine cR hC ?_); refine sX ?_; try refine aA ?_) | refine gS ?_)
      (refine FinQ hQ (congrArg Array.toList Tryd.results60) _ _ ?_); simp (disch := omega) only [u, i64, ax, if_true, forall_const, reduceCtorEq, implies_true, tvs, bf]
      all_goals rfl
  · have hgg : ¬ goodD d.k d.neg (val d.cs) d.e := hg'
    rw [decF hgg] at hC
    rw [if_neg hg', dvz]
    clear hE hgg
    unfold DI.av cx at *
    refine RetN_start Tryd.func60 (by kernel_rfl) rfl fun Q hQ hQ2 => ?_; rw [Tryd.ntmps60]; simp only [u, i64, Nat.reduceSub, Nat.reduceAdd, bm]
    repeat (first | (refine gC ?_; first | refine aA ?_ | ((first | refine cR hK ?_ | refine cR hC ?_); refine sX ?_; try refine aA ?_)) | ((first | refine cR hK ?_ | refine cR hC ?_); refine sX ?_; try refine aA ?_) | refine gS ?_)
    (refine FinQ hQ (congrArg Array.toList Tryd.results60) _ _ ?_); simp (disch := omega) only [u, i64, ax, if_true, forall_const, reduceCtorEq, implies_true, tvs, bf]
    all_goals rfl
/-- The greatest exponent. -/
def redD (x : DV) : DV := if x.kind = 0 then (if x.coef = 0 then ⟨0, x.neg, x.coef, 0⟩ else ⟨0, x.neg, sm x.coef, x.exp + st x.coef⟩) else x
set_option maxRecDepth 100000 in
set_option maxHeartbeats 1000000 in
theorem ret_DReduce (p : Nat) (g : Int) (r : Nat) (hp : 1 ≤ p ∧ p ≤ 400) (hg : 1 ≤ g ∧ g ≤ 6000) (hr : r ≤ 4) (d : DI) (h1 : d.ok) :
    Ret Tryd.prog GEs 54 [cx p g r, d.av] (if d.okIn p g then .tup [dv (redD d.D), i64 0] else .tup [dv zD, i64 221]) := by
  have hA := ret_Args1 p g r hp hg hr d h1
  by_cases h : d.okIn p g
  · rw [if_pos h] at hA ⊢
    obtain ⟨a1, a2, a3, a4⟩ := okIn_facts hp hg h
    have hl := d.len_le h1
    rw [show d.av = .agg [i64 d.k, .bool d.neg, ws d.cs, i64 d.e] from rfl]
    have hA' : Ret Tryd.prog GEs 110 [cx p g r, .bool false, .lst 1 [i64 d.k, .bool d.neg, ws d.cs, i64 d.e]] (.tup [.lst 1 [i64 d.D.kind, .bool d.D.neg, nat d.D.coef, i64 d.D.exp], i64 0]) := by
      have hk : ((d.D.kind : Nat) : Int) = d.k := by show ((d.k.toNat : Nat) : Int) = d.k; have := (goodD_right h.1).2.1; omega
      rw [hk]; exact hA
    have hA := hA'
    clear hA'
    generalize d.k = dk at *
    generalize d.neg = dn at *
    generalize d.cs = dc at *
    generalize d.e = de at *
    generalize d.D = x at *
    clear h
    have hZ := ret_dzero x a1 (by omega)
    unfold redD
    obtain ⟨kd, ng, c, e⟩ := x
    simp only at *
    have hbn := bl_len c
    have hdb := dg_le_bl c
    by_cases k0 : kd = 0
    · by_cases c0 : c = 0
      · rw [decT (show kd = 0 ∧ c = 0 from ⟨k0, c0⟩)] at hZ
        rw [if_pos k0, if_pos c0]
        subst k0
        unfold dv cx at *
        simp only at *
        refine RetN_start Tryd.func54 (by kernel_rfl) rfl fun Q hQ hQ2 => ?_; rw [Tryd.ntmps54]; simp only [u, i64, Nat.reduceSub, Nat.reduceAdd, bm]
        (refine gO ?_)
        (refine gC ?_)
        simp (disch := omega) only [u, i64, ax, eq_self, if_true, if_false, Nat.reduceAdd, Int.reduceToNat, Int.reduceAdd, tvs, bs, Nat.reduceMul, List.take_succ_cons, List.take_zero, List.nil_append, List.cons_append, List.append_nil, Nat.reduceLeDiff]
        repeat (first | (refine gC ?_; first | refine aA ?_ | ((first | refine cR hA ?_ | refine cR hZ ?_); refine sX ?_; try refine aA ?_)) | ((first | refine cR hA ?_ | refine cR hZ ?_); refine sX ?_; try refine aA ?_) | refine gS ?_)
        (refine FinQ hQ (congrArg Array.toList Tryd.results54) _ _ ?_); simp (disch := omega) only [u, i64, ax, if_true, forall_const, reduceCtorEq, implies_true, tvs, bf]
        all_goals rfl
      · rw [decF (show ¬ (kd = 0 ∧ c = 0) from fun h => c0 h.2)] at hZ
        rw [if_pos k0, if_neg c0]
        subst k0
        have hS := ret_Strip (words c) (Wd_words _) (by omega) (by rw [val_words]; exact c0)
        rw [val_words] at hS
        have hds := dg_sm c0
        generalize sm c = m at *
        generalize st c = t at *
        unfold dv cx at *
        simp only at *
        refine RetN_start Tryd.func54 (by kernel_rfl) rfl fun Q hQ hQ2 => ?_; rw [Tryd.ntmps54]; simp only [u, i64, Nat.reduceSub, Nat.reduceAdd, bm]
        (refine gO ?_)
        (refine gC ?_)
        simp (disch := omega) only [u, i64, ax, eq_self, if_true, if_false, Nat.reduceAdd, Int.reduceToNat, Int.reduceAdd, tvs, bs, Nat.reduceMul, List.take_succ_cons, List.take_zero, List.nil_append, List.cons_append, List.append_nil, Nat.reduceLeDiff]
        repeat (first | (refine gC ?_; first | refine aA ?_ | ((first | refine cR hA ?_ | refine cR hZ ?_ | refine cR hS ?_); refine sX ?_; try refine aA ?_)) | ((first | refine cR hA ?_ | refine cR hZ ?_ | refine cR hS ?_); refine sX ?_; try refine aA ?_) | refine gS ?_)
        (refine FinQ hQ (congrArg Array.toList Tryd.results54) _ _ ?_); simp (disch := omega) only [u, i64, ax, if_true, forall_const, reduceCtorEq, implies_true, tvs, bf]
        all_goals rfl
    · rw [decF (show ¬ (kd = 0 ∧ c = 0) from fun h => k0 h.1)] at hZ
      rw [if_neg k0]
      unfold dv cx at *
      simp only at *
      refine RetN_start Tryd.func54 (by kernel_rfl) rfl fun Q hQ hQ2 => ?_; rw [Tryd.ntmps54]; simp only [u, i64, Nat.reduceSub, Nat.reduceAdd, bm]
      (refine gO ?_)
      (refine gC ?_)
      simp (disch := omega) only [u, i64, ax, eq_self, if_true, if_false, Nat.reduceAdd, Int.reduceToNat, Int.reduceAdd, tvs, bs, Nat.reduceMul, List.take_succ_cons, List.take_zero, List.nil_append, List.cons_append, List.append_nil, Nat.reduceLeDiff]
      repeat (first | (refine gC ?_; first | refine aA ?_ | ((first | refine cR hA ?_ | refine cR hZ ?_); refine sX ?_; try refine aA ?_)) | ((first | refine cR hA ?_ | refine cR hZ ?_); refine sX ?_; try refine aA ?_) | refine gS ?_)
      (refine FinQ hQ (congrArg Array.toList Tryd.results54) _ _ ?_); simp (disch := omega) only [u, i64, ax, if_true, forall_const, reduceCtorEq, implies_true, tvs, bf]
      all_goals rfl
  · rw [if_neg h] at hA ⊢
    rw [dvz]
    unfold DI.av cx at *
    refine RetN_start Tryd.func54 (by kernel_rfl) rfl fun Q hQ hQ2 => ?_; rw [Tryd.ntmps54]; simp only [u, i64, Nat.reduceSub, Nat.reduceAdd, bm]
    (refine gO ?_)
    (refine gC ?_)
    simp (disch := omega) only [u, i64, ax, eq_self, if_true, if_false, Nat.reduceAdd, Int.reduceToNat, Int.reduceAdd, tvs, bs, Nat.reduceMul, List.take_succ_cons, List.take_zero, List.nil_append, List.cons_append, List.append_nil, Nat.reduceLeDiff]
    repeat (first | (refine gC ?_; first | refine aA ?_ | (refine cR hA ?_; refine sX ?_; try refine aA ?_)) | (refine cR hA ?_; refine sX ?_; try refine aA ?_) | refine gS ?_)
    (refine FinQ hQ (congrArg Array.toList Tryd.results54) _ _ ?_); simp (disch := omega) only [u, i64, ax, if_true, forall_const, reduceCtorEq, implies_true, tvs, bf]
end Go.Proofs
set_option linter.unusedVariables false
set_option linter.unusedSimpArgs false
set_option maxRecDepth 100000
namespace Go.Proofs
open Go.Ax
/-- The reference's greatest exponent. -/
theorem ret_Reduce22 (x : DV) (hr : rightD x) (hl : (words x.coef).length ≤ 40) (cs : List Nat) (hc : Wd cs) (hv : val cs = x.coef) (hcl : cs.length ≤ 40) : Ret Tryd.prog GEs 56 [.agg [i64 x.kind, .bool x.neg, ws cs, i64 x.exp]] (dv (redD x)) := by
  have hCn := ret_Canonical22 x.kind x.exp x.neg cs hc (by omega)
  rw [hv] at hCn
  have hZ := ret_Zero22 x.kind x.exp x.neg (words x.coef) (Wd_words _) (by omega)
  rw [val_words] at hZ
  have hF := ret_rFromWord 10 (by decide)
  have hbn := bl_len x.coef
  have hdb := dg_le_bl x.coef
  have hex : x.kind = 0 → -1000000 ≤ x.exp ∧ x.exp ≤ 1000000 := fun h => by unfold rightD at hr; omega
  unfold redD
  obtain ⟨kd, ng, c, e⟩ := x
  simp only at *
  clear hr hv
  by_cases k0 : kd = 0
  · subst k0
    by_cases c0 : c = 0
    · rw [decT (show ((0 : Nat) : Int) = 0 ∧ c = 0 from ⟨rfl, c0⟩)] at hZ
      rw [if_pos rfl, if_pos c0, c0]
      rw [c0] at hCn hZ
      unfold dv
      simp only
      refine RetN_start Tryd.func56 (by kernel_rfl) rfl fun Q hQ hQ2 => ?_; rw [Tryd.ntmps56]; simp only [u, i64, Nat.reduceSub, Nat.reduceAdd, bm]
      repeat (first | (refine gC ?_; first | refine aA ?_ | ((first | refine cR hCn ?_ | refine cR hZ ?_); refine sX ?_; try refine aA ?_)) | ((first | refine cR hCn ?_ | refine cR hZ ?_); refine sX ?_; try refine aA ?_) | refine gS ?_)
      (refine FinQ hQ (congrArg Array.toList Tryd.results56) _ _ ?_); simp (disch := omega) only [u, i64, ax, if_true, forall_const, reduceCtorEq, implies_true, tvs, bf]
      all_goals rfl
    · rw [decF (show ¬ (((0 : Nat) : Int) = 0 ∧ c = 0) from fun h => c0 h.2)] at hZ
      rw [if_pos rfl, if_neg c0]
      have hex := hex rfl
      have hds := dg_sm c0
      obtain ⟨m1, m2⟩ := sm_mul c0
      have hms := sm_le c
      have hml : ∀ j, j ≤ st c → (words (sm c * 10 ^ (st c - j))).length ≤ 40 := fun j hj => by
        refine Nat.le_trans (length_mono ?_) hl
        conv => rhs; rw [m1]
        exact Nat.mul_le_mul_left _ (ten_mono (by omega))
      generalize hm : sm c = m at *
      generalize ht : st c = t at *
      unfold dv
      simp only
      refine RetN_start Tryd.func56 (by kernel_rfl) rfl fun Q hQ hQ2 => ?_; rw [Tryd.ntmps56]; simp only [u, i64, Nat.reduceSub, Nat.reduceAdd, bm]
      repeat (first | (refine gC ?_; first | refine aA ?_ | ((first | refine cR hCn ?_ | refine cR hZ ?_); refine sX ?_; try refine aA ?_)) | ((first | refine cR hCn ?_ | refine cR hZ ?_); refine sX ?_; try refine aA ?_) | refine gS ?_)
      refine AWp_loop (fun j : Nat => mk 35 [(1, .ptr 0 0 0), (2, .ptr 1 0 0)] [⟨0, true, [i64 0, .bool ng, nat (m * 10 ^ (t - j)), i64 (e + j)]⟩, ⟨0, true, [i64 0, .bool false, .emp, i64 0]⟩]) (fun j => j ≤ t) (fun j => t - j) 0 ?_ (Nat.zero_le _) ?_
      · rw [Nat.sub_zero, ← m1, Int.natCast_zero, Int.add_zero]
        simp only [u, i64, Nat.reduceSub, Nat.reduceAdd, bm]
      intro j hj
      simp only [u, i64, Nat.reduceSub, Nat.reduceAdd, bm]
      have hwl : (words 10).length ≤ 1 := length_le (by decide)
      have hnl := hml j hj
      have hD := ret_rDivMod (words (m * 10 ^ (t - j))) (words 10) (Wd_words _) (Wd_words _) (by rw [val_words]; decide) (by omega) (by omega)
      rw [val_words, val_words] at hD
      obtain ⟨s1, s2⟩ := ten_step m (t - j) m2
      by_cases hlt : j < t
      · have z0 := s1.2 (by omega)
        have q0 := s2 (by omega)
        rw [show t - j - 1 = t - (j + 1) by omega] at q0
        have hZ2 := ret_rIsZero (words 0) (Wd_words _) (by decide)
        rw [val_words, decT rfl] at hZ2
        rw [z0, q0] at hD
        generalize m * 10 ^ (t - j) = n at *
        clear hZ hCn s1 s2
        repeat (first | (refine gC ?_; first | refine aA ?_ | ((first | refine cR hF ?_ | refine cR hD ?_ | refine cR hZ2 ?_); refine sX ?_; try refine aA ?_)) | ((first | refine cR hF ?_ | refine cR hD ?_ | refine cR hZ2 ?_); refine sX ?_; try refine aA ?_) | refine gS ?_)
        refine ⟨j + 1, ?_, by omega, by omega⟩
        rw [show ((j + 1 : Nat) : Int) = (j : Int) + 1 from rfl, ← Int.add_assoc]
        simp only [u, i64, Nat.reduceSub, Nat.reduceAdd, bm]
      · have hjt : j = t := by omega
        subst hjt
        have z0 : ¬ m * 10 ^ (j - j) % 10 = 0 := fun h => by have := s1.1 h; omega
        have hrl := length_mono (Nat.mod_le (m * 10 ^ (j - j)) 10)
        have hZ2 := ret_rIsZero (words (m * 10 ^ (j - j) % 10)) (Wd_words _) (by omega)
        rw [val_words, decF z0] at hZ2
        have e0 : m * 10 ^ (j - j) = m := by rw [Nat.sub_self, Nat.pow_zero, Nat.mul_one]
        rw [e0] at hD hZ2 ⊢
        generalize m % 10 = y at *
        generalize m / 10 = z at *
        clear hZ hCn s1 s2
        repeat (first | (refine gC ?_; first | refine aA ?_ | ((first | refine cR hF ?_ | refine cR hD ?_ | refine cR hZ2 ?_); refine sX ?_; try refine aA ?_)) | ((first | refine cR hF ?_ | refine cR hD ?_ | refine cR hZ2 ?_); refine sX ?_; try refine aA ?_) | refine gS ?_)
        (refine FinQ hQ (congrArg Array.toList Tryd.results56) _ _ ?_); simp (disch := omega) only [u, i64, ax, if_true, forall_const, reduceCtorEq, implies_true, tvs, bf]
        all_goals rfl
  · rw [if_neg k0]
    clear hZ
    unfold dv
    simp only
    refine RetN_start Tryd.func56 (by kernel_rfl) rfl fun Q hQ hQ2 => ?_; rw [Tryd.ntmps56]; simp only [u, i64, Nat.reduceSub, Nat.reduceAdd, bm]
    repeat (first | (refine gC ?_; first | refine aA ?_ | (refine cR hCn ?_; refine sX ?_; try refine aA ?_)) | (refine cR hCn ?_; refine sX ?_; try refine aA ?_) | refine gS ?_)
    (refine FinQ hQ (congrArg Array.toList Tryd.results56) _ _ ?_); simp (disch := omega) only [u, i64, ax, if_true, forall_const, reduceCtorEq, implies_true, tvs, bf]
    all_goals rfl
end Go.Proofs
set_option linter.unusedVariables false
set_option linter.unusedSimpArgs false
set_option maxRecDepth 100000
namespace Go.Proofs
open Go.Ax
theorem redD_in {p : Nat} {g : Int} {x : DV} (hp : 1 ≤ p ∧ p ≤ 400) (hg : 1 ≤ g ∧ g ≤ 6000) (hr : rightD x) (h : inD p g x) : rightD (redD x) ∧ inD p g (redD x) := by
  unfold redD
  by_cases k0 : x.kind = 0
  · rw [if_pos k0]
    by_cases c0 : x.coef = 0
    · rw [if_pos c0]
      exact ⟨.inl ⟨rfl, by show -1000000 ≤ (0 : Int); decide, by show (0 : Int) ≤ 1000000; decide⟩, .inr (.inl ⟨c0, by show 1 - g - ((p : Int) - 1) ≤ 0; omega, by show 0 ≤ g; omega⟩)⟩
    · rw [if_neg c0]
      have hd := dg_sm c0
      have hs := (dg_spec _ (sm_ne c0)).2.2
      rcases h with h | h | h
      · exact absurd k0 h
      · exact absurd h.1 c0
      · obtain ⟨_, i1, i2, i3⟩ := h
        exact ⟨.inl ⟨rfl, by show -1000000 ≤ x.exp + (st x.coef : Int); omega, by show x.exp + (st x.coef : Int) ≤ 1000000; omega⟩, .inr (.inr ⟨sm_ne c0, by show dg (sm x.coef) ≤ p; omega, by show 1 - g - ((p : Int) - 1) ≤ x.exp + (st x.coef : Int); omega, by show x.exp + (st x.coef : Int) + dg (sm x.coef) - 1 ≤ g; omega⟩)⟩
  · rw [if_neg k0]; exact ⟨hr, h⟩
theorem FitsErr' (w : Nat) (hw : w ≠ 0) (hw2 : w < 1000) : Ret Tryd.prog GEs 55 [.agg [i64 0, .bool false, .lst 0 [], i64 0], i64 0, i64 w, .agg [i64 0, .bool false, .emp, i64 0], i64 0, i64 w] (.bool true) :=
  Ret_nil (ret_FitsErr w hw hw2) rfl
set_option maxHeartbeats 2000000 in
theorem ret_LawDecimalReduces (p g r : Int) (r1 : -9223372036854775808 ≤ r) (r2 : r < 9223372036854775808) (d : DI) (hd : d.pre) : Ret Tryd.prog GEs 10 [cx p g r, d.av] (.bool true) := by
  have hS := ret_Short1 d hd.len
  by_cases hs : d.cs.length ≤ 40
  · rw [decT hs] at hS
    have h1 := hd.ok hs
    by_cases hC : okC p g r
    · obtain ⟨hp, hg, hr⟩ := hC
      obtain ⟨p, rfl⟩ := Int.eq_ofNat_of_zero_le (show 0 ≤ p by omega)
      obtain ⟨r, rfl⟩ := Int.eq_ofNat_of_zero_le (show 0 ≤ r by omega)
      have hR := ret_DReduce p g r (by omega) hg (by omega) d h1
      have hA := ret_Args22_1 p g r _ d (ret_Check22_1 p g r (by omega) hg (by omega) d h1)
      by_cases hb : d.okIn p g
      · rw [if_pos hb] at hR hA
        have rd := (goodD_right hb.1).1
        have hl := d.len_le h1
        have hk : ((d.D.kind : Nat) : Int) = d.k := by show ((d.k.toNat : Nat) : Int) = d.k; have := (goodD_right hb.1).2.1; omega
        have h22 := ret_Reduce22 d.D rd hl d.cs h1.wd rfl h1.len
        rw [hk, show d.D.neg = d.neg from rfl, show d.D.exp = d.e from rfl] at h22
        obtain ⟨i1, i2⟩ := redD_in (p := p) (g := g) (by omega) hg rd hb.2
        have hF := ret_FitsOk (redD d.D) 0 (Nat.le_trans (in_len (by omega) i1 i2) (by decide))
        have hT := ret_TheirD d.k d.e d.neg d.cs
        generalize redD d.D = y at *
        clear rd hl hk i1 i2 hb h1
        unfold DI.av dv cx at *
        refine RetN_start Tryd.func10 (by kernel_rfl) rfl fun Q hQ hQ2 => ?_; rw [Tryd.ntmps10]; simp only [u, i64, Nat.reduceSub, Nat.reduceAdd, bm]
        (refine gO ?_)
        (refine gC ?_)
        simp (disch := omega) only [u, i64, ax, eq_self, if_true, if_false, Nat.reduceAdd, Int.reduceToNat, Int.reduceAdd, tvs, bs, Nat.reduceMul, List.take_succ_cons, List.take_zero, List.nil_append, List.cons_append, List.append_nil, Nat.reduceLeDiff]
        repeat (first | (refine gC ?_; first | refine aA ?_ | ((first | refine cR hS ?_ | refine cR hR ?_); refine sX ?_; try refine aA ?_)) | ((first | refine cR hS ?_ | refine cR hR ?_); refine sX ?_; try refine aA ?_) | refine gS ?_)
        (refine gC ?_)
        simp (disch := omega) only [u, i64, ax, eq_self, if_true, if_false, Nat.reduceAdd, Int.reduceToNat, Int.reduceAdd, tvs, bs, Nat.reduceMul, List.take_succ_cons, List.take_zero, List.nil_append, List.cons_append, List.append_nil, Nat.reduceLeDiff]
        repeat (first | (refine gC ?_; first | refine aA ?_ | ((first | refine cR hA ?_ | refine cR hT ?_ | refine cR h22 ?_ | refine cR hF ?_ | refine cR ret_awake22 ?_); refine sX ?_; try refine aA ?_)) | ((first | refine cR hA ?_ | refine cR hT ?_ | refine cR h22 ?_ | refine cR hF ?_ | refine cR ret_awake22 ?_); refine sX ?_; try refine aA ?_) | refine gS ?_)
        (refine FinQ hQ (congrArg Array.toList Tryd.results10) _ _ ?_); simp (disch := omega) only [u, i64, ax, if_true, forall_const, reduceCtorEq, implies_true, tvs, bf]
      · rw [if_neg hb] at hR hA
        have hF := FitsErr' 221 (by decide) (by decide)
        rw [dvz] at hR
        clear hb h1
        unfold DI.av cx at *
        refine RetN_start Tryd.func10 (by kernel_rfl) rfl fun Q hQ hQ2 => ?_; rw [Tryd.ntmps10]; simp only [u, i64, Nat.reduceSub, Nat.reduceAdd, bm]
        (refine gO ?_)
        (refine gC ?_)
        simp (disch := omega) only [u, i64, ax, eq_self, if_true, if_false, Nat.reduceAdd, Int.reduceToNat, Int.reduceAdd, tvs, bs, Nat.reduceMul, List.take_succ_cons, List.take_zero, List.nil_append, List.cons_append, List.append_nil, Nat.reduceLeDiff]
        repeat (first | (refine gC ?_; first | refine aA ?_ | ((first | refine cR hS ?_ | refine cR hR ?_); refine sX ?_; try refine aA ?_)) | ((first | refine cR hS ?_ | refine cR hR ?_); refine sX ?_; try refine aA ?_) | refine gS ?_)
        (refine gC ?_)
        simp (disch := omega) only [u, i64, ax, eq_self, if_true, if_false, Nat.reduceAdd, Int.reduceToNat, Int.reduceAdd, tvs, bs, Nat.reduceMul, List.take_succ_cons, List.take_zero, List.nil_append, List.cons_append, List.append_nil, Nat.reduceLeDiff]
        repeat (first | (refine gC ?_; first | refine aA ?_ | ((first | refine cR hA ?_ | refine cR hF ?_ | refine cR ret_awake22 ?_); refine sX ?_; try refine aA ?_)) | ((first | refine cR hA ?_ | refine cR hF ?_ | refine cR ret_awake22 ?_); refine sX ?_; try refine aA ?_) | refine gS ?_)
        (refine FinQ hQ (congrArg Array.toList Tryd.results10) _ _ ?_); simp (disch := omega) only [u, i64, ax, if_true, forall_const, reduceCtorEq, implies_true, tvs, bf]
    · have hR := ret_DReduceB p g r r1 r2 hC d h1
      have hA := ret_Args22_1 p g r _ d (ret_Check22b_1 p g r r1 r2 hC d h1)
      have hF := FitsErr' 220 (by decide) (by decide)
      rw [dvz] at hR
      clear hC h1
      unfold DI.av cx at *
      refine RetN_start Tryd.func10 (by kernel_rfl) rfl fun Q hQ hQ2 => ?_; rw [Tryd.ntmps10]; simp only [u, i64, Nat.reduceSub, Nat.reduceAdd, bm]
      (refine gO ?_)
      (refine gC ?_)
      simp (disch := omega) only [u, i64, ax, eq_self, if_true, if_false, Nat.reduceAdd, Int.reduceToNat, Int.reduceAdd, tvs, bs, Nat.reduceMul, List.take_succ_cons, List.take_zero, List.nil_append, List.cons_append, List.append_nil, Nat.reduceLeDiff]
      repeat (first | (refine gC ?_; first | refine aA ?_ | ((first | refine cR hS ?_ | refine cR hR ?_); refine sX ?_; try refine aA ?_)) | ((first | refine cR hS ?_ | refine cR hR ?_); refine sX ?_; try refine aA ?_) | refine gS ?_)
      (refine gC ?_)
      simp (disch := omega) only [u, i64, ax, eq_self, if_true, if_false, Nat.reduceAdd, Int.reduceToNat, Int.reduceAdd, tvs, bs, Nat.reduceMul, List.take_succ_cons, List.take_zero, List.nil_append, List.cons_append, List.append_nil, Nat.reduceLeDiff]
      repeat (first | (refine gC ?_; first | refine aA ?_ | ((first | refine cR hA ?_ | refine cR hF ?_ | refine cR ret_awake22 ?_); refine sX ?_; try refine aA ?_)) | ((first | refine cR hA ?_ | refine cR hF ?_ | refine cR ret_awake22 ?_); refine sX ?_; try refine aA ?_) | refine gS ?_)
      (refine FinQ hQ (congrArg Array.toList Tryd.results10) _ _ ?_); simp (disch := omega) only [u, i64, ax, if_true, forall_const, reduceCtorEq, implies_true, tvs, bf]
  · rw [decF hs] at hS
    unfold DI.av cx at *
    refine RetN_start Tryd.func10 (by kernel_rfl) rfl fun Q hQ hQ2 => ?_; rw [Tryd.ntmps10]; simp only [u, i64, Nat.reduceSub, Nat.reduceAdd, bm]
    (refine gO ?_)
    (refine gC ?_)
    simp (disch := omega) only [u, i64, ax, eq_self, if_true, if_false, Nat.reduceAdd, Int.reduceToNat, Int.reduceAdd, tvs, bs, Nat.reduceMul, List.take_succ_cons, List.take_zero, List.nil_append, List.cons_append, List.append_nil, Nat.reduceLeDiff]
    repeat (first | (refine gC ?_; first | refine aA ?_ | ((first | refine cR hS ?_ | refine cR ret_awake22 ?_); refine sX ?_; try refine aA ?_)) | ((first | refine cR hS ?_ | refine cR ret_awake22 ?_); refine sX ?_; try refine aA ?_) | refine gS ?_)
    (refine FinQ hQ (congrArg Array.toList Tryd.results10) _ _ ?_); simp (disch := omega) only [u, i64, ax, if_true, forall_const, reduceCtorEq, implies_true, tvs, bf]
end Go.Proofs
