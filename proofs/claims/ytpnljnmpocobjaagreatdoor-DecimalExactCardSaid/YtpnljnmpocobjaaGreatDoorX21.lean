/-
  Contracts of functions of the program, each proved by a walk.
-/
import Derived.Test.YtpnljnmpocobjaaGreatDoorX20
import Derived.Test.YtpnljnmpocobjaaGreatDoorX10
import Derived.Test.YtpnljnmpocobjaaGreatDoorX7
import Derived.Test.YtpnljnmpocobjaaGreatDoorX13
set_option maxRecDepth 100000
set_option linter.unusedVariables false
set_option linter.unusedSimpArgs false
namespace Go.Proofs
open Go.Ax
set_option maxRecDepth 100000 in
set_option maxHeartbeats 4000000 in
theorem ret_Divide (a b : List Nat) (ha : Ds 4294967296 a) (hb : Ds 4294967296 b) (hne : vb 4294967296 b ≠ 0) (hla : a.length ≤ 137438953472) (hlb : b.length ≤ 137438953472) :
    ∃ qs rs : List Nat, Ds 4294967296 qs ∧ Ds 4294967296 rs ∧ vb 4294967296 qs = vb 4294967296 a / vb 4294967296 b ∧ vb 4294967296 rs = vb 4294967296 a % vb 4294967296 b ∧ qs.length ≤ a.length + 2 ∧ rs.length ≤ a.length + 2 ∧
      Ret Tryz.prog GEs 243 [ws a, ws b] (.tup [ws qs, ws rs]) := by
  have htp : 0 < top b := by
    rcases Nat.eq_zero_or_pos (top b) with h | h
    · have := vb_top (K := 4294967296) b
      rw [h] at this
      exact absurd this.symm hne
    · exact h
  have hT := top_last_ne hb htp
  have hvB := vb_top (K := 4294967296) b
  have hlB : (b.take (top b)).length = top b := by rw [List.length_take, Nat.min_eq_left (top_le b)]
  have hdB := hb.take (top b)
  have hSh := ret_Short b (by omega)
  rw [← hlB] at hT
  have htl := top_le b
  obtain ⟨B, hBd⟩ : ∃ B, b.take (top b) = B := ⟨_, rfl⟩
  rw [hBd] at hT hvB hlB hdB hSh
  have hBp : 0 < B.length := by omega
  have hBl : B.length ≤ 137438953472 := by omega
  obtain ⟨y, hy⟩ : ∃ y, vb 4294967296 b = y := ⟨_, rfl⟩
  obtain ⟨x, hx⟩ : ∃ x, vb 4294967296 a = x := ⟨_, rfl⟩
  rw [hy] at hvB hne ⊢
  rw [hx]
  have hy0 : 0 < y := Nat.pos_of_ne_zero hne
  have hxl := vb_lt ha
  rw [hx] at hxl
  by_cases h1 : B.length = 1
  · have hB0 : B.getD 0 0 = y := by
      have := vb_take_getD (K := 4294967296) B 0
      rw [List.take_of_length_le (by omega), hvB] at this
      simp [vb] at this
      simp
      omega
    have hyB := hdB.getD (by decide) 0
    rw [hB0] at hyB
    have hlt2 : x / y < 4294967296 ^ a.length := Nat.lt_of_le_of_lt (Nat.div_le_self _ _) hxl
    have hmd := Nat.mod_lt x hy0
    refine ⟨wfb 4294967296 a.length (x / y), [x % y], wfb_Ds (by decide) _ _, Ds_cons (by omega) Ds_nil, vb_wfb (by decide) _ _ hlt2, one_vb _, by rw [wfb_length]; omega, by simp, ?_⟩
    have hO := ret_one a y ha hyB hy0 (by omega)
    rw [hx] at hO
    refine RetN_start Tryz.func243 (by kernel_rfl) rfl fun Q hQ hQ2 => ?_; rw [Tryz.ntmps243]; simp only [u, i64, Nat.reduceSub, Nat.reduceAdd, bm]
    repeat (first | (refine gC ?_; first | refine aA ?_ | (refine cR hSh ?_; refine sX ?_; try refine aA ?_)) | (refine cR hSh ?_; refine sX ?_; try refine aA ?_) | refine gS ?_)
    (refine gC ?_)
    rw [hB0]
    repeat (first | (refine gC ?_; first | refine aA ?_ | (refine cR hO ?_; refine sX ?_; try refine aA ?_)) | (refine cR hO ?_; refine sX ?_; try refine aA ?_) | refine gS ?_)
    (refine FinQ hQ (congrArg Array.toList Tryz.results243) _ _ ?_); simp (disch := omega) only [u, i64, ax, if_true, forall_const, reduceCtorEq, implies_true, tvs, bf]
  obtain ⟨bt, hbt⟩ : ∃ t, B.getD (B.length - 1) 0 = t := ⟨_, rfl⟩
  rw [hlB, hBd, ← hlB, hbt] at hT
  have hbtB := hdB.getD (by decide) (B.length - 1)
  rw [hbt] at hbtB
  obtain ⟨S, hS⟩ : ∃ S, 2 ^ (32 - bl bt) = S := ⟨_, rfl⟩
  obtain ⟨hS1, hS2, hS3, hS4⟩ := scale_facts hT.1 hbtB (32 - bl bt) (Nat.le_refl _)
  rw [hS] at hS1 hS2 hS3 hS4
  -- the scaled ones
  obtain ⟨W, hW⟩ : ∃ W, wfb 4294967296 (B.length + 1) (y * S) = W := ⟨_, rfl⟩
  obtain ⟨X, hX⟩ : ∃ X, wfb 4294967296 (a.length + 1) (x * S) = X := ⟨_, rfl⟩
  have hyl := vb_lt hdB
  rw [hvB] at hyl
  have hWv : vb 4294967296 W = y * S := by
    rw [← hW]; refine vb_wfb (by decide) _ _ ?_
    rw [Nat.pow_succ]; exact Nat.mul_lt_mul'' hyl (by omega)
  have hXv : vb 4294967296 X = x * S := by
    rw [← hX]; refine vb_wfb (by decide) _ _ ?_
    rw [Nat.pow_succ]; exact Nat.mul_lt_mul'' hxl (by omega)
  have hWd : Ds 4294967296 W := by rw [← hW]; exact wfb_Ds (by decide) _ _
  have hXd : Ds 4294967296 X := by rw [← hX]; exact wfb_Ds (by decide) _ _
  have hXl : X.length = a.length + 1 := by rw [← hX, wfb_length]
  have hWl : W.length = B.length + 1 := by rw [← hW, wfb_length]
  have hyS : 0 < y * S := Nat.mul_pos hy0 hS1
  have hWt : 0 < top W := by
    rcases Nat.eq_zero_or_pos (top W) with h | h
    · have := vb_top (K := 4294967296) W
      rw [h, hWv] at this
      simp [vb] at this
      omega
    · exact h
  have hTV := top_last_ne hWd hWt
  have hVge := vb_top_ge (K := 4294967296) W hWt
  have hVl : (W.take (top W)).length = top W := by rw [List.length_take, Nat.min_eq_left (top_le W)]
  have hVv : vb 4294967296 (W.take (top W)) = y * S := by rw [vb_top, hWv]
  have hVd := hWd.take (top W)
  have htW := top_le W
  rw [hWv] at hVge
  have hShV := ret_Short W (by omega)
  have hTV2 : 0 < (W.take (top W)).getD ((W.take (top W)).length - 1) 0 := by rw [hVl]; exact hTV.2
  have hVge2 : 4294967296 ^ ((W.take (top W)).length - 1) ≤ y * S := by rw [hVl]; exact hVge
  have hVpos : 0 < (W.take (top W)).length := by rw [hVl]; exact hWt
  clear hTV hVge hWt
  obtain ⟨V, hVdef⟩ : ∃ V, W.take (top W) = V := ⟨_, rfl⟩
  rw [hVdef] at hVl hVv hVd hShV hTV2 hVge2 hVpos
  have hVle : V.length ≤ W.length := by omega
  have hTa := retF_Times a [S] ha (Ds_cons (by omega) Ds_nil) (by omega) (by simp)
  rw [one_vb, hx] at hTa
  have hTa2 : RetF Tryz.prog GEs 216 [ws a, ws [S]] (us X) := by rw [← hX]; exact hTa
  have hTb := ret_Times B [S] hdB (Ds_cons (by omega) Ds_nil) (by omega) (by simp)
  rw [one_vb, hvB] at hTb
  have hTb2 : Ret Tryz.prog GEs 216 [ws B, ws [S]] (ws W) := by rw [← hW]; exact hTb
  clear hTa hTb
  have hdiv : x * S / (y * S) = x / y := Nat.mul_div_mul_right _ _ hS1
  have hmod : x * S % (y * S) = x % y * S := Nat.mul_mod_mul_right _ _ _
  have hR : x % y * S < 4294967296 ^ (a.length + 2) := by
    have := vb_lt hXd
    rw [hXv, hXl] at this
    exact Nat.lt_of_le_of_lt (Nat.mul_le_mul_right _ (Nat.mod_le _ _)) (Nat.lt_of_lt_of_le this (Nat.pow_le_pow_right (by decide) (by omega)))
  obtain ⟨r, hr⟩ : ∃ r, (wfb 4294967296 (a.length + 2) (x % y * S)).take (top (wfb 4294967296 (a.length + 2) (x % y * S))) = r := ⟨_, rfl⟩
  have hrd : Ds 4294967296 r := by rw [← hr]; exact (wfb_Ds (by decide) _ _).take _
  have hrv : vb 4294967296 r = x % y * S := by rw [← hr, vb_top, vb_wfb (by decide) _ _ hR]
  have hrl : r.length ≤ a.length + 2 := by rw [← hr, List.length_take, wfb_length]; omega
  have hrlt := vb_lt hrd
  rw [hrv] at hrlt
  have hq1 : x / y < 4294967296 ^ (a.length + 2 - V.length) := by
    rcases Nat.lt_or_ge (a.length + 2) V.length with h | h
    · have h3 := vb_lt hXd
      rw [hXv, hXl] at h3
      have h4 : 4294967296 ^ (a.length + 1) ≤ 4294967296 ^ (V.length - 1) := Nat.pow_le_pow_right (by decide) (by omega)
      rw [← hdiv, Nat.div_eq_of_lt (by omega)]
      exact Nat.pow_pos (by decide)
    · rw [← hdiv, Nat.div_lt_iff_lt_mul hyS]
      have h3 := vb_lt hXd
      rw [hXv, hXl] at h3
      have h4 := Nat.mul_le_mul_left (4294967296 ^ (a.length + 2 - V.length)) hVge2
      rw [← Nat.pow_add, show a.length + 2 - V.length + (V.length - 1) = a.length + 1 by omega] at h4
      omega
  have hd1 : x % y < 4294967296 ^ r.length := Nat.lt_of_le_of_lt (Nat.le_mul_of_pos_right _ hS1) hrlt
  refine ⟨wfb 4294967296 (a.length + 2 - V.length) (x / y), wfb 4294967296 r.length (x % y), wfb_Ds (by decide) _ _, wfb_Ds (by decide) _ _, vb_wfb (by decide) _ _ hq1, vb_wfb (by decide) _ _ hd1, by rw [wfb_length]; omega, by rw [wfb_length]; exact hrl, ?_⟩
  have hwalk := ret_Divide_walk a b B V X W r S (y * S) (x * S) bt _ hSh (by omega) (by omega) hbt hT.1 hbtB hS hS1 hS2 hTa2 hTb2 hShV hXl hla hXd hXv hVd hVv hVpos (by omega) rfl hTV2 hVge2 hyS (by rw [hmod]; exact hr) hrd (by rw [hmod]; exact hrv) hrl
  rw [hdiv, hmod, Nat.mul_div_cancel _ hS1] at hwalk
  exact hwalk
end Go.Proofs
set_option linter.unusedVariables false
set_option linter.unusedSimpArgs false
namespace Go.Proofs
open Go.Ax
set_option maxRecDepth 100000 in
theorem ret_rWord (w : Nat) (hw : w < 18446744073709551616) : Ret Tryz.prog GEs 186 [u w] (ws [w % 4294967296, w / 4294967296]) := by
  have h2 : w / 4294967296 < 18446744073709551616 := by omega
  refine RetN_start Tryz.func186 (by kernel_rfl) rfl fun Q hQ hQ2 => ?_; rw [Tryz.ntmps186]; simp only [u, i64, Nat.reduceSub, Nat.reduceAdd, bm]
  (refine gO ?_)
  (refine FinQ hQ (congrArg Array.toList Tryz.results186) _ _ ?_); simp (disch := omega) only [u, i64, ax, if_true, forall_const, reduceCtorEq, implies_true, tvs, bf]
  rfl
set_option maxRecDepth 100000 in
theorem ret_rTrim (xs : List Nat) (hx : Wd xs) (hl : xs.length ≤ 34359738368) : Ret Tryz.prog GEs 169 [ws xs] (nat (val xs)) := by
  refine RetN_start Tryz.func169 (by kernel_rfl) rfl fun Q hQ hQ2 => ?_; rw [Tryz.ntmps169]; simp only [u, i64, Nat.reduceSub, Nat.reduceAdd, bm]
  (refine gO ?_)
  (refine gC ?_)
  (refine cR (ret_Digits xs hx (by omega)) ?_; refine sX ?_; try refine aA ?_)
  (refine cR (ret_nat (digs xs) (digs_Ds hx) (by rw [digs_length]; omega)) ?_; refine sX ?_; try refine aA ?_)
  rw [digs_val]
  (refine gO ?_)
  (refine FinQ hQ (congrArg Array.toList Tryz.results169) _ _ ?_); simp (disch := omega) only [u, i64, ax, if_true, forall_const, reduceCtorEq, implies_true, tvs, bf]
set_option maxRecDepth 100000 in
theorem ret_rFromWord (w : Nat) (hw : w < 18446744073709551616) : Ret Tryz.prog GEs 100 [u w] (nat w) := by
  refine RetN_start Tryz.func100 (by kernel_rfl) rfl fun Q hQ hQ2 => ?_; rw [Tryz.ntmps100]; simp only [u, i64, Nat.reduceSub, Nat.reduceAdd, bm]
  (refine gO ?_)
  (refine gC ?_)
  (refine cR (ret_rWord w hw) ?_; refine sX ?_; try refine aA ?_)
  (refine cR (ret_nat [w % 4294967296, w / 4294967296] (Ds_cons (by omega) (Ds_cons (by omega) Ds_nil)) (by simp)) ?_; refine sX ?_; try refine aA ?_)
  rw [show vb 4294967296 [w % 4294967296, w / 4294967296] = w by simp only [vb]; omega]
  (refine gO ?_)
  (refine FinQ hQ (congrArg Array.toList Tryz.results100) _ _ ?_); simp (disch := omega) only [u, i64, ax, if_true, forall_const, reduceCtorEq, implies_true, tvs, bf]
/-- What the bits below the i-th one say: zeros ahead, zeros behind, ones. -/
def cntS (w : Nat) : Nat → Nat × Nat × Nat
  | 0 => (64, 64, 0)
  | i + 1 => if w / 2 ^ i % 2 = 1 then (63 - i, min (cntS w i).2.1 i, (cntS w i).2.2 + 1) else cntS w i
theorem mod_two_pow_succ (w i : Nat) : w % 2 ^ (i + 1) = w % 2 ^ i + 2 ^ i * (w / 2 ^ i % 2) := by
  rw [Nat.pow_succ, Nat.mod_mul]
theorem cntS_lead (w : Nat) : ∀ i, i ≤ 64 → (cntS w i).1 = 64 - bl (w % 2 ^ i)
  | 0, _ => by simp [cntS, bl, Nat.mod_one]
  | i + 1, h => by
    have ih := cntS_lead w i (by omega)
    have hm := mod_two_pow_succ w i
    have hlt := Nat.mod_lt w (Nat.two_pow_pos i)
    simp only [cntS]
    by_cases hb : w / 2 ^ i % 2 = 1
    · rw [if_pos hb]
      have : bl (w % 2 ^ (i + 1)) = i + 1 := bl_eq (by rw [hm, hb]; omega) (Nat.mod_lt _ (Nat.two_pow_pos _))
      rw [this]; simp only; omega
    · have h0 : w / 2 ^ i % 2 = 0 := by omega
      rw [if_neg hb, ih, hm, h0, Nat.mul_zero, Nat.add_zero]
theorem cntS_bd (w : Nat) : ∀ i, (cntS w i).1 ≤ 64 ∧ (cntS w i).2.1 ≤ 64 ∧ (cntS w i).2.2 ≤ i
  | 0 => by simp [cntS]
  | i + 1 => by
    have := cntS_bd w i
    simp only [cntS]
    split <;> (try simp only) <;> omega
set_option maxRecDepth 100000 in
theorem ret_Count (w : Nat) (hw : w < 18446744073709551616) : Ret Tryz.prog GEs 196 [u w] (.tup [i64 (cntS w 64).1, i64 (cntS w 64).2.1, i64 (cntS w 64).2.2]) := by
  refine RetN_start Tryz.func196 (by kernel_rfl) rfl fun Q hQ hQ2 => ?_; rw [Tryz.ntmps196]; simp only [u, i64, Nat.reduceSub, Nat.reduceAdd, bm]
  (refine gO ?_)
  refine AWp_loop (fun i : Nat => mk 28 [(0, u w), (5, i64 (cntS w i).1), (6, i64 (cntS w i).2.1), (7, i64 (cntS w i).2.2), (8, i64 i)] []) (fun i => i ≤ 64) (fun i => 64 - i) 0 ?_ (Nat.zero_le _) fun i hi => ?_
  · show leS _ (mk 28 [(0, u w), (5, i64 (64 : Nat)), (6, i64 (64 : Nat)), (7, i64 (0 : Nat)), (8, i64 (0 : Nat))] [])
    simp only [u, i64, Nat.reduceSub, Nat.reduceAdd, bm]
  have hbd := cntS_bd w i
  simp only [u, i64, Nat.reduceSub, Nat.reduceAdd, bm]
  by_cases h : i < 64
  · have hq : w / 2 ^ i < 18446744073709551616 := Nat.lt_of_le_of_lt (Nat.div_le_self _ _) hw
    by_cases hb : w / 2 ^ i % 2 = 1
    · have e : cntS w (i + 1) = (63 - i, min (cntS w i).2.1 i, (cntS w i).2.2 + 1) := by simp only [cntS]; rw [if_pos hb]
      (refine gO ?_)
      refine ⟨i + 1, ?_, h, by omega⟩
      simp only [e]
      simp only [u, i64, Nat.reduceSub, Nat.reduceAdd, bm]
    · have e : cntS w (i + 1) = cntS w i := by simp only [cntS]; rw [if_neg hb]
      (refine gO ?_)
      refine ⟨i + 1, ?_, h, by omega⟩
      simp only [e]
      simp only [u, i64, Nat.reduceSub, Nat.reduceAdd, bm]
  · have hi64 : i = 64 := by omega
    subst hi64
    (refine gO ?_)
    (refine FinQ hQ (congrArg Array.toList Tryz.results196) _ _ ?_); simp (disch := omega) only [u, i64, ax, if_true, forall_const, reduceCtorEq, implies_true, tvs, bf]
theorem bl_val (xs : List Nat) (hx : Wd xs) (n : Nat) (hn : top xs = n + 1) : bl (val xs) = 64 * n + bl (xs.getD n 0) := by
  have hw := top_spec xs hx
  have htl := top_le xs
  have hv : val xs ≠ 0 := fun h0 => by
    rw [h0, words_zero, hn] at hw
    have := congrArg List.length hw
    simp at this
    omega
  have := (bl_words (val xs) hv).1
  rw [hw, List.length_take, hn, Nat.min_eq_left (by omega), Nat.add_sub_cancel] at this
  rw [this]
  congr 2
  simp [List.getD_eq_getElem?_getD, List.getElem?_take]
theorem val_top0 (xs : List Nat) (h : top xs = 0) : val xs = 0 := by
  have := top_take xs
  rw [h] at this
  exact this.symm
set_option maxRecDepth 100000 in
theorem ret_rLen (xs : List Nat) (hx : Wd xs) (hl : xs.length ≤ 34359738368) : Ret Tryz.prog GEs 114 [ws xs] (i64 (bl (val xs))) := by
  refine RetN_start Tryz.func114 (by kernel_rfl) rfl fun Q hQ hQ2 => ?_; rw [Tryz.ntmps114]; simp only [u, i64, Nat.reduceSub, Nat.reduceAdd, bm]
  (refine gO ?_)
  refine AWp_loop (fun n : Nat => mk 33 [(0, ws xs), (3, i64 ((n : Int) - 1))] []) (fun n => top xs ≤ n ∧ n ≤ xs.length) (fun n => n) xs.length ?_ ⟨top_le xs, Nat.le_refl _⟩ fun n hn => ?_
  · simp only [u, i64, Nat.reduceSub, Nat.reduceAdd, bm]
  simp only [u, i64, Nat.reduceSub, Nat.reduceAdd, bm]
  by_cases h : 1 ≤ n
  · obtain ⟨m, rfl⟩ : ∃ m, n = m + 1 := ⟨n - 1, by omega⟩
    simp only [Int.natCast_add, Int.natCast_one, Int.add_sub_cancel]
    have hw := hx.getD m
    by_cases h0 : xs.getD m 0 = 0
    · have := top_zero xs (m + 1) hn.1 hn.2 h (by simpa using h0)
      (refine gO ?_)
      refine ⟨m, ?_, ⟨by omega, by omega⟩, by omega⟩
      simp only [u, i64, Nat.reduceSub, Nat.reduceAdd, bm]
    · have ht := top_last xs (m + 1) hn.1 hn.2 h (by simpa using h0)
      have hb := bl_val xs hx m ht
      have hc := cntS_lead (xs.getD m 0) 64 (Nat.le_refl _)
      rw [Nat.mod_eq_of_lt (show xs.getD m 0 < 2 ^ 64 from hw)] at hc
      have hb2 := bl_le (n := xs.getD m 0) (k := 64) hw
      repeat (first | (refine gC ?_; first | refine aA ?_ | (refine cR (ret_Count (xs.getD m 0) hw) ?_; refine sX ?_; try refine aA ?_)) | (refine cR (ret_Count (xs.getD m 0) hw) ?_; refine sX ?_; try refine aA ?_) | refine gS ?_)
      (refine FinQ hQ (congrArg Array.toList Tryz.results114) _ _ ?_); simp (disch := omega) only [u, i64, ax, if_true, forall_const, reduceCtorEq, implies_true, tvs, bf]
      rw [hb, hc]
      congr 1
      omega
  · have hn0 : n = 0 := by omega
    have hv := val_top0 xs (by omega)
    subst hn0
    (refine gO ?_)
    (refine FinQ hQ (congrArg Array.toList Tryz.results114) _ _ ?_); simp (disch := omega) only [u, i64, ax, if_true, forall_const, reduceCtorEq, implies_true, tvs, bf, hv]
    rfl
theorem bl_zero (n : Nat) : (((bl n : Nat) : Int) == 0) = decide (n = 0) := by
  by_cases h : n = 0
  · subst h; rfl
  · have := (bl_spec h).2.2
    rw [decide_eq_false h]; exact beqF (by omega)
set_option maxRecDepth 100000 in
theorem ret_rIsZero (xs : List Nat) (hx : Wd xs) (hl : xs.length ≤ 34359738368) : Ret Tryz.prog GEs 39 [ws xs] (.bool (decide (val xs = 0))) := by
  refine RetN_start Tryz.func39 (by kernel_rfl) rfl fun Q hQ hQ2 => ?_; rw [Tryz.ntmps39]; simp only [u, i64, Nat.reduceSub, Nat.reduceAdd, bm]
  repeat (first | (refine gC ?_; first | refine aA ?_ | (refine cR (ret_rLen xs hx hl) ?_; refine sX ?_; try refine aA ?_)) | (refine cR (ret_rLen xs hx hl) ?_; refine sX ?_; try refine aA ?_) | refine gS ?_)
  (refine FinQ hQ (congrArg Array.toList Tryz.results39) _ _ ?_); simp (disch := omega) only [u, i64, ax, if_true, forall_const, reduceCtorEq, implies_true, tvs, bf]
  rw [bl_zero]
set_option maxRecDepth 100000 in
theorem ret_rLarge (xs : List Nat) (hl : xs.length ≤ 34359738368) : Ret Tryz.prog GEs 203 [ws xs] (.bool (decide (4096 < xs.length))) := by
  refine RetN_start Tryz.func203 (by kernel_rfl) rfl fun Q hQ hQ2 => ?_; rw [Tryz.ntmps203]; simp only [u, i64, Nat.reduceSub, Nat.reduceAdd, bm]
  by_cases h : 4096 < xs.length
  · (refine gO ?_)
    (refine FinQ hQ (congrArg Array.toList Tryz.results203) _ _ ?_); simp (disch := omega) only [u, i64, ax, if_true, forall_const, reduceCtorEq, implies_true, tvs, bf, decT h]
  · (refine gO ?_)
    (refine FinQ hQ (congrArg Array.toList Tryz.results203) _ _ ?_); simp (disch := omega) only [u, i64, ax, if_true, forall_const, reduceCtorEq, implies_true, tvs, bf, decF h]
set_option maxRecDepth 100000 in
theorem ret_rAdd (xs ys : List Nat) (hx : Wd xs) (hy : Wd ys) (hlx : xs.length ≤ 34359738368) (hly : ys.length ≤ 34359738368) : Ret Tryz.prog GEs 208 [ws xs, ws ys] (nat (val xs + val ys)) := by
  have hb : vb 4294967296 (digs xs) + vb 4294967296 (digs ys) < 4294967296 ^ (max (digs xs).length (digs ys).length + 1) := by
    have h1 := Nat.lt_of_lt_of_le (vb_lt (digs_Ds hx)) (Nat.pow_le_pow_right (n := 4294967296) (by decide) (Nat.le_max_left _ (digs ys).length))
    have h2 := Nat.lt_of_lt_of_le (vb_lt (digs_Ds hy)) (Nat.pow_le_pow_right (n := 4294967296) (by decide) (Nat.le_max_right (digs xs).length _))
    rw [Nat.pow_succ]; omega
  refine RetN_start Tryz.func208 (by kernel_rfl) rfl fun Q hQ hQ2 => ?_; rw [Tryz.ntmps208]; simp only [u, i64, Nat.reduceSub, Nat.reduceAdd, bm]
  (refine gO ?_)
  (refine gC ?_)
  (refine cR (ret_Digits xs hx (by omega)) ?_; refine sX ?_; try refine aA ?_)
  (refine cR (ret_Digits ys hy (by omega)) ?_; refine sX ?_; try refine aA ?_)
  (refine cR (ret_Plus (digs xs) (digs ys) (digs_Ds hx) (digs_Ds hy) (by rw [digs_length]; omega) (by rw [digs_length]; omega)) ?_; refine sX ?_; try refine aA ?_)
  (refine cR (ret_nat (wfb 4294967296 (max (digs xs).length (digs ys).length + 1) (vb 4294967296 (digs xs) + vb 4294967296 (digs ys))) (wfb_Ds (by decide) _ _) (by rw [wfb_length, digs_length, digs_length]; omega)) ?_; refine sX ?_; try refine aA ?_)
  rw [vb_wfb (by decide) _ _ hb, digs_val, digs_val]
  (refine gO ?_)
  (refine FinQ hQ (congrArg Array.toList Tryz.results208) _ _ ?_); simp (disch := omega) only [u, i64, ax, if_true, forall_const, reduceCtorEq, implies_true, tvs, bf]
set_option maxRecDepth 100000 in
theorem ret_rDivMod (xs ys : List Nat) (hx : Wd xs) (hy : Wd ys) (hne : val ys ≠ 0) (hlx : xs.length ≤ 34359738368) (hly : ys.length ≤ 34359738368) : Ret Tryz.prog GEs 209 [ws xs, ws ys] (.tup [nat (val xs / val ys), nat (val xs % val ys)]) := by
  obtain ⟨qs, rs, h1, h2, h3, h4, h5, h6, hD⟩ := ret_Divide (digs xs) (digs ys) (digs_Ds hx) (digs_Ds hy) (by rw [digs_val]; exact hne) (by rw [digs_length]; omega) (by rw [digs_length]; omega)
  rw [digs_val, digs_val] at h3 h4
  rw [digs_length] at h5 h6
  refine RetN_start Tryz.func209 (by kernel_rfl) rfl fun Q hQ hQ2 => ?_; rw [Tryz.ntmps209]; simp only [u, i64, Nat.reduceSub, Nat.reduceAdd, bm]
  repeat (first | (refine gC ?_; first | refine aA ?_ | ((first | refine cR (ret_Digits xs hx (by omega)) ?_ | refine cR (ret_Digits ys hy (by omega)) ?_ | refine cR hD ?_); refine sX ?_; try refine aA ?_)) | ((first | refine cR (ret_Digits xs hx (by omega)) ?_ | refine cR (ret_Digits ys hy (by omega)) ?_ | refine cR hD ?_); refine sX ?_; try refine aA ?_) | refine gS ?_)
  (refine gC ?_)
  (refine cR (ret_nat qs h1 (by omega)) ?_; refine sX ?_; try refine aA ?_)
  (refine cR (ret_nat rs h2 (by omega)) ?_; refine sX ?_; try refine aA ?_)
  rw [h3, h4]
  (refine gO ?_)
  (refine FinQ hQ (congrArg Array.toList Tryz.results209) _ _ ?_); simp (disch := omega) only [u, i64, ax, if_true, forall_const, reduceCtorEq, implies_true, tvs, bf]
end Go.Proofs
set_option linter.unusedVariables false
set_option linter.unusedSimpArgs false
namespace Go.Proofs
open Go.Ax
theorem vb_at {K : Nat} (hK : 0 < K) (xs : List Nat) (hx : Ds K xs) (j : Nat) : ∃ lo, lo < K ^ j ∧ vb K xs = lo + K ^ j * (xs.getD j 0 + K * vb K (xs.drop (j + 1))) := by
  by_cases h : j < xs.length
  · refine ⟨vb K (xs.take j), ?_, ?_⟩
    · have := vb_lt (hx.take j)
      rwa [List.length_take, Nat.min_eq_left (by omega)] at this
    · rw [← vb_drop_one xs j h]
      exact vb_drop xs j (by omega)
  · refine ⟨vb K xs, ?_, ?_⟩
    · exact Nat.lt_of_lt_of_le (vb_lt hx) (Nat.pow_le_pow_right hK (by omega))
    · rw [getD_over xs j (by omega), List.drop_of_length_le (by omega)]
      show vb K xs = vb K xs + K ^ j * (0 + K * 0)
      rw [Nat.mul_zero, Nat.zero_add, Nat.mul_zero, Nat.add_zero]
theorem vb_first {K : Nat} (hK : 0 < K) {xs ys : List Nat} (hx : Ds K xs) (hy : Ds K ys) (j : Nat) (he : vb K (xs.drop (j + 1)) = vb K (ys.drop (j + 1))) (hlt : xs.getD j 0 < ys.getD j 0) : vb K xs < vb K ys := by
  obtain ⟨a, a1, a2⟩ := vb_at hK xs hx j
  obtain ⟨b, b1, b2⟩ := vb_at hK ys hy j
  rw [a2, b2, he]
  have h1 : K ^ j * (xs.getD j 0 + K * vb K (ys.drop (j + 1)) + 1) ≤ K ^ j * (ys.getD j 0 + K * vb K (ys.drop (j + 1))) := Nat.mul_le_mul_left _ (by omega)
  rw [Nat.mul_succ] at h1
  omega
theorem vb_step {K : Nat} {xs ys : List Nat} (j : Nat) (he : vb K (xs.drop (j + 1)) = vb K (ys.drop (j + 1))) (heq : xs.getD j 0 = ys.getD j 0) : vb K (xs.drop j) = vb K (ys.drop j) := by
  have key : ∀ zs : List Nat, vb K (zs.drop j) = zs.getD j 0 + K * vb K (zs.drop (j + 1)) := fun zs => by
    by_cases h : j < zs.length
    · exact vb_drop_one zs j h
    · rw [getD_over zs j (by omega), List.drop_of_length_le (by omega), List.drop_of_length_le (by omega)]
      show 0 = 0 + K * 0
      rw [Nat.mul_zero]
  rw [key xs, key ys, he, heq]
set_option maxRecDepth 100000 in
set_option maxHeartbeats 2000000 in
theorem ret_Compare01 (xs ys : List Nat) (hx : Ds 4294967296 xs) (hy : Ds 4294967296 ys) (hl : xs.length ≤ 1099511627776) (hl2 : ys.length ≤ 1099511627776) :
    Ret Tryz.prog GEs 235 [ws xs, ws ys] (i64 (cmpI (vb 4294967296 xs) (vb 4294967296 ys))) := by
  have hd1 := fun i => ret_digit xs i hl
  have hd2 := fun i => ret_digit ys i hl2
  have hx4 := fun i => hx.getD (by decide) i
  have hy4 := fun i => hy.getD (by decide) i
  obtain ⟨M, hM⟩ : ∃ M, max xs.length ys.length = M := ⟨_, rfl⟩
  refine RetN_start Tryz.func235 (by kernel_rfl) rfl fun Q hQ hQ2 => ?_; rw [Tryz.ntmps235]; simp only [u, i64, Nat.reduceSub, Nat.reduceAdd, bm]
  (refine gO ?_)
  rw [hM]
  refine AWp_loop (fun j : Nat => mk 32 [(0, ws xs), (1, ws ys), (4, i64 0), (5, i64 ((j : Int) - 1))] []) (fun j => j ≤ M ∧ vb 4294967296 (xs.drop j) = vb 4294967296 (ys.drop j)) (fun j => j) M ?_ ⟨Nat.le_refl _, by rw [List.drop_of_length_le (by omega), List.drop_of_length_le (by omega)]⟩ ?_
  · simp only [u, i64, Nat.reduceSub, Nat.reduceAdd, bm]
  intro j hj
  simp only [u, i64, Nat.reduceSub, Nat.reduceAdd, bm]
  cases j with
  | zero =>
    have h0 : cmpI (vb 4294967296 xs) (vb 4294967296 ys) = 0 := by
      have := hj.2
      rw [List.drop_zero, List.drop_zero] at this
      rw [this]; unfold cmpI; rw [if_neg (by omega), if_neg (by omega)]
    rw [h0] at hQ
    (refine gO ?_)
    (refine FinQ hQ (congrArg Array.toList Tryz.results235) _ _ ?_); simp (disch := omega) only [u, i64, ax, if_true, forall_const, reduceCtorEq, implies_true, tvs, bf]
  | succ j =>
    have e1 := hd1 j
    have e2 := hd2 j
    have l1 := hx4 j
    have l2 := hy4 j
    have hf := vb_first (K := 4294967296) (by decide) hx hy j hj.2
    have hf2 := vb_first (K := 4294967296) (by decide) hy hx j hj.2.symm
    have hs := vb_step (K := 4294967296) (xs := xs) (ys := ys) j hj.2
    rw [show ((j + 1 : Nat) : Int) - 1 = (j : Int) by omega]
    generalize xs.getD j 0 = x at *
    generalize ys.getD j 0 = y at *
    by_cases c1 : x < y
    · have h0 : cmpI (vb 4294967296 xs) (vb 4294967296 ys) = -1 := by unfold cmpI; rw [if_pos (hf c1)]
      rw [h0] at hQ
      repeat (first | (refine gC ?_; first | refine aA ?_ | ((first | refine cR e1 ?_ | refine cR e2 ?_); refine sX ?_; try refine aA ?_)) | ((first | refine cR e1 ?_ | refine cR e2 ?_); refine sX ?_; try refine aA ?_) | refine gS ?_)
      (refine FinQ hQ (congrArg Array.toList Tryz.results235) _ _ ?_); simp (disch := omega) only [u, i64, ax, if_true, forall_const, reduceCtorEq, implies_true, tvs, bf]
    · by_cases c2 : y < x
      · have h0 : cmpI (vb 4294967296 xs) (vb 4294967296 ys) = 1 := by
          have := hf2 c2
          unfold cmpI; rw [if_neg (by omega), if_pos this]
        rw [h0] at hQ
        repeat (first | (refine gC ?_; first | refine aA ?_ | ((first | refine cR e1 ?_ | refine cR e2 ?_); refine sX ?_; try refine aA ?_)) | ((first | refine cR e1 ?_ | refine cR e2 ?_); refine sX ?_; try refine aA ?_) | refine gS ?_)
        (refine FinQ hQ (congrArg Array.toList Tryz.results235) _ _ ?_); simp (disch := omega) only [u, i64, ax, if_true, forall_const, reduceCtorEq, implies_true, tvs, bf]
      · repeat (first | (refine gC ?_; first | refine aA ?_ | ((first | refine cR e1 ?_ | refine cR e2 ?_); refine sX ?_; try refine aA ?_)) | ((first | refine cR e1 ?_ | refine cR e2 ?_); refine sX ?_; try refine aA ?_) | refine gS ?_)
        refine ⟨j, ?_, ⟨by omega, hs (by omega)⟩, by omega⟩
        simp only [u, i64, Nat.reduceSub, Nat.reduceAdd, bm]
theorem ret_rCmp (xs ys : List Nat) (hx : Wd xs) (hy : Wd ys) (hl : xs.length ≤ 34359738368) (hl2 : ys.length ≤ 34359738368) : Ret Tryz.prog GEs 177 [ws xs, ws ys] (i64 (cmpI (val xs) (val ys))) := by
  have h1 := ret_Digits xs hx (by omega)
  have h2 := ret_Digits ys hy (by omega)
  have h3 := ret_Compare01 (digs xs) (digs ys) (digs_Ds hx) (digs_Ds hy) (by rw [digs_length]; omega) (by rw [digs_length]; omega)
  rw [digs_val, digs_val] at h3
  refine RetN_start Tryz.func177 (by kernel_rfl) rfl fun Q hQ hQ2 => ?_; rw [Tryz.ntmps177]; simp only [u, i64, Nat.reduceSub, Nat.reduceAdd, bm]
  repeat (first | (refine gC ?_; first | refine aA ?_ | ((first | refine cR h1 ?_ | refine cR h2 ?_ | refine cR h3 ?_); refine sX ?_; try refine aA ?_)) | ((first | refine cR h1 ?_ | refine cR h2 ?_ | refine cR h3 ?_); refine sX ?_; try refine aA ?_) | refine gS ?_)
  (refine FinQ hQ (congrArg Array.toList Tryz.results177) _ _ ?_); simp (disch := omega) only [u, i64, ax, if_true, forall_const, reduceCtorEq, implies_true, tvs, bf]
set_option maxRecDepth 100000 in
set_option maxHeartbeats 2000000 in
theorem ret_rSub (xs ys : List Nat) (hx : Wd xs) (hy : Wd ys) (hne : xs ≠ []) (hl : xs.length ≤ 34359738368) (hl2 : ys.length ≤ 34359738368) (hle : val ys ≤ val xs) : Ret Tryz.prog GEs 246 [ws xs, ws ys] (nat (val xs - val ys)) := by
  have h1 := ret_Digits xs hx (by omega)
  have h2 := ret_rTrim ys hy hl2
  have hyl := length_words_val_le hy
  have h3 := ret_Digits (words (val ys)) (Wd_words _) (by omega)
  have hdn : digs xs ≠ [] := fun h => by
    have := digs_length xs
    rw [h] at this
    have : xs.length = 0 := by simp at this; omega
    exact hne (List.eq_nil_of_length_eq_zero this)
  have h4 := ret_Minus (digs xs) (digs (words (val ys))) (digs_Ds hx) (digs_Ds (Wd_words _)) hdn (by rw [digs_length]; omega) (by rw [digs_length]; omega)
  have hyl2 := length_mono hle
  have hxl := length_words_val_le hx
  rw [List.take_of_length_le (by rw [digs_length, digs_length]; omega), digs_val, digs_val, val_words] at h4
  have hlt : val xs - val ys < 4294967296 ^ (digs xs).length := by
    have := vb_lt (digs_Ds hx)
    rw [digs_val] at this
    omega
  have hv : vb 4294967296 (mdiff 4294967296 (digs xs).length (val xs) (val ys)) = val xs - val ys := by
    unfold mdiff
    rw [if_pos hle]
    exact vb_wfb (by decide) _ _ hlt
  have hds : Ds 4294967296 (mdiff 4294967296 (digs xs).length (val xs) (val ys)) := wfb_Ds (by decide) _ _
  have hml : (mdiff 4294967296 (digs xs).length (val xs) (val ys)).length = (digs xs).length := wfb_length _ _
  have h5 := ret_nat (mdiff 4294967296 (digs xs).length (val xs) (val ys)) hds (by rw [hml, digs_length]; omega)
  rw [hv] at h5
  generalize mdiff 4294967296 (digs xs).length (val xs) (val ys) = dd at *
  refine RetN_start Tryz.func246 (by kernel_rfl) rfl fun Q hQ hQ2 => ?_; rw [Tryz.ntmps246]; simp only [u, i64, Nat.reduceSub, Nat.reduceAdd, bm]
  repeat (first | (refine gC ?_; first | refine aA ?_ | ((first | refine cR h1 ?_ | refine cR h2 ?_ | refine cR h3 ?_ | refine cR h4 ?_ | refine cR h5 ?_); refine sX ?_; try refine aA ?_)) | ((first | refine cR h1 ?_ | refine cR h2 ?_ | refine cR h3 ?_ | refine cR h4 ?_ | refine cR h5 ?_); refine sX ?_; try refine aA ?_) | refine gS ?_)
  (refine FinQ hQ (congrArg Array.toList Tryz.results246) _ _ ?_); simp (disch := omega) only [u, i64, ax, if_true, forall_const, reduceCtorEq, implies_true, tvs, bf]
end Go.Proofs
set_option linter.unusedVariables false
set_option linter.unusedSimpArgs false
namespace Go.Proofs
open Go.Ax
set_option maxRecDepth 100000 in
theorem ret_Make (neg : Bool) (xs : List Nat) (hx : Wd xs) (hl : xs.length ≤ 34359738368) : Ret Tryz.prog GEs 173 [.bool neg, ws xs] (.agg [.bool (neg && decide (val xs ≠ 0)), nat (val xs)]) := by
  have hxl := length_words_val_le hx
  rw [← len_pos]
  refine RetN_start Tryz.func173 (by kernel_rfl) rfl fun Q hQ hQ2 => ?_; rw [Tryz.ntmps173]; simp only [u, i64, Nat.reduceSub, Nat.reduceAdd, bm]
  (refine gO ?_)
  (refine gC ?_)
  (refine cR (ret_rTrim xs hx hl) ?_; refine sX ?_; try refine aA ?_)
  cases neg with
  | true =>
    by_cases h : 0 < (words (val xs)).length
    · (refine gO ?_)
      (refine FinQ hQ (congrArg Array.toList Tryz.results173) _ _ ?_); simp (disch := omega) only [u, i64, ax, if_true, forall_const, reduceCtorEq, implies_true, tvs, bf, decT h]
    · (refine gO ?_)
      (refine FinQ hQ (congrArg Array.toList Tryz.results173) _ _ ?_); simp (disch := omega) only [u, i64, ax, if_true, forall_const, reduceCtorEq, implies_true, tvs, bf, decF h]
  | false =>
    (refine gO ?_)
    (refine FinQ hQ (congrArg Array.toList Tryz.results173) _ _ ?_); simp (disch := omega) only [u, i64, ax, if_true, forall_const, reduceCtorEq, implies_true, tvs, bf]
    all_goals rfl
set_option maxRecDepth 100000 in
theorem ret_Trim03 (neg : Bool) (xs : List Nat) (hx : Wd xs) (hl : xs.length ≤ 34359738368) : Ret Tryz.prog GEs 237 [.agg [.bool neg, ws xs]] (.agg [.bool (neg && decide (val xs ≠ 0)), nat (val xs)]) := by
  refine RetN_start Tryz.func237 (by kernel_rfl) rfl fun Q hQ hQ2 => ?_; rw [Tryz.ntmps237]; simp only [u, i64, Nat.reduceSub, Nat.reduceAdd, bm]
  repeat (first | (refine gC ?_; first | refine aA ?_ | (refine cR (ret_Make neg xs hx hl) ?_; refine sX ?_; try refine aA ?_)) | (refine cR (ret_Make neg xs hx hl) ?_; refine sX ?_; try refine aA ?_) | refine gS ?_)
  (refine FinQ hQ (congrArg Array.toList Tryz.results237) _ _ ?_); simp (disch := omega) only [u, i64, ax, if_true, forall_const, reduceCtorEq, implies_true, tvs, bf]
set_option maxRecDepth 100000 in
theorem ret_Make11 (neg : Bool) (xs : List Nat) (hx : Wd xs) (hl : xs.length ≤ 34359738368) : Ret Tryz.prog GEs 84 [.bool neg, ws xs] (.agg [.bool (neg && decide (val xs ≠ 0)), nat (val xs)]) := by
  refine RetN_start Tryz.func84 (by kernel_rfl) rfl fun Q hQ hQ2 => ?_; rw [Tryz.ntmps84]; simp only [u, i64, Nat.reduceSub, Nat.reduceAdd, bm]
  repeat (first | (refine gC ?_; first | refine aA ?_ | (refine cR (ret_Make neg xs hx hl) ?_; refine sX ?_; try refine aA ?_)) | (refine cR (ret_Make neg xs hx hl) ?_; refine sX ?_; try refine aA ?_) | refine gS ?_)
  (refine FinQ hQ (congrArg Array.toList Tryz.results84) _ _ ?_); simp (disch := omega) only [u, i64, ax, if_true, forall_const, reduceCtorEq, implies_true, tvs, bf]
/-- The sign of an integer. -/
def sgn (neg : Bool) (v : Nat) : Int := if v = 0 then 0 else if neg then -1 else 1
set_option maxRecDepth 100000 in
theorem ret_Sign03 (neg : Bool) (xs : List Nat) (hx : Wd xs) (hl : xs.length ≤ 34359738368) : Ret Tryz.prog GEs 230 [.agg [.bool neg, ws xs]] (i64 (sgn neg (val xs))) := by
  have hT := ret_Trim03 neg xs hx hl
  have hxl := length_words_val_le hx
  by_cases h0 : val xs = 0
  · have e : sgn neg (val xs) = 0 := if_pos h0
    rw [decF (show ¬ val xs ≠ 0 from fun h => h h0), Bool.and_false] at hT
    have hl0 : ¬ 0 < (words (val xs)).length := by rw [h0, words_zero]; simp
    refine RetN_start Tryz.func230 (by kernel_rfl) rfl fun Q hQ hQ2 => ?_; rw [Tryz.ntmps230]; simp only [u, i64, Nat.reduceSub, Nat.reduceAdd, bm]
    repeat (first | (refine gC ?_; first | refine aA ?_ | (refine cR hT ?_; refine sX ?_; try refine aA ?_)) | (refine cR hT ?_; refine sX ?_; try refine aA ?_) | refine gS ?_)
    (refine FinQ hQ (congrArg Array.toList Tryz.results230) _ _ ?_); simp (disch := omega) only [u, i64, ax, if_true, forall_const, reduceCtorEq, implies_true, tvs, bf, e]
  · rw [decT h0, Bool.and_true] at hT
    have hl0 : 0 < (words (val xs)).length := List.length_pos_iff.2 fun h => h0 (words_eq_nil.1 h)
    cases neg with
    | true =>
      have e : sgn true (val xs) = -1 := by unfold sgn; rw [if_neg h0]; rfl
      refine RetN_start Tryz.func230 (by kernel_rfl) rfl fun Q hQ hQ2 => ?_; rw [Tryz.ntmps230]; simp only [u, i64, Nat.reduceSub, Nat.reduceAdd, bm]
      repeat (first | (refine gC ?_; first | refine aA ?_ | (refine cR hT ?_; refine sX ?_; try refine aA ?_)) | (refine cR hT ?_; refine sX ?_; try refine aA ?_) | refine gS ?_)
      (refine FinQ hQ (congrArg Array.toList Tryz.results230) _ _ ?_); simp (disch := omega) only [u, i64, ax, if_true, forall_const, reduceCtorEq, implies_true, tvs, bf, e]
    | false =>
      have e : sgn false (val xs) = 1 := by unfold sgn; rw [if_neg h0]; rfl
      refine RetN_start Tryz.func230 (by kernel_rfl) rfl fun Q hQ hQ2 => ?_; rw [Tryz.ntmps230]; simp only [u, i64, Nat.reduceSub, Nat.reduceAdd, bm]
      repeat (first | (refine gC ?_; first | refine aA ?_ | (refine cR hT ?_; refine sX ?_; try refine aA ?_)) | (refine cR hT ?_; refine sX ?_; try refine aA ?_) | refine gS ?_)
      (refine FinQ hQ (congrArg Array.toList Tryz.results230) _ _ ?_); simp (disch := omega) only [u, i64, ax, if_true, forall_const, reduceCtorEq, implies_true, tvs, bf, e]
set_option maxRecDepth 100000 in
theorem ret_Sign11 (neg : Bool) (xs : List Nat) (hx : Wd xs) (hl : xs.length ≤ 34359738368) : Ret Tryz.prog GEs 164 [.agg [.bool neg, ws xs]] (i64 (sgn neg (val xs))) := by
  refine RetN_start Tryz.func164 (by kernel_rfl) rfl fun Q hQ hQ2 => ?_; rw [Tryz.ntmps164]; simp only [u, i64, Nat.reduceSub, Nat.reduceAdd, bm]
  repeat (first | (refine gC ?_; first | refine aA ?_ | (refine cR (ret_Sign03 neg xs hx hl) ?_; refine sX ?_; try refine aA ?_)) | (refine cR (ret_Sign03 neg xs hx hl) ?_; refine sX ?_; try refine aA ?_) | refine gS ?_)
  (refine FinQ hQ (congrArg Array.toList Tryz.results164) _ _ ?_); simp (disch := omega) only [u, i64, ax, if_true, forall_const, reduceCtorEq, implies_true, tvs, bf]
set_option maxRecDepth 100000 in
theorem ret_Known (r : Int) (h1 : -9223372036854775808 ≤ r) (h2 : r < 9223372036854775808) : Ret Tryz.prog GEs 160 [i64 r] (.bool (decide (0 ≤ r ∧ r ≤ 4))) := by
  refine RetN_start Tryz.func160 (by kernel_rfl) rfl fun Q hQ hQ2 => ?_; rw [Tryz.ntmps160]; simp only [u, i64, Nat.reduceSub, Nat.reduceAdd, bm]
  by_cases ha : 0 ≤ r
  · by_cases hb : r ≤ 4
    · (refine gO ?_)
      (refine FinQ hQ (congrArg Array.toList Tryz.results160) _ _ ?_); simp (disch := omega) only [u, i64, ax, if_true, forall_const, reduceCtorEq, implies_true, tvs, bf, decT (show 0 ≤ r ∧ r ≤ 4 from ⟨ha, hb⟩)]
    · (refine gO ?_)
      (refine FinQ hQ (congrArg Array.toList Tryz.results160) _ _ ?_); simp (disch := omega) only [u, i64, ax, if_true, forall_const, reduceCtorEq, implies_true, tvs, bf, decF (show ¬ (0 ≤ r ∧ r ≤ 4) from fun h => hb h.2)]
  · (refine gO ?_)
    (refine FinQ hQ (congrArg Array.toList Tryz.results160) _ _ ?_); simp (disch := omega) only [u, i64, ax, if_true, forall_const, reduceCtorEq, implies_true, tvs, bf, decF (show ¬ (0 ≤ r ∧ r ≤ 4) from fun h => ha h.1)]
end Go.Proofs
set_option linter.unusedVariables false
set_option linter.unusedSimpArgs false
namespace Go.Proofs
open Go.Ax
/-- A canonical integer. -/
def zv (z : Int) : AV := .agg [.bool (decide (z < 0)), nat z.natAbs]
/-- The value of a sign and a size. -/
def sg (neg : Bool) (n : Nat) : Int := if neg = true then -(n : Int) else n
theorem mk_zv (neg : Bool) (n : Nat) : AV.agg [.bool (neg && decide (n ≠ 0)), nat n] = zv (sg neg n) := by
  unfold zv sg
  cases neg with
  | true =>
    rw [if_pos rfl, Int.natAbs_neg, Int.natAbs_natCast, Bool.true_and]
    congr 3
    simp only [decide_eq_decide]
    omega
  | false =>
    rw [if_neg (by decide), Int.natAbs_natCast, Bool.false_and, decF (show ¬ (n : Int) < 0 by omega)]
theorem sg_zv (z : Int) : sg (decide (z < 0)) z.natAbs = z := by
  unfold sg
  by_cases h : z < 0
  · rw [decT h, if_pos rfl]; omega
  · rw [decF h, if_neg (by decide)]; omega
theorem ret_Make03 (neg : Bool) (xs : List Nat) (hx : Wd xs) (hl : xs.length ≤ 34359738368) : Ret Tryz.prog GEs 173 [.bool neg, ws xs] (zv (sg neg (val xs))) := mk_zv neg (val xs) ▸ ret_Make neg xs hx hl
theorem ret_rMul (xs ys : List Nat) (hx : Wd xs) (hy : Wd ys) (hl : xs.length ≤ 10000000) (hl2 : ys.length ≤ 10000000) : Ret Tryz.prog GEs 146 [ws xs, ws ys] (nat (val xs * val ys)) := by
  have h1 := ret_Digits xs hx (by omega)
  have h2 := ret_Digits ys hy (by omega)
  have e1 := digs_length xs
  have e2 := digs_length ys
  have h3 := ret_Times (digs xs) (digs ys) (digs_Ds hx) (digs_Ds hy) (by omega) (by omega)
  have hlt : vb 4294967296 (digs xs) * vb 4294967296 (digs ys) < 4294967296 ^ ((digs xs).length + (digs ys).length) := by
    rw [Nat.pow_add]
    exact Nat.mul_lt_mul'' (vb_lt (digs_Ds hx)) (vb_lt (digs_Ds hy))
  have hv := vb_wfb (K := 4294967296) (by decide) _ _ hlt
  have hds : Ds 4294967296 (wfb 4294967296 ((digs xs).length + (digs ys).length) (vb 4294967296 (digs xs) * vb 4294967296 (digs ys))) := wfb_Ds (by decide) _ _
  have hml : (wfb 4294967296 ((digs xs).length + (digs ys).length) (vb 4294967296 (digs xs) * vb 4294967296 (digs ys))).length = (digs xs).length + (digs ys).length := wfb_length _ _
  have h4 := ret_nat _ hds (by omega)
  rw [hv, digs_val, digs_val] at h4
  rw [digs_val, digs_val] at h3
  generalize wfb 4294967296 ((digs xs).length + (digs ys).length) (val xs * val ys) = dd at *
  refine RetN_start Tryz.func146 (by kernel_rfl) rfl fun Q hQ hQ2 => ?_; rw [Tryz.ntmps146]; simp only [u, i64, Nat.reduceSub, Nat.reduceAdd, bm]
  repeat (first | (refine gC ?_; first | refine aA ?_ | ((first | refine cR h1 ?_ | refine cR h2 ?_ | refine cR h3 ?_ | refine cR h4 ?_); refine sX ?_; try refine aA ?_)) | ((first | refine cR h1 ?_ | refine cR h2 ?_ | refine cR h3 ?_ | refine cR h4 ?_); refine sX ?_; try refine aA ?_) | refine gS ?_)
  (refine FinQ hQ (congrArg Array.toList Tryz.results146) _ _ ?_); simp (disch := omega) only [u, i64, ax, if_true, forall_const, reduceCtorEq, implies_true, tvs, bf]
end Go.Proofs
