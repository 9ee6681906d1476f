/-
  Contracts of functions of the program, each proved by a walk.
-/
import Derived.Test.YtenfiehjbeojeaaGreatDoorV11
set_option maxRecDepth 100000
set_option linter.unusedVariables false
set_option linter.unusedSimpArgs false
namespace Go.Proofs
open Go.Ax
theorem val_set_take (os : List Nat) (n v : Nat) (h : n < os.length) : val ((os.set n v).take (n + 1)) = val (os.take n) + 18446744073709551616 ^ n * v := by
  rw [val_take_succ _ n (by simpa using h), List.getD_eq_getElem?_getD, List.getElem?_set_self h, List.take_set_of_le (Nat.le_refl n)]
  rfl
theorem val_take_over (xs : List Nat) (n : Nat) (h : xs.length ≤ n) : val (xs.take (n + 1)) = val (xs.take n) := by
  rw [List.take_of_length_le (by omega), List.take_of_length_le h]
theorem getD_over (xs : List Nat) (n : Nat) (h : xs.length ≤ n) : xs.getD n 0 = 0 := by
  rw [List.getD_eq_getElem?_getD, List.getElem?_eq_none h]; rfl
theorem val_take_getD (xs : List Nat) (n : Nat) : val (xs.take (n + 1)) = val (xs.take n) + 18446744073709551616 ^ n * xs.getD n 0 := by
  rcases Nat.lt_or_ge n xs.length with h | h
  · exact val_take_succ xs n h
  · rw [val_take_over xs n h, getD_over xs n h]; rfl
theorem add_step (p a b s c x y : Nat) (h : s + c * p = a + b) : s + p * ((x + y + c) % 18446744073709551616) + (x + y + c) / 18446744073709551616 * (p * 18446744073709551616) = a + p * x + (b + p * y) := by
  have e : p * ((x + y + c) % 18446744073709551616) + (x + y + c) / 18446744073709551616 * (p * 18446744073709551616) = p * (x + y + c) := by
    rw [Nat.mul_comm ((x + y + c) / 18446744073709551616), Nat.mul_assoc, ← Nat.mul_add, Nat.mod_add_div]
  rw [Nat.add_assoc, e, Nat.mul_add, Nat.mul_add, Nat.mul_comm p c]
  omega
theorem retx_Add64b (x y c : Nat) (hx : x < 18446744073709551616) (hy : y < 18446744073709551616) (hc : c ≤ 1) : RetX Tryz.prog 81 [u x, u y, u c] (.tup [u ((x + y + c) % 18446744073709551616), u ((x + y + c) / 18446744073709551616)]) := retx_Add64 x y c hc
set_option maxRecDepth 100000 in
theorem ret_Add (xs ys : List Nat) (hx : Wd xs) (hy : Wd ys) (hlx : xs.length ≤ 1099511627775) (hly : ys.length ≤ 1099511627775) : Ret Tryz.prog GEs 96 [ws xs, ws ys] (nat (val xs + val ys)) := by
  refine RetN_start Tryz.func96 (by kernel_rfl) rfl fun Q hQ hQ2 => ?_; rw [Tryz.ntmps96]; simp only [u, i64, Nat.reduceSub, Nat.reduceAdd, bm]
  rcases Nat.lt_or_ge xs.length ys.length with h | h
  · (refine gO ?_)
    have hX : Wd ys := by assumption
    have hY : Wd xs := by assumption
    refine AWp_loop (fun i : Nat × List Nat × Nat => mk 54 [(0, ws ys), (1, ws xs), (5, .own 0 0 0 (ys.length + 1) 1), (6, u i.2.2), (21, i64 ys.length), (22, i64 i.1)] [⟨0, true, us i.2.1⟩])
      (fun i => i.1 ≤ ys.length ∧ i.2.1.length = ys.length + 1 ∧ Wd i.2.1 ∧ i.2.2 ≤ 1 ∧ val (i.2.1.take i.1) + i.2.2 * 18446744073709551616 ^ i.1 = val (ys.take i.1) + val (xs.take i.1)) (fun i => ys.length - i.1) (0, List.replicate (ys.length + 1) 0, 0) ?_ ⟨Nat.zero_le _, by simp, Wd_replicate _ (by decide), by simp, by simp [val]⟩ ?_
    · simp only [u, i64, Nat.reduceSub, Nat.reduceAdd, bm]
    rintro ⟨n, os, c⟩ ⟨h1, h2, h3, h4, h5⟩
    simp only at h1 h2 h3 h4 h5
    simp only [u, i64, Nat.reduceSub, Nat.reduceAdd, bm]
    by_cases hn : n < ys.length
    · have e1 := val_take_getD ys n
      have e2 := val_take_getD xs n
      have hxb := hX.getD n
      have hyb := hY.getD n
      have hs := val_set_take os n ((ys.getD n 0 + xs.getD n 0 + c) % 18446744073709551616) (by omega)
      have hc1 : (ys.getD n 0 + xs.getD n 0 + c) / 18446744073709551616 ≤ 1 := by omega
      by_cases hyn : n < xs.length
      · (refine gO ?_)
        (refine gC ?_)
        (refine callK_ext (retx_Add64b _ _ _ hxb hyb h4) rfl (by (simp (disch := omega) only [if_true, forall_const, reduceCtorEq, implies_true, bz]) <;> rfl) ?_; refine sX ?_; try refine aA ?_)
        (refine gO ?_)
        refine ⟨(n + 1, os.set n ((ys.getD n 0 + xs.getD n 0 + c) % 18446744073709551616), (ys.getD n 0 + xs.getD n 0 + c) / 18446744073709551616), ?_, ⟨hn, by simpa using h2, h3.set n (Nat.mod_lt _ (by decide)), hc1, ?_⟩, by simp only; omega⟩
        · simp only [u, i64, Nat.reduceSub, Nat.reduceAdd, bm]
        · simp only [hs, e1, e2, Nat.pow_succ]; exact add_step _ _ _ _ _ _ _ h5
      · have hy0 := getD_over xs n (by omega)
        rw [hy0] at hs hc1 e2
        have e3 := add_step _ _ _ _ c (ys.getD n 0) 0 h5
        simp only [Nat.add_zero] at hs hc1
        (refine gO ?_)
        (refine gC ?_)
        (refine callK_ext (retx_Add64b _ 0 _ hxb (by decide) h4) rfl (by (simp (disch := omega) only [if_true, forall_const, reduceCtorEq, implies_true, bz]) <;> rfl) ?_; refine sX ?_; try refine aA ?_)
        (refine gO ?_)
        refine ⟨(n + 1, os.set n ((ys.getD n 0 + c) % 18446744073709551616), (ys.getD n 0 + c) / 18446744073709551616), ?_, ⟨hn, by simpa using h2, h3.set n (Nat.mod_lt _ (by decide)), hc1, ?_⟩, by simp only; omega⟩
        · simp only [u, i64, Nat.reduceSub, Nat.reduceAdd, bm]
        · simp only [hs, e1, e2, Nat.pow_succ]; simpa only [Nat.add_zero] using e3
    · have hn0 : n = ys.length := by omega
      subst hn0
      have hs := val_set_take os ys.length c (by omega)
      rw [List.take_of_length_le (by simp; omega)] at hs
      have hv : val (os.set ys.length c) = val ys + val xs := by
        rw [hs, Nat.mul_comm, h5, List.take_length, List.take_of_length_le (by omega)]
      (refine gO ?_)
      have hl2 : (os.set ys.length c).length = ys.length + 1 := by simp; omega
      refine G_cool0 ?_
      (refine gC ?_)
      (refine cR (ret_Trim (os.set ys.length c) (h3.set ys.length (v := c) (by omega)) (by simp; omega)) ?_; refine sX ?_; try refine aA ?_)
      rw [hv]
      (refine gO ?_)
      (refine FinQ hQ (congrArg Array.toList Tryz.results96) _ _ ?_); simp (disch := omega) only [u, i64, ax, if_true, forall_const, reduceCtorEq, implies_true, tvs, bf]
      first | done | rw [Nat.add_comm]
  · (refine gO ?_)
    have hX : Wd xs := by assumption
    have hY : Wd ys := by assumption
    refine AWp_loop (fun i : Nat × List Nat × Nat => mk 54 [(0, ws xs), (1, ws ys), (5, .own 0 0 0 (xs.length + 1) 1), (6, u i.2.2), (21, i64 xs.length), (22, i64 i.1)] [⟨0, true, us i.2.1⟩])
      (fun i => i.1 ≤ xs.length ∧ i.2.1.length = xs.length + 1 ∧ Wd i.2.1 ∧ i.2.2 ≤ 1 ∧ val (i.2.1.take i.1) + i.2.2 * 18446744073709551616 ^ i.1 = val (xs.take i.1) + val (ys.take i.1)) (fun i => xs.length - i.1) (0, List.replicate (xs.length + 1) 0, 0) ?_ ⟨Nat.zero_le _, by simp, Wd_replicate _ (by decide), by simp, by simp [val]⟩ ?_
    · simp only [u, i64, Nat.reduceSub, Nat.reduceAdd, bm]
    rintro ⟨n, os, c⟩ ⟨h1, h2, h3, h4, h5⟩
    simp only at h1 h2 h3 h4 h5
    simp only [u, i64, Nat.reduceSub, Nat.reduceAdd, bm]
    by_cases hn : n < xs.length
    · have e1 := val_take_getD xs n
      have e2 := val_take_getD ys n
      have hxb := hX.getD n
      have hyb := hY.getD n
      have hs := val_set_take os n ((xs.getD n 0 + ys.getD n 0 + c) % 18446744073709551616) (by omega)
      have hc1 : (xs.getD n 0 + ys.getD n 0 + c) / 18446744073709551616 ≤ 1 := by omega
      by_cases hyn : n < ys.length
      · (refine gO ?_)
        (refine gC ?_)
        (refine callK_ext (retx_Add64b _ _ _ hxb hyb h4) rfl (by (simp (disch := omega) only [if_true, forall_const, reduceCtorEq, implies_true, bz]) <;> rfl) ?_; refine sX ?_; try refine aA ?_)
        (refine gO ?_)
        refine ⟨(n + 1, os.set n ((xs.getD n 0 + ys.getD n 0 + c) % 18446744073709551616), (xs.getD n 0 + ys.getD n 0 + c) / 18446744073709551616), ?_, ⟨hn, by simpa using h2, h3.set n (Nat.mod_lt _ (by decide)), hc1, ?_⟩, by simp only; omega⟩
        · simp only [u, i64, Nat.reduceSub, Nat.reduceAdd, bm]
        · simp only [hs, e1, e2, Nat.pow_succ]; exact add_step _ _ _ _ _ _ _ h5
      · have hy0 := getD_over ys n (by omega)
        rw [hy0] at hs hc1 e2
        have e3 := add_step _ _ _ _ c (xs.getD n 0) 0 h5
        simp only [Nat.add_zero] at hs hc1
        (refine gO ?_)
        (refine gC ?_)
        (refine callK_ext (retx_Add64b _ 0 _ hxb (by decide) h4) rfl (by (simp (disch := omega) only [if_true, forall_const, reduceCtorEq, implies_true, bz]) <;> rfl) ?_; refine sX ?_; try refine aA ?_)
        (refine gO ?_)
        refine ⟨(n + 1, os.set n ((xs.getD n 0 + c) % 18446744073709551616), (xs.getD n 0 + c) / 18446744073709551616), ?_, ⟨hn, by simpa using h2, h3.set n (Nat.mod_lt _ (by decide)), hc1, ?_⟩, by simp only; omega⟩
        · simp only [u, i64, Nat.reduceSub, Nat.reduceAdd, bm]
        · simp only [hs, e1, e2, Nat.pow_succ]; simpa only [Nat.add_zero] using e3
    · have hn0 : n = xs.length := by omega
      subst hn0
      have hs := val_set_take os xs.length c (by omega)
      rw [List.take_of_length_le (by simp; omega)] at hs
      have hv : val (os.set xs.length c) = val xs + val ys := by
        rw [hs, Nat.mul_comm, h5, List.take_length, List.take_of_length_le (by omega)]
      (refine gO ?_)
      have hl2 : (os.set xs.length c).length = xs.length + 1 := by simp; omega
      refine G_cool0 ?_
      (refine gC ?_)
      (refine cR (ret_Trim (os.set xs.length c) (h3.set xs.length (v := c) (by omega)) (by simp; omega)) ?_; refine sX ?_; try refine aA ?_)
      rw [hv]
      (refine gO ?_)
      (refine FinQ hQ (congrArg Array.toList Tryz.results96) _ _ ?_); simp (disch := omega) only [u, i64, ax, if_true, forall_const, reduceCtorEq, implies_true, tvs, bf]
      first | done | rw [Nat.add_comm]
theorem sub_step (p a b s c x y : Nat) (hc : c ≤ 1) (hx : x < 18446744073709551616) (hy : y < 18446744073709551616) (h : s + b = a + c * p) : s + p * ((x + 18446744073709551616 - y - c) % 18446744073709551616) + (b + p * y) = a + p * x + (if x < y + c then 1 else 0) * (p * 18446744073709551616) := by
  have e : (x + 18446744073709551616 - y - c) % 18446744073709551616 + y + c = x + (if x < y + c then 1 else 0) * 18446744073709551616 := by split <;> omega
  have e2 : p * ((x + 18446744073709551616 - y - c) % 18446744073709551616) + p * y + p * c = p * x + (if x < y + c then 1 else 0) * (p * 18446744073709551616) := by
    rw [← Nat.mul_add, ← Nat.mul_add, e, Nat.mul_add, Nat.mul_left_comm p]
  rw [Nat.mul_comm c p] at h
  omega
theorem ite_le1 (c : Prop) [Decidable c] : (if c then 1 else 0) ≤ 1 := by split <;> omega
set_option maxRecDepth 100000 in
theorem ret_Sub (xs ys : List Nat) (hx : Wd xs) (hy : Wd ys) (hlx : xs.length ≤ 1099511627775) (hly : ys.length ≤ 1099511627775) (hle : val ys ≤ val xs) : Ret Tryz.prog GEs 97 [ws xs, ws ys] (nat (val xs - val ys)) := by
  refine RetN_start Tryz.func97 (by kernel_rfl) rfl fun Q hQ hQ2 => ?_; rw [Tryz.ntmps97]; simp only [u, i64, Nat.reduceSub, Nat.reduceAdd, bm]
  (refine gO ?_)
  (refine gC ?_)
  (refine cR (ret_view xs hx (by omega)) ?_; refine sX ?_; try refine aA ?_)
  (refine cR (ret_view ys hy (by omega)) ?_; refine sX ?_; try refine aA ?_)
  have hX := length_words_val_le hx
  have hm := length_mono hle
  have hWx := Wd_words (val xs)
  have hWy := Wd_words (val ys)
  have hvx := val_words (val xs)
  have hvy := val_words (val ys)
  simp only [nat]
  generalize words (val xs) = X at *
  generalize words (val ys) = Y at *
  (refine gO ?_)
  refine AWp_loop (fun i : Nat × List Nat × Nat => mk 45 [(0, ws X), (1, ws Y), (5, .own 0 0 0 X.length 1), (6, u i.2.2), (17, i64 X.length), (18, i64 i.1)] [⟨0, true, us i.2.1⟩])
      (fun i => i.1 ≤ X.length ∧ i.2.1.length = X.length ∧ Wd i.2.1 ∧ i.2.2 ≤ 1 ∧ val (i.2.1.take i.1) + val (Y.take i.1) = val (X.take i.1) + i.2.2 * 18446744073709551616 ^ i.1) (fun i => X.length - i.1) (0, List.replicate X.length 0, 0) ?_ ⟨Nat.zero_le _, by simp, Wd_replicate _ (by decide), by simp, by simp [val]⟩ ?_
  · simp only [u, i64, Nat.reduceSub, Nat.reduceAdd, bm]
  rintro ⟨n, os, c⟩ ⟨h1, h2, h3, h4, h5⟩
  simp only at h1 h2 h3 h4 h5
  simp only [u, i64, Nat.reduceSub, Nat.reduceAdd, bm]
  by_cases hn : n < X.length
  · have e1 := val_take_getD X n
    have e2 := val_take_getD Y n
    have hxb := hWx.getD n
    have hyb := hWy.getD n
    have e3 := sub_step _ _ _ _ c (X.getD n 0) (Y.getD n 0) h4 hxb hyb h5
    have hs := val_set_take os n ((X.getD n 0 + 18446744073709551616 - Y.getD n 0 - c) % 18446744073709551616) (by omega)
    by_cases hyn : n < Y.length
    · (refine gO ?_)
      (refine gC ?_)
      (refine callK_ext (retx_Sub64 _ _ _ h4) rfl (by (simp (disch := omega) only [if_true, forall_const, reduceCtorEq, implies_true, bz]) <;> rfl) ?_; refine sX ?_; try refine aA ?_)
      (refine gO ?_)
      refine ⟨(n + 1, os.set n ((X.getD n 0 + 18446744073709551616 - Y.getD n 0 - c) % 18446744073709551616), if X.getD n 0 < Y.getD n 0 + c then 1 else 0), ?_, ⟨hn, by simpa using h2, h3.set n (Nat.mod_lt _ (by decide)), ite_le1 _, ?_⟩, by simp only; omega⟩
      · simp only [u, i64, Nat.reduceSub, Nat.reduceAdd, bm]
      · simp only [hs, e1, e2, Nat.pow_succ]; exact e3
    · have hy0 := getD_over Y n (by omega)
      rw [hy0] at hs e2 e3
      simp only [Nat.sub_zero, Nat.zero_add] at hs e3
      (refine gO ?_)
      (refine gC ?_)
      (refine callK_ext (retx_Sub64 _ 0 _ h4) rfl (by (simp (disch := omega) only [if_true, forall_const, reduceCtorEq, implies_true, bz]) <;> rfl) ?_; refine sX ?_; try refine aA ?_)
      (refine gO ?_)
      refine ⟨(n + 1, os.set n ((X.getD n 0 + 18446744073709551616 - c) % 18446744073709551616), if X.getD n 0 < c then 1 else 0), ?_, ⟨hn, by simpa using h2, h3.set n (Nat.mod_lt _ (by decide)), ite_le1 _, ?_⟩, by simp only; omega⟩
      · simp only [u, i64, Nat.reduceSub, Nat.reduceAdd, bm]
      · simp only [hs, e1, e2, Nat.pow_succ]; exact e3
  · have hn0 : n = X.length := by omega
    subst hn0
    rw [List.take_of_length_le (by omega), List.take_of_length_le (by omega), List.take_length, hvx, hvy] at h5
    have hlt := val_lt h3
    rw [h2] at hlt
    have hc0 : c = 0 := by
      rcases Nat.eq_zero_or_pos c with h | h
      · exact h
      · have : c = 1 := by omega
        subst this
        omega
    subst hc0
    have hv : val os = val xs - val ys := by omega
    (refine gO ?_)
    refine G_cool0 ?_
    (refine gC ?_)
    (refine cR (ret_Trim os h3 (by omega)) ?_; refine sX ?_; try refine aA ?_)
    rw [hv]
    (refine gO ?_)
    (refine FinQ hQ (congrArg Array.toList Tryz.results97) _ _ ?_); simp (disch := omega) only [u, i64, ax, if_true, forall_const, reduceCtorEq, implies_true, tvs, bf]
end Go.Proofs
set_option linter.unusedVariables false
set_option linter.unusedSimpArgs false
namespace Go.Proofs
open Go.Ax
theorem getD_rep (n k : Nat) : (List.replicate n 0).getD k 0 = 0 := by
  rw [List.getD_eq_getElem?_getD, List.getElem?_replicate]; split <;> rfl
theorem getD_set_self (os : List Nat) (i v : Nat) (h : i < os.length) : (os.set i v).getD i 0 = v := by
  rw [List.getD_eq_getElem?_getD, List.getElem?_set_self h]; rfl
theorem getD_set_ne (os : List Nat) (i k v : Nat) (h : i ≠ k) : (os.set i v).getD k 0 = os.getD k 0 := by
  rw [List.getD_eq_getElem?_getD, List.getElem?_set_ne h, List.getD_eq_getElem?_getD]
theorem or_add (o w r : Nat) (hr : r < 64) (ho : o < 2 ^ r) (hw : w < 18446744073709551616) : o ||| (w * 2 ^ r % 18446744073709551616) = o + w * 2 ^ r % 18446744073709551616 := by
  have e : w * 2 ^ r % 18446744073709551616 = 2 ^ r * (w % 2 ^ (64 - r)) := by
    rw [show 18446744073709551616 = 2 ^ r * 2 ^ (64 - r) by rw [← Nat.pow_add, show r + (64 - r) = 64 by omega], Nat.mul_comm w, Nat.mul_mod_mul_left]
  rw [e, Nat.or_comm, ← Nat.two_pow_add_eq_or_of_lt ho, Nat.add_comm]
theorem shr_div (w r : Nat) (hr : r < 64) (h0 : 0 < r) : w / 2 ^ (64 - r) = w * 2 ^ r / 18446744073709551616 := by
  rw [show 18446744073709551616 = 2 ^ (64 - r) * 2 ^ r by rw [← Nat.pow_add, show 64 - r + r = 64 by omega], Nat.mul_div_mul_right _ _ (Nat.two_pow_pos r)]
theorem div_lt_two (w r : Nat) (hw : w < 18446744073709551616) : w * 2 ^ r / 18446744073709551616 < 2 ^ r := by
  rw [Nat.div_lt_iff_lt_mul (by decide), Nat.mul_comm]; exact Nat.mul_lt_mul_of_pos_left hw (Nat.two_pow_pos r)
theorem shl_step {v N P M o w t hi lo : Nat} (h : v + P * N * o = M) (e : lo + hi * 18446744073709551616 = w * t) : v + P * N * (o + lo) + P * N * 18446744073709551616 * hi = M + P * (w * (N * t)) := by
  rw [Nat.mul_add, ← Nat.add_assoc, h, Nat.add_assoc, Nat.mul_assoc (P * N), ← Nat.mul_add, Nat.mul_comm 18446744073709551616 hi, e, Nat.mul_assoc P N, Nat.mul_left_comm N w t]
set_option maxRecDepth 100000 in
theorem ret_Shl (xs : List Nat) (s : Nat) (hx : Wd xs) (hl : xs.length ≤ 549755813888) (hs : s ≤ 549755813888) : Ret Tryz.prog GEs 76 [ws xs, i64 s] (nat (val xs * 2 ^ s)) := by
  refine RetN_start Tryz.func76 (by kernel_rfl) rfl fun Q hQ hQ2 => ?_; rw [Tryz.ntmps76]; simp only [u, i64, Nat.reduceSub, Nat.reduceAdd, bm]
  (refine gO ?_)
  (refine gC ?_)
  (refine cR (ret_view xs hx (by omega)) ?_; refine sX ?_; try refine aA ?_)
  have hX := length_words_val_le hx
  have hW := Wd_words (val xs)
  have hv := val_words (val xs)
  simp only [nat]
  generalize words (val xs) = X at *
  by_cases h0 : X.length = 0
  · (refine gO ?_)
    (refine FinQ hQ (congrArg Array.toList Tryz.results76) _ _ ?_); simp (disch := omega) only [u, i64, ax, if_true, forall_const, reduceCtorEq, implies_true, tvs, bf]
    have : X = [] := List.eq_nil_of_length_eq_zero h0
    subst this
    rw [← hv]; simp [val, nat, words_zero, us]
  have hr : s % 64 < 64 := Nat.mod_lt _ (by decide)
  have hsq : s = 64 * (s / 64) + s % 64 := (Nat.div_add_mod s 64).symm
  (refine gO ?_)
  refine AWp_loop (fun i : Nat × List Nat => mk 58 [(0, ws X), (1, i64 s), (5, .own 0 0 0 (X.length + s / 64 + 1) 1), (20, ws X), (21, i64 X.length), (22, i64 i.1)] [⟨0, true, us i.2⟩])
      (fun i => i.1 ≤ X.length ∧ i.2.length = X.length + s / 64 + 1 ∧ Wd i.2 ∧ i.2.getD (i.1 + s / 64) 0 < 2 ^ (s % 64) ∧ (∀ k, i.1 + s / 64 < k → i.2.getD k 0 = 0) ∧ val (i.2.take (i.1 + s / 64)) + 18446744073709551616 ^ (i.1 + s / 64) * i.2.getD (i.1 + s / 64) 0 = val (X.take i.1) * 2 ^ s) (fun i => X.length - i.1) (0, List.replicate (X.length + s / 64 + 1) 0) ?_
      ⟨Nat.zero_le _, by simp, Wd_replicate _ (by decide), by rw [getD_rep]; exact Nat.two_pow_pos _, fun k _ => getD_rep _ _, by simp only [getD_rep]; simp [val, val_replicate_zero]⟩ ?_
  · simp only [u, i64, Nat.reduceSub, Nat.reduceAdd, bm]
  rintro ⟨n, os⟩ ⟨h1, h2, h3, h4, h5, h6⟩
  simp only at h1 h2 h3 h4 h5 h6
  simp only [u, i64, Nat.reduceSub, Nat.reduceAdd, bm]
  by_cases hn : n < X.length
  · have hw := hW.getD n
    have ho := h3.getD (n + s / 64)
    have e1 := val_take_getD X n
    have hlow : X.getD n 0 * 2 ^ (s % 64) % 18446744073709551616 < 18446744073709551616 := Nat.mod_lt _ (by decide)
    have hor := or_add _ _ _ hr h4 hw
    have horb : os.getD (n + s / 64) 0 ||| (X.getD n 0 * 2 ^ (s % 64) % 18446744073709551616) < 18446744073709551616 := Nat.or_lt_two_pow (n := 64) ho hlow
    have hhi := div_lt_two (X.getD n 0) (s % 64) hw
    have hmd : X.getD n 0 * 2 ^ (s % 64) % 18446744073709551616 + X.getD n 0 * 2 ^ (s % 64) / 18446744073709551616 * 18446744073709551616 = X.getD n 0 * 2 ^ (s % 64) := by omega
    have h6' := h6
    rw [Nat.pow_add] at h6'
    have hfin := shl_step h6' hmd
    have hs2 : 2 ^ s = 18446744073709551616 ^ (s / 64) * 2 ^ (s % 64) := by rw [Bpow, ← Nat.pow_add, ← hsq]
    have hB : 2 ^ (s % 64) ≤ 2 ^ 64 := Nat.pow_le_pow_right (by decide) (by omega)
    by_cases hr0 : 0 < s % 64
    · have hsd := shr_div (X.getD n 0) _ hr hr0
      (refine gO ?_)
      refine ⟨(n + 1, (os.set (n + s / 64) (os.getD (n + s / 64) 0 ||| (X.getD n 0 * 2 ^ (s % 64) % 18446744073709551616))).set (n + s / 64 + 1) (X.getD n 0 / 2 ^ (64 - s % 64))), ?_, ⟨hn, by simpa using h2, (h3.set _ horb).set _ (by rw [hsd]; exact Nat.lt_of_lt_of_le hhi hB), ?_, ?_, ?_⟩, by simp only; omega⟩
      · simp only [u, i64, Nat.reduceSub, Nat.reduceAdd, bm]
      · simp only
        rw [show n + 1 + s / 64 = n + s / 64 + 1 by omega, getD_set_self _ _ _ (by simp; omega), hsd]
        exact hhi
      · intro k hk
        simp only at hk ⊢
        rw [getD_set_ne _ _ _ _ (by omega), getD_set_ne _ _ _ _ (by omega)]
        exact h5 k (by omega)
      · simp only
        rw [show n + 1 + s / 64 = n + s / 64 + 1 by omega, getD_set_self _ _ _ (by simp; omega), List.take_set_of_le (by omega), val_set_take _ _ _ (by omega), hsd, hor, e1, Nat.add_mul, hs2, ← hs2, Nat.pow_succ, Nat.pow_add]
        rw [hfin, hs2, Nat.mul_assoc (18446744073709551616 ^ n)]
    · have hr1 : s % 64 = 0 := by omega
      (refine gO ?_)
      refine ⟨(n + 1, os.set (n + s / 64) (os.getD (n + s / 64) 0 ||| (X.getD n 0 * 2 ^ (s % 64) % 18446744073709551616))), ?_, ⟨hn, by simpa using h2, h3.set _ horb, ?_, ?_, ?_⟩, by simp only; omega⟩
      · simp only [u, i64, Nat.reduceSub, Nat.reduceAdd, bm]
      · simp only
        rw [getD_set_ne _ _ _ _ (by omega), h5 (n + 1 + s / 64) (by omega)]
        exact Nat.two_pow_pos _
      · intro k hk
        simp only at hk ⊢
        rw [getD_set_ne _ _ _ _ (by omega)]
        exact h5 k (by omega)
      · have hh0 : X.getD n 0 * 2 ^ (s % 64) / 18446744073709551616 = 0 := by rw [hr1, Nat.pow_zero, Nat.mul_one]; exact Nat.div_eq_of_lt hw
        rw [hh0, Nat.mul_zero, Nat.add_zero] at hfin
        simp only
        rw [getD_set_ne _ _ _ _ (by omega), h5 (n + 1 + s / 64) (by omega), Nat.mul_zero, Nat.add_zero, show n + 1 + s / 64 = n + s / 64 + 1 by omega, val_set_take _ _ _ (by omega), hor, e1, Nat.add_mul, Nat.pow_add]
        rw [hfin, hs2, Nat.mul_assoc (18446744073709551616 ^ n)]
  · have hn0 : n = X.length := by omega
    subst hn0
    have hall : val os = val xs * 2 ^ s := by
      have e := val_take_getD os (X.length + s / 64)
      rw [List.take_of_length_le (by omega), h6, List.take_length, hv] at e
      exact e
    (refine gO ?_)
    refine G_cool0 ?_
    (refine gC ?_)
    (refine cR (ret_Trim os h3 (by omega)) ?_; refine sX ?_; try refine aA ?_)
    rw [hall]
    (refine gO ?_)
    (refine FinQ hQ (congrArg Array.toList Tryz.results76) _ _ ?_); simp (disch := omega) only [u, i64, ax, if_true, forall_const, reduceCtorEq, implies_true, tvs, bf]
end Go.Proofs
