/-
  Contracts of functions of the program, each proved by a walk.
-/
import Derived.Test.YtpnljnmpocobjaaGreatDoorX10
import Derived.Test.YtpnljnmpocobjaaGreatDoorZ7
import Derived.Test.YtpnljnmpocobjaaGreatDoorZ18
import Derived.Test.YtpnljnmpocobjaaGreatDoorZ26
import Derived.Test.YtpnljnmpocobjaaGreatDoorZ23
set_option maxRecDepth 100000
set_option linter.unusedVariables false
set_option linter.unusedSimpArgs false
namespace Go.Proofs
open Go.Ax
theorem vb_at {K : Nat} (hK : 0 < K) (xs : List Nat) (hx : Ds K xs) (j : Nat) : ∃ lo, lo < K ^ j ∧ vb K xs = lo + K ^ j * (xs.getD j 0 + K * vb K (xs.drop (j + 1))) := by
  by_cases h : j < xs.length
  · refine ⟨vb K (xs.take j), ?_, ?_⟩
    · have := vb_lt (hx.take j)
      rwa [List.length_take, Nat.min_eq_left (by omega)] at this
    · rw [← vb_drop_one xs j h]
      exact vb_drop xs j (by omega)
  · refine ⟨vb K xs, ?_, ?_⟩
    · exact Nat.lt_of_lt_of_le (vb_lt hx) (Nat.pow_le_pow_right hK (by omega))
    · rw [getD_over xs j (by omega), List.drop_of_length_le (by omega)]
      show vb K xs = vb K xs + K ^ j * (0 + K * 0)
      rw [Nat.mul_zero, Nat.zero_add, Nat.mul_zero, Nat.add_zero]
theorem vb_first {K : Nat} (hK : 0 < K) {xs ys : List Nat} (hx : Ds K xs) (hy : Ds K ys) (j : Nat) (he : vb K (xs.drop (j + 1)) = vb K (ys.drop (j + 1))) (hlt : xs.getD j 0 < ys.getD j 0) : vb K xs < vb K ys := by
  obtain ⟨a, a1, a2⟩ := vb_at hK xs hx j
  obtain ⟨b, b1, b2⟩ := vb_at hK ys hy j
  rw [a2, b2, he]
  have h1 : K ^ j * (xs.getD j 0 + K * vb K (ys.drop (j + 1)) + 1) ≤ K ^ j * (ys.getD j 0 + K * vb K (ys.drop (j + 1))) := Nat.mul_le_mul_left _ (by omega)
  rw [Nat.mul_succ] at h1
  omega
theorem vb_step {K : Nat} {xs ys : List Nat} (j : Nat) (he : vb K (xs.drop (j + 1)) = vb K (ys.drop (j + 1))) (heq : xs.getD j 0 = ys.getD j 0) : vb K (xs.drop j) = vb K (ys.drop j) := by
  have key : ∀ zs : List Nat, vb K (zs.drop j) = zs.getD j 0 + K * vb K (zs.drop (j + 1)) := fun zs => by
    by_cases h : j < zs.length
    · exact vb_drop_one zs j h
    · rw [getD_over zs j (by omega), List.drop_of_length_le (by omega), List.drop_of_length_le (by omega)]
      show 0 = 0 + K * 0
      rw [Nat.mul_zero]
  rw [key xs, key ys, he, heq]
set_option maxRecDepth 100000 in
set_option maxHeartbeats 2000000 in
theorem ret_Compare01 (xs ys : List Nat) (hx : Ds 4294967296 xs) (hy : Ds 4294967296 ys) (hl : xs.length ≤ 1099511627776) (hl2 : ys.length ≤ 1099511627776) :
    Ret Tryz.prog GEs 235 [ws xs, ws ys] (i64 (cmpI (vb 4294967296 xs) (vb 4294967296 ys))) := by
  have hd1 := fun i => ret_digit xs i hl
  have hd2 := fun i => ret_digit ys i hl2
  have hx4 := fun i => hx.getD (by decide) i
  have hy4 := fun i => hy.getD (by decide) i
  obtain ⟨M, hM⟩ : ∃ M, max xs.length ys.length = M := ⟨_, rfl⟩
  refine RetN_start Tryz.func235 (by kernel_rfl) rfl fun Q hQ hQ2 => ?_; rw [Tryz.ntmps235]; simp only [u, i64, Nat.reduceSub, Nat.reduceAdd, bm]
  (refine gO ?_)
  rw [hM]
  refine AWp_loop (fun j : Nat => mk 32 [(0, ws xs), (1, ws ys), (4, i64 0), (5, i64 ((j : Int) - 1))] []) (fun j => j ≤ M ∧ vb 4294967296 (xs.drop j) = vb 4294967296 (ys.drop j)) (fun j => j) M ?_ ⟨Nat.le_refl _, by rw [List.drop_of_length_le (by omega), List.drop_of_length_le (by omega)]⟩ ?_
  · simp only [u, i64, Nat.reduceSub, Nat.reduceAdd, bm]
  intro j hj
  simp only [u, i64, Nat.reduceSub, Nat.reduceAdd, bm]
  cases j with
  | zero =>
    have h0 : cmpI (vb 4294967296 xs) (vb 4294967296 ys) = 0 := by
      have := hj.2
      rw [List.drop_zero, List.drop_zero] at this
      rw [this]; unfold cmpI; rw [if_neg (by omega), if_neg (by omega)]
    rw [h0] at hQ
    (refine gO ?_)
    (refine FinQ hQ (congrArg Array.toList Tryz.results235) _ _ ?_); simp (disch := omega) only [u, i64, ax, if_true, forall_const, reduceCtorEq, implies_true, tvs, bf]
  | succ j =>
    have e1 := hd1 j
    have e2 := hd2 j
    have l1 := hx4 j
    have l2 := hy4 j
    have hf := vb_first (K := 4294967296) (by decide) hx hy j hj.2
    have hf2 := vb_first (K := 4294967296) (by decide) hy hx j hj.2.symm
    have hs := vb_step (K := 4294967296) (xs := xs) (ys := ys) j hj.2
    rw [show ((j + 1 : Nat) : Int) - 1 = (j : Int) by omega]
    generalize xs.getD j 0 = x at *
    generalize ys.getD j 0 = y at *
    by_cases c1 : x < y
    · have h0 : cmpI (vb 4294967296 xs) (vb 4294967296 ys) = -1 := by unfold cmpI; rw [if_pos (hf c1)]
      rw [h0] at hQ
      repeat (first | (refine gC ?_; first | refine aA ?_ | ((first | refine cR e1 ?_ | refine cR e2 ?_); refine sX ?_; try refine aA ?_)) | ((first | refine cR e1 ?_ | refine cR e2 ?_); refine sX ?_; try refine aA ?_) | refine gS ?_)
      (refine FinQ hQ (congrArg Array.toList Tryz.results235) _ _ ?_); simp (disch := omega) only [u, i64, ax, if_true, forall_const, reduceCtorEq, implies_true, tvs, bf]
    · by_cases c2 : y < x
      · have h0 : cmpI (vb 4294967296 xs) (vb 4294967296 ys) = 1 := by
          have := hf2 c2
          unfold cmpI; rw [if_neg (by omega), if_pos this]
        rw [h0] at hQ
        repeat (first | (refine gC ?_; first | refine aA ?_ | ((first | refine cR e1 ?_ | refine cR e2 ?_); refine sX ?_; try refine aA ?_)) | ((first | refine cR e1 ?_ | refine cR e2 ?_); refine sX ?_; try refine aA ?_) | refine gS ?_)
        (refine FinQ hQ (congrArg Array.toList Tryz.results235) _ _ ?_); simp (disch := omega) only [u, i64, ax, if_true, forall_const, reduceCtorEq, implies_true, tvs, bf]
      · repeat (first | (refine gC ?_; first | refine aA ?_ | ((first | refine cR e1 ?_ | refine cR e2 ?_); refine sX ?_; try refine aA ?_)) | ((first | refine cR e1 ?_ | refine cR e2 ?_); refine sX ?_; try refine aA ?_) | refine gS ?_)
        refine ⟨j, ?_, ⟨by omega, hs (by omega)⟩, by omega⟩
        simp only [u, i64, Nat.reduceSub, Nat.reduceAdd, bm]
theorem ret_rCmp (xs ys : List Nat) (hx : Wd xs) (hy : Wd ys) (hl : xs.length ≤ 34359738368) (hl2 : ys.length ≤ 34359738368) : Ret Tryz.prog GEs 177 [ws xs, ws ys] (i64 (cmpI (val xs) (val ys))) := by
  have h1 := ret_Digits xs hx (by omega)
  have h2 := ret_Digits ys hy (by omega)
  have h3 := ret_Compare01 (digs xs) (digs ys) (digs_Ds hx) (digs_Ds hy) (by rw [digs_length]; omega) (by rw [digs_length]; omega)
  rw [digs_val, digs_val] at h3
  refine RetN_start Tryz.func177 (by kernel_rfl) rfl fun Q hQ hQ2 => ?_; rw [Tryz.ntmps177]; simp only [u, i64, Nat.reduceSub, Nat.reduceAdd, bm]
  repeat (first | (refine gC ?_; first | refine aA ?_ | ((first | refine cR h1 ?_ | refine cR h2 ?_ | refine cR h3 ?_); refine sX ?_; try refine aA ?_)) | ((first | refine cR h1 ?_ | refine cR h2 ?_ | refine cR h3 ?_); refine sX ?_; try refine aA ?_) | refine gS ?_)
  (refine FinQ hQ (congrArg Array.toList Tryz.results177) _ _ ?_); simp (disch := omega) only [u, i64, ax, if_true, forall_const, reduceCtorEq, implies_true, tvs, bf]
set_option maxRecDepth 100000 in
set_option maxHeartbeats 2000000 in
theorem ret_rSub (xs ys : List Nat) (hx : Wd xs) (hy : Wd ys) (hne : xs ≠ []) (hl : xs.length ≤ 34359738368) (hl2 : ys.length ≤ 34359738368) (hle : val ys ≤ val xs) : Ret Tryz.prog GEs 246 [ws xs, ws ys] (nat (val xs - val ys)) := by
  have h1 := ret_Digits xs hx (by omega)
  have h2 := ret_rTrim ys hy hl2
  have hyl := length_words_val_le hy
  have h3 := ret_Digits (words (val ys)) (Wd_words _) (by omega)
  have hdn : digs xs ≠ [] := fun h => by
    have := digs_length xs
    rw [h] at this
    have : xs.length = 0 := by simp at this; omega
    exact hne (List.eq_nil_of_length_eq_zero this)
  have h4 := ret_Minus (digs xs) (digs (words (val ys))) (digs_Ds hx) (digs_Ds (Wd_words _)) hdn (by rw [digs_length]; omega) (by rw [digs_length]; omega)
  have hyl2 := length_mono hle
  have hxl := length_words_val_le hx
  rw [List.take_of_length_le (by rw [digs_length, digs_length]; omega), digs_val, digs_val, val_words] at h4
  have hlt : val xs - val ys < 4294967296 ^ (digs xs).length := by
    have := vb_lt (digs_Ds hx)
    rw [digs_val] at this
    omega
  have hv : vb 4294967296 (mdiff 4294967296 (digs xs).length (val xs) (val ys)) = val xs - val ys := by
    unfold mdiff
    rw [if_pos hle]
    exact vb_wfb (by decide) _ _ hlt
  have hds : Ds 4294967296 (mdiff 4294967296 (digs xs).length (val xs) (val ys)) := wfb_Ds (by decide) _ _
  have hml : (mdiff 4294967296 (digs xs).length (val xs) (val ys)).length = (digs xs).length := wfb_length _ _
  have h5 := ret_nat (mdiff 4294967296 (digs xs).length (val xs) (val ys)) hds (by rw [hml, digs_length]; omega)
  rw [hv] at h5
  generalize mdiff 4294967296 (digs xs).length (val xs) (val ys) = dd at *
  refine RetN_start Tryz.func246 (by kernel_rfl) rfl fun Q hQ hQ2 => ?_; rw [Tryz.ntmps246]; simp only [u, i64, Nat.reduceSub, Nat.reduceAdd, bm]
  repeat (first | (refine gC ?_; first | refine aA ?_ | ((first | refine cR h1 ?_ | refine cR h2 ?_ | refine cR h3 ?_ | refine cR h4 ?_ | refine cR h5 ?_); refine sX ?_; try refine aA ?_)) | ((first | refine cR h1 ?_ | refine cR h2 ?_ | refine cR h3 ?_ | refine cR h4 ?_ | refine cR h5 ?_); refine sX ?_; try refine aA ?_) | refine gS ?_)
  (refine FinQ hQ (congrArg Array.toList Tryz.results246) _ _ ?_); simp (disch := omega) only [u, i64, ax, if_true, forall_const, reduceCtorEq, implies_true, tvs, bf]
end Go.Proofs
set_option linter.unusedVariables false
set_option linter.unusedSimpArgs false
namespace Go.Proofs
open Go.Ax
end Go.Proofs
set_option linter.unusedVariables false
set_option linter.unusedSimpArgs false
namespace Go.Proofs
open Go.Ax
end Go.Proofs
set_option linter.unusedVariables false
set_option linter.unusedSimpArgs false
namespace Go.Proofs
open Go.Ax
end Go.Proofs
set_option linter.unusedVariables false
set_option linter.unusedSimpArgs false
namespace Go.Proofs
open Go.Ax
end Go.Proofs
set_option linter.unusedVariables false
set_option linter.unusedSimpArgs false
namespace Go.Proofs
open Go.Ax
theorem ret_Between_zero (k p : Int) (neg : Bool) (ns dn : List Nat) (hn : Wd ns) (hd : Wd dn) (hln : ns.length ≤ 137438953472) (hld : dn.length ≤ 137438953472)
    (he : errR 4 k p ns.length dn.length (val dn) = 0) (hz : val ns = 0) : Ret Tryz.prog GEs 28 [.agg [i64 k, i64 p], .agg [.bool neg, ws ns, ws dn]] (.tup [flz, flz, i64 0]) := by
  have hR := ret_Round_zero 4 k p (by decide) (by decide) neg ns dn hn hd hln hld he hz
  have hR2 := ret_Round_zero 3 k p (by decide) (by decide) neg ns dn hn hd hln hld (by rw [errR_same (r' := 4) (by decide) (by decide)]; exact he) hz
  refine RetN_start Tryz.func28 (by kernel_rfl) rfl fun Q hQ hQ2 => ?_; rw [Tryz.ntmps28]; simp only [u, i64, Nat.reduceSub, Nat.reduceAdd, bm]
  repeat (first | (refine gC ?_; first | refine aA ?_ | (refine cR hR ?_; refine sX ?_; try refine aA ?_)) | (refine cR hR ?_; refine sX ?_; try refine aA ?_) | refine gS ?_)
  (refine gC ?_)
  (refine cR hR2 ?_; refine sX ?_; try refine aA ?_)
  refine G_stree (.step 0 (.alt 1 (.step 2 (.step 3 (.step 4 (.step 5 .done)))) (.alt 2 (.alt 1 (.step 3 (.step 4 (.step 5 .done))) (.alt 3 (.step 1 (.step 4 (.step 5 .done))) .stop)) (.alt 3 (.step 1 (.step 2 (.step 4 (.step 5 .done)))) .stop)))) mixed (by kernel_rfl) ?_
  simp (disch := omega) only [u, i64, ax, eq_self, if_true, if_false, Nat.reduceAdd, Int.reduceToNat, Int.reduceAdd, tvs, bs, x_done, x_step, x_alt, x_stop, lk_0, lk_S, mpD_nil, mpD_cons]
  repeat' apply And.intro
  all_goals
    refine aft_any ?_
    (refine gO ?_)
    (refine FinQ hQ (congrArg Array.toList Tryz.results28) _ _ ?_); simp (disch := omega) only [u, i64, ax, if_true, forall_const, reduceCtorEq, implies_true, tvs, bf]
    all_goals rfl
theorem ret_Between_ok (k p : Nat) (hf : okFm k p) (neg : Bool) (ns dn : List Nat) (hn : Wd ns) (hd : Wd dn) (hln : ns.length ≤ 4096) (hld : dn.length ≤ 4096)
    (hn0 : val ns ≠ 0) (hd0 : val dn ≠ 0) : Ret Tryz.prog GEs 28 [.agg [i64 k, i64 p], .agg [.bool neg, ws ns, ws dn]]
      (.tup [flv (rndF p (gF k) 4 neg (val ns) (val dn)).1, flv (rndF p (gF k) 3 neg (val ns) (val dn)).1, i64 0]) := by
  have hR := ret_Round_ok 4 k p (by decide) hf neg ns dn hn hd hln hld hn0 hd0
  have hR2 := ret_Round_ok 3 k p (by decide) hf neg ns dn hn hd hln hld hn0 hd0
  generalize rndF p (gF k) 4 neg (val ns) (val dn) = y at *
  generalize rndF p (gF k) 3 neg (val ns) (val dn) = z at *
  unfold flv at *
  refine RetN_start Tryz.func28 (by kernel_rfl) rfl fun Q hQ hQ2 => ?_; rw [Tryz.ntmps28]; simp only [u, i64, Nat.reduceSub, Nat.reduceAdd, bm]
  repeat (first | (refine gC ?_; first | refine aA ?_ | (refine cR hR ?_; refine sX ?_; try refine aA ?_)) | (refine cR hR ?_; refine sX ?_; try refine aA ?_) | refine gS ?_)
  (refine gC ?_)
  (refine cR hR2 ?_; refine sX ?_; try refine aA ?_)
  refine G_stree (.step 0 (.alt 1 (.step 2 (.step 3 (.step 4 (.step 5 .done)))) (.alt 2 (.alt 1 (.step 3 (.step 4 (.step 5 .done))) (.alt 3 (.step 1 (.step 4 (.step 5 .done))) .stop)) (.alt 3 (.step 1 (.step 2 (.step 4 (.step 5 .done)))) .stop)))) mixed (by kernel_rfl) ?_
  simp (disch := omega) only [u, i64, ax, eq_self, if_true, if_false, Nat.reduceAdd, Int.reduceToNat, Int.reduceAdd, tvs, bs, x_done, x_step, x_alt, x_stop, lk_0, lk_S, mpD_nil, mpD_cons]
  repeat' apply And.intro
  all_goals
    refine aft_any ?_
    (refine gO ?_)
    (refine FinQ hQ (congrArg Array.toList Tryz.results28) _ _ ?_); simp (disch := omega) only [u, i64, ax, if_true, forall_const, reduceCtorEq, implies_true, tvs, bf]
    all_goals rfl
end Go.Proofs
set_option linter.unusedVariables false
set_option linter.unusedSimpArgs false
namespace Go.Proofs
open Go.Ax
end Go.Proofs
set_option linter.unusedVariables false
set_option linter.unusedSimpArgs false
namespace Go.Proofs
open Go.Ax
/-- A fraction in lowest terms without sign. -/
theorem ret_NormC (n d : Nat) (hn : (words n).length ≤ 10000) (hd : (words d).length ≤ 10000) (hc : Nat.gcd n d = 1) (hd0 : d ≠ 0) : Ret Tryz.prog GEs 94 [.agg [.bool false, nat n, nat d]] (.agg [.bool false, nat n, nat d]) := by
  have h := ret_Norm false (words n) (words d) (Wd_words _) (Wd_words _) (by omega) (by omega) (by rw [val_words]; exact hd0)
  rw [val_words, val_words, hc, Nat.div_one, Nat.div_one, Bool.false_and] at h
  exact h
theorem ret_Make12 (n d : Nat) (hn : (words n).length ≤ 10000) (hd : (words d).length ≤ 10000) (hc : Nat.gcd n d = 1) (hd0 : d ≠ 0) : Ret Tryz.prog GEs 97 [.agg [.bool false, nat n], nat d] (.agg [.bool false, nat n, nat d]) := by
  have hN := ret_NormC n d hn hd hc hd0
  refine RetN_start Tryz.func97 (by kernel_rfl) rfl fun Q hQ hQ2 => ?_; rw [Tryz.ntmps97]; simp only [u, i64, Nat.reduceSub, Nat.reduceAdd, bm]
  repeat (first | (refine gC ?_; first | refine aA ?_ | (refine cR hN ?_; refine sX ?_; try refine aA ?_)) | (refine cR hN ?_; refine sX ?_; try refine aA ?_) | refine gS ?_)
  (refine FinQ hQ (congrArg Array.toList Tryz.results97) _ _ ?_); simp (disch := omega) only [u, i64, ax, if_true, forall_const, reduceCtorEq, implies_true, tvs, bf]
end Go.Proofs
set_option linter.unusedVariables false
set_option linter.unusedSimpArgs false
namespace Go.Proofs
open Go.Ax
/-- A canonical integer. -/
def zv (z : Int) : AV := .agg [.bool (decide (z < 0)), nat z.natAbs]
/-- The value of a sign and a size. -/
def sg (neg : Bool) (n : Nat) : Int := if neg = true then -(n : Int) else n
theorem mk_zv (neg : Bool) (n : Nat) : AV.agg [.bool (neg && decide (n ≠ 0)), nat n] = zv (sg neg n) := by
  unfold zv sg
  cases neg with
  | true =>
    rw [if_pos rfl, Int.natAbs_neg, Int.natAbs_natCast, Bool.true_and]
    congr 3
    simp only [decide_eq_decide]
    omega
  | false =>
    rw [if_neg (by decide), Int.natAbs_natCast, Bool.false_and, decF (show ¬ (n : Int) < 0 by omega)]
theorem sg_zv (z : Int) : sg (decide (z < 0)) z.natAbs = z := by
  unfold sg
  by_cases h : z < 0
  · rw [decT h, if_pos rfl]; omega
  · rw [decF h, if_neg (by decide)]; omega
theorem ret_Make03 (neg : Bool) (xs : List Nat) (hx : Wd xs) (hl : xs.length ≤ 34359738368) : Ret Tryz.prog GEs 173 [.bool neg, ws xs] (zv (sg neg (val xs))) := mk_zv neg (val xs) ▸ ret_Make neg xs hx hl
theorem ret_Make11z (neg : Bool) (xs : List Nat) (hx : Wd xs) (hl : xs.length ≤ 34359738368) : Ret Tryz.prog GEs 84 [.bool neg, ws xs] (zv (sg neg (val xs))) := mk_zv neg (val xs) ▸ ret_Make11 neg xs hx hl
theorem sg_mul (a b : Bool) (x y : Nat) : sg (a != b) (x * y) = sg a x * sg b y := by
  unfold sg
  cases a <;> cases b <;> simp [Int.neg_mul, Int.mul_neg]
theorem ret_rMul (xs ys : List Nat) (hx : Wd xs) (hy : Wd ys) (hl : xs.length ≤ 10000000) (hl2 : ys.length ≤ 10000000) : Ret Tryz.prog GEs 146 [ws xs, ws ys] (nat (val xs * val ys)) := by
  have h1 := ret_Digits xs hx (by omega)
  have h2 := ret_Digits ys hy (by omega)
  have e1 := digs_length xs
  have e2 := digs_length ys
  have h3 := ret_Times (digs xs) (digs ys) (digs_Ds hx) (digs_Ds hy) (by omega) (by omega)
  have hlt : vb 4294967296 (digs xs) * vb 4294967296 (digs ys) < 4294967296 ^ ((digs xs).length + (digs ys).length) := by
    rw [Nat.pow_add]
    exact Nat.mul_lt_mul'' (vb_lt (digs_Ds hx)) (vb_lt (digs_Ds hy))
  have hv := vb_wfb (K := 4294967296) (by decide) _ _ hlt
  have hds : Ds 4294967296 (wfb 4294967296 ((digs xs).length + (digs ys).length) (vb 4294967296 (digs xs) * vb 4294967296 (digs ys))) := wfb_Ds (by decide) _ _
  have hml : (wfb 4294967296 ((digs xs).length + (digs ys).length) (vb 4294967296 (digs xs) * vb 4294967296 (digs ys))).length = (digs xs).length + (digs ys).length := wfb_length _ _
  have h4 := ret_nat _ hds (by omega)
  rw [hv, digs_val, digs_val] at h4
  rw [digs_val, digs_val] at h3
  generalize wfb 4294967296 ((digs xs).length + (digs ys).length) (val xs * val ys) = dd at *
  refine RetN_start Tryz.func146 (by kernel_rfl) rfl fun Q hQ hQ2 => ?_; rw [Tryz.ntmps146]; simp only [u, i64, Nat.reduceSub, Nat.reduceAdd, bm]
  repeat (first | (refine gC ?_; first | refine aA ?_ | ((first | refine cR h1 ?_ | refine cR h2 ?_ | refine cR h3 ?_ | refine cR h4 ?_); refine sX ?_; try refine aA ?_)) | ((first | refine cR h1 ?_ | refine cR h2 ?_ | refine cR h3 ?_ | refine cR h4 ?_); refine sX ?_; try refine aA ?_) | refine gS ?_)
  (refine FinQ hQ (congrArg Array.toList Tryz.results146) _ _ ?_); simp (disch := omega) only [u, i64, ax, if_true, forall_const, reduceCtorEq, implies_true, tvs, bf]
theorem ret_Mul03 (a b : Bool) (xs ys : List Nat) (hx : Wd xs) (hy : Wd ys) (hl : xs.length ≤ 1000000) (hl2 : ys.length ≤ 1000000) : Ret Tryz.prog GEs 172 [.agg [.bool a, ws xs], .agg [.bool b, ws ys]] (zv (sg a (val xs) * sg b (val ys))) := by
  have hM := ret_rMul xs ys hx hy (by omega) (by omega)
  have h1 := length_words_val_le hx
  have h2 := length_words_val_le hy
  have h3 := length_mul (val xs) (val ys)
  have hK := ret_Make03 (a != b) (words (val xs * val ys)) (Wd_words _) (by omega)
  rw [val_words, sg_mul] at hK
  generalize sg a (val xs) * sg b (val ys) = z at *
  unfold zv at *
  refine RetN_start Tryz.func172 (by kernel_rfl) rfl fun Q hQ hQ2 => ?_; rw [Tryz.ntmps172]; simp only [u, i64, Nat.reduceSub, Nat.reduceAdd, bm]
  repeat (first | (refine gC ?_; first | refine aA ?_ | ((first | refine cR hM ?_ | refine cR hK ?_); refine sX ?_; try refine aA ?_)) | ((first | refine cR hM ?_ | refine cR hK ?_); refine sX ?_; try refine aA ?_) | refine gS ?_)
  (refine FinQ hQ (congrArg Array.toList Tryz.results172) _ _ ?_); simp (disch := omega) only [u, i64, ax, if_true, forall_const, reduceCtorEq, implies_true, tvs, bf]
theorem ret_Mul11 (a b : Bool) (xs ys : List Nat) (hx : Wd xs) (hy : Wd ys) (hl : xs.length ≤ 1000000) (hl2 : ys.length ≤ 1000000) : Ret Tryz.prog GEs 83 [.agg [.bool a, ws xs], .agg [.bool b, ws ys]] (zv (sg a (val xs) * sg b (val ys))) := by
  have hK := ret_Mul03 a b xs ys hx hy hl hl2
  generalize sg a (val xs) * sg b (val ys) = z at *
  unfold zv at *
  refine RetN_start Tryz.func83 (by kernel_rfl) rfl fun Q hQ hQ2 => ?_; rw [Tryz.ntmps83]; simp only [u, i64, Nat.reduceSub, Nat.reduceAdd, bm]
  repeat (first | (refine gC ?_; first | refine aA ?_ | (refine cR hK ?_; refine sX ?_; try refine aA ?_)) | (refine cR hK ?_; refine sX ?_; try refine aA ?_) | refine gS ?_)
  (refine FinQ hQ (congrArg Array.toList Tryz.results83) _ _ ?_); simp (disch := omega) only [u, i64, ax, if_true, forall_const, reduceCtorEq, implies_true, tvs, bf]
theorem sg_not (b : Bool) (y : Nat) : sg (!b) y = -sg b y := by unfold sg; cases b <;> simp
theorem ret_Neg03 (b : Bool) (ys : List Nat) (hy : Wd ys) (hl : ys.length ≤ 1000000) : Ret Tryz.prog GEs 241 [.agg [.bool b, ws ys]] (zv (-sg b (val ys))) := by
  have hK := ret_Make03 (!b) ys hy (by omega)
  rw [sg_not] at hK
  generalize -sg b (val ys) = z at *
  unfold zv at *
  refine RetN_start Tryz.func241 (by kernel_rfl) rfl fun Q hQ hQ2 => ?_; rw [Tryz.ntmps241]; simp only [u, i64, Nat.reduceSub, Nat.reduceAdd, bm]
  repeat (first | (refine gC ?_; first | refine aA ?_ | (refine cR hK ?_; refine sX ?_; try refine aA ?_)) | (refine cR hK ?_; refine sX ?_; try refine aA ?_) | refine gS ?_)
  (refine FinQ hQ (congrArg Array.toList Tryz.results241) _ _ ?_); simp (disch := omega) only [u, i64, ax, if_true, forall_const, reduceCtorEq, implies_true, tvs, bf]
end Go.Proofs
