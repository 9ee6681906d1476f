/-
  Contracts of functions of the program, each proved by a walk.
-/
import Derived.Test.YtpnljnmpocobjaaGreatDoorX23
import Derived.Test.YtpnljnmpocobjaaGreatDoorX22
set_option maxRecDepth 100000
set_option linter.unusedVariables false
set_option linter.unusedSimpArgs false
set_option maxRecDepth 100000
set_option maxHeartbeats 1000000
namespace Go.Proofs
open Go.Ax
def rl22 (neg : Bool) (m : Nat) (e : Int) : AV := .agg [.bool neg, nat m, nat 1, i64 e, i64 1]
theorem ret_Of22 (k e : Int) (neg : Bool) (cs : List Nat) (hc : Wd cs) (hl : cs.length ≤ 100000) :
    Ret Tryz.prog GEs 128 [.agg [i64 k, .bool neg, ws cs, i64 e]] (rl22 neg (val cs) e) := by
  have hT := ret_rTrim cs hc (by omega)
  have hF := ret_rFromWord 1 (by decide)
  unfold rl22
  generalize val cs = v at *
  refine RetN_start Tryz.func128 (by kernel_rfl) rfl fun Q hQ hQ2 => ?_; rw [Tryz.ntmps128]; simp only [u, i64, Nat.reduceSub, Nat.reduceAdd, bm]
  repeat (first | (refine gC ?_; first | refine aA ?_ | ((first | refine cR hT ?_ | refine cR hF ?_); refine sX ?_; try refine aA ?_)) | ((first | refine cR hT ?_ | refine cR hF ?_); refine sX ?_; try refine aA ?_) | refine gS ?_)
  (refine FinQ hQ (congrArg Array.toList Tryz.results128) _ _ ?_); simp (disch := omega) only [u, i64, ax, if_true, forall_const, reduceCtorEq, implies_true, tvs, bf]
theorem ret_Scaled22 (e : Int) (neg : Bool) (m : Nat) (hm : m ≠ 0) (hl : (words m).length ≤ 100000) :
    Ret Tryz.prog GEs 212 [.agg [.bool neg, nat m], i64 e] (rl22 neg m e) := by
  have hS := ret_Sign11 neg (words m) (Wd_words _) (by omega)
  have hT := ret_rTrim (words m) (Wd_words _) (by omega)
  have hF := ret_rFromWord 1 (by decide)
  rw [val_words] at hS hT
  unfold rl22
  have hs : sgn neg m = if neg = true then -1 else 1 := by unfold sgn; rw [if_neg hm]
  rw [hs] at hS
  cases neg with
  | true =>
    refine RetN_start Tryz.func212 (by kernel_rfl) rfl fun Q hQ hQ2 => ?_; rw [Tryz.ntmps212]; simp only [u, i64, Nat.reduceSub, Nat.reduceAdd, bm]
    repeat (first | (refine gC ?_; first | refine aA ?_ | ((first | refine cR hS ?_ | refine cR hT ?_ | refine cR hF ?_); refine sX ?_; try refine aA ?_)) | ((first | refine cR hS ?_ | refine cR hT ?_ | refine cR hF ?_); refine sX ?_; try refine aA ?_) | refine gS ?_)
    (refine FinQ hQ (congrArg Array.toList Tryz.results212) _ _ ?_); simp (disch := omega) only [u, i64, ax, if_true, forall_const, reduceCtorEq, implies_true, tvs, bf]
  | false =>
    refine RetN_start Tryz.func212 (by kernel_rfl) rfl fun Q hQ hQ2 => ?_; rw [Tryz.ntmps212]; simp only [u, i64, Nat.reduceSub, Nat.reduceAdd, bm]
    repeat (first | (refine gC ?_; first | refine aA ?_ | ((first | refine cR hS ?_ | refine cR hT ?_ | refine cR hF ?_); refine sX ?_; try refine aA ?_)) | ((first | refine cR hS ?_ | refine cR hT ?_ | refine cR hF ?_); refine sX ?_; try refine aA ?_) | refine gS ?_)
    (refine FinQ hQ (congrArg Array.toList Tryz.results212) _ _ ?_); simp (disch := omega) only [u, i64, ax, if_true, forall_const, reduceCtorEq, implies_true, tvs, bf]
theorem ret_floor22 (a : Int) (h1 : -4611686018427387904 ≤ a) (h2 : a ≤ 4611686018427387904) : Ret Tryz.prog GEs 218 [i64 a, i64 1] (i64 a) := by
  have e1 : a.tmod 1 = 0 := Int.tmod_one a
  have e2 : a.tdiv 1 = a := Int.tdiv_one a
  refine RetN_start Tryz.func218 (by kernel_rfl) rfl fun Q hQ hQ2 => ?_; rw [Tryz.ntmps218]; simp only [u, i64, Nat.reduceSub, Nat.reduceAdd, bm]
  (refine gO ?_)
  simp (disch := omega) only [u, i64, ax, eq_self, if_true, if_false, Nat.reduceAdd, Int.reduceToNat, Int.reduceAdd, tvs, bs, e1, e2]
  (refine gO ?_)
  (refine FinQ hQ (congrArg Array.toList Tryz.results218) _ _ ?_); simp (disch := omega) only [u, i64, ax, if_true, forall_const, reduceCtorEq, implies_true, tvs, bf]
theorem ret_Log22 (neg : Bool) (m : Nat) (e : Int) (hm : m ≠ 0) (hl : (words m).length ≤ 2000) (he : -3000000 ≤ e ∧ e ≤ 3000000) :
    Ret Tryz.prog GEs 148 [rl22 neg m e] (i64 (e + dg m - 1)) := by
  have hD := ret_rDigits m hm (by omega)
  have hD1 := ret_rDigits 1 (by decide) (by have h2 : (words 1).length ≤ 1 := length_le (by decide); omega)
  rw [dg_one] at hD1
  obtain ⟨d1, d2, d3⟩ := dg_spec m hm
  have hb := bl_len m
  have hdb := dg_le_bl m
  obtain ⟨d, hd⟩ : ∃ d, dg m = d + 1 := ⟨dg m - 1, by omega⟩
  rw [hd] at hD d1 d2 hdb ⊢
  rw [show d + 1 - 1 = d from rfl] at d1
  have hT := ret_rTen d (by omega)
  have htl := ten_len (k := d) (by omega)
  have h1l : (words 1).length ≤ 1 := length_le (by decide)
  have hF := ret_floor22 (d + e) (by omega) (by omega)
  have hr : e + ((d + 1 : Nat) : Int) - 1 = d + e := by omega
  have hs : ((d + 1 : Nat) : Int) - ((1 : Nat) : Int) = (d : Int) := by omega
  rw [hr]
  have hM1 := ret_rMul (words 1) (words (10 ^ d)) (Wd_words _) (Wd_words _) (by omega) (by omega)
  rw [val_words, val_words, Nat.one_mul] at hM1
  have hM2 := ret_rMul (words m) (words (10 ^ 0)) (Wd_words _) (Wd_words _) (by omega) (by rw [Nat.pow_zero]; omega)
  rw [val_words, val_words, Nat.pow_zero, Nat.mul_one] at hM2
  have hC1 := ret_rCmp (words m) (words (10 ^ d)) (Wd_words _) (Wd_words _) (by omega) (by omega)
  have hC2 := ret_rCmp (words m) (words 1) (Wd_words _) (Wd_words _) (by omega) (by omega)
  rw [val_words, val_words] at hC1 hC2
  have c1 : 0 ≤ cmpI m (10 ^ d) := (cmpI_sign m (10 ^ d)).1.2 d1
  have c2 : 0 ≤ cmpI m 1 := (cmpI_sign m 1).1.2 (by omega)
  generalize cmpI m (10 ^ d) = y1 at *
  generalize cmpI m 1 = y2 at *
  unfold rl22
  by_cases h0 : d = 0
  · subst h0
    rw [Nat.pow_zero] at hT
    clear hM1 hC1
    refine RetN_start Tryz.func148 (by kernel_rfl) rfl fun Q hQ hQ2 => ?_; rw [Tryz.ntmps148]; simp only [u, i64, Nat.reduceSub, Nat.reduceAdd, bm]
    (refine gO ?_)
    (refine gC ?_)
    (refine cR hD ?_; refine sX ?_; try refine aA ?_)
    (refine cR hD1 ?_; refine sX ?_; try refine aA ?_)
    skip
    repeat (first | (refine gC ?_; first | refine aA ?_ | ((first | refine cR hT ?_ | refine cR hM2 ?_ | refine cR hC2 ?_ | refine cR hF ?_); refine sX ?_; try refine aA ?_)) | ((first | refine cR hT ?_ | refine cR hM2 ?_ | refine cR hC2 ?_ | refine cR hF ?_); refine sX ?_; try refine aA ?_) | refine gS ?_)
    (refine FinQ hQ (congrArg Array.toList Tryz.results148) _ _ ?_); simp (disch := omega) only [u, i64, ax, if_true, forall_const, reduceCtorEq, implies_true, tvs, bf]
    all_goals rfl
  · generalize 10 ^ d = t at *
    refine RetN_start Tryz.func148 (by kernel_rfl) rfl fun Q hQ hQ2 => ?_; rw [Tryz.ntmps148]; simp only [u, i64, Nat.reduceSub, Nat.reduceAdd, bm]
    (refine gO ?_)
    (refine gC ?_)
    (refine cR hD ?_; refine sX ?_; try refine aA ?_)
    (refine cR hD1 ?_; refine sX ?_; try refine aA ?_)
    skip
    repeat (first | (refine gC ?_; first | refine aA ?_ | ((first | refine cR hT ?_ | refine cR hM1 ?_ | refine cR hC1 ?_ | refine cR hF ?_); refine sX ?_; try refine aA ?_)) | ((first | refine cR hT ?_ | refine cR hM1 ?_ | refine cR hC1 ?_ | refine cR hF ?_); refine sX ?_; try refine aA ?_) | refine gS ?_)
    (refine FinQ hQ (congrArg Array.toList Tryz.results148) _ _ ?_); simp (disch := omega) only [u, i64, ax, if_true, forall_const, reduceCtorEq, implies_true, tvs, bf]
set_option maxRecDepth 100000 in
set_option maxHeartbeats 16000000 in
theorem ret_Steps22 (neg : Bool) (m : Nat) (e s : Int) (hm : m ≠ 0) (hl : (words m).length ≤ 2000) (he : -3000000 ≤ e ∧ e ≤ 3000000) (hs : -20000 ≤ s ∧ s ≤ 20000) (ha : e - s ≤ 100000) :
    Ret Tryz.prog GEs 127 [rl22 neg m e, i64 s] (.agg [nat (stQ m (e - s) / 2), .bool (decide (stQ m (e - s) % 2 = 1)), .bool (stR m (e - s))]) := by
  have hL := ret_rLeft (words m) 1 (Wd_words _) (by omega) (by decide)
  rw [val_words, Nat.pow_one, Nat.mul_comm] at hL
  have h1l : (words 1).length ≤ 1 := length_le (by decide)
  have h2l : (words (2 * m)).length ≤ 2001 := by
    have := length_mul 2 m
    have h2 : (words 2).length ≤ 1 := length_le (by decide)
    omega
  have hm2 : 2 * m ≠ 0 := by omega
  have hb := bl_len (2 * m)
  have hdb := dg_le_bl (2 * m)
  have hDv := fun (N D : Nat) (hN : (words N).length ≤ 100000) (hD : (words D).length ≤ 100000) (hz : D ≠ 0) => ret_rDivMod (words N) (words D) (Wd_words _) (Wd_words _) (by rw [val_words]; exact hz) (by omega) (by omega)
  have hZ := fun (m : Nat) (hm : (words m).length ≤ 100000) => ret_rIsZero (words m) (Wd_words _) (by omega)
  have hB := fun (m : Nat) (hm : (words m).length ≤ 100000) => ret_rBit (words m) 0 (Wd_words _) (by omega) (by omega)
  have hR := fun (m : Nat) (hm : (words m).length ≤ 100000) => ret_rRight (words m) 1 (Wd_words _) (by omega) (by omega)
  simp only [val_words, Nat.pow_zero, Nat.div_one, Nat.pow_one] at hDv hZ hB hR
  unfold stQ stR rl22
  by_cases h0 : 0 ≤ e - s
  · rw [if_pos h0, if_pos h0]
    have hA : e - 1 * s = (((e - s).toNat : Nat) : Int) := by omega
    have ht : (e - s).toNat ≤ 100000 := by omega
    generalize (e - s).toNat = t at *
    have hT := ret_rTen t (by omega)
    have htl := ten_len (k := t) (by omega)
    have hM := ret_rMul (words (2 * m)) (words (10 ^ t)) (Wd_words _) (Wd_words _) (by omega) (by omega)
    rw [val_words, val_words] at hM
    have hNl := length_mul (2 * m) (10 ^ t)
    have hD := hDv (2 * m * 10 ^ t) 1 (by omega) (by omega) (by decide)
    rw [Nat.div_one, Nat.mod_one] at hD
    have hZ1 := hZ 0 (by decide)
    rw [decT rfl] at hZ1
    have hB1 := hB (2 * m * 10 ^ t) (by omega)
    have hR1 := hR (2 * m * 10 ^ t) (by omega)
    clear hDv hZ hB hR
    generalize 2 * m * 10 ^ t = N at *
    generalize 10 ^ t = T at *
    generalize 2 * m = M at *
    refine RetN_start Tryz.func127 (by kernel_rfl) rfl fun Q hQ hQ2 => ?_; rw [Tryz.ntmps127]; simp only [u, i64, Nat.reduceSub, Nat.reduceAdd, bm]
    (refine gO ?_)
    (refine gC ?_)
    (refine cR hL ?_; refine sX ?_; try refine aA ?_)
    skip
    (refine gO ?_)
    (refine gC ?_)
    rw [hA]
    (refine cR hT ?_; refine sX ?_; try refine aA ?_)
    (refine cR hM ?_; refine sX ?_; try refine aA ?_)
    skip
    (refine gO ?_)
    (refine gC ?_)
    (refine cR hD ?_; refine sX ?_; try refine aA ?_)
    skip
    (refine gO ?_)
    (refine gC ?_)
    (refine cR hZ1 ?_; refine sX ?_; try refine aA ?_)
    skip
    repeat (first | (refine gC ?_; first | refine aA ?_ | ((first | refine cR hR1 ?_ | refine cR hB1 ?_); refine sX ?_; try refine aA ?_)) | ((first | refine cR hR1 ?_ | refine cR hB1 ?_); refine sX ?_; try refine aA ?_) | refine gS ?_)
    (refine FinQ hQ (congrArg Array.toList Tryz.results127) _ _ ?_); simp (disch := omega) only [u, i64, ax, if_true, forall_const, reduceCtorEq, implies_true, tvs, bf]
    all_goals rfl
  · by_cases h1 : (dg (2 * m) : Int) < -(e - s)
    · rw [if_neg h0, if_neg h0, if_pos h1, if_pos h1]
      have hDg := ret_rDigits (2 * m) hm2 (by omega)
      have hDg1 := ret_rDigits 1 (by decide) (by omega)
      rw [dg_one] at hDg1
      clear hDv hZ hB hR
      generalize dg (2 * m) = d at *
      generalize 2 * m = M at *
      show Ret Tryz.prog GEs 127 [.agg [.bool neg, nat m, nat 1, i64 e, i64 1], i64 s] (.agg [ws [], .bool false, .bool true])
      refine RetN_start Tryz.func127 (by kernel_rfl) rfl fun Q hQ hQ2 => ?_; rw [Tryz.ntmps127]; simp only [u, i64, Nat.reduceSub, Nat.reduceAdd, bm]
      (refine gO ?_)
      (refine gC ?_)
      (refine cR hL ?_; refine sX ?_; try refine aA ?_)
      skip
      repeat (first | (refine gC ?_; first | refine aA ?_ | ((first | refine cR hDg ?_ | refine cR hDg1 ?_); refine sX ?_; try refine aA ?_)) | ((first | refine cR hDg ?_ | refine cR hDg1 ?_); refine sX ?_; try refine aA ?_) | refine gS ?_)
      (refine FinQ hQ (congrArg Array.toList Tryz.results127) _ _ ?_); simp (disch := omega) only [u, i64, ax, if_true, forall_const, reduceCtorEq, implies_true, tvs, bf]
      all_goals rfl
    · rw [if_neg h0, if_neg h0, if_neg h1, if_neg h1]
      have hDg := ret_rDigits (2 * m) hm2 (by omega)
      have hDg1 := ret_rDigits 1 (by decide) (by omega)
      rw [dg_one] at hDg1
      have hA : (0 : Int) - (e - 1 * s) = (((-(e - s)).toNat : Nat) : Int) := by omega
      have ht : (-(e - s)).toNat ≤ 200000 := by omega
      have hcm : ¬ (dg (2 * m) : Int) < 1 - (e - 1 * s) - 1 := by omega
      generalize (-(e - s)).toNat = t at *
      have hT := ret_rTen t (by omega)
      have htl := ten_len (k := t) (by omega)
      have hM := ret_rMul (words 1) (words (10 ^ t)) (Wd_words _) (Wd_words _) (by omega) (by omega)
      rw [val_words, val_words, Nat.one_mul] at hM
      have hD := hDv (2 * m) (10 ^ t) (by omega) (by omega) (Nat.ne_of_gt (ten_pos _))
      have hql := Nat.le_trans (length_mono (Nat.div_le_self (2 * m) (10 ^ t))) h2l
      have hrl := Nat.le_trans (length_mono (Nat.mod_le (2 * m) (10 ^ t))) h2l
      have hZ1 := hZ (2 * m % 10 ^ t) (by omega)
      have hB1 := hB (2 * m / 10 ^ t) (by omega)
      have hR1 := hR (2 * m / 10 ^ t) (by omega)
      clear hDv hZ hB hR
      generalize 2 * m % 10 ^ t = w at *
      generalize 2 * m / 10 ^ t = q at *
      generalize 10 ^ t = T at *
      generalize dg (2 * m) = d at *
      generalize 2 * m = M at *
      by_cases hw : w = 0
      · rw [decT hw] at hZ1
        rw [decF (show ¬ w ≠ 0 from fun h => h hw)]
        refine RetN_start Tryz.func127 (by kernel_rfl) rfl fun Q hQ hQ2 => ?_; rw [Tryz.ntmps127]; simp only [u, i64, Nat.reduceSub, Nat.reduceAdd, bm]
        (refine gO ?_)
        (refine gC ?_)
        (refine cR hL ?_; refine sX ?_; try refine aA ?_)
        skip
        (refine gO ?_)
        (refine gC ?_)
        (refine cR hDg ?_; refine sX ?_; try refine aA ?_)
        (refine cR hDg1 ?_; refine sX ?_; try refine aA ?_)
        skip
        (refine gO ?_)
        (refine gC ?_)
        rw [hA]
        (refine cR hT ?_; refine sX ?_; try refine aA ?_)
        (refine cR hM ?_; refine sX ?_; try refine aA ?_)
        skip
        (refine gO ?_)
        (refine gC ?_)
        (refine cR hD ?_; refine sX ?_; try refine aA ?_)
        skip
        (refine gO ?_)
        (refine gC ?_)
        (refine cR hZ1 ?_; refine sX ?_; try refine aA ?_)
        skip
        repeat (first | (refine gC ?_; first | refine aA ?_ | ((first | refine cR hR1 ?_ | refine cR hB1 ?_); refine sX ?_; try refine aA ?_)) | ((first | refine cR hR1 ?_ | refine cR hB1 ?_); refine sX ?_; try refine aA ?_) | refine gS ?_)
        (refine FinQ hQ (congrArg Array.toList Tryz.results127) _ _ ?_); simp (disch := omega) only [u, i64, ax, if_true, forall_const, reduceCtorEq, implies_true, tvs, bf]
        all_goals rfl
      · rw [decF hw] at hZ1
        rw [decT hw]
        refine RetN_start Tryz.func127 (by kernel_rfl) rfl fun Q hQ hQ2 => ?_; rw [Tryz.ntmps127]; simp only [u, i64, Nat.reduceSub, Nat.reduceAdd, bm]
        (refine gO ?_)
        (refine gC ?_)
        (refine cR hL ?_; refine sX ?_; try refine aA ?_)
        skip
        (refine gO ?_)
        (refine gC ?_)
        (refine cR hDg ?_; refine sX ?_; try refine aA ?_)
        (refine cR hDg1 ?_; refine sX ?_; try refine aA ?_)
        skip
        (refine gO ?_)
        (refine gC ?_)
        rw [hA]
        (refine cR hT ?_; refine sX ?_; try refine aA ?_)
        (refine cR hM ?_; refine sX ?_; try refine aA ?_)
        skip
        (refine gO ?_)
        (refine gC ?_)
        (refine cR hD ?_; refine sX ?_; try refine aA ?_)
        skip
        (refine gO ?_)
        (refine gC ?_)
        (refine cR hZ1 ?_; refine sX ?_; try refine aA ?_)
        skip
        repeat (first | (refine gC ?_; first | refine aA ?_ | ((first | refine cR hR1 ?_ | refine cR hB1 ?_); refine sX ?_; try refine aA ?_)) | ((first | refine cR hR1 ?_ | refine cR hB1 ?_); refine sX ?_; try refine aA ?_) | refine gS ?_)
        (refine FinQ hQ (congrArg Array.toList Tryz.results127) _ _ ?_); simp (disch := omega) only [u, i64, ax, if_true, forall_const, reduceCtorEq, implies_true, tvs, bf]
        all_goals rfl
set_option maxRecDepth 100000 in
theorem ret_beyond22 (p : Nat) (g : Int) (r : Nat) (hp : 1 ≤ p ∧ p ≤ 400) (hg : 1 ≤ g ∧ g ≤ 6000) (hr : r ≤ 4) (neg : Bool) : Ret Tryz.prog GEs 215 [cx p g r, .bool neg] (.tup [dv (overD p g r neg), i64 5]) := by
  have hT := ret_rTen p (by omega)
  have htl := ten_len (k := p) (by omega)
  have hF := ret_rFromWord 1 (by decide)
  have h1l : (words 1).length ≤ 1 := length_le (by decide)
  have hS := ret_rSubA (words (10 ^ p)) (words 1) (Wd_words _) (Wd_words _) (by omega) (by omega) (by rw [val_words, val_words]; exact ten_pos p)
  rw [val_words, val_words] at hS
  unfold overD dv cx
  generalize 10 ^ p = T at *
  have h1 : r = 0 ∨ r = 1 ∨ r = 2 ∨ r = 3 ∨ r = 4 := by omega
  rcases h1 with rfl | rfl | rfl | rfl | rfl
  · show Ret Tryz.prog GEs 215 [.agg [i64 p, i64 g, i64 0], .bool neg] (.tup [.agg [i64 1, .bool neg, ws [], i64 0], i64 5])
    refine RetN_start Tryz.func215 (by kernel_rfl) rfl fun Q hQ hQ2 => ?_; rw [Tryz.ntmps215]; simp only [u, i64, Nat.reduceSub, Nat.reduceAdd, bm]
    (refine gO ?_)
    (refine FinQ hQ (congrArg Array.toList Tryz.results215) _ _ ?_); simp (disch := omega) only [u, i64, ax, if_true, forall_const, reduceCtorEq, implies_true, tvs, bf]
    all_goals rfl
  · show Ret Tryz.prog GEs 215 [.agg [i64 p, i64 g, i64 1], .bool neg] (.tup [.agg [i64 1, .bool neg, ws [], i64 0], i64 5])
    refine RetN_start Tryz.func215 (by kernel_rfl) rfl fun Q hQ hQ2 => ?_; rw [Tryz.ntmps215]; simp only [u, i64, Nat.reduceSub, Nat.reduceAdd, bm]
    (refine gO ?_)
    (refine FinQ hQ (congrArg Array.toList Tryz.results215) _ _ ?_); simp (disch := omega) only [u, i64, ax, if_true, forall_const, reduceCtorEq, implies_true, tvs, bf]
    all_goals rfl
  · show Ret Tryz.prog GEs 215 [.agg [i64 p, i64 g, i64 2], .bool neg] (.tup [.agg [i64 0, .bool neg, nat (T - 1), i64 (g - p + 1)], i64 5])
    refine RetN_start Tryz.func215 (by kernel_rfl) rfl fun Q hQ hQ2 => ?_; rw [Tryz.ntmps215]; simp only [u, i64, Nat.reduceSub, Nat.reduceAdd, bm]
    repeat (first | (refine gC ?_; first | refine aA ?_ | ((first | refine cR hT ?_ | refine cR hF ?_ | refine cR hS ?_); refine sX ?_; try refine aA ?_)) | ((first | refine cR hT ?_ | refine cR hF ?_ | refine cR hS ?_); refine sX ?_; try refine aA ?_) | refine gS ?_)
    (refine FinQ hQ (congrArg Array.toList Tryz.results215) _ _ ?_); simp (disch := omega) only [u, i64, ax, if_true, forall_const, reduceCtorEq, implies_true, tvs, bf]
  · cases neg with
    | true =>
      show Ret Tryz.prog GEs 215 [.agg [i64 p, i64 g, i64 3], .bool true] (.tup [.agg [i64 0, .bool true, nat (T - 1), i64 (g - p + 1)], i64 5])
      refine RetN_start Tryz.func215 (by kernel_rfl) rfl fun Q hQ hQ2 => ?_; rw [Tryz.ntmps215]; simp only [u, i64, Nat.reduceSub, Nat.reduceAdd, bm]
      repeat (first | (refine gC ?_; first | refine aA ?_ | ((first | refine cR hT ?_ | refine cR hF ?_ | refine cR hS ?_); refine sX ?_; try refine aA ?_)) | ((first | refine cR hT ?_ | refine cR hF ?_ | refine cR hS ?_); refine sX ?_; try refine aA ?_) | refine gS ?_)
      (refine FinQ hQ (congrArg Array.toList Tryz.results215) _ _ ?_); simp (disch := omega) only [u, i64, ax, if_true, forall_const, reduceCtorEq, implies_true, tvs, bf]
    | false =>
      show Ret Tryz.prog GEs 215 [.agg [i64 p, i64 g, i64 3], .bool false] (.tup [.agg [i64 1, .bool false, ws [], i64 0], i64 5])
      refine RetN_start Tryz.func215 (by kernel_rfl) rfl fun Q hQ hQ2 => ?_; rw [Tryz.ntmps215]; simp only [u, i64, Nat.reduceSub, Nat.reduceAdd, bm]
      (refine gO ?_)
      (refine FinQ hQ (congrArg Array.toList Tryz.results215) _ _ ?_); simp (disch := omega) only [u, i64, ax, if_true, forall_const, reduceCtorEq, implies_true, tvs, bf]
      all_goals rfl
  · cases neg with
    | true =>
      show Ret Tryz.prog GEs 215 [.agg [i64 p, i64 g, i64 4], .bool true] (.tup [.agg [i64 1, .bool true, ws [], i64 0], i64 5])
      refine RetN_start Tryz.func215 (by kernel_rfl) rfl fun Q hQ hQ2 => ?_; rw [Tryz.ntmps215]; simp only [u, i64, Nat.reduceSub, Nat.reduceAdd, bm]
      (refine gO ?_)
      (refine FinQ hQ (congrArg Array.toList Tryz.results215) _ _ ?_); simp (disch := omega) only [u, i64, ax, if_true, forall_const, reduceCtorEq, implies_true, tvs, bf]
      all_goals rfl
    | false =>
      show Ret Tryz.prog GEs 215 [.agg [i64 p, i64 g, i64 4], .bool false] (.tup [.agg [i64 0, .bool false, nat (T - 1), i64 (g - p + 1)], i64 5])
      refine RetN_start Tryz.func215 (by kernel_rfl) rfl fun Q hQ hQ2 => ?_; rw [Tryz.ntmps215]; simp only [u, i64, Nat.reduceSub, Nat.reduceAdd, bm]
      repeat (first | (refine gC ?_; first | refine aA ?_ | ((first | refine cR hT ?_ | refine cR hF ?_ | refine cR hS ?_); refine sX ?_; try refine aA ?_)) | ((first | refine cR hT ?_ | refine cR hF ?_ | refine cR hS ?_); refine sX ?_; try refine aA ?_) | refine gS ?_)
      (refine FinQ hQ (congrArg Array.toList Tryz.results215) _ _ ?_); simp (disch := omega) only [u, i64, ax, if_true, forall_const, reduceCtorEq, implies_true, tvs, bf]
theorem ret_Nothing22 (p g r ideal : Int) (hp : 1 ≤ p ∧ p ≤ 400) (hg : 1 ≤ g ∧ g ≤ 6000) (neg : Bool) (hi : -3000000 ≤ ideal ∧ ideal ≤ 3000000) :
    Ret Tryz.prog GEs 140 [cx p g r, .bool neg, i64 ideal] (dv ⟨0, neg, 0, min (max ideal (1 - g - (p - 1))) g⟩) := by
  have hT := ret_Tiny22 p g r hp hg
  show Ret Tryz.prog GEs 140 [.agg [i64 p, i64 g, i64 r], .bool neg, i64 ideal] (.agg [i64 0, .bool neg, ws [], i64 (min (max ideal (1 - g - (p - 1))) g)])
  unfold cx at hT
  refine RetN_start Tryz.func140 (by kernel_rfl) rfl fun Q hQ hQ2 => ?_; rw [Tryz.ntmps140]; simp only [u, i64, Nat.reduceSub, Nat.reduceAdd, bm]
  repeat (first | (refine gC ?_; first | refine aA ?_ | (refine cR hT ?_; refine sX ?_; try refine aA ?_)) | (refine cR hT ?_; refine sX ?_; try refine aA ?_) | refine gS ?_)
  (refine FinQ hQ (congrArg Array.toList Tryz.results140) _ _ ?_); simp (disch := omega) only [u, i64, ax, if_true, forall_const, reduceCtorEq, implies_true, tvs, bf]
  all_goals rfl
end Go.Proofs
