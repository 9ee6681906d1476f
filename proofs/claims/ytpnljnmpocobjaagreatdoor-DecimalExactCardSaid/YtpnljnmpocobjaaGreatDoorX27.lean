/-
  Contracts of functions of the program, each proved by a walk.
-/
import Derived.Test.YtpnljnmpocobjaaGreatDoorX22
import Derived.Test.YtpnljnmpocobjaaGreatDoorX26
import Derived.Test.YtpnljnmpocobjaaGreatDoorX25
set_option maxRecDepth 100000
set_option linter.unusedVariables false
set_option linter.unusedSimpArgs false
set_option maxRecDepth 100000
set_option maxHeartbeats 1000000
namespace Go.Proofs
open Go.Ax
theorem sgn_zero (neg : Bool) (m : Nat) : sgn neg m = 0 ↔ m = 0 := by
  unfold sgn
  split
  · rename_i h; exact ⟨fun _ => h, fun _ => rfl⟩
  · rename_i h; split <;> exact ⟨fun h' => by omega, fun h' => absurd h' h⟩
/-- An integer times a power of 10, finished. -/
theorem ret_Whole22 (p : Nat) (g : Int) (r : Nat) (hp : 1 ≤ p ∧ p ≤ 400) (hg : 1 ≤ g ∧ g ≤ 6000) (hr : r ≤ 4) (ng neg : Bool) (m : Nat) (e ideal : Int) (hl : (words m).length ≤ 2000) (he : -3000000 ≤ e ∧ e ≤ 3000000) (hi : -3000000 ≤ ideal ∧ ideal ≤ 3000000) :
    Ret Tryz.prog GEs 134 [cx p g r, .agg [.bool ng, nat m], i64 e, .bool neg, i64 ideal] (.tup [dv (finD0 p g r (if m = 0 then neg else ng) m e ideal).1, i64 (finD0 p g r (if m = 0 then neg else ng) m e ideal).2]) := by
  have hS := ret_Sign11 ng (words m) (Wd_words _) (by omega)
  rw [val_words] at hS
  have hz := sgn_zero ng m
  unfold finD0
  by_cases hm : m = 0
  · rw [if_pos hm, if_pos hm]
    rw [hz.2 hm] at hS
    have hN := ret_Nothing22 p g r ideal (by omega) hg neg hi
    generalize min (max ideal (1 - g - ((p : Int) - 1))) g = E at *
    unfold dv cx at *
    simp only at *
    refine RetN_start Tryz.func134 (by kernel_rfl) rfl fun Q hQ hQ2 => ?_; rw [Tryz.ntmps134]; simp only [u, i64, Nat.reduceSub, Nat.reduceAdd, bm]
    repeat (first | (refine gC ?_; first | refine aA ?_ | ((first | refine cR hS ?_ | refine cR hN ?_); refine sX ?_; try refine aA ?_)) | ((first | refine cR hS ?_ | refine cR hN ?_); refine sX ?_; try refine aA ?_) | refine gS ?_)
    (refine FinQ hQ (congrArg Array.toList Tryz.results134) _ _ ?_); simp (disch := omega) only [u, i64, ax, if_true, forall_const, reduceCtorEq, implies_true, tvs, bf]
    all_goals rfl
  · rw [if_neg hm, if_neg hm]
    have hz2 : ¬ sgn ng m = 0 := fun h => hm (hz.1 h)
    have hSc := ret_Scaled22 e ng m hm (by omega)
    have hF := ret_Finish22 p g r hp hg hr ng m e ideal hm hl he hi
    generalize finD p g r ng m e ideal = y at *
    generalize sgn ng m = sg1 at *
    unfold dv cx rl22 at *
    refine RetN_start Tryz.func134 (by kernel_rfl) rfl fun Q hQ hQ2 => ?_; rw [Tryz.ntmps134]; simp only [u, i64, Nat.reduceSub, Nat.reduceAdd, bm]
    repeat (first | (refine gC ?_; first | refine aA ?_ | ((first | refine cR hS ?_ | refine cR hSc ?_ | refine cR hF ?_); refine sX ?_; try refine aA ?_)) | ((first | refine cR hS ?_ | refine cR hSc ?_ | refine cR hF ?_); refine sX ?_; try refine aA ?_) | refine gS ?_)
    (refine FinQ hQ (congrArg Array.toList Tryz.results134) _ _ ?_); simp (disch := omega) only [u, i64, ax, if_true, forall_const, reduceCtorEq, implies_true, tvs, bf]
    all_goals rfl
/-- A finite number, finished. -/
theorem ret_Plus22 (p : Nat) (g : Int) (r : Nat) (hp : 1 ≤ p ∧ p ≤ 400) (hg : 1 ≤ g ∧ g ≤ 6000) (hr : r ≤ 4) (k e : Int) (neg : Bool) (cs : List Nat) (hk : 0 ≤ k ∧ k ≤ 2) (hc : Wd cs) (hl : cs.length ≤ 2000) (he : -3000000 ≤ e ∧ e ≤ 3000000) :
    Ret Tryz.prog GEs 56 [cx p g r, .agg [i64 k, .bool neg, ws cs, i64 e]] (.tup [dv (plusD p g r (mkD k neg (val cs) e)).1, i64 (plusD p g r (mkD k neg (val cs) e)).2]) := by
  have hZ := ret_Zero22 k e neg cs hc (by omega)
  have hO := ret_Of22 k e neg cs hc (by omega)
  have hC := ret_Canonical22 k e neg cs hc (by omega)
  have hN := ret_Nothing22 p g r e (by omega) hg neg he
  have hnl := length_words_val_le hc
  have hk2 : ((k.toNat : Nat) : Int) = k := by omega
  unfold plusD mkD
  simp only
  by_cases k0 : k = 0
  · subst k0
    rw [if_pos (show (0 : Int).toNat = 0 from rfl)]
    unfold finD0
    by_cases hm : val cs = 0
    · rw [if_pos hm]
      rw [decT (show (0 : Int) = 0 ∧ val cs = 0 from ⟨rfl, hm⟩)] at hZ
      generalize min (max e (1 - g - ((p : Int) - 1))) g = E at *
      unfold dv cx at *
      simp only at *
      clear hO hC
      refine RetN_start Tryz.func56 (by kernel_rfl) rfl fun Q hQ hQ2 => ?_; rw [Tryz.ntmps56]; simp only [u, i64, Nat.reduceSub, Nat.reduceAdd, bm]
      repeat (first | (refine gC ?_; first | refine aA ?_ | ((first | refine cR hZ ?_ | refine cR hN ?_); refine sX ?_; try refine aA ?_)) | ((first | refine cR hZ ?_ | refine cR hN ?_); refine sX ?_; try refine aA ?_) | refine gS ?_)
      (refine FinQ hQ (congrArg Array.toList Tryz.results56) _ _ ?_); simp (disch := omega) only [u, i64, ax, if_true, forall_const, reduceCtorEq, implies_true, tvs, bf]
      all_goals rfl
    · rw [if_neg hm]
      rw [decF (show ¬ ((0 : Int) = 0 ∧ val cs = 0) from fun h => hm h.2)] at hZ
      have hF := ret_Finish22 p g r hp hg hr neg (val cs) e e hm (by omega) he he
      generalize finD p g r neg (val cs) e e = y at *
      generalize val cs = v at *
      unfold dv cx rl22 at *
      clear hN hC
      refine RetN_start Tryz.func56 (by kernel_rfl) rfl fun Q hQ hQ2 => ?_; rw [Tryz.ntmps56]; simp only [u, i64, Nat.reduceSub, Nat.reduceAdd, bm]
      repeat (first | (refine gC ?_; first | refine aA ?_ | ((first | refine cR hZ ?_ | refine cR hO ?_ | refine cR hF ?_); refine sX ?_; try refine aA ?_)) | ((first | refine cR hZ ?_ | refine cR hO ?_ | refine cR hF ?_); refine sX ?_; try refine aA ?_) | refine gS ?_)
      (refine FinQ hQ (congrArg Array.toList Tryz.results56) _ _ ?_); simp (disch := omega) only [u, i64, ax, if_true, forall_const, reduceCtorEq, implies_true, tvs, bf]
      all_goals rfl
  · rw [if_neg (show ¬ k.toNat = 0 by omega)]
    unfold dv cx
    simp only
    rw [hk2]
    clear hN hO hZ
    refine RetN_start Tryz.func56 (by kernel_rfl) rfl fun Q hQ hQ2 => ?_; rw [Tryz.ntmps56]; simp only [u, i64, Nat.reduceSub, Nat.reduceAdd, bm]
    repeat (first | (refine gC ?_; first | refine aA ?_ | (refine cR hC ?_; refine sX ?_; try refine aA ?_)) | (refine cR hC ?_; refine sX ?_; try refine aA ?_) | refine gS ?_)
    (refine FinQ hQ (congrArg Array.toList Tryz.results56) _ _ ?_); simp (disch := omega) only [u, i64, ax, if_true, forall_const, reduceCtorEq, implies_true, tvs, bf]
    all_goals rfl
theorem ret_From0 : Ret Tryz.prog GEs 99 [i64 0] (.agg [.bool false, nat 0]) := by
  have hF := ret_rFromWord 0 (by decide)
  have hM := ret_Make false (words 0) (Wd_words _) (by decide)
  rw [val_words] at hM
  have h3 : Ret Tryz.prog GEs 184 [i64 0] (.agg [.bool false, nat 0]) := by
    refine RetN_start Tryz.func184 (by kernel_rfl) rfl fun Q hQ hQ2 => ?_; rw [Tryz.ntmps184]; simp only [u, i64, Nat.reduceSub, Nat.reduceAdd, bm]
    repeat (first | (refine gC ?_; first | refine aA ?_ | ((first | refine cR hF ?_ | refine cR hM ?_); refine sX ?_; try refine aA ?_)) | ((first | refine cR hF ?_ | refine cR hM ?_); refine sX ?_; try refine aA ?_) | refine gS ?_)
    (refine FinQ hQ (congrArg Array.toList Tryz.results184) _ _ ?_); simp (disch := omega) only [u, i64, ax, if_true, forall_const, reduceCtorEq, implies_true, tvs, bf]
    all_goals rfl
  refine RetN_start Tryz.func99 (by kernel_rfl) rfl fun Q hQ hQ2 => ?_; rw [Tryz.ntmps99]; simp only [u, i64, Nat.reduceSub, Nat.reduceAdd, bm]
  repeat (first | (refine gC ?_; first | refine aA ?_ | (refine cR h3 ?_; refine sX ?_; try refine aA ?_)) | (refine cR h3 ?_; refine sX ?_; try refine aA ?_) | refine gS ?_)
  (refine FinQ hQ (congrArg Array.toList Tryz.results99) _ _ ?_); simp (disch := omega) only [u, i64, ax, if_true, forall_const, reduceCtorEq, implies_true, tvs, bf]
/-- A finite number as an integer times a lower power of 10. -/
theorem ret_At22z (k e low : Int) (neg : Bool) (cs : List Nat) (hk : k = 0) (hc : Wd cs) (hl : cs.length ≤ 10000) (hj : low ≤ e) (hj2 : e - low ≤ 100000) (he : -3000000 ≤ e ∧ e ≤ 3000000) :
    Ret Tryz.prog GEs 136 [.agg [i64 k, .bool neg, ws cs, i64 e], i64 low] (zv (sg neg (val cs * 10 ^ (e - low).toNat))) := by
  have hZ := ret_Zero22 k e neg cs hc (by omega)
  subst hk
  rw [← mk_zv]
  by_cases h0 : val cs = 0
  · rw [decT (show (0 : Int) = 0 ∧ val cs = 0 from ⟨rfl, h0⟩)] at hZ
    rw [h0, Nat.zero_mul, decF (show ¬ (0 : Nat) ≠ 0 from fun h => h rfl), Bool.and_false]
    have hF := ret_From0
    refine RetN_start Tryz.func136 (by kernel_rfl) rfl fun Q hQ hQ2 => ?_; rw [Tryz.ntmps136]; simp only [u, i64, Nat.reduceSub, Nat.reduceAdd, bm]
    repeat (first | (refine gC ?_; first | refine aA ?_ | ((first | refine cR hZ ?_ | refine cR hF ?_); refine sX ?_; try refine aA ?_)) | ((first | refine cR hZ ?_ | refine cR hF ?_); refine sX ?_; try refine aA ?_) | refine gS ?_)
    (refine FinQ hQ (congrArg Array.toList Tryz.results136) _ _ ?_); simp (disch := omega) only [u, i64, ax, if_true, forall_const, reduceCtorEq, implies_true, tvs, bf]
  · rw [decF (show ¬ ((0 : Int) = 0 ∧ val cs = 0) from fun h => h0 h.2)] at hZ
    have hs : e - low = (((e - low).toNat : Nat) : Int) := by omega
    generalize (e - low).toNat = j at *
    have hT := ret_rTen j (by omega)
    have htl := ten_len (k := j) (by omega)
    have hM := ret_rMul cs (words (10 ^ j)) hc (Wd_words _) (by omega) (by omega)
    rw [val_words] at hM
    have hm0 : val cs * 10 ^ j ≠ 0 := Nat.mul_ne_zero h0 (Nat.ne_of_gt (Nat.pow_pos (by decide)))
    have hml : (words (val cs * 10 ^ j)).length ≤ 34359738368 := by
      have := length_mul (val cs) (10 ^ j)
      have := length_words_val_le hc
      omega
    have hK := ret_Make11 neg (words (val cs * 10 ^ j)) (Wd_words _) hml
    rw [val_words, decT hm0, Bool.and_true] at hK
    rw [decT hm0, Bool.and_true]
    clear htl hml hm0 h0
    generalize val cs * 10 ^ j = m at *
    generalize 10 ^ j = t at *
    refine RetN_start Tryz.func136 (by kernel_rfl) rfl fun Q hQ hQ2 => ?_; rw [Tryz.ntmps136]; simp only [u, i64, Nat.reduceSub, Nat.reduceAdd, bm]
    repeat (first | (refine gC ?_; first | refine aA ?_ | (refine cR hZ ?_; refine sX ?_; try refine aA ?_)) | (refine cR hZ ?_; refine sX ?_; try refine aA ?_) | refine gS ?_)
    (refine gC ?_)
    rw [hs]
    repeat (first | (refine gC ?_; first | refine aA ?_ | ((first | refine cR hT ?_ | refine cR hM ?_ | refine cR hK ?_); refine sX ?_; try refine aA ?_)) | ((first | refine cR hT ?_ | refine cR hM ?_ | refine cR hK ?_); refine sX ?_; try refine aA ?_) | refine gS ?_)
    (refine FinQ hQ (congrArg Array.toList Tryz.results136) _ _ ?_); simp (disch := omega) only [u, i64, ax, if_true, forall_const, reduceCtorEq, implies_true, tvs, bf]
set_option maxHeartbeats 16000000 in
/-- A sum of two numbers that are not of the context each. -/
theorem ret_Sum22 (p : Nat) (g : Int) (r : Nat) (hp : 1 ≤ p ∧ p ≤ 400) (hg : 1 ≤ g ∧ g ≤ 6000) (hr : r ≤ 4) (k1 e1 : Int) (n1 : Bool) (cs : List Nat) (k2 e2 : Int) (n2 : Bool) (ds : List Nat) (q1 : 0 ≤ k1 ∧ k1 ≤ 2) (q2 : 0 ≤ k2 ∧ k2 ≤ 2) (hc : Wd cs) (hd : Wd ds) (lc : cs.length ≤ 90) (ld : ds.length ≤ 90) (b1 : -13000 ≤ e1 ∧ e1 ≤ 13000) (b2 : -13000 ≤ e2 ∧ e2 ≤ 13000) :
    Ret Tryz.prog GEs 52 [cx p g r, .agg [i64 k1, .bool n1, ws cs, i64 e1], .agg [i64 k2, .bool n2, ws ds, i64 e2]] (.tup [dv (addD p g r (mkD k1 n1 (val cs) e1) (mkD k2 n2 (val ds) e2)).1, i64 (addD p g r (mkD k1 n1 (val cs) e1) (mkD k2 n2 (val ds) e2)).2]) := by
  have hC1 := ret_Canonical22 k1 e1 n1 cs hc (by omega)
  have hC2 := ret_Canonical22 k2 e2 n2 ds hd (by omega)
  have z1 : ((k1.toNat : Nat) : Int) = k1 := by omega
  have z2 : ((k2.toNat : Nat) : Int) = k2 := by omega
  unfold addD mkD nanD
  simp only
  by_cases a1 : k1 = 2
  · rw [if_pos (Or.inl (show k1.toNat = 2 by omega))]
    clear hC1 hC2
    unfold dv cx
    simp only
    refine RetN_start Tryz.func52 (by kernel_rfl) rfl fun Q hQ hQ2 => ?_; rw [Tryz.ntmps52]; simp only [u, i64, Nat.reduceSub, Nat.reduceAdd, bm]
    (refine gO ?_)
    (refine FinQ hQ (congrArg Array.toList Tryz.results52) _ _ ?_); simp (disch := omega) only [u, i64, ax, if_true, forall_const, reduceCtorEq, implies_true, tvs, bf]
    all_goals rfl
  by_cases a2 : k2 = 2
  · rw [if_pos (Or.inr (show k2.toNat = 2 by omega))]
    clear hC1 hC2
    unfold dv cx
    simp only
    refine RetN_start Tryz.func52 (by kernel_rfl) rfl fun Q hQ hQ2 => ?_; rw [Tryz.ntmps52]; simp only [u, i64, Nat.reduceSub, Nat.reduceAdd, bm]
    (refine gO ?_)
    (refine FinQ hQ (congrArg Array.toList Tryz.results52) _ _ ?_); simp (disch := omega) only [u, i64, ax, if_true, forall_const, reduceCtorEq, implies_true, tvs, bf]
    all_goals rfl
  rw [if_neg (show ¬ (k1.toNat = 2 ∨ k2.toNat = 2) by omega)]
  by_cases a3 : k1 = 1
  · by_cases a4 : k2 = 1
    · by_cases a5 : n1 = n2
      · rw [if_neg (fun h => h.2.2 a5), if_pos (show k1.toNat = 1 by omega)]
        unfold dv cx
        simp only
        rw [z1]
        clear hC2
        cases n1 <;> cases n2 <;> first | (cases a5; done) | skip
        · refine RetN_start Tryz.func52 (by kernel_rfl) rfl fun Q hQ hQ2 => ?_; rw [Tryz.ntmps52]; simp only [u, i64, Nat.reduceSub, Nat.reduceAdd, bm]
          repeat (first | (refine gC ?_; first | refine aA ?_ | (refine cR hC1 ?_; refine sX ?_; try refine aA ?_)) | (refine cR hC1 ?_; refine sX ?_; try refine aA ?_) | refine gS ?_)
          (refine FinQ hQ (congrArg Array.toList Tryz.results52) _ _ ?_); simp (disch := omega) only [u, i64, ax, if_true, forall_const, reduceCtorEq, implies_true, tvs, bf]
          all_goals rfl
        · refine RetN_start Tryz.func52 (by kernel_rfl) rfl fun Q hQ hQ2 => ?_; rw [Tryz.ntmps52]; simp only [u, i64, Nat.reduceSub, Nat.reduceAdd, bm]
          repeat (first | (refine gC ?_; first | refine aA ?_ | (refine cR hC1 ?_; refine sX ?_; try refine aA ?_)) | (refine cR hC1 ?_; refine sX ?_; try refine aA ?_) | refine gS ?_)
          (refine FinQ hQ (congrArg Array.toList Tryz.results52) _ _ ?_); simp (disch := omega) only [u, i64, ax, if_true, forall_const, reduceCtorEq, implies_true, tvs, bf]
          all_goals rfl
      · rw [if_pos (show k1.toNat = 1 ∧ k2.toNat = 1 ∧ n1 ≠ n2 from ⟨by omega, by omega, a5⟩)]
        clear hC1 hC2
        unfold dv cx
        simp only
        cases n1 <;> cases n2
        · exact absurd rfl a5
        · refine RetN_start Tryz.func52 (by kernel_rfl) rfl fun Q hQ hQ2 => ?_; rw [Tryz.ntmps52]; simp only [u, i64, Nat.reduceSub, Nat.reduceAdd, bm]
          (refine gO ?_)
          (refine FinQ hQ (congrArg Array.toList Tryz.results52) _ _ ?_); simp (disch := omega) only [u, i64, ax, if_true, forall_const, reduceCtorEq, implies_true, tvs, bf]
          all_goals rfl
        · refine RetN_start Tryz.func52 (by kernel_rfl) rfl fun Q hQ hQ2 => ?_; rw [Tryz.ntmps52]; simp only [u, i64, Nat.reduceSub, Nat.reduceAdd, bm]
          (refine gO ?_)
          (refine FinQ hQ (congrArg Array.toList Tryz.results52) _ _ ?_); simp (disch := omega) only [u, i64, ax, if_true, forall_const, reduceCtorEq, implies_true, tvs, bf]
          all_goals rfl
        · exact absurd rfl a5
    · rw [if_neg (show ¬ (k1.toNat = 1 ∧ k2.toNat = 1 ∧ n1 ≠ n2) from fun h => by omega), if_pos (show k1.toNat = 1 by omega)]
      unfold dv cx
      simp only
      rw [z1]
      clear hC2
      refine RetN_start Tryz.func52 (by kernel_rfl) rfl fun Q hQ hQ2 => ?_; rw [Tryz.ntmps52]; simp only [u, i64, Nat.reduceSub, Nat.reduceAdd, bm]
      repeat (first | (refine gC ?_; first | refine aA ?_ | (refine cR hC1 ?_; refine sX ?_; try refine aA ?_)) | (refine cR hC1 ?_; refine sX ?_; try refine aA ?_) | refine gS ?_)
      (refine FinQ hQ (congrArg Array.toList Tryz.results52) _ _ ?_); simp (disch := omega) only [u, i64, ax, if_true, forall_const, reduceCtorEq, implies_true, tvs, bf]
      all_goals rfl
  · rw [if_neg (show ¬ (k1.toNat = 1 ∧ k2.toNat = 1 ∧ n1 ≠ n2) from fun h => by omega), if_neg (show ¬ k1.toNat = 1 by omega)]
    by_cases a4 : k2 = 1
    · rw [if_pos (show k2.toNat = 1 by omega)]
      unfold dv cx
      simp only
      rw [z2]
      clear hC1
      refine RetN_start Tryz.func52 (by kernel_rfl) rfl fun Q hQ hQ2 => ?_; rw [Tryz.ntmps52]; simp only [u, i64, Nat.reduceSub, Nat.reduceAdd, bm]
      repeat (first | (refine gC ?_; first | refine aA ?_ | (refine cR hC2 ?_; refine sX ?_; try refine aA ?_)) | (refine cR hC2 ?_; refine sX ?_; try refine aA ?_) | refine gS ?_)
      (refine FinQ hQ (congrArg Array.toList Tryz.results52) _ _ ?_); simp (disch := omega) only [u, i64, ax, if_true, forall_const, reduceCtorEq, implies_true, tvs, bf]
      all_goals rfl
    · rw [if_neg (show ¬ k2.toNat = 1 by omega)]
      clear hC1 hC2
      obtain rfl : k1 = 0 := by omega
      obtain rfl : k2 = 0 := by omega
      have l1 := length_words_val_le hc
      have l2 := length_words_val_le hd
      have hAt1 := ret_At22z 0 e1 (min e1 e2) n1 cs rfl hc (by omega) (by omega) (by omega) (by omega)
      have hAt2 := ret_At22z 0 e2 (min e1 e2) n2 ds rfl hd (by omega) (by omega) (by omega) (by omega)
      have tl : ∀ k : Nat, k ≤ 26000 → (words (10 ^ k)).length ≤ 1626 := fun k hk => le_pow_words (ten_le k) (by omega)
      have t1 := tl (e1 - min e1 e2).toNat (by omega)
      have t2 := tl (e2 - min e1 e2).toNat (by omega)
      have m1 := length_mul (val cs) (10 ^ (e1 - min e1 e2).toNat)
      have m2 := length_mul (val ds) (10 ^ (e2 - min e1 e2).toNat)
      have hlow : min e1 e2 = e1 ∨ min e1 e2 = e2 := by omega
      generalize val cs * 10 ^ (e1 - min e1 e2).toNat = A at *
      generalize val ds * 10 ^ (e2 - min e1 e2).toNat = B at *
      have ab1 := sg_abs n1 A
      have ab2 := sg_abs n2 B
      have hA := ret_Add11 (decide (sg n1 A < 0)) (decide (sg n2 B < 0)) (words (sg n1 A).natAbs) (words (sg n2 B).natAbs) (Wd_words _) (Wd_words _) (by rw [ab1]; omega) (by rw [ab2]; omega)
      rw [val_words, val_words, sg_zv, sg_zv] at hA
      obtain ⟨s1, s2, s3⟩ := sum_ref r n1 A n2 B
      change (sg n1 A + sg n2 B).natAbs = _ at s1
      change (sg n1 A + sg n2 B) ≠ 0 → decide (sg n1 A + sg n2 B < 0) = _ at s2
      change (sg n1 A + sg n2 B) = 0 → _ at s3
      have hml : (words (sg n1 A + sg n2 B).natAbs).length ≤ 2000 := by
        have h1 := length_add A B
        have := length_mono (show (sg n1 A + sg n2 B).natAbs ≤ A + B by omega)
        omega
      have hW := ret_Whole22 p g r hp hg hr (decide (sg n1 A + sg n2 B < 0)) (if n1 = n2 then n1 else decide (r = 4)) (sg n1 A + sg n2 B).natAbs (min e1 e2) (min e1 e2) hml (by omega) (by omega)
      have key : (if (sg n1 A + sg n2 B).natAbs = 0 then (if n1 = n2 then n1 else decide (r = 4)) else decide (sg n1 A + sg n2 B < 0)) = sumN r n1 A n2 B := by
        by_cases hz : sg n1 A + sg n2 B = 0
        · rw [if_pos (by omega)]; exact (s3 hz).2.symm
        · rw [if_neg (by omega)]; exact s2 hz
      have hz : AV.agg [.bool (decide (sg n1 A + sg n2 B < 0)), nat (sg n1 A + sg n2 B).natAbs] = zv (sg n1 A + sg n2 B) := rfl
      rw [key, hz, s1] at hW
      clear s1 s2 s3 hml ab1 ab2 m1 m2 t1 t2 tl key hz
      generalize finD0 p g r (sumN r n1 A n2 B) (sumM n1 A n2 B) (min e1 e2) (min e1 e2) = y at *
      generalize sg n1 A + sg n2 B = S at *
      generalize sg n1 A = S1 at *
      generalize sg n2 B = S2 at *
      generalize hE : min e1 e2 = E at *
      unfold dv cx zv at *
      by_cases a5 : n1 = n2
      · rw [if_pos a5] at hW
        cases n1 <;> cases n2 <;> first | (cases a5; done) | skip
        · skip
          refine RetN_start Tryz.func52 (by kernel_rfl) rfl fun Q hQ hQ2 => ?_; rw [Tryz.ntmps52]; simp only [u, i64, Nat.reduceSub, Nat.reduceAdd, bm]
          (refine gO ?_)
          (refine gC ?_)
          rw [hE]
          repeat (first | (refine gC ?_; first | refine aA ?_ | ((first | refine cR hAt1 ?_ | refine cR hAt2 ?_ | refine cR hA ?_ | refine cR hW ?_); refine sX ?_; try refine aA ?_)) | ((first | refine cR hAt1 ?_ | refine cR hAt2 ?_ | refine cR hA ?_ | refine cR hW ?_); refine sX ?_; try refine aA ?_) | refine gS ?_)
          (refine FinQ hQ (congrArg Array.toList Tryz.results52) _ _ ?_); simp (disch := omega) only [u, i64, ax, if_true, forall_const, reduceCtorEq, implies_true, tvs, bf]
          all_goals rfl
        · skip
          refine RetN_start Tryz.func52 (by kernel_rfl) rfl fun Q hQ hQ2 => ?_; rw [Tryz.ntmps52]; simp only [u, i64, Nat.reduceSub, Nat.reduceAdd, bm]
          (refine gO ?_)
          (refine gC ?_)
          rw [hE]
          repeat (first | (refine gC ?_; first | refine aA ?_ | ((first | refine cR hAt1 ?_ | refine cR hAt2 ?_ | refine cR hA ?_ | refine cR hW ?_); refine sX ?_; try refine aA ?_)) | ((first | refine cR hAt1 ?_ | refine cR hAt2 ?_ | refine cR hA ?_ | refine cR hW ?_); refine sX ?_; try refine aA ?_) | refine gS ?_)
          (refine FinQ hQ (congrArg Array.toList Tryz.results52) _ _ ?_); simp (disch := omega) only [u, i64, ax, if_true, forall_const, reduceCtorEq, implies_true, tvs, bf]
          all_goals rfl
      · rw [if_neg a5] at hW
        by_cases h4 : r = 4
        · subst h4
          rw [decT rfl] at hW
          cases n1 <;> cases n2
          · exact absurd rfl a5
          · skip
            refine RetN_start Tryz.func52 (by kernel_rfl) rfl fun Q hQ hQ2 => ?_; rw [Tryz.ntmps52]; simp only [u, i64, Nat.reduceSub, Nat.reduceAdd, bm]
            (refine gO ?_)
            (refine gC ?_)
            rw [hE]
            repeat (first | (refine gC ?_; first | refine aA ?_ | ((first | refine cR hAt1 ?_ | refine cR hAt2 ?_ | refine cR hA ?_ | refine cR hW ?_); refine sX ?_; try refine aA ?_)) | ((first | refine cR hAt1 ?_ | refine cR hAt2 ?_ | refine cR hA ?_ | refine cR hW ?_); refine sX ?_; try refine aA ?_) | refine gS ?_)
            (refine FinQ hQ (congrArg Array.toList Tryz.results52) _ _ ?_); simp (disch := omega) only [u, i64, ax, if_true, forall_const, reduceCtorEq, implies_true, tvs, bf]
            all_goals rfl
          · skip
            refine RetN_start Tryz.func52 (by kernel_rfl) rfl fun Q hQ hQ2 => ?_; rw [Tryz.ntmps52]; simp only [u, i64, Nat.reduceSub, Nat.reduceAdd, bm]
            (refine gO ?_)
            (refine gC ?_)
            rw [hE]
            repeat (first | (refine gC ?_; first | refine aA ?_ | ((first | refine cR hAt1 ?_ | refine cR hAt2 ?_ | refine cR hA ?_ | refine cR hW ?_); refine sX ?_; try refine aA ?_)) | ((first | refine cR hAt1 ?_ | refine cR hAt2 ?_ | refine cR hA ?_ | refine cR hW ?_); refine sX ?_; try refine aA ?_) | refine gS ?_)
            (refine FinQ hQ (congrArg Array.toList Tryz.results52) _ _ ?_); simp (disch := omega) only [u, i64, ax, if_true, forall_const, reduceCtorEq, implies_true, tvs, bf]
            all_goals rfl
          · exact absurd rfl a5
        · rw [decF h4] at hW
          cases n1 <;> cases n2
          · exact absurd rfl a5
          · skip
            refine RetN_start Tryz.func52 (by kernel_rfl) rfl fun Q hQ hQ2 => ?_; rw [Tryz.ntmps52]; simp only [u, i64, Nat.reduceSub, Nat.reduceAdd, bm]
            (refine gO ?_)
            (refine gC ?_)
            rw [hE]
            repeat (first | (refine gC ?_; first | refine aA ?_ | ((first | refine cR hAt1 ?_ | refine cR hAt2 ?_ | refine cR hA ?_ | refine cR hW ?_); refine sX ?_; try refine aA ?_)) | ((first | refine cR hAt1 ?_ | refine cR hAt2 ?_ | refine cR hA ?_ | refine cR hW ?_); refine sX ?_; try refine aA ?_) | refine gS ?_)
            (refine FinQ hQ (congrArg Array.toList Tryz.results52) _ _ ?_); simp (disch := omega) only [u, i64, ax, if_true, forall_const, reduceCtorEq, implies_true, tvs, bf]
            all_goals rfl
          · skip
            refine RetN_start Tryz.func52 (by kernel_rfl) rfl fun Q hQ hQ2 => ?_; rw [Tryz.ntmps52]; simp only [u, i64, Nat.reduceSub, Nat.reduceAdd, bm]
            (refine gO ?_)
            (refine gC ?_)
            rw [hE]
            repeat (first | (refine gC ?_; first | refine aA ?_ | ((first | refine cR hAt1 ?_ | refine cR hAt2 ?_ | refine cR hA ?_ | refine cR hW ?_); refine sX ?_; try refine aA ?_)) | ((first | refine cR hAt1 ?_ | refine cR hAt2 ?_ | refine cR hA ?_ | refine cR hW ?_); refine sX ?_; try refine aA ?_) | refine gS ?_)
            (refine FinQ hQ (congrArg Array.toList Tryz.results52) _ _ ?_); simp (disch := omega) only [u, i64, ax, if_true, forall_const, reduceCtorEq, implies_true, tvs, bf]
            all_goals rfl
          · exact absurd rfl a5
/-- A product, before it is finished. -/
theorem ret_Product22 (k1 e1 : Int) (n1 : Bool) (cs : List Nat) (k2 e2 : Int) (n2 : Bool) (ds : List Nat) (q1 : 0 ≤ k1 ∧ k1 ≤ 2) (q2 : 0 ≤ k2 ∧ k2 ≤ 2) (hc : Wd cs) (hd : Wd ds) (lc : cs.length ≤ 90) (ld : ds.length ≤ 90) (b1 : -1000000 ≤ e1 ∧ e1 ≤ 1000000) (b2 : -1000000 ≤ e2 ∧ e2 ≤ 1000000) :
    Ret Tryz.prog GEs 143 [.agg [i64 k1, .bool n1, ws cs, i64 e1], .agg [i64 k2, .bool n2, ws ds, i64 e2]]
      (if (timesD (mkD k1 n1 (val cs) e1) (mkD k2 n2 (val ds) e2)).2 = true then .tup [dv (timesD (mkD k1 n1 (val cs) e1) (mkD k2 n2 (val ds) e2)).1, .bool true] else .tup [dv zD, .bool false]) := by
  have hZ1 := ret_Zero22 k1 e1 n1 cs hc (by omega)
  have hZ2 := ret_Zero22 k2 e2 n2 ds hd (by omega)
  have hM := ret_rMul cs ds hc hd (by omega) (by omega)
  have z1 : decide (k1.toNat = 0 ∧ val cs = 0) = decide (k1 = 0 ∧ val cs = 0) := by rw [decide_eq_decide]; omega
  have z2 : decide (k2.toNat = 0 ∧ val ds = 0) = decide (k2 = 0 ∧ val ds = 0) := by rw [decide_eq_decide]; omega
  rw [dvz]
  unfold timesD mkD nanD
  simp only
  rw [z1, z2]
  generalize val cs * val ds = C at *
  by_cases a1 : k1 = 2
  · rw [if_pos (Or.inl (show k1.toNat = 2 by omega))]
    clear hZ1 hZ2 hM
    rw [if_pos rfl]
    unfold dv
    simp only
    refine RetN_start Tryz.func143 (by kernel_rfl) rfl fun Q hQ hQ2 => ?_; rw [Tryz.ntmps143]; simp only [u, i64, Nat.reduceSub, Nat.reduceAdd, bm]
    (refine gO ?_)
    (refine FinQ hQ (congrArg Array.toList Tryz.results143) _ _ ?_); simp (disch := omega) only [u, i64, ax, if_true, forall_const, reduceCtorEq, implies_true, tvs, bf]
    all_goals rfl
  by_cases a2 : k2 = 2
  · rw [if_pos (Or.inr (show k2.toNat = 2 by omega))]
    clear hZ1 hZ2 hM
    rw [if_pos rfl]
    unfold dv
    simp only
    refine RetN_start Tryz.func143 (by kernel_rfl) rfl fun Q hQ hQ2 => ?_; rw [Tryz.ntmps143]; simp only [u, i64, Nat.reduceSub, Nat.reduceAdd, bm]
    (refine gO ?_)
    (refine FinQ hQ (congrArg Array.toList Tryz.results143) _ _ ?_); simp (disch := omega) only [u, i64, ax, if_true, forall_const, reduceCtorEq, implies_true, tvs, bf]
    all_goals rfl
  rw [if_neg (show ¬ (k1.toNat = 2 ∨ k2.toNat = 2) by omega)]
  by_cases a3 : k1 = 1
  · rw [if_pos (Or.inl (show k1.toNat = 1 by omega))]
    have f1 : ¬ (k1 = 0 ∧ val cs = 0) := fun h => by omega
    rw [decF f1] at hZ1 ⊢
    clear hM
    by_cases a4 : k2 = 1
    · have f2 : ¬ (k2 = 0 ∧ val ds = 0) := fun h => by omega
      rw [decF f2] at hZ2 ⊢
      rw [if_pos (show (!false && !false) = true from rfl)]
      unfold dv
      simp only
      refine RetN_start Tryz.func143 (by kernel_rfl) rfl fun Q hQ hQ2 => ?_; rw [Tryz.ntmps143]; simp only [u, i64, Nat.reduceSub, Nat.reduceAdd, bm]
      (refine gO ?_)
      (refine gC ?_)
      (refine cR hZ2 ?_; refine sX ?_; try refine aA ?_)
      skip
      repeat (first | (refine gC ?_; first | refine aA ?_ | (refine cR hZ1 ?_; refine sX ?_; try refine aA ?_)) | (refine cR hZ1 ?_; refine sX ?_; try refine aA ?_) | refine gS ?_)
      (refine FinQ hQ (congrArg Array.toList Tryz.results143) _ _ ?_); simp (disch := omega) only [u, i64, ax, if_true, forall_const, reduceCtorEq, implies_true, tvs, bf]
      all_goals rfl
    · clear hZ1
      by_cases f2 : k2 = 0 ∧ val ds = 0
      · rw [decT f2] at hZ2 ⊢
        rw [if_neg (show ¬ (!false && !true) = true by decide)]
        refine RetN_start Tryz.func143 (by kernel_rfl) rfl fun Q hQ hQ2 => ?_; rw [Tryz.ntmps143]; simp only [u, i64, Nat.reduceSub, Nat.reduceAdd, bm]
        repeat (first | (refine gC ?_; first | refine aA ?_ | (refine cR hZ2 ?_; refine sX ?_; try refine aA ?_)) | (refine cR hZ2 ?_; refine sX ?_; try refine aA ?_) | refine gS ?_)
        (refine FinQ hQ (congrArg Array.toList Tryz.results143) _ _ ?_); simp (disch := omega) only [u, i64, ax, if_true, forall_const, reduceCtorEq, implies_true, tvs, bf]
        all_goals rfl
      · rw [decF f2] at hZ2 ⊢
        rw [if_pos (show (!false && !false) = true from rfl)]
        unfold dv
        simp only
        refine RetN_start Tryz.func143 (by kernel_rfl) rfl fun Q hQ hQ2 => ?_; rw [Tryz.ntmps143]; simp only [u, i64, Nat.reduceSub, Nat.reduceAdd, bm]
        repeat (first | (refine gC ?_; first | refine aA ?_ | (refine cR hZ2 ?_; refine sX ?_; try refine aA ?_)) | (refine cR hZ2 ?_; refine sX ?_; try refine aA ?_) | refine gS ?_)
        (refine FinQ hQ (congrArg Array.toList Tryz.results143) _ _ ?_); simp (disch := omega) only [u, i64, ax, if_true, forall_const, reduceCtorEq, implies_true, tvs, bf]
        all_goals rfl
  · by_cases a4 : k2 = 1
    · rw [if_pos (Or.inr (show k2.toNat = 1 by omega))]
      have f2 : ¬ (k2 = 0 ∧ val ds = 0) := fun h => by omega
      rw [decF f2] at hZ2 ⊢
      clear hM hZ2
      by_cases f1 : k1 = 0 ∧ val cs = 0
      · rw [decT f1] at hZ1 ⊢
        rw [if_neg (show ¬ (!true && !false) = true by decide)]
        refine RetN_start Tryz.func143 (by kernel_rfl) rfl fun Q hQ hQ2 => ?_; rw [Tryz.ntmps143]; simp only [u, i64, Nat.reduceSub, Nat.reduceAdd, bm]
        repeat (first | (refine gC ?_; first | refine aA ?_ | (refine cR hZ1 ?_; refine sX ?_; try refine aA ?_)) | (refine cR hZ1 ?_; refine sX ?_; try refine aA ?_) | refine gS ?_)
        (refine FinQ hQ (congrArg Array.toList Tryz.results143) _ _ ?_); simp (disch := omega) only [u, i64, ax, if_true, forall_const, reduceCtorEq, implies_true, tvs, bf]
        all_goals rfl
      · rw [decF f1] at hZ1 ⊢
        rw [if_pos (show (!false && !false) = true from rfl)]
        unfold dv
        simp only
        refine RetN_start Tryz.func143 (by kernel_rfl) rfl fun Q hQ hQ2 => ?_; rw [Tryz.ntmps143]; simp only [u, i64, Nat.reduceSub, Nat.reduceAdd, bm]
        repeat (first | (refine gC ?_; first | refine aA ?_ | (refine cR hZ1 ?_; refine sX ?_; try refine aA ?_)) | (refine cR hZ1 ?_; refine sX ?_; try refine aA ?_) | refine gS ?_)
        (refine FinQ hQ (congrArg Array.toList Tryz.results143) _ _ ?_); simp (disch := omega) only [u, i64, ax, if_true, forall_const, reduceCtorEq, implies_true, tvs, bf]
        all_goals rfl
    · rw [if_neg (show ¬ (k1.toNat = 1 ∨ k2.toNat = 1) by omega)]
      rw [if_pos rfl]
      clear hZ1 hZ2
      unfold dv
      simp only
      refine RetN_start Tryz.func143 (by kernel_rfl) rfl fun Q hQ hQ2 => ?_; rw [Tryz.ntmps143]; simp only [u, i64, Nat.reduceSub, Nat.reduceAdd, bm]
      repeat (first | (refine gC ?_; first | refine aA ?_ | (refine cR hM ?_; refine sX ?_; try refine aA ?_)) | (refine cR hM ?_; refine sX ?_; try refine aA ?_) | refine gS ?_)
      (refine FinQ hQ (congrArg Array.toList Tryz.results143) _ _ ?_); simp (disch := omega) only [u, i64, ax, if_true, forall_const, reduceCtorEq, implies_true, tvs, bf]
      all_goals rfl
/-- The product, finished. -/
theorem ret_Mul22 (p : Nat) (g : Int) (r : Nat) (hp : 1 ≤ p ∧ p ≤ 400) (hg : 1 ≤ g ∧ g ≤ 6000) (hr : r ≤ 4) (k1 e1 : Int) (n1 : Bool) (cs : List Nat) (k2 e2 : Int) (n2 : Bool) (ds : List Nat) (q1 : 0 ≤ k1 ∧ k1 ≤ 2) (q2 : 0 ≤ k2 ∧ k2 ≤ 2) (hc : Wd cs) (hd : Wd ds) (lc : cs.length ≤ 40) (ld : ds.length ≤ 40) (b1 : -6500 ≤ e1 ∧ e1 ≤ 6500) (b2 : -6500 ≤ e2 ∧ e2 ≤ 6500) :
    Ret Tryz.prog GEs 58 [cx p g r, .agg [i64 k1, .bool n1, ws cs, i64 e1], .agg [i64 k2, .bool n2, ws ds, i64 e2]] (.tup [dv (mulD p g r (mkD k1 n1 (val cs) e1) (mkD k2 n2 (val ds) e2)).1, i64 (mulD p g r (mkD k1 n1 (val cs) e1) (mkD k2 n2 (val ds) e2)).2]) := by
  have hP := ret_Product22 k1 e1 n1 cs k2 e2 n2 ds q1 q2 hc hd (by omega) (by omega) (by omega) (by omega)
  have l1 := length_words_val_le hc
  have l2 := length_words_val_le hd
  obtain ⟨t1, t2, t3, t4⟩ := timesD_len (mkD k1 n1 (val cs) e1) (mkD k2 n2 (val ds) e2) (by show k1.toNat ≤ 2; omega) (by show k2.toNat ≤ 2; omega) (by show (words (val cs)).length ≤ 40; omega) (by show (words (val ds)).length ≤ 40; omega) b1 b2
  unfold mulD
  generalize timesD (mkD k1 n1 (val cs) e1) (mkD k2 n2 (val ds) e2) = t at *
  obtain ⟨⟨k3, n3, c3, e3⟩, ok⟩ := t
  simp only at *
  cases ok with
  | false =>
    rw [if_neg (by decide)] at hP ⊢
    rw [dvz] at hP
    unfold nanD dv cx
    simp only
    refine RetN_start Tryz.func58 (by kernel_rfl) rfl fun Q hQ hQ2 => ?_; rw [Tryz.ntmps58]; simp only [u, i64, Nat.reduceSub, Nat.reduceAdd, bm]
    repeat (first | (refine gC ?_; first | refine aA ?_ | (refine cR hP ?_; refine sX ?_; try refine aA ?_)) | (refine cR hP ?_; refine sX ?_; try refine aA ?_) | refine gS ?_)
    (refine FinQ hQ (congrArg Array.toList Tryz.results58) _ _ ?_); simp (disch := omega) only [u, i64, ax, if_true, forall_const, reduceCtorEq, implies_true, tvs, bf]
    all_goals rfl
  | true =>
    rw [if_pos rfl] at hP ⊢
    have hPl := ret_Plus22 p g r hp hg hr k3 e3 n3 (words c3) (by omega) (Wd_words _) (by omega) (by omega)
    rw [val_words, show mkD (k3 : Int) n3 c3 e3 = ⟨k3, n3, c3, e3⟩ from rfl, show ws (words c3) = nat c3 from rfl] at hPl
    generalize plusD p g r ⟨k3, n3, c3, e3⟩ = y at *
    unfold dv cx at *
    simp only at *
    refine RetN_start Tryz.func58 (by kernel_rfl) rfl fun Q hQ hQ2 => ?_; rw [Tryz.ntmps58]; simp only [u, i64, Nat.reduceSub, Nat.reduceAdd, bm]
    repeat (first | (refine gC ?_; first | refine aA ?_ | ((first | refine cR hP ?_ | refine cR hPl ?_); refine sX ?_; try refine aA ?_)) | ((first | refine cR hP ?_ | refine cR hPl ?_); refine sX ?_; try refine aA ?_) | refine gS ?_)
    (refine FinQ hQ (congrArg Array.toList Tryz.results58) _ _ ?_); simp (disch := omega) only [u, i64, ax, if_true, forall_const, reduceCtorEq, implies_true, tvs, bf]
    all_goals rfl
/-- The product and a third number, added and finished. -/
theorem ret_Fused22 (p : Nat) (g : Int) (r : Nat) (hp : 1 ≤ p ∧ p ≤ 400) (hg : 1 ≤ g ∧ g ≤ 6000) (hr : r ≤ 4) (k1 e1 : Int) (n1 : Bool) (cs : List Nat) (k2 e2 : Int) (n2 : Bool) (ds : List Nat) (k3 e3 : Int) (n3 : Bool) (fs : List Nat) (q1 : 0 ≤ k1 ∧ k1 ≤ 2) (q2 : 0 ≤ k2 ∧ k2 ≤ 2) (q3 : 0 ≤ k3 ∧ k3 ≤ 2) (hc : Wd cs) (hd : Wd ds) (hf : Wd fs) (lc : cs.length ≤ 40) (ld : ds.length ≤ 40) (lf : fs.length ≤ 40) (b1 : -6500 ≤ e1 ∧ e1 ≤ 6500) (b2 : -6500 ≤ e2 ∧ e2 ≤ 6500) (b3 : -6500 ≤ e3 ∧ e3 ≤ 6500) :
    Ret Tryz.prog GEs 60 [cx p g r, .agg [i64 k1, .bool n1, ws cs, i64 e1], .agg [i64 k2, .bool n2, ws ds, i64 e2], .agg [i64 k3, .bool n3, ws fs, i64 e3]] (.tup [dv (fusedD p g r (mkD k1 n1 (val cs) e1) (mkD k2 n2 (val ds) e2) (mkD k3 n3 (val fs) e3)).1, i64 (fusedD p g r (mkD k1 n1 (val cs) e1) (mkD k2 n2 (val ds) e2) (mkD k3 n3 (val fs) e3)).2]) := by
  have hP := ret_Product22 k1 e1 n1 cs k2 e2 n2 ds q1 q2 hc hd (by omega) (by omega) (by omega) (by omega)
  have l1 := length_words_val_le hc
  have l2 := length_words_val_le hd
  obtain ⟨t1, t2, t3, t4⟩ := timesD_len (mkD k1 n1 (val cs) e1) (mkD k2 n2 (val ds) e2) (by show k1.toNat ≤ 2; omega) (by show k2.toNat ≤ 2; omega) (by show (words (val cs)).length ≤ 40; omega) (by show (words (val ds)).length ≤ 40; omega) b1 b2
  have hk3 : (mkD k3 n3 (val fs) e3).kind = 2 ↔ k3 = 2 := by show k3.toNat = 2 ↔ _; omega
  have hnan : k1 = 2 ∨ k2 = 2 → timesD (mkD k1 n1 (val cs) e1) (mkD k2 n2 (val ds) e2) = (nanD, true) := fun h => by
    unfold timesD
    rw [if_pos (show (mkD k1 n1 (val cs) e1).kind = 2 ∨ (mkD k2 n2 (val ds) e2).kind = 2 by show k1.toNat = 2 ∨ k2.toNat = 2; omega)]
  unfold fusedD
  by_cases a3 : k3 = 2
  · rw [if_pos (hk3.2 a3)]
    generalize timesD (mkD k1 n1 (val cs) e1) (mkD k2 n2 (val ds) e2) = t at *
    clear hnan hk3
    obtain ⟨t, ok⟩ := t
    unfold nanD
    have hP2 : ∃ v b, Ret Tryz.prog GEs 143 [.agg [i64 k1, .bool n1, ws cs, i64 e1], .agg [i64 k2, .bool n2, ws ds, i64 e2]] (.tup [dv v, .bool b]) := by
      cases ok with
      | true => rw [if_pos rfl] at hP; exact ⟨_, _, hP⟩
      | false => rw [if_neg Bool.false_ne_true] at hP; exact ⟨_, _, hP⟩
    obtain ⟨v, b, hP⟩ := hP2
    clear t1 t2 t3 t4
    unfold dv cx at *
    simp only
    by_cases a1 : k1 = 2
    · refine RetN_start Tryz.func60 (by kernel_rfl) rfl fun Q hQ hQ2 => ?_; rw [Tryz.ntmps60]; simp only [u, i64, Nat.reduceSub, Nat.reduceAdd, bm]
      repeat (first | (refine gC ?_; first | refine aA ?_ | (refine cR hP ?_; refine sX ?_; try refine aA ?_)) | (refine cR hP ?_; refine sX ?_; try refine aA ?_) | refine gS ?_)
      (refine FinQ hQ (congrArg Array.toList Tryz.results60) _ _ ?_); simp (disch := omega) only [u, i64, ax, if_true, forall_const, reduceCtorEq, implies_true, tvs, bf]
      all_goals rfl
    by_cases a2 : k2 = 2
    · refine RetN_start Tryz.func60 (by kernel_rfl) rfl fun Q hQ hQ2 => ?_; rw [Tryz.ntmps60]; simp only [u, i64, Nat.reduceSub, Nat.reduceAdd, bm]
      repeat (first | (refine gC ?_; first | refine aA ?_ | (refine cR hP ?_; refine sX ?_; try refine aA ?_)) | (refine cR hP ?_; refine sX ?_; try refine aA ?_) | refine gS ?_)
      (refine FinQ hQ (congrArg Array.toList Tryz.results60) _ _ ?_); simp (disch := omega) only [u, i64, ax, if_true, forall_const, reduceCtorEq, implies_true, tvs, bf]
      all_goals rfl
    · refine RetN_start Tryz.func60 (by kernel_rfl) rfl fun Q hQ hQ2 => ?_; rw [Tryz.ntmps60]; simp only [u, i64, Nat.reduceSub, Nat.reduceAdd, bm]
      repeat (first | (refine gC ?_; first | refine aA ?_ | (refine cR hP ?_; refine sX ?_; try refine aA ?_)) | (refine cR hP ?_; refine sX ?_; try refine aA ?_) | refine gS ?_)
      (refine FinQ hQ (congrArg Array.toList Tryz.results60) _ _ ?_); simp (disch := omega) only [u, i64, ax, if_true, forall_const, reduceCtorEq, implies_true, tvs, bf]
      all_goals rfl
  · rw [if_neg (fun h => a3 (hk3.1 h))]
    by_cases a12 : k1 = 2 ∨ k2 = 2
    · rw [hnan a12] at hP ⊢
      rw [if_pos rfl] at hP ⊢
      simp only
      have hadd : addD p g r nanD (mkD k3 n3 (val fs) e3) = (nanD, 0) := by unfold addD; rw [if_pos (show nanD.kind = 2 ∨ (mkD k3 n3 (val fs) e3).kind = 2 from Or.inl rfl)]
      rw [hadd]
      clear hadd hnan hk3 t1 t2 t3 t4
      unfold nanD dv cx at *
      simp only at *
      by_cases a1 : k1 = 2
      · refine RetN_start Tryz.func60 (by kernel_rfl) rfl fun Q hQ hQ2 => ?_; rw [Tryz.ntmps60]; simp only [u, i64, Nat.reduceSub, Nat.reduceAdd, bm]
        repeat (first | (refine gC ?_; first | refine aA ?_ | (refine cR hP ?_; refine sX ?_; try refine aA ?_)) | (refine cR hP ?_; refine sX ?_; try refine aA ?_) | refine gS ?_)
        (refine FinQ hQ (congrArg Array.toList Tryz.results60) _ _ ?_); simp (disch := omega) only [u, i64, ax, if_true, forall_const, reduceCtorEq, implies_true, tvs, bf]
        all_goals rfl
      · have a2 : k2 = 2 := by omega
        refine RetN_start Tryz.func60 (by kernel_rfl) rfl fun Q hQ hQ2 => ?_; rw [Tryz.ntmps60]; simp only [u, i64, Nat.reduceSub, Nat.reduceAdd, bm]
        repeat (first | (refine gC ?_; first | refine aA ?_ | (refine cR hP ?_; refine sX ?_; try refine aA ?_)) | (refine cR hP ?_; refine sX ?_; try refine aA ?_) | refine gS ?_)
        (refine FinQ hQ (congrArg Array.toList Tryz.results60) _ _ ?_); simp (disch := omega) only [u, i64, ax, if_true, forall_const, reduceCtorEq, implies_true, tvs, bf]
        all_goals rfl
    · have a1 : ¬ k1 = 2 := fun h => a12 (.inl h)
      have a2 : ¬ k2 = 2 := fun h => a12 (.inr h)
      clear hnan hk3
      generalize timesD (mkD k1 n1 (val cs) e1) (mkD k2 n2 (val ds) e2) = t at *
      obtain ⟨⟨k4, n4, c4, e4⟩, ok⟩ := t
      simp only at *
      cases ok with
      | false =>
        rw [if_neg (by decide)] at hP ⊢
        rw [dvz] at hP
        unfold nanD dv cx
        simp only
        refine RetN_start Tryz.func60 (by kernel_rfl) rfl fun Q hQ hQ2 => ?_; rw [Tryz.ntmps60]; simp only [u, i64, Nat.reduceSub, Nat.reduceAdd, bm]
        repeat (first | (refine gC ?_; first | refine aA ?_ | (refine cR hP ?_; refine sX ?_; try refine aA ?_)) | (refine cR hP ?_; refine sX ?_; try refine aA ?_) | refine gS ?_)
        (refine FinQ hQ (congrArg Array.toList Tryz.results60) _ _ ?_); simp (disch := omega) only [u, i64, ax, if_true, forall_const, reduceCtorEq, implies_true, tvs, bf]
        all_goals rfl
      | true =>
        rw [if_pos rfl] at hP ⊢
        have hS := ret_Sum22 p g r hp hg hr k4 e4 n4 (words c4) k3 e3 n3 fs (by omega) q3 (Wd_words _) hf (by omega) (by omega) (by omega) (by omega)
        rw [val_words, show mkD (k4 : Int) n4 c4 e4 = ⟨k4, n4, c4, e4⟩ from rfl, show ws (words c4) = nat c4 from rfl] at hS
        generalize addD p g r ⟨k4, n4, c4, e4⟩ (mkD k3 n3 (val fs) e3) = y at *
        unfold dv cx at *
        simp only at *
        refine RetN_start Tryz.func60 (by kernel_rfl) rfl fun Q hQ hQ2 => ?_; rw [Tryz.ntmps60]; simp only [u, i64, Nat.reduceSub, Nat.reduceAdd, bm]
        repeat (first | (refine gC ?_; first | refine aA ?_ | ((first | refine cR hP ?_ | refine cR hS ?_); refine sX ?_; try refine aA ?_)) | ((first | refine cR hP ?_ | refine cR hS ?_); refine sX ?_; try refine aA ?_) | refine gS ?_)
        (refine FinQ hQ (congrArg Array.toList Tryz.results60) _ _ ?_); simp (disch := omega) only [u, i64, ax, if_true, forall_const, reduceCtorEq, implies_true, tvs, bf]
        all_goals rfl
theorem ret_Minus22 (k e : Int) (neg : Bool) (cs : List Nat) (hc : Wd cs) (hl : cs.length ≤ 100000) : Ret Tryz.prog GEs 53 [.agg [i64 k, .bool neg, ws cs, i64 e]] (.agg [i64 k, .bool (!neg && decide (k ≠ 2)), nat (val cs), i64 e]) := by
  have hC := ret_Canonical22 k e neg cs hc hl
  generalize val cs = v at *
  by_cases h2 : k = 2
  · rw [decF (show ¬ k ≠ 2 from fun h => h h2), Bool.and_false]
    cases neg
    · refine RetN_start Tryz.func53 (by kernel_rfl) rfl fun Q hQ hQ2 => ?_; rw [Tryz.ntmps53]; simp only [u, i64, Nat.reduceSub, Nat.reduceAdd, bm]
      repeat (first | (refine gC ?_; first | refine aA ?_ | (refine cR hC ?_; refine sX ?_; try refine aA ?_)) | (refine cR hC ?_; refine sX ?_; try refine aA ?_) | refine gS ?_)
      (refine FinQ hQ (congrArg Array.toList Tryz.results53) _ _ ?_); simp (disch := omega) only [u, i64, ax, if_true, forall_const, reduceCtorEq, implies_true, tvs, bf]
      all_goals rfl
    · refine RetN_start Tryz.func53 (by kernel_rfl) rfl fun Q hQ hQ2 => ?_; rw [Tryz.ntmps53]; simp only [u, i64, Nat.reduceSub, Nat.reduceAdd, bm]
      repeat (first | (refine gC ?_; first | refine aA ?_ | (refine cR hC ?_; refine sX ?_; try refine aA ?_)) | (refine cR hC ?_; refine sX ?_; try refine aA ?_) | refine gS ?_)
      (refine FinQ hQ (congrArg Array.toList Tryz.results53) _ _ ?_); simp (disch := omega) only [u, i64, ax, if_true, forall_const, reduceCtorEq, implies_true, tvs, bf]
      all_goals rfl
  · rw [decT h2, Bool.and_true]
    cases neg
    · refine RetN_start Tryz.func53 (by kernel_rfl) rfl fun Q hQ hQ2 => ?_; rw [Tryz.ntmps53]; simp only [u, i64, Nat.reduceSub, Nat.reduceAdd, bm]
      repeat (first | (refine gC ?_; first | refine aA ?_ | (refine cR hC ?_; refine sX ?_; try refine aA ?_)) | (refine cR hC ?_; refine sX ?_; try refine aA ?_) | refine gS ?_)
      (refine FinQ hQ (congrArg Array.toList Tryz.results53) _ _ ?_); simp (disch := omega) only [u, i64, ax, if_true, forall_const, reduceCtorEq, implies_true, tvs, bf]
      all_goals rfl
    · refine RetN_start Tryz.func53 (by kernel_rfl) rfl fun Q hQ hQ2 => ?_; rw [Tryz.ntmps53]; simp only [u, i64, Nat.reduceSub, Nat.reduceAdd, bm]
      repeat (first | (refine gC ?_; first | refine aA ?_ | (refine cR hC ?_; refine sX ?_; try refine aA ?_)) | (refine cR hC ?_; refine sX ?_; try refine aA ?_) | refine gS ?_)
      (refine FinQ hQ (congrArg Array.toList Tryz.results53) _ _ ?_); simp (disch := omega) only [u, i64, ax, if_true, forall_const, reduceCtorEq, implies_true, tvs, bf]
      all_goals rfl
end Go.Proofs
