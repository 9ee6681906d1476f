/-
  Contracts of functions of the program, each proved by a walk.
-/
import Derived.Test.YtenfiehjbeojeaaGreatDoorV27
import Derived.Test.YtenfiehjbeojeaaGreatDoorV25
set_option maxRecDepth 100000
set_option linter.unusedVariables false
set_option linter.unusedSimpArgs false
namespace Go.Proofs
open Go.Ax
def zD : DV := ⟨0, false, 0, 0⟩
theorem finD_shape (p : Nat) (g : Int) (r : Nat) (neg : Bool) (mag : Nat) (exp ideal : Int) : (finD p g r neg mag exp ideal).1.neg = neg ∧ ((finD p g r neg mag exp ideal).1.kind = 0 ∨ (finD p g r neg mag exp ideal).1.kind = 1 ∧ (finD p g r neg mag exp ideal).1.coef = 0 ∧ (finD p g r neg mag exp ideal).1.exp = 0) := by
  have ho : (overD p g r neg).neg = neg ∧ ((overD p g r neg).kind = 0 ∨ (overD p g r neg).kind = 1 ∧ (overD p g r neg).coef = 0 ∧ (overD p g r neg).exp = 0) := by
    unfold overD; split
    · exact ⟨rfl, .inl rfl⟩
    · exact ⟨rfl, .inr ⟨rfl, rfl, rfl⟩⟩
  unfold finD
  simp only
  split
  · exact ho
  · split
    · exact ⟨rfl, .inl rfl⟩
    · unfold ineD
      split
      · split
        · exact ho
        · exact ⟨rfl, .inl rfl⟩
      · split
        · exact ho
        · exact ⟨rfl, .inl rfl⟩
set_option maxRecDepth 100000 in
theorem ret_dFinish (p : Nat) (g : Int) (r : Nat) (neg : Bool) (mag : Nat) (exp ideal : Int) (hp : 1 ≤ p ∧ p ≤ 400) (hg : 1 ≤ g ∧ g ≤ 6000) (hr : r ≤ 4) (hl : (words mag).length ≤ 2000) (he : -3000000 ≤ exp ∧ exp ≤ 3000000) (hi : -3000000 ≤ ideal ∧ ideal ≤ 3000000) :
    Ret Tryz.prog GEs 53 [cx p g r, .bool neg, nat mag, i64 exp, .bool false, i64 ideal] (.tup [dv (finD0 p g r neg mag exp ideal).1, i64 (finD0 p g r neg mag exp ideal).2]) := by
  have hZ := ret_Zero (words mag) (Wd_words _) (by omega)
  rw [val_words] at hZ
  have hT := ret_tiny p g r hp hg
  unfold finD0
  by_cases hm : mag = 0
  · rw [decT hm] at hZ
    rw [if_pos hm]
    have hT1 : -7000 ≤ 1 - g - ((p : Int) - 1) ∧ 1 - g - ((p : Int) - 1) ≤ 0 := by omega
    unfold dv cx at *
    simp only
    generalize 1 - g - ((p : Int) - 1) = T at *
    refine RetN_start Tryz.func53 (by kernel_rfl) rfl fun Q hQ hQ2 => ?_; rw [Tryz.ntmps53]; simp only [u, i64, Nat.reduceSub, Nat.reduceAdd, bm]
    repeat (first | (refine gC ?_; first | refine aA ?_ | ((first | refine cR hZ ?_ | refine cR hT ?_); refine sX ?_; try refine aA ?_)) | ((first | refine cR hZ ?_ | refine cR hT ?_); refine sX ?_; try refine aA ?_) | refine gS ?_)
    (refine FinQ hQ (congrArg Array.toList Tryz.results53) _ _ ?_); simp (disch := omega) only [u, i64, ax, if_true, forall_const, reduceCtorEq, implies_true, tvs, bf]
    all_goals rfl
  · rw [decF hm] at hZ
    rw [if_neg hm]
    have hF := ret_finFinish p g r neg mag exp ideal hp hg hr hm hl he hi
    obtain ⟨s1, s2⟩ := finD_shape p g r neg mag exp ideal
    generalize finD p g r neg mag exp ideal = y at *
    obtain ⟨⟨kd, ng, c, e⟩, fl⟩ := y
    simp only at *
    subst s1
    unfold fdv dv cx at *
    simp only at *
    rcases s2 with rfl | ⟨rfl, rfl, rfl⟩
    · refine RetN_start Tryz.func53 (by kernel_rfl) rfl fun Q hQ hQ2 => ?_; rw [Tryz.ntmps53]; simp only [u, i64, Nat.reduceSub, Nat.reduceAdd, bm]
      repeat (first | (refine gC ?_; first | refine aA ?_ | ((first | refine cR hZ ?_ | refine cR hF ?_); refine sX ?_; try refine aA ?_)) | ((first | refine cR hZ ?_ | refine cR hF ?_); refine sX ?_; try refine aA ?_) | refine gS ?_)
      (refine FinQ hQ (congrArg Array.toList Tryz.results53) _ _ ?_); simp (disch := omega) only [u, i64, ax, if_true, forall_const, reduceCtorEq, implies_true, tvs, bf]
      all_goals rfl
    · refine RetN_start Tryz.func53 (by kernel_rfl) rfl fun Q hQ hQ2 => ?_; rw [Tryz.ntmps53]; simp only [u, i64, Nat.reduceSub, Nat.reduceAdd, bm]
      repeat (first | (refine gC ?_; first | refine aA ?_ | ((first | refine cR hZ ?_ | refine cR hF ?_); refine sX ?_; try refine aA ?_)) | ((first | refine cR hZ ?_ | refine cR hF ?_); refine sX ?_; try refine aA ?_) | refine gS ?_)
      (refine FinQ hQ (congrArg Array.toList Tryz.results53) _ _ ?_); simp (disch := omega) only [u, i64, ax, if_true, forall_const, reduceCtorEq, implies_true, tvs, bf]
      all_goals rfl
end Go.Proofs
set_option linter.unusedVariables false
set_option linter.unusedSimpArgs false
namespace Go.Proofs
open Go.Ax
set_option maxRecDepth 100000 in
set_option maxHeartbeats 2000000 in
theorem ret_dadd (p : Nat) (g : Int) (r : Nat) (x y : DV) (hp : 1 ≤ p ∧ p ≤ 400) (hg : 1 ≤ g ∧ g ≤ 6000) (hr : r ≤ 4) (hx : x.kind ≤ 2) (hy : y.kind ≤ 2) (lx : (words x.coef).length ≤ 90) (ly : (words y.coef).length ≤ 90) (ex : -13000 ≤ x.exp ∧ x.exp ≤ 13000) (ey : -13000 ≤ y.exp ∧ y.exp ≤ 13000) :
    Ret Tryz.prog GEs 57 [cx p g r, dv x, dv y] (.tup [dv (addD p g r x y).1, i64 (addD p g r x y).2]) := by
  obtain ⟨k1, n1, c1, e1⟩ := x
  obtain ⟨k2, n2, c2, e2⟩ := y
  simp only at *
  unfold addD nanD
  simp only
  by_cases a1 : k1 = 2
  · rw [if_pos (Or.inl a1)]
    unfold dv cx
    simp only
    refine RetN_start Tryz.func57 (by kernel_rfl) rfl fun Q hQ hQ2 => ?_; rw [Tryz.ntmps57]; simp only [u, i64, Nat.reduceSub, Nat.reduceAdd, bm]
    (refine gO ?_)
    (refine FinQ hQ (congrArg Array.toList Tryz.results57) _ _ ?_); simp (disch := omega) only [u, i64, ax, if_true, forall_const, reduceCtorEq, implies_true, tvs, bf]
    all_goals rfl
  by_cases a2 : k2 = 2
  · rw [if_pos (Or.inr a2)]
    unfold dv cx
    simp only
    refine RetN_start Tryz.func57 (by kernel_rfl) rfl fun Q hQ hQ2 => ?_; rw [Tryz.ntmps57]; simp only [u, i64, Nat.reduceSub, Nat.reduceAdd, bm]
    (refine gO ?_)
    (refine FinQ hQ (congrArg Array.toList Tryz.results57) _ _ ?_); simp (disch := omega) only [u, i64, ax, if_true, forall_const, reduceCtorEq, implies_true, tvs, bf]
    all_goals rfl
  rw [if_neg (fun h => by omega)]
  by_cases a3 : k1 = 1
  · by_cases a4 : k2 = 1
    · by_cases a5 : n1 = n2
      · have hb : (n1 != n2) = false := by subst a5; cases n1 <;> rfl
        rw [if_neg (fun h => h.2.2 a5), if_pos a3]
        unfold dv cx
        simp only
        cases n1 <;> cases n2 <;> first | (cases a5; done) | skip
        · skip
          refine RetN_start Tryz.func57 (by kernel_rfl) rfl fun Q hQ hQ2 => ?_; rw [Tryz.ntmps57]; simp only [u, i64, Nat.reduceSub, Nat.reduceAdd, bm]
          (refine gO ?_)
          (refine FinQ hQ (congrArg Array.toList Tryz.results57) _ _ ?_); simp (disch := omega) only [u, i64, ax, if_true, forall_const, reduceCtorEq, implies_true, tvs, bf]
          all_goals rfl
        · skip
          refine RetN_start Tryz.func57 (by kernel_rfl) rfl fun Q hQ hQ2 => ?_; rw [Tryz.ntmps57]; simp only [u, i64, Nat.reduceSub, Nat.reduceAdd, bm]
          (refine gO ?_)
          (refine FinQ hQ (congrArg Array.toList Tryz.results57) _ _ ?_); simp (disch := omega) only [u, i64, ax, if_true, forall_const, reduceCtorEq, implies_true, tvs, bf]
          all_goals rfl
      · rw [if_pos ⟨a3, a4, a5⟩]
        unfold dv cx
        simp only
        cases n1 <;> cases n2
        · exact absurd rfl a5
        · skip
          refine RetN_start Tryz.func57 (by kernel_rfl) rfl fun Q hQ hQ2 => ?_; rw [Tryz.ntmps57]; simp only [u, i64, Nat.reduceSub, Nat.reduceAdd, bm]
          (refine gO ?_)
          (refine FinQ hQ (congrArg Array.toList Tryz.results57) _ _ ?_); simp (disch := omega) only [u, i64, ax, if_true, forall_const, reduceCtorEq, implies_true, tvs, bf]
          all_goals rfl
        · skip
          refine RetN_start Tryz.func57 (by kernel_rfl) rfl fun Q hQ hQ2 => ?_; rw [Tryz.ntmps57]; simp only [u, i64, Nat.reduceSub, Nat.reduceAdd, bm]
          (refine gO ?_)
          (refine FinQ hQ (congrArg Array.toList Tryz.results57) _ _ ?_); simp (disch := omega) only [u, i64, ax, if_true, forall_const, reduceCtorEq, implies_true, tvs, bf]
          all_goals rfl
        · exact absurd rfl a5
    · rw [if_neg (fun h => a4 h.2.1), if_pos a3]
      unfold dv cx
      simp only
      refine RetN_start Tryz.func57 (by kernel_rfl) rfl fun Q hQ hQ2 => ?_; rw [Tryz.ntmps57]; simp only [u, i64, Nat.reduceSub, Nat.reduceAdd, bm]
      (refine gO ?_)
      (refine FinQ hQ (congrArg Array.toList Tryz.results57) _ _ ?_); simp (disch := omega) only [u, i64, ax, if_true, forall_const, reduceCtorEq, implies_true, tvs, bf]
      all_goals rfl
  · rw [if_neg (fun h => a3 h.1), if_neg a3]
    by_cases a4 : k2 = 1
    · rw [if_pos a4]
      unfold dv cx
      simp only
      refine RetN_start Tryz.func57 (by kernel_rfl) rfl fun Q hQ hQ2 => ?_; rw [Tryz.ntmps57]; simp only [u, i64, Nat.reduceSub, Nat.reduceAdd, bm]
      (refine gO ?_)
      (refine FinQ hQ (congrArg Array.toList Tryz.results57) _ _ ?_); simp (disch := omega) only [u, i64, ax, if_true, forall_const, reduceCtorEq, implies_true, tvs, bf]
      all_goals rfl
    · rw [if_neg a4]
      have hbx := bl_len c1
      have hby := bl_len c2
      have hTx := ret_Ten (e1 - min e1 e2).toNat (by omega)
      have hTy := ret_Ten (e2 - min e1 e2).toNat (by omega)
      have tl : ∀ k : Nat, k ≤ 26000 → (words (10 ^ k)).length ≤ 1626 := fun k hk => le_pow_words (ten_le k) (by omega)
      have tx := tl (e1 - min e1 e2).toNat (by omega)
      have ty := tl (e2 - min e1 e2).toNat (by omega)
      have hcx : e1 - min e1 e2 = (((e1 - min e1 e2).toNat : Nat) : Int) := by omega
      have hcy : e2 - min e1 e2 = (((e2 - min e1 e2).toNat : Nat) : Int) := by omega
      have hMx := ret_Mul (words c1) (words (10 ^ (e1 - min e1 e2).toNat)) (Wd_words _) (Wd_words _) (by omega) (by omega)
      have hMy := ret_Mul (words c2) (words (10 ^ (e2 - min e1 e2).toNat)) (Wd_words _) (Wd_words _) (by omega) (by omega)
      rw [val_words, val_words] at hMx hMy
      have mx := length_mul c1 (10 ^ (e1 - min e1 e2).toNat)
      have my := length_mul c2 (10 ^ (e2 - min e1 e2).toNat)
      generalize c1 * 10 ^ (e1 - min e1 e2).toNat = A at *
      generalize c2 * 10 ^ (e2 - min e1 e2).toNat = B at *
      have hC := ret_Cmp (words A) (words B) (Wd_words _) (Wd_words _) (by omega) (by omega)
      rw [val_words, val_words] at hC
      have hs := cmpI_sign A B
      have sl : (words (sumM n1 A n2 B)).length ≤ 2000 := by
        have h1 := length_add A B
        have h2 : sumM n1 A n2 B ≤ A + B := by unfold sumM; split <;> (try split) <;> omega
        have := length_mono h2
        omega
      have hF := fun ng => ret_dFinish p g r ng (sumM n1 A n2 B) (min e1 e2) (min e1 e2) hp hg hr sl (by omega) (by omega)
      generalize hE : min e1 e2 = E at *
      generalize (e1 - E).toNat = t1 at *
      generalize (e2 - E).toNat = t2 at *
      generalize 10 ^ t1 = T1 at *
      generalize 10 ^ t2 = T2 at *
      by_cases a5 : n1 = n2
      · subst a5
        have e1' : sumN r n1 A n1 B = n1 := by unfold sumN; rw [if_pos rfl]
        have e2' : sumM n1 A n1 B = A + B := by unfold sumM; rw [if_pos rfl]
        rw [e1']
        rw [e2'] at hF ⊢
        have hF := hF n1
        have hA := ret_Add (words A) (words B) (Wd_words _) (Wd_words _) (by omega) (by omega)
        rw [val_words, val_words] at hA
        generalize cmpI A B = cc at *
        generalize finD0 p g r n1 (A + B) E E = z at *
        generalize A + B = S at *
        clear sl hs
        unfold dv cx at *
        simp only at *
        cases n1
        · skip
          refine RetN_start Tryz.func57 (by kernel_rfl) rfl fun Q hQ hQ2 => ?_; rw [Tryz.ntmps57]; simp only [u, i64, Nat.reduceSub, Nat.reduceAdd, bm]
          (refine gO ?_)
          (refine gC ?_)
          rw [hE, hcx]
          repeat (first | (refine gC ?_; first | refine aA ?_ | ((first | refine cR hTx ?_ | refine cR hMx ?_); refine sX ?_; try refine aA ?_)) | ((first | refine cR hTx ?_ | refine cR hMx ?_); refine sX ?_; try refine aA ?_) | refine gS ?_)
          (refine gC ?_)
          rw [hcy]
          repeat (first | (refine gC ?_; first | refine aA ?_ | ((first | refine cR hTy ?_ | refine cR hMy ?_ | refine cR hC ?_ | refine cR hA ?_ | refine cR hF ?_); refine sX ?_; try refine aA ?_)) | ((first | refine cR hTy ?_ | refine cR hMy ?_ | refine cR hC ?_ | refine cR hA ?_ | refine cR hF ?_); refine sX ?_; try refine aA ?_) | refine gS ?_)
          (refine FinQ hQ (congrArg Array.toList Tryz.results57) _ _ ?_); simp (disch := omega) only [u, i64, ax, if_true, forall_const, reduceCtorEq, implies_true, tvs, bf]
          all_goals rfl
        · skip
          refine RetN_start Tryz.func57 (by kernel_rfl) rfl fun Q hQ hQ2 => ?_; rw [Tryz.ntmps57]; simp only [u, i64, Nat.reduceSub, Nat.reduceAdd, bm]
          (refine gO ?_)
          (refine gC ?_)
          rw [hE, hcx]
          repeat (first | (refine gC ?_; first | refine aA ?_ | ((first | refine cR hTx ?_ | refine cR hMx ?_); refine sX ?_; try refine aA ?_)) | ((first | refine cR hTx ?_ | refine cR hMx ?_); refine sX ?_; try refine aA ?_) | refine gS ?_)
          (refine gC ?_)
          rw [hcy]
          repeat (first | (refine gC ?_; first | refine aA ?_ | ((first | refine cR hTy ?_ | refine cR hMy ?_ | refine cR hC ?_ | refine cR hA ?_ | refine cR hF ?_); refine sX ?_; try refine aA ?_)) | ((first | refine cR hTy ?_ | refine cR hMy ?_ | refine cR hC ?_ | refine cR hA ?_ | refine cR hF ?_); refine sX ?_; try refine aA ?_) | refine gS ?_)
          (refine FinQ hQ (congrArg Array.toList Tryz.results57) _ _ ?_); simp (disch := omega) only [u, i64, ax, if_true, forall_const, reduceCtorEq, implies_true, tvs, bf]
          all_goals rfl
      · have hb : (n1 == n2) = false := by cases n1 <;> cases n2 <;> simp_all
        unfold sumN sumM at *
        rw [if_neg a5] at hF sl
        rw [if_neg a5, if_neg a5]
        rcases Nat.lt_trichotomy A B with hlt | heq | hgt
        · have h1 : ¬ B < A := by omega
          have hcc : cmpI A B < 0 := hs.2.1.2 hlt
          rw [if_neg h1] at hF sl
          rw [if_neg h1, if_neg h1, if_pos hlt]
          have hF := hF n2
          have hA := ret_Sub (words B) (words A) (Wd_words _) (Wd_words _) (by omega) (by omega) (by rw [val_words, val_words]; omega)
          rw [val_words, val_words] at hA
          generalize cmpI A B = cc at *
          generalize finD0 p g r n2 (B - A) E E = z at *
          generalize B - A = S at *
          clear sl hs
          unfold dv cx at *
          simp only at *
          cases n1 <;> cases n2
          · exact absurd rfl a5
          · skip
            refine RetN_start Tryz.func57 (by kernel_rfl) rfl fun Q hQ hQ2 => ?_; rw [Tryz.ntmps57]; simp only [u, i64, Nat.reduceSub, Nat.reduceAdd, bm]
            (refine gO ?_)
            (refine gC ?_)
            rw [hE, hcx]
            repeat (first | (refine gC ?_; first | refine aA ?_ | ((first | refine cR hTx ?_ | refine cR hMx ?_); refine sX ?_; try refine aA ?_)) | ((first | refine cR hTx ?_ | refine cR hMx ?_); refine sX ?_; try refine aA ?_) | refine gS ?_)
            (refine gC ?_)
            rw [hcy]
            repeat (first | (refine gC ?_; first | refine aA ?_ | ((first | refine cR hTy ?_ | refine cR hMy ?_ | refine cR hC ?_ | refine cR hA ?_ | refine cR hF ?_); refine sX ?_; try refine aA ?_)) | ((first | refine cR hTy ?_ | refine cR hMy ?_ | refine cR hC ?_ | refine cR hA ?_ | refine cR hF ?_); refine sX ?_; try refine aA ?_) | refine gS ?_)
            (refine FinQ hQ (congrArg Array.toList Tryz.results57) _ _ ?_); simp (disch := omega) only [u, i64, ax, if_true, forall_const, reduceCtorEq, implies_true, tvs, bf]
            all_goals rfl
          · skip
            refine RetN_start Tryz.func57 (by kernel_rfl) rfl fun Q hQ hQ2 => ?_; rw [Tryz.ntmps57]; simp only [u, i64, Nat.reduceSub, Nat.reduceAdd, bm]
            (refine gO ?_)
            (refine gC ?_)
            rw [hE, hcx]
            repeat (first | (refine gC ?_; first | refine aA ?_ | ((first | refine cR hTx ?_ | refine cR hMx ?_); refine sX ?_; try refine aA ?_)) | ((first | refine cR hTx ?_ | refine cR hMx ?_); refine sX ?_; try refine aA ?_) | refine gS ?_)
            (refine gC ?_)
            rw [hcy]
            repeat (first | (refine gC ?_; first | refine aA ?_ | ((first | refine cR hTy ?_ | refine cR hMy ?_ | refine cR hC ?_ | refine cR hA ?_ | refine cR hF ?_); refine sX ?_; try refine aA ?_)) | ((first | refine cR hTy ?_ | refine cR hMy ?_ | refine cR hC ?_ | refine cR hA ?_ | refine cR hF ?_); refine sX ?_; try refine aA ?_) | refine gS ?_)
            (refine FinQ hQ (congrArg Array.toList Tryz.results57) _ _ ?_); simp (disch := omega) only [u, i64, ax, if_true, forall_const, reduceCtorEq, implies_true, tvs, bf]
            all_goals rfl
          · exact absurd rfl a5
        · subst heq
          have h1 : ¬ A < A := Nat.lt_irrefl _
          have hcc : cmpI A A = 0 := hs.2.2.1.2 rfl
          rw [if_neg h1, Nat.sub_self] at hF sl
          rw [if_neg h1, if_neg h1, if_neg h1, Nat.sub_self]
          have hF := hF (decide (r = 4))
          rw [hcc] at hC
          have hr5 : r = 0 ∨ r = 1 ∨ r = 2 ∨ r = 3 ∨ r = 4 := by omega
          by_cases h4 : r = 4
          · subst h4
            rw [decT rfl] at hF ⊢
            have hF := Ret_nil (args' := [cx p g 4, .bool true, .emp, i64 E, .bool false, i64 E]) hF rfl
            generalize finD0 p g 4 true 0 E E = z at *
            clear sl hs
            unfold dv cx at *
            simp only at *
            cases n1 <;> cases n2
            · exact absurd rfl a5
            · skip
              refine RetN_start Tryz.func57 (by kernel_rfl) rfl fun Q hQ hQ2 => ?_; rw [Tryz.ntmps57]; simp only [u, i64, Nat.reduceSub, Nat.reduceAdd, bm]
              (refine gO ?_)
              (refine gC ?_)
              rw [hE, hcx]
              repeat (first | (refine gC ?_; first | refine aA ?_ | ((first | refine cR hTx ?_ | refine cR hMx ?_); refine sX ?_; try refine aA ?_)) | ((first | refine cR hTx ?_ | refine cR hMx ?_); refine sX ?_; try refine aA ?_) | refine gS ?_)
              (refine gC ?_)
              rw [hcy]
              repeat (first | (refine gC ?_; first | refine aA ?_ | ((first | refine cR hTy ?_ | refine cR hMy ?_ | refine cR hC ?_ | refine cR hF ?_); refine sX ?_; try refine aA ?_)) | ((first | refine cR hTy ?_ | refine cR hMy ?_ | refine cR hC ?_ | refine cR hF ?_); refine sX ?_; try refine aA ?_) | refine gS ?_)
              (refine FinQ hQ (congrArg Array.toList Tryz.results57) _ _ ?_); simp (disch := omega) only [u, i64, ax, if_true, forall_const, reduceCtorEq, implies_true, tvs, bf]
              all_goals rfl
            · skip
              refine RetN_start Tryz.func57 (by kernel_rfl) rfl fun Q hQ hQ2 => ?_; rw [Tryz.ntmps57]; simp only [u, i64, Nat.reduceSub, Nat.reduceAdd, bm]
              (refine gO ?_)
              (refine gC ?_)
              rw [hE, hcx]
              repeat (first | (refine gC ?_; first | refine aA ?_ | ((first | refine cR hTx ?_ | refine cR hMx ?_); refine sX ?_; try refine aA ?_)) | ((first | refine cR hTx ?_ | refine cR hMx ?_); refine sX ?_; try refine aA ?_) | refine gS ?_)
              (refine gC ?_)
              rw [hcy]
              repeat (first | (refine gC ?_; first | refine aA ?_ | ((first | refine cR hTy ?_ | refine cR hMy ?_ | refine cR hC ?_ | refine cR hF ?_); refine sX ?_; try refine aA ?_)) | ((first | refine cR hTy ?_ | refine cR hMy ?_ | refine cR hC ?_ | refine cR hF ?_); refine sX ?_; try refine aA ?_) | refine gS ?_)
              (refine FinQ hQ (congrArg Array.toList Tryz.results57) _ _ ?_); simp (disch := omega) only [u, i64, ax, if_true, forall_const, reduceCtorEq, implies_true, tvs, bf]
              all_goals rfl
            · exact absurd rfl a5
          · rw [decF h4] at hF ⊢
            have hF := Ret_nil (args' := [cx p g r, .bool false, .emp, i64 E, .bool false, i64 E]) hF rfl
            generalize finD0 p g r false 0 E E = z at *
            clear sl hs
            unfold dv cx at *
            simp only at *
            cases n1 <;> cases n2
            · exact absurd rfl a5
            · skip
              refine RetN_start Tryz.func57 (by kernel_rfl) rfl fun Q hQ hQ2 => ?_; rw [Tryz.ntmps57]; simp only [u, i64, Nat.reduceSub, Nat.reduceAdd, bm]
              (refine gO ?_)
              (refine gC ?_)
              rw [hE, hcx]
              repeat (first | (refine gC ?_; first | refine aA ?_ | ((first | refine cR hTx ?_ | refine cR hMx ?_); refine sX ?_; try refine aA ?_)) | ((first | refine cR hTx ?_ | refine cR hMx ?_); refine sX ?_; try refine aA ?_) | refine gS ?_)
              (refine gC ?_)
              rw [hcy]
              repeat (first | (refine gC ?_; first | refine aA ?_ | ((first | refine cR hTy ?_ | refine cR hMy ?_ | refine cR hC ?_ | refine cR hF ?_); refine sX ?_; try refine aA ?_)) | ((first | refine cR hTy ?_ | refine cR hMy ?_ | refine cR hC ?_ | refine cR hF ?_); refine sX ?_; try refine aA ?_) | refine gS ?_)
              (refine FinQ hQ (congrArg Array.toList Tryz.results57) _ _ ?_); simp (disch := omega) only [u, i64, ax, if_true, forall_const, reduceCtorEq, implies_true, tvs, bf]
              all_goals rfl
            · skip
              refine RetN_start Tryz.func57 (by kernel_rfl) rfl fun Q hQ hQ2 => ?_; rw [Tryz.ntmps57]; simp only [u, i64, Nat.reduceSub, Nat.reduceAdd, bm]
              (refine gO ?_)
              (refine gC ?_)
              rw [hE, hcx]
              repeat (first | (refine gC ?_; first | refine aA ?_ | ((first | refine cR hTx ?_ | refine cR hMx ?_); refine sX ?_; try refine aA ?_)) | ((first | refine cR hTx ?_ | refine cR hMx ?_); refine sX ?_; try refine aA ?_) | refine gS ?_)
              (refine gC ?_)
              rw [hcy]
              repeat (first | (refine gC ?_; first | refine aA ?_ | ((first | refine cR hTy ?_ | refine cR hMy ?_ | refine cR hC ?_ | refine cR hF ?_); refine sX ?_; try refine aA ?_)) | ((first | refine cR hTy ?_ | refine cR hMy ?_ | refine cR hC ?_ | refine cR hF ?_); refine sX ?_; try refine aA ?_) | refine gS ?_)
              (refine FinQ hQ (congrArg Array.toList Tryz.results57) _ _ ?_); simp (disch := omega) only [u, i64, ax, if_true, forall_const, reduceCtorEq, implies_true, tvs, bf]
              all_goals rfl
            · exact absurd rfl a5
        · have h1 : ¬ A < B := by omega
          have hcc : 0 < cmpI A B := hs.2.2.2.2 hgt
          rw [if_pos hgt] at hF sl
          rw [if_pos hgt, if_pos hgt]
          have hF := hF n1
          have hA := ret_Sub (words A) (words B) (Wd_words _) (Wd_words _) (by omega) (by omega) (by rw [val_words, val_words]; omega)
          rw [val_words, val_words] at hA
          generalize cmpI A B = cc at *
          generalize finD0 p g r n1 (A - B) E E = z at *
          generalize A - B = S at *
          clear sl hs
          unfold dv cx at *
          simp only at *
          cases n1 <;> cases n2
          · exact absurd rfl a5
          · skip
            refine RetN_start Tryz.func57 (by kernel_rfl) rfl fun Q hQ hQ2 => ?_; rw [Tryz.ntmps57]; simp only [u, i64, Nat.reduceSub, Nat.reduceAdd, bm]
            (refine gO ?_)
            (refine gC ?_)
            rw [hE, hcx]
            repeat (first | (refine gC ?_; first | refine aA ?_ | ((first | refine cR hTx ?_ | refine cR hMx ?_); refine sX ?_; try refine aA ?_)) | ((first | refine cR hTx ?_ | refine cR hMx ?_); refine sX ?_; try refine aA ?_) | refine gS ?_)
            (refine gC ?_)
            rw [hcy]
            repeat (first | (refine gC ?_; first | refine aA ?_ | ((first | refine cR hTy ?_ | refine cR hMy ?_ | refine cR hC ?_ | refine cR hA ?_ | refine cR hF ?_); refine sX ?_; try refine aA ?_)) | ((first | refine cR hTy ?_ | refine cR hMy ?_ | refine cR hC ?_ | refine cR hA ?_ | refine cR hF ?_); refine sX ?_; try refine aA ?_) | refine gS ?_)
            (refine FinQ hQ (congrArg Array.toList Tryz.results57) _ _ ?_); simp (disch := omega) only [u, i64, ax, if_true, forall_const, reduceCtorEq, implies_true, tvs, bf]
            all_goals rfl
          · skip
            refine RetN_start Tryz.func57 (by kernel_rfl) rfl fun Q hQ hQ2 => ?_; rw [Tryz.ntmps57]; simp only [u, i64, Nat.reduceSub, Nat.reduceAdd, bm]
            (refine gO ?_)
            (refine gC ?_)
            rw [hE, hcx]
            repeat (first | (refine gC ?_; first | refine aA ?_ | ((first | refine cR hTx ?_ | refine cR hMx ?_); refine sX ?_; try refine aA ?_)) | ((first | refine cR hTx ?_ | refine cR hMx ?_); refine sX ?_; try refine aA ?_) | refine gS ?_)
            (refine gC ?_)
            rw [hcy]
            repeat (first | (refine gC ?_; first | refine aA ?_ | ((first | refine cR hTy ?_ | refine cR hMy ?_ | refine cR hC ?_ | refine cR hA ?_ | refine cR hF ?_); refine sX ?_; try refine aA ?_)) | ((first | refine cR hTy ?_ | refine cR hMy ?_ | refine cR hC ?_ | refine cR hA ?_ | refine cR hF ?_); refine sX ?_; try refine aA ?_) | refine gS ?_)
            (refine FinQ hQ (congrArg Array.toList Tryz.results57) _ _ ?_); simp (disch := omega) only [u, i64, ax, if_true, forall_const, reduceCtorEq, implies_true, tvs, bf]
            all_goals rfl
          · exact absurd rfl a5
end Go.Proofs
