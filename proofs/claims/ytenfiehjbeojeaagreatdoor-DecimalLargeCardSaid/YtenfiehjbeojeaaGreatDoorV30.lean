/-
  Contracts of functions of the program, each proved by a walk.
-/
import Derived.Test.YtenfiehjbeojeaaGreatDoorV29
import Derived.Test.YtenfiehjbeojeaaGreatDoorV10
import Derived.Test.YtenfiehjbeojeaaGreatDoorV24
import Derived.Test.YtenfiehjbeojeaaGreatDoorV25
import Derived.Test.YtenfiehjbeojeaaGreatDoorV26
import Derived.Test.YtenfiehjbeojeaaGreatDoorV22
import Derived.Test.YtenfiehjbeojeaaGreatDoorV7
set_option maxRecDepth 100000
set_option linter.unusedVariables false
set_option linter.unusedSimpArgs false
set_option maxRecDepth 100000
namespace Go.Proofs
open Go.Ax
/-- A number with another exponent. -/
def quantN (r : Nat) (x : DV) (exp : Int) : Nat := if x.exp < exp then quoN r x.neg x.coef (10 ^ (exp - x.exp).toNat) else x.coef * 10 ^ (x.exp - exp).toNat
def quantX (x : DV) (exp : Int) : Bool := if x.exp < exp then decide (x.coef % 10 ^ (exp - x.exp).toNat = 0) else true
def quantD (p : Nat) (g : Int) (r : Nat) (x : DV) (exp : Int) : DV × Nat :=
  if x.kind = 2 then (x, 0)
  else if x.kind = 1 ∨ exp < 1 - g - (p - 1) ∨ g < exp then (nanD, 16)
  else if inD p g ⟨0, x.neg, quantN r x exp, exp⟩ then (⟨0, x.neg, quantN r x exp, exp⟩, if quantX x exp = true then 0 else 1)
  else (nanD, 16)
theorem quoN_small (r : Nat) (neg : Bool) (n d : Nat) : quoN r neg n d ≤ n + 1 := by
  unfold quoN
  have := Nat.div_le_self n d
  split <;> omega
set_option maxRecDepth 100000 in
set_option maxHeartbeats 4000000 in
theorem ret_DQuantize (p : Nat) (g : Int) (r : Nat) (hp : 1 ≤ p ∧ p ≤ 400) (hg : 1 ≤ g ∧ g ≤ 6000) (hr : r ≤ 4) (d : DI) (h1 : d.ok) (exp : Int) (he : -1000000 ≤ exp ∧ exp ≤ 1000000) :
    Ret Tryz.prog GEs 29 [cx p g r, d.av, i64 exp] (if d.okIn p g then .tup [dv (quantD p g r d.D exp).1, i64 (quantD p g r d.D exp).2, i64 0] else .tup [dv zD, i64 0, i64 221]) := by
  have hA := ret_Args1 p g r hp hg hr d h1
  by_cases h : d.okIn p g
  · rw [if_pos h] at hA ⊢
    obtain ⟨a1, a2, a3, a4⟩ := okIn_facts hp hg h
    have hl := d.len_le h1
    have hT := ret_tiny p g r hp hg
    have hdv := DI.dv_eq h.1
    rw [show d.av = .agg [i64 d.k, .bool d.neg, ws d.cs, i64 d.e] from rfl]
    have hA' : Ret Tryz.prog GEs 60 [cx p g r, .bool false, .lst 1 [i64 d.k, .bool d.neg, ws d.cs, i64 d.e]] (.tup [.lst 1 [i64 d.D.kind, .bool d.D.neg, nat d.D.coef, i64 d.D.exp], i64 0]) := by
      have hk : ((d.D.kind : Nat) : Int) = d.k := by show ((d.k.toNat : Nat) : Int) = d.k; have := (goodD_right h.1).2.1; omega
      rw [hk]; exact hA
    have hA := hA'
    clear hA' hdv
    generalize d.k = dk at *
    generalize d.neg = dn at *
    generalize d.cs = dc at *
    generalize d.e = de at *
    generalize d.D = x at *
    clear h
    obtain ⟨kd, ng, c, e⟩ := x
    simp only at *
    have hbn := bl_len c
    have tl : ∀ k : Nat, k ≤ 14000 → (words (10 ^ k)).length ≤ 900 := fun k hk => le_pow_words (ten_le k) (by omega)
    have hTT : 1 - g - ((p : Int) - 1) = 2 - g - p := by omega
    by_cases k2 : kd = 2
    · have e1 : quantD p g r ⟨kd, ng, c, e⟩ exp = (⟨kd, ng, c, e⟩, 0) := by unfold quantD; rw [if_pos k2]
      rw [e1]
      unfold dv cx at *
      simp only at *
      refine RetN_start Tryz.func29 (by kernel_rfl) rfl fun Q hQ hQ2 => ?_; rw [Tryz.ntmps29]; simp only [u, i64, Nat.reduceSub, Nat.reduceAdd, bm]
      (refine gO ?_)
      (refine gC ?_)
      simp (disch := omega) only [u, i64, ax, eq_self, if_true, if_false, Nat.reduceAdd, Int.reduceToNat, Int.reduceAdd, tvs, bs, Nat.reduceMul, List.take_succ_cons, List.take_zero, List.nil_append, List.cons_append, List.append_nil, Nat.reduceLeDiff]
      repeat (first | (refine gC ?_; first | refine aA ?_ | (refine cR hA ?_; refine sX ?_; try refine aA ?_)) | (refine cR hA ?_; refine sX ?_; try refine aA ?_) | refine gS ?_)
      (refine FinQ hQ (congrArg Array.toList Tryz.results29) _ _ ?_); simp (disch := omega) only [u, i64, ax, if_true, forall_const, reduceCtorEq, implies_true, tvs, bf]
      all_goals rfl
    · by_cases kx : kd = 1 ∨ exp < 1 - g - (p - 1) ∨ g < exp
      · have e1 : quantD p g r ⟨kd, ng, c, e⟩ exp = (nanD, 16) := by unfold quantD; rw [if_neg k2, if_pos kx]
        rw [e1]
        unfold nanD dv cx at *
        simp only at *
        by_cases k1 : kd = 1
        · skip
          refine RetN_start Tryz.func29 (by kernel_rfl) rfl fun Q hQ hQ2 => ?_; rw [Tryz.ntmps29]; simp only [u, i64, Nat.reduceSub, Nat.reduceAdd, bm]
          (refine gO ?_)
          (refine gC ?_)
          simp (disch := omega) only [u, i64, ax, eq_self, if_true, if_false, Nat.reduceAdd, Int.reduceToNat, Int.reduceAdd, tvs, bs, Nat.reduceMul, List.take_succ_cons, List.take_zero, List.nil_append, List.cons_append, List.append_nil, Nat.reduceLeDiff]
          repeat (first | (refine gC ?_; first | refine aA ?_ | (refine cR hA ?_; refine sX ?_; try refine aA ?_)) | (refine cR hA ?_; refine sX ?_; try refine aA ?_) | refine gS ?_)
          (refine FinQ hQ (congrArg Array.toList Tryz.results29) _ _ ?_); simp (disch := omega) only [u, i64, ax, if_true, forall_const, reduceCtorEq, implies_true, tvs, bf]
          all_goals rfl
        · by_cases kt : exp < 1 - g - (p - 1)
          · generalize 1 - g - ((p : Int) - 1) = T at *
            refine RetN_start Tryz.func29 (by kernel_rfl) rfl fun Q hQ hQ2 => ?_; rw [Tryz.ntmps29]; simp only [u, i64, Nat.reduceSub, Nat.reduceAdd, bm]
            (refine gO ?_)
            (refine gC ?_)
            simp (disch := omega) only [u, i64, ax, eq_self, if_true, if_false, Nat.reduceAdd, Int.reduceToNat, Int.reduceAdd, tvs, bs, Nat.reduceMul, List.take_succ_cons, List.take_zero, List.nil_append, List.cons_append, List.append_nil, Nat.reduceLeDiff]
            repeat (first | (refine gC ?_; first | refine aA ?_ | ((first | refine cR hA ?_ | refine cR hT ?_); refine sX ?_; try refine aA ?_)) | ((first | refine cR hA ?_ | refine cR hT ?_); refine sX ?_; try refine aA ?_) | refine gS ?_)
            (refine FinQ hQ (congrArg Array.toList Tryz.results29) _ _ ?_); simp (disch := omega) only [u, i64, ax, if_true, forall_const, reduceCtorEq, implies_true, tvs, bf]
            all_goals rfl
          · have kg : g < exp := by omega
            generalize 1 - g - ((p : Int) - 1) = T at *
            refine RetN_start Tryz.func29 (by kernel_rfl) rfl fun Q hQ hQ2 => ?_; rw [Tryz.ntmps29]; simp only [u, i64, Nat.reduceSub, Nat.reduceAdd, bm]
            (refine gO ?_)
            (refine gC ?_)
            simp (disch := omega) only [u, i64, ax, eq_self, if_true, if_false, Nat.reduceAdd, Int.reduceToNat, Int.reduceAdd, tvs, bs, Nat.reduceMul, List.take_succ_cons, List.take_zero, List.nil_append, List.cons_append, List.append_nil, Nat.reduceLeDiff]
            repeat (first | (refine gC ?_; first | refine aA ?_ | ((first | refine cR hA ?_ | refine cR hT ?_); refine sX ?_; try refine aA ?_)) | ((first | refine cR hA ?_ | refine cR hT ?_); refine sX ?_; try refine aA ?_) | refine gS ?_)
            (refine FinQ hQ (congrArg Array.toList Tryz.results29) _ _ ?_); simp (disch := omega) only [u, i64, ax, if_true, forall_const, reduceCtorEq, implies_true, tvs, bf]
            all_goals rfl
      · have k0 : kd = 0 := by omega
        have kt : ¬ exp < 1 - g - ((p : Int) - 1) := by omega
        have kg : ¬ g < exp := by omega
        have k1 : ¬ kd = 1 := by omega
        subst k0
        have hM0 : ∀ k : Nat, k ≤ 14000 → Ret Tryz.prog GEs 46 [nat c, nat (10 ^ k)] (nat (c * 10 ^ k)) := fun k hk => by
          have := ret_Mul (words c) (words (10 ^ k)) (Wd_words _) (Wd_words _) (by omega) (by have := tl k hk; omega)
          rwa [val_words, val_words] at this
        have hH : ∀ N : Nat, (words N).length ≤ 2000 → Ret Tryz.prog GEs 67 [cx p g r, .agg [i64 0, .bool ng, nat N, i64 exp]] (.bool (decide (inD p g ⟨0, ng, N, exp⟩))) := fun N hN => ret_holds p g r ⟨0, ng, N, exp⟩ hp hg (by show 0 ≤ 2; decide) hN (by show -3000000 ≤ exp ∧ exp ≤ 3000000; omega)
        by_cases hx : e < exp
        · have hcast : exp - e = (((exp - e).toNat : Nat) : Int) := by omega
          have hmax : max (0 : Int) (e - exp) = ((0 : Nat) : Int) := by omega
          have hT0 := ret_Ten 0 (by decide)
          have hM := hM0 0 (by decide)
          have hT2 := ret_Ten (exp - e).toNat (by omega)
          have hQu := ret_Quotient r hr ng (words c) (words (10 ^ (exp - e).toNat)) (Wd_words _) (Wd_words _) (by omega) (by have := tl (exp - e).toNat (by omega); omega) (by rw [val_words]; exact Nat.ne_of_gt (ten_pos _))
          rw [val_words, val_words] at hQu
          have hNl : (words (quoN r ng c (10 ^ (exp - e).toNat))).length ≤ 2000 := by
            have h1 := length_mono (quoN_small r ng c (10 ^ (exp - e).toNat))
            have h2 := length_add c 1
            have h3 : (words 1).length ≤ 1 := length_le (by decide)
            omega
          have hH := hH _ hNl
          have e1 : quantD p g r ⟨0, ng, c, e⟩ exp = if inD p g ⟨0, ng, quoN r ng c (10 ^ (exp - e).toNat), exp⟩ then (⟨0, ng, quoN r ng c (10 ^ (exp - e).toNat), exp⟩, if decide (c % 10 ^ (exp - e).toNat = 0) = true then 0 else 1) else (nanD, 16) := by
            unfold quantD quantN quantX
            simp only
            rw [if_neg k2, if_neg kx, if_pos hx, if_pos hx]
          rw [e1]
          generalize quoN r ng c (10 ^ (exp - e).toNat) = N at *
          generalize decide (c % 10 ^ (exp - e).toNat = 0) = ex at *
          generalize (exp - e).toNat = t at *
          generalize 10 ^ t = TT at *
          generalize c * 10 ^ 0 = M0 at *
          generalize 10 ^ 0 = T0 at *
          clear hM0 tl
          by_cases hin : inD p g ⟨0, ng, N, exp⟩
          · rw [decT hin] at hH
            rw [if_pos hin]
            cases ex with
            | true =>
              rw [if_pos rfl]
              clear hin e1
              unfold dv cx at *
              simp only at *
              generalize 1 - g - ((p : Int) - 1) = T at *
              refine RetN_start Tryz.func29 (by kernel_rfl) rfl fun Q hQ hQ2 => ?_; rw [Tryz.ntmps29]; simp only [u, i64, Nat.reduceSub, Nat.reduceAdd, bm]
              (refine gO ?_)
              (refine gC ?_)
              simp (disch := omega) only [u, i64, ax, eq_self, if_true, if_false, Nat.reduceAdd, Int.reduceToNat, Int.reduceAdd, tvs, bs, Nat.reduceMul, List.take_succ_cons, List.take_zero, List.nil_append, List.cons_append, List.append_nil, Nat.reduceLeDiff]
              repeat (first | (refine gC ?_; first | refine aA ?_ | ((first | refine cR hA ?_ | refine cR hT ?_ | refine cR hT0 ?_ | refine cR hM ?_); refine sX ?_; try refine aA ?_)) | ((first | refine cR hA ?_ | refine cR hT ?_ | refine cR hT0 ?_ | refine cR hM ?_); refine sX ?_; try refine aA ?_) | refine gS ?_)
              (refine gC ?_)
              rw [hcast]
              repeat (first | (refine gC ?_; first | refine aA ?_ | ((first | refine cR hT2 ?_ | refine cR hQu ?_ | refine cR hH ?_); refine sX ?_; try refine aA ?_)) | ((first | refine cR hT2 ?_ | refine cR hQu ?_ | refine cR hH ?_); refine sX ?_; try refine aA ?_) | refine gS ?_)
              (refine FinQ hQ (congrArg Array.toList Tryz.results29) _ _ ?_); simp (disch := omega) only [u, i64, ax, if_true, forall_const, reduceCtorEq, implies_true, tvs, bf]
              all_goals rfl
            | false =>
              rw [if_neg (by decide)]
              clear hin e1
              unfold dv cx at *
              simp only at *
              generalize 1 - g - ((p : Int) - 1) = T at *
              refine RetN_start Tryz.func29 (by kernel_rfl) rfl fun Q hQ hQ2 => ?_; rw [Tryz.ntmps29]; simp only [u, i64, Nat.reduceSub, Nat.reduceAdd, bm]
              (refine gO ?_)
              (refine gC ?_)
              simp (disch := omega) only [u, i64, ax, eq_self, if_true, if_false, Nat.reduceAdd, Int.reduceToNat, Int.reduceAdd, tvs, bs, Nat.reduceMul, List.take_succ_cons, List.take_zero, List.nil_append, List.cons_append, List.append_nil, Nat.reduceLeDiff]
              repeat (first | (refine gC ?_; first | refine aA ?_ | ((first | refine cR hA ?_ | refine cR hT ?_ | refine cR hT0 ?_ | refine cR hM ?_); refine sX ?_; try refine aA ?_)) | ((first | refine cR hA ?_ | refine cR hT ?_ | refine cR hT0 ?_ | refine cR hM ?_); refine sX ?_; try refine aA ?_) | refine gS ?_)
              (refine gC ?_)
              rw [hcast]
              repeat (first | (refine gC ?_; first | refine aA ?_ | ((first | refine cR hT2 ?_ | refine cR hQu ?_ | refine cR hH ?_); refine sX ?_; try refine aA ?_)) | ((first | refine cR hT2 ?_ | refine cR hQu ?_ | refine cR hH ?_); refine sX ?_; try refine aA ?_) | refine gS ?_)
              (refine FinQ hQ (congrArg Array.toList Tryz.results29) _ _ ?_); simp (disch := omega) only [u, i64, ax, if_true, forall_const, reduceCtorEq, implies_true, tvs, bf]
              all_goals rfl
          · rw [decF hin] at hH
            rw [if_neg hin]
            clear hin e1
            unfold nanD dv cx at *
            simp only at *
            generalize 1 - g - ((p : Int) - 1) = T at *
            refine RetN_start Tryz.func29 (by kernel_rfl) rfl fun Q hQ hQ2 => ?_; rw [Tryz.ntmps29]; simp only [u, i64, Nat.reduceSub, Nat.reduceAdd, bm]
            (refine gO ?_)
            (refine gC ?_)
            simp (disch := omega) only [u, i64, ax, eq_self, if_true, if_false, Nat.reduceAdd, Int.reduceToNat, Int.reduceAdd, tvs, bs, Nat.reduceMul, List.take_succ_cons, List.take_zero, List.nil_append, List.cons_append, List.append_nil, Nat.reduceLeDiff]
            repeat (first | (refine gC ?_; first | refine aA ?_ | ((first | refine cR hA ?_ | refine cR hT ?_ | refine cR hT0 ?_ | refine cR hM ?_); refine sX ?_; try refine aA ?_)) | ((first | refine cR hA ?_ | refine cR hT ?_ | refine cR hT0 ?_ | refine cR hM ?_); refine sX ?_; try refine aA ?_) | refine gS ?_)
            (refine gC ?_)
            rw [hcast]
            repeat (first | (refine gC ?_; first | refine aA ?_ | ((first | refine cR hT2 ?_ | refine cR hQu ?_ | refine cR hH ?_); refine sX ?_; try refine aA ?_)) | ((first | refine cR hT2 ?_ | refine cR hQu ?_ | refine cR hH ?_); refine sX ?_; try refine aA ?_) | refine gS ?_)
            (refine FinQ hQ (congrArg Array.toList Tryz.results29) _ _ ?_); simp (disch := omega) only [u, i64, ax, if_true, forall_const, reduceCtorEq, implies_true, tvs, bf]
            all_goals rfl
        · have hcast : e - exp = (((e - exp).toNat : Nat) : Int) := by omega
          have hT2 := ret_Ten (e - exp).toNat (by omega)
          have hM := hM0 (e - exp).toNat (by omega)
          have hNl : (words (c * 10 ^ (e - exp).toNat)).length ≤ 2000 := by
            have h1 := length_mul c (10 ^ (e - exp).toNat)
            have h2 := tl (e - exp).toNat (by omega)
            omega
          have hH := hH _ hNl
          have e1 : quantD p g r ⟨0, ng, c, e⟩ exp = if inD p g ⟨0, ng, c * 10 ^ (e - exp).toNat, exp⟩ then (⟨0, ng, c * 10 ^ (e - exp).toNat, exp⟩, 0) else (nanD, 16) := by
            unfold quantD quantN quantX
            simp only
            rw [if_neg k2, if_neg kx, if_neg hx, if_neg hx]
            rfl
          rw [e1]
          generalize c * 10 ^ (e - exp).toNat = N at *
          generalize (e - exp).toNat = t at *
          generalize 10 ^ t = TT at *
          clear hM0 tl
          by_cases hin : inD p g ⟨0, ng, N, exp⟩
          · rw [decT hin] at hH
            rw [if_pos hin]
            clear hin e1
            unfold dv cx at *
            simp only at *
            generalize 1 - g - ((p : Int) - 1) = T at *
            refine RetN_start Tryz.func29 (by kernel_rfl) rfl fun Q hQ hQ2 => ?_; rw [Tryz.ntmps29]; simp only [u, i64, Nat.reduceSub, Nat.reduceAdd, bm]
            (refine gO ?_)
            (refine gC ?_)
            simp (disch := omega) only [u, i64, ax, eq_self, if_true, if_false, Nat.reduceAdd, Int.reduceToNat, Int.reduceAdd, tvs, bs, Nat.reduceMul, List.take_succ_cons, List.take_zero, List.nil_append, List.cons_append, List.append_nil, Nat.reduceLeDiff]
            repeat (first | (refine gC ?_; first | refine aA ?_ | ((first | refine cR hA ?_ | refine cR hT ?_); refine sX ?_; try refine aA ?_)) | ((first | refine cR hA ?_ | refine cR hT ?_); refine sX ?_; try refine aA ?_) | refine gS ?_)
            (refine gC ?_)
            rw [hcast]
            repeat (first | (refine gC ?_; first | refine aA ?_ | ((first | refine cR hT2 ?_ | refine cR hM ?_ | refine cR hH ?_); refine sX ?_; try refine aA ?_)) | ((first | refine cR hT2 ?_ | refine cR hM ?_ | refine cR hH ?_); refine sX ?_; try refine aA ?_) | refine gS ?_)
            (refine FinQ hQ (congrArg Array.toList Tryz.results29) _ _ ?_); simp (disch := omega) only [u, i64, ax, if_true, forall_const, reduceCtorEq, implies_true, tvs, bf]
            all_goals rfl
          · rw [decF hin] at hH
            rw [if_neg hin]
            clear hin e1
            unfold nanD dv cx at *
            simp only at *
            generalize 1 - g - ((p : Int) - 1) = T at *
            refine RetN_start Tryz.func29 (by kernel_rfl) rfl fun Q hQ hQ2 => ?_; rw [Tryz.ntmps29]; simp only [u, i64, Nat.reduceSub, Nat.reduceAdd, bm]
            (refine gO ?_)
            (refine gC ?_)
            simp (disch := omega) only [u, i64, ax, eq_self, if_true, if_false, Nat.reduceAdd, Int.reduceToNat, Int.reduceAdd, tvs, bs, Nat.reduceMul, List.take_succ_cons, List.take_zero, List.nil_append, List.cons_append, List.append_nil, Nat.reduceLeDiff]
            repeat (first | (refine gC ?_; first | refine aA ?_ | ((first | refine cR hA ?_ | refine cR hT ?_); refine sX ?_; try refine aA ?_)) | ((first | refine cR hA ?_ | refine cR hT ?_); refine sX ?_; try refine aA ?_) | refine gS ?_)
            (refine gC ?_)
            rw [hcast]
            repeat (first | (refine gC ?_; first | refine aA ?_ | ((first | refine cR hT2 ?_ | refine cR hM ?_ | refine cR hH ?_); refine sX ?_; try refine aA ?_)) | ((first | refine cR hT2 ?_ | refine cR hM ?_ | refine cR hH ?_); refine sX ?_; try refine aA ?_) | refine gS ?_)
            (refine FinQ hQ (congrArg Array.toList Tryz.results29) _ _ ?_); simp (disch := omega) only [u, i64, ax, if_true, forall_const, reduceCtorEq, implies_true, tvs, bf]
            all_goals rfl
  · rw [if_neg h] at hA ⊢
    rw [dvz]
    unfold DI.av cx at *
    refine RetN_start Tryz.func29 (by kernel_rfl) rfl fun Q hQ hQ2 => ?_; rw [Tryz.ntmps29]; simp only [u, i64, Nat.reduceSub, Nat.reduceAdd, bm]
    (refine gO ?_)
    (refine gC ?_)
    simp (disch := omega) only [u, i64, ax, eq_self, if_true, if_false, Nat.reduceAdd, Int.reduceToNat, Int.reduceAdd, tvs, bs, Nat.reduceMul, List.take_succ_cons, List.take_zero, List.nil_append, List.cons_append, List.append_nil, Nat.reduceLeDiff]
    repeat (first | (refine gC ?_; first | refine aA ?_ | (refine cR hA ?_; refine sX ?_; try refine aA ?_)) | (refine cR hA ?_; refine sX ?_; try refine aA ?_) | refine gS ?_)
    (refine FinQ hQ (congrArg Array.toList Tryz.results29) _ _ ?_); simp (disch := omega) only [u, i64, ax, if_true, forall_const, reduceCtorEq, implies_true, tvs, bf]
end Go.Proofs
set_option linter.unusedVariables false
set_option linter.unusedSimpArgs false
namespace Go.Proofs
open Go.Ax
end Go.Proofs
set_option linter.unusedVariables false
set_option linter.unusedSimpArgs false
set_option maxRecDepth 100000
namespace Go.Proofs
open Go.Ax
/-- Are two numbers the same? -/
def sameD (d c : DI) : Prop := d.good ∧ c.good ∧ d.k = c.k ∧ d.neg = c.neg ∧ d.e = c.e ∧ val d.cs = val c.cs
instance (d c : DI) : Decidable (sameD d c) := by unfold sameD; infer_instance
end Go.Proofs
set_option linter.unusedVariables false
set_option linter.unusedSimpArgs false
namespace Go.Proofs
open Go.Ax
end Go.Proofs
