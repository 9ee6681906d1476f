/-
  Contracts of functions of the program, each proved by a walk.
-/
import Derived.Test.YtpnljnmpocobjaaGreatDoorX17
import Derived.Test.YtpnljnmpocobjaaGreatDoorX12
set_option maxRecDepth 100000
set_option linter.unusedVariables false
set_option linter.unusedSimpArgs false
namespace Go.Proofs
open Go.Ax
/-- A fraction in lowest terms without sign. -/
theorem ret_NormC (n d : Nat) (hn : (words n).length ≤ 10000) (hd : (words d).length ≤ 10000) (hc : Nat.gcd n d = 1) (hd0 : d ≠ 0) : Ret Tryz.prog GEs 94 [.agg [.bool false, nat n, nat d]] (.agg [.bool false, nat n, nat d]) := by
  have h := ret_Norm false (words n) (words d) (Wd_words _) (Wd_words _) (by omega) (by omega) (by rw [val_words]; exact hd0)
  rw [val_words, val_words, hc, Nat.div_one, Nat.div_one, Bool.false_and] at h
  exact h
theorem ret_Make12 (n d : Nat) (hn : (words n).length ≤ 10000) (hd : (words d).length ≤ 10000) (hc : Nat.gcd n d = 1) (hd0 : d ≠ 0) : Ret Tryz.prog GEs 97 [.agg [.bool false, nat n], nat d] (.agg [.bool false, nat n, nat d]) := by
  have hN := ret_NormC n d hn hd hc hd0
  refine RetN_start Tryz.func97 (by kernel_rfl) rfl fun Q hQ hQ2 => ?_; rw [Tryz.ntmps97]; simp only [u, i64, Nat.reduceSub, Nat.reduceAdd, bm]
  repeat (first | ((first | refine Gs ?_ | refine Gr ?_); simp (disch := omega) only [u, i64, ax, eq_self, if_true, if_false, Nat.reduceAdd, Int.reduceToNat, Int.reduceAdd, tvs, bs]; first | refine aA ?_ | (refine cR hN ?_; simp (disch := omega) only [u, i64, ax, eq_self, if_true, if_false, Nat.reduceAdd, Int.reduceToNat, Int.reduceAdd, tvs, bs]; try refine aA ?_)) | (refine cR hN ?_; simp (disch := omega) only [u, i64, ax, eq_self, if_true, if_false, Nat.reduceAdd, Int.reduceToNat, Int.reduceAdd, tvs, bs]; try refine aA ?_) | refine G_seq ?_ | refine G_block ?_ | refine G_condT rfl ?_ | refine G_condF rfl ?_ | refine G_skip ?_ | refine G_ret ?_ | refine G_exit ?_ | refine q_tn ?_ | refine q_tr ?_ | refine q_tx ?_ | refine q_bn ?_ | refine q_br ?_ | refine q_bx ?_ | refine q_by (by decide) ?_)
  (refine FinQ hQ (congrArg Array.toList Tryz.results97) _ _ ?_); simp (disch := omega) only [u, i64, ax, if_true, forall_const, reduceCtorEq, implies_true, tvs, bf]
theorem ret_From03 : Ret Tryz.prog GEs 184 [i64 1] (.agg [.bool false, nat 1]) := by
  have hF := ret_rFromWord 1 (by decide)
  have hw1 : (words 1).length ≤ 1 := length_le (by decide)
  have hM := ret_Make false (words 1) (Wd_words _) (by omega)
  rw [Bool.false_and, val_words] at hM
  refine RetN_start Tryz.func184 (by kernel_rfl) rfl fun Q hQ hQ2 => ?_; rw [Tryz.ntmps184]; simp only [u, i64, Nat.reduceSub, Nat.reduceAdd, bm]
  repeat (first | ((first | refine Gs ?_ | refine Gr ?_); simp (disch := omega) only [u, i64, ax, eq_self, if_true, if_false, Nat.reduceAdd, Int.reduceToNat, Int.reduceAdd, tvs, bs]; first | refine aA ?_ | ((first | refine cR hF ?_ | refine cR hM ?_); simp (disch := omega) only [u, i64, ax, eq_self, if_true, if_false, Nat.reduceAdd, Int.reduceToNat, Int.reduceAdd, tvs, bs]; try refine aA ?_)) | ((first | refine cR hF ?_ | refine cR hM ?_); simp (disch := omega) only [u, i64, ax, eq_self, if_true, if_false, Nat.reduceAdd, Int.reduceToNat, Int.reduceAdd, tvs, bs]; try refine aA ?_) | refine G_seq ?_ | refine G_block ?_ | refine G_condT rfl ?_ | refine G_condF rfl ?_ | refine G_skip ?_ | refine G_ret ?_ | refine G_exit ?_ | refine q_tn ?_ | refine q_tr ?_ | refine q_tx ?_ | refine q_bn ?_ | refine q_br ?_ | refine q_bx ?_ | refine q_by (by decide) ?_)
  (refine FinQ hQ (congrArg Array.toList Tryz.results184) _ _ ?_); simp (disch := omega) only [u, i64, ax, if_true, forall_const, reduceCtorEq, implies_true, tvs, bf]
theorem ret_From11 : Ret Tryz.prog GEs 99 [i64 1] (.agg [.bool false, nat 1]) := by
  refine RetN_start Tryz.func99 (by kernel_rfl) rfl fun Q hQ hQ2 => ?_; rw [Tryz.ntmps99]; simp only [u, i64, Nat.reduceSub, Nat.reduceAdd, bm]
  repeat (first | ((first | refine Gs ?_ | refine Gr ?_); simp (disch := omega) only [u, i64, ax, eq_self, if_true, if_false, Nat.reduceAdd, Int.reduceToNat, Int.reduceAdd, tvs, bs]; first | refine aA ?_ | (refine cR ret_From03 ?_; simp (disch := omega) only [u, i64, ax, eq_self, if_true, if_false, Nat.reduceAdd, Int.reduceToNat, Int.reduceAdd, tvs, bs]; try refine aA ?_)) | (refine cR ret_From03 ?_; simp (disch := omega) only [u, i64, ax, eq_self, if_true, if_false, Nat.reduceAdd, Int.reduceToNat, Int.reduceAdd, tvs, bs]; try refine aA ?_) | refine G_seq ?_ | refine G_block ?_ | refine G_condT rfl ?_ | refine G_condF rfl ?_ | refine G_skip ?_ | refine G_ret ?_ | refine G_exit ?_ | refine q_tn ?_ | refine q_tr ?_ | refine q_tx ?_ | refine q_bn ?_ | refine q_br ?_ | refine q_bx ?_ | refine q_by (by decide) ?_)
  (refine FinQ hQ (congrArg Array.toList Tryz.results99) _ _ ?_); simp (disch := omega) only [u, i64, ax, if_true, forall_const, reduceCtorEq, implies_true, tvs, bf]
theorem ret_From12 : Ret Tryz.prog GEs 33 [i64 1, i64 1] (.agg [.bool false, nat 1, nat 1]) := by
  have hF := ret_rFromWord 1 (by decide)
  have hw1 : (words 1).length ≤ 1 := length_le (by decide)
  have hM := ret_Make12 1 1 (by omega) (by omega) (by decide) (by decide)
  refine RetN_start Tryz.func33 (by kernel_rfl) rfl fun Q hQ hQ2 => ?_; rw [Tryz.ntmps33]; simp only [u, i64, Nat.reduceSub, Nat.reduceAdd, bm]
  repeat (first | ((first | refine Gs ?_ | refine Gr ?_); simp (disch := omega) only [u, i64, ax, eq_self, if_true, if_false, Nat.reduceAdd, Int.reduceToNat, Int.reduceAdd, tvs, bs]; first | refine aA ?_ | ((first | refine cR ret_From11 ?_ | refine cR hF ?_ | refine cR hM ?_); simp (disch := omega) only [u, i64, ax, eq_self, if_true, if_false, Nat.reduceAdd, Int.reduceToNat, Int.reduceAdd, tvs, bs]; try refine aA ?_)) | ((first | refine cR ret_From11 ?_ | refine cR hF ?_ | refine cR hM ?_); simp (disch := omega) only [u, i64, ax, eq_self, if_true, if_false, Nat.reduceAdd, Int.reduceToNat, Int.reduceAdd, tvs, bs]; try refine aA ?_) | refine G_seq ?_ | refine G_block ?_ | refine G_condT rfl ?_ | refine G_condF rfl ?_ | refine G_skip ?_ | refine G_ret ?_ | refine G_exit ?_ | refine q_tn ?_ | refine q_tr ?_ | refine q_tx ?_ | refine q_bn ?_ | refine q_br ?_ | refine q_bx ?_ | refine q_by (by decide) ?_)
  (refine FinQ hQ (congrArg Array.toList Tryz.results33) _ _ ?_); simp (disch := omega) only [u, i64, ax, if_true, forall_const, reduceCtorEq, implies_true, tvs, bf]
set_option maxRecDepth 100000 in
theorem ret_Scale1 (s : Int) (h1 : -100000 ≤ s) (h2 : s ≤ 100000) : Ret Tryz.prog GEs 32 [.agg [.bool false, nat 1, nat 1], i64 s] (pw2 s) := by
  have hw1 : (words 1).length ≤ 1 := length_le (by decide)
  have hpl : ∀ t, t ≤ 100000 → (words (2 ^ t)).length ≤ 2000 := fun t ht => le_pow_words (Nat.le_refl _) (by omega)
  have hL := fun t (ht : t ≤ 100000) => ret_rLeft (words 1) t (Wd_words _) (by omega) (by omega)
  simp only [val_words, Nat.one_mul] at hL
  by_cases hs : s < 0
  · have e1 : s.toNat = 0 := by omega
    have e2 : 0 - s = (((-s).toNat : Nat) : Int) := by omega
    have hL := hL (-s).toNat (by omega)
    have hl := hpl (-s).toNat (by omega)
    rw [show pw2 s = .agg [.bool false, nat 1, nat (2 ^ (-s).toNat)] by unfold pw2; rw [e1]]
    generalize (-s).toNat = t at *
    have hM := ret_Make12 1 (2 ^ t) (by omega) (by omega) (Nat.gcd_one_left _) (Nat.ne_of_gt (Nat.two_pow_pos t))
    generalize 2 ^ t = P2 at *
    refine RetN_start Tryz.func32 (by kernel_rfl) rfl fun Q hQ hQ2 => ?_; rw [Tryz.ntmps32]; simp only [u, i64, Nat.reduceSub, Nat.reduceAdd, bm]
    repeat (first | ((first | refine Gs ?_ | refine Gr ?_); simp (disch := omega) only [u, i64, ax, eq_self, if_true, if_false, Nat.reduceAdd, Int.reduceToNat, Int.reduceAdd, tvs, bs]; refine aA ?_) | refine G_seq ?_ | refine G_block ?_ | refine G_condT rfl ?_ | refine G_condF rfl ?_ | refine G_skip ?_ | refine G_ret ?_ | refine G_exit ?_ | refine q_tn ?_ | refine q_tr ?_ | refine q_tx ?_ | refine q_bn ?_ | refine q_br ?_ | refine q_bx ?_ | refine q_by (by decide) ?_)
    ((first | refine Gs ?_ | refine Gr ?_); simp (disch := omega) only [u, i64, ax, eq_self, if_true, if_false, Nat.reduceAdd, Int.reduceToNat, Int.reduceAdd, tvs, bs])
    rw [e2]
    repeat (first | ((first | refine Gs ?_ | refine Gr ?_); simp (disch := omega) only [u, i64, ax, eq_self, if_true, if_false, Nat.reduceAdd, Int.reduceToNat, Int.reduceAdd, tvs, bs]; first | refine aA ?_ | ((first | refine cR hL ?_ | refine cR hM ?_); simp (disch := omega) only [u, i64, ax, eq_self, if_true, if_false, Nat.reduceAdd, Int.reduceToNat, Int.reduceAdd, tvs, bs]; try refine aA ?_)) | ((first | refine cR hL ?_ | refine cR hM ?_); simp (disch := omega) only [u, i64, ax, eq_self, if_true, if_false, Nat.reduceAdd, Int.reduceToNat, Int.reduceAdd, tvs, bs]; try refine aA ?_) | refine G_seq ?_ | refine G_block ?_ | refine G_condT rfl ?_ | refine G_condF rfl ?_ | refine G_skip ?_ | refine G_ret ?_ | refine G_exit ?_ | refine q_tn ?_ | refine q_tr ?_ | refine q_tx ?_ | refine q_bn ?_ | refine q_br ?_ | refine q_bx ?_ | refine q_by (by decide) ?_)
    (refine FinQ hQ (congrArg Array.toList Tryz.results32) _ _ ?_); simp (disch := omega) only [u, i64, ax, if_true, forall_const, reduceCtorEq, implies_true, tvs, bf]
  · have e1 : (-s).toNat = 0 := by omega
    have e2 : s = ((s.toNat : Nat) : Int) := by omega
    have hL := hL s.toNat (by omega)
    have hl := hpl s.toNat (by omega)
    rw [show pw2 s = .agg [.bool false, nat (2 ^ s.toNat), nat 1] by unfold pw2; rw [e1]]
    generalize s.toNat = t at *
    subst e2
    have hM := ret_Make12 (2 ^ t) 1 (by omega) (by omega) (Nat.gcd_one_right _) (by decide)
    have hI := ret_Make11 false (words (2 ^ t)) (Wd_words _) (by omega)
    rw [Bool.false_and, val_words] at hI
    generalize 2 ^ t = P2 at *
    refine RetN_start Tryz.func32 (by kernel_rfl) rfl fun Q hQ hQ2 => ?_; rw [Tryz.ntmps32]; simp only [u, i64, Nat.reduceSub, Nat.reduceAdd, bm]
    repeat (first | ((first | refine Gs ?_ | refine Gr ?_); simp (disch := omega) only [u, i64, ax, eq_self, if_true, if_false, Nat.reduceAdd, Int.reduceToNat, Int.reduceAdd, tvs, bs]; first | refine aA ?_ | ((first | refine cR hL ?_ | refine cR hI ?_ | refine cR hM ?_); simp (disch := omega) only [u, i64, ax, eq_self, if_true, if_false, Nat.reduceAdd, Int.reduceToNat, Int.reduceAdd, tvs, bs]; try refine aA ?_)) | ((first | refine cR hL ?_ | refine cR hI ?_ | refine cR hM ?_); simp (disch := omega) only [u, i64, ax, eq_self, if_true, if_false, Nat.reduceAdd, Int.reduceToNat, Int.reduceAdd, tvs, bs]; try refine aA ?_) | refine G_seq ?_ | refine G_block ?_ | refine G_condT rfl ?_ | refine G_condF rfl ?_ | refine G_skip ?_ | refine G_ret ?_ | refine G_exit ?_ | refine q_tn ?_ | refine q_tr ?_ | refine q_tx ?_ | refine q_bn ?_ | refine q_br ?_ | refine q_bx ?_ | refine q_by (by decide) ?_)
    (refine FinQ hQ (congrArg Array.toList Tryz.results32) _ _ ?_); simp (disch := omega) only [u, i64, ax, if_true, forall_const, reduceCtorEq, implies_true, tvs, bf]
set_option maxRecDepth 100000 in
theorem ret_Is12p (s : Int) (h1 : -100000 ≤ s) (h2 : s ≤ 100000) : Ret Tryz.prog GEs 31 [pw2 s, pw2 s] (.bool true) := by
  have hpl : ∀ t, t ≤ 100000 → (words (2 ^ t)).length ≤ 2000 := fun t ht => le_pow_words (Nat.le_refl _) (by omega)
  have la := hpl s.toNat (by omega)
  have lb := hpl (-s).toNat (by omega)
  have hc : Nat.gcd (2 ^ s.toNat) (2 ^ (-s).toNat) = 1 := by
    rcases Int.le_total 0 s with h | h
    · rw [show (-s).toNat = 0 by omega]; exact Nat.gcd_one_right _
    · rw [show s.toNat = 0 by omega]; exact Nat.gcd_one_left _
  have hB0 : 2 ^ (-s).toNat ≠ 0 := Nat.ne_of_gt (Nat.two_pow_pos _)
  unfold pw2
  generalize 2 ^ s.toNat = A at *
  generalize 2 ^ (-s).toNat = B at *
  have hN := ret_NormC A B (by omega) (by omega) hc hB0
  have hI := ret_Is11 false A false (words A) (Wd_words _) (by omega) (by omega)
  rw [val_words, decT rfl, Bool.true_and, Bool.false_and, show (false == false) = true from rfl] at hI
  have hJ := ret_rIs B (words B) (Wd_words _) (by omega) (by omega)
  rw [val_words, decT rfl] at hJ
  refine RetN_start Tryz.func31 (by kernel_rfl) rfl fun Q hQ hQ2 => ?_; rw [Tryz.ntmps31]; simp only [u, i64, Nat.reduceSub, Nat.reduceAdd, bm]
  repeat (first | ((first | refine Gs ?_ | refine Gr ?_); simp (disch := omega) only [u, i64, ax, eq_self, if_true, if_false, Nat.reduceAdd, Int.reduceToNat, Int.reduceAdd, tvs, bs]; first | refine aA ?_ | ((first | refine cR hN ?_ | refine cR hI ?_ | refine cR hJ ?_); simp (disch := omega) only [u, i64, ax, eq_self, if_true, if_false, Nat.reduceAdd, Int.reduceToNat, Int.reduceAdd, tvs, bs]; try refine aA ?_)) | ((first | refine cR hN ?_ | refine cR hI ?_ | refine cR hJ ?_); simp (disch := omega) only [u, i64, ax, eq_self, if_true, if_false, Nat.reduceAdd, Int.reduceToNat, Int.reduceAdd, tvs, bs]; try refine aA ?_) | refine G_seq ?_ | refine G_block ?_ | refine G_condT rfl ?_ | refine G_condF rfl ?_ | refine G_skip ?_ | refine G_ret ?_ | refine G_exit ?_ | refine q_tn ?_ | refine q_tr ?_ | refine q_tx ?_ | refine q_bn ?_ | refine q_br ?_ | refine q_bx ?_ | refine q_by (by decide) ?_)
  (refine FinQ hQ (congrArg Array.toList Tryz.results31) _ _ ?_); simp (disch := omega) only [u, i64, ax, if_true, forall_const, reduceCtorEq, implies_true, tvs, bf]
set_option maxRecDepth 100000 in
theorem ret_Step16 (k p : Nat) (hf : okFm k p) (neg : Bool) (ns dn : List Nat) (hn : Wd ns) (hd : Wd dn) (hln : ns.length ≤ 40) (hld : dn.length ≤ 40) (hd0 : val dn ≠ 0) :
    Ret Tryz.prog GEs 34 [.agg [i64 k, i64 p], .agg [.bool neg, ws ns, ws dn]] (i64 (stpQ p (gF k) (val ns) (val dn))) := by
  have hg := gF_le (k := k) (by omega) (by omega)
  have hS := ret_Sign12 neg ns dn hn (by omega)
  have hT := ret_Tiny15 k p hf
  have hLs := ret_Least15 k p (by omega) (by omega)
  have hnl := length_words_val_le hn
  have hdl := length_words_val_le hd
  unfold stpQ
  by_cases hz : val ns = 0
  · rw [if_pos hz]
    rw [show sgn neg (val ns) = 0 by unfold sgn; rw [if_pos hz]] at hS
    refine RetN_start Tryz.func34 (by kernel_rfl) rfl fun Q hQ hQ2 => ?_; rw [Tryz.ntmps34]; simp only [u, i64, Nat.reduceSub, Nat.reduceAdd, bm]
    repeat (first | ((first | refine Gs ?_ | refine Gr ?_); simp (disch := omega) only [u, i64, ax, eq_self, if_true, if_false, Nat.reduceAdd, Int.reduceToNat, Int.reduceAdd, tvs, bs]; first | refine aA ?_ | ((first | refine cR hS ?_ | refine cR hT ?_); simp (disch := omega) only [u, i64, ax, eq_self, if_true, if_false, Nat.reduceAdd, Int.reduceToNat, Int.reduceAdd, tvs, bs]; try refine aA ?_)) | ((first | refine cR hS ?_ | refine cR hT ?_); simp (disch := omega) only [u, i64, ax, eq_self, if_true, if_false, Nat.reduceAdd, Int.reduceToNat, Int.reduceAdd, tvs, bs]; try refine aA ?_) | refine G_seq ?_ | refine G_block ?_ | refine G_condT rfl ?_ | refine G_condF rfl ?_ | refine G_skip ?_ | refine G_ret ?_ | refine G_exit ?_ | refine q_tn ?_ | refine q_tr ?_ | refine q_tx ?_ | refine q_bn ?_ | refine q_br ?_ | refine q_bx ?_ | refine q_by (by decide) ?_)
    (refine FinQ hQ (congrArg Array.toList Tryz.results34) _ _ ?_); simp (disch := omega) only [u, i64, ax, if_true, forall_const, reduceCtorEq, implies_true, tvs, bf]
  · rw [if_neg hz]
    have hsg : sgn neg (val ns) ≠ 0 := by unfold sgn; rw [if_neg hz]; split <;> decide
    generalize sgn neg (val ns) = sg at *
    have hO := ret_Of16 neg ns dn hn hd hln hld hz
    have hE := ret_Exponent16 neg (val ns) (val dn) (by omega) (by omega) hz hd0
    have hl := lg_bound hz hd0
    have hb1 := bl_valL hn
    have hb2 := bl_valL hd
    have hs := stpF_max p (gF k) (lg (val ns) (val dn))
    rw [hs]
    generalize hmx : max (lg (val ns) (val dn)) (1 - gF k) = mx
    have hmb : -100000 ≤ mx ∧ mx ≤ 100000 := by omega
    generalize lg (val ns) (val dn) = l at *
    generalize gF k = G at *
    refine RetN_start Tryz.func34 (by kernel_rfl) rfl fun Q hQ hQ2 => ?_; rw [Tryz.ntmps34]; simp only [u, i64, Nat.reduceSub, Nat.reduceAdd, bm]
    repeat (first | ((first | refine Gs ?_ | refine Gr ?_); simp (disch := omega) only [u, i64, ax, eq_self, if_true, if_false, Nat.reduceAdd, Int.reduceToNat, Int.reduceAdd, tvs, bs]; first | refine aA ?_ | (refine cR hS ?_; simp (disch := omega) only [u, i64, ax, eq_self, if_true, if_false, Nat.reduceAdd, Int.reduceToNat, Int.reduceAdd, tvs, bs]; try refine aA ?_)) | (refine cR hS ?_; simp (disch := omega) only [u, i64, ax, eq_self, if_true, if_false, Nat.reduceAdd, Int.reduceToNat, Int.reduceAdd, tvs, bs]; try refine aA ?_) | refine G_seq ?_ | refine G_block ?_ | refine G_condT rfl ?_ | refine G_condF rfl ?_ | refine G_skip ?_ | refine G_ret ?_ | refine G_exit ?_ | refine q_tn ?_ | refine q_tr ?_ | refine q_tx ?_ | refine q_bn ?_ | refine q_br ?_ | refine q_bx ?_ | refine q_by (by decide) ?_)
    ((first | refine Gs ?_ | refine Gr ?_); simp (disch := omega) only [u, i64, ax, eq_self, if_true, if_false, Nat.reduceAdd, Int.reduceToNat, Int.reduceAdd, tvs, bs])
    (refine cR hO ?_; simp (disch := omega) only [u, i64, ax, eq_self, if_true, if_false, Nat.reduceAdd, Int.reduceToNat, Int.reduceAdd, tvs, bs]; try refine aA ?_)
    (refine cR hE ?_; simp (disch := omega) only [u, i64, ax, eq_self, if_true, if_false, Nat.reduceAdd, Int.reduceToNat, Int.reduceAdd, tvs, bs]; try refine aA ?_)
    (refine cR hLs ?_; simp (disch := omega) only [u, i64, ax, eq_self, if_true, if_false, Nat.reduceAdd, Int.reduceToNat, Int.reduceAdd, tvs, bs]; try refine aA ?_)
    rw [hmx]
    repeat (first | ((first | refine Gs ?_ | refine Gr ?_); simp (disch := omega) only [u, i64, ax, eq_self, if_true, if_false, Nat.reduceAdd, Int.reduceToNat, Int.reduceAdd, tvs, bs]; refine aA ?_) | refine G_seq ?_ | refine G_block ?_ | refine G_condT rfl ?_ | refine G_condF rfl ?_ | refine G_skip ?_ | refine G_ret ?_ | refine G_exit ?_ | refine q_tn ?_ | refine q_tr ?_ | refine q_tx ?_ | refine q_bn ?_ | refine q_br ?_ | refine q_bx ?_ | refine q_by (by decide) ?_)
    (refine FinQ hQ (congrArg Array.toList Tryz.results34) _ _ ?_); simp (disch := omega) only [u, i64, ax, if_true, forall_const, reduceCtorEq, implies_true, tvs, bf]
theorem ret_NoRat0 : Ret Tryz.prog GEs 30 [rtz] (.bool true) := by
  refine RetN_start Tryz.func30 (by kernel_rfl) rfl fun Q hQ hQ2 => ?_; rw [Tryz.ntmps30]; simp only [u, i64, Nat.reduceSub, Nat.reduceAdd, bm]
  repeat (first | ((first | refine Gs ?_ | refine Gr ?_); simp (disch := omega) only [u, i64, ax, eq_self, if_true, if_false, Nat.reduceAdd, Int.reduceToNat, Int.reduceAdd, tvs, bs]; first | refine aA ?_ | (refine cR ret_NoInt0 ?_; simp (disch := omega) only [u, i64, ax, eq_self, if_true, if_false, Nat.reduceAdd, Int.reduceToNat, Int.reduceAdd, tvs, bs]; try refine aA ?_)) | (refine cR ret_NoInt0 ?_; simp (disch := omega) only [u, i64, ax, eq_self, if_true, if_false, Nat.reduceAdd, Int.reduceToNat, Int.reduceAdd, tvs, bs]; try refine aA ?_) | refine G_seq ?_ | refine G_block ?_ | refine G_condT rfl ?_ | refine G_condF rfl ?_ | refine G_skip ?_ | refine G_ret ?_ | refine G_exit ?_ | refine q_tn ?_ | refine q_tr ?_ | refine q_tx ?_ | refine q_bn ?_ | refine q_br ?_ | refine q_bx ?_ | refine q_by (by decide) ?_)
  (refine FinQ hQ (congrArg Array.toList Tryz.results30) _ _ ?_); simp (disch := omega) only [u, i64, ax, if_true, forall_const, reduceCtorEq, implies_true, tvs, bf]
set_option maxRecDepth 100000 in
set_option maxHeartbeats 4000000 in
theorem ret_LawRoundStep (k p : Int) (neg : Bool) (ns dn : List Nat) (hn : Wd ns) (hd : Wd dn) (hln : ns.length ≤ 9223372036854775807) (hld : dn.length ≤ 9223372036854775807) :
    Ret Tryz.prog GEs 6 [.agg [i64 k, i64 p], .agg [.bool neg, ws ns, ws dn]] (.bool true) := by
  have hB := ret_Brief1 neg ns dn hln hld
  by_cases hb : ns.length ≤ 40 ∧ dn.length ≤ 40
  · rw [decT hb] at hB
    have hA := ret_args16 0 k p (by decide) (by decide) neg ns dn hn hd (by omega) (by omega)
    by_cases he : errR 0 k p ns.length dn.length (val dn) = 0
    · obtain ⟨hd0, _, _, hr, hf⟩ := errR_ok he
      obtain ⟨k, rfl⟩ := Int.eq_ofNat_of_zero_le (show 0 ≤ k by omega)
      obtain ⟨p, rfl⟩ := Int.eq_ofNat_of_zero_le (show 0 ≤ p by omega)
      obtain ⟨hR, s1, s2⟩ := ret_rStep_ok k p hf neg ns dn hn hd hb.1 hb.2 hd0
      have hS := ret_Step16 k p hf neg ns dn hn hd hb.1 hb.2 hd0
      rw [he] at hA
      generalize stpQ p (gF k) (val ns) (val dn) = s at *
      have hSc := ret_Scale1 s s1 s2
      have hI := ret_Is12p s s1 s2
      unfold pw2 at *
      generalize 2 ^ s.toNat = A at *
      generalize 2 ^ (-s).toNat = B at *
      refine RetN_start Tryz.func6 (by kernel_rfl) rfl fun Q hQ hQ2 => ?_; rw [Tryz.ntmps6]; simp only [u, i64, Nat.reduceSub, Nat.reduceAdd, bm]
      repeat (first | ((first | refine Gs ?_ | refine Gr ?_); simp (disch := omega) only [u, i64, ax, eq_self, if_true, if_false, Nat.reduceAdd, Int.reduceToNat, Int.reduceAdd, tvs, bs]; first | refine aA ?_ | ((first | refine cR hB ?_ | refine cR hR ?_ | refine cR hA ?_ | refine cR ret_From12 ?_ | refine cR (ret_Fmt k p) ?_ | refine cR hS ?_ | refine cR hSc ?_ | refine cR hI ?_ | refine cR ret_awake16 ?_); simp (disch := omega) only [u, i64, ax, eq_self, if_true, if_false, Nat.reduceAdd, Int.reduceToNat, Int.reduceAdd, tvs, bs]; try refine aA ?_)) | ((first | refine cR hB ?_ | refine cR hR ?_ | refine cR hA ?_ | refine cR ret_From12 ?_ | refine cR (ret_Fmt k p) ?_ | refine cR hS ?_ | refine cR hSc ?_ | refine cR hI ?_ | refine cR ret_awake16 ?_); simp (disch := omega) only [u, i64, ax, eq_self, if_true, if_false, Nat.reduceAdd, Int.reduceToNat, Int.reduceAdd, tvs, bs]; try refine aA ?_) | refine G_seq ?_ | refine G_block ?_ | refine G_condT rfl ?_ | refine G_condF rfl ?_ | refine G_skip ?_ | refine G_ret ?_ | refine G_exit ?_ | refine q_tn ?_ | refine q_tr ?_ | refine q_tx ?_ | refine q_bn ?_ | refine q_br ?_ | refine q_bx ?_ | refine q_by (by decide) ?_)
      (refine FinQ hQ (congrArg Array.toList Tryz.results6) _ _ ?_); simp (disch := omega) only [u, i64, ax, if_true, forall_const, reduceCtorEq, implies_true, tvs, bf]
    · have hR := ret_rStep_bad k p neg ns dn hn hd (by omega) (by omega) he
      generalize errR 0 k p ns.length dn.length (val dn) = e at *
      refine RetN_start Tryz.func6 (by kernel_rfl) rfl fun Q hQ hQ2 => ?_; rw [Tryz.ntmps6]; simp only [u, i64, Nat.reduceSub, Nat.reduceAdd, bm]
      repeat (first | ((first | refine Gs ?_ | refine Gr ?_); simp (disch := omega) only [u, i64, ax, eq_self, if_true, if_false, Nat.reduceAdd, Int.reduceToNat, Int.reduceAdd, tvs, bs]; first | refine aA ?_ | ((first | refine cR hB ?_ | refine cR hR ?_ | refine cR hA ?_ | refine cR ret_NoRat0 ?_ | refine cR ret_awake16 ?_); simp (disch := omega) only [u, i64, ax, eq_self, if_true, if_false, Nat.reduceAdd, Int.reduceToNat, Int.reduceAdd, tvs, bs]; try refine aA ?_)) | ((first | refine cR hB ?_ | refine cR hR ?_ | refine cR hA ?_ | refine cR ret_NoRat0 ?_ | refine cR ret_awake16 ?_); simp (disch := omega) only [u, i64, ax, eq_self, if_true, if_false, Nat.reduceAdd, Int.reduceToNat, Int.reduceAdd, tvs, bs]; try refine aA ?_) | refine G_seq ?_ | refine G_block ?_ | refine G_condT rfl ?_ | refine G_condF rfl ?_ | refine G_skip ?_ | refine G_ret ?_ | refine G_exit ?_ | refine q_tn ?_ | refine q_tr ?_ | refine q_tx ?_ | refine q_bn ?_ | refine q_br ?_ | refine q_bx ?_ | refine q_by (by decide) ?_)
      (refine FinQ hQ (congrArg Array.toList Tryz.results6) _ _ ?_); simp (disch := omega) only [u, i64, ax, if_true, forall_const, reduceCtorEq, implies_true, tvs, bf]
  · rw [decF hb] at hB
    refine RetN_start Tryz.func6 (by kernel_rfl) rfl fun Q hQ hQ2 => ?_; rw [Tryz.ntmps6]; simp only [u, i64, Nat.reduceSub, Nat.reduceAdd, bm]
    repeat (first | ((first | refine Gs ?_ | refine Gr ?_); simp (disch := omega) only [u, i64, ax, eq_self, if_true, if_false, Nat.reduceAdd, Int.reduceToNat, Int.reduceAdd, tvs, bs]; first | refine aA ?_ | ((first | refine cR hB ?_ | refine cR ret_awake16 ?_); simp (disch := omega) only [u, i64, ax, eq_self, if_true, if_false, Nat.reduceAdd, Int.reduceToNat, Int.reduceAdd, tvs, bs]; try refine aA ?_)) | ((first | refine cR hB ?_ | refine cR ret_awake16 ?_); simp (disch := omega) only [u, i64, ax, eq_self, if_true, if_false, Nat.reduceAdd, Int.reduceToNat, Int.reduceAdd, tvs, bs]; try refine aA ?_) | refine G_seq ?_ | refine G_block ?_ | refine G_condT rfl ?_ | refine G_condF rfl ?_ | refine G_skip ?_ | refine G_ret ?_ | refine G_exit ?_ | refine q_tn ?_ | refine q_tr ?_ | refine q_tx ?_ | refine q_bn ?_ | refine q_br ?_ | refine q_bx ?_ | refine q_by (by decide) ?_)
    (refine FinQ hQ (congrArg Array.toList Tryz.results6) _ _ ?_); simp (disch := omega) only [u, i64, ax, if_true, forall_const, reduceCtorEq, implies_true, tvs, bf]
end Go.Proofs
set_option linter.unusedVariables false
set_option linter.unusedSimpArgs false
namespace Go.Proofs
open Go.Ax
/-- A canonical integer. -/
def zv (z : Int) : AV := .agg [.bool (decide (z < 0)), nat z.natAbs]
/-- The value of a sign and a size. -/
def sg (neg : Bool) (n : Nat) : Int := if neg = true then -(n : Int) else n
theorem mk_zv (neg : Bool) (n : Nat) : AV.agg [.bool (neg && decide (n ≠ 0)), nat n] = zv (sg neg n) := by
  unfold zv sg
  cases neg with
  | true =>
    rw [if_pos rfl, Int.natAbs_neg, Int.natAbs_natCast, Bool.true_and]
    congr 3
    simp only [decide_eq_decide]
    omega
  | false =>
    rw [if_neg (by decide), Int.natAbs_natCast, Bool.false_and, decF (show ¬ (n : Int) < 0 by omega)]
theorem sg_zv (z : Int) : sg (decide (z < 0)) z.natAbs = z := by
  unfold sg
  by_cases h : z < 0
  · rw [decT h, if_pos rfl]; omega
  · rw [decF h, if_neg (by decide)]; omega
theorem ret_Make03 (neg : Bool) (xs : List Nat) (hx : Wd xs) (hl : xs.length ≤ 34359738368) : Ret Tryz.prog GEs 173 [.bool neg, ws xs] (zv (sg neg (val xs))) := mk_zv neg (val xs) ▸ ret_Make neg xs hx hl
theorem ret_Make11z (neg : Bool) (xs : List Nat) (hx : Wd xs) (hl : xs.length ≤ 34359738368) : Ret Tryz.prog GEs 84 [.bool neg, ws xs] (zv (sg neg (val xs))) := mk_zv neg (val xs) ▸ ret_Make11 neg xs hx hl
theorem sg_mul (a b : Bool) (x y : Nat) : sg (a != b) (x * y) = sg a x * sg b y := by
  unfold sg
  cases a <;> cases b <;> simp [Int.neg_mul, Int.mul_neg]
theorem ret_rMul (xs ys : List Nat) (hx : Wd xs) (hy : Wd ys) (hl : xs.length ≤ 10000000) (hl2 : ys.length ≤ 10000000) : Ret Tryz.prog GEs 146 [ws xs, ws ys] (nat (val xs * val ys)) := by
  have h1 := ret_Digits xs hx (by omega)
  have h2 := ret_Digits ys hy (by omega)
  have e1 := digs_length xs
  have e2 := digs_length ys
  have h3 := ret_Times (digs xs) (digs ys) (digs_Ds hx) (digs_Ds hy) (by omega) (by omega)
  have hlt : vb 4294967296 (digs xs) * vb 4294967296 (digs ys) < 4294967296 ^ ((digs xs).length + (digs ys).length) := by
    rw [Nat.pow_add]
    exact Nat.mul_lt_mul'' (vb_lt (digs_Ds hx)) (vb_lt (digs_Ds hy))
  have hv := vb_wfb (K := 4294967296) (by decide) _ _ hlt
  have hds : Ds 4294967296 (wfb 4294967296 ((digs xs).length + (digs ys).length) (vb 4294967296 (digs xs) * vb 4294967296 (digs ys))) := wfb_Ds (by decide) _ _
  have hml : (wfb 4294967296 ((digs xs).length + (digs ys).length) (vb 4294967296 (digs xs) * vb 4294967296 (digs ys))).length = (digs xs).length + (digs ys).length := wfb_length _ _
  have h4 := ret_nat _ hds (by omega)
  rw [hv, digs_val, digs_val] at h4
  rw [digs_val, digs_val] at h3
  generalize wfb 4294967296 ((digs xs).length + (digs ys).length) (val xs * val ys) = dd at *
  refine RetN_start Tryz.func146 (by kernel_rfl) rfl fun Q hQ hQ2 => ?_; rw [Tryz.ntmps146]; simp only [u, i64, Nat.reduceSub, Nat.reduceAdd, bm]
  repeat (first | ((first | refine Gs ?_ | refine Gr ?_); simp (disch := omega) only [u, i64, ax, eq_self, if_true, if_false, Nat.reduceAdd, Int.reduceToNat, Int.reduceAdd, tvs, bs]; first | refine aA ?_ | ((first | refine cR h1 ?_ | refine cR h2 ?_ | refine cR h3 ?_ | refine cR h4 ?_); simp (disch := omega) only [u, i64, ax, eq_self, if_true, if_false, Nat.reduceAdd, Int.reduceToNat, Int.reduceAdd, tvs, bs]; try refine aA ?_)) | ((first | refine cR h1 ?_ | refine cR h2 ?_ | refine cR h3 ?_ | refine cR h4 ?_); simp (disch := omega) only [u, i64, ax, eq_self, if_true, if_false, Nat.reduceAdd, Int.reduceToNat, Int.reduceAdd, tvs, bs]; try refine aA ?_) | refine G_seq ?_ | refine G_block ?_ | refine G_condT rfl ?_ | refine G_condF rfl ?_ | refine G_skip ?_ | refine G_ret ?_ | refine G_exit ?_ | refine q_tn ?_ | refine q_tr ?_ | refine q_tx ?_ | refine q_bn ?_ | refine q_br ?_ | refine q_bx ?_ | refine q_by (by decide) ?_)
  (refine FinQ hQ (congrArg Array.toList Tryz.results146) _ _ ?_); simp (disch := omega) only [u, i64, ax, if_true, forall_const, reduceCtorEq, implies_true, tvs, bf]
theorem ret_Mul03 (a b : Bool) (xs ys : List Nat) (hx : Wd xs) (hy : Wd ys) (hl : xs.length ≤ 1000000) (hl2 : ys.length ≤ 1000000) : Ret Tryz.prog GEs 172 [.agg [.bool a, ws xs], .agg [.bool b, ws ys]] (zv (sg a (val xs) * sg b (val ys))) := by
  have hM := ret_rMul xs ys hx hy (by omega) (by omega)
  have h1 := length_words_val_le hx
  have h2 := length_words_val_le hy
  have h3 := length_mul (val xs) (val ys)
  have hK := ret_Make03 (a != b) (words (val xs * val ys)) (Wd_words _) (by omega)
  rw [val_words, sg_mul] at hK
  generalize sg a (val xs) * sg b (val ys) = z at *
  unfold zv at *
  refine RetN_start Tryz.func172 (by kernel_rfl) rfl fun Q hQ hQ2 => ?_; rw [Tryz.ntmps172]; simp only [u, i64, Nat.reduceSub, Nat.reduceAdd, bm]
  repeat (first | ((first | refine Gs ?_ | refine Gr ?_); simp (disch := omega) only [u, i64, ax, eq_self, if_true, if_false, Nat.reduceAdd, Int.reduceToNat, Int.reduceAdd, tvs, bs]; first | refine aA ?_ | ((first | refine cR hM ?_ | refine cR hK ?_); simp (disch := omega) only [u, i64, ax, eq_self, if_true, if_false, Nat.reduceAdd, Int.reduceToNat, Int.reduceAdd, tvs, bs]; try refine aA ?_)) | ((first | refine cR hM ?_ | refine cR hK ?_); simp (disch := omega) only [u, i64, ax, eq_self, if_true, if_false, Nat.reduceAdd, Int.reduceToNat, Int.reduceAdd, tvs, bs]; try refine aA ?_) | refine G_seq ?_ | refine G_block ?_ | refine G_condT rfl ?_ | refine G_condF rfl ?_ | refine G_skip ?_ | refine G_ret ?_ | refine G_exit ?_ | refine q_tn ?_ | refine q_tr ?_ | refine q_tx ?_ | refine q_bn ?_ | refine q_br ?_ | refine q_bx ?_ | refine q_by (by decide) ?_)
  (refine FinQ hQ (congrArg Array.toList Tryz.results172) _ _ ?_); simp (disch := omega) only [u, i64, ax, if_true, forall_const, reduceCtorEq, implies_true, tvs, bf]
theorem ret_Mul11 (a b : Bool) (xs ys : List Nat) (hx : Wd xs) (hy : Wd ys) (hl : xs.length ≤ 1000000) (hl2 : ys.length ≤ 1000000) : Ret Tryz.prog GEs 83 [.agg [.bool a, ws xs], .agg [.bool b, ws ys]] (zv (sg a (val xs) * sg b (val ys))) := by
  have hK := ret_Mul03 a b xs ys hx hy hl hl2
  generalize sg a (val xs) * sg b (val ys) = z at *
  unfold zv at *
  refine RetN_start Tryz.func83 (by kernel_rfl) rfl fun Q hQ hQ2 => ?_; rw [Tryz.ntmps83]; simp only [u, i64, Nat.reduceSub, Nat.reduceAdd, bm]
  repeat (first | ((first | refine Gs ?_ | refine Gr ?_); simp (disch := omega) only [u, i64, ax, eq_self, if_true, if_false, Nat.reduceAdd, Int.reduceToNat, Int.reduceAdd, tvs, bs]; first | refine aA ?_ | (refine cR hK ?_; simp (disch := omega) only [u, i64, ax, eq_self, if_true, if_false, Nat.reduceAdd, Int.reduceToNat, Int.reduceAdd, tvs, bs]; try refine aA ?_)) | (refine cR hK ?_; simp (disch := omega) only [u, i64, ax, eq_self, if_true, if_false, Nat.reduceAdd, Int.reduceToNat, Int.reduceAdd, tvs, bs]; try refine aA ?_) | refine G_seq ?_ | refine G_block ?_ | refine G_condT rfl ?_ | refine G_condF rfl ?_ | refine G_skip ?_ | refine G_ret ?_ | refine G_exit ?_ | refine q_tn ?_ | refine q_tr ?_ | refine q_tx ?_ | refine q_bn ?_ | refine q_br ?_ | refine q_bx ?_ | refine q_by (by decide) ?_)
  (refine FinQ hQ (congrArg Array.toList Tryz.results83) _ _ ?_); simp (disch := omega) only [u, i64, ax, if_true, forall_const, reduceCtorEq, implies_true, tvs, bf]
theorem sg_not (b : Bool) (y : Nat) : sg (!b) y = -sg b y := by unfold sg; cases b <;> simp
theorem ret_Neg03 (b : Bool) (ys : List Nat) (hy : Wd ys) (hl : ys.length ≤ 1000000) : Ret Tryz.prog GEs 241 [.agg [.bool b, ws ys]] (zv (-sg b (val ys))) := by
  have hK := ret_Make03 (!b) ys hy (by omega)
  rw [sg_not] at hK
  generalize -sg b (val ys) = z at *
  unfold zv at *
  refine RetN_start Tryz.func241 (by kernel_rfl) rfl fun Q hQ hQ2 => ?_; rw [Tryz.ntmps241]; simp only [u, i64, Nat.reduceSub, Nat.reduceAdd, bm]
  repeat (first | ((first | refine Gs ?_ | refine Gr ?_); simp (disch := omega) only [u, i64, ax, eq_self, if_true, if_false, Nat.reduceAdd, Int.reduceToNat, Int.reduceAdd, tvs, bs]; first | refine aA ?_ | (refine cR hK ?_; simp (disch := omega) only [u, i64, ax, eq_self, if_true, if_false, Nat.reduceAdd, Int.reduceToNat, Int.reduceAdd, tvs, bs]; try refine aA ?_)) | (refine cR hK ?_; simp (disch := omega) only [u, i64, ax, eq_self, if_true, if_false, Nat.reduceAdd, Int.reduceToNat, Int.reduceAdd, tvs, bs]; try refine aA ?_) | refine G_seq ?_ | refine G_block ?_ | refine G_condT rfl ?_ | refine G_condF rfl ?_ | refine G_skip ?_ | refine G_ret ?_ | refine G_exit ?_ | refine q_tn ?_ | refine q_tr ?_ | refine q_tx ?_ | refine q_bn ?_ | refine q_br ?_ | refine q_bx ?_ | refine q_by (by decide) ?_)
  (refine FinQ hQ (congrArg Array.toList Tryz.results241) _ _ ?_); simp (disch := omega) only [u, i64, ax, if_true, forall_const, reduceCtorEq, implies_true, tvs, bf]
end Go.Proofs
set_option linter.unusedVariables false
set_option linter.unusedSimpArgs false
namespace Go.Proofs
open Go.Ax
theorem ret_Minus0 (b : List Nat) (hl : b.length ≤ 1000000) : Ret Tryz.prog GEs 255 [ws [], ws b] (.tup [ws [], .bool false]) := by
  refine RetN_start Tryz.func255 (by kernel_rfl) rfl fun Q hQ hQ2 => ?_; rw [Tryz.ntmps255]; simp only [u, i64, Nat.reduceSub, Nat.reduceAdd, bm]
  repeat (first | ((first | refine Gs ?_ | refine Gr ?_); simp (disch := omega) only [u, i64, ax, eq_self, if_true, if_false, Nat.reduceAdd, Int.reduceToNat, Int.reduceAdd, tvs, bs]; refine aA ?_) | refine G_seq ?_ | refine G_block ?_ | refine G_condT rfl ?_ | refine G_condF rfl ?_ | refine G_skip ?_ | refine G_ret ?_ | refine G_exit ?_ | refine q_tn ?_ | refine q_tr ?_ | refine q_tx ?_ | refine q_bn ?_ | refine q_br ?_ | refine q_bx ?_ | refine q_by (by decide) ?_)
  refine AWp_loop (fun _ : Unit => mk 38 [(0, ws []), (1, ws b), (6, .emp), (7, .int .u64 0), (8, i64 0)] []) (fun _ => True) (fun _ => 0) () ?_ trivial ?_
  · simp only [u, i64, Nat.reduceSub, Nat.reduceAdd, bm]
  intro _ _
  simp only [u, i64, Nat.reduceSub, Nat.reduceAdd, bm]
  repeat (first | ((first | refine Gs ?_ | refine Gr ?_); simp (disch := omega) only [u, i64, ax, eq_self, if_true, if_false, Nat.reduceAdd, Int.reduceToNat, Int.reduceAdd, tvs, bs]; refine aA ?_) | refine G_seq ?_ | refine G_block ?_ | refine G_condT rfl ?_ | refine G_condF rfl ?_ | refine G_skip ?_ | refine G_ret ?_ | refine G_exit ?_ | refine q_tn ?_ | refine q_tr ?_ | refine q_tx ?_ | refine q_bn ?_ | refine q_br ?_ | refine q_bx ?_ | refine q_by (by decide) ?_)
  (refine FinQ hQ (congrArg Array.toList Tryz.results255) _ _ ?_); simp (disch := omega) only [u, i64, ax, if_true, forall_const, reduceCtorEq, implies_true, tvs, bf]
  all_goals rfl
theorem ret_rSub0 (ys : List Nat) (hy : Wd ys) (hl : ys.length ≤ 100000) : Ret Tryz.prog GEs 246 [ws [], ws ys] (nat 0) := by
  have h1 := ret_Digits [] (fun x hx => by cases hx) (by decide)
  have h2 := ret_rTrim ys hy (by omega)
  have hyl := length_words_val_le hy
  have h3 := ret_Digits (words (val ys)) (Wd_words _) (by omega)
  have h4 := ret_Minus0 (digs (words (val ys))) (by rw [digs_length]; omega)
  have h5 := ret_nat [] (fun x hx => by cases hx) (by decide)
  rw [show digs [] = [] from rfl] at h1
  rw [show vb 4294967296 [] = 0 from rfl] at h5
  generalize digs (words (val ys)) = dd at *
  refine RetN_start Tryz.func246 (by kernel_rfl) rfl fun Q hQ hQ2 => ?_; rw [Tryz.ntmps246]; simp only [u, i64, Nat.reduceSub, Nat.reduceAdd, bm]
  repeat (first | ((first | refine Gs ?_ | refine Gr ?_); simp (disch := omega) only [u, i64, ax, eq_self, if_true, if_false, Nat.reduceAdd, Int.reduceToNat, Int.reduceAdd, tvs, bs]; first | refine aA ?_ | ((first | refine cR h1 ?_ | refine cR h2 ?_ | refine cR h3 ?_ | refine cR h4 ?_ | refine cR h5 ?_); simp (disch := omega) only [u, i64, ax, eq_self, if_true, if_false, Nat.reduceAdd, Int.reduceToNat, Int.reduceAdd, tvs, bs]; try refine aA ?_)) | ((first | refine cR h1 ?_ | refine cR h2 ?_ | refine cR h3 ?_ | refine cR h4 ?_ | refine cR h5 ?_); simp (disch := omega) only [u, i64, ax, eq_self, if_true, if_false, Nat.reduceAdd, Int.reduceToNat, Int.reduceAdd, tvs, bs]; try refine aA ?_) | refine G_seq ?_ | refine G_block ?_ | refine G_condT rfl ?_ | refine G_condF rfl ?_ | refine G_skip ?_ | refine G_ret ?_ | refine G_exit ?_ | refine q_tn ?_ | refine q_tr ?_ | refine q_tx ?_ | refine q_bn ?_ | refine q_br ?_ | refine q_bx ?_ | refine q_by (by decide) ?_)
  (refine FinQ hQ (congrArg Array.toList Tryz.results246) _ _ ?_); simp (disch := omega) only [u, i64, ax, if_true, forall_const, reduceCtorEq, implies_true, tvs, bf]
theorem ret_rSubA (xs ys : List Nat) (hx : Wd xs) (hy : Wd ys) (hl : xs.length ≤ 100000) (hl2 : ys.length ≤ 100000) (hle : val ys ≤ val xs) : Ret Tryz.prog GEs 246 [ws xs, ws ys] (nat (val xs - val ys)) := by
  by_cases h : xs = []
  · subst h
    have : val ys = 0 := by have : val [] = 0 := rfl; omega
    rw [this]
    exact ret_rSub0 ys hy hl2
  · exact ret_rSub xs ys hx hy h (by omega) (by omega) hle
theorem ret_rAddA (xs ys : List Nat) (hx : Wd xs) (hy : Wd ys) (hl : xs.length ≤ 100000) (hl2 : ys.length ≤ 100000) : Ret Tryz.prog GEs 208 [ws xs, ws ys] (nat (val xs + val ys)) := ret_rAdd xs ys hx hy (by omega) (by omega)
set_option maxRecDepth 100000 in
set_option maxHeartbeats 2000000 in
theorem ret_Add03 (a b : Bool) (xs ys : List Nat) (hx : Wd xs) (hy : Wd ys) (hl : xs.length ≤ 10000) (hl2 : ys.length ≤ 10000) : Ret Tryz.prog GEs 213 [.agg [.bool a, ws xs], .agg [.bool b, ws ys]] (zv (sg a (val xs) + sg b (val ys))) := by
  have h1 := length_words_val_le hx
  have h2 := length_words_val_le hy
  have hA := ret_rAddA xs ys hx hy (by omega) (by omega)
  have hAl := length_add (val xs) (val ys)
  have hC := ret_rCmp xs ys hx hy (by omega) (by omega)
  have hC2 : ∃ z : Int, (z < 0 ↔ val xs < val ys) ∧ Ret Tryz.prog GEs 177 [ws xs, ws ys] (i64 z) := ⟨_, by unfold cmpI; split <;> (try split) <;> omega, hC⟩
  obtain ⟨z, hz, hC⟩ := hC2
  have key : ∀ a : Bool, Ret Tryz.prog GEs 213 [.agg [.bool a, ws xs], .agg [.bool a, ws ys]] (zv (sg a (val xs) + sg a (val ys))) := fun a => by
    have hM := ret_Make03 a (words (val xs + val ys)) (Wd_words _) (by omega)
    rw [val_words, show sg a (val xs + val ys) = sg a (val xs) + sg a (val ys) by unfold sg; cases a <;> simp <;> omega] at hM
    generalize sg a (val xs) + sg a (val ys) = w at *
    unfold zv at *
    cases a with
    | true =>
      refine RetN_start Tryz.func213 (by kernel_rfl) rfl fun Q hQ hQ2 => ?_; rw [Tryz.ntmps213]; simp only [u, i64, Nat.reduceSub, Nat.reduceAdd, bm]
      repeat (first | ((first | refine Gs ?_ | refine Gr ?_); simp (disch := omega) only [u, i64, ax, eq_self, if_true, if_false, Nat.reduceAdd, Int.reduceToNat, Int.reduceAdd, tvs, bs]; first | refine aA ?_ | ((first | refine cR hA ?_ | refine cR hM ?_); simp (disch := omega) only [u, i64, ax, eq_self, if_true, if_false, Nat.reduceAdd, Int.reduceToNat, Int.reduceAdd, tvs, bs]; try refine aA ?_)) | ((first | refine cR hA ?_ | refine cR hM ?_); simp (disch := omega) only [u, i64, ax, eq_self, if_true, if_false, Nat.reduceAdd, Int.reduceToNat, Int.reduceAdd, tvs, bs]; try refine aA ?_) | refine G_seq ?_ | refine G_block ?_ | refine G_condT rfl ?_ | refine G_condF rfl ?_ | refine G_skip ?_ | refine G_ret ?_ | refine G_exit ?_ | refine q_tn ?_ | refine q_tr ?_ | refine q_tx ?_ | refine q_bn ?_ | refine q_br ?_ | refine q_bx ?_ | refine q_by (by decide) ?_)
      (refine FinQ hQ (congrArg Array.toList Tryz.results213) _ _ ?_); simp (disch := omega) only [u, i64, ax, if_true, forall_const, reduceCtorEq, implies_true, tvs, bf]
    | false =>
      refine RetN_start Tryz.func213 (by kernel_rfl) rfl fun Q hQ hQ2 => ?_; rw [Tryz.ntmps213]; simp only [u, i64, Nat.reduceSub, Nat.reduceAdd, bm]
      repeat (first | ((first | refine Gs ?_ | refine Gr ?_); simp (disch := omega) only [u, i64, ax, eq_self, if_true, if_false, Nat.reduceAdd, Int.reduceToNat, Int.reduceAdd, tvs, bs]; first | refine aA ?_ | ((first | refine cR hA ?_ | refine cR hM ?_); simp (disch := omega) only [u, i64, ax, eq_self, if_true, if_false, Nat.reduceAdd, Int.reduceToNat, Int.reduceAdd, tvs, bs]; try refine aA ?_)) | ((first | refine cR hA ?_ | refine cR hM ?_); simp (disch := omega) only [u, i64, ax, eq_self, if_true, if_false, Nat.reduceAdd, Int.reduceToNat, Int.reduceAdd, tvs, bs]; try refine aA ?_) | refine G_seq ?_ | refine G_block ?_ | refine G_condT rfl ?_ | refine G_condF rfl ?_ | refine G_skip ?_ | refine G_ret ?_ | refine G_exit ?_ | refine q_tn ?_ | refine q_tr ?_ | refine q_tx ?_ | refine q_bn ?_ | refine q_br ?_ | refine q_bx ?_ | refine q_by (by decide) ?_)
      (refine FinQ hQ (congrArg Array.toList Tryz.results213) _ _ ?_); simp (disch := omega) only [u, i64, ax, if_true, forall_const, reduceCtorEq, implies_true, tvs, bf]
  have key2 : ∀ a : Bool, Ret Tryz.prog GEs 213 [.agg [.bool a, ws xs], .agg [.bool (!a), ws ys]] (zv (sg a (val xs) + sg (!a) (val ys))) := fun a => by
    by_cases hlt : val xs < val ys
    · have hzz : z < 0 := hz.2 hlt
      have hS := ret_rSubA ys xs hy hx (by omega) (by omega) (by omega)
      have hSl := length_mono (Nat.sub_le (val ys) (val xs))
      have hM := ret_Make03 (!a) (words (val ys - val xs)) (Wd_words _) (by omega)
      rw [val_words, show sg (!a) (val ys - val xs) = sg a (val xs) + sg (!a) (val ys) by unfold sg; cases a <;> simp <;> omega] at hM
      generalize sg a (val xs) + sg (!a) (val ys) = w at *
      unfold zv at *
      cases a with
      | true =>
        rw [show (!true) = false from rfl] at hM ⊢
        refine RetN_start Tryz.func213 (by kernel_rfl) rfl fun Q hQ hQ2 => ?_; rw [Tryz.ntmps213]; simp only [u, i64, Nat.reduceSub, Nat.reduceAdd, bm]
        repeat (first | ((first | refine Gs ?_ | refine Gr ?_); simp (disch := omega) only [u, i64, ax, eq_self, if_true, if_false, Nat.reduceAdd, Int.reduceToNat, Int.reduceAdd, tvs, bs]; first | refine aA ?_ | ((first | refine cR hC ?_ | refine cR hS ?_ | refine cR hM ?_); simp (disch := omega) only [u, i64, ax, eq_self, if_true, if_false, Nat.reduceAdd, Int.reduceToNat, Int.reduceAdd, tvs, bs]; try refine aA ?_)) | ((first | refine cR hC ?_ | refine cR hS ?_ | refine cR hM ?_); simp (disch := omega) only [u, i64, ax, eq_self, if_true, if_false, Nat.reduceAdd, Int.reduceToNat, Int.reduceAdd, tvs, bs]; try refine aA ?_) | refine G_seq ?_ | refine G_block ?_ | refine G_condT rfl ?_ | refine G_condF rfl ?_ | refine G_skip ?_ | refine G_ret ?_ | refine G_exit ?_ | refine q_tn ?_ | refine q_tr ?_ | refine q_tx ?_ | refine q_bn ?_ | refine q_br ?_ | refine q_bx ?_ | refine q_by (by decide) ?_)
        (refine FinQ hQ (congrArg Array.toList Tryz.results213) _ _ ?_); simp (disch := omega) only [u, i64, ax, if_true, forall_const, reduceCtorEq, implies_true, tvs, bf]
      | false =>
        rw [show (!false) = true from rfl] at hM ⊢
        refine RetN_start Tryz.func213 (by kernel_rfl) rfl fun Q hQ hQ2 => ?_; rw [Tryz.ntmps213]; simp only [u, i64, Nat.reduceSub, Nat.reduceAdd, bm]
        repeat (first | ((first | refine Gs ?_ | refine Gr ?_); simp (disch := omega) only [u, i64, ax, eq_self, if_true, if_false, Nat.reduceAdd, Int.reduceToNat, Int.reduceAdd, tvs, bs]; first | refine aA ?_ | ((first | refine cR hC ?_ | refine cR hS ?_ | refine cR hM ?_); simp (disch := omega) only [u, i64, ax, eq_self, if_true, if_false, Nat.reduceAdd, Int.reduceToNat, Int.reduceAdd, tvs, bs]; try refine aA ?_)) | ((first | refine cR hC ?_ | refine cR hS ?_ | refine cR hM ?_); simp (disch := omega) only [u, i64, ax, eq_self, if_true, if_false, Nat.reduceAdd, Int.reduceToNat, Int.reduceAdd, tvs, bs]; try refine aA ?_) | refine G_seq ?_ | refine G_block ?_ | refine G_condT rfl ?_ | refine G_condF rfl ?_ | refine G_skip ?_ | refine G_ret ?_ | refine G_exit ?_ | refine q_tn ?_ | refine q_tr ?_ | refine q_tx ?_ | refine q_bn ?_ | refine q_br ?_ | refine q_bx ?_ | refine q_by (by decide) ?_)
        (refine FinQ hQ (congrArg Array.toList Tryz.results213) _ _ ?_); simp (disch := omega) only [u, i64, ax, if_true, forall_const, reduceCtorEq, implies_true, tvs, bf]
    · have hzz : ¬ z < 0 := fun h => hlt (hz.1 h)
      have hS := ret_rSubA xs ys hx hy (by omega) (by omega) (by omega)
      have hSl := length_mono (Nat.sub_le (val xs) (val ys))
      have hM := ret_Make03 a (words (val xs - val ys)) (Wd_words _) (by omega)
      rw [val_words, show sg a (val xs - val ys) = sg a (val xs) + sg (!a) (val ys) by unfold sg; cases a <;> simp <;> omega] at hM
      generalize sg a (val xs) + sg (!a) (val ys) = w at *
      unfold zv at *
      cases a with
      | true =>
        rw [show (!true) = false from rfl]
        refine RetN_start Tryz.func213 (by kernel_rfl) rfl fun Q hQ hQ2 => ?_; rw [Tryz.ntmps213]; simp only [u, i64, Nat.reduceSub, Nat.reduceAdd, bm]
        repeat (first | ((first | refine Gs ?_ | refine Gr ?_); simp (disch := omega) only [u, i64, ax, eq_self, if_true, if_false, Nat.reduceAdd, Int.reduceToNat, Int.reduceAdd, tvs, bs]; first | refine aA ?_ | ((first | refine cR hC ?_ | refine cR hS ?_ | refine cR hM ?_); simp (disch := omega) only [u, i64, ax, eq_self, if_true, if_false, Nat.reduceAdd, Int.reduceToNat, Int.reduceAdd, tvs, bs]; try refine aA ?_)) | ((first | refine cR hC ?_ | refine cR hS ?_ | refine cR hM ?_); simp (disch := omega) only [u, i64, ax, eq_self, if_true, if_false, Nat.reduceAdd, Int.reduceToNat, Int.reduceAdd, tvs, bs]; try refine aA ?_) | refine G_seq ?_ | refine G_block ?_ | refine G_condT rfl ?_ | refine G_condF rfl ?_ | refine G_skip ?_ | refine G_ret ?_ | refine G_exit ?_ | refine q_tn ?_ | refine q_tr ?_ | refine q_tx ?_ | refine q_bn ?_ | refine q_br ?_ | refine q_bx ?_ | refine q_by (by decide) ?_)
        (refine FinQ hQ (congrArg Array.toList Tryz.results213) _ _ ?_); simp (disch := omega) only [u, i64, ax, if_true, forall_const, reduceCtorEq, implies_true, tvs, bf]
      | false =>
        rw [show (!false) = true from rfl]
        refine RetN_start Tryz.func213 (by kernel_rfl) rfl fun Q hQ hQ2 => ?_; rw [Tryz.ntmps213]; simp only [u, i64, Nat.reduceSub, Nat.reduceAdd, bm]
        repeat (first | ((first | refine Gs ?_ | refine Gr ?_); simp (disch := omega) only [u, i64, ax, eq_self, if_true, if_false, Nat.reduceAdd, Int.reduceToNat, Int.reduceAdd, tvs, bs]; first | refine aA ?_ | ((first | refine cR hC ?_ | refine cR hS ?_ | refine cR hM ?_); simp (disch := omega) only [u, i64, ax, eq_self, if_true, if_false, Nat.reduceAdd, Int.reduceToNat, Int.reduceAdd, tvs, bs]; try refine aA ?_)) | ((first | refine cR hC ?_ | refine cR hS ?_ | refine cR hM ?_); simp (disch := omega) only [u, i64, ax, eq_self, if_true, if_false, Nat.reduceAdd, Int.reduceToNat, Int.reduceAdd, tvs, bs]; try refine aA ?_) | refine G_seq ?_ | refine G_block ?_ | refine G_condT rfl ?_ | refine G_condF rfl ?_ | refine G_skip ?_ | refine G_ret ?_ | refine G_exit ?_ | refine q_tn ?_ | refine q_tr ?_ | refine q_tx ?_ | refine q_bn ?_ | refine q_br ?_ | refine q_bx ?_ | refine q_by (by decide) ?_)
        (refine FinQ hQ (congrArg Array.toList Tryz.results213) _ _ ?_); simp (disch := omega) only [u, i64, ax, if_true, forall_const, reduceCtorEq, implies_true, tvs, bf]
  cases a <;> cases b
  · exact key false
  · exact key2 false
  · exact key2 true
  · exact key true
theorem ret_Sub03 (a b : Bool) (xs ys : List Nat) (hx : Wd xs) (hy : Wd ys) (hl : xs.length ≤ 10000) (hl2 : ys.length ≤ 10000) : Ret Tryz.prog GEs 233 [.agg [.bool a, ws xs], .agg [.bool b, ws ys]] (zv (sg a (val xs) - sg b (val ys))) := by
  have hN := ret_Neg03 b ys hy (by omega)
  have h2 := length_words_val_le hy
  have hab : (-sg b (val ys)).natAbs = val ys := by unfold sg; split <;> omega
  have hA := ret_Add03 a (decide (-sg b (val ys) < 0)) xs (words (-sg b (val ys)).natAbs) hx (Wd_words _) hl (by rw [hab]; omega)
  rw [val_words, sg_zv, ← Int.sub_eq_add_neg] at hA
  generalize sg a (val xs) - sg b (val ys) = w at *
  generalize -sg b (val ys) = v at *
  unfold zv at *
  refine RetN_start Tryz.func233 (by kernel_rfl) rfl fun Q hQ hQ2 => ?_; rw [Tryz.ntmps233]; simp only [u, i64, Nat.reduceSub, Nat.reduceAdd, bm]
  repeat (first | ((first | refine Gs ?_ | refine Gr ?_); simp (disch := omega) only [u, i64, ax, eq_self, if_true, if_false, Nat.reduceAdd, Int.reduceToNat, Int.reduceAdd, tvs, bs]; first | refine aA ?_ | ((first | refine cR hN ?_ | refine cR hA ?_); simp (disch := omega) only [u, i64, ax, eq_self, if_true, if_false, Nat.reduceAdd, Int.reduceToNat, Int.reduceAdd, tvs, bs]; try refine aA ?_)) | ((first | refine cR hN ?_ | refine cR hA ?_); simp (disch := omega) only [u, i64, ax, eq_self, if_true, if_false, Nat.reduceAdd, Int.reduceToNat, Int.reduceAdd, tvs, bs]; try refine aA ?_) | refine G_seq ?_ | refine G_block ?_ | refine G_condT rfl ?_ | refine G_condF rfl ?_ | refine G_skip ?_ | refine G_ret ?_ | refine G_exit ?_ | refine q_tn ?_ | refine q_tr ?_ | refine q_tx ?_ | refine q_bn ?_ | refine q_br ?_ | refine q_bx ?_ | refine q_by (by decide) ?_)
  (refine FinQ hQ (congrArg Array.toList Tryz.results233) _ _ ?_); simp (disch := omega) only [u, i64, ax, if_true, forall_const, reduceCtorEq, implies_true, tvs, bf]
theorem ret_Sub11 (a b : Bool) (xs ys : List Nat) (hx : Wd xs) (hy : Wd ys) (hl : xs.length ≤ 10000) (hl2 : ys.length ≤ 10000) : Ret Tryz.prog GEs 171 [.agg [.bool a, ws xs], .agg [.bool b, ws ys]] (zv (sg a (val xs) - sg b (val ys))) := by
  have hA := ret_Sub03 a b xs ys hx hy hl hl2
  generalize sg a (val xs) - sg b (val ys) = w at *
  unfold zv at *
  refine RetN_start Tryz.func171 (by kernel_rfl) rfl fun Q hQ hQ2 => ?_; rw [Tryz.ntmps171]; simp only [u, i64, Nat.reduceSub, Nat.reduceAdd, bm]
  repeat (first | ((first | refine Gs ?_ | refine Gr ?_); simp (disch := omega) only [u, i64, ax, eq_self, if_true, if_false, Nat.reduceAdd, Int.reduceToNat, Int.reduceAdd, tvs, bs]; first | refine aA ?_ | (refine cR hA ?_; simp (disch := omega) only [u, i64, ax, eq_self, if_true, if_false, Nat.reduceAdd, Int.reduceToNat, Int.reduceAdd, tvs, bs]; try refine aA ?_)) | (refine cR hA ?_; simp (disch := omega) only [u, i64, ax, eq_self, if_true, if_false, Nat.reduceAdd, Int.reduceToNat, Int.reduceAdd, tvs, bs]; try refine aA ?_) | refine G_seq ?_ | refine G_block ?_ | refine G_condT rfl ?_ | refine G_condF rfl ?_ | refine G_skip ?_ | refine G_ret ?_ | refine G_exit ?_ | refine q_tn ?_ | refine q_tr ?_ | refine q_tx ?_ | refine q_bn ?_ | refine q_br ?_ | refine q_bx ?_ | refine q_by (by decide) ?_)
  (refine FinQ hQ (congrArg Array.toList Tryz.results171) _ _ ?_); simp (disch := omega) only [u, i64, ax, if_true, forall_const, reduceCtorEq, implies_true, tvs, bf]
theorem sgn_zv (z : Int) : sgn (decide (z < 0)) z.natAbs = sgnI z := by
  unfold sgn sgnI
  by_cases h0 : z = 0
  · subst h0; rfl
  · rw [if_neg (by omega)]
    by_cases h : z < 0
    · rw [decT h, if_pos rfl, if_pos h]
    · rw [decF h, if_neg (by decide), if_neg h, if_pos (by omega)]
theorem ret_Cmp11 (a b : Bool) (xs ys : List Nat) (hx : Wd xs) (hy : Wd ys) (hl : xs.length ≤ 10000) (hl2 : ys.length ≤ 10000) : Ret Tryz.prog GEs 82 [.agg [.bool a, ws xs], .agg [.bool b, ws ys]] (i64 (sgnI (sg a (val xs) - sg b (val ys)))) := by
  have hS := ret_Sub11 a b xs ys hx hy hl hl2
  have h1 := length_words_val_le hx
  have h2 := length_words_val_le hy
  have hlen : (words (sg a (val xs) - sg b (val ys)).natAbs).length ≤ 20002 := by
    have h3 : (sg a (val xs) - sg b (val ys)).natAbs ≤ val xs + val ys := by unfold sg; split <;> split <;> omega
    have := length_mono h3
    have := length_add (val xs) (val ys)
    omega
  have hG := ret_Sign11 (decide (sg a (val xs) - sg b (val ys) < 0)) (words (sg a (val xs) - sg b (val ys)).natAbs) (Wd_words _) (by omega)
  rw [val_words, sgn_zv] at hG
  generalize sg a (val xs) - sg b (val ys) = w at *
  unfold zv at *
  refine RetN_start Tryz.func82 (by kernel_rfl) rfl fun Q hQ hQ2 => ?_; rw [Tryz.ntmps82]; simp only [u, i64, Nat.reduceSub, Nat.reduceAdd, bm]
  repeat (first | ((first | refine Gs ?_ | refine Gr ?_); simp (disch := omega) only [u, i64, ax, eq_self, if_true, if_false, Nat.reduceAdd, Int.reduceToNat, Int.reduceAdd, tvs, bs]; first | refine aA ?_ | ((first | refine cR hS ?_ | refine cR hG ?_); simp (disch := omega) only [u, i64, ax, eq_self, if_true, if_false, Nat.reduceAdd, Int.reduceToNat, Int.reduceAdd, tvs, bs]; try refine aA ?_)) | ((first | refine cR hS ?_ | refine cR hG ?_); simp (disch := omega) only [u, i64, ax, eq_self, if_true, if_false, Nat.reduceAdd, Int.reduceToNat, Int.reduceAdd, tvs, bs]; try refine aA ?_) | refine G_seq ?_ | refine G_block ?_ | refine G_condT rfl ?_ | refine G_condF rfl ?_ | refine G_skip ?_ | refine G_ret ?_ | refine G_exit ?_ | refine q_tn ?_ | refine q_tr ?_ | refine q_tx ?_ | refine q_bn ?_ | refine q_br ?_ | refine q_bx ?_ | refine q_by (by decide) ?_)
  (refine FinQ hQ (congrArg Array.toList Tryz.results82) _ _ ?_); simp (disch := omega) only [u, i64, ax, if_true, forall_const, reduceCtorEq, implies_true, tvs, bf]
/-- The reference compares two fractions. -/
def cpQ (a : Bool) (n d : Nat) (b : Bool) (n' d' : Nat) : Int := sgnI (sg a n * d' - sg b n' * d)
theorem sg_false (n : Nat) : sg false n = n := rfl
theorem ret_Cmp12 (a b : Bool) (ns dn ms en : List Nat) (hn : Wd ns) (hd : Wd dn) (hm : Wd ms) (he : Wd en) (l1 : ns.length ≤ 2000) (l2 : dn.length ≤ 2000) (l3 : ms.length ≤ 2000) (l4 : en.length ≤ 2000) :
    Ret Tryz.prog GEs 24 [.agg [.bool a, ws ns, ws dn], .agg [.bool b, ws ms, ws en]] (i64 (cpQ a (val ns) (val dn) b (val ms) (val en))) := by
  have v1 := length_words_val_le hn
  have v2 := length_words_val_le hd
  have v3 := length_words_val_le hm
  have v4 := length_words_val_le he
  have hM1 := ret_Make11z false en he (by omega)
  have hM2 := ret_Make11z false dn hd (by omega)
  rw [sg_false] at hM1 hM2
  have hX1 := ret_Mul11 a false ns (words (val en)) hn (Wd_words _) (by omega) (by omega)
  have hX2 := ret_Mul11 b false ms (words (val dn)) hm (Wd_words _) (by omega) (by omega)
  rw [val_words, sg_false] at hX1 hX2
  have ab : ∀ (c : Bool) (x y : Nat), (sg c x * (y : Int)).natAbs = x * y := fun c x y => by
    rw [Int.natAbs_mul, Int.natAbs_natCast]
    congr 1
    unfold sg; split <;> omega
  have m1 := length_mul (val ns) (val en)
  have m2 := length_mul (val ms) (val dn)
  have hC := ret_Cmp11 (decide (sg a (val ns) * (val en : Int) < 0)) (decide (sg b (val ms) * (val dn : Int) < 0)) (words (sg a (val ns) * (val en : Int)).natAbs) (words (sg b (val ms) * (val dn : Int)).natAbs) (Wd_words _) (Wd_words _) (by rw [ab]; omega) (by rw [ab]; omega)
  rw [val_words, val_words, sg_zv, sg_zv] at hC
  unfold cpQ
  have z1 : zv (val en : Int) = .agg [.bool false, nat (val en)] := by unfold zv; rw [decF (show ¬ (val en : Int) < 0 by omega), Int.natAbs_natCast]
  have z2 : zv (val dn : Int) = .agg [.bool false, nat (val dn)] := by unfold zv; rw [decF (show ¬ (val dn : Int) < 0 by omega), Int.natAbs_natCast]
  rw [z1] at hM1
  rw [z2] at hM2
  generalize sg a (val ns) * (val en : Int) = P at *
  generalize sg b (val ms) * (val dn : Int) = R at *
  unfold zv at *
  refine RetN_start Tryz.func24 (by kernel_rfl) rfl fun Q hQ hQ2 => ?_; rw [Tryz.ntmps24]; simp only [u, i64, Nat.reduceSub, Nat.reduceAdd, bm]
  repeat (first | ((first | refine Gs ?_ | refine Gr ?_); simp (disch := omega) only [u, i64, ax, eq_self, if_true, if_false, Nat.reduceAdd, Int.reduceToNat, Int.reduceAdd, tvs, bs]; first | refine aA ?_ | ((first | refine cR hM1 ?_ | refine cR hX1 ?_ | refine cR hM2 ?_ | refine cR hX2 ?_ | refine cR hC ?_); simp (disch := omega) only [u, i64, ax, eq_self, if_true, if_false, Nat.reduceAdd, Int.reduceToNat, Int.reduceAdd, tvs, bs]; try refine aA ?_)) | ((first | refine cR hM1 ?_ | refine cR hX1 ?_ | refine cR hM2 ?_ | refine cR hX2 ?_ | refine cR hC ?_); simp (disch := omega) only [u, i64, ax, eq_self, if_true, if_false, Nat.reduceAdd, Int.reduceToNat, Int.reduceAdd, tvs, bs]; try refine aA ?_) | refine G_seq ?_ | refine G_block ?_ | refine G_condT rfl ?_ | refine G_condF rfl ?_ | refine G_skip ?_ | refine G_ret ?_ | refine G_exit ?_ | refine q_tn ?_ | refine q_tr ?_ | refine q_tx ?_ | refine q_bn ?_ | refine q_br ?_ | refine q_bx ?_ | refine q_by (by decide) ?_)
  (refine FinQ hQ (congrArg Array.toList Tryz.results24) _ _ ?_); simp (disch := omega) only [u, i64, ax, if_true, forall_const, reduceCtorEq, implies_true, tvs, bf]
end Go.Proofs
set_option linter.unusedVariables false
set_option linter.unusedSimpArgs false
namespace Go.Proofs
open Go.Ax
theorem ret_sign15 (z : Int) (h1 : -4611686018427387904 ≤ z) (h2 : z ≤ 4611686018427387904) : Ret Tryz.prog GEs 87 [i64 z] (i64 (sgnI z)) := by
  unfold sgnI
  by_cases c1 : z < 0
  · rw [if_pos c1]
    refine RetN_start Tryz.func87 (by kernel_rfl) rfl fun Q hQ hQ2 => ?_; rw [Tryz.ntmps87]; simp only [u, i64, Nat.reduceSub, Nat.reduceAdd, bm]
    repeat (first | ((first | refine Gs ?_ | refine Gr ?_); simp (disch := omega) only [u, i64, ax, eq_self, if_true, if_false, Nat.reduceAdd, Int.reduceToNat, Int.reduceAdd, tvs, bs]; refine aA ?_) | refine G_seq ?_ | refine G_block ?_ | refine G_condT rfl ?_ | refine G_condF rfl ?_ | refine G_skip ?_ | refine G_ret ?_ | refine G_exit ?_ | refine q_tn ?_ | refine q_tr ?_ | refine q_tx ?_ | refine q_bn ?_ | refine q_br ?_ | refine q_bx ?_ | refine q_by (by decide) ?_)
    (refine FinQ hQ (congrArg Array.toList Tryz.results87) _ _ ?_); simp (disch := omega) only [u, i64, ax, if_true, forall_const, reduceCtorEq, implies_true, tvs, bf]
  · rw [if_neg c1]
    by_cases c2 : 0 < z
    · rw [if_pos c2]
      refine RetN_start Tryz.func87 (by kernel_rfl) rfl fun Q hQ hQ2 => ?_; rw [Tryz.ntmps87]; simp only [u, i64, Nat.reduceSub, Nat.reduceAdd, bm]
      repeat (first | ((first | refine Gs ?_ | refine Gr ?_); simp (disch := omega) only [u, i64, ax, eq_self, if_true, if_false, Nat.reduceAdd, Int.reduceToNat, Int.reduceAdd, tvs, bs]; refine aA ?_) | refine G_seq ?_ | refine G_block ?_ | refine G_condT rfl ?_ | refine G_condF rfl ?_ | refine G_skip ?_ | refine G_ret ?_ | refine G_exit ?_ | refine q_tn ?_ | refine q_tr ?_ | refine q_tx ?_ | refine q_bn ?_ | refine q_br ?_ | refine q_bx ?_ | refine q_by (by decide) ?_)
      (refine FinQ hQ (congrArg Array.toList Tryz.results87) _ _ ?_); simp (disch := omega) only [u, i64, ax, if_true, forall_const, reduceCtorEq, implies_true, tvs, bf]
    · rw [if_neg c2]
      refine RetN_start Tryz.func87 (by kernel_rfl) rfl fun Q hQ hQ2 => ?_; rw [Tryz.ntmps87]; simp only [u, i64, Nat.reduceSub, Nat.reduceAdd, bm]
      repeat (first | ((first | refine Gs ?_ | refine Gr ?_); simp (disch := omega) only [u, i64, ax, eq_self, if_true, if_false, Nat.reduceAdd, Int.reduceToNat, Int.reduceAdd, tvs, bs]; refine aA ?_) | refine G_seq ?_ | refine G_block ?_ | refine G_condT rfl ?_ | refine G_condF rfl ?_ | refine G_skip ?_ | refine G_ret ?_ | refine G_exit ?_ | refine q_tn ?_ | refine q_tr ?_ | refine q_tx ?_ | refine q_bn ?_ | refine q_br ?_ | refine q_bx ?_ | refine q_by (by decide) ?_)
      (refine FinQ hQ (congrArg Array.toList Tryz.results87) _ _ ?_); simp (disch := omega) only [u, i64, ax, if_true, forall_const, reduceCtorEq, implies_true, tvs, bf]
theorem ret_rank15 (x : FV) (hk : x.kind ≤ 2) : Ret Tryz.prog GEs 86 [flv x] (i64 (rkF x)) := by
  obtain ⟨kd, neg, e, m⟩ := x
  simp only at hk
  have h3 : kd = 0 ∨ kd = 1 ∨ kd = 2 := by omega
  unfold rkF flv
  simp only
  rcases h3 with rfl | rfl | rfl <;> cases neg
  · show Ret Tryz.prog GEs 86 [.agg [i64 0, .bool false, i64 e, nat m]] (i64 0)
    refine RetN_start Tryz.func86 (by kernel_rfl) rfl fun Q hQ hQ2 => ?_; rw [Tryz.ntmps86]; simp only [u, i64, Nat.reduceSub, Nat.reduceAdd, bm]
    repeat (first | ((first | refine Gs ?_ | refine Gr ?_); simp (disch := omega) only [u, i64, ax, eq_self, if_true, if_false, Nat.reduceAdd, Int.reduceToNat, Int.reduceAdd, tvs, bs]; refine aA ?_) | refine G_seq ?_ | refine G_block ?_ | refine G_condT rfl ?_ | refine G_condF rfl ?_ | refine G_skip ?_ | refine G_ret ?_ | refine G_exit ?_ | refine q_tn ?_ | refine q_tr ?_ | refine q_tx ?_ | refine q_bn ?_ | refine q_br ?_ | refine q_bx ?_ | refine q_by (by decide) ?_)
    (refine FinQ hQ (congrArg Array.toList Tryz.results86) _ _ ?_); simp (disch := omega) only [u, i64, ax, if_true, forall_const, reduceCtorEq, implies_true, tvs, bf]
  · show Ret Tryz.prog GEs 86 [.agg [i64 0, .bool true, i64 e, nat m]] (i64 0)
    refine RetN_start Tryz.func86 (by kernel_rfl) rfl fun Q hQ hQ2 => ?_; rw [Tryz.ntmps86]; simp only [u, i64, Nat.reduceSub, Nat.reduceAdd, bm]
    repeat (first | ((first | refine Gs ?_ | refine Gr ?_); simp (disch := omega) only [u, i64, ax, eq_self, if_true, if_false, Nat.reduceAdd, Int.reduceToNat, Int.reduceAdd, tvs, bs]; refine aA ?_) | refine G_seq ?_ | refine G_block ?_ | refine G_condT rfl ?_ | refine G_condF rfl ?_ | refine G_skip ?_ | refine G_ret ?_ | refine G_exit ?_ | refine q_tn ?_ | refine q_tr ?_ | refine q_tx ?_ | refine q_bn ?_ | refine q_br ?_ | refine q_bx ?_ | refine q_by (by decide) ?_)
    (refine FinQ hQ (congrArg Array.toList Tryz.results86) _ _ ?_); simp (disch := omega) only [u, i64, ax, if_true, forall_const, reduceCtorEq, implies_true, tvs, bf]
    all_goals rfl
  · show Ret Tryz.prog GEs 86 [.agg [i64 1, .bool false, i64 e, nat m]] (i64 1)
    refine RetN_start Tryz.func86 (by kernel_rfl) rfl fun Q hQ hQ2 => ?_; rw [Tryz.ntmps86]; simp only [u, i64, Nat.reduceSub, Nat.reduceAdd, bm]
    repeat (first | ((first | refine Gs ?_ | refine Gr ?_); simp (disch := omega) only [u, i64, ax, eq_self, if_true, if_false, Nat.reduceAdd, Int.reduceToNat, Int.reduceAdd, tvs, bs]; refine aA ?_) | refine G_seq ?_ | refine G_block ?_ | refine G_condT rfl ?_ | refine G_condF rfl ?_ | refine G_skip ?_ | refine G_ret ?_ | refine G_exit ?_ | refine q_tn ?_ | refine q_tr ?_ | refine q_tx ?_ | refine q_bn ?_ | refine q_br ?_ | refine q_bx ?_ | refine q_by (by decide) ?_)
    (refine FinQ hQ (congrArg Array.toList Tryz.results86) _ _ ?_); simp (disch := omega) only [u, i64, ax, if_true, forall_const, reduceCtorEq, implies_true, tvs, bf]
  · show Ret Tryz.prog GEs 86 [.agg [i64 1, .bool true, i64 e, nat m]] (i64 (-1))
    refine RetN_start Tryz.func86 (by kernel_rfl) rfl fun Q hQ hQ2 => ?_; rw [Tryz.ntmps86]; simp only [u, i64, Nat.reduceSub, Nat.reduceAdd, bm]
    repeat (first | ((first | refine Gs ?_ | refine Gr ?_); simp (disch := omega) only [u, i64, ax, eq_self, if_true, if_false, Nat.reduceAdd, Int.reduceToNat, Int.reduceAdd, tvs, bs]; refine aA ?_) | refine G_seq ?_ | refine G_block ?_ | refine G_condT rfl ?_ | refine G_condF rfl ?_ | refine G_skip ?_ | refine G_ret ?_ | refine G_exit ?_ | refine q_tn ?_ | refine q_tr ?_ | refine q_tx ?_ | refine q_bn ?_ | refine q_br ?_ | refine q_bx ?_ | refine q_by (by decide) ?_)
    (refine FinQ hQ (congrArg Array.toList Tryz.results86) _ _ ?_); simp (disch := omega) only [u, i64, ax, if_true, forall_const, reduceCtorEq, implies_true, tvs, bf]
    all_goals rfl
  · show Ret Tryz.prog GEs 86 [.agg [i64 2, .bool false, i64 e, nat m]] (i64 2)
    refine RetN_start Tryz.func86 (by kernel_rfl) rfl fun Q hQ hQ2 => ?_; rw [Tryz.ntmps86]; simp only [u, i64, Nat.reduceSub, Nat.reduceAdd, bm]
    repeat (first | ((first | refine Gs ?_ | refine Gr ?_); simp (disch := omega) only [u, i64, ax, eq_self, if_true, if_false, Nat.reduceAdd, Int.reduceToNat, Int.reduceAdd, tvs, bs]; refine aA ?_) | refine G_seq ?_ | refine G_block ?_ | refine G_condT rfl ?_ | refine G_condF rfl ?_ | refine G_skip ?_ | refine G_ret ?_ | refine G_exit ?_ | refine q_tn ?_ | refine q_tr ?_ | refine q_tx ?_ | refine q_bn ?_ | refine q_br ?_ | refine q_bx ?_ | refine q_by (by decide) ?_)
    (refine FinQ hQ (congrArg Array.toList Tryz.results86) _ _ ?_); simp (disch := omega) only [u, i64, ax, if_true, forall_const, reduceCtorEq, implies_true, tvs, bf]
  · show Ret Tryz.prog GEs 86 [.agg [i64 2, .bool true, i64 e, nat m]] (i64 (-2))
    refine RetN_start Tryz.func86 (by kernel_rfl) rfl fun Q hQ hQ2 => ?_; rw [Tryz.ntmps86]; simp only [u, i64, Nat.reduceSub, Nat.reduceAdd, bm]
    repeat (first | ((first | refine Gs ?_ | refine Gr ?_); simp (disch := omega) only [u, i64, ax, eq_self, if_true, if_false, Nat.reduceAdd, Int.reduceToNat, Int.reduceAdd, tvs, bs]; refine aA ?_) | refine G_seq ?_ | refine G_block ?_ | refine G_condT rfl ?_ | refine G_condF rfl ?_ | refine G_skip ?_ | refine G_ret ?_ | refine G_exit ?_ | refine q_tn ?_ | refine q_tr ?_ | refine q_tx ?_ | refine q_bn ?_ | refine q_br ?_ | refine q_bx ?_ | refine q_by (by decide) ?_)
    (refine FinQ hQ (congrArg Array.toList Tryz.results86) _ _ ?_); simp (disch := omega) only [u, i64, ax, if_true, forall_const, reduceCtorEq, implies_true, tvs, bf]
    all_goals rfl
theorem ret_Exp15 (k e : Int) (neg : Bool) (m : Nat) (hl : (words m).length ≤ 10000) (h1 : -1000000 ≤ e) (h2 : e ≤ 1000000) : Ret Tryz.prog GEs 176 [.agg [i64 k, .bool neg, i64 e, nat m]] (i64 ((bl m : Int) - 1 + e)) := by
  have hL := ret_rLen (words m) (Wd_words _) (by omega)
  rw [val_words] at hL
  have hb := bl_len m
  by_cases h0 : 1 ≤ bl m
  · rw [show (bl m : Int) - 1 + e = ((bl m - 1 : Nat) : Int) + e by omega]
    refine RetN_start Tryz.func176 (by kernel_rfl) rfl fun Q hQ hQ2 => ?_; rw [Tryz.ntmps176]; simp only [u, i64, Nat.reduceSub, Nat.reduceAdd, bm]
    repeat (first | ((first | refine Gs ?_ | refine Gr ?_); simp (disch := omega) only [u, i64, ax, eq_self, if_true, if_false, Nat.reduceAdd, Int.reduceToNat, Int.reduceAdd, tvs, bs]; first | refine aA ?_ | (refine cR hL ?_; simp (disch := omega) only [u, i64, ax, eq_self, if_true, if_false, Nat.reduceAdd, Int.reduceToNat, Int.reduceAdd, tvs, bs]; try refine aA ?_)) | (refine cR hL ?_; simp (disch := omega) only [u, i64, ax, eq_self, if_true, if_false, Nat.reduceAdd, Int.reduceToNat, Int.reduceAdd, tvs, bs]; try refine aA ?_) | refine G_seq ?_ | refine G_block ?_ | refine G_condT rfl ?_ | refine G_condF rfl ?_ | refine G_skip ?_ | refine G_ret ?_ | refine G_exit ?_ | refine q_tn ?_ | refine q_tr ?_ | refine q_tx ?_ | refine q_bn ?_ | refine q_br ?_ | refine q_bx ?_ | refine q_by (by decide) ?_)
    (refine FinQ hQ (congrArg Array.toList Tryz.results176) _ _ ?_); simp (disch := omega) only [u, i64, ax, if_true, forall_const, reduceCtorEq, implies_true, tvs, bf]
  · refine RetN_start Tryz.func176 (by kernel_rfl) rfl fun Q hQ hQ2 => ?_; rw [Tryz.ntmps176]; simp only [u, i64, Nat.reduceSub, Nat.reduceAdd, bm]
    repeat (first | ((first | refine Gs ?_ | refine Gr ?_); simp (disch := omega) only [u, i64, ax, eq_self, if_true, if_false, Nat.reduceAdd, Int.reduceToNat, Int.reduceAdd, tvs, bs]; first | refine aA ?_ | (refine cR hL ?_; simp (disch := omega) only [u, i64, ax, eq_self, if_true, if_false, Nat.reduceAdd, Int.reduceToNat, Int.reduceAdd, tvs, bs]; try refine aA ?_)) | (refine cR hL ?_; simp (disch := omega) only [u, i64, ax, eq_self, if_true, if_false, Nat.reduceAdd, Int.reduceToNat, Int.reduceAdd, tvs, bs]; try refine aA ?_) | refine G_seq ?_ | refine G_block ?_ | refine G_condT rfl ?_ | refine G_condF rfl ?_ | refine G_skip ?_ | refine G_ret ?_ | refine G_exit ?_ | refine q_tn ?_ | refine q_tr ?_ | refine q_tx ?_ | refine q_bn ?_ | refine q_br ?_ | refine q_bx ?_ | refine q_by (by decide) ?_)
    (refine FinQ hQ (congrArg Array.toList Tryz.results176) _ _ ?_); simp (disch := omega) only [u, i64, ax, if_true, forall_const, reduceCtorEq, implies_true, tvs, bf]
set_option maxRecDepth 100000 in
set_option maxHeartbeats 2000000 in
theorem ret_size15 (k k' e e' : Int) (neg neg' : Bool) (m m' : Nat) (hl : (words m).length ≤ 5000) (hl' : (words m').length ≤ 5000) (h1 : -400000 ≤ e) (h2 : e ≤ 400000) (h3 : -400000 ≤ e') (h4 : e' ≤ 400000) :
    Ret Tryz.prog GEs 88 [.agg [i64 k, .bool neg, i64 e, nat m], .agg [i64 k', .bool neg', i64 e', nat m']] (i64 (szF m e m' e')) := by
  have hE := ret_Exp15 k e neg m (by omega) (by omega) (by omega)
  have hE' := ret_Exp15 k' e' neg' m' (by omega) (by omega) (by omega)
  have hb := bl_len m
  have hb' := bl_len m'
  unfold szF
  have eA : ∀ m k : Nat, bl m ≤ 320000 → k ≤ 900000 → (words (m * 2 ^ k)).length ≤ 20001 := fun m k h1 h2 => by
    by_cases h0 : m = 0
    · subst h0; rw [Nat.zero_mul]; decide
    · exact length_bl (by rw [bl_mul _ _ h0]; omega)
  by_cases c1 : (bl m : Int) - 1 + e = (bl m' : Int) - 1 + e'
  · rw [if_neg (not_not_intro c1)]
    by_cases c2 : e' ≤ e
    · rw [if_pos c2]
      have hL := ret_rLeft (words m) (e - e').toNat (Wd_words _) (by omega) (by omega)
      rw [val_words] at hL
      have hlen := eA m (e - e').toNat (by omega) (by omega)
      have hC := ret_rCmp (words (m * 2 ^ (e - e').toNat)) (words m') (Wd_words _) (Wd_words _) (by omega) (by omega)
      rw [val_words, val_words] at hC
      have hs : e - e' = (((e - e').toNat : Nat) : Int) := by omega
      generalize cmpI (m * 2 ^ (e - e').toNat) m' = c at *
      generalize (bl m : Int) - 1 + e = E1 at *
      generalize (bl m' : Int) - 1 + e' = E2 at *
      generalize m * 2 ^ (e - e').toNat = M at *
      generalize (e - e').toNat = t at *
      refine RetN_start Tryz.func88 (by kernel_rfl) rfl fun Q hQ hQ2 => ?_; rw [Tryz.ntmps88]; simp only [u, i64, Nat.reduceSub, Nat.reduceAdd, bm]
      repeat (first | ((first | refine Gs ?_ | refine Gr ?_); simp (disch := omega) only [u, i64, ax, eq_self, if_true, if_false, Nat.reduceAdd, Int.reduceToNat, Int.reduceAdd, tvs, bs]; first | refine aA ?_ | ((first | refine cR hE ?_ | refine cR hE' ?_); simp (disch := omega) only [u, i64, ax, eq_self, if_true, if_false, Nat.reduceAdd, Int.reduceToNat, Int.reduceAdd, tvs, bs]; try refine aA ?_)) | ((first | refine cR hE ?_ | refine cR hE' ?_); simp (disch := omega) only [u, i64, ax, eq_self, if_true, if_false, Nat.reduceAdd, Int.reduceToNat, Int.reduceAdd, tvs, bs]; try refine aA ?_) | refine G_seq ?_ | refine G_block ?_ | refine G_condT rfl ?_ | refine G_condF rfl ?_ | refine G_skip ?_ | refine G_ret ?_ | refine G_exit ?_ | refine q_tn ?_ | refine q_tr ?_ | refine q_tx ?_ | refine q_bn ?_ | refine q_br ?_ | refine q_bx ?_ | refine q_by (by decide) ?_)
      ((first | refine Gs ?_ | refine Gr ?_); simp (disch := omega) only [u, i64, ax, eq_self, if_true, if_false, Nat.reduceAdd, Int.reduceToNat, Int.reduceAdd, tvs, bs])
      rw [hs]
      repeat (first | ((first | refine Gs ?_ | refine Gr ?_); simp (disch := omega) only [u, i64, ax, eq_self, if_true, if_false, Nat.reduceAdd, Int.reduceToNat, Int.reduceAdd, tvs, bs]; first | refine aA ?_ | ((first | refine cR hL ?_ | refine cR hC ?_); simp (disch := omega) only [u, i64, ax, eq_self, if_true, if_false, Nat.reduceAdd, Int.reduceToNat, Int.reduceAdd, tvs, bs]; try refine aA ?_)) | ((first | refine cR hL ?_ | refine cR hC ?_); simp (disch := omega) only [u, i64, ax, eq_self, if_true, if_false, Nat.reduceAdd, Int.reduceToNat, Int.reduceAdd, tvs, bs]; try refine aA ?_) | refine G_seq ?_ | refine G_block ?_ | refine G_condT rfl ?_ | refine G_condF rfl ?_ | refine G_skip ?_ | refine G_ret ?_ | refine G_exit ?_ | refine q_tn ?_ | refine q_tr ?_ | refine q_tx ?_ | refine q_bn ?_ | refine q_br ?_ | refine q_bx ?_ | refine q_by (by decide) ?_)
      (refine FinQ hQ (congrArg Array.toList Tryz.results88) _ _ ?_); simp (disch := omega) only [u, i64, ax, if_true, forall_const, reduceCtorEq, implies_true, tvs, bf]
    · rw [if_neg c2]
      have hL := ret_rLeft (words m') (e' - e).toNat (Wd_words _) (by omega) (by omega)
      rw [val_words] at hL
      have hlen := eA m' (e' - e).toNat (by omega) (by omega)
      have hC := ret_rCmp (words m) (words (m' * 2 ^ (e' - e).toNat)) (Wd_words _) (Wd_words _) (by omega) (by omega)
      rw [val_words, val_words] at hC
      have hs : e' - e = (((e' - e).toNat : Nat) : Int) := by omega
      generalize cmpI m (m' * 2 ^ (e' - e).toNat) = c at *
      generalize (bl m : Int) - 1 + e = E1 at *
      generalize (bl m' : Int) - 1 + e' = E2 at *
      generalize m' * 2 ^ (e' - e).toNat = M at *
      generalize (e' - e).toNat = t at *
      refine RetN_start Tryz.func88 (by kernel_rfl) rfl fun Q hQ hQ2 => ?_; rw [Tryz.ntmps88]; simp only [u, i64, Nat.reduceSub, Nat.reduceAdd, bm]
      repeat (first | ((first | refine Gs ?_ | refine Gr ?_); simp (disch := omega) only [u, i64, ax, eq_self, if_true, if_false, Nat.reduceAdd, Int.reduceToNat, Int.reduceAdd, tvs, bs]; first | refine aA ?_ | ((first | refine cR hE ?_ | refine cR hE' ?_); simp (disch := omega) only [u, i64, ax, eq_self, if_true, if_false, Nat.reduceAdd, Int.reduceToNat, Int.reduceAdd, tvs, bs]; try refine aA ?_)) | ((first | refine cR hE ?_ | refine cR hE' ?_); simp (disch := omega) only [u, i64, ax, eq_self, if_true, if_false, Nat.reduceAdd, Int.reduceToNat, Int.reduceAdd, tvs, bs]; try refine aA ?_) | refine G_seq ?_ | refine G_block ?_ | refine G_condT rfl ?_ | refine G_condF rfl ?_ | refine G_skip ?_ | refine G_ret ?_ | refine G_exit ?_ | refine q_tn ?_ | refine q_tr ?_ | refine q_tx ?_ | refine q_bn ?_ | refine q_br ?_ | refine q_bx ?_ | refine q_by (by decide) ?_)
      ((first | refine Gs ?_ | refine Gr ?_); simp (disch := omega) only [u, i64, ax, eq_self, if_true, if_false, Nat.reduceAdd, Int.reduceToNat, Int.reduceAdd, tvs, bs])
      rw [hs]
      repeat (first | ((first | refine Gs ?_ | refine Gr ?_); simp (disch := omega) only [u, i64, ax, eq_self, if_true, if_false, Nat.reduceAdd, Int.reduceToNat, Int.reduceAdd, tvs, bs]; first | refine aA ?_ | ((first | refine cR hL ?_ | refine cR hC ?_); simp (disch := omega) only [u, i64, ax, eq_self, if_true, if_false, Nat.reduceAdd, Int.reduceToNat, Int.reduceAdd, tvs, bs]; try refine aA ?_)) | ((first | refine cR hL ?_ | refine cR hC ?_); simp (disch := omega) only [u, i64, ax, eq_self, if_true, if_false, Nat.reduceAdd, Int.reduceToNat, Int.reduceAdd, tvs, bs]; try refine aA ?_) | refine G_seq ?_ | refine G_block ?_ | refine G_condT rfl ?_ | refine G_condF rfl ?_ | refine G_skip ?_ | refine G_ret ?_ | refine G_exit ?_ | refine q_tn ?_ | refine q_tr ?_ | refine q_tx ?_ | refine q_bn ?_ | refine q_br ?_ | refine q_bx ?_ | refine q_by (by decide) ?_)
      (refine FinQ hQ (congrArg Array.toList Tryz.results88) _ _ ?_); simp (disch := omega) only [u, i64, ax, if_true, forall_const, reduceCtorEq, implies_true, tvs, bf]
  · rw [if_pos c1]
    have hS := ret_sign15 ((bl m : Int) - 1 + e - ((bl m' : Int) - 1 + e')) (by omega) (by omega)
    have hbd : -4000000 ≤ (bl m : Int) - 1 + e ∧ (bl m : Int) - 1 + e ≤ 4000000 ∧ -4000000 ≤ (bl m' : Int) - 1 + e' ∧ (bl m' : Int) - 1 + e' ≤ 4000000 := by omega
    generalize sgnI ((bl m : Int) - 1 + e - ((bl m' : Int) - 1 + e')) = c at *
    generalize (bl m : Int) - 1 + e = E1 at *
    generalize (bl m' : Int) - 1 + e' = E2 at *
    refine RetN_start Tryz.func88 (by kernel_rfl) rfl fun Q hQ hQ2 => ?_; rw [Tryz.ntmps88]; simp only [u, i64, Nat.reduceSub, Nat.reduceAdd, bm]
    repeat (first | ((first | refine Gs ?_ | refine Gr ?_); simp (disch := omega) only [u, i64, ax, eq_self, if_true, if_false, Nat.reduceAdd, Int.reduceToNat, Int.reduceAdd, tvs, bs]; first | refine aA ?_ | ((first | refine cR hE ?_ | refine cR hE' ?_ | refine cR hS ?_); simp (disch := omega) only [u, i64, ax, eq_self, if_true, if_false, Nat.reduceAdd, Int.reduceToNat, Int.reduceAdd, tvs, bs]; try refine aA ?_)) | ((first | refine cR hE ?_ | refine cR hE' ?_ | refine cR hS ?_); simp (disch := omega) only [u, i64, ax, eq_self, if_true, if_false, Nat.reduceAdd, Int.reduceToNat, Int.reduceAdd, tvs, bs]; try refine aA ?_) | refine G_seq ?_ | refine G_block ?_ | refine G_condT rfl ?_ | refine G_condF rfl ?_ | refine G_skip ?_ | refine G_ret ?_ | refine G_exit ?_ | refine q_tn ?_ | refine q_tr ?_ | refine q_tx ?_ | refine q_bn ?_ | refine q_br ?_ | refine q_bx ?_ | refine q_by (by decide) ?_)
    (refine FinQ hQ (congrArg Array.toList Tryz.results88) _ _ ?_); simp (disch := omega) only [u, i64, ax, if_true, forall_const, reduceCtorEq, implies_true, tvs, bf]
set_option maxRecDepth 100000 in
set_option maxHeartbeats 2000000 in
theorem ret_Cmp15 (x y : FV) (hx : x.kind ≤ 2) (hy : y.kind ≤ 2) (hl : (words x.mag).length ≤ 5000) (hl' : (words y.mag).length ≤ 5000) (h1 : -400000 ≤ x.exp) (h2 : x.exp ≤ 400000) (h3 : -400000 ≤ y.exp) (h4 : y.exp ≤ 400000) :
    Ret Tryz.prog GEs 27 [flv x, flv y] (i64 (cpF x y)) := by
  have hr := ret_rank15 x hx
  have hr' := ret_rank15 y hy
  have hz := ret_size15 x.kind y.kind x.exp y.exp x.neg y.neg x.mag y.mag hl hl' h1 h2 h3 h4
  have hb1 : -2 ≤ rkF x ∧ rkF x ≤ 2 := by unfold rkF; split <;> split <;> (try split) <;> omega
  have hb2 : -2 ≤ rkF y ∧ rkF y ≤ 2 := by unfold rkF; split <;> split <;> (try split) <;> omega
  have hS := ret_sign15 (rkF x - rkF y) (by omega) (by omega)
  have hzb : -1 ≤ szF x.mag x.exp y.mag y.exp ∧ szF x.mag x.exp y.mag y.exp ≤ 1 := by
    unfold szF sgnI cmpI
    split
    · split <;> (try split) <;> omega
    · split <;> split <;> (try split) <;> omega
  unfold cpF
  generalize szF x.mag x.exp y.mag y.exp = c at *
  generalize rkF x = a at *
  generalize rkF y = b at *
  unfold flv at *
  generalize sgnI (a - b) = s at *
  by_cases c1 : a ≠ b ∨ (a ≠ 1 ∧ a ≠ -1)
  · rw [if_pos c1]
    by_cases c2 : a = b
    · refine RetN_start Tryz.func27 (by kernel_rfl) rfl fun Q hQ hQ2 => ?_; rw [Tryz.ntmps27]; simp only [u, i64, Nat.reduceSub, Nat.reduceAdd, bm]
      repeat (first | ((first | refine Gs ?_ | refine Gr ?_); simp (disch := omega) only [u, i64, ax, eq_self, if_true, if_false, Nat.reduceAdd, Int.reduceToNat, Int.reduceAdd, tvs, bs]; first | refine aA ?_ | ((first | refine cR hr ?_ | refine cR hr' ?_ | refine cR hS ?_); simp (disch := omega) only [u, i64, ax, eq_self, if_true, if_false, Nat.reduceAdd, Int.reduceToNat, Int.reduceAdd, tvs, bs]; try refine aA ?_)) | ((first | refine cR hr ?_ | refine cR hr' ?_ | refine cR hS ?_); simp (disch := omega) only [u, i64, ax, eq_self, if_true, if_false, Nat.reduceAdd, Int.reduceToNat, Int.reduceAdd, tvs, bs]; try refine aA ?_) | refine G_seq ?_ | refine G_block ?_ | refine G_condT rfl ?_ | refine G_condF rfl ?_ | refine G_skip ?_ | refine G_ret ?_ | refine G_exit ?_ | refine q_tn ?_ | refine q_tr ?_ | refine q_tx ?_ | refine q_bn ?_ | refine q_br ?_ | refine q_bx ?_ | refine q_by (by decide) ?_)
      (refine FinQ hQ (congrArg Array.toList Tryz.results27) _ _ ?_); simp (disch := omega) only [u, i64, ax, if_true, forall_const, reduceCtorEq, implies_true, tvs, bf]
    · refine RetN_start Tryz.func27 (by kernel_rfl) rfl fun Q hQ hQ2 => ?_; rw [Tryz.ntmps27]; simp only [u, i64, Nat.reduceSub, Nat.reduceAdd, bm]
      repeat (first | ((first | refine Gs ?_ | refine Gr ?_); simp (disch := omega) only [u, i64, ax, eq_self, if_true, if_false, Nat.reduceAdd, Int.reduceToNat, Int.reduceAdd, tvs, bs]; first | refine aA ?_ | ((first | refine cR hr ?_ | refine cR hr' ?_ | refine cR hS ?_); simp (disch := omega) only [u, i64, ax, eq_self, if_true, if_false, Nat.reduceAdd, Int.reduceToNat, Int.reduceAdd, tvs, bs]; try refine aA ?_)) | ((first | refine cR hr ?_ | refine cR hr' ?_ | refine cR hS ?_); simp (disch := omega) only [u, i64, ax, eq_self, if_true, if_false, Nat.reduceAdd, Int.reduceToNat, Int.reduceAdd, tvs, bs]; try refine aA ?_) | refine G_seq ?_ | refine G_block ?_ | refine G_condT rfl ?_ | refine G_condF rfl ?_ | refine G_skip ?_ | refine G_ret ?_ | refine G_exit ?_ | refine q_tn ?_ | refine q_tr ?_ | refine q_tx ?_ | refine q_bn ?_ | refine q_br ?_ | refine q_bx ?_ | refine q_by (by decide) ?_)
      (refine FinQ hQ (congrArg Array.toList Tryz.results27) _ _ ?_); simp (disch := omega) only [u, i64, ax, if_true, forall_const, reduceCtorEq, implies_true, tvs, bf]
  · rw [if_neg c1]
    by_cases c3 : a < 0
    · rw [if_pos c3, show -c = 0 - c by omega]
      have ha : a = -1 := by omega
      have hb : b = -1 := by omega
      subst ha
      subst hb
      refine RetN_start Tryz.func27 (by kernel_rfl) rfl fun Q hQ hQ2 => ?_; rw [Tryz.ntmps27]; simp only [u, i64, Nat.reduceSub, Nat.reduceAdd, bm]
      repeat (first | ((first | refine Gs ?_ | refine Gr ?_); simp (disch := omega) only [u, i64, ax, eq_self, if_true, if_false, Nat.reduceAdd, Int.reduceToNat, Int.reduceAdd, tvs, bs]; first | refine aA ?_ | ((first | refine cR hr ?_ | refine cR hr' ?_ | refine cR hz ?_); simp (disch := omega) only [u, i64, ax, eq_self, if_true, if_false, Nat.reduceAdd, Int.reduceToNat, Int.reduceAdd, tvs, bs]; try refine aA ?_)) | ((first | refine cR hr ?_ | refine cR hr' ?_ | refine cR hz ?_); simp (disch := omega) only [u, i64, ax, eq_self, if_true, if_false, Nat.reduceAdd, Int.reduceToNat, Int.reduceAdd, tvs, bs]; try refine aA ?_) | refine G_seq ?_ | refine G_block ?_ | refine G_condT rfl ?_ | refine G_condF rfl ?_ | refine G_skip ?_ | refine G_ret ?_ | refine G_exit ?_ | refine q_tn ?_ | refine q_tr ?_ | refine q_tx ?_ | refine q_bn ?_ | refine q_br ?_ | refine q_bx ?_ | refine q_by (by decide) ?_)
      (refine FinQ hQ (congrArg Array.toList Tryz.results27) _ _ ?_); simp (disch := omega) only [u, i64, ax, if_true, forall_const, reduceCtorEq, implies_true, tvs, bf]
    · rw [if_neg c3]
      have ha : a = 1 := by omega
      have hb : b = 1 := by omega
      subst ha
      subst hb
      refine RetN_start Tryz.func27 (by kernel_rfl) rfl fun Q hQ hQ2 => ?_; rw [Tryz.ntmps27]; simp only [u, i64, Nat.reduceSub, Nat.reduceAdd, bm]
      repeat (first | ((first | refine Gs ?_ | refine Gr ?_); simp (disch := omega) only [u, i64, ax, eq_self, if_true, if_false, Nat.reduceAdd, Int.reduceToNat, Int.reduceAdd, tvs, bs]; first | refine aA ?_ | ((first | refine cR hr ?_ | refine cR hr' ?_ | refine cR hz ?_); simp (disch := omega) only [u, i64, ax, eq_self, if_true, if_false, Nat.reduceAdd, Int.reduceToNat, Int.reduceAdd, tvs, bs]; try refine aA ?_)) | ((first | refine cR hr ?_ | refine cR hr' ?_ | refine cR hz ?_); simp (disch := omega) only [u, i64, ax, eq_self, if_true, if_false, Nat.reduceAdd, Int.reduceToNat, Int.reduceAdd, tvs, bs]; try refine aA ?_) | refine G_seq ?_ | refine G_block ?_ | refine G_condT rfl ?_ | refine G_condF rfl ?_ | refine G_skip ?_ | refine G_ret ?_ | refine G_exit ?_ | refine q_tn ?_ | refine q_tr ?_ | refine q_tx ?_ | refine q_bn ?_ | refine q_br ?_ | refine q_bx ?_ | refine q_by (by decide) ?_)
      (refine FinQ hQ (congrArg Array.toList Tryz.results27) _ _ ?_); simp (disch := omega) only [u, i64, ax, if_true, forall_const, reduceCtorEq, implies_true, tvs, bf]
end Go.Proofs
set_option linter.unusedVariables false
namespace Go.Proofs
open Go.Ax
/-- What a number is rounded to. -/
def rvF (p : Nat) (G : Int) (r : Nat) (neg : Bool) (n d : Nat) : FV := if n = 0 then ⟨0, false, 0, 0⟩ else (rndF p G r neg n d).1
theorem rises (p : Nat) (G : Int) (r : Nat) (a b : Bool) (n d n' d' : Nat) (hp : 2 ≤ p) (hG : 1 ≤ G) (hd : d ≠ 0) (hd' : d' ≠ 0) (h : (if a = true then -(n : Int) else n) * d' ≤ (if b = true then -(n' : Int) else n') * d) : cpF (rvF p G r a n d) (rvF p G r b n' d') ≤ 0 := by
  have hz : fineF ⟨0, false, 0, 0⟩ := ⟨by show 0 ≤ 2; decide, fun h => by cases h⟩
  have pd : (0 : Int) < d := by omega
  have pd' : (0 : Int) < d' := by omega
  have mulpos : ∀ x y : Int, 0 < x → 0 < y → 0 < x * y := fun x y hx hy => Int.mul_pos hx hy
  unfold rvF
  by_cases hn : n = 0
  · rw [if_pos hn]
    by_cases hn' : n' = 0
    · rw [if_pos hn']
      show (0 : Int) ≤ 0
      decide
    · rw [if_neg hn']
      obtain ⟨f1, f2⟩ := rndF_fine p G r b n' d' hp
      cases b with
      | true =>
        exfalso
        subst hn
        have := mulpos n' d (by omega) pd
        have e1 : (if a = true then -((0 : Nat) : Int) else ((0 : Nat) : Int)) = 0 := by split <;> rfl
        rw [e1, Int.zero_mul, if_pos rfl, Int.neg_mul] at h
        omega
      | false => exact cpF_pos hz f1 rfl f2 (.inl rfl)
  · rw [if_neg hn]
    obtain ⟨g1, g2⟩ := rndF_fine p G r a n d hp
    by_cases hn' : n' = 0
    · rw [if_pos hn']
      cases a with
      | true => exact cpF_mixed g1 hz g2 rfl
      | false =>
        exfalso
        subst hn'
        have := mulpos n d' (by omega) pd'
        have e1 : (if b = true then -((0 : Nat) : Int) else ((0 : Nat) : Int)) = 0 := by split <;> rfl
        rw [e1, Int.zero_mul, if_neg (by decide)] at h
        omega
    · rw [if_neg hn']
      obtain ⟨f1, f2⟩ := rndF_fine p G r b n' d' hp
      cases a with
      | true =>
        cases b with
        | true =>
          rw [if_pos rfl, if_pos rfl, Int.neg_mul, Int.neg_mul] at h
          have h2 : n' * d ≤ n * d' := by
            have : ((n' * d : Nat) : Int) ≤ ((n * d' : Nat) : Int) := by rw [Int.natCast_mul, Int.natCast_mul]; omega
            omega
          exact cpF_negs f1 g1 f2 g2 (rndF_leM p G r true hp hG hn' hd' hn hd h2)
        | false => exact cpF_mixed g1 f1 g2 f2
      | false =>
        cases b with
        | true =>
          exfalso
          have := mulpos n d' (by omega) pd'
          have := mulpos n' d (by omega) pd
          rw [if_neg (by decide), if_pos rfl, Int.neg_mul] at h
          omega
        | false =>
          rw [if_neg (by decide), if_neg (by decide)] at h
          have h2 : n * d' ≤ n' * d := by
            have : ((n * d' : Nat) : Int) ≤ ((n' * d : Nat) : Int) := by rw [Int.natCast_mul, Int.natCast_mul]; exact h
            omega
          exact cpF_pos g1 f1 g2 f2 (rndF_leM p G r false hp hG hn hd hn' hd' h2)
end Go.Proofs
set_option linter.unusedVariables false
set_option linter.unusedSimpArgs false
namespace Go.Proofs
open Go.Ax
set_option maxRecDepth 100000 in
theorem ret_Brief2 (a b : Bool) (ns dn ms en : List Nat) (h1 : ns.length ≤ 9223372036854775807) (h2 : dn.length ≤ 9223372036854775807) (h3 : ms.length ≤ 9223372036854775807) (h4 : en.length ≤ 9223372036854775807) :
    Ret Tryz.prog GEs 16 [.lst 2 [.bool a, ws ns, ws dn, .bool b, ws ms, ws en]] (.bool (decide ((ns.length ≤ 40 ∧ dn.length ≤ 40) ∧ ms.length ≤ 40 ∧ en.length ≤ 40))) := by
  refine RetN_start Tryz.func16 (by kernel_rfl) rfl fun Q hQ hQ2 => ?_; rw [Tryz.ntmps16]; simp only [u, i64, Nat.reduceSub, Nat.reduceAdd, bm]
  repeat (first | ((first | refine Gs ?_ | refine Gr ?_); simp (disch := omega) only [u, i64, ax, eq_self, if_true, if_false, Nat.reduceAdd, Int.reduceToNat, Int.reduceAdd, tvs, bs]; refine aA ?_) | refine G_seq ?_ | refine G_block ?_ | refine G_condT rfl ?_ | refine G_condF rfl ?_ | refine G_skip ?_ | refine G_ret ?_ | refine G_exit ?_ | refine q_tn ?_ | refine q_tr ?_ | refine q_tx ?_ | refine q_bn ?_ | refine q_br ?_ | refine q_bx ?_ | refine q_by (by decide) ?_)
  refine AWp_loop (fun i : Nat => mk 27 [(0, .lst 2 [.bool a, ws ns, ws dn, .bool b, ws ms, ws en]), (3, i64 i)] []) (fun i => i ≤ 2 ∧ (1 ≤ i → ns.length ≤ 40 ∧ dn.length ≤ 40) ∧ (2 ≤ i → ms.length ≤ 40 ∧ en.length ≤ 40)) (fun i => 2 - i) 0 ?_ ⟨by decide, by omega, by omega⟩ ?_
  · simp only [u, i64, Nat.reduceSub, Nat.reduceAdd, bm]
  intro i hi
  have h3 : i = 0 ∨ i = 1 ∨ i = 2 := by omega
  rcases h3 with rfl | rfl | rfl
  · simp only [u, i64, Nat.reduceSub, Nat.reduceAdd, bm]
    by_cases ha : 40 < ns.length
    · repeat (first | ((first | refine Gs ?_ | refine Gr ?_); simp (disch := omega) only [u, i64, ax, eq_self, if_true, if_false, Nat.reduceAdd, Int.reduceToNat, Int.reduceAdd, tvs, bs]; refine aA ?_) | refine G_seq ?_ | refine G_block ?_ | refine G_condT rfl ?_ | refine G_condF rfl ?_ | refine G_skip ?_ | refine G_ret ?_ | refine G_exit ?_ | refine q_tn ?_ | refine q_tr ?_ | refine q_tx ?_ | refine q_bn ?_ | refine q_br ?_ | refine q_bx ?_ | refine q_by (by decide) ?_)
      (refine FinQ hQ (congrArg Array.toList Tryz.results16) _ _ ?_); simp (disch := omega) only [u, i64, ax, if_true, forall_const, reduceCtorEq, implies_true, tvs, bf, decF (show ¬ ((ns.length ≤ 40 ∧ dn.length ≤ 40) ∧ ms.length ≤ 40 ∧ en.length ≤ 40) by omega)]
    by_cases hb : 40 < dn.length
    · repeat (first | ((first | refine Gs ?_ | refine Gr ?_); simp (disch := omega) only [u, i64, ax, eq_self, if_true, if_false, Nat.reduceAdd, Int.reduceToNat, Int.reduceAdd, tvs, bs]; refine aA ?_) | refine G_seq ?_ | refine G_block ?_ | refine G_condT rfl ?_ | refine G_condF rfl ?_ | refine G_skip ?_ | refine G_ret ?_ | refine G_exit ?_ | refine q_tn ?_ | refine q_tr ?_ | refine q_tx ?_ | refine q_bn ?_ | refine q_br ?_ | refine q_bx ?_ | refine q_by (by decide) ?_)
      (refine FinQ hQ (congrArg Array.toList Tryz.results16) _ _ ?_); simp (disch := omega) only [u, i64, ax, if_true, forall_const, reduceCtorEq, implies_true, tvs, bf, decF (show ¬ ((ns.length ≤ 40 ∧ dn.length ≤ 40) ∧ ms.length ≤ 40 ∧ en.length ≤ 40) by omega)]
    repeat (first | ((first | refine Gs ?_ | refine Gr ?_); simp (disch := omega) only [u, i64, ax, eq_self, if_true, if_false, Nat.reduceAdd, Int.reduceToNat, Int.reduceAdd, tvs, bs]; refine aA ?_) | refine G_seq ?_ | refine G_block ?_ | refine G_condT rfl ?_ | refine G_condF rfl ?_ | refine G_skip ?_ | refine G_ret ?_ | refine G_exit ?_ | refine q_tn ?_ | refine q_tr ?_ | refine q_tx ?_ | refine q_bn ?_ | refine q_br ?_ | refine q_bx ?_ | refine q_by (by decide) ?_)
    refine ⟨1, ?_, ⟨by decide, fun _ => by omega, by omega⟩, by decide⟩
    simp only [u, i64, Nat.reduceSub, Nat.reduceAdd, bm]
  · simp only [u, i64, Nat.reduceSub, Nat.reduceAdd, bm]
    by_cases ha : 40 < ms.length
    · repeat (first | ((first | refine Gs ?_ | refine Gr ?_); simp (disch := omega) only [u, i64, ax, eq_self, if_true, if_false, Nat.reduceAdd, Int.reduceToNat, Int.reduceAdd, tvs, bs]; refine aA ?_) | refine G_seq ?_ | refine G_block ?_ | refine G_condT rfl ?_ | refine G_condF rfl ?_ | refine G_skip ?_ | refine G_ret ?_ | refine G_exit ?_ | refine q_tn ?_ | refine q_tr ?_ | refine q_tx ?_ | refine q_bn ?_ | refine q_br ?_ | refine q_bx ?_ | refine q_by (by decide) ?_)
      (refine FinQ hQ (congrArg Array.toList Tryz.results16) _ _ ?_); simp (disch := omega) only [u, i64, ax, if_true, forall_const, reduceCtorEq, implies_true, tvs, bf, decF (show ¬ ((ns.length ≤ 40 ∧ dn.length ≤ 40) ∧ ms.length ≤ 40 ∧ en.length ≤ 40) by omega)]
    by_cases hb : 40 < en.length
    · repeat (first | ((first | refine Gs ?_ | refine Gr ?_); simp (disch := omega) only [u, i64, ax, eq_self, if_true, if_false, Nat.reduceAdd, Int.reduceToNat, Int.reduceAdd, tvs, bs]; refine aA ?_) | refine G_seq ?_ | refine G_block ?_ | refine G_condT rfl ?_ | refine G_condF rfl ?_ | refine G_skip ?_ | refine G_ret ?_ | refine G_exit ?_ | refine q_tn ?_ | refine q_tr ?_ | refine q_tx ?_ | refine q_bn ?_ | refine q_br ?_ | refine q_bx ?_ | refine q_by (by decide) ?_)
      (refine FinQ hQ (congrArg Array.toList Tryz.results16) _ _ ?_); simp (disch := omega) only [u, i64, ax, if_true, forall_const, reduceCtorEq, implies_true, tvs, bf, decF (show ¬ ((ns.length ≤ 40 ∧ dn.length ≤ 40) ∧ ms.length ≤ 40 ∧ en.length ≤ 40) by omega)]
    repeat (first | ((first | refine Gs ?_ | refine Gr ?_); simp (disch := omega) only [u, i64, ax, eq_self, if_true, if_false, Nat.reduceAdd, Int.reduceToNat, Int.reduceAdd, tvs, bs]; refine aA ?_) | refine G_seq ?_ | refine G_block ?_ | refine G_condT rfl ?_ | refine G_condF rfl ?_ | refine G_skip ?_ | refine G_ret ?_ | refine G_exit ?_ | refine q_tn ?_ | refine q_tr ?_ | refine q_tx ?_ | refine q_bn ?_ | refine q_br ?_ | refine q_bx ?_ | refine q_by (by decide) ?_)
    refine ⟨2, ?_, ⟨by decide, fun _ => hi.2.1 (by decide), fun _ => by omega⟩, by decide⟩
    simp only [u, i64, Nat.reduceSub, Nat.reduceAdd, bm]
  · simp only [u, i64, Nat.reduceSub, Nat.reduceAdd, bm]
    repeat (first | ((first | refine Gs ?_ | refine Gr ?_); simp (disch := omega) only [u, i64, ax, eq_self, if_true, if_false, Nat.reduceAdd, Int.reduceToNat, Int.reduceAdd, tvs, bs]; refine aA ?_) | refine G_seq ?_ | refine G_block ?_ | refine G_condT rfl ?_ | refine G_condF rfl ?_ | refine G_skip ?_ | refine G_ret ?_ | refine G_exit ?_ | refine q_tn ?_ | refine q_tr ?_ | refine q_tx ?_ | refine q_bn ?_ | refine q_br ?_ | refine q_bx ?_ | refine q_by (by decide) ?_)
    (refine FinQ hQ (congrArg Array.toList Tryz.results16) _ _ ?_); simp (disch := omega) only [u, i64, ax, if_true, forall_const, reduceCtorEq, implies_true, tvs, bf, decT (show (ns.length ≤ 40 ∧ dn.length ≤ 40) ∧ ms.length ≤ 40 ∧ en.length ≤ 40 from ⟨hi.2.1 (by decide), hi.2.2 (by decide)⟩)]
end Go.Proofs
set_option linter.unusedVariables false
set_option linter.unusedSimpArgs false
namespace Go.Proofs
open Go.Ax
/-- The error of two numbers and a rounding. -/
def errQ2 (r : Int) (n d v n' d' v' : Nat) : Nat := if (4096 < n ∨ 4096 < d) ∨ 4096 < n' ∨ 4096 < d' then 2 else if v = 0 ∨ v' = 0 then 5 else if 0 ≤ r ∧ r ≤ 4 then 0 else 1
set_option maxRecDepth 100000 in
set_option maxHeartbeats 2000000 in
theorem ret_Args2 (r : Int) (h1 : -9223372036854775808 ≤ r) (h2 : r < 9223372036854775808) (a b : Bool) (ns dn ms en : List Nat) (hd : Wd dn) (he : Wd en) (l1 : ns.length ≤ 40) (l2 : dn.length ≤ 40) (l3 : ms.length ≤ 40) (l4 : en.length ≤ 40) :
    Ret Tryz.prog GEs 76 [i64 r, .lst 2 [.bool a, ws ns, ws dn, .bool b, ws ms, ws en]] (i64 ((errQ2 r ns.length dn.length (val dn) ms.length en.length (val en) : Nat) : Int)) := by
  have hL := ret_Large16 a ns dn (by omega) (by omega)
  rw [decF (show ¬ (4096 < ns.length ∨ 4096 < dn.length) by omega)] at hL
  have hL2 := ret_Large16 b ms en (by omega) (by omega)
  rw [decF (show ¬ (4096 < ms.length ∨ 4096 < en.length) by omega)] at hL2
  have hZ := ret_rIsZero dn hd (by omega)
  have hZ2 := ret_rIsZero en he (by omega)
  have hK := ret_Known r h1 h2
  unfold errQ2
  rw [if_neg (by omega)]
  refine RetN_start Tryz.func76 (by kernel_rfl) rfl fun Q hQ hQ2 => ?_; rw [Tryz.ntmps76]; simp only [u, i64, Nat.reduceSub, Nat.reduceAdd, bm]
  repeat (first | ((first | refine Gs ?_ | refine Gr ?_); simp (disch := omega) only [u, i64, ax, eq_self, if_true, if_false, Nat.reduceAdd, Int.reduceToNat, Int.reduceAdd, tvs, bs]; refine aA ?_) | refine G_seq ?_ | refine G_block ?_ | refine G_condT rfl ?_ | refine G_condF rfl ?_ | refine G_skip ?_ | refine G_ret ?_ | refine G_exit ?_ | refine q_tn ?_ | refine q_tr ?_ | refine q_tx ?_ | refine q_bn ?_ | refine q_br ?_ | refine q_bx ?_ | refine q_by (by decide) ?_)
  refine AWp_loop (fun i : Nat => mk 33 [(0, i64 r), (1, .lst 2 [.bool a, ws ns, ws dn, .bool b, ws ms, ws en]), (5, i64 i)] []) (fun i => i ≤ 2) (fun i => 2 - i) 0 ?_ (by decide) ?_
  · simp only [u, i64, Nat.reduceSub, Nat.reduceAdd, bm]
  intro i hi
  have h3 : i = 0 ∨ i = 1 ∨ i = 2 := by omega
  rcases h3 with rfl | rfl | rfl
  · simp only [u, i64, Nat.reduceSub, Nat.reduceAdd, bm]
    repeat (first | ((first | refine Gs ?_ | refine Gr ?_); simp (disch := omega) only [u, i64, ax, eq_self, if_true, if_false, Nat.reduceAdd, Int.reduceToNat, Int.reduceAdd, tvs, bs]; first | refine aA ?_ | (refine cR hL ?_; simp (disch := omega) only [u, i64, ax, eq_self, if_true, if_false, Nat.reduceAdd, Int.reduceToNat, Int.reduceAdd, tvs, bs]; try refine aA ?_)) | (refine cR hL ?_; simp (disch := omega) only [u, i64, ax, eq_self, if_true, if_false, Nat.reduceAdd, Int.reduceToNat, Int.reduceAdd, tvs, bs]; try refine aA ?_) | refine G_seq ?_ | refine G_block ?_ | refine G_condT rfl ?_ | refine G_condF rfl ?_ | refine G_skip ?_ | refine G_ret ?_ | refine G_exit ?_ | refine q_tn ?_ | refine q_tr ?_ | refine q_tx ?_ | refine q_bn ?_ | refine q_br ?_ | refine q_bx ?_ | refine q_by (by decide) ?_)
    refine ⟨1, ?_, by decide, by decide⟩
    simp only [u, i64, Nat.reduceSub, Nat.reduceAdd, bm]
  · simp only [u, i64, Nat.reduceSub, Nat.reduceAdd, bm]
    repeat (first | ((first | refine Gs ?_ | refine Gr ?_); simp (disch := omega) only [u, i64, ax, eq_self, if_true, if_false, Nat.reduceAdd, Int.reduceToNat, Int.reduceAdd, tvs, bs]; first | refine aA ?_ | (refine cR hL2 ?_; simp (disch := omega) only [u, i64, ax, eq_self, if_true, if_false, Nat.reduceAdd, Int.reduceToNat, Int.reduceAdd, tvs, bs]; try refine aA ?_)) | (refine cR hL2 ?_; simp (disch := omega) only [u, i64, ax, eq_self, if_true, if_false, Nat.reduceAdd, Int.reduceToNat, Int.reduceAdd, tvs, bs]; try refine aA ?_) | refine G_seq ?_ | refine G_block ?_ | refine G_condT rfl ?_ | refine G_condF rfl ?_ | refine G_skip ?_ | refine G_ret ?_ | refine G_exit ?_ | refine q_tn ?_ | refine q_tr ?_ | refine q_tx ?_ | refine q_bn ?_ | refine q_br ?_ | refine q_bx ?_ | refine q_by (by decide) ?_)
    refine ⟨2, ?_, by decide, by decide⟩
    simp only [u, i64, Nat.reduceSub, Nat.reduceAdd, bm]
  simp only [u, i64, Nat.reduceSub, Nat.reduceAdd, bm]
  repeat (first | ((first | refine Gs ?_ | refine Gr ?_); simp (disch := omega) only [u, i64, ax, eq_self, if_true, if_false, Nat.reduceAdd, Int.reduceToNat, Int.reduceAdd, tvs, bs]; refine aA ?_) | refine G_seq ?_ | refine G_block ?_ | refine G_condT rfl ?_ | refine G_condF rfl ?_ | refine G_skip ?_ | refine G_ret ?_ | refine G_exit ?_ | refine q_tn ?_ | refine q_tr ?_ | refine q_tx ?_ | refine q_bn ?_ | refine q_br ?_ | refine q_bx ?_ | refine q_by (by decide) ?_)
  refine AWp_loop (fun i : Nat => mk 33 [(0, i64 r), (1, .lst 2 [.bool a, ws ns, ws dn, .bool b, ws ms, ws en]), (6, i64 i)] []) (fun i => i ≤ 2 ∧ (1 ≤ i → val dn ≠ 0) ∧ (2 ≤ i → val en ≠ 0)) (fun i => 2 - i) 0 ?_ ⟨by decide, by omega, by omega⟩ ?_
  · simp only [u, i64, Nat.reduceSub, Nat.reduceAdd, bm]
  intro i hi
  have h3 : i = 0 ∨ i = 1 ∨ i = 2 := by omega
  rcases h3 with rfl | rfl | rfl
  · simp only [u, i64, Nat.reduceSub, Nat.reduceAdd, bm]
    by_cases h0 : val dn = 0
    · rw [decT h0] at hZ
      rw [if_pos (.inl h0)] at hQ
      repeat (first | ((first | refine Gs ?_ | refine Gr ?_); simp (disch := omega) only [u, i64, ax, eq_self, if_true, if_false, Nat.reduceAdd, Int.reduceToNat, Int.reduceAdd, tvs, bs]; first | refine aA ?_ | (refine cR hZ ?_; simp (disch := omega) only [u, i64, ax, eq_self, if_true, if_false, Nat.reduceAdd, Int.reduceToNat, Int.reduceAdd, tvs, bs]; try refine aA ?_)) | (refine cR hZ ?_; simp (disch := omega) only [u, i64, ax, eq_self, if_true, if_false, Nat.reduceAdd, Int.reduceToNat, Int.reduceAdd, tvs, bs]; try refine aA ?_) | refine G_seq ?_ | refine G_block ?_ | refine G_condT rfl ?_ | refine G_condF rfl ?_ | refine G_skip ?_ | refine G_ret ?_ | refine G_exit ?_ | refine q_tn ?_ | refine q_tr ?_ | refine q_tx ?_ | refine q_bn ?_ | refine q_br ?_ | refine q_bx ?_ | refine q_by (by decide) ?_)
      (refine FinQ hQ (congrArg Array.toList Tryz.results76) _ _ ?_); simp (disch := omega) only [u, i64, ax, if_true, forall_const, reduceCtorEq, implies_true, tvs, bf]
      all_goals rfl
    · rw [decF h0] at hZ
      repeat (first | ((first | refine Gs ?_ | refine Gr ?_); simp (disch := omega) only [u, i64, ax, eq_self, if_true, if_false, Nat.reduceAdd, Int.reduceToNat, Int.reduceAdd, tvs, bs]; first | refine aA ?_ | (refine cR hZ ?_; simp (disch := omega) only [u, i64, ax, eq_self, if_true, if_false, Nat.reduceAdd, Int.reduceToNat, Int.reduceAdd, tvs, bs]; try refine aA ?_)) | (refine cR hZ ?_; simp (disch := omega) only [u, i64, ax, eq_self, if_true, if_false, Nat.reduceAdd, Int.reduceToNat, Int.reduceAdd, tvs, bs]; try refine aA ?_) | refine G_seq ?_ | refine G_block ?_ | refine G_condT rfl ?_ | refine G_condF rfl ?_ | refine G_skip ?_ | refine G_ret ?_ | refine G_exit ?_ | refine q_tn ?_ | refine q_tr ?_ | refine q_tx ?_ | refine q_bn ?_ | refine q_br ?_ | refine q_bx ?_ | refine q_by (by decide) ?_)
      refine ⟨1, ?_, ⟨by decide, fun _ => h0, by omega⟩, by decide⟩
      simp only [u, i64, Nat.reduceSub, Nat.reduceAdd, bm]
  · simp only [u, i64, Nat.reduceSub, Nat.reduceAdd, bm]
    by_cases h0 : val en = 0
    · rw [decT h0] at hZ2
      rw [if_pos (.inr h0)] at hQ
      repeat (first | ((first | refine Gs ?_ | refine Gr ?_); simp (disch := omega) only [u, i64, ax, eq_self, if_true, if_false, Nat.reduceAdd, Int.reduceToNat, Int.reduceAdd, tvs, bs]; first | refine aA ?_ | (refine cR hZ2 ?_; simp (disch := omega) only [u, i64, ax, eq_self, if_true, if_false, Nat.reduceAdd, Int.reduceToNat, Int.reduceAdd, tvs, bs]; try refine aA ?_)) | (refine cR hZ2 ?_; simp (disch := omega) only [u, i64, ax, eq_self, if_true, if_false, Nat.reduceAdd, Int.reduceToNat, Int.reduceAdd, tvs, bs]; try refine aA ?_) | refine G_seq ?_ | refine G_block ?_ | refine G_condT rfl ?_ | refine G_condF rfl ?_ | refine G_skip ?_ | refine G_ret ?_ | refine G_exit ?_ | refine q_tn ?_ | refine q_tr ?_ | refine q_tx ?_ | refine q_bn ?_ | refine q_br ?_ | refine q_bx ?_ | refine q_by (by decide) ?_)
      (refine FinQ hQ (congrArg Array.toList Tryz.results76) _ _ ?_); simp (disch := omega) only [u, i64, ax, if_true, forall_const, reduceCtorEq, implies_true, tvs, bf]
      all_goals rfl
    · rw [decF h0] at hZ2
      repeat (first | ((first | refine Gs ?_ | refine Gr ?_); simp (disch := omega) only [u, i64, ax, eq_self, if_true, if_false, Nat.reduceAdd, Int.reduceToNat, Int.reduceAdd, tvs, bs]; first | refine aA ?_ | (refine cR hZ2 ?_; simp (disch := omega) only [u, i64, ax, eq_self, if_true, if_false, Nat.reduceAdd, Int.reduceToNat, Int.reduceAdd, tvs, bs]; try refine aA ?_)) | (refine cR hZ2 ?_; simp (disch := omega) only [u, i64, ax, eq_self, if_true, if_false, Nat.reduceAdd, Int.reduceToNat, Int.reduceAdd, tvs, bs]; try refine aA ?_) | refine G_seq ?_ | refine G_block ?_ | refine G_condT rfl ?_ | refine G_condF rfl ?_ | refine G_skip ?_ | refine G_ret ?_ | refine G_exit ?_ | refine q_tn ?_ | refine q_tr ?_ | refine q_tx ?_ | refine q_bn ?_ | refine q_br ?_ | refine q_bx ?_ | refine q_by (by decide) ?_)
      refine ⟨2, ?_, ⟨by decide, fun _ => hi.2.1 (by decide), fun _ => h0⟩, by decide⟩
      simp only [u, i64, Nat.reduceSub, Nat.reduceAdd, bm]
  · have e1 := hi.2.1 (by decide)
    have e2 := hi.2.2 (by decide)
    rw [if_neg (show ¬ (val dn = 0 ∨ val en = 0) by omega)] at hQ
    simp only [u, i64, Nat.reduceSub, Nat.reduceAdd, bm]
    by_cases hr : 0 ≤ r ∧ r ≤ 4
    · rw [decT hr] at hK
      rw [if_pos hr] at hQ
      repeat (first | ((first | refine Gs ?_ | refine Gr ?_); simp (disch := omega) only [u, i64, ax, eq_self, if_true, if_false, Nat.reduceAdd, Int.reduceToNat, Int.reduceAdd, tvs, bs]; first | refine aA ?_ | (refine cR hK ?_; simp (disch := omega) only [u, i64, ax, eq_self, if_true, if_false, Nat.reduceAdd, Int.reduceToNat, Int.reduceAdd, tvs, bs]; try refine aA ?_)) | (refine cR hK ?_; simp (disch := omega) only [u, i64, ax, eq_self, if_true, if_false, Nat.reduceAdd, Int.reduceToNat, Int.reduceAdd, tvs, bs]; try refine aA ?_) | refine G_seq ?_ | refine G_block ?_ | refine G_condT rfl ?_ | refine G_condF rfl ?_ | refine G_skip ?_ | refine G_ret ?_ | refine G_exit ?_ | refine q_tn ?_ | refine q_tr ?_ | refine q_tx ?_ | refine q_bn ?_ | refine q_br ?_ | refine q_bx ?_ | refine q_by (by decide) ?_)
      (refine FinQ hQ (congrArg Array.toList Tryz.results76) _ _ ?_); simp (disch := omega) only [u, i64, ax, if_true, forall_const, reduceCtorEq, implies_true, tvs, bf]
      all_goals rfl
    · rw [decF hr] at hK
      rw [if_neg hr] at hQ
      repeat (first | ((first | refine Gs ?_ | refine Gr ?_); simp (disch := omega) only [u, i64, ax, eq_self, if_true, if_false, Nat.reduceAdd, Int.reduceToNat, Int.reduceAdd, tvs, bs]; first | refine aA ?_ | (refine cR hK ?_; simp (disch := omega) only [u, i64, ax, eq_self, if_true, if_false, Nat.reduceAdd, Int.reduceToNat, Int.reduceAdd, tvs, bs]; try refine aA ?_)) | (refine cR hK ?_; simp (disch := omega) only [u, i64, ax, eq_self, if_true, if_false, Nat.reduceAdd, Int.reduceToNat, Int.reduceAdd, tvs, bs]; try refine aA ?_) | refine G_seq ?_ | refine G_block ?_ | refine G_condT rfl ?_ | refine G_condF rfl ?_ | refine G_skip ?_ | refine G_ret ?_ | refine G_exit ?_ | refine q_tn ?_ | refine q_tr ?_ | refine q_tx ?_ | refine q_bn ?_ | refine q_br ?_ | refine q_bx ?_ | refine q_by (by decide) ?_)
      (refine FinQ hQ (congrArg Array.toList Tryz.results76) _ _ ?_); simp (disch := omega) only [u, i64, ax, if_true, forall_const, reduceCtorEq, implies_true, tvs, bf]
      all_goals rfl
def errR2 (r k p : Int) (n d v n' d' v' : Nat) : Nat := if errQ2 r n d v n' d' v' ≠ 0 then errQ2 r n d v n' d' v' else if okFm k p then 0 else 150
theorem errR2_ok {r k p : Int} {n d v n' d' v' : Nat} (h : errR2 r k p n d v n' d' v' = 0) : v ≠ 0 ∧ v' ≠ 0 ∧ (0 ≤ r ∧ r ≤ 4) ∧ okFm k p := by
  unfold errR2 at h
  split at h
  · rename_i h0; exact absurd h h0
  · rename_i h0
    rw [Decidable.not_not] at h0
    split at h
    · rename_i hf
      unfold errQ2 at h0
      split at h0
      · cases h0
      · split at h0
        · cases h0
        · split at h0
          · rename_i x y z; exact ⟨by omega, by omega, z, hf⟩
          · cases h0
    · cases h
theorem ret_args2 (r k p : Int) (h1 : -9223372036854775808 ≤ r) (h2 : r < 9223372036854775808) (a b : Bool) (ns dn ms en : List Nat) (hd : Wd dn) (he : Wd en) (l1 : ns.length ≤ 40) (l2 : dn.length ≤ 40) (l3 : ms.length ≤ 40) (l4 : en.length ≤ 40) :
    Ret Tryz.prog GEs 19 [.agg [i64 k, i64 p], i64 r, .lst 2 [.bool a, ws ns, ws dn, .bool b, ws ms, ws en]] (i64 (errR2 r k p ns.length dn.length (val dn) ms.length en.length (val en) : Nat)) := by
  have hA := ret_Args2 r h1 h2 a b ns dn ms en hd he l1 l2 l3 l4
  have hF := ret_Fmt k p
  have hC := ret_Check15 k p
  unfold errR2
  by_cases h0 : errQ2 r ns.length dn.length (val dn) ms.length en.length (val en) = 0
  · rw [if_neg (not_not_intro h0)]
    rw [h0] at hA
    by_cases hf : okFm k p
    · rw [if_pos hf] at hC ⊢
      refine RetN_start Tryz.func19 (by kernel_rfl) rfl fun Q hQ hQ2 => ?_; rw [Tryz.ntmps19]; simp only [u, i64, Nat.reduceSub, Nat.reduceAdd, bm]
      repeat (first | ((first | refine Gs ?_ | refine Gr ?_); simp (disch := omega) only [u, i64, ax, eq_self, if_true, if_false, Nat.reduceAdd, Int.reduceToNat, Int.reduceAdd, tvs, bs]; first | refine aA ?_ | ((first | refine cR hA ?_ | refine cR hF ?_ | refine cR hC ?_); simp (disch := omega) only [u, i64, ax, eq_self, if_true, if_false, Nat.reduceAdd, Int.reduceToNat, Int.reduceAdd, tvs, bs]; try refine aA ?_)) | ((first | refine cR hA ?_ | refine cR hF ?_ | refine cR hC ?_); simp (disch := omega) only [u, i64, ax, eq_self, if_true, if_false, Nat.reduceAdd, Int.reduceToNat, Int.reduceAdd, tvs, bs]; try refine aA ?_) | refine G_seq ?_ | refine G_block ?_ | refine G_condT rfl ?_ | refine G_condF rfl ?_ | refine G_skip ?_ | refine G_ret ?_ | refine G_exit ?_ | refine q_tn ?_ | refine q_tr ?_ | refine q_tx ?_ | refine q_bn ?_ | refine q_br ?_ | refine q_bx ?_ | refine q_by (by decide) ?_)
      (refine FinQ hQ (congrArg Array.toList Tryz.results19) _ _ ?_); simp (disch := omega) only [u, i64, ax, if_true, forall_const, reduceCtorEq, implies_true, tvs, bf]
      all_goals rfl
    · rw [if_neg hf] at hC ⊢
      refine RetN_start Tryz.func19 (by kernel_rfl) rfl fun Q hQ hQ2 => ?_; rw [Tryz.ntmps19]; simp only [u, i64, Nat.reduceSub, Nat.reduceAdd, bm]
      repeat (first | ((first | refine Gs ?_ | refine Gr ?_); simp (disch := omega) only [u, i64, ax, eq_self, if_true, if_false, Nat.reduceAdd, Int.reduceToNat, Int.reduceAdd, tvs, bs]; first | refine aA ?_ | ((first | refine cR hA ?_ | refine cR hF ?_ | refine cR hC ?_); simp (disch := omega) only [u, i64, ax, eq_self, if_true, if_false, Nat.reduceAdd, Int.reduceToNat, Int.reduceAdd, tvs, bs]; try refine aA ?_)) | ((first | refine cR hA ?_ | refine cR hF ?_ | refine cR hC ?_); simp (disch := omega) only [u, i64, ax, eq_self, if_true, if_false, Nat.reduceAdd, Int.reduceToNat, Int.reduceAdd, tvs, bs]; try refine aA ?_) | refine G_seq ?_ | refine G_block ?_ | refine G_condT rfl ?_ | refine G_condF rfl ?_ | refine G_skip ?_ | refine G_ret ?_ | refine G_exit ?_ | refine q_tn ?_ | refine q_tr ?_ | refine q_tx ?_ | refine q_bn ?_ | refine q_br ?_ | refine q_bx ?_ | refine q_by (by decide) ?_)
      (refine FinQ hQ (congrArg Array.toList Tryz.results19) _ _ ?_); simp (disch := omega) only [u, i64, ax, if_true, forall_const, reduceCtorEq, implies_true, tvs, bf]
      all_goals rfl
  · rw [if_pos h0]
    generalize errQ2 r ns.length dn.length (val dn) ms.length en.length (val en) = e at *
    refine RetN_start Tryz.func19 (by kernel_rfl) rfl fun Q hQ hQ2 => ?_; rw [Tryz.ntmps19]; simp only [u, i64, Nat.reduceSub, Nat.reduceAdd, bm]
    repeat (first | ((first | refine Gs ?_ | refine Gr ?_); simp (disch := omega) only [u, i64, ax, eq_self, if_true, if_false, Nat.reduceAdd, Int.reduceToNat, Int.reduceAdd, tvs, bs]; first | refine aA ?_ | (refine cR hA ?_; simp (disch := omega) only [u, i64, ax, eq_self, if_true, if_false, Nat.reduceAdd, Int.reduceToNat, Int.reduceAdd, tvs, bs]; try refine aA ?_)) | (refine cR hA ?_; simp (disch := omega) only [u, i64, ax, eq_self, if_true, if_false, Nat.reduceAdd, Int.reduceToNat, Int.reduceAdd, tvs, bs]; try refine aA ?_) | refine G_seq ?_ | refine G_block ?_ | refine G_condT rfl ?_ | refine G_condF rfl ?_ | refine G_skip ?_ | refine G_ret ?_ | refine G_exit ?_ | refine q_tn ?_ | refine q_tr ?_ | refine q_tx ?_ | refine q_bn ?_ | refine q_br ?_ | refine q_bx ?_ | refine q_by (by decide) ?_)
    (refine FinQ hQ (congrArg Array.toList Tryz.results19) _ _ ?_); simp (disch := omega) only [u, i64, ax, if_true, forall_const, reduceCtorEq, implies_true, tvs, bf]
    all_goals rfl
theorem ret_GoodW (x : FV) (h : wfF x) (hk : x.kind ≤ 2) : Ret Tryz.prog GEs 25 [flv x] (.bool true) := by
  obtain ⟨kd, neg, e, m⟩ := x
  rcases h with ⟨h1, h2, h3, h4, h5⟩ | ⟨h1, h2, h3⟩
  · simp only at h1 h2 h3 h4 h5
    subst h1
    exact ret_Good15 neg e (words m) (Wd_words _) (by omega) (by rw [val_words]; exact h2) h3 h4
  · simp only at h1 h2 h3 hk
    subst h2
    subst h3
    have hZ := ret_rIsZero (words 0) (Wd_words _) (by decide)
    rw [val_words, decT rfl] at hZ
    have h5 : kd = 0 ∨ kd = 2 := by omega
    rcases h5 with rfl | rfl
    · show Ret Tryz.prog GEs 25 [.agg [i64 0, .bool neg, i64 0, nat 0]] (.bool true)
      refine RetN_start Tryz.func25 (by kernel_rfl) rfl fun Q hQ hQ2 => ?_; rw [Tryz.ntmps25]; simp only [u, i64, Nat.reduceSub, Nat.reduceAdd, bm]
      repeat (first | ((first | refine Gs ?_ | refine Gr ?_); simp (disch := omega) only [u, i64, ax, eq_self, if_true, if_false, Nat.reduceAdd, Int.reduceToNat, Int.reduceAdd, tvs, bs]; first | refine aA ?_ | (refine cR hZ ?_; simp (disch := omega) only [u, i64, ax, eq_self, if_true, if_false, Nat.reduceAdd, Int.reduceToNat, Int.reduceAdd, tvs, bs]; try refine aA ?_)) | (refine cR hZ ?_; simp (disch := omega) only [u, i64, ax, eq_self, if_true, if_false, Nat.reduceAdd, Int.reduceToNat, Int.reduceAdd, tvs, bs]; try refine aA ?_) | refine G_seq ?_ | refine G_block ?_ | refine G_condT rfl ?_ | refine G_condF rfl ?_ | refine G_skip ?_ | refine G_ret ?_ | refine G_exit ?_ | refine q_tn ?_ | refine q_tr ?_ | refine q_tx ?_ | refine q_bn ?_ | refine q_br ?_ | refine q_bx ?_ | refine q_by (by decide) ?_)
      (refine FinQ hQ (congrArg Array.toList Tryz.results25) _ _ ?_); simp (disch := omega) only [u, i64, ax, if_true, forall_const, reduceCtorEq, implies_true, tvs, bf]
    · show Ret Tryz.prog GEs 25 [.agg [i64 2, .bool neg, i64 0, nat 0]] (.bool true)
      refine RetN_start Tryz.func25 (by kernel_rfl) rfl fun Q hQ hQ2 => ?_; rw [Tryz.ntmps25]; simp only [u, i64, Nat.reduceSub, Nat.reduceAdd, bm]
      repeat (first | ((first | refine Gs ?_ | refine Gr ?_); simp (disch := omega) only [u, i64, ax, eq_self, if_true, if_false, Nat.reduceAdd, Int.reduceToNat, Int.reduceAdd, tvs, bs]; first | refine aA ?_ | (refine cR hZ ?_; simp (disch := omega) only [u, i64, ax, eq_self, if_true, if_false, Nat.reduceAdd, Int.reduceToNat, Int.reduceAdd, tvs, bs]; try refine aA ?_)) | (refine cR hZ ?_; simp (disch := omega) only [u, i64, ax, eq_self, if_true, if_false, Nat.reduceAdd, Int.reduceToNat, Int.reduceAdd, tvs, bs]; try refine aA ?_) | refine G_seq ?_ | refine G_block ?_ | refine G_condT rfl ?_ | refine G_condF rfl ?_ | refine G_skip ?_ | refine G_ret ?_ | refine G_exit ?_ | refine q_tn ?_ | refine q_tr ?_ | refine q_tx ?_ | refine q_bn ?_ | refine q_br ?_ | refine q_bx ?_ | refine q_by (by decide) ?_)
      (refine FinQ hQ (congrArg Array.toList Tryz.results25) _ _ ?_); simp (disch := omega) only [u, i64, ax, if_true, forall_const, reduceCtorEq, implies_true, tvs, bf]
end Go.Proofs
set_option linter.unusedVariables false
set_option linter.unusedSimpArgs false
namespace Go.Proofs
open Go.Ax
theorem ret_RoundA (r k p : Nat) (hr : r ≤ 4) (hf : okFm k p) (neg : Bool) (ns dn : List Nat) (hn : Wd ns) (hd : Wd dn) (hln : ns.length ≤ 40) (hld : dn.length ≤ 40) (hd0 : val dn ≠ 0) :
    ∃ fl : Nat, Ret Tryz.prog GEs 18 [.agg [i64 k, i64 p], i64 r, .agg [.bool neg, ws ns, ws dn]] (.tup [flv (rvF p (gF k) r neg (val ns) (val dn)), i64 fl, i64 0]) ∧ wfF (rvF p (gF k) r neg (val ns) (val dn)) ∧ (rvF p (gF k) r neg (val ns) (val dn)).kind ≤ 2 ∧ canF (rvF p (gF k) r neg (val ns) (val dn)) = rvF p (gF k) r neg (val ns) (val dn) := by
  have hnl := length_words_val_le hn
  have hdl := length_words_val_le hd
  by_cases hz : val ns = 0
  · unfold rvF
    rw [if_pos hz]
    refine ⟨0, ret_Round_zero r k p (by omega) (by omega) neg ns dn hn hd (by omega) (by omega) ?_ hz, .inr ⟨.inl rfl, rfl, rfl⟩, by show 0 ≤ 2; decide, rfl⟩
    unfold errR
    rw [errQ_ok (by omega) (by omega) hd0 (by omega), if_neg (by decide), if_pos hf]
  · unfold rvF
    rw [if_neg hz]
    obtain ⟨w1, w2, w3⟩ := rndF_wf k p hf r neg (val ns) (val dn) hz hd0 (by omega) (by omega)
    exact ⟨_, ret_Round_ok r k p hr hf neg ns dn hn hd (by omega) (by omega) hz hd0, w1, w3, w2⟩
theorem wf_bounds {x : FV} (h : wfF x) : (words x.mag).length ≤ 5000 ∧ -400000 ≤ x.exp ∧ x.exp ≤ 400000 := by
  rcases h with ⟨h1, h2, h3, h4, h5⟩ | ⟨h1, h2, h3⟩
  · exact ⟨h5, by omega, by omega⟩
  · rw [h2, h3]; exact ⟨by decide, by decide, by decide⟩
theorem sgnI_bounds (z : Int) : -1 ≤ sgnI z ∧ sgnI z ≤ 1 := by unfold sgnI; split <;> (try split) <;> omega
set_option maxRecDepth 100000 in
set_option maxHeartbeats 8000000 in
theorem ret_LawRoundRises (k p r : Int) (h1 : -9223372036854775808 ≤ r) (h2 : r < 9223372036854775808) (a b : Bool) (ns dn ms en : List Nat) (hn : Wd ns) (hd : Wd dn) (hm : Wd ms) (he : Wd en) (l1 : ns.length ≤ 9223372036854775807) (l2 : dn.length ≤ 9223372036854775807) (l3 : ms.length ≤ 9223372036854775807) (l4 : en.length ≤ 9223372036854775807) :
    Ret Tryz.prog GEs 4 [.agg [i64 k, i64 p], i64 r, .agg [.bool a, ws ns, ws dn], .agg [.bool b, ws ms, ws en]] (.bool true) := by
  have hB := ret_Brief2 a b ns dn ms en l1 l2 l3 l4
  by_cases hb : (ns.length ≤ 40 ∧ dn.length ≤ 40) ∧ ms.length ≤ 40 ∧ en.length ≤ 40
  · rw [decT hb] at hB
    obtain ⟨⟨k1, k2⟩, k3, k4⟩ := hb
    have hA := ret_args2 r k p h1 h2 a b ns dn ms en hd he k1 k2 k3 k4
    by_cases hz : errR2 r k p ns.length dn.length (val dn) ms.length en.length (val en) = 0
    · rw [hz] at hA
      obtain ⟨d0, e0, hr, hf⟩ := errR2_ok hz
      obtain ⟨k, rfl⟩ := Int.eq_ofNat_of_zero_le (show 0 ≤ k by omega)
      obtain ⟨p, rfl⟩ := Int.eq_ofNat_of_zero_le (show 0 ≤ p by omega)
      obtain ⟨r, rfl⟩ := Int.eq_ofNat_of_zero_le (show 0 ≤ r by omega)
      have hg := gF_le (k := k) (by omega) (by omega)
      have hC := ret_Cmp12 a b ns dn ms en hn hd hm he (by omega) (by omega) (by omega) (by omega)
      obtain ⟨f1, hR1, w1, c1, x1⟩ := ret_RoundA r k p (by omega) hf a ns dn hn hd k1 k2 d0
      obtain ⟨f2, hR2, w2, c2, x2⟩ := ret_RoundA r k p (by omega) hf b ms en hm he k3 k4 e0
      have b1 := wf_bounds w1
      have b2 := wf_bounds w2
      have hcb := sgnI_bounds (sg a (val ns) * (val en : Int) - sg b (val ms) * (val dn : Int))
      have key1 : cpQ a (val ns) (val dn) b (val ms) (val en) ≤ 0 → cpF (rvF p (gF k) r a (val ns) (val dn)) (rvF p (gF k) r b (val ms) (val en)) ≤ 0 := fun h => by
        unfold cpQ at h
        rw [sgnI_le] at h
        exact rises p (gF k) r a b _ _ _ _ (by omega) hg.1 d0 e0 (by unfold sg at h; omega)
      have key2 : ¬ cpQ a (val ns) (val dn) b (val ms) (val en) ≤ 0 → cpF (rvF p (gF k) r b (val ms) (val en)) (rvF p (gF k) r a (val ns) (val dn)) ≤ 0 := fun h => by
        unfold cpQ at h
        rw [sgnI_le] at h
        exact rises p (gF k) r b a _ _ _ _ (by omega) hg.1 e0 d0 (by unfold sg at h; omega)
      have cb : -1 ≤ cpQ a (val ns) (val dn) b (val ms) (val en) ∧ cpQ a (val ns) (val dn) b (val ms) (val en) ≤ 1 := hcb
      have hF1 := ret_Cmp15 _ _ c1 c2 b1.1 b2.1 b1.2.1 b1.2.2 b2.2.1 b2.2.2
      have hF2 := ret_Cmp15 _ _ c2 c1 b2.1 b1.1 b2.2.1 b2.2.2 b1.2.1 b1.2.2
      have hG1 := ret_GoodW _ w1 c1
      have hG2 := ret_GoodW _ w2 c2
      have hT1 := ret_Their (rvF p (gF k) r a (val ns) (val dn))
      have hT2 := ret_Their (rvF p (gF k) r b (val ms) (val en))
      generalize rvF p (gF k) r a (val ns) (val dn) = x at *
      generalize rvF p (gF k) r b (val ms) (val en) = y at *
      generalize cpQ a (val ns) (val dn) b (val ms) (val en) = c at *
      generalize cpF x y = q1 at *
      generalize cpF y x = q2 at *
      unfold flv at *
      have n1 : x.kind ≠ 3 := by omega
      have n2 : y.kind ≠ 3 := by omega
      by_cases hc : c ≤ 0
      · have hq := key1 hc
        have hX := hR1
        have hY := hR2
        have hTx := hT1
        have hTy := hT2
        have hGx := hG1
        have hGy := hG2
        have hF := hF1
        refine RetN_start Tryz.func4 (by kernel_rfl) rfl fun Q hQ hQ2 => ?_; rw [Tryz.ntmps4]; simp only [u, i64, Nat.reduceSub, Nat.reduceAdd, bm]
        repeat (first | ((first | refine Gs ?_ | refine Gr ?_); simp (disch := omega) only [u, i64, ax, eq_self, if_true, if_false, Nat.reduceAdd, Int.reduceToNat, Int.reduceAdd, tvs, bs]; refine aA ?_) | refine G_seq ?_ | refine G_block ?_ | refine G_condT rfl ?_ | refine G_condF rfl ?_ | refine G_skip ?_ | refine G_ret ?_ | refine G_exit ?_ | refine q_tn ?_ | refine q_tr ?_ | refine q_tx ?_ | refine q_bn ?_ | refine q_br ?_ | refine q_bx ?_ | refine q_by (by decide) ?_)
        ((first | refine Gs ?_ | refine Gr ?_); simp (disch := omega) only [u, i64, ax, eq_self, if_true, if_false, Nat.reduceAdd, Int.reduceToNat, Int.reduceAdd, tvs, bs])
        simp (disch := omega) only [u, i64, ax, eq_self, if_true, if_false, Nat.reduceAdd, Int.reduceToNat, Int.reduceAdd, tvs, bs, Nat.reduceMul, List.take_succ_cons, List.take_zero, List.nil_append, List.cons_append, Nat.reduceLeDiff]
        (refine cR hB ?_; simp (disch := omega) only [u, i64, ax, eq_self, if_true, if_false, Nat.reduceAdd, Int.reduceToNat, Int.reduceAdd, tvs, bs]; try refine aA ?_)
        simp (disch := omega) only [u, i64, ax, eq_self, if_true, if_false, Nat.reduceAdd, Int.reduceToNat, Int.reduceAdd, tvs, bs, Nat.reduceMul, List.take_succ_cons, List.take_zero, List.nil_append, List.cons_append, Nat.reduceLeDiff]
        repeat (first | ((first | refine Gs ?_ | refine Gr ?_); simp (disch := omega) only [u, i64, ax, eq_self, if_true, if_false, Nat.reduceAdd, Int.reduceToNat, Int.reduceAdd, tvs, bs]; first | refine aA ?_ | ((first | refine cR hA ?_ | refine cR hC ?_ | refine cR hX ?_ | refine cR hY ?_ | refine cR hTx ?_ | refine cR hGx ?_ | refine cR hTy ?_ | refine cR hGy ?_ | refine cR hF ?_ | refine cR ret_awake16 ?_); simp (disch := omega) only [u, i64, ax, eq_self, if_true, if_false, Nat.reduceAdd, Int.reduceToNat, Int.reduceAdd, tvs, bs]; try refine aA ?_)) | ((first | refine cR hA ?_ | refine cR hC ?_ | refine cR hX ?_ | refine cR hY ?_ | refine cR hTx ?_ | refine cR hGx ?_ | refine cR hTy ?_ | refine cR hGy ?_ | refine cR hF ?_ | refine cR ret_awake16 ?_); simp (disch := omega) only [u, i64, ax, eq_self, if_true, if_false, Nat.reduceAdd, Int.reduceToNat, Int.reduceAdd, tvs, bs]; try refine aA ?_) | refine G_seq ?_ | refine G_block ?_ | refine G_condT rfl ?_ | refine G_condF rfl ?_ | refine G_skip ?_ | refine G_ret ?_ | refine G_exit ?_ | refine q_tn ?_ | refine q_tr ?_ | refine q_tx ?_ | refine q_bn ?_ | refine q_br ?_ | refine q_bx ?_ | refine q_by (by decide) ?_)
        (refine FinQ hQ (congrArg Array.toList Tryz.results4) _ _ ?_); simp (disch := omega) only [u, i64, ax, if_true, forall_const, reduceCtorEq, implies_true, tvs, bf]
      · have hq := key2 hc
        have hX := hR2
        have hY := hR1
        have hTx := hT2
        have hTy := hT1
        have hGx := hG2
        have hGy := hG1
        have hF := hF2
        refine RetN_start Tryz.func4 (by kernel_rfl) rfl fun Q hQ hQ2 => ?_; rw [Tryz.ntmps4]; simp only [u, i64, Nat.reduceSub, Nat.reduceAdd, bm]
        repeat (first | ((first | refine Gs ?_ | refine Gr ?_); simp (disch := omega) only [u, i64, ax, eq_self, if_true, if_false, Nat.reduceAdd, Int.reduceToNat, Int.reduceAdd, tvs, bs]; refine aA ?_) | refine G_seq ?_ | refine G_block ?_ | refine G_condT rfl ?_ | refine G_condF rfl ?_ | refine G_skip ?_ | refine G_ret ?_ | refine G_exit ?_ | refine q_tn ?_ | refine q_tr ?_ | refine q_tx ?_ | refine q_bn ?_ | refine q_br ?_ | refine q_bx ?_ | refine q_by (by decide) ?_)
        ((first | refine Gs ?_ | refine Gr ?_); simp (disch := omega) only [u, i64, ax, eq_self, if_true, if_false, Nat.reduceAdd, Int.reduceToNat, Int.reduceAdd, tvs, bs])
        simp (disch := omega) only [u, i64, ax, eq_self, if_true, if_false, Nat.reduceAdd, Int.reduceToNat, Int.reduceAdd, tvs, bs, Nat.reduceMul, List.take_succ_cons, List.take_zero, List.nil_append, List.cons_append, Nat.reduceLeDiff]
        (refine cR hB ?_; simp (disch := omega) only [u, i64, ax, eq_self, if_true, if_false, Nat.reduceAdd, Int.reduceToNat, Int.reduceAdd, tvs, bs]; try refine aA ?_)
        simp (disch := omega) only [u, i64, ax, eq_self, if_true, if_false, Nat.reduceAdd, Int.reduceToNat, Int.reduceAdd, tvs, bs, Nat.reduceMul, List.take_succ_cons, List.take_zero, List.nil_append, List.cons_append, Nat.reduceLeDiff]
        repeat (first | ((first | refine Gs ?_ | refine Gr ?_); simp (disch := omega) only [u, i64, ax, eq_self, if_true, if_false, Nat.reduceAdd, Int.reduceToNat, Int.reduceAdd, tvs, bs]; first | refine aA ?_ | ((first | refine cR hA ?_ | refine cR hC ?_ | refine cR hX ?_ | refine cR hY ?_ | refine cR hTx ?_ | refine cR hGx ?_ | refine cR hTy ?_ | refine cR hGy ?_ | refine cR hF ?_ | refine cR ret_awake16 ?_); simp (disch := omega) only [u, i64, ax, eq_self, if_true, if_false, Nat.reduceAdd, Int.reduceToNat, Int.reduceAdd, tvs, bs]; try refine aA ?_)) | ((first | refine cR hA ?_ | refine cR hC ?_ | refine cR hX ?_ | refine cR hY ?_ | refine cR hTx ?_ | refine cR hGx ?_ | refine cR hTy ?_ | refine cR hGy ?_ | refine cR hF ?_ | refine cR ret_awake16 ?_); simp (disch := omega) only [u, i64, ax, eq_self, if_true, if_false, Nat.reduceAdd, Int.reduceToNat, Int.reduceAdd, tvs, bs]; try refine aA ?_) | refine G_seq ?_ | refine G_block ?_ | refine G_condT rfl ?_ | refine G_condF rfl ?_ | refine G_skip ?_ | refine G_ret ?_ | refine G_exit ?_ | refine q_tn ?_ | refine q_tr ?_ | refine q_tx ?_ | refine q_bn ?_ | refine q_br ?_ | refine q_bx ?_ | refine q_by (by decide) ?_)
        (refine FinQ hQ (congrArg Array.toList Tryz.results4) _ _ ?_); simp (disch := omega) only [u, i64, ax, if_true, forall_const, reduceCtorEq, implies_true, tvs, bf]
    · generalize errR2 r k p ns.length dn.length (val dn) ms.length en.length (val en) = e at *
      refine RetN_start Tryz.func4 (by kernel_rfl) rfl fun Q hQ hQ2 => ?_; rw [Tryz.ntmps4]; simp only [u, i64, Nat.reduceSub, Nat.reduceAdd, bm]
      repeat (first | ((first | refine Gs ?_ | refine Gr ?_); simp (disch := omega) only [u, i64, ax, eq_self, if_true, if_false, Nat.reduceAdd, Int.reduceToNat, Int.reduceAdd, tvs, bs]; refine aA ?_) | refine G_seq ?_ | refine G_block ?_ | refine G_condT rfl ?_ | refine G_condF rfl ?_ | refine G_skip ?_ | refine G_ret ?_ | refine G_exit ?_ | refine q_tn ?_ | refine q_tr ?_ | refine q_tx ?_ | refine q_bn ?_ | refine q_br ?_ | refine q_bx ?_ | refine q_by (by decide) ?_)
      ((first | refine Gs ?_ | refine Gr ?_); simp (disch := omega) only [u, i64, ax, eq_self, if_true, if_false, Nat.reduceAdd, Int.reduceToNat, Int.reduceAdd, tvs, bs])
      simp (disch := omega) only [u, i64, ax, eq_self, if_true, if_false, Nat.reduceAdd, Int.reduceToNat, Int.reduceAdd, tvs, bs, Nat.reduceMul, List.take_succ_cons, List.take_zero, List.nil_append, List.cons_append, Nat.reduceLeDiff]
      (refine cR hB ?_; simp (disch := omega) only [u, i64, ax, eq_self, if_true, if_false, Nat.reduceAdd, Int.reduceToNat, Int.reduceAdd, tvs, bs]; try refine aA ?_)
      simp (disch := omega) only [u, i64, ax, eq_self, if_true, if_false, Nat.reduceAdd, Int.reduceToNat, Int.reduceAdd, tvs, bs, Nat.reduceMul, List.take_succ_cons, List.take_zero, List.nil_append, List.cons_append, Nat.reduceLeDiff]
      repeat (first | ((first | refine Gs ?_ | refine Gr ?_); simp (disch := omega) only [u, i64, ax, eq_self, if_true, if_false, Nat.reduceAdd, Int.reduceToNat, Int.reduceAdd, tvs, bs]; first | refine aA ?_ | ((first | refine cR hA ?_ | refine cR ret_awake16 ?_); simp (disch := omega) only [u, i64, ax, eq_self, if_true, if_false, Nat.reduceAdd, Int.reduceToNat, Int.reduceAdd, tvs, bs]; try refine aA ?_)) | ((first | refine cR hA ?_ | refine cR ret_awake16 ?_); simp (disch := omega) only [u, i64, ax, eq_self, if_true, if_false, Nat.reduceAdd, Int.reduceToNat, Int.reduceAdd, tvs, bs]; try refine aA ?_) | refine G_seq ?_ | refine G_block ?_ | refine G_condT rfl ?_ | refine G_condF rfl ?_ | refine G_skip ?_ | refine G_ret ?_ | refine G_exit ?_ | refine q_tn ?_ | refine q_tr ?_ | refine q_tx ?_ | refine q_bn ?_ | refine q_br ?_ | refine q_bx ?_ | refine q_by (by decide) ?_)
      (refine FinQ hQ (congrArg Array.toList Tryz.results4) _ _ ?_); simp (disch := omega) only [u, i64, ax, if_true, forall_const, reduceCtorEq, implies_true, tvs, bf]
  · rw [decF hb] at hB
    refine RetN_start Tryz.func4 (by kernel_rfl) rfl fun Q hQ hQ2 => ?_; rw [Tryz.ntmps4]; simp only [u, i64, Nat.reduceSub, Nat.reduceAdd, bm]
    repeat (first | ((first | refine Gs ?_ | refine Gr ?_); simp (disch := omega) only [u, i64, ax, eq_self, if_true, if_false, Nat.reduceAdd, Int.reduceToNat, Int.reduceAdd, tvs, bs]; refine aA ?_) | refine G_seq ?_ | refine G_block ?_ | refine G_condT rfl ?_ | refine G_condF rfl ?_ | refine G_skip ?_ | refine G_ret ?_ | refine G_exit ?_ | refine q_tn ?_ | refine q_tr ?_ | refine q_tx ?_ | refine q_bn ?_ | refine q_br ?_ | refine q_bx ?_ | refine q_by (by decide) ?_)
    ((first | refine Gs ?_ | refine Gr ?_); simp (disch := omega) only [u, i64, ax, eq_self, if_true, if_false, Nat.reduceAdd, Int.reduceToNat, Int.reduceAdd, tvs, bs])
    simp (disch := omega) only [u, i64, ax, eq_self, if_true, if_false, Nat.reduceAdd, Int.reduceToNat, Int.reduceAdd, tvs, bs, Nat.reduceMul, List.take_succ_cons, List.take_zero, List.nil_append, List.cons_append, Nat.reduceLeDiff]
    repeat (first | ((first | refine Gs ?_ | refine Gr ?_); simp (disch := omega) only [u, i64, ax, eq_self, if_true, if_false, Nat.reduceAdd, Int.reduceToNat, Int.reduceAdd, tvs, bs]; first | refine aA ?_ | ((first | refine cR hB ?_ | refine cR ret_awake16 ?_); simp (disch := omega) only [u, i64, ax, eq_self, if_true, if_false, Nat.reduceAdd, Int.reduceToNat, Int.reduceAdd, tvs, bs]; try refine aA ?_)) | ((first | refine cR hB ?_ | refine cR ret_awake16 ?_); simp (disch := omega) only [u, i64, ax, eq_self, if_true, if_false, Nat.reduceAdd, Int.reduceToNat, Int.reduceAdd, tvs, bs]; try refine aA ?_) | refine G_seq ?_ | refine G_block ?_ | refine G_condT rfl ?_ | refine G_condF rfl ?_ | refine G_skip ?_ | refine G_ret ?_ | refine G_exit ?_ | refine q_tn ?_ | refine q_tr ?_ | refine q_tx ?_ | refine q_bn ?_ | refine q_br ?_ | refine q_bx ?_ | refine q_by (by decide) ?_)
    (refine FinQ hQ (congrArg Array.toList Tryz.results4) _ _ ?_); simp (disch := omega) only [u, i64, ax, if_true, forall_const, reduceCtorEq, implies_true, tvs, bf]
end Go.Proofs
