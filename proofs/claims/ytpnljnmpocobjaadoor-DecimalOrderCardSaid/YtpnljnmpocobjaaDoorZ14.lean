/-
  Contracts of functions of the program, each proved by a walk.
-/
import Derived.Test.YtpnljnmpocobjaaDoorZ13
import Derived.Test.YtpnljnmpocobjaaDoorZ8
import Derived.Test.YtpnljnmpocobjaaDoorZ7
import Derived.Test.YtpnljnmpocobjaaDoorZ10
import Derived.Test.YtpnljnmpocobjaaDoorZ6
set_option maxRecDepth 100000
set_option linter.unusedVariables false
set_option linter.unusedSimpArgs false
namespace Go.Proofs
open Go.Ax
set_option maxRecDepth 100000 in
set_option maxHeartbeats 2000000 in
theorem ret_dadd (p : Nat) (g : Int) (r : Nat) (x y : DV) (hp : 1 ≤ p ∧ p ≤ 400) (hg : 1 ≤ g ∧ g ≤ 6000) (hr : r ≤ 4) (hx : x.kind ≤ 2) (hy : y.kind ≤ 2) (lx : (words x.coef).length ≤ 90) (ly : (words y.coef).length ≤ 90) (ex : -13000 ≤ x.exp ∧ x.exp ≤ 13000) (ey : -13000 ≤ y.exp ∧ y.exp ≤ 13000) :
    Ret Tryd.prog GEs 101 [cx p g r, dv x, dv y] (.tup [dv (addD p g r x y).1, i64 (addD p g r x y).2]) := by
  obtain ⟨k1, n1, c1, e1⟩ := x
  obtain ⟨k2, n2, c2, e2⟩ := y
  simp only at *
  unfold addD nanD
  simp only
  by_cases a1 : k1 = 2
  · rw [if_pos (Or.inl a1)]
    unfold dv cx
    simp only
    refine RetN_start Tryd.func101 (by kernel_rfl) rfl fun Q hQ hQ2 => ?_; rw [Tryd.ntmps101]; simp only [u, i64, Nat.reduceSub, Nat.reduceAdd, bm]
    repeat (first | ((first | refine Gs ?_ | refine Gr ?_); simp (disch := omega) only [u, i64, ax, eq_self, if_true, if_false, Nat.reduceAdd, Int.reduceToNat, Int.reduceAdd, tvs, bs]; refine aA ?_) | refine G_seq ?_ | refine G_block ?_ | refine G_condT rfl ?_ | refine G_condF rfl ?_ | refine G_skip ?_ | refine G_ret ?_ | refine G_exit ?_ | refine q_tn ?_ | refine q_tr ?_ | refine q_tx ?_ | refine q_bn ?_ | refine q_br ?_ | refine q_bx ?_ | refine q_by (by decide) ?_)
    (refine FinQ hQ (congrArg Array.toList Tryd.results101) _ _ ?_); simp (disch := omega) only [u, i64, ax, if_true, forall_const, reduceCtorEq, implies_true, tvs, bf]
    all_goals rfl
  by_cases a2 : k2 = 2
  · rw [if_pos (Or.inr a2)]
    unfold dv cx
    simp only
    refine RetN_start Tryd.func101 (by kernel_rfl) rfl fun Q hQ hQ2 => ?_; rw [Tryd.ntmps101]; simp only [u, i64, Nat.reduceSub, Nat.reduceAdd, bm]
    repeat (first | ((first | refine Gs ?_ | refine Gr ?_); simp (disch := omega) only [u, i64, ax, eq_self, if_true, if_false, Nat.reduceAdd, Int.reduceToNat, Int.reduceAdd, tvs, bs]; refine aA ?_) | refine G_seq ?_ | refine G_block ?_ | refine G_condT rfl ?_ | refine G_condF rfl ?_ | refine G_skip ?_ | refine G_ret ?_ | refine G_exit ?_ | refine q_tn ?_ | refine q_tr ?_ | refine q_tx ?_ | refine q_bn ?_ | refine q_br ?_ | refine q_bx ?_ | refine q_by (by decide) ?_)
    (refine FinQ hQ (congrArg Array.toList Tryd.results101) _ _ ?_); simp (disch := omega) only [u, i64, ax, if_true, forall_const, reduceCtorEq, implies_true, tvs, bf]
    all_goals rfl
  rw [if_neg (fun h => by omega)]
  by_cases a3 : k1 = 1
  · by_cases a4 : k2 = 1
    · by_cases a5 : n1 = n2
      · have hb : (n1 != n2) = false := by subst a5; cases n1 <;> rfl
        rw [if_neg (fun h => h.2.2 a5), if_pos a3]
        unfold dv cx
        simp only
        cases n1 <;> cases n2 <;> first | (cases a5; done) | skip
        · skip
          refine RetN_start Tryd.func101 (by kernel_rfl) rfl fun Q hQ hQ2 => ?_; rw [Tryd.ntmps101]; simp only [u, i64, Nat.reduceSub, Nat.reduceAdd, bm]
          repeat (first | ((first | refine Gs ?_ | refine Gr ?_); simp (disch := omega) only [u, i64, ax, eq_self, if_true, if_false, Nat.reduceAdd, Int.reduceToNat, Int.reduceAdd, tvs, bs]; refine aA ?_) | refine G_seq ?_ | refine G_block ?_ | refine G_condT rfl ?_ | refine G_condF rfl ?_ | refine G_skip ?_ | refine G_ret ?_ | refine G_exit ?_ | refine q_tn ?_ | refine q_tr ?_ | refine q_tx ?_ | refine q_bn ?_ | refine q_br ?_ | refine q_bx ?_ | refine q_by (by decide) ?_)
          (refine FinQ hQ (congrArg Array.toList Tryd.results101) _ _ ?_); simp (disch := omega) only [u, i64, ax, if_true, forall_const, reduceCtorEq, implies_true, tvs, bf]
          all_goals rfl
        · skip
          refine RetN_start Tryd.func101 (by kernel_rfl) rfl fun Q hQ hQ2 => ?_; rw [Tryd.ntmps101]; simp only [u, i64, Nat.reduceSub, Nat.reduceAdd, bm]
          repeat (first | ((first | refine Gs ?_ | refine Gr ?_); simp (disch := omega) only [u, i64, ax, eq_self, if_true, if_false, Nat.reduceAdd, Int.reduceToNat, Int.reduceAdd, tvs, bs]; refine aA ?_) | refine G_seq ?_ | refine G_block ?_ | refine G_condT rfl ?_ | refine G_condF rfl ?_ | refine G_skip ?_ | refine G_ret ?_ | refine G_exit ?_ | refine q_tn ?_ | refine q_tr ?_ | refine q_tx ?_ | refine q_bn ?_ | refine q_br ?_ | refine q_bx ?_ | refine q_by (by decide) ?_)
          (refine FinQ hQ (congrArg Array.toList Tryd.results101) _ _ ?_); simp (disch := omega) only [u, i64, ax, if_true, forall_const, reduceCtorEq, implies_true, tvs, bf]
          all_goals rfl
      · rw [if_pos ⟨a3, a4, a5⟩]
        unfold dv cx
        simp only
        cases n1 <;> cases n2
        · exact absurd rfl a5
        · skip
          refine RetN_start Tryd.func101 (by kernel_rfl) rfl fun Q hQ hQ2 => ?_; rw [Tryd.ntmps101]; simp only [u, i64, Nat.reduceSub, Nat.reduceAdd, bm]
          repeat (first | ((first | refine Gs ?_ | refine Gr ?_); simp (disch := omega) only [u, i64, ax, eq_self, if_true, if_false, Nat.reduceAdd, Int.reduceToNat, Int.reduceAdd, tvs, bs]; refine aA ?_) | refine G_seq ?_ | refine G_block ?_ | refine G_condT rfl ?_ | refine G_condF rfl ?_ | refine G_skip ?_ | refine G_ret ?_ | refine G_exit ?_ | refine q_tn ?_ | refine q_tr ?_ | refine q_tx ?_ | refine q_bn ?_ | refine q_br ?_ | refine q_bx ?_ | refine q_by (by decide) ?_)
          (refine FinQ hQ (congrArg Array.toList Tryd.results101) _ _ ?_); simp (disch := omega) only [u, i64, ax, if_true, forall_const, reduceCtorEq, implies_true, tvs, bf]
          all_goals rfl
        · skip
          refine RetN_start Tryd.func101 (by kernel_rfl) rfl fun Q hQ hQ2 => ?_; rw [Tryd.ntmps101]; simp only [u, i64, Nat.reduceSub, Nat.reduceAdd, bm]
          repeat (first | ((first | refine Gs ?_ | refine Gr ?_); simp (disch := omega) only [u, i64, ax, eq_self, if_true, if_false, Nat.reduceAdd, Int.reduceToNat, Int.reduceAdd, tvs, bs]; refine aA ?_) | refine G_seq ?_ | refine G_block ?_ | refine G_condT rfl ?_ | refine G_condF rfl ?_ | refine G_skip ?_ | refine G_ret ?_ | refine G_exit ?_ | refine q_tn ?_ | refine q_tr ?_ | refine q_tx ?_ | refine q_bn ?_ | refine q_br ?_ | refine q_bx ?_ | refine q_by (by decide) ?_)
          (refine FinQ hQ (congrArg Array.toList Tryd.results101) _ _ ?_); simp (disch := omega) only [u, i64, ax, if_true, forall_const, reduceCtorEq, implies_true, tvs, bf]
          all_goals rfl
        · exact absurd rfl a5
    · rw [if_neg (fun h => a4 h.2.1), if_pos a3]
      unfold dv cx
      simp only
      refine RetN_start Tryd.func101 (by kernel_rfl) rfl fun Q hQ hQ2 => ?_; rw [Tryd.ntmps101]; simp only [u, i64, Nat.reduceSub, Nat.reduceAdd, bm]
      repeat (first | ((first | refine Gs ?_ | refine Gr ?_); simp (disch := omega) only [u, i64, ax, eq_self, if_true, if_false, Nat.reduceAdd, Int.reduceToNat, Int.reduceAdd, tvs, bs]; refine aA ?_) | refine G_seq ?_ | refine G_block ?_ | refine G_condT rfl ?_ | refine G_condF rfl ?_ | refine G_skip ?_ | refine G_ret ?_ | refine G_exit ?_ | refine q_tn ?_ | refine q_tr ?_ | refine q_tx ?_ | refine q_bn ?_ | refine q_br ?_ | refine q_bx ?_ | refine q_by (by decide) ?_)
      (refine FinQ hQ (congrArg Array.toList Tryd.results101) _ _ ?_); simp (disch := omega) only [u, i64, ax, if_true, forall_const, reduceCtorEq, implies_true, tvs, bf]
      all_goals rfl
  · rw [if_neg (fun h => a3 h.1), if_neg a3]
    by_cases a4 : k2 = 1
    · rw [if_pos a4]
      unfold dv cx
      simp only
      refine RetN_start Tryd.func101 (by kernel_rfl) rfl fun Q hQ hQ2 => ?_; rw [Tryd.ntmps101]; simp only [u, i64, Nat.reduceSub, Nat.reduceAdd, bm]
      repeat (first | ((first | refine Gs ?_ | refine Gr ?_); simp (disch := omega) only [u, i64, ax, eq_self, if_true, if_false, Nat.reduceAdd, Int.reduceToNat, Int.reduceAdd, tvs, bs]; refine aA ?_) | refine G_seq ?_ | refine G_block ?_ | refine G_condT rfl ?_ | refine G_condF rfl ?_ | refine G_skip ?_ | refine G_ret ?_ | refine G_exit ?_ | refine q_tn ?_ | refine q_tr ?_ | refine q_tx ?_ | refine q_bn ?_ | refine q_br ?_ | refine q_bx ?_ | refine q_by (by decide) ?_)
      (refine FinQ hQ (congrArg Array.toList Tryd.results101) _ _ ?_); simp (disch := omega) only [u, i64, ax, if_true, forall_const, reduceCtorEq, implies_true, tvs, bf]
      all_goals rfl
    · rw [if_neg a4]
      have hbx := bl_len c1
      have hby := bl_len c2
      have hTx := ret_Ten (e1 - min e1 e2).toNat (by omega)
      have hTy := ret_Ten (e2 - min e1 e2).toNat (by omega)
      have tl : ∀ k : Nat, k ≤ 26000 → (words (10 ^ k)).length ≤ 1626 := fun k hk => le_pow_words (ten_le k) (by omega)
      have tx := tl (e1 - min e1 e2).toNat (by omega)
      have ty := tl (e2 - min e1 e2).toNat (by omega)
      have hcx : e1 - min e1 e2 = (((e1 - min e1 e2).toNat : Nat) : Int) := by omega
      have hcy : e2 - min e1 e2 = (((e2 - min e1 e2).toNat : Nat) : Int) := by omega
      have hMx := ret_Mul (words c1) (words (10 ^ (e1 - min e1 e2).toNat)) (Wd_words _) (Wd_words _) (by omega) (by omega)
      have hMy := ret_Mul (words c2) (words (10 ^ (e2 - min e1 e2).toNat)) (Wd_words _) (Wd_words _) (by omega) (by omega)
      rw [val_words, val_words] at hMx hMy
      have mx := length_mul c1 (10 ^ (e1 - min e1 e2).toNat)
      have my := length_mul c2 (10 ^ (e2 - min e1 e2).toNat)
      generalize c1 * 10 ^ (e1 - min e1 e2).toNat = A at *
      generalize c2 * 10 ^ (e2 - min e1 e2).toNat = B at *
      have hC := ret_Cmp (words A) (words B) (Wd_words _) (Wd_words _) (by omega) (by omega)
      rw [val_words, val_words] at hC
      have hs := cmpI_sign A B
      have sl : (words (sumM n1 A n2 B)).length ≤ 2000 := by
        have h1 := length_add A B
        have h2 : sumM n1 A n2 B ≤ A + B := by unfold sumM; split <;> (try split) <;> omega
        have := length_mono h2
        omega
      have hF := fun ng => ret_dFinish p g r ng (sumM n1 A n2 B) (min e1 e2) (min e1 e2) hp hg hr sl (by omega) (by omega)
      generalize hE : min e1 e2 = E at *
      generalize (e1 - E).toNat = t1 at *
      generalize (e2 - E).toNat = t2 at *
      generalize 10 ^ t1 = T1 at *
      generalize 10 ^ t2 = T2 at *
      by_cases a5 : n1 = n2
      · subst a5
        have e1' : sumN r n1 A n1 B = n1 := by unfold sumN; rw [if_pos rfl]
        have e2' : sumM n1 A n1 B = A + B := by unfold sumM; rw [if_pos rfl]
        rw [e1']
        rw [e2'] at hF ⊢
        have hF := hF n1
        have hA := ret_Add (words A) (words B) (Wd_words _) (Wd_words _) (by omega) (by omega)
        rw [val_words, val_words] at hA
        generalize cmpI A B = cc at *
        generalize finD0 p g r n1 (A + B) E E = z at *
        generalize A + B = S at *
        clear sl hs
        unfold dv cx at *
        simp only at *
        cases n1
        · skip
          refine RetN_start Tryd.func101 (by kernel_rfl) rfl fun Q hQ hQ2 => ?_; rw [Tryd.ntmps101]; simp only [u, i64, Nat.reduceSub, Nat.reduceAdd, bm]
          repeat (first | ((first | refine Gs ?_ | refine Gr ?_); simp (disch := omega) only [u, i64, ax, eq_self, if_true, if_false, Nat.reduceAdd, Int.reduceToNat, Int.reduceAdd, tvs, bs]; refine aA ?_) | refine G_seq ?_ | refine G_block ?_ | refine G_condT rfl ?_ | refine G_condF rfl ?_ | refine G_skip ?_ | refine G_ret ?_ | refine G_exit ?_ | refine q_tn ?_ | refine q_tr ?_ | refine q_tx ?_ | refine q_bn ?_ | refine q_br ?_ | refine q_bx ?_ | refine q_by (by decide) ?_)
          ((first | refine Gs ?_ | refine Gr ?_); simp (disch := omega) only [u, i64, ax, eq_self, if_true, if_false, Nat.reduceAdd, Int.reduceToNat, Int.reduceAdd, tvs, bs])
          rw [hE, hcx]
          repeat (first | ((first | refine Gs ?_ | refine Gr ?_); simp (disch := omega) only [u, i64, ax, eq_self, if_true, if_false, Nat.reduceAdd, Int.reduceToNat, Int.reduceAdd, tvs, bs]; first | refine aA ?_ | ((first | refine cR hTx ?_ | refine cR hMx ?_); simp (disch := omega) only [u, i64, ax, eq_self, if_true, if_false, Nat.reduceAdd, Int.reduceToNat, Int.reduceAdd, tvs, bs]; try refine aA ?_)) | ((first | refine cR hTx ?_ | refine cR hMx ?_); simp (disch := omega) only [u, i64, ax, eq_self, if_true, if_false, Nat.reduceAdd, Int.reduceToNat, Int.reduceAdd, tvs, bs]; try refine aA ?_) | refine G_seq ?_ | refine G_block ?_ | refine G_condT rfl ?_ | refine G_condF rfl ?_ | refine G_skip ?_ | refine G_ret ?_ | refine G_exit ?_ | refine q_tn ?_ | refine q_tr ?_ | refine q_tx ?_ | refine q_bn ?_ | refine q_br ?_ | refine q_bx ?_ | refine q_by (by decide) ?_)
          ((first | refine Gs ?_ | refine Gr ?_); simp (disch := omega) only [u, i64, ax, eq_self, if_true, if_false, Nat.reduceAdd, Int.reduceToNat, Int.reduceAdd, tvs, bs])
          rw [hcy]
          repeat (first | ((first | refine Gs ?_ | refine Gr ?_); simp (disch := omega) only [u, i64, ax, eq_self, if_true, if_false, Nat.reduceAdd, Int.reduceToNat, Int.reduceAdd, tvs, bs]; first | refine aA ?_ | ((first | refine cR hTy ?_ | refine cR hMy ?_ | refine cR hC ?_ | refine cR hA ?_ | refine cR hF ?_); simp (disch := omega) only [u, i64, ax, eq_self, if_true, if_false, Nat.reduceAdd, Int.reduceToNat, Int.reduceAdd, tvs, bs]; try refine aA ?_)) | ((first | refine cR hTy ?_ | refine cR hMy ?_ | refine cR hC ?_ | refine cR hA ?_ | refine cR hF ?_); simp (disch := omega) only [u, i64, ax, eq_self, if_true, if_false, Nat.reduceAdd, Int.reduceToNat, Int.reduceAdd, tvs, bs]; try refine aA ?_) | refine G_seq ?_ | refine G_block ?_ | refine G_condT rfl ?_ | refine G_condF rfl ?_ | refine G_skip ?_ | refine G_ret ?_ | refine G_exit ?_ | refine q_tn ?_ | refine q_tr ?_ | refine q_tx ?_ | refine q_bn ?_ | refine q_br ?_ | refine q_bx ?_ | refine q_by (by decide) ?_)
          (refine FinQ hQ (congrArg Array.toList Tryd.results101) _ _ ?_); simp (disch := omega) only [u, i64, ax, if_true, forall_const, reduceCtorEq, implies_true, tvs, bf]
          all_goals rfl
        · skip
          refine RetN_start Tryd.func101 (by kernel_rfl) rfl fun Q hQ hQ2 => ?_; rw [Tryd.ntmps101]; simp only [u, i64, Nat.reduceSub, Nat.reduceAdd, bm]
          repeat (first | ((first | refine Gs ?_ | refine Gr ?_); simp (disch := omega) only [u, i64, ax, eq_self, if_true, if_false, Nat.reduceAdd, Int.reduceToNat, Int.reduceAdd, tvs, bs]; refine aA ?_) | refine G_seq ?_ | refine G_block ?_ | refine G_condT rfl ?_ | refine G_condF rfl ?_ | refine G_skip ?_ | refine G_ret ?_ | refine G_exit ?_ | refine q_tn ?_ | refine q_tr ?_ | refine q_tx ?_ | refine q_bn ?_ | refine q_br ?_ | refine q_bx ?_ | refine q_by (by decide) ?_)
          ((first | refine Gs ?_ | refine Gr ?_); simp (disch := omega) only [u, i64, ax, eq_self, if_true, if_false, Nat.reduceAdd, Int.reduceToNat, Int.reduceAdd, tvs, bs])
          rw [hE, hcx]
          repeat (first | ((first | refine Gs ?_ | refine Gr ?_); simp (disch := omega) only [u, i64, ax, eq_self, if_true, if_false, Nat.reduceAdd, Int.reduceToNat, Int.reduceAdd, tvs, bs]; first | refine aA ?_ | ((first | refine cR hTx ?_ | refine cR hMx ?_); simp (disch := omega) only [u, i64, ax, eq_self, if_true, if_false, Nat.reduceAdd, Int.reduceToNat, Int.reduceAdd, tvs, bs]; try refine aA ?_)) | ((first | refine cR hTx ?_ | refine cR hMx ?_); simp (disch := omega) only [u, i64, ax, eq_self, if_true, if_false, Nat.reduceAdd, Int.reduceToNat, Int.reduceAdd, tvs, bs]; try refine aA ?_) | refine G_seq ?_ | refine G_block ?_ | refine G_condT rfl ?_ | refine G_condF rfl ?_ | refine G_skip ?_ | refine G_ret ?_ | refine G_exit ?_ | refine q_tn ?_ | refine q_tr ?_ | refine q_tx ?_ | refine q_bn ?_ | refine q_br ?_ | refine q_bx ?_ | refine q_by (by decide) ?_)
          ((first | refine Gs ?_ | refine Gr ?_); simp (disch := omega) only [u, i64, ax, eq_self, if_true, if_false, Nat.reduceAdd, Int.reduceToNat, Int.reduceAdd, tvs, bs])
          rw [hcy]
          repeat (first | ((first | refine Gs ?_ | refine Gr ?_); simp (disch := omega) only [u, i64, ax, eq_self, if_true, if_false, Nat.reduceAdd, Int.reduceToNat, Int.reduceAdd, tvs, bs]; first | refine aA ?_ | ((first | refine cR hTy ?_ | refine cR hMy ?_ | refine cR hC ?_ | refine cR hA ?_ | refine cR hF ?_); simp (disch := omega) only [u, i64, ax, eq_self, if_true, if_false, Nat.reduceAdd, Int.reduceToNat, Int.reduceAdd, tvs, bs]; try refine aA ?_)) | ((first | refine cR hTy ?_ | refine cR hMy ?_ | refine cR hC ?_ | refine cR hA ?_ | refine cR hF ?_); simp (disch := omega) only [u, i64, ax, eq_self, if_true, if_false, Nat.reduceAdd, Int.reduceToNat, Int.reduceAdd, tvs, bs]; try refine aA ?_) | refine G_seq ?_ | refine G_block ?_ | refine G_condT rfl ?_ | refine G_condF rfl ?_ | refine G_skip ?_ | refine G_ret ?_ | refine G_exit ?_ | refine q_tn ?_ | refine q_tr ?_ | refine q_tx ?_ | refine q_bn ?_ | refine q_br ?_ | refine q_bx ?_ | refine q_by (by decide) ?_)
          (refine FinQ hQ (congrArg Array.toList Tryd.results101) _ _ ?_); simp (disch := omega) only [u, i64, ax, if_true, forall_const, reduceCtorEq, implies_true, tvs, bf]
          all_goals rfl
      · have hb : (n1 == n2) = false := by cases n1 <;> cases n2 <;> simp_all
        unfold sumN sumM at *
        rw [if_neg a5] at hF sl
        rw [if_neg a5, if_neg a5]
        rcases Nat.lt_trichotomy A B with hlt | heq | hgt
        · have h1 : ¬ B < A := by omega
          have hcc : cmpI A B < 0 := hs.2.1.2 hlt
          rw [if_neg h1] at hF sl
          rw [if_neg h1, if_neg h1, if_pos hlt]
          have hF := hF n2
          have hA := ret_Sub (words B) (words A) (Wd_words _) (Wd_words _) (by omega) (by omega) (by rw [val_words, val_words]; omega)
          rw [val_words, val_words] at hA
          generalize cmpI A B = cc at *
          generalize finD0 p g r n2 (B - A) E E = z at *
          generalize B - A = S at *
          clear sl hs
          unfold dv cx at *
          simp only at *
          cases n1 <;> cases n2
          · exact absurd rfl a5
          · skip
            refine RetN_start Tryd.func101 (by kernel_rfl) rfl fun Q hQ hQ2 => ?_; rw [Tryd.ntmps101]; simp only [u, i64, Nat.reduceSub, Nat.reduceAdd, bm]
            repeat (first | ((first | refine Gs ?_ | refine Gr ?_); simp (disch := omega) only [u, i64, ax, eq_self, if_true, if_false, Nat.reduceAdd, Int.reduceToNat, Int.reduceAdd, tvs, bs]; refine aA ?_) | refine G_seq ?_ | refine G_block ?_ | refine G_condT rfl ?_ | refine G_condF rfl ?_ | refine G_skip ?_ | refine G_ret ?_ | refine G_exit ?_ | refine q_tn ?_ | refine q_tr ?_ | refine q_tx ?_ | refine q_bn ?_ | refine q_br ?_ | refine q_bx ?_ | refine q_by (by decide) ?_)
            ((first | refine Gs ?_ | refine Gr ?_); simp (disch := omega) only [u, i64, ax, eq_self, if_true, if_false, Nat.reduceAdd, Int.reduceToNat, Int.reduceAdd, tvs, bs])
            rw [hE, hcx]
            repeat (first | ((first | refine Gs ?_ | refine Gr ?_); simp (disch := omega) only [u, i64, ax, eq_self, if_true, if_false, Nat.reduceAdd, Int.reduceToNat, Int.reduceAdd, tvs, bs]; first | refine aA ?_ | ((first | refine cR hTx ?_ | refine cR hMx ?_); simp (disch := omega) only [u, i64, ax, eq_self, if_true, if_false, Nat.reduceAdd, Int.reduceToNat, Int.reduceAdd, tvs, bs]; try refine aA ?_)) | ((first | refine cR hTx ?_ | refine cR hMx ?_); simp (disch := omega) only [u, i64, ax, eq_self, if_true, if_false, Nat.reduceAdd, Int.reduceToNat, Int.reduceAdd, tvs, bs]; try refine aA ?_) | refine G_seq ?_ | refine G_block ?_ | refine G_condT rfl ?_ | refine G_condF rfl ?_ | refine G_skip ?_ | refine G_ret ?_ | refine G_exit ?_ | refine q_tn ?_ | refine q_tr ?_ | refine q_tx ?_ | refine q_bn ?_ | refine q_br ?_ | refine q_bx ?_ | refine q_by (by decide) ?_)
            ((first | refine Gs ?_ | refine Gr ?_); simp (disch := omega) only [u, i64, ax, eq_self, if_true, if_false, Nat.reduceAdd, Int.reduceToNat, Int.reduceAdd, tvs, bs])
            rw [hcy]
            repeat (first | ((first | refine Gs ?_ | refine Gr ?_); simp (disch := omega) only [u, i64, ax, eq_self, if_true, if_false, Nat.reduceAdd, Int.reduceToNat, Int.reduceAdd, tvs, bs]; first | refine aA ?_ | ((first | refine cR hTy ?_ | refine cR hMy ?_ | refine cR hC ?_ | refine cR hA ?_ | refine cR hF ?_); simp (disch := omega) only [u, i64, ax, eq_self, if_true, if_false, Nat.reduceAdd, Int.reduceToNat, Int.reduceAdd, tvs, bs]; try refine aA ?_)) | ((first | refine cR hTy ?_ | refine cR hMy ?_ | refine cR hC ?_ | refine cR hA ?_ | refine cR hF ?_); simp (disch := omega) only [u, i64, ax, eq_self, if_true, if_false, Nat.reduceAdd, Int.reduceToNat, Int.reduceAdd, tvs, bs]; try refine aA ?_) | refine G_seq ?_ | refine G_block ?_ | refine G_condT rfl ?_ | refine G_condF rfl ?_ | refine G_skip ?_ | refine G_ret ?_ | refine G_exit ?_ | refine q_tn ?_ | refine q_tr ?_ | refine q_tx ?_ | refine q_bn ?_ | refine q_br ?_ | refine q_bx ?_ | refine q_by (by decide) ?_)
            (refine FinQ hQ (congrArg Array.toList Tryd.results101) _ _ ?_); simp (disch := omega) only [u, i64, ax, if_true, forall_const, reduceCtorEq, implies_true, tvs, bf]
            all_goals rfl
          · skip
            refine RetN_start Tryd.func101 (by kernel_rfl) rfl fun Q hQ hQ2 => ?_; rw [Tryd.ntmps101]; simp only [u, i64, Nat.reduceSub, Nat.reduceAdd, bm]
            repeat (first | ((first | refine Gs ?_ | refine Gr ?_); simp (disch := omega) only [u, i64, ax, eq_self, if_true, if_false, Nat.reduceAdd, Int.reduceToNat, Int.reduceAdd, tvs, bs]; refine aA ?_) | refine G_seq ?_ | refine G_block ?_ | refine G_condT rfl ?_ | refine G_condF rfl ?_ | refine G_skip ?_ | refine G_ret ?_ | refine G_exit ?_ | refine q_tn ?_ | refine q_tr ?_ | refine q_tx ?_ | refine q_bn ?_ | refine q_br ?_ | refine q_bx ?_ | refine q_by (by decide) ?_)
            ((first | refine Gs ?_ | refine Gr ?_); simp (disch := omega) only [u, i64, ax, eq_self, if_true, if_false, Nat.reduceAdd, Int.reduceToNat, Int.reduceAdd, tvs, bs])
            rw [hE, hcx]
            repeat (first | ((first | refine Gs ?_ | refine Gr ?_); simp (disch := omega) only [u, i64, ax, eq_self, if_true, if_false, Nat.reduceAdd, Int.reduceToNat, Int.reduceAdd, tvs, bs]; first | refine aA ?_ | ((first | refine cR hTx ?_ | refine cR hMx ?_); simp (disch := omega) only [u, i64, ax, eq_self, if_true, if_false, Nat.reduceAdd, Int.reduceToNat, Int.reduceAdd, tvs, bs]; try refine aA ?_)) | ((first | refine cR hTx ?_ | refine cR hMx ?_); simp (disch := omega) only [u, i64, ax, eq_self, if_true, if_false, Nat.reduceAdd, Int.reduceToNat, Int.reduceAdd, tvs, bs]; try refine aA ?_) | refine G_seq ?_ | refine G_block ?_ | refine G_condT rfl ?_ | refine G_condF rfl ?_ | refine G_skip ?_ | refine G_ret ?_ | refine G_exit ?_ | refine q_tn ?_ | refine q_tr ?_ | refine q_tx ?_ | refine q_bn ?_ | refine q_br ?_ | refine q_bx ?_ | refine q_by (by decide) ?_)
            ((first | refine Gs ?_ | refine Gr ?_); simp (disch := omega) only [u, i64, ax, eq_self, if_true, if_false, Nat.reduceAdd, Int.reduceToNat, Int.reduceAdd, tvs, bs])
            rw [hcy]
            repeat (first | ((first | refine Gs ?_ | refine Gr ?_); simp (disch := omega) only [u, i64, ax, eq_self, if_true, if_false, Nat.reduceAdd, Int.reduceToNat, Int.reduceAdd, tvs, bs]; first | refine aA ?_ | ((first | refine cR hTy ?_ | refine cR hMy ?_ | refine cR hC ?_ | refine cR hA ?_ | refine cR hF ?_); simp (disch := omega) only [u, i64, ax, eq_self, if_true, if_false, Nat.reduceAdd, Int.reduceToNat, Int.reduceAdd, tvs, bs]; try refine aA ?_)) | ((first | refine cR hTy ?_ | refine cR hMy ?_ | refine cR hC ?_ | refine cR hA ?_ | refine cR hF ?_); simp (disch := omega) only [u, i64, ax, eq_self, if_true, if_false, Nat.reduceAdd, Int.reduceToNat, Int.reduceAdd, tvs, bs]; try refine aA ?_) | refine G_seq ?_ | refine G_block ?_ | refine G_condT rfl ?_ | refine G_condF rfl ?_ | refine G_skip ?_ | refine G_ret ?_ | refine G_exit ?_ | refine q_tn ?_ | refine q_tr ?_ | refine q_tx ?_ | refine q_bn ?_ | refine q_br ?_ | refine q_bx ?_ | refine q_by (by decide) ?_)
            (refine FinQ hQ (congrArg Array.toList Tryd.results101) _ _ ?_); simp (disch := omega) only [u, i64, ax, if_true, forall_const, reduceCtorEq, implies_true, tvs, bf]
            all_goals rfl
          · exact absurd rfl a5
        · subst heq
          have h1 : ¬ A < A := Nat.lt_irrefl _
          have hcc : cmpI A A = 0 := hs.2.2.1.2 rfl
          rw [if_neg h1, Nat.sub_self] at hF sl
          rw [if_neg h1, if_neg h1, if_neg h1, Nat.sub_self]
          have hF := hF (decide (r = 4))
          rw [hcc] at hC
          have hr5 : r = 0 ∨ r = 1 ∨ r = 2 ∨ r = 3 ∨ r = 4 := by omega
          by_cases h4 : r = 4
          · subst h4
            rw [decT rfl] at hF ⊢
            have hF := Ret_nil (args' := [cx p g 4, .bool true, .emp, i64 E, .bool false, i64 E]) hF rfl
            generalize finD0 p g 4 true 0 E E = z at *
            clear sl hs
            unfold dv cx at *
            simp only at *
            cases n1 <;> cases n2
            · exact absurd rfl a5
            · skip
              refine RetN_start Tryd.func101 (by kernel_rfl) rfl fun Q hQ hQ2 => ?_; rw [Tryd.ntmps101]; simp only [u, i64, Nat.reduceSub, Nat.reduceAdd, bm]
              repeat (first | ((first | refine Gs ?_ | refine Gr ?_); simp (disch := omega) only [u, i64, ax, eq_self, if_true, if_false, Nat.reduceAdd, Int.reduceToNat, Int.reduceAdd, tvs, bs]; refine aA ?_) | refine G_seq ?_ | refine G_block ?_ | refine G_condT rfl ?_ | refine G_condF rfl ?_ | refine G_skip ?_ | refine G_ret ?_ | refine G_exit ?_ | refine q_tn ?_ | refine q_tr ?_ | refine q_tx ?_ | refine q_bn ?_ | refine q_br ?_ | refine q_bx ?_ | refine q_by (by decide) ?_)
              ((first | refine Gs ?_ | refine Gr ?_); simp (disch := omega) only [u, i64, ax, eq_self, if_true, if_false, Nat.reduceAdd, Int.reduceToNat, Int.reduceAdd, tvs, bs])
              rw [hE, hcx]
              repeat (first | ((first | refine Gs ?_ | refine Gr ?_); simp (disch := omega) only [u, i64, ax, eq_self, if_true, if_false, Nat.reduceAdd, Int.reduceToNat, Int.reduceAdd, tvs, bs]; first | refine aA ?_ | ((first | refine cR hTx ?_ | refine cR hMx ?_); simp (disch := omega) only [u, i64, ax, eq_self, if_true, if_false, Nat.reduceAdd, Int.reduceToNat, Int.reduceAdd, tvs, bs]; try refine aA ?_)) | ((first | refine cR hTx ?_ | refine cR hMx ?_); simp (disch := omega) only [u, i64, ax, eq_self, if_true, if_false, Nat.reduceAdd, Int.reduceToNat, Int.reduceAdd, tvs, bs]; try refine aA ?_) | refine G_seq ?_ | refine G_block ?_ | refine G_condT rfl ?_ | refine G_condF rfl ?_ | refine G_skip ?_ | refine G_ret ?_ | refine G_exit ?_ | refine q_tn ?_ | refine q_tr ?_ | refine q_tx ?_ | refine q_bn ?_ | refine q_br ?_ | refine q_bx ?_ | refine q_by (by decide) ?_)
              ((first | refine Gs ?_ | refine Gr ?_); simp (disch := omega) only [u, i64, ax, eq_self, if_true, if_false, Nat.reduceAdd, Int.reduceToNat, Int.reduceAdd, tvs, bs])
              rw [hcy]
              repeat (first | ((first | refine Gs ?_ | refine Gr ?_); simp (disch := omega) only [u, i64, ax, eq_self, if_true, if_false, Nat.reduceAdd, Int.reduceToNat, Int.reduceAdd, tvs, bs]; first | refine aA ?_ | ((first | refine cR hTy ?_ | refine cR hMy ?_ | refine cR hC ?_ | refine cR hF ?_); simp (disch := omega) only [u, i64, ax, eq_self, if_true, if_false, Nat.reduceAdd, Int.reduceToNat, Int.reduceAdd, tvs, bs]; try refine aA ?_)) | ((first | refine cR hTy ?_ | refine cR hMy ?_ | refine cR hC ?_ | refine cR hF ?_); simp (disch := omega) only [u, i64, ax, eq_self, if_true, if_false, Nat.reduceAdd, Int.reduceToNat, Int.reduceAdd, tvs, bs]; try refine aA ?_) | refine G_seq ?_ | refine G_block ?_ | refine G_condT rfl ?_ | refine G_condF rfl ?_ | refine G_skip ?_ | refine G_ret ?_ | refine G_exit ?_ | refine q_tn ?_ | refine q_tr ?_ | refine q_tx ?_ | refine q_bn ?_ | refine q_br ?_ | refine q_bx ?_ | refine q_by (by decide) ?_)
              (refine FinQ hQ (congrArg Array.toList Tryd.results101) _ _ ?_); simp (disch := omega) only [u, i64, ax, if_true, forall_const, reduceCtorEq, implies_true, tvs, bf]
              all_goals rfl
            · skip
              refine RetN_start Tryd.func101 (by kernel_rfl) rfl fun Q hQ hQ2 => ?_; rw [Tryd.ntmps101]; simp only [u, i64, Nat.reduceSub, Nat.reduceAdd, bm]
              repeat (first | ((first | refine Gs ?_ | refine Gr ?_); simp (disch := omega) only [u, i64, ax, eq_self, if_true, if_false, Nat.reduceAdd, Int.reduceToNat, Int.reduceAdd, tvs, bs]; refine aA ?_) | refine G_seq ?_ | refine G_block ?_ | refine G_condT rfl ?_ | refine G_condF rfl ?_ | refine G_skip ?_ | refine G_ret ?_ | refine G_exit ?_ | refine q_tn ?_ | refine q_tr ?_ | refine q_tx ?_ | refine q_bn ?_ | refine q_br ?_ | refine q_bx ?_ | refine q_by (by decide) ?_)
              ((first | refine Gs ?_ | refine Gr ?_); simp (disch := omega) only [u, i64, ax, eq_self, if_true, if_false, Nat.reduceAdd, Int.reduceToNat, Int.reduceAdd, tvs, bs])
              rw [hE, hcx]
              repeat (first | ((first | refine Gs ?_ | refine Gr ?_); simp (disch := omega) only [u, i64, ax, eq_self, if_true, if_false, Nat.reduceAdd, Int.reduceToNat, Int.reduceAdd, tvs, bs]; first | refine aA ?_ | ((first | refine cR hTx ?_ | refine cR hMx ?_); simp (disch := omega) only [u, i64, ax, eq_self, if_true, if_false, Nat.reduceAdd, Int.reduceToNat, Int.reduceAdd, tvs, bs]; try refine aA ?_)) | ((first | refine cR hTx ?_ | refine cR hMx ?_); simp (disch := omega) only [u, i64, ax, eq_self, if_true, if_false, Nat.reduceAdd, Int.reduceToNat, Int.reduceAdd, tvs, bs]; try refine aA ?_) | refine G_seq ?_ | refine G_block ?_ | refine G_condT rfl ?_ | refine G_condF rfl ?_ | refine G_skip ?_ | refine G_ret ?_ | refine G_exit ?_ | refine q_tn ?_ | refine q_tr ?_ | refine q_tx ?_ | refine q_bn ?_ | refine q_br ?_ | refine q_bx ?_ | refine q_by (by decide) ?_)
              ((first | refine Gs ?_ | refine Gr ?_); simp (disch := omega) only [u, i64, ax, eq_self, if_true, if_false, Nat.reduceAdd, Int.reduceToNat, Int.reduceAdd, tvs, bs])
              rw [hcy]
              repeat (first | ((first | refine Gs ?_ | refine Gr ?_); simp (disch := omega) only [u, i64, ax, eq_self, if_true, if_false, Nat.reduceAdd, Int.reduceToNat, Int.reduceAdd, tvs, bs]; first | refine aA ?_ | ((first | refine cR hTy ?_ | refine cR hMy ?_ | refine cR hC ?_ | refine cR hF ?_); simp (disch := omega) only [u, i64, ax, eq_self, if_true, if_false, Nat.reduceAdd, Int.reduceToNat, Int.reduceAdd, tvs, bs]; try refine aA ?_)) | ((first | refine cR hTy ?_ | refine cR hMy ?_ | refine cR hC ?_ | refine cR hF ?_); simp (disch := omega) only [u, i64, ax, eq_self, if_true, if_false, Nat.reduceAdd, Int.reduceToNat, Int.reduceAdd, tvs, bs]; try refine aA ?_) | refine G_seq ?_ | refine G_block ?_ | refine G_condT rfl ?_ | refine G_condF rfl ?_ | refine G_skip ?_ | refine G_ret ?_ | refine G_exit ?_ | refine q_tn ?_ | refine q_tr ?_ | refine q_tx ?_ | refine q_bn ?_ | refine q_br ?_ | refine q_bx ?_ | refine q_by (by decide) ?_)
              (refine FinQ hQ (congrArg Array.toList Tryd.results101) _ _ ?_); simp (disch := omega) only [u, i64, ax, if_true, forall_const, reduceCtorEq, implies_true, tvs, bf]
              all_goals rfl
            · exact absurd rfl a5
          · rw [decF h4] at hF ⊢
            have hF := Ret_nil (args' := [cx p g r, .bool false, .emp, i64 E, .bool false, i64 E]) hF rfl
            generalize finD0 p g r false 0 E E = z at *
            clear sl hs
            unfold dv cx at *
            simp only at *
            cases n1 <;> cases n2
            · exact absurd rfl a5
            · skip
              refine RetN_start Tryd.func101 (by kernel_rfl) rfl fun Q hQ hQ2 => ?_; rw [Tryd.ntmps101]; simp only [u, i64, Nat.reduceSub, Nat.reduceAdd, bm]
              repeat (first | ((first | refine Gs ?_ | refine Gr ?_); simp (disch := omega) only [u, i64, ax, eq_self, if_true, if_false, Nat.reduceAdd, Int.reduceToNat, Int.reduceAdd, tvs, bs]; refine aA ?_) | refine G_seq ?_ | refine G_block ?_ | refine G_condT rfl ?_ | refine G_condF rfl ?_ | refine G_skip ?_ | refine G_ret ?_ | refine G_exit ?_ | refine q_tn ?_ | refine q_tr ?_ | refine q_tx ?_ | refine q_bn ?_ | refine q_br ?_ | refine q_bx ?_ | refine q_by (by decide) ?_)
              ((first | refine Gs ?_ | refine Gr ?_); simp (disch := omega) only [u, i64, ax, eq_self, if_true, if_false, Nat.reduceAdd, Int.reduceToNat, Int.reduceAdd, tvs, bs])
              rw [hE, hcx]
              repeat (first | ((first | refine Gs ?_ | refine Gr ?_); simp (disch := omega) only [u, i64, ax, eq_self, if_true, if_false, Nat.reduceAdd, Int.reduceToNat, Int.reduceAdd, tvs, bs]; first | refine aA ?_ | ((first | refine cR hTx ?_ | refine cR hMx ?_); simp (disch := omega) only [u, i64, ax, eq_self, if_true, if_false, Nat.reduceAdd, Int.reduceToNat, Int.reduceAdd, tvs, bs]; try refine aA ?_)) | ((first | refine cR hTx ?_ | refine cR hMx ?_); simp (disch := omega) only [u, i64, ax, eq_self, if_true, if_false, Nat.reduceAdd, Int.reduceToNat, Int.reduceAdd, tvs, bs]; try refine aA ?_) | refine G_seq ?_ | refine G_block ?_ | refine G_condT rfl ?_ | refine G_condF rfl ?_ | refine G_skip ?_ | refine G_ret ?_ | refine G_exit ?_ | refine q_tn ?_ | refine q_tr ?_ | refine q_tx ?_ | refine q_bn ?_ | refine q_br ?_ | refine q_bx ?_ | refine q_by (by decide) ?_)
              ((first | refine Gs ?_ | refine Gr ?_); simp (disch := omega) only [u, i64, ax, eq_self, if_true, if_false, Nat.reduceAdd, Int.reduceToNat, Int.reduceAdd, tvs, bs])
              rw [hcy]
              repeat (first | ((first | refine Gs ?_ | refine Gr ?_); simp (disch := omega) only [u, i64, ax, eq_self, if_true, if_false, Nat.reduceAdd, Int.reduceToNat, Int.reduceAdd, tvs, bs]; first | refine aA ?_ | ((first | refine cR hTy ?_ | refine cR hMy ?_ | refine cR hC ?_ | refine cR hF ?_); simp (disch := omega) only [u, i64, ax, eq_self, if_true, if_false, Nat.reduceAdd, Int.reduceToNat, Int.reduceAdd, tvs, bs]; try refine aA ?_)) | ((first | refine cR hTy ?_ | refine cR hMy ?_ | refine cR hC ?_ | refine cR hF ?_); simp (disch := omega) only [u, i64, ax, eq_self, if_true, if_false, Nat.reduceAdd, Int.reduceToNat, Int.reduceAdd, tvs, bs]; try refine aA ?_) | refine G_seq ?_ | refine G_block ?_ | refine G_condT rfl ?_ | refine G_condF rfl ?_ | refine G_skip ?_ | refine G_ret ?_ | refine G_exit ?_ | refine q_tn ?_ | refine q_tr ?_ | refine q_tx ?_ | refine q_bn ?_ | refine q_br ?_ | refine q_bx ?_ | refine q_by (by decide) ?_)
              (refine FinQ hQ (congrArg Array.toList Tryd.results101) _ _ ?_); simp (disch := omega) only [u, i64, ax, if_true, forall_const, reduceCtorEq, implies_true, tvs, bf]
              all_goals rfl
            · skip
              refine RetN_start Tryd.func101 (by kernel_rfl) rfl fun Q hQ hQ2 => ?_; rw [Tryd.ntmps101]; simp only [u, i64, Nat.reduceSub, Nat.reduceAdd, bm]
              repeat (first | ((first | refine Gs ?_ | refine Gr ?_); simp (disch := omega) only [u, i64, ax, eq_self, if_true, if_false, Nat.reduceAdd, Int.reduceToNat, Int.reduceAdd, tvs, bs]; refine aA ?_) | refine G_seq ?_ | refine G_block ?_ | refine G_condT rfl ?_ | refine G_condF rfl ?_ | refine G_skip ?_ | refine G_ret ?_ | refine G_exit ?_ | refine q_tn ?_ | refine q_tr ?_ | refine q_tx ?_ | refine q_bn ?_ | refine q_br ?_ | refine q_bx ?_ | refine q_by (by decide) ?_)
              ((first | refine Gs ?_ | refine Gr ?_); simp (disch := omega) only [u, i64, ax, eq_self, if_true, if_false, Nat.reduceAdd, Int.reduceToNat, Int.reduceAdd, tvs, bs])
              rw [hE, hcx]
              repeat (first | ((first | refine Gs ?_ | refine Gr ?_); simp (disch := omega) only [u, i64, ax, eq_self, if_true, if_false, Nat.reduceAdd, Int.reduceToNat, Int.reduceAdd, tvs, bs]; first | refine aA ?_ | ((first | refine cR hTx ?_ | refine cR hMx ?_); simp (disch := omega) only [u, i64, ax, eq_self, if_true, if_false, Nat.reduceAdd, Int.reduceToNat, Int.reduceAdd, tvs, bs]; try refine aA ?_)) | ((first | refine cR hTx ?_ | refine cR hMx ?_); simp (disch := omega) only [u, i64, ax, eq_self, if_true, if_false, Nat.reduceAdd, Int.reduceToNat, Int.reduceAdd, tvs, bs]; try refine aA ?_) | refine G_seq ?_ | refine G_block ?_ | refine G_condT rfl ?_ | refine G_condF rfl ?_ | refine G_skip ?_ | refine G_ret ?_ | refine G_exit ?_ | refine q_tn ?_ | refine q_tr ?_ | refine q_tx ?_ | refine q_bn ?_ | refine q_br ?_ | refine q_bx ?_ | refine q_by (by decide) ?_)
              ((first | refine Gs ?_ | refine Gr ?_); simp (disch := omega) only [u, i64, ax, eq_self, if_true, if_false, Nat.reduceAdd, Int.reduceToNat, Int.reduceAdd, tvs, bs])
              rw [hcy]
              repeat (first | ((first | refine Gs ?_ | refine Gr ?_); simp (disch := omega) only [u, i64, ax, eq_self, if_true, if_false, Nat.reduceAdd, Int.reduceToNat, Int.reduceAdd, tvs, bs]; first | refine aA ?_ | ((first | refine cR hTy ?_ | refine cR hMy ?_ | refine cR hC ?_ | refine cR hF ?_); simp (disch := omega) only [u, i64, ax, eq_self, if_true, if_false, Nat.reduceAdd, Int.reduceToNat, Int.reduceAdd, tvs, bs]; try refine aA ?_)) | ((first | refine cR hTy ?_ | refine cR hMy ?_ | refine cR hC ?_ | refine cR hF ?_); simp (disch := omega) only [u, i64, ax, eq_self, if_true, if_false, Nat.reduceAdd, Int.reduceToNat, Int.reduceAdd, tvs, bs]; try refine aA ?_) | refine G_seq ?_ | refine G_block ?_ | refine G_condT rfl ?_ | refine G_condF rfl ?_ | refine G_skip ?_ | refine G_ret ?_ | refine G_exit ?_ | refine q_tn ?_ | refine q_tr ?_ | refine q_tx ?_ | refine q_bn ?_ | refine q_br ?_ | refine q_bx ?_ | refine q_by (by decide) ?_)
              (refine FinQ hQ (congrArg Array.toList Tryd.results101) _ _ ?_); simp (disch := omega) only [u, i64, ax, if_true, forall_const, reduceCtorEq, implies_true, tvs, bf]
              all_goals rfl
            · exact absurd rfl a5
        · have h1 : ¬ A < B := by omega
          have hcc : 0 < cmpI A B := hs.2.2.2.2 hgt
          rw [if_pos hgt] at hF sl
          rw [if_pos hgt, if_pos hgt]
          have hF := hF n1
          have hA := ret_Sub (words A) (words B) (Wd_words _) (Wd_words _) (by omega) (by omega) (by rw [val_words, val_words]; omega)
          rw [val_words, val_words] at hA
          generalize cmpI A B = cc at *
          generalize finD0 p g r n1 (A - B) E E = z at *
          generalize A - B = S at *
          clear sl hs
          unfold dv cx at *
          simp only at *
          cases n1 <;> cases n2
          · exact absurd rfl a5
          · skip
            refine RetN_start Tryd.func101 (by kernel_rfl) rfl fun Q hQ hQ2 => ?_; rw [Tryd.ntmps101]; simp only [u, i64, Nat.reduceSub, Nat.reduceAdd, bm]
            repeat (first | ((first | refine Gs ?_ | refine Gr ?_); simp (disch := omega) only [u, i64, ax, eq_self, if_true, if_false, Nat.reduceAdd, Int.reduceToNat, Int.reduceAdd, tvs, bs]; refine aA ?_) | refine G_seq ?_ | refine G_block ?_ | refine G_condT rfl ?_ | refine G_condF rfl ?_ | refine G_skip ?_ | refine G_ret ?_ | refine G_exit ?_ | refine q_tn ?_ | refine q_tr ?_ | refine q_tx ?_ | refine q_bn ?_ | refine q_br ?_ | refine q_bx ?_ | refine q_by (by decide) ?_)
            ((first | refine Gs ?_ | refine Gr ?_); simp (disch := omega) only [u, i64, ax, eq_self, if_true, if_false, Nat.reduceAdd, Int.reduceToNat, Int.reduceAdd, tvs, bs])
            rw [hE, hcx]
            repeat (first | ((first | refine Gs ?_ | refine Gr ?_); simp (disch := omega) only [u, i64, ax, eq_self, if_true, if_false, Nat.reduceAdd, Int.reduceToNat, Int.reduceAdd, tvs, bs]; first | refine aA ?_ | ((first | refine cR hTx ?_ | refine cR hMx ?_); simp (disch := omega) only [u, i64, ax, eq_self, if_true, if_false, Nat.reduceAdd, Int.reduceToNat, Int.reduceAdd, tvs, bs]; try refine aA ?_)) | ((first | refine cR hTx ?_ | refine cR hMx ?_); simp (disch := omega) only [u, i64, ax, eq_self, if_true, if_false, Nat.reduceAdd, Int.reduceToNat, Int.reduceAdd, tvs, bs]; try refine aA ?_) | refine G_seq ?_ | refine G_block ?_ | refine G_condT rfl ?_ | refine G_condF rfl ?_ | refine G_skip ?_ | refine G_ret ?_ | refine G_exit ?_ | refine q_tn ?_ | refine q_tr ?_ | refine q_tx ?_ | refine q_bn ?_ | refine q_br ?_ | refine q_bx ?_ | refine q_by (by decide) ?_)
            ((first | refine Gs ?_ | refine Gr ?_); simp (disch := omega) only [u, i64, ax, eq_self, if_true, if_false, Nat.reduceAdd, Int.reduceToNat, Int.reduceAdd, tvs, bs])
            rw [hcy]
            repeat (first | ((first | refine Gs ?_ | refine Gr ?_); simp (disch := omega) only [u, i64, ax, eq_self, if_true, if_false, Nat.reduceAdd, Int.reduceToNat, Int.reduceAdd, tvs, bs]; first | refine aA ?_ | ((first | refine cR hTy ?_ | refine cR hMy ?_ | refine cR hC ?_ | refine cR hA ?_ | refine cR hF ?_); simp (disch := omega) only [u, i64, ax, eq_self, if_true, if_false, Nat.reduceAdd, Int.reduceToNat, Int.reduceAdd, tvs, bs]; try refine aA ?_)) | ((first | refine cR hTy ?_ | refine cR hMy ?_ | refine cR hC ?_ | refine cR hA ?_ | refine cR hF ?_); simp (disch := omega) only [u, i64, ax, eq_self, if_true, if_false, Nat.reduceAdd, Int.reduceToNat, Int.reduceAdd, tvs, bs]; try refine aA ?_) | refine G_seq ?_ | refine G_block ?_ | refine G_condT rfl ?_ | refine G_condF rfl ?_ | refine G_skip ?_ | refine G_ret ?_ | refine G_exit ?_ | refine q_tn ?_ | refine q_tr ?_ | refine q_tx ?_ | refine q_bn ?_ | refine q_br ?_ | refine q_bx ?_ | refine q_by (by decide) ?_)
            (refine FinQ hQ (congrArg Array.toList Tryd.results101) _ _ ?_); simp (disch := omega) only [u, i64, ax, if_true, forall_const, reduceCtorEq, implies_true, tvs, bf]
            all_goals rfl
          · skip
            refine RetN_start Tryd.func101 (by kernel_rfl) rfl fun Q hQ hQ2 => ?_; rw [Tryd.ntmps101]; simp only [u, i64, Nat.reduceSub, Nat.reduceAdd, bm]
            repeat (first | ((first | refine Gs ?_ | refine Gr ?_); simp (disch := omega) only [u, i64, ax, eq_self, if_true, if_false, Nat.reduceAdd, Int.reduceToNat, Int.reduceAdd, tvs, bs]; refine aA ?_) | refine G_seq ?_ | refine G_block ?_ | refine G_condT rfl ?_ | refine G_condF rfl ?_ | refine G_skip ?_ | refine G_ret ?_ | refine G_exit ?_ | refine q_tn ?_ | refine q_tr ?_ | refine q_tx ?_ | refine q_bn ?_ | refine q_br ?_ | refine q_bx ?_ | refine q_by (by decide) ?_)
            ((first | refine Gs ?_ | refine Gr ?_); simp (disch := omega) only [u, i64, ax, eq_self, if_true, if_false, Nat.reduceAdd, Int.reduceToNat, Int.reduceAdd, tvs, bs])
            rw [hE, hcx]
            repeat (first | ((first | refine Gs ?_ | refine Gr ?_); simp (disch := omega) only [u, i64, ax, eq_self, if_true, if_false, Nat.reduceAdd, Int.reduceToNat, Int.reduceAdd, tvs, bs]; first | refine aA ?_ | ((first | refine cR hTx ?_ | refine cR hMx ?_); simp (disch := omega) only [u, i64, ax, eq_self, if_true, if_false, Nat.reduceAdd, Int.reduceToNat, Int.reduceAdd, tvs, bs]; try refine aA ?_)) | ((first | refine cR hTx ?_ | refine cR hMx ?_); simp (disch := omega) only [u, i64, ax, eq_self, if_true, if_false, Nat.reduceAdd, Int.reduceToNat, Int.reduceAdd, tvs, bs]; try refine aA ?_) | refine G_seq ?_ | refine G_block ?_ | refine G_condT rfl ?_ | refine G_condF rfl ?_ | refine G_skip ?_ | refine G_ret ?_ | refine G_exit ?_ | refine q_tn ?_ | refine q_tr ?_ | refine q_tx ?_ | refine q_bn ?_ | refine q_br ?_ | refine q_bx ?_ | refine q_by (by decide) ?_)
            ((first | refine Gs ?_ | refine Gr ?_); simp (disch := omega) only [u, i64, ax, eq_self, if_true, if_false, Nat.reduceAdd, Int.reduceToNat, Int.reduceAdd, tvs, bs])
            rw [hcy]
            repeat (first | ((first | refine Gs ?_ | refine Gr ?_); simp (disch := omega) only [u, i64, ax, eq_self, if_true, if_false, Nat.reduceAdd, Int.reduceToNat, Int.reduceAdd, tvs, bs]; first | refine aA ?_ | ((first | refine cR hTy ?_ | refine cR hMy ?_ | refine cR hC ?_ | refine cR hA ?_ | refine cR hF ?_); simp (disch := omega) only [u, i64, ax, eq_self, if_true, if_false, Nat.reduceAdd, Int.reduceToNat, Int.reduceAdd, tvs, bs]; try refine aA ?_)) | ((first | refine cR hTy ?_ | refine cR hMy ?_ | refine cR hC ?_ | refine cR hA ?_ | refine cR hF ?_); simp (disch := omega) only [u, i64, ax, eq_self, if_true, if_false, Nat.reduceAdd, Int.reduceToNat, Int.reduceAdd, tvs, bs]; try refine aA ?_) | refine G_seq ?_ | refine G_block ?_ | refine G_condT rfl ?_ | refine G_condF rfl ?_ | refine G_skip ?_ | refine G_ret ?_ | refine G_exit ?_ | refine q_tn ?_ | refine q_tr ?_ | refine q_tx ?_ | refine q_bn ?_ | refine q_br ?_ | refine q_bx ?_ | refine q_by (by decide) ?_)
            (refine FinQ hQ (congrArg Array.toList Tryd.results101) _ _ ?_); simp (disch := omega) only [u, i64, ax, if_true, forall_const, reduceCtorEq, implies_true, tvs, bf]
            all_goals rfl
          · exact absurd rfl a5
end Go.Proofs
set_option linter.unusedVariables false
set_option linter.unusedSimpArgs false
namespace Go.Proofs
open Go.Ax
theorem dvz : dv zD = .agg [i64 0, .bool false, .lst 0 [], i64 0] := rfl
set_option maxRecDepth 100000 in
set_option maxHeartbeats 1000000 in
theorem ret_two (p : Nat) (g : Int) (r : Nat) (hp : 1 ≤ p ∧ p ≤ 400) (hg : 1 ≤ g ∧ g ≤ 6000) (hr : r ≤ 4) (d c : DI) (h1 : d.ok) (h2 : c.ok) (N : Nat) (z : DV) (fl : Nat)
    (hDo : d.okIn p g ∧ c.okIn p g → Ret Tryd.prog GEs N [cx p g r, dv d.D, dv c.D] (.tup [dv z, i64 fl])) :
    Ret Tryd.prog GEs 100 [cx p g r, d.av, c.av, .lit (.func (.func N) #[] #[])] (if d.okIn p g ∧ c.okIn p g then .tup [dv z, i64 fl, i64 0] else .tup [dv zD, i64 0, i64 221]) := by
  have hA := ret_Args2 p g r hp hg hr d c h1 h2
  by_cases h : d.okIn p g ∧ c.okIn p g
  · rw [if_pos h] at hA ⊢
    have hF := hDo h
    rw [DI.dv_eq h.1.1, DI.dv_eq h.2.1] at hF
    clear hDo
    unfold DI.av dv cx at *
    generalize val d.cs = v1 at *
    generalize val c.cs = v2 at *
    refine RetN_start Tryd.func100 (by kernel_rfl) rfl fun Q hQ hQ2 => ?_; rw [Tryd.ntmps100]; simp only [u, i64, Nat.reduceSub, Nat.reduceAdd, bm]
    repeat (first | ((first | refine Gs ?_ | refine Gr ?_); simp (disch := omega) only [u, i64, ax, eq_self, if_true, if_false, Nat.reduceAdd, Int.reduceToNat, Int.reduceAdd, tvs, bs]; refine aA ?_) | refine G_seq ?_ | refine G_block ?_ | refine G_condT rfl ?_ | refine G_condF rfl ?_ | refine G_skip ?_ | refine G_ret ?_ | refine G_exit ?_ | refine q_tn ?_ | refine q_tr ?_ | refine q_tx ?_ | refine q_bn ?_ | refine q_br ?_ | refine q_bx ?_ | refine q_by (by decide) ?_)
    ((first | refine Gs ?_ | refine Gr ?_); simp (disch := omega) only [u, i64, ax, eq_self, if_true, if_false, Nat.reduceAdd, Int.reduceToNat, Int.reduceAdd, tvs, bs])
    simp (disch := omega) only [u, i64, ax, eq_self, if_true, if_false, Nat.reduceAdd, Int.reduceToNat, Int.reduceAdd, tvs, bs, Nat.reduceMul, List.take_succ_cons, List.take_zero, List.nil_append, List.cons_append, List.append_nil, Nat.reduceLeDiff]
    repeat (first | ((first | refine Gs ?_ | refine Gr ?_); simp (disch := omega) only [u, i64, ax, eq_self, if_true, if_false, Nat.reduceAdd, Int.reduceToNat, Int.reduceAdd, tvs, bs]; first | refine aA ?_ | ((first | refine cR hA ?_ | refine cR hF ?_); simp (disch := omega) only [u, i64, ax, eq_self, if_true, if_false, Nat.reduceAdd, Int.reduceToNat, Int.reduceAdd, tvs, bs]; try refine aA ?_)) | ((first | refine cR hA ?_ | refine cR hF ?_); simp (disch := omega) only [u, i64, ax, eq_self, if_true, if_false, Nat.reduceAdd, Int.reduceToNat, Int.reduceAdd, tvs, bs]; try refine aA ?_) | refine G_seq ?_ | refine G_block ?_ | refine G_condT rfl ?_ | refine G_condF rfl ?_ | refine G_skip ?_ | refine G_ret ?_ | refine G_exit ?_ | refine q_tn ?_ | refine q_tr ?_ | refine q_tx ?_ | refine q_bn ?_ | refine q_br ?_ | refine q_bx ?_ | refine q_by (by decide) ?_)
    (refine FinQ hQ (congrArg Array.toList Tryd.results100) _ _ ?_); simp (disch := omega) only [u, i64, ax, if_true, forall_const, reduceCtorEq, implies_true, tvs, bf]
  · rw [if_neg h] at hA ⊢
    clear hDo
    rw [dvz]
    unfold DI.av cx at *
    refine RetN_start Tryd.func100 (by kernel_rfl) rfl fun Q hQ hQ2 => ?_; rw [Tryd.ntmps100]; simp only [u, i64, Nat.reduceSub, Nat.reduceAdd, bm]
    repeat (first | ((first | refine Gs ?_ | refine Gr ?_); simp (disch := omega) only [u, i64, ax, eq_self, if_true, if_false, Nat.reduceAdd, Int.reduceToNat, Int.reduceAdd, tvs, bs]; refine aA ?_) | refine G_seq ?_ | refine G_block ?_ | refine G_condT rfl ?_ | refine G_condF rfl ?_ | refine G_skip ?_ | refine G_ret ?_ | refine G_exit ?_ | refine q_tn ?_ | refine q_tr ?_ | refine q_tx ?_ | refine q_bn ?_ | refine q_br ?_ | refine q_bx ?_ | refine q_by (by decide) ?_)
    ((first | refine Gs ?_ | refine Gr ?_); simp (disch := omega) only [u, i64, ax, eq_self, if_true, if_false, Nat.reduceAdd, Int.reduceToNat, Int.reduceAdd, tvs, bs])
    simp (disch := omega) only [u, i64, ax, eq_self, if_true, if_false, Nat.reduceAdd, Int.reduceToNat, Int.reduceAdd, tvs, bs, Nat.reduceMul, List.take_succ_cons, List.take_zero, List.nil_append, List.cons_append, List.append_nil, Nat.reduceLeDiff]
    repeat (first | ((first | refine Gs ?_ | refine Gr ?_); simp (disch := omega) only [u, i64, ax, eq_self, if_true, if_false, Nat.reduceAdd, Int.reduceToNat, Int.reduceAdd, tvs, bs]; first | refine aA ?_ | (refine cR hA ?_; simp (disch := omega) only [u, i64, ax, eq_self, if_true, if_false, Nat.reduceAdd, Int.reduceToNat, Int.reduceAdd, tvs, bs]; try refine aA ?_)) | (refine cR hA ?_; simp (disch := omega) only [u, i64, ax, eq_self, if_true, if_false, Nat.reduceAdd, Int.reduceToNat, Int.reduceAdd, tvs, bs]; try refine aA ?_) | refine G_seq ?_ | refine G_block ?_ | refine G_condT rfl ?_ | refine G_condF rfl ?_ | refine G_skip ?_ | refine G_ret ?_ | refine G_exit ?_ | refine q_tn ?_ | refine q_tr ?_ | refine q_tx ?_ | refine q_bn ?_ | refine q_br ?_ | refine q_bx ?_ | refine q_by (by decide) ?_)
    (refine FinQ hQ (congrArg Array.toList Tryd.results100) _ _ ?_); simp (disch := omega) only [u, i64, ax, if_true, forall_const, reduceCtorEq, implies_true, tvs, bf]
theorem okIn_facts {p : Nat} {g : Int} (hp : 1 ≤ p ∧ p ≤ 400) (hg : 1 ≤ g ∧ g ≤ 6000) {d : DI} (h : d.okIn p g) : d.D.kind ≤ 2 ∧ -7000 ≤ d.D.exp ∧ d.D.exp ≤ 6000 ∧ rightD d.D := by
  obtain ⟨h1, h2⟩ := h
  obtain ⟨q1, q2, q3⟩ := goodD_right h1
  have hk : d.D.kind ≤ 2 := by show d.k.toNat ≤ 2; omega
  obtain ⟨e1, e2⟩ := inD_exp hp.1 q1 h2
  have e1' : d.D.kind = 0 → -7000 ≤ d.D.exp ∧ d.D.exp ≤ 6000 := fun h => by
    have := e1 h
    have e : (mkD d.k d.neg (val d.cs) d.e).exp = d.D.exp := rfl
    omega
  by_cases h0 : d.D.kind = 0
  · exact ⟨hk, (e1' h0).1, (e1' h0).2, q1⟩
  · have := (e2 h0).1
    have e : d.D.exp = 0 := this
    rw [e]
    exact ⟨hk, by decide, by decide, q1⟩
theorem ret_DAdd (p : Nat) (g : Int) (r : Nat) (hp : 1 ≤ p ∧ p ≤ 400) (hg : 1 ≤ g ∧ g ≤ 6000) (hr : r ≤ 4) (d c : DI) (h1 : d.ok) (h2 : c.ok) :
    Ret Tryd.prog GEs 41 [cx p g r, d.av, c.av] (if d.okIn p g ∧ c.okIn p g then .tup [dv (addD p g r d.D c.D).1, i64 (addD p g r d.D c.D).2, i64 0] else .tup [dv zD, i64 0, i64 221]) := by
  have hT := ret_two p g r hp hg hr d c h1 h2 101 _ _ (fun h => by
    obtain ⟨a1, a2, a3, a4⟩ := okIn_facts hp hg h.1
    obtain ⟨b1, b2, b3, b4⟩ := okIn_facts hp hg h.2
    exact ret_dadd p g r d.D c.D hp hg hr a1 b1 (Nat.le_trans (d.len_le h1) (by decide)) (Nat.le_trans (c.len_le h2) (by decide)) (by omega) (by omega))
  generalize addD p g r d.D c.D = z at *
  by_cases h : d.okIn p g ∧ c.okIn p g
  · rw [if_pos h] at hT ⊢
    unfold DI.av dv cx at *
    refine RetN_start Tryd.func41 (by kernel_rfl) rfl fun Q hQ hQ2 => ?_; rw [Tryd.ntmps41]; simp only [u, i64, Nat.reduceSub, Nat.reduceAdd, bm]
    repeat (first | ((first | refine Gs ?_ | refine Gr ?_); simp (disch := omega) only [u, i64, ax, eq_self, if_true, if_false, Nat.reduceAdd, Int.reduceToNat, Int.reduceAdd, tvs, bs]; first | refine aA ?_ | (refine cR hT ?_; simp (disch := omega) only [u, i64, ax, eq_self, if_true, if_false, Nat.reduceAdd, Int.reduceToNat, Int.reduceAdd, tvs, bs]; try refine aA ?_)) | (refine cR hT ?_; simp (disch := omega) only [u, i64, ax, eq_self, if_true, if_false, Nat.reduceAdd, Int.reduceToNat, Int.reduceAdd, tvs, bs]; try refine aA ?_) | refine G_seq ?_ | refine G_block ?_ | refine G_condT rfl ?_ | refine G_condF rfl ?_ | refine G_skip ?_ | refine G_ret ?_ | refine G_exit ?_ | refine q_tn ?_ | refine q_tr ?_ | refine q_tx ?_ | refine q_bn ?_ | refine q_br ?_ | refine q_bx ?_ | refine q_by (by decide) ?_)
    (refine FinQ hQ (congrArg Array.toList Tryd.results41) _ _ ?_); simp (disch := omega) only [u, i64, ax, if_true, forall_const, reduceCtorEq, implies_true, tvs, bf]
  · rw [if_neg h] at hT ⊢
    rw [dvz] at *
    unfold DI.av cx at *
    refine RetN_start Tryd.func41 (by kernel_rfl) rfl fun Q hQ hQ2 => ?_; rw [Tryd.ntmps41]; simp only [u, i64, Nat.reduceSub, Nat.reduceAdd, bm]
    repeat (first | ((first | refine Gs ?_ | refine Gr ?_); simp (disch := omega) only [u, i64, ax, eq_self, if_true, if_false, Nat.reduceAdd, Int.reduceToNat, Int.reduceAdd, tvs, bs]; first | refine aA ?_ | (refine cR hT ?_; simp (disch := omega) only [u, i64, ax, eq_self, if_true, if_false, Nat.reduceAdd, Int.reduceToNat, Int.reduceAdd, tvs, bs]; try refine aA ?_)) | (refine cR hT ?_; simp (disch := omega) only [u, i64, ax, eq_self, if_true, if_false, Nat.reduceAdd, Int.reduceToNat, Int.reduceAdd, tvs, bs]; try refine aA ?_) | refine G_seq ?_ | refine G_block ?_ | refine G_condT rfl ?_ | refine G_condF rfl ?_ | refine G_skip ?_ | refine G_ret ?_ | refine G_exit ?_ | refine q_tn ?_ | refine q_tr ?_ | refine q_tx ?_ | refine q_bn ?_ | refine q_br ?_ | refine q_bx ?_ | refine q_by (by decide) ?_)
    (refine FinQ hQ (congrArg Array.toList Tryd.results41) _ _ ?_); simp (disch := omega) only [u, i64, ax, if_true, forall_const, reduceCtorEq, implies_true, tvs, bf]
set_option maxRecDepth 100000 in
set_option maxHeartbeats 1000000 in
theorem ret_dtimes (x y : DV) (hx : x.kind ≤ 2) (hy : y.kind ≤ 2) (lx : (words x.coef).length ≤ 90) (ly : (words y.coef).length ≤ 90) (ex : -3000000 ≤ x.exp ∧ x.exp ≤ 3000000) (ey : -3000000 ≤ y.exp ∧ y.exp ≤ 3000000) :
    Ret Tryd.prog GEs 163 [dv x, dv y] (.tup [dv (timesD x y).1, .bool (timesD x y).2]) := by
  have hZx := ret_dzero x hx (by omega)
  have hZy := ret_dzero y hy (by omega)
  obtain ⟨k1, n1, c1, e1⟩ := x
  obtain ⟨k2, n2, c2, e2⟩ := y
  simp only at *
  have hM := ret_Mul (words c1) (words c2) (Wd_words _) (Wd_words _) (by omega) (by omega)
  rw [val_words, val_words] at hM
  unfold timesD nanD
  simp only
  by_cases a1 : k1 = 2
  · rw [if_pos (Or.inl a1)]
    unfold dv
    simp only
    refine RetN_start Tryd.func163 (by kernel_rfl) rfl fun Q hQ hQ2 => ?_; rw [Tryd.ntmps163]; simp only [u, i64, Nat.reduceSub, Nat.reduceAdd, bm]
    repeat (first | ((first | refine Gs ?_ | refine Gr ?_); simp (disch := omega) only [u, i64, ax, eq_self, if_true, if_false, Nat.reduceAdd, Int.reduceToNat, Int.reduceAdd, tvs, bs]; refine aA ?_) | refine G_seq ?_ | refine G_block ?_ | refine G_condT rfl ?_ | refine G_condF rfl ?_ | refine G_skip ?_ | refine G_ret ?_ | refine G_exit ?_ | refine q_tn ?_ | refine q_tr ?_ | refine q_tx ?_ | refine q_bn ?_ | refine q_br ?_ | refine q_bx ?_ | refine q_by (by decide) ?_)
    (refine FinQ hQ (congrArg Array.toList Tryd.results163) _ _ ?_); simp (disch := omega) only [u, i64, ax, if_true, forall_const, reduceCtorEq, implies_true, tvs, bf]
    all_goals rfl
  by_cases a2 : k2 = 2
  · rw [if_pos (Or.inr a2)]
    unfold dv
    simp only
    refine RetN_start Tryd.func163 (by kernel_rfl) rfl fun Q hQ hQ2 => ?_; rw [Tryd.ntmps163]; simp only [u, i64, Nat.reduceSub, Nat.reduceAdd, bm]
    repeat (first | ((first | refine Gs ?_ | refine Gr ?_); simp (disch := omega) only [u, i64, ax, eq_self, if_true, if_false, Nat.reduceAdd, Int.reduceToNat, Int.reduceAdd, tvs, bs]; refine aA ?_) | refine G_seq ?_ | refine G_block ?_ | refine G_condT rfl ?_ | refine G_condF rfl ?_ | refine G_skip ?_ | refine G_ret ?_ | refine G_exit ?_ | refine q_tn ?_ | refine q_tr ?_ | refine q_tx ?_ | refine q_bn ?_ | refine q_br ?_ | refine q_bx ?_ | refine q_by (by decide) ?_)
    (refine FinQ hQ (congrArg Array.toList Tryd.results163) _ _ ?_); simp (disch := omega) only [u, i64, ax, if_true, forall_const, reduceCtorEq, implies_true, tvs, bf]
    all_goals rfl
  rw [if_neg (fun h => by omega)]
  by_cases a3 : k1 = 1 ∨ k2 = 1
  · rw [if_pos a3]
    generalize decide (k1 = 0 ∧ c1 = 0) = z1 at *
    generalize decide (k2 = 0 ∧ c2 = 0) = z2 at *
    unfold dv at *
    simp only at *
    by_cases a4 : k1 = 1
    · cases z1 with
      | true =>
        refine RetN_start Tryd.func163 (by kernel_rfl) rfl fun Q hQ hQ2 => ?_; rw [Tryd.ntmps163]; simp only [u, i64, Nat.reduceSub, Nat.reduceAdd, bm]
        repeat (first | ((first | refine Gs ?_ | refine Gr ?_); simp (disch := omega) only [u, i64, ax, eq_self, if_true, if_false, Nat.reduceAdd, Int.reduceToNat, Int.reduceAdd, tvs, bs]; first | refine aA ?_ | (refine cR hZx ?_; simp (disch := omega) only [u, i64, ax, eq_self, if_true, if_false, Nat.reduceAdd, Int.reduceToNat, Int.reduceAdd, tvs, bs]; try refine aA ?_)) | (refine cR hZx ?_; simp (disch := omega) only [u, i64, ax, eq_self, if_true, if_false, Nat.reduceAdd, Int.reduceToNat, Int.reduceAdd, tvs, bs]; try refine aA ?_) | refine G_seq ?_ | refine G_block ?_ | refine G_condT rfl ?_ | refine G_condF rfl ?_ | refine G_skip ?_ | refine G_ret ?_ | refine G_exit ?_ | refine q_tn ?_ | refine q_tr ?_ | refine q_tx ?_ | refine q_bn ?_ | refine q_br ?_ | refine q_bx ?_ | refine q_by (by decide) ?_)
        (refine FinQ hQ (congrArg Array.toList Tryd.results163) _ _ ?_); simp (disch := omega) only [u, i64, ax, if_true, forall_const, reduceCtorEq, implies_true, tvs, bf]
        all_goals rfl
      | false =>
        refine RetN_start Tryd.func163 (by kernel_rfl) rfl fun Q hQ hQ2 => ?_; rw [Tryd.ntmps163]; simp only [u, i64, Nat.reduceSub, Nat.reduceAdd, bm]
        repeat (first | ((first | refine Gs ?_ | refine Gr ?_); simp (disch := omega) only [u, i64, ax, eq_self, if_true, if_false, Nat.reduceAdd, Int.reduceToNat, Int.reduceAdd, tvs, bs]; first | refine aA ?_ | ((first | refine cR hZx ?_ | refine cR hZy ?_); simp (disch := omega) only [u, i64, ax, eq_self, if_true, if_false, Nat.reduceAdd, Int.reduceToNat, Int.reduceAdd, tvs, bs]; try refine aA ?_)) | ((first | refine cR hZx ?_ | refine cR hZy ?_); simp (disch := omega) only [u, i64, ax, eq_self, if_true, if_false, Nat.reduceAdd, Int.reduceToNat, Int.reduceAdd, tvs, bs]; try refine aA ?_) | refine G_seq ?_ | refine G_block ?_ | refine G_condT rfl ?_ | refine G_condF rfl ?_ | refine G_skip ?_ | refine G_ret ?_ | refine G_exit ?_ | refine q_tn ?_ | refine q_tr ?_ | refine q_tx ?_ | refine q_bn ?_ | refine q_br ?_ | refine q_bx ?_ | refine q_by (by decide) ?_)
        (refine FinQ hQ (congrArg Array.toList Tryd.results163) _ _ ?_); simp (disch := omega) only [u, i64, ax, if_true, forall_const, reduceCtorEq, implies_true, tvs, bf]
        all_goals rfl
    · have a5 : k2 = 1 := by omega
      cases z1 with
      | true =>
        refine RetN_start Tryd.func163 (by kernel_rfl) rfl fun Q hQ hQ2 => ?_; rw [Tryd.ntmps163]; simp only [u, i64, Nat.reduceSub, Nat.reduceAdd, bm]
        repeat (first | ((first | refine Gs ?_ | refine Gr ?_); simp (disch := omega) only [u, i64, ax, eq_self, if_true, if_false, Nat.reduceAdd, Int.reduceToNat, Int.reduceAdd, tvs, bs]; first | refine aA ?_ | (refine cR hZx ?_; simp (disch := omega) only [u, i64, ax, eq_self, if_true, if_false, Nat.reduceAdd, Int.reduceToNat, Int.reduceAdd, tvs, bs]; try refine aA ?_)) | (refine cR hZx ?_; simp (disch := omega) only [u, i64, ax, eq_self, if_true, if_false, Nat.reduceAdd, Int.reduceToNat, Int.reduceAdd, tvs, bs]; try refine aA ?_) | refine G_seq ?_ | refine G_block ?_ | refine G_condT rfl ?_ | refine G_condF rfl ?_ | refine G_skip ?_ | refine G_ret ?_ | refine G_exit ?_ | refine q_tn ?_ | refine q_tr ?_ | refine q_tx ?_ | refine q_bn ?_ | refine q_br ?_ | refine q_bx ?_ | refine q_by (by decide) ?_)
        (refine FinQ hQ (congrArg Array.toList Tryd.results163) _ _ ?_); simp (disch := omega) only [u, i64, ax, if_true, forall_const, reduceCtorEq, implies_true, tvs, bf]
        all_goals rfl
      | false =>
        refine RetN_start Tryd.func163 (by kernel_rfl) rfl fun Q hQ hQ2 => ?_; rw [Tryd.ntmps163]; simp only [u, i64, Nat.reduceSub, Nat.reduceAdd, bm]
        repeat (first | ((first | refine Gs ?_ | refine Gr ?_); simp (disch := omega) only [u, i64, ax, eq_self, if_true, if_false, Nat.reduceAdd, Int.reduceToNat, Int.reduceAdd, tvs, bs]; first | refine aA ?_ | ((first | refine cR hZx ?_ | refine cR hZy ?_); simp (disch := omega) only [u, i64, ax, eq_self, if_true, if_false, Nat.reduceAdd, Int.reduceToNat, Int.reduceAdd, tvs, bs]; try refine aA ?_)) | ((first | refine cR hZx ?_ | refine cR hZy ?_); simp (disch := omega) only [u, i64, ax, eq_self, if_true, if_false, Nat.reduceAdd, Int.reduceToNat, Int.reduceAdd, tvs, bs]; try refine aA ?_) | refine G_seq ?_ | refine G_block ?_ | refine G_condT rfl ?_ | refine G_condF rfl ?_ | refine G_skip ?_ | refine G_ret ?_ | refine G_exit ?_ | refine q_tn ?_ | refine q_tr ?_ | refine q_tx ?_ | refine q_bn ?_ | refine q_br ?_ | refine q_bx ?_ | refine q_by (by decide) ?_)
        (refine FinQ hQ (congrArg Array.toList Tryd.results163) _ _ ?_); simp (disch := omega) only [u, i64, ax, if_true, forall_const, reduceCtorEq, implies_true, tvs, bf]
        all_goals rfl
  · rw [if_neg a3]
    have a4 : ¬ k1 = 1 := fun h => a3 (.inl h)
    have a5 : ¬ k2 = 1 := fun h => a3 (.inr h)
    generalize c1 * c2 = C at *
    unfold dv at *
    simp only at *
    refine RetN_start Tryd.func163 (by kernel_rfl) rfl fun Q hQ hQ2 => ?_; rw [Tryd.ntmps163]; simp only [u, i64, Nat.reduceSub, Nat.reduceAdd, bm]
    repeat (first | ((first | refine Gs ?_ | refine Gr ?_); simp (disch := omega) only [u, i64, ax, eq_self, if_true, if_false, Nat.reduceAdd, Int.reduceToNat, Int.reduceAdd, tvs, bs]; first | refine aA ?_ | (refine cR hM ?_; simp (disch := omega) only [u, i64, ax, eq_self, if_true, if_false, Nat.reduceAdd, Int.reduceToNat, Int.reduceAdd, tvs, bs]; try refine aA ?_)) | (refine cR hM ?_; simp (disch := omega) only [u, i64, ax, eq_self, if_true, if_false, Nat.reduceAdd, Int.reduceToNat, Int.reduceAdd, tvs, bs]; try refine aA ?_) | refine G_seq ?_ | refine G_block ?_ | refine G_condT rfl ?_ | refine G_condF rfl ?_ | refine G_skip ?_ | refine G_ret ?_ | refine G_exit ?_ | refine q_tn ?_ | refine q_tr ?_ | refine q_tx ?_ | refine q_bn ?_ | refine q_br ?_ | refine q_bx ?_ | refine q_by (by decide) ?_)
    (refine FinQ hQ (congrArg Array.toList Tryd.results163) _ _ ?_); simp (disch := omega) only [u, i64, ax, if_true, forall_const, reduceCtorEq, implies_true, tvs, bf]
    all_goals rfl
theorem timesD_facts (x y : DV) (hx : x.kind ≤ 2) (hy : y.kind ≤ 2) : (timesD x y).1.kind ≤ 2 ∧ ((timesD x y).1.kind = 0 → (timesD x y).1.coef = x.coef * y.coef ∧ (timesD x y).1.exp = x.exp + y.exp) ∧ ((timesD x y).1.kind ≠ 0 → (timesD x y).1.coef = 0 ∧ (timesD x y).1.exp = 0) := by
  unfold timesD nanD
  split
  · exact ⟨by show 2 ≤ 2; decide, fun h => (by cases h), fun _ => ⟨rfl, rfl⟩⟩
  · split
    · exact ⟨by show 1 ≤ 2; decide, fun h => (by cases h), fun _ => ⟨rfl, rfl⟩⟩
    · exact ⟨by show 0 ≤ 2; decide, fun _ => ⟨rfl, rfl⟩, fun h => absurd rfl h⟩
set_option maxRecDepth 100000 in
set_option maxHeartbeats 1000000 in
theorem ret_dmul (p : Nat) (g : Int) (r : Nat) (x y : DV) (hp : 1 ≤ p ∧ p ≤ 400) (hg : 1 ≤ g ∧ g ≤ 6000) (hr : r ≤ 4) (hx : x.kind ≤ 2) (hy : y.kind ≤ 2) (lx : (words x.coef).length ≤ 90) (ly : (words y.coef).length ≤ 90) (ex : -1000000 ≤ x.exp ∧ x.exp ≤ 1000000) (ey : -1000000 ≤ y.exp ∧ y.exp ≤ 1000000) :
    Ret Tryd.prog GEs 120 [cx p g r, dv x, dv y] (.tup [dv (mulD p g r x y).1, i64 (mulD p g r x y).2]) := by
  have hT := ret_dtimes x y hx hy lx ly (by omega) (by omega)
  obtain ⟨t1, t2, t3⟩ := timesD_facts x y hx hy
  unfold mulD
  have hl : (words (timesD x y).1.coef).length ≤ 200 ∧ -2000000 ≤ (timesD x y).1.exp ∧ (timesD x y).1.exp ≤ 2000000 := by
    by_cases h0 : (timesD x y).1.kind = 0
    · obtain ⟨u1, u2⟩ := t2 h0
      have := length_mul x.coef y.coef
      rw [u1, u2]
      omega
    · obtain ⟨u1, u2⟩ := t3 h0
      rw [u1, u2]
      exact ⟨by decide, by decide, by decide⟩
  have hF := ret_dFinish p g r (timesD x y).1.neg (timesD x y).1.coef (timesD x y).1.exp (timesD x y).1.exp hp hg hr (by omega) (by omega) (by omega)
  generalize timesD x y = t at *
  obtain ⟨⟨k3, n3, c3, e3⟩, ok⟩ := t
  simp only at *
  unfold plusD nanD
  simp only
  cases ok with
  | false =>
    rw [if_neg (by decide)]
    unfold dv cx at *
    simp only at *
    refine RetN_start Tryd.func120 (by kernel_rfl) rfl fun Q hQ hQ2 => ?_; rw [Tryd.ntmps120]; simp only [u, i64, Nat.reduceSub, Nat.reduceAdd, bm]
    repeat (first | ((first | refine Gs ?_ | refine Gr ?_); simp (disch := omega) only [u, i64, ax, eq_self, if_true, if_false, Nat.reduceAdd, Int.reduceToNat, Int.reduceAdd, tvs, bs]; first | refine aA ?_ | (refine cR hT ?_; simp (disch := omega) only [u, i64, ax, eq_self, if_true, if_false, Nat.reduceAdd, Int.reduceToNat, Int.reduceAdd, tvs, bs]; try refine aA ?_)) | (refine cR hT ?_; simp (disch := omega) only [u, i64, ax, eq_self, if_true, if_false, Nat.reduceAdd, Int.reduceToNat, Int.reduceAdd, tvs, bs]; try refine aA ?_) | refine G_seq ?_ | refine G_block ?_ | refine G_condT rfl ?_ | refine G_condF rfl ?_ | refine G_skip ?_ | refine G_ret ?_ | refine G_exit ?_ | refine q_tn ?_ | refine q_tr ?_ | refine q_tx ?_ | refine q_bn ?_ | refine q_br ?_ | refine q_bx ?_ | refine q_by (by decide) ?_)
    (refine FinQ hQ (congrArg Array.toList Tryd.results120) _ _ ?_); simp (disch := omega) only [u, i64, ax, if_true, forall_const, reduceCtorEq, implies_true, tvs, bf]
    all_goals rfl
  | true =>
    rw [if_pos rfl]
    by_cases h0 : k3 = 0
    · rw [if_pos h0]
      generalize finD0 p g r n3 c3 e3 e3 = z at *
      unfold dv cx at *
      simp only at *
      refine RetN_start Tryd.func120 (by kernel_rfl) rfl fun Q hQ hQ2 => ?_; rw [Tryd.ntmps120]; simp only [u, i64, Nat.reduceSub, Nat.reduceAdd, bm]
      repeat (first | ((first | refine Gs ?_ | refine Gr ?_); simp (disch := omega) only [u, i64, ax, eq_self, if_true, if_false, Nat.reduceAdd, Int.reduceToNat, Int.reduceAdd, tvs, bs]; first | refine aA ?_ | ((first | refine cR hT ?_ | refine cR hF ?_); simp (disch := omega) only [u, i64, ax, eq_self, if_true, if_false, Nat.reduceAdd, Int.reduceToNat, Int.reduceAdd, tvs, bs]; try refine aA ?_)) | ((first | refine cR hT ?_ | refine cR hF ?_); simp (disch := omega) only [u, i64, ax, eq_self, if_true, if_false, Nat.reduceAdd, Int.reduceToNat, Int.reduceAdd, tvs, bs]; try refine aA ?_) | refine G_seq ?_ | refine G_block ?_ | refine G_condT rfl ?_ | refine G_condF rfl ?_ | refine G_skip ?_ | refine G_ret ?_ | refine G_exit ?_ | refine q_tn ?_ | refine q_tr ?_ | refine q_tx ?_ | refine q_bn ?_ | refine q_br ?_ | refine q_bx ?_ | refine q_by (by decide) ?_)
      (refine FinQ hQ (congrArg Array.toList Tryd.results120) _ _ ?_); simp (disch := omega) only [u, i64, ax, if_true, forall_const, reduceCtorEq, implies_true, tvs, bf]
      all_goals rfl
    · rw [if_neg h0]
      unfold dv cx at *
      simp only at *
      refine RetN_start Tryd.func120 (by kernel_rfl) rfl fun Q hQ hQ2 => ?_; rw [Tryd.ntmps120]; simp only [u, i64, Nat.reduceSub, Nat.reduceAdd, bm]
      repeat (first | ((first | refine Gs ?_ | refine Gr ?_); simp (disch := omega) only [u, i64, ax, eq_self, if_true, if_false, Nat.reduceAdd, Int.reduceToNat, Int.reduceAdd, tvs, bs]; first | refine aA ?_ | (refine cR hT ?_; simp (disch := omega) only [u, i64, ax, eq_self, if_true, if_false, Nat.reduceAdd, Int.reduceToNat, Int.reduceAdd, tvs, bs]; try refine aA ?_)) | (refine cR hT ?_; simp (disch := omega) only [u, i64, ax, eq_self, if_true, if_false, Nat.reduceAdd, Int.reduceToNat, Int.reduceAdd, tvs, bs]; try refine aA ?_) | refine G_seq ?_ | refine G_block ?_ | refine G_condT rfl ?_ | refine G_condF rfl ?_ | refine G_skip ?_ | refine G_ret ?_ | refine G_exit ?_ | refine q_tn ?_ | refine q_tr ?_ | refine q_tx ?_ | refine q_bn ?_ | refine q_br ?_ | refine q_bx ?_ | refine q_by (by decide) ?_)
      (refine FinQ hQ (congrArg Array.toList Tryd.results120) _ _ ?_); simp (disch := omega) only [u, i64, ax, if_true, forall_const, reduceCtorEq, implies_true, tvs, bf]
      all_goals rfl
theorem ret_DMul (p : Nat) (g : Int) (r : Nat) (hp : 1 ≤ p ∧ p ≤ 400) (hg : 1 ≤ g ∧ g ≤ 6000) (hr : r ≤ 4) (d c : DI) (h1 : d.ok) (h2 : c.ok) :
    Ret Tryd.prog GEs 57 [cx p g r, d.av, c.av] (if d.okIn p g ∧ c.okIn p g then .tup [dv (mulD p g r d.D c.D).1, i64 (mulD p g r d.D c.D).2, i64 0] else .tup [dv zD, i64 0, i64 221]) := by
  have hT := ret_two p g r hp hg hr d c h1 h2 120 _ _ (fun h => by
    obtain ⟨a1, a2, a3, a4⟩ := okIn_facts hp hg h.1
    obtain ⟨b1, b2, b3, b4⟩ := okIn_facts hp hg h.2
    exact ret_dmul p g r d.D c.D hp hg hr a1 b1 (Nat.le_trans (d.len_le h1) (by decide)) (Nat.le_trans (c.len_le h2) (by decide)) (by omega) (by omega))
  generalize mulD p g r d.D c.D = z at *
  by_cases h : d.okIn p g ∧ c.okIn p g
  · rw [if_pos h] at hT ⊢
    unfold DI.av dv cx at *
    refine RetN_start Tryd.func57 (by kernel_rfl) rfl fun Q hQ hQ2 => ?_; rw [Tryd.ntmps57]; simp only [u, i64, Nat.reduceSub, Nat.reduceAdd, bm]
    repeat (first | ((first | refine Gs ?_ | refine Gr ?_); simp (disch := omega) only [u, i64, ax, eq_self, if_true, if_false, Nat.reduceAdd, Int.reduceToNat, Int.reduceAdd, tvs, bs]; first | refine aA ?_ | (refine cR hT ?_; simp (disch := omega) only [u, i64, ax, eq_self, if_true, if_false, Nat.reduceAdd, Int.reduceToNat, Int.reduceAdd, tvs, bs]; try refine aA ?_)) | (refine cR hT ?_; simp (disch := omega) only [u, i64, ax, eq_self, if_true, if_false, Nat.reduceAdd, Int.reduceToNat, Int.reduceAdd, tvs, bs]; try refine aA ?_) | refine G_seq ?_ | refine G_block ?_ | refine G_condT rfl ?_ | refine G_condF rfl ?_ | refine G_skip ?_ | refine G_ret ?_ | refine G_exit ?_ | refine q_tn ?_ | refine q_tr ?_ | refine q_tx ?_ | refine q_bn ?_ | refine q_br ?_ | refine q_bx ?_ | refine q_by (by decide) ?_)
    (refine FinQ hQ (congrArg Array.toList Tryd.results57) _ _ ?_); simp (disch := omega) only [u, i64, ax, if_true, forall_const, reduceCtorEq, implies_true, tvs, bf]
  · rw [if_neg h] at hT ⊢
    rw [dvz] at *
    unfold DI.av cx at *
    refine RetN_start Tryd.func57 (by kernel_rfl) rfl fun Q hQ hQ2 => ?_; rw [Tryd.ntmps57]; simp only [u, i64, Nat.reduceSub, Nat.reduceAdd, bm]
    repeat (first | ((first | refine Gs ?_ | refine Gr ?_); simp (disch := omega) only [u, i64, ax, eq_self, if_true, if_false, Nat.reduceAdd, Int.reduceToNat, Int.reduceAdd, tvs, bs]; first | refine aA ?_ | (refine cR hT ?_; simp (disch := omega) only [u, i64, ax, eq_self, if_true, if_false, Nat.reduceAdd, Int.reduceToNat, Int.reduceAdd, tvs, bs]; try refine aA ?_)) | (refine cR hT ?_; simp (disch := omega) only [u, i64, ax, eq_self, if_true, if_false, Nat.reduceAdd, Int.reduceToNat, Int.reduceAdd, tvs, bs]; try refine aA ?_) | refine G_seq ?_ | refine G_block ?_ | refine G_condT rfl ?_ | refine G_condF rfl ?_ | refine G_skip ?_ | refine G_ret ?_ | refine G_exit ?_ | refine q_tn ?_ | refine q_tr ?_ | refine q_tx ?_ | refine q_bn ?_ | refine q_br ?_ | refine q_bx ?_ | refine q_by (by decide) ?_)
    (refine FinQ hQ (congrArg Array.toList Tryd.results57) _ _ ?_); simp (disch := omega) only [u, i64, ax, if_true, forall_const, reduceCtorEq, implies_true, tvs, bf]
end Go.Proofs
set_option linter.unusedVariables false
set_option linter.unusedSimpArgs false
set_option maxRecDepth 100000
namespace Go.Proofs
open Go.Ax
/-- A number with another exponent. -/
def quantN (r : Nat) (x : DV) (exp : Int) : Nat := if x.exp < exp then quoN r x.neg x.coef (10 ^ (exp - x.exp).toNat) else x.coef * 10 ^ (x.exp - exp).toNat
def quantX (x : DV) (exp : Int) : Bool := if x.exp < exp then decide (x.coef % 10 ^ (exp - x.exp).toNat = 0) else true
def quantD (p : Nat) (g : Int) (r : Nat) (x : DV) (exp : Int) : DV × Nat :=
  if x.kind = 2 then (x, 0)
  else if x.kind = 1 ∨ exp < 1 - g - (p - 1) ∨ g < exp then (nanD, 16)
  else if inD p g ⟨0, x.neg, quantN r x exp, exp⟩ then (⟨0, x.neg, quantN r x exp, exp⟩, if quantX x exp = true then 0 else 1)
  else (nanD, 16)
theorem quoN_small (r : Nat) (neg : Bool) (n d : Nat) : quoN r neg n d ≤ n + 1 := by
  unfold quoN
  have := Nat.div_le_self n d
  split <;> omega
set_option maxRecDepth 100000 in
set_option maxHeartbeats 4000000 in
theorem ret_DQuantize (p : Nat) (g : Int) (r : Nat) (hp : 1 ≤ p ∧ p ≤ 400) (hg : 1 ≤ g ∧ g ≤ 6000) (hr : r ≤ 4) (d : DI) (h1 : d.ok) (exp : Int) (he : -1000000 ≤ exp ∧ exp ≤ 1000000) :
    Ret Tryd.prog GEs 61 [cx p g r, d.av, i64 exp] (if d.okIn p g then .tup [dv (quantD p g r d.D exp).1, i64 (quantD p g r d.D exp).2, i64 0] else .tup [dv zD, i64 0, i64 221]) := by
  have hA := ret_Args1 p g r hp hg hr d h1
  by_cases h : d.okIn p g
  · rw [if_pos h] at hA ⊢
    obtain ⟨a1, a2, a3, a4⟩ := okIn_facts hp hg h
    have hl := d.len_le h1
    have hT := ret_tiny p g r hp hg
    have hdv := DI.dv_eq h.1
    rw [show d.av = .agg [i64 d.k, .bool d.neg, ws d.cs, i64 d.e] from rfl]
    have hA' : Ret Tryd.prog GEs 110 [cx p g r, .bool false, .lst 1 [i64 d.k, .bool d.neg, ws d.cs, i64 d.e]] (.tup [.lst 1 [i64 d.D.kind, .bool d.D.neg, nat d.D.coef, i64 d.D.exp], i64 0]) := by
      have hk : ((d.D.kind : Nat) : Int) = d.k := by show ((d.k.toNat : Nat) : Int) = d.k; have := (goodD_right h.1).2.1; omega
      rw [hk]; exact hA
    have hA := hA'
    clear hA' hdv
    generalize d.k = dk at *
    generalize d.neg = dn at *
    generalize d.cs = dc at *
    generalize d.e = de at *
    generalize d.D = x at *
    clear h
    obtain ⟨kd, ng, c, e⟩ := x
    simp only at *
    have hbn := bl_len c
    have tl : ∀ k : Nat, k ≤ 14000 → (words (10 ^ k)).length ≤ 900 := fun k hk => le_pow_words (ten_le k) (by omega)
    have hTT : 1 - g - ((p : Int) - 1) = 2 - g - p := by omega
    by_cases k2 : kd = 2
    · have e1 : quantD p g r ⟨kd, ng, c, e⟩ exp = (⟨kd, ng, c, e⟩, 0) := by unfold quantD; rw [if_pos k2]
      rw [e1]
      unfold dv cx at *
      simp only at *
      refine RetN_start Tryd.func61 (by kernel_rfl) rfl fun Q hQ hQ2 => ?_; rw [Tryd.ntmps61]; simp only [u, i64, Nat.reduceSub, Nat.reduceAdd, bm]
      repeat (first | ((first | refine Gs ?_ | refine Gr ?_); simp (disch := omega) only [u, i64, ax, eq_self, if_true, if_false, Nat.reduceAdd, Int.reduceToNat, Int.reduceAdd, tvs, bs]; refine aA ?_) | refine G_seq ?_ | refine G_block ?_ | refine G_condT rfl ?_ | refine G_condF rfl ?_ | refine G_skip ?_ | refine G_ret ?_ | refine G_exit ?_ | refine q_tn ?_ | refine q_tr ?_ | refine q_tx ?_ | refine q_bn ?_ | refine q_br ?_ | refine q_bx ?_ | refine q_by (by decide) ?_)
      ((first | refine Gs ?_ | refine Gr ?_); simp (disch := omega) only [u, i64, ax, eq_self, if_true, if_false, Nat.reduceAdd, Int.reduceToNat, Int.reduceAdd, tvs, bs])
      simp (disch := omega) only [u, i64, ax, eq_self, if_true, if_false, Nat.reduceAdd, Int.reduceToNat, Int.reduceAdd, tvs, bs, Nat.reduceMul, List.take_succ_cons, List.take_zero, List.nil_append, List.cons_append, List.append_nil, Nat.reduceLeDiff]
      repeat (first | ((first | refine Gs ?_ | refine Gr ?_); simp (disch := omega) only [u, i64, ax, eq_self, if_true, if_false, Nat.reduceAdd, Int.reduceToNat, Int.reduceAdd, tvs, bs]; first | refine aA ?_ | (refine cR hA ?_; simp (disch := omega) only [u, i64, ax, eq_self, if_true, if_false, Nat.reduceAdd, Int.reduceToNat, Int.reduceAdd, tvs, bs]; try refine aA ?_)) | (refine cR hA ?_; simp (disch := omega) only [u, i64, ax, eq_self, if_true, if_false, Nat.reduceAdd, Int.reduceToNat, Int.reduceAdd, tvs, bs]; try refine aA ?_) | refine G_seq ?_ | refine G_block ?_ | refine G_condT rfl ?_ | refine G_condF rfl ?_ | refine G_skip ?_ | refine G_ret ?_ | refine G_exit ?_ | refine q_tn ?_ | refine q_tr ?_ | refine q_tx ?_ | refine q_bn ?_ | refine q_br ?_ | refine q_bx ?_ | refine q_by (by decide) ?_)
      (refine FinQ hQ (congrArg Array.toList Tryd.results61) _ _ ?_); simp (disch := omega) only [u, i64, ax, if_true, forall_const, reduceCtorEq, implies_true, tvs, bf]
      all_goals rfl
    · by_cases kx : kd = 1 ∨ exp < 1 - g - (p - 1) ∨ g < exp
      · have e1 : quantD p g r ⟨kd, ng, c, e⟩ exp = (nanD, 16) := by unfold quantD; rw [if_neg k2, if_pos kx]
        rw [e1]
        unfold nanD dv cx at *
        simp only at *
        by_cases k1 : kd = 1
        · skip
          refine RetN_start Tryd.func61 (by kernel_rfl) rfl fun Q hQ hQ2 => ?_; rw [Tryd.ntmps61]; simp only [u, i64, Nat.reduceSub, Nat.reduceAdd, bm]
          repeat (first | ((first | refine Gs ?_ | refine Gr ?_); simp (disch := omega) only [u, i64, ax, eq_self, if_true, if_false, Nat.reduceAdd, Int.reduceToNat, Int.reduceAdd, tvs, bs]; refine aA ?_) | refine G_seq ?_ | refine G_block ?_ | refine G_condT rfl ?_ | refine G_condF rfl ?_ | refine G_skip ?_ | refine G_ret ?_ | refine G_exit ?_ | refine q_tn ?_ | refine q_tr ?_ | refine q_tx ?_ | refine q_bn ?_ | refine q_br ?_ | refine q_bx ?_ | refine q_by (by decide) ?_)
          ((first | refine Gs ?_ | refine Gr ?_); simp (disch := omega) only [u, i64, ax, eq_self, if_true, if_false, Nat.reduceAdd, Int.reduceToNat, Int.reduceAdd, tvs, bs])
          simp (disch := omega) only [u, i64, ax, eq_self, if_true, if_false, Nat.reduceAdd, Int.reduceToNat, Int.reduceAdd, tvs, bs, Nat.reduceMul, List.take_succ_cons, List.take_zero, List.nil_append, List.cons_append, List.append_nil, Nat.reduceLeDiff]
          repeat (first | ((first | refine Gs ?_ | refine Gr ?_); simp (disch := omega) only [u, i64, ax, eq_self, if_true, if_false, Nat.reduceAdd, Int.reduceToNat, Int.reduceAdd, tvs, bs]; first | refine aA ?_ | (refine cR hA ?_; simp (disch := omega) only [u, i64, ax, eq_self, if_true, if_false, Nat.reduceAdd, Int.reduceToNat, Int.reduceAdd, tvs, bs]; try refine aA ?_)) | (refine cR hA ?_; simp (disch := omega) only [u, i64, ax, eq_self, if_true, if_false, Nat.reduceAdd, Int.reduceToNat, Int.reduceAdd, tvs, bs]; try refine aA ?_) | refine G_seq ?_ | refine G_block ?_ | refine G_condT rfl ?_ | refine G_condF rfl ?_ | refine G_skip ?_ | refine G_ret ?_ | refine G_exit ?_ | refine q_tn ?_ | refine q_tr ?_ | refine q_tx ?_ | refine q_bn ?_ | refine q_br ?_ | refine q_bx ?_ | refine q_by (by decide) ?_)
          (refine FinQ hQ (congrArg Array.toList Tryd.results61) _ _ ?_); simp (disch := omega) only [u, i64, ax, if_true, forall_const, reduceCtorEq, implies_true, tvs, bf]
          all_goals rfl
        · by_cases kt : exp < 1 - g - (p - 1)
          · generalize 1 - g - ((p : Int) - 1) = T at *
            refine RetN_start Tryd.func61 (by kernel_rfl) rfl fun Q hQ hQ2 => ?_; rw [Tryd.ntmps61]; simp only [u, i64, Nat.reduceSub, Nat.reduceAdd, bm]
            repeat (first | ((first | refine Gs ?_ | refine Gr ?_); simp (disch := omega) only [u, i64, ax, eq_self, if_true, if_false, Nat.reduceAdd, Int.reduceToNat, Int.reduceAdd, tvs, bs]; refine aA ?_) | refine G_seq ?_ | refine G_block ?_ | refine G_condT rfl ?_ | refine G_condF rfl ?_ | refine G_skip ?_ | refine G_ret ?_ | refine G_exit ?_ | refine q_tn ?_ | refine q_tr ?_ | refine q_tx ?_ | refine q_bn ?_ | refine q_br ?_ | refine q_bx ?_ | refine q_by (by decide) ?_)
            ((first | refine Gs ?_ | refine Gr ?_); simp (disch := omega) only [u, i64, ax, eq_self, if_true, if_false, Nat.reduceAdd, Int.reduceToNat, Int.reduceAdd, tvs, bs])
            simp (disch := omega) only [u, i64, ax, eq_self, if_true, if_false, Nat.reduceAdd, Int.reduceToNat, Int.reduceAdd, tvs, bs, Nat.reduceMul, List.take_succ_cons, List.take_zero, List.nil_append, List.cons_append, List.append_nil, Nat.reduceLeDiff]
            repeat (first | ((first | refine Gs ?_ | refine Gr ?_); simp (disch := omega) only [u, i64, ax, eq_self, if_true, if_false, Nat.reduceAdd, Int.reduceToNat, Int.reduceAdd, tvs, bs]; first | refine aA ?_ | ((first | refine cR hA ?_ | refine cR hT ?_); simp (disch := omega) only [u, i64, ax, eq_self, if_true, if_false, Nat.reduceAdd, Int.reduceToNat, Int.reduceAdd, tvs, bs]; try refine aA ?_)) | ((first | refine cR hA ?_ | refine cR hT ?_); simp (disch := omega) only [u, i64, ax, eq_self, if_true, if_false, Nat.reduceAdd, Int.reduceToNat, Int.reduceAdd, tvs, bs]; try refine aA ?_) | refine G_seq ?_ | refine G_block ?_ | refine G_condT rfl ?_ | refine G_condF rfl ?_ | refine G_skip ?_ | refine G_ret ?_ | refine G_exit ?_ | refine q_tn ?_ | refine q_tr ?_ | refine q_tx ?_ | refine q_bn ?_ | refine q_br ?_ | refine q_bx ?_ | refine q_by (by decide) ?_)
            (refine FinQ hQ (congrArg Array.toList Tryd.results61) _ _ ?_); simp (disch := omega) only [u, i64, ax, if_true, forall_const, reduceCtorEq, implies_true, tvs, bf]
            all_goals rfl
          · have kg : g < exp := by omega
            generalize 1 - g - ((p : Int) - 1) = T at *
            refine RetN_start Tryd.func61 (by kernel_rfl) rfl fun Q hQ hQ2 => ?_; rw [Tryd.ntmps61]; simp only [u, i64, Nat.reduceSub, Nat.reduceAdd, bm]
            repeat (first | ((first | refine Gs ?_ | refine Gr ?_); simp (disch := omega) only [u, i64, ax, eq_self, if_true, if_false, Nat.reduceAdd, Int.reduceToNat, Int.reduceAdd, tvs, bs]; refine aA ?_) | refine G_seq ?_ | refine G_block ?_ | refine G_condT rfl ?_ | refine G_condF rfl ?_ | refine G_skip ?_ | refine G_ret ?_ | refine G_exit ?_ | refine q_tn ?_ | refine q_tr ?_ | refine q_tx ?_ | refine q_bn ?_ | refine q_br ?_ | refine q_bx ?_ | refine q_by (by decide) ?_)
            ((first | refine Gs ?_ | refine Gr ?_); simp (disch := omega) only [u, i64, ax, eq_self, if_true, if_false, Nat.reduceAdd, Int.reduceToNat, Int.reduceAdd, tvs, bs])
            simp (disch := omega) only [u, i64, ax, eq_self, if_true, if_false, Nat.reduceAdd, Int.reduceToNat, Int.reduceAdd, tvs, bs, Nat.reduceMul, List.take_succ_cons, List.take_zero, List.nil_append, List.cons_append, List.append_nil, Nat.reduceLeDiff]
            repeat (first | ((first | refine Gs ?_ | refine Gr ?_); simp (disch := omega) only [u, i64, ax, eq_self, if_true, if_false, Nat.reduceAdd, Int.reduceToNat, Int.reduceAdd, tvs, bs]; first | refine aA ?_ | ((first | refine cR hA ?_ | refine cR hT ?_); simp (disch := omega) only [u, i64, ax, eq_self, if_true, if_false, Nat.reduceAdd, Int.reduceToNat, Int.reduceAdd, tvs, bs]; try refine aA ?_)) | ((first | refine cR hA ?_ | refine cR hT ?_); simp (disch := omega) only [u, i64, ax, eq_self, if_true, if_false, Nat.reduceAdd, Int.reduceToNat, Int.reduceAdd, tvs, bs]; try refine aA ?_) | refine G_seq ?_ | refine G_block ?_ | refine G_condT rfl ?_ | refine G_condF rfl ?_ | refine G_skip ?_ | refine G_ret ?_ | refine G_exit ?_ | refine q_tn ?_ | refine q_tr ?_ | refine q_tx ?_ | refine q_bn ?_ | refine q_br ?_ | refine q_bx ?_ | refine q_by (by decide) ?_)
            (refine FinQ hQ (congrArg Array.toList Tryd.results61) _ _ ?_); simp (disch := omega) only [u, i64, ax, if_true, forall_const, reduceCtorEq, implies_true, tvs, bf]
            all_goals rfl
      · have k0 : kd = 0 := by omega
        have kt : ¬ exp < 1 - g - ((p : Int) - 1) := by omega
        have kg : ¬ g < exp := by omega
        have k1 : ¬ kd = 1 := by omega
        subst k0
        have hM0 : ∀ k : Nat, k ≤ 14000 → Ret Tryd.prog GEs 126 [nat c, nat (10 ^ k)] (nat (c * 10 ^ k)) := fun k hk => by
          have := ret_Mul (words c) (words (10 ^ k)) (Wd_words _) (Wd_words _) (by omega) (by have := tl k hk; omega)
          rwa [val_words, val_words] at this
        have hH : ∀ N : Nat, (words N).length ≤ 2000 → Ret Tryd.prog GEs 129 [cx p g r, .agg [i64 0, .bool ng, nat N, i64 exp]] (.bool (decide (inD p g ⟨0, ng, N, exp⟩))) := fun N hN => ret_holds p g r ⟨0, ng, N, exp⟩ hp hg (by show 0 ≤ 2; decide) hN (by show -3000000 ≤ exp ∧ exp ≤ 3000000; omega)
        by_cases hx : e < exp
        · have hcast : exp - e = (((exp - e).toNat : Nat) : Int) := by omega
          have hmax : max (0 : Int) (e - exp) = ((0 : Nat) : Int) := by omega
          have hT0 := ret_Ten 0 (by decide)
          have hM := hM0 0 (by decide)
          have hT2 := ret_Ten (exp - e).toNat (by omega)
          have hQu := ret_Quotient r hr ng (words c) (words (10 ^ (exp - e).toNat)) (Wd_words _) (Wd_words _) (by omega) (by have := tl (exp - e).toNat (by omega); omega) (by rw [val_words]; exact Nat.ne_of_gt (ten_pos _))
          rw [val_words, val_words] at hQu
          have hNl : (words (quoN r ng c (10 ^ (exp - e).toNat))).length ≤ 2000 := by
            have h1 := length_mono (quoN_small r ng c (10 ^ (exp - e).toNat))
            have h2 := length_add c 1
            have h3 : (words 1).length ≤ 1 := length_le (by decide)
            omega
          have hH := hH _ hNl
          have e1 : quantD p g r ⟨0, ng, c, e⟩ exp = if inD p g ⟨0, ng, quoN r ng c (10 ^ (exp - e).toNat), exp⟩ then (⟨0, ng, quoN r ng c (10 ^ (exp - e).toNat), exp⟩, if decide (c % 10 ^ (exp - e).toNat = 0) = true then 0 else 1) else (nanD, 16) := by
            unfold quantD quantN quantX
            simp only
            rw [if_neg k2, if_neg kx, if_pos hx, if_pos hx]
          rw [e1]
          generalize quoN r ng c (10 ^ (exp - e).toNat) = N at *
          generalize decide (c % 10 ^ (exp - e).toNat = 0) = ex at *
          generalize (exp - e).toNat = t at *
          generalize 10 ^ t = TT at *
          generalize c * 10 ^ 0 = M0 at *
          generalize 10 ^ 0 = T0 at *
          clear hM0 tl
          by_cases hin : inD p g ⟨0, ng, N, exp⟩
          · rw [decT hin] at hH
            rw [if_pos hin]
            cases ex with
            | true =>
              rw [if_pos rfl]
              clear hin e1
              unfold dv cx at *
              simp only at *
              generalize 1 - g - ((p : Int) - 1) = T at *
              refine RetN_start Tryd.func61 (by kernel_rfl) rfl fun Q hQ hQ2 => ?_; rw [Tryd.ntmps61]; simp only [u, i64, Nat.reduceSub, Nat.reduceAdd, bm]
              repeat (first | ((first | refine Gs ?_ | refine Gr ?_); simp (disch := omega) only [u, i64, ax, eq_self, if_true, if_false, Nat.reduceAdd, Int.reduceToNat, Int.reduceAdd, tvs, bs]; refine aA ?_) | refine G_seq ?_ | refine G_block ?_ | refine G_condT rfl ?_ | refine G_condF rfl ?_ | refine G_skip ?_ | refine G_ret ?_ | refine G_exit ?_ | refine q_tn ?_ | refine q_tr ?_ | refine q_tx ?_ | refine q_bn ?_ | refine q_br ?_ | refine q_bx ?_ | refine q_by (by decide) ?_)
              ((first | refine Gs ?_ | refine Gr ?_); simp (disch := omega) only [u, i64, ax, eq_self, if_true, if_false, Nat.reduceAdd, Int.reduceToNat, Int.reduceAdd, tvs, bs])
              simp (disch := omega) only [u, i64, ax, eq_self, if_true, if_false, Nat.reduceAdd, Int.reduceToNat, Int.reduceAdd, tvs, bs, Nat.reduceMul, List.take_succ_cons, List.take_zero, List.nil_append, List.cons_append, List.append_nil, Nat.reduceLeDiff]
              repeat (first | ((first | refine Gs ?_ | refine Gr ?_); simp (disch := omega) only [u, i64, ax, eq_self, if_true, if_false, Nat.reduceAdd, Int.reduceToNat, Int.reduceAdd, tvs, bs]; first | refine aA ?_ | ((first | refine cR hA ?_ | refine cR hT ?_ | refine cR hT0 ?_ | refine cR hM ?_); simp (disch := omega) only [u, i64, ax, eq_self, if_true, if_false, Nat.reduceAdd, Int.reduceToNat, Int.reduceAdd, tvs, bs]; try refine aA ?_)) | ((first | refine cR hA ?_ | refine cR hT ?_ | refine cR hT0 ?_ | refine cR hM ?_); simp (disch := omega) only [u, i64, ax, eq_self, if_true, if_false, Nat.reduceAdd, Int.reduceToNat, Int.reduceAdd, tvs, bs]; try refine aA ?_) | refine G_seq ?_ | refine G_block ?_ | refine G_condT rfl ?_ | refine G_condF rfl ?_ | refine G_skip ?_ | refine G_ret ?_ | refine G_exit ?_ | refine q_tn ?_ | refine q_tr ?_ | refine q_tx ?_ | refine q_bn ?_ | refine q_br ?_ | refine q_bx ?_ | refine q_by (by decide) ?_)
              ((first | refine Gs ?_ | refine Gr ?_); simp (disch := omega) only [u, i64, ax, eq_self, if_true, if_false, Nat.reduceAdd, Int.reduceToNat, Int.reduceAdd, tvs, bs])
              rw [hcast]
              repeat (first | ((first | refine Gs ?_ | refine Gr ?_); simp (disch := omega) only [u, i64, ax, eq_self, if_true, if_false, Nat.reduceAdd, Int.reduceToNat, Int.reduceAdd, tvs, bs]; first | refine aA ?_ | ((first | refine cR hT2 ?_ | refine cR hQu ?_ | refine cR hH ?_); simp (disch := omega) only [u, i64, ax, eq_self, if_true, if_false, Nat.reduceAdd, Int.reduceToNat, Int.reduceAdd, tvs, bs]; try refine aA ?_)) | ((first | refine cR hT2 ?_ | refine cR hQu ?_ | refine cR hH ?_); simp (disch := omega) only [u, i64, ax, eq_self, if_true, if_false, Nat.reduceAdd, Int.reduceToNat, Int.reduceAdd, tvs, bs]; try refine aA ?_) | refine G_seq ?_ | refine G_block ?_ | refine G_condT rfl ?_ | refine G_condF rfl ?_ | refine G_skip ?_ | refine G_ret ?_ | refine G_exit ?_ | refine q_tn ?_ | refine q_tr ?_ | refine q_tx ?_ | refine q_bn ?_ | refine q_br ?_ | refine q_bx ?_ | refine q_by (by decide) ?_)
              (refine FinQ hQ (congrArg Array.toList Tryd.results61) _ _ ?_); simp (disch := omega) only [u, i64, ax, if_true, forall_const, reduceCtorEq, implies_true, tvs, bf]
              all_goals rfl
            | false =>
              rw [if_neg (by decide)]
              clear hin e1
              unfold dv cx at *
              simp only at *
              generalize 1 - g - ((p : Int) - 1) = T at *
              refine RetN_start Tryd.func61 (by kernel_rfl) rfl fun Q hQ hQ2 => ?_; rw [Tryd.ntmps61]; simp only [u, i64, Nat.reduceSub, Nat.reduceAdd, bm]
              repeat (first | ((first | refine Gs ?_ | refine Gr ?_); simp (disch := omega) only [u, i64, ax, eq_self, if_true, if_false, Nat.reduceAdd, Int.reduceToNat, Int.reduceAdd, tvs, bs]; refine aA ?_) | refine G_seq ?_ | refine G_block ?_ | refine G_condT rfl ?_ | refine G_condF rfl ?_ | refine G_skip ?_ | refine G_ret ?_ | refine G_exit ?_ | refine q_tn ?_ | refine q_tr ?_ | refine q_tx ?_ | refine q_bn ?_ | refine q_br ?_ | refine q_bx ?_ | refine q_by (by decide) ?_)
              ((first | refine Gs ?_ | refine Gr ?_); simp (disch := omega) only [u, i64, ax, eq_self, if_true, if_false, Nat.reduceAdd, Int.reduceToNat, Int.reduceAdd, tvs, bs])
              simp (disch := omega) only [u, i64, ax, eq_self, if_true, if_false, Nat.reduceAdd, Int.reduceToNat, Int.reduceAdd, tvs, bs, Nat.reduceMul, List.take_succ_cons, List.take_zero, List.nil_append, List.cons_append, List.append_nil, Nat.reduceLeDiff]
              repeat (first | ((first | refine Gs ?_ | refine Gr ?_); simp (disch := omega) only [u, i64, ax, eq_self, if_true, if_false, Nat.reduceAdd, Int.reduceToNat, Int.reduceAdd, tvs, bs]; first | refine aA ?_ | ((first | refine cR hA ?_ | refine cR hT ?_ | refine cR hT0 ?_ | refine cR hM ?_); simp (disch := omega) only [u, i64, ax, eq_self, if_true, if_false, Nat.reduceAdd, Int.reduceToNat, Int.reduceAdd, tvs, bs]; try refine aA ?_)) | ((first | refine cR hA ?_ | refine cR hT ?_ | refine cR hT0 ?_ | refine cR hM ?_); simp (disch := omega) only [u, i64, ax, eq_self, if_true, if_false, Nat.reduceAdd, Int.reduceToNat, Int.reduceAdd, tvs, bs]; try refine aA ?_) | refine G_seq ?_ | refine G_block ?_ | refine G_condT rfl ?_ | refine G_condF rfl ?_ | refine G_skip ?_ | refine G_ret ?_ | refine G_exit ?_ | refine q_tn ?_ | refine q_tr ?_ | refine q_tx ?_ | refine q_bn ?_ | refine q_br ?_ | refine q_bx ?_ | refine q_by (by decide) ?_)
              ((first | refine Gs ?_ | refine Gr ?_); simp (disch := omega) only [u, i64, ax, eq_self, if_true, if_false, Nat.reduceAdd, Int.reduceToNat, Int.reduceAdd, tvs, bs])
              rw [hcast]
              repeat (first | ((first | refine Gs ?_ | refine Gr ?_); simp (disch := omega) only [u, i64, ax, eq_self, if_true, if_false, Nat.reduceAdd, Int.reduceToNat, Int.reduceAdd, tvs, bs]; first | refine aA ?_ | ((first | refine cR hT2 ?_ | refine cR hQu ?_ | refine cR hH ?_); simp (disch := omega) only [u, i64, ax, eq_self, if_true, if_false, Nat.reduceAdd, Int.reduceToNat, Int.reduceAdd, tvs, bs]; try refine aA ?_)) | ((first | refine cR hT2 ?_ | refine cR hQu ?_ | refine cR hH ?_); simp (disch := omega) only [u, i64, ax, eq_self, if_true, if_false, Nat.reduceAdd, Int.reduceToNat, Int.reduceAdd, tvs, bs]; try refine aA ?_) | refine G_seq ?_ | refine G_block ?_ | refine G_condT rfl ?_ | refine G_condF rfl ?_ | refine G_skip ?_ | refine G_ret ?_ | refine G_exit ?_ | refine q_tn ?_ | refine q_tr ?_ | refine q_tx ?_ | refine q_bn ?_ | refine q_br ?_ | refine q_bx ?_ | refine q_by (by decide) ?_)
              (refine FinQ hQ (congrArg Array.toList Tryd.results61) _ _ ?_); simp (disch := omega) only [u, i64, ax, if_true, forall_const, reduceCtorEq, implies_true, tvs, bf]
              all_goals rfl
          · rw [decF hin] at hH
            rw [if_neg hin]
            clear hin e1
            unfold nanD dv cx at *
            simp only at *
            generalize 1 - g - ((p : Int) - 1) = T at *
            refine RetN_start Tryd.func61 (by kernel_rfl) rfl fun Q hQ hQ2 => ?_; rw [Tryd.ntmps61]; simp only [u, i64, Nat.reduceSub, Nat.reduceAdd, bm]
            repeat (first | ((first | refine Gs ?_ | refine Gr ?_); simp (disch := omega) only [u, i64, ax, eq_self, if_true, if_false, Nat.reduceAdd, Int.reduceToNat, Int.reduceAdd, tvs, bs]; refine aA ?_) | refine G_seq ?_ | refine G_block ?_ | refine G_condT rfl ?_ | refine G_condF rfl ?_ | refine G_skip ?_ | refine G_ret ?_ | refine G_exit ?_ | refine q_tn ?_ | refine q_tr ?_ | refine q_tx ?_ | refine q_bn ?_ | refine q_br ?_ | refine q_bx ?_ | refine q_by (by decide) ?_)
            ((first | refine Gs ?_ | refine Gr ?_); simp (disch := omega) only [u, i64, ax, eq_self, if_true, if_false, Nat.reduceAdd, Int.reduceToNat, Int.reduceAdd, tvs, bs])
            simp (disch := omega) only [u, i64, ax, eq_self, if_true, if_false, Nat.reduceAdd, Int.reduceToNat, Int.reduceAdd, tvs, bs, Nat.reduceMul, List.take_succ_cons, List.take_zero, List.nil_append, List.cons_append, List.append_nil, Nat.reduceLeDiff]
            repeat (first | ((first | refine Gs ?_ | refine Gr ?_); simp (disch := omega) only [u, i64, ax, eq_self, if_true, if_false, Nat.reduceAdd, Int.reduceToNat, Int.reduceAdd, tvs, bs]; first | refine aA ?_ | ((first | refine cR hA ?_ | refine cR hT ?_ | refine cR hT0 ?_ | refine cR hM ?_); simp (disch := omega) only [u, i64, ax, eq_self, if_true, if_false, Nat.reduceAdd, Int.reduceToNat, Int.reduceAdd, tvs, bs]; try refine aA ?_)) | ((first | refine cR hA ?_ | refine cR hT ?_ | refine cR hT0 ?_ | refine cR hM ?_); simp (disch := omega) only [u, i64, ax, eq_self, if_true, if_false, Nat.reduceAdd, Int.reduceToNat, Int.reduceAdd, tvs, bs]; try refine aA ?_) | refine G_seq ?_ | refine G_block ?_ | refine G_condT rfl ?_ | refine G_condF rfl ?_ | refine G_skip ?_ | refine G_ret ?_ | refine G_exit ?_ | refine q_tn ?_ | refine q_tr ?_ | refine q_tx ?_ | refine q_bn ?_ | refine q_br ?_ | refine q_bx ?_ | refine q_by (by decide) ?_)
            ((first | refine Gs ?_ | refine Gr ?_); simp (disch := omega) only [u, i64, ax, eq_self, if_true, if_false, Nat.reduceAdd, Int.reduceToNat, Int.reduceAdd, tvs, bs])
            rw [hcast]
            repeat (first | ((first | refine Gs ?_ | refine Gr ?_); simp (disch := omega) only [u, i64, ax, eq_self, if_true, if_false, Nat.reduceAdd, Int.reduceToNat, Int.reduceAdd, tvs, bs]; first | refine aA ?_ | ((first | refine cR hT2 ?_ | refine cR hQu ?_ | refine cR hH ?_); simp (disch := omega) only [u, i64, ax, eq_self, if_true, if_false, Nat.reduceAdd, Int.reduceToNat, Int.reduceAdd, tvs, bs]; try refine aA ?_)) | ((first | refine cR hT2 ?_ | refine cR hQu ?_ | refine cR hH ?_); simp (disch := omega) only [u, i64, ax, eq_self, if_true, if_false, Nat.reduceAdd, Int.reduceToNat, Int.reduceAdd, tvs, bs]; try refine aA ?_) | refine G_seq ?_ | refine G_block ?_ | refine G_condT rfl ?_ | refine G_condF rfl ?_ | refine G_skip ?_ | refine G_ret ?_ | refine G_exit ?_ | refine q_tn ?_ | refine q_tr ?_ | refine q_tx ?_ | refine q_bn ?_ | refine q_br ?_ | refine q_bx ?_ | refine q_by (by decide) ?_)
            (refine FinQ hQ (congrArg Array.toList Tryd.results61) _ _ ?_); simp (disch := omega) only [u, i64, ax, if_true, forall_const, reduceCtorEq, implies_true, tvs, bf]
            all_goals rfl
        · have hcast : e - exp = (((e - exp).toNat : Nat) : Int) := by omega
          have hT2 := ret_Ten (e - exp).toNat (by omega)
          have hM := hM0 (e - exp).toNat (by omega)
          have hNl : (words (c * 10 ^ (e - exp).toNat)).length ≤ 2000 := by
            have h1 := length_mul c (10 ^ (e - exp).toNat)
            have h2 := tl (e - exp).toNat (by omega)
            omega
          have hH := hH _ hNl
          have e1 : quantD p g r ⟨0, ng, c, e⟩ exp = if inD p g ⟨0, ng, c * 10 ^ (e - exp).toNat, exp⟩ then (⟨0, ng, c * 10 ^ (e - exp).toNat, exp⟩, 0) else (nanD, 16) := by
            unfold quantD quantN quantX
            simp only
            rw [if_neg k2, if_neg kx, if_neg hx, if_neg hx]
            rfl
          rw [e1]
          generalize c * 10 ^ (e - exp).toNat = N at *
          generalize (e - exp).toNat = t at *
          generalize 10 ^ t = TT at *
          clear hM0 tl
          by_cases hin : inD p g ⟨0, ng, N, exp⟩
          · rw [decT hin] at hH
            rw [if_pos hin]
            clear hin e1
            unfold dv cx at *
            simp only at *
            generalize 1 - g - ((p : Int) - 1) = T at *
            refine RetN_start Tryd.func61 (by kernel_rfl) rfl fun Q hQ hQ2 => ?_; rw [Tryd.ntmps61]; simp only [u, i64, Nat.reduceSub, Nat.reduceAdd, bm]
            repeat (first | ((first | refine Gs ?_ | refine Gr ?_); simp (disch := omega) only [u, i64, ax, eq_self, if_true, if_false, Nat.reduceAdd, Int.reduceToNat, Int.reduceAdd, tvs, bs]; refine aA ?_) | refine G_seq ?_ | refine G_block ?_ | refine G_condT rfl ?_ | refine G_condF rfl ?_ | refine G_skip ?_ | refine G_ret ?_ | refine G_exit ?_ | refine q_tn ?_ | refine q_tr ?_ | refine q_tx ?_ | refine q_bn ?_ | refine q_br ?_ | refine q_bx ?_ | refine q_by (by decide) ?_)
            ((first | refine Gs ?_ | refine Gr ?_); simp (disch := omega) only [u, i64, ax, eq_self, if_true, if_false, Nat.reduceAdd, Int.reduceToNat, Int.reduceAdd, tvs, bs])
            simp (disch := omega) only [u, i64, ax, eq_self, if_true, if_false, Nat.reduceAdd, Int.reduceToNat, Int.reduceAdd, tvs, bs, Nat.reduceMul, List.take_succ_cons, List.take_zero, List.nil_append, List.cons_append, List.append_nil, Nat.reduceLeDiff]
            repeat (first | ((first | refine Gs ?_ | refine Gr ?_); simp (disch := omega) only [u, i64, ax, eq_self, if_true, if_false, Nat.reduceAdd, Int.reduceToNat, Int.reduceAdd, tvs, bs]; first | refine aA ?_ | ((first | refine cR hA ?_ | refine cR hT ?_); simp (disch := omega) only [u, i64, ax, eq_self, if_true, if_false, Nat.reduceAdd, Int.reduceToNat, Int.reduceAdd, tvs, bs]; try refine aA ?_)) | ((first | refine cR hA ?_ | refine cR hT ?_); simp (disch := omega) only [u, i64, ax, eq_self, if_true, if_false, Nat.reduceAdd, Int.reduceToNat, Int.reduceAdd, tvs, bs]; try refine aA ?_) | refine G_seq ?_ | refine G_block ?_ | refine G_condT rfl ?_ | refine G_condF rfl ?_ | refine G_skip ?_ | refine G_ret ?_ | refine G_exit ?_ | refine q_tn ?_ | refine q_tr ?_ | refine q_tx ?_ | refine q_bn ?_ | refine q_br ?_ | refine q_bx ?_ | refine q_by (by decide) ?_)
            ((first | refine Gs ?_ | refine Gr ?_); simp (disch := omega) only [u, i64, ax, eq_self, if_true, if_false, Nat.reduceAdd, Int.reduceToNat, Int.reduceAdd, tvs, bs])
            rw [hcast]
            repeat (first | ((first | refine Gs ?_ | refine Gr ?_); simp (disch := omega) only [u, i64, ax, eq_self, if_true, if_false, Nat.reduceAdd, Int.reduceToNat, Int.reduceAdd, tvs, bs]; first | refine aA ?_ | ((first | refine cR hT2 ?_ | refine cR hM ?_ | refine cR hH ?_); simp (disch := omega) only [u, i64, ax, eq_self, if_true, if_false, Nat.reduceAdd, Int.reduceToNat, Int.reduceAdd, tvs, bs]; try refine aA ?_)) | ((first | refine cR hT2 ?_ | refine cR hM ?_ | refine cR hH ?_); simp (disch := omega) only [u, i64, ax, eq_self, if_true, if_false, Nat.reduceAdd, Int.reduceToNat, Int.reduceAdd, tvs, bs]; try refine aA ?_) | refine G_seq ?_ | refine G_block ?_ | refine G_condT rfl ?_ | refine G_condF rfl ?_ | refine G_skip ?_ | refine G_ret ?_ | refine G_exit ?_ | refine q_tn ?_ | refine q_tr ?_ | refine q_tx ?_ | refine q_bn ?_ | refine q_br ?_ | refine q_bx ?_ | refine q_by (by decide) ?_)
            (refine FinQ hQ (congrArg Array.toList Tryd.results61) _ _ ?_); simp (disch := omega) only [u, i64, ax, if_true, forall_const, reduceCtorEq, implies_true, tvs, bf]
            all_goals rfl
          · rw [decF hin] at hH
            rw [if_neg hin]
            clear hin e1
            unfold nanD dv cx at *
            simp only at *
            generalize 1 - g - ((p : Int) - 1) = T at *
            refine RetN_start Tryd.func61 (by kernel_rfl) rfl fun Q hQ hQ2 => ?_; rw [Tryd.ntmps61]; simp only [u, i64, Nat.reduceSub, Nat.reduceAdd, bm]
            repeat (first | ((first | refine Gs ?_ | refine Gr ?_); simp (disch := omega) only [u, i64, ax, eq_self, if_true, if_false, Nat.reduceAdd, Int.reduceToNat, Int.reduceAdd, tvs, bs]; refine aA ?_) | refine G_seq ?_ | refine G_block ?_ | refine G_condT rfl ?_ | refine G_condF rfl ?_ | refine G_skip ?_ | refine G_ret ?_ | refine G_exit ?_ | refine q_tn ?_ | refine q_tr ?_ | refine q_tx ?_ | refine q_bn ?_ | refine q_br ?_ | refine q_bx ?_ | refine q_by (by decide) ?_)
            ((first | refine Gs ?_ | refine Gr ?_); simp (disch := omega) only [u, i64, ax, eq_self, if_true, if_false, Nat.reduceAdd, Int.reduceToNat, Int.reduceAdd, tvs, bs])
            simp (disch := omega) only [u, i64, ax, eq_self, if_true, if_false, Nat.reduceAdd, Int.reduceToNat, Int.reduceAdd, tvs, bs, Nat.reduceMul, List.take_succ_cons, List.take_zero, List.nil_append, List.cons_append, List.append_nil, Nat.reduceLeDiff]
            repeat (first | ((first | refine Gs ?_ | refine Gr ?_); simp (disch := omega) only [u, i64, ax, eq_self, if_true, if_false, Nat.reduceAdd, Int.reduceToNat, Int.reduceAdd, tvs, bs]; first | refine aA ?_ | ((first | refine cR hA ?_ | refine cR hT ?_); simp (disch := omega) only [u, i64, ax, eq_self, if_true, if_false, Nat.reduceAdd, Int.reduceToNat, Int.reduceAdd, tvs, bs]; try refine aA ?_)) | ((first | refine cR hA ?_ | refine cR hT ?_); simp (disch := omega) only [u, i64, ax, eq_self, if_true, if_false, Nat.reduceAdd, Int.reduceToNat, Int.reduceAdd, tvs, bs]; try refine aA ?_) | refine G_seq ?_ | refine G_block ?_ | refine G_condT rfl ?_ | refine G_condF rfl ?_ | refine G_skip ?_ | refine G_ret ?_ | refine G_exit ?_ | refine q_tn ?_ | refine q_tr ?_ | refine q_tx ?_ | refine q_bn ?_ | refine q_br ?_ | refine q_bx ?_ | refine q_by (by decide) ?_)
            ((first | refine Gs ?_ | refine Gr ?_); simp (disch := omega) only [u, i64, ax, eq_self, if_true, if_false, Nat.reduceAdd, Int.reduceToNat, Int.reduceAdd, tvs, bs])
            rw [hcast]
            repeat (first | ((first | refine Gs ?_ | refine Gr ?_); simp (disch := omega) only [u, i64, ax, eq_self, if_true, if_false, Nat.reduceAdd, Int.reduceToNat, Int.reduceAdd, tvs, bs]; first | refine aA ?_ | ((first | refine cR hT2 ?_ | refine cR hM ?_ | refine cR hH ?_); simp (disch := omega) only [u, i64, ax, eq_self, if_true, if_false, Nat.reduceAdd, Int.reduceToNat, Int.reduceAdd, tvs, bs]; try refine aA ?_)) | ((first | refine cR hT2 ?_ | refine cR hM ?_ | refine cR hH ?_); simp (disch := omega) only [u, i64, ax, eq_self, if_true, if_false, Nat.reduceAdd, Int.reduceToNat, Int.reduceAdd, tvs, bs]; try refine aA ?_) | refine G_seq ?_ | refine G_block ?_ | refine G_condT rfl ?_ | refine G_condF rfl ?_ | refine G_skip ?_ | refine G_ret ?_ | refine G_exit ?_ | refine q_tn ?_ | refine q_tr ?_ | refine q_tx ?_ | refine q_bn ?_ | refine q_br ?_ | refine q_bx ?_ | refine q_by (by decide) ?_)
            (refine FinQ hQ (congrArg Array.toList Tryd.results61) _ _ ?_); simp (disch := omega) only [u, i64, ax, if_true, forall_const, reduceCtorEq, implies_true, tvs, bf]
            all_goals rfl
  · rw [if_neg h] at hA ⊢
    rw [dvz]
    unfold DI.av cx at *
    refine RetN_start Tryd.func61 (by kernel_rfl) rfl fun Q hQ hQ2 => ?_; rw [Tryd.ntmps61]; simp only [u, i64, Nat.reduceSub, Nat.reduceAdd, bm]
    repeat (first | ((first | refine Gs ?_ | refine Gr ?_); simp (disch := omega) only [u, i64, ax, eq_self, if_true, if_false, Nat.reduceAdd, Int.reduceToNat, Int.reduceAdd, tvs, bs]; refine aA ?_) | refine G_seq ?_ | refine G_block ?_ | refine G_condT rfl ?_ | refine G_condF rfl ?_ | refine G_skip ?_ | refine G_ret ?_ | refine G_exit ?_ | refine q_tn ?_ | refine q_tr ?_ | refine q_tx ?_ | refine q_bn ?_ | refine q_br ?_ | refine q_bx ?_ | refine q_by (by decide) ?_)
    ((first | refine Gs ?_ | refine Gr ?_); simp (disch := omega) only [u, i64, ax, eq_self, if_true, if_false, Nat.reduceAdd, Int.reduceToNat, Int.reduceAdd, tvs, bs])
    simp (disch := omega) only [u, i64, ax, eq_self, if_true, if_false, Nat.reduceAdd, Int.reduceToNat, Int.reduceAdd, tvs, bs, Nat.reduceMul, List.take_succ_cons, List.take_zero, List.nil_append, List.cons_append, List.append_nil, Nat.reduceLeDiff]
    repeat (first | ((first | refine Gs ?_ | refine Gr ?_); simp (disch := omega) only [u, i64, ax, eq_self, if_true, if_false, Nat.reduceAdd, Int.reduceToNat, Int.reduceAdd, tvs, bs]; first | refine aA ?_ | (refine cR hA ?_; simp (disch := omega) only [u, i64, ax, eq_self, if_true, if_false, Nat.reduceAdd, Int.reduceToNat, Int.reduceAdd, tvs, bs]; try refine aA ?_)) | (refine cR hA ?_; simp (disch := omega) only [u, i64, ax, eq_self, if_true, if_false, Nat.reduceAdd, Int.reduceToNat, Int.reduceAdd, tvs, bs]; try refine aA ?_) | refine G_seq ?_ | refine G_block ?_ | refine G_condT rfl ?_ | refine G_condF rfl ?_ | refine G_skip ?_ | refine G_ret ?_ | refine G_exit ?_ | refine q_tn ?_ | refine q_tr ?_ | refine q_tx ?_ | refine q_bn ?_ | refine q_br ?_ | refine q_bx ?_ | refine q_by (by decide) ?_)
    (refine FinQ hQ (congrArg Array.toList Tryd.results61) _ _ ?_); simp (disch := omega) only [u, i64, ax, if_true, forall_const, reduceCtorEq, implies_true, tvs, bf]
end Go.Proofs
set_option linter.unusedVariables false
namespace Go.Proofs
open Go.Ax
def digs : List Nat → List Nat
  | [] => []
  | x :: xs => x % 4294967296 :: x / 4294967296 :: digs xs
theorem digs_length : ∀ xs : List Nat, (digs xs).length = 2 * xs.length
  | [] => rfl
  | x :: xs => by simp only [digs, List.length_cons, digs_length xs]; omega
theorem digs_Ds : ∀ {xs : List Nat}, Wd xs → Ds 4294967296 (digs xs)
  | [], _ => Ds_nil
  | x :: xs, h => Ds_cons (Nat.mod_lt _ (by decide)) (Ds_cons (by have := h.head; omega) (digs_Ds h.tail))
theorem digs_val : ∀ (xs : List Nat), vb 4294967296 (digs xs) = val xs
  | [] => rfl
  | x :: xs => by
    simp only [digs, vb, val, digs_val xs]
    omega
theorem digs_snoc : ∀ (xs : List Nat) (x : Nat), digs (xs ++ [x]) = digs xs ++ [x % 4294967296, x / 4294967296]
  | [], x => rfl
  | y :: xs, x => by simp only [List.cons_append, digs, digs_snoc xs x]
theorem digs_take (xs : List Nat) (n : Nat) (h : n < xs.length) : digs (xs.take (n + 1)) = digs (xs.take n) ++ [xs.getD n 0 % 4294967296, xs.getD n 0 / 4294967296] := by
  rw [List.take_succ_eq_append_getElem h, digs_snoc, List.getD_eq_getElem?_getD, List.getElem?_eq_getElem h]; rfl
/-- Halves put together. -/
def joined : List Nat → List Nat
  | a :: b :: ds => (a + b * 4294967296) :: joined ds
  | _ => []
theorem joined_length : ∀ (ds : List Nat), (joined ds).length = ds.length / 2
  | [] => rfl
  | [_] => by simp [joined]
  | a :: b :: ds => by simp only [joined, List.length_cons, joined_length ds]; omega
theorem joined_Wd : ∀ {ds : List Nat}, Ds 4294967296 ds → Wd (joined ds)
  | [], _ => Wd_nil
  | [_], _ => Wd_nil
  | a :: b :: ds, h => by
    have h1 := h.head
    have h2 := h.tail.head
    exact Wd_cons (by omega) (joined_Wd h.tail.tail)
theorem joined_val : ∀ (ds : List Nat), ds.length % 2 = 0 → val (joined ds) = vb 4294967296 ds
  | [], _ => rfl
  | [_], h => by simp at h
  | a :: b :: ds, h => by
    have ih := joined_val ds (by simpa [Nat.add_assoc, Nat.add_mod_right] using h)
    simp only [joined, val, vb, ih]
    omega
theorem joined_snoc : ∀ (ds : List Nat) (a b : Nat), ds.length % 2 = 0 → joined (ds ++ [a, b]) = joined ds ++ [a + b * 4294967296]
  | [], a, b, _ => rfl
  | [_], _, _, h => by simp at h
  | x :: y :: ds, a, b, h => by
    have ih := joined_snoc ds a b (by simpa [Nat.add_assoc, Nat.add_mod_right] using h)
    simp only [List.cons_append, joined, ih]
theorem take_two (ds : List Nat) (n : Nat) (h : n + 1 < ds.length) : ds.take (n + 2) = ds.take n ++ [ds.getD n 0, ds.getD (n + 1) 0] := by
  rw [List.take_succ_eq_append_getElem h, List.take_succ_eq_append_getElem (by omega), List.append_assoc]
  simp [List.getD_eq_getElem?_getD, List.getElem?_eq_getElem h, List.getElem?_eq_getElem (show n < ds.length by omega)]
theorem joined_take (ds : List Nat) (i : Nat) (h : 2 * i + 1 < ds.length) : joined (ds.take (2 * (i + 1))) = joined (ds.take (2 * i)) ++ [ds.getD (2 * i) 0 + ds.getD (2 * i + 1) 0 * 4294967296] := by
  rw [show 2 * (i + 1) = 2 * i + 2 by omega, take_two ds (2 * i) h, joined_snoc]
  rw [List.length_take, Nat.min_eq_left (by omega)]; omega
theorem pow_half (n : Nat) : (4294967296 : Nat) ^ (2 * n) = 18446744073709551616 ^ n := by rw [Nat.pow_mul]
/-- Words that have no fewer words in canonical form. -/
theorem canon_of_ge {xs : List Nat} (hw : Wd xs) (h : 18446744073709551616 ^ (xs.length - 1) ≤ val xs) : Canon xs := fun hne h0 => by
  have e := List.dropLast_concat_getLast hne
  rw [h0] at e
  have hv : val xs = val xs.dropLast := by
    conv => lhs; rw [← e]
    rw [val_append]; simp [val]
  have hd : Wd xs.dropLast := fun y hy => hw y ((List.dropLast_sublist _).subset hy)
  have := val_lt hd
  rw [List.length_dropLast] at this
  omega
theorem words_of_ge {xs : List Nat} (hw : Wd xs) (h : 18446744073709551616 ^ (xs.length - 1) ≤ val xs) : xs = words (val xs) := (words_val hw (canon_of_ge hw h)).symm
end Go.Proofs
set_option linter.unusedVariables false
set_option linter.unusedSimpArgs false
namespace Go.Proofs
open Go.Ax
set_option maxRecDepth 100000 in
theorem ret_Digits (xs : List Nat) (hx : Wd xs) (hl : xs.length ≤ 549755813888) : Ret Tryd.prog GEs 156 [ws xs] (ws (digs xs)) := by
  refine RetN_start Tryd.func156 (by kernel_rfl) rfl fun Q hQ hQ2 => ?_; rw [Tryd.ntmps156]; simp only [u, i64, Nat.reduceSub, Nat.reduceAdd, bm]
  repeat (first | ((first | refine Gs ?_ | refine Gr ?_); simp (disch := omega) only [u, i64, ax, eq_self, if_true, if_false, Nat.reduceAdd, Int.reduceToNat, Int.reduceAdd, tvs, bs]; refine aA ?_) | refine G_seq ?_ | refine G_block ?_ | refine G_condT rfl ?_ | refine G_condF rfl ?_ | refine G_skip ?_ | refine G_ret ?_ | refine G_exit ?_ | refine q_tn ?_ | refine q_tr ?_ | refine q_tx ?_ | refine q_bn ?_ | refine q_br ?_ | refine q_bx ?_ | refine q_by (by decide) ?_)
  refine AWp_loop (fun i : Nat × List Nat => mk 25 [(0, ws xs), (3, gA i.2 i.1), (4, i64 i.1)] (gR i.2 i.1)) (fun i => i.1 ≤ xs.length ∧ i.2 = digs (xs.take i.1)) (fun i => xs.length - i.1) (0, []) ?_ ⟨Nat.zero_le _, rfl⟩ ?_
  · simp only [u, i64, Nat.reduceSub, Nat.reduceAdd, bm]
  rintro ⟨k, ds⟩ ⟨hk, hds⟩
  simp only at hk hds
  have hlen : ds.length = 2 * k := by rw [hds, digs_length, List.length_take]; omega
  by_cases hn : k < xs.length
  · have hdt := digs_take xs k hn
    rw [← hds] at hdt
    have hw := hx.getD k
    cases k with
    | zero =>
      have h0 : ds = [] := hds
      subst h0
      simp only [u, i64, Nat.reduceSub, Nat.reduceAdd, bm]
      repeat (first | ((first | refine Gs ?_ | refine Gr ?_); simp (disch := omega) only [u, i64, ax, eq_self, if_true, if_false, Nat.reduceAdd, Int.reduceToNat, Int.reduceAdd, tvs, bs]; refine aA ?_) | refine G_seq ?_ | refine G_block ?_ | refine G_condT rfl ?_ | refine G_condF rfl ?_ | refine G_skip ?_ | refine G_ret ?_ | refine G_exit ?_ | refine q_tn ?_ | refine q_tr ?_ | refine q_tx ?_ | refine q_bn ?_ | refine q_br ?_ | refine q_bx ?_ | refine q_by (by decide) ?_)
      refine ⟨(1, [xs.getD 0 0 % 4294967296, xs.getD 0 0 / 4294967296]), ?_, ⟨hn, hdt.symm⟩, by simp only; omega⟩
      simp only [u, i64, Nat.reduceSub, Nat.reduceAdd, bm]
    | succ k =>
      simp only [u, i64, Nat.reduceSub, Nat.reduceAdd, bm]
      repeat (first | ((first | refine Gs ?_ | refine Gr ?_); simp (disch := omega) only [u, i64, ax, eq_self, if_true, if_false, Nat.reduceAdd, Int.reduceToNat, Int.reduceAdd, tvs, bs]; refine aA ?_) | refine G_seq ?_ | refine G_block ?_ | refine G_condT rfl ?_ | refine G_condF rfl ?_ | refine G_skip ?_ | refine G_ret ?_ | refine G_exit ?_ | refine q_tn ?_ | refine q_tr ?_ | refine q_tx ?_ | refine q_bn ?_ | refine q_br ?_ | refine q_bx ?_ | refine q_by (by decide) ?_)
      refine ⟨(k + 2, ds ++ [xs.getD (k + 1) 0 % 4294967296, xs.getD (k + 1) 0 / 4294967296]), ?_, ⟨hn, hdt.symm⟩, by simp only; omega⟩
      simp only [u, i64, Nat.reduceSub, Nat.reduceAdd, bm]
  · have hk0 : k = xs.length := by omega
    rw [hk0, List.take_length] at hds
    subst hds
    cases k with
    | zero =>
      have hx0 : xs = [] := List.eq_nil_of_length_eq_zero hk0.symm
      subst hx0
      simp only [u, i64, Nat.reduceSub, Nat.reduceAdd, bm]
      repeat (first | ((first | refine Gs ?_ | refine Gr ?_); simp (disch := omega) only [u, i64, ax, eq_self, if_true, if_false, Nat.reduceAdd, Int.reduceToNat, Int.reduceAdd, tvs, bs]; refine aA ?_) | refine G_seq ?_ | refine G_block ?_ | refine G_condT rfl ?_ | refine G_condF rfl ?_ | refine G_skip ?_ | refine G_ret ?_ | refine G_exit ?_ | refine q_tn ?_ | refine q_tr ?_ | refine q_tx ?_ | refine q_bn ?_ | refine q_br ?_ | refine q_bx ?_ | refine q_by (by decide) ?_)
      (refine FinQ hQ (congrArg Array.toList Tryd.results156) _ _ ?_); simp (disch := omega) only [u, i64, ax, if_true, forall_const, reduceCtorEq, implies_true, tvs, bf]
      rfl
    | succ k =>
      simp only [u, i64, Nat.reduceSub, Nat.reduceAdd, bm]
      repeat (first | ((first | refine Gs ?_ | refine Gr ?_); simp (disch := omega) only [u, i64, ax, eq_self, if_true, if_false, Nat.reduceAdd, Int.reduceToNat, Int.reduceAdd, tvs, bs]; refine aA ?_) | refine G_seq ?_ | refine G_block ?_ | refine G_condT rfl ?_ | refine G_condF rfl ?_ | refine G_skip ?_ | refine G_ret ?_ | refine G_exit ?_ | refine q_tn ?_ | refine q_tr ?_ | refine q_tx ?_ | refine q_bn ?_ | refine q_br ?_ | refine q_bx ?_ | refine q_by (by decide) ?_)
      (refine FinQ hQ (congrArg Array.toList Tryd.results156) _ _ ?_); simp (disch := omega) only [u, i64, ax, if_true, forall_const, reduceCtorEq, implies_true, tvs, bf]
set_option maxRecDepth 100000 in
theorem ret_Row (ds : List Nat) (hd : Ds 4294967296 ds) (he : ds.length % 2 = 0) (hl : ds.length ≤ 1099511627776) : Ret Tryd.prog GEs 198 [ws ds] (ws (joined ds)) := by
  refine RetN_start Tryd.func198 (by kernel_rfl) rfl fun Q hQ hQ2 => ?_; rw [Tryd.ntmps198]; simp only [u, i64, Nat.reduceSub, Nat.reduceAdd, bm]
  repeat (first | ((first | refine Gs ?_ | refine Gr ?_); simp (disch := omega) only [u, i64, ax, eq_self, if_true, if_false, Nat.reduceAdd, Int.reduceToNat, Int.reduceAdd, tvs, bs]; refine aA ?_) | refine G_seq ?_ | refine G_block ?_ | refine G_condT rfl ?_ | refine G_condF rfl ?_ | refine G_skip ?_ | refine G_ret ?_ | refine G_exit ?_ | refine q_tn ?_ | refine q_tr ?_ | refine q_tx ?_ | refine q_bn ?_ | refine q_br ?_ | refine q_bx ?_ | refine q_by (by decide) ?_)
  refine AWp_loop (fun i : Nat × Nat × List Nat => mk 27 [(0, ws ds), (3, gA i.2.2 i.1), (4, i64 i.2.1)] (gR i.2.2 i.1)) (fun i => i.2.1 = 2 * i.1 ∧ i.2.1 ≤ ds.length ∧ i.2.2 = joined (ds.take i.2.1)) (fun i => ds.length - i.2.1) (0, 0, []) ?_ ⟨rfl, Nat.zero_le _, rfl⟩ ?_
  · simp only [u, i64, Nat.reduceSub, Nat.reduceAdd, bm]
  rintro ⟨k, j, rs⟩ ⟨hj, hk, hrs⟩
  simp only at hj hk hrs
  by_cases hn : j + 1 < ds.length
  · have hdt := joined_take ds k (by omega)
    rw [show 2 * (k + 1) = j + 2 by omega, ← hj, ← hrs] at hdt
    have h1 := hd.getD (by decide) j
    have h2 := hd.getD (by decide) (j + 1)
    have hrl : rs.length ≤ ds.length := by rw [hrs, joined_length, List.length_take]; omega
    cases k with
    | zero =>
      have hj0 : j = 0 := by omega
      subst hj0
      have h0 : rs = [] := hrs
      subst h0
      simp only [Nat.zero_add] at h2
      simp only [u, i64, Nat.reduceSub, Nat.reduceAdd, bm]
      repeat (first | ((first | refine Gs ?_ | refine Gr ?_); simp (disch := omega) only [u, i64, ax, eq_self, if_true, if_false, Nat.reduceAdd, Int.reduceToNat, Int.reduceAdd, tvs, bs]; refine aA ?_) | refine G_seq ?_ | refine G_block ?_ | refine G_condT rfl ?_ | refine G_condF rfl ?_ | refine G_skip ?_ | refine G_ret ?_ | refine G_exit ?_ | refine q_tn ?_ | refine q_tr ?_ | refine q_tx ?_ | refine q_bn ?_ | refine q_br ?_ | refine q_bx ?_ | refine q_by (by decide) ?_)
      refine ⟨(1, 2, [ds.getD 0 0 + ds.getD 1 0 * 4294967296]), ?_, ⟨rfl, by simp only; omega, hdt.symm⟩, by simp only; omega⟩
      simp only [u, i64, Nat.reduceSub, Nat.reduceAdd, bm]
    | succ k =>
      simp only [u, i64, Nat.reduceSub, Nat.reduceAdd, bm]
      repeat (first | ((first | refine Gs ?_ | refine Gr ?_); simp (disch := omega) only [u, i64, ax, eq_self, if_true, if_false, Nat.reduceAdd, Int.reduceToNat, Int.reduceAdd, tvs, bs]; refine aA ?_) | refine G_seq ?_ | refine G_block ?_ | refine G_condT rfl ?_ | refine G_condF rfl ?_ | refine G_skip ?_ | refine G_ret ?_ | refine G_exit ?_ | refine q_tn ?_ | refine q_tr ?_ | refine q_tx ?_ | refine q_bn ?_ | refine q_br ?_ | refine q_bx ?_ | refine q_by (by decide) ?_)
      refine ⟨(k + 2, j + 2, rs ++ [ds.getD j 0 + ds.getD (j + 1) 0 * 4294967296]), ?_, ⟨by simp only; omega, by simp only; omega, hdt.symm⟩, by simp only; omega⟩
      simp only [u, i64, Nat.reduceSub, Nat.reduceAdd, bm]
  · have hk0 : j = ds.length := by omega
    rw [hk0, List.take_length] at hrs
    subst hrs
    cases k with
    | zero =>
      have hx0 : ds = [] := List.eq_nil_of_length_eq_zero (by omega)
      subst hx0
      have hj0 : j = 0 := hk0
      subst hj0
      simp only [u, i64, Nat.reduceSub, Nat.reduceAdd, bm]
      repeat (first | ((first | refine Gs ?_ | refine Gr ?_); simp (disch := omega) only [u, i64, ax, eq_self, if_true, if_false, Nat.reduceAdd, Int.reduceToNat, Int.reduceAdd, tvs, bs]; refine aA ?_) | refine G_seq ?_ | refine G_block ?_ | refine G_condT rfl ?_ | refine G_condF rfl ?_ | refine G_skip ?_ | refine G_ret ?_ | refine G_exit ?_ | refine q_tn ?_ | refine q_tr ?_ | refine q_tx ?_ | refine q_bn ?_ | refine q_br ?_ | refine q_bx ?_ | refine q_by (by decide) ?_)
      (refine FinQ hQ (congrArg Array.toList Tryd.results198) _ _ ?_); simp (disch := omega) only [u, i64, ax, if_true, forall_const, reduceCtorEq, implies_true, tvs, bf]
      rfl
    | succ k =>
      simp only [u, i64, Nat.reduceSub, Nat.reduceAdd, bm]
      repeat (first | ((first | refine Gs ?_ | refine Gr ?_); simp (disch := omega) only [u, i64, ax, eq_self, if_true, if_false, Nat.reduceAdd, Int.reduceToNat, Int.reduceAdd, tvs, bs]; refine aA ?_) | refine G_seq ?_ | refine G_block ?_ | refine G_condT rfl ?_ | refine G_condF rfl ?_ | refine G_skip ?_ | refine G_ret ?_ | refine G_exit ?_ | refine q_tn ?_ | refine q_tr ?_ | refine q_tx ?_ | refine q_bn ?_ | refine q_br ?_ | refine q_bx ?_ | refine q_by (by decide) ?_)
      (refine FinQ hQ (congrArg Array.toList Tryd.results198) _ _ ?_); simp (disch := omega) only [u, i64, ax, if_true, forall_const, reduceCtorEq, implies_true, tvs, bf]
set_option maxRecDepth 100000 in
theorem ret_Short (xs : List Nat) (hl : xs.length ≤ 1099511627776) : Ret Tryd.prog GEs 187 [ws xs] (ws (xs.take (top xs))) := by
  refine RetN_start Tryd.func187 (by kernel_rfl) rfl fun Q hQ hQ2 => ?_; rw [Tryd.ntmps187]; simp only [u, i64, Nat.reduceSub, Nat.reduceAdd, bm]
  repeat (first | ((first | refine Gs ?_ | refine Gr ?_); simp (disch := omega) only [u, i64, ax, eq_self, if_true, if_false, Nat.reduceAdd, Int.reduceToNat, Int.reduceAdd, tvs, bs]; refine aA ?_) | refine G_seq ?_ | refine G_block ?_ | refine G_condT rfl ?_ | refine G_condF rfl ?_ | refine G_skip ?_ | refine G_ret ?_ | refine G_exit ?_ | refine q_tn ?_ | refine q_tr ?_ | refine q_tx ?_ | refine q_bn ?_ | refine q_br ?_ | refine q_bx ?_ | refine q_by (by decide) ?_)
  refine AWp_loop (fun n : Nat => mk 21 [(0, ws xs), (3, i64 n)] []) (fun n => top xs ≤ n ∧ n ≤ xs.length) (fun n => n) xs.length ?_ ⟨top_le xs, Nat.le_refl _⟩ fun n hn => ?_
  · simp only [u, i64, Nat.reduceSub, Nat.reduceAdd, bm]
  simp only [u, i64, Nat.reduceSub, Nat.reduceAdd, bm]
  by_cases h : 0 < n
  · by_cases h0 : xs.getD (n - 1) 0 = 0
    · repeat (first | ((first | refine Gs ?_ | refine Gr ?_); simp (disch := omega) only [u, i64, ax, eq_self, if_true, if_false, Nat.reduceAdd, Int.reduceToNat, Int.reduceAdd, tvs, bs]; refine aA ?_) | refine G_seq ?_ | refine G_block ?_ | refine G_condT rfl ?_ | refine G_condF rfl ?_ | refine G_skip ?_ | refine G_ret ?_ | refine G_exit ?_ | refine q_tn ?_ | refine q_tr ?_ | refine q_tx ?_ | refine q_bn ?_ | refine q_br ?_ | refine q_bx ?_ | refine q_by (by decide) ?_)
      refine ⟨n - 1, ?_, ⟨top_zero xs n hn.1 hn.2 h h0, by omega⟩, by omega⟩
      simp only [u, i64, Nat.reduceSub, Nat.reduceAdd, bm]
    · have ht := top_last xs n hn.1 hn.2 h h0
      repeat (first | ((first | refine Gs ?_ | refine Gr ?_); simp (disch := omega) only [u, i64, ax, eq_self, if_true, if_false, Nat.reduceAdd, Int.reduceToNat, Int.reduceAdd, tvs, bs]; refine aA ?_) | refine G_seq ?_ | refine G_block ?_ | refine G_condT rfl ?_ | refine G_condF rfl ?_ | refine G_skip ?_ | refine G_ret ?_ | refine G_exit ?_ | refine q_tn ?_ | refine q_tr ?_ | refine q_tx ?_ | refine q_bn ?_ | refine q_br ?_ | refine q_bx ?_ | refine q_by (by decide) ?_)
      (refine FinQ hQ (congrArg Array.toList Tryd.results187) _ _ ?_); simp (disch := omega) only [u, i64, ax, if_true, forall_const, reduceCtorEq, implies_true, tvs, bf]
      simp [ht, Nat.min_eq_left hn.2]
  · have hn0 : n = 0 := by omega
    have ht : top xs = 0 := by omega
    repeat (first | ((first | refine Gs ?_ | refine Gr ?_); simp (disch := omega) only [u, i64, ax, eq_self, if_true, if_false, Nat.reduceAdd, Int.reduceToNat, Int.reduceAdd, tvs, bs]; refine aA ?_) | refine G_seq ?_ | refine G_block ?_ | refine G_condT rfl ?_ | refine G_condF rfl ?_ | refine G_skip ?_ | refine G_ret ?_ | refine G_exit ?_ | refine q_tn ?_ | refine q_tr ?_ | refine q_tx ?_ | refine q_bn ?_ | refine q_br ?_ | refine q_bx ?_ | refine q_by (by decide) ?_)
    (refine FinQ hQ (congrArg Array.toList Tryd.results187) _ _ ?_); simp (disch := omega) only [u, i64, ax, if_true, forall_const, reduceCtorEq, implies_true, tvs, bf]
    simp [ht, hn0]
theorem eq_of_getD {xs ys : List Nat} (hl : xs.length = ys.length) (h : ∀ i, i < xs.length → xs.getD i 0 = ys.getD i 0) : xs = ys := by
  refine List.ext_getElem hl fun i h1 h2 => ?_
  have := h i h1
  simpa [List.getD_eq_getElem?_getD, List.getElem?_eq_getElem h1, List.getElem?_eq_getElem h2] using this
set_option maxRecDepth 100000 in
theorem ret_digit (xs : List Nat) (i : Nat) (hl : xs.length ≤ 1099511627776) : Ret Tryd.prog GEs 194 [ws xs, i64 i] (u (xs.getD i 0)) := by
  refine RetN_start Tryd.func194 (by kernel_rfl) rfl fun Q hQ hQ2 => ?_; rw [Tryd.ntmps194]; simp only [u, i64, Nat.reduceSub, Nat.reduceAdd, bm]
  by_cases h : i < xs.length
  · repeat (first | ((first | refine Gs ?_ | refine Gr ?_); simp (disch := omega) only [u, i64, ax, eq_self, if_true, if_false, Nat.reduceAdd, Int.reduceToNat, Int.reduceAdd, tvs, bs]; refine aA ?_) | refine G_seq ?_ | refine G_block ?_ | refine G_condT rfl ?_ | refine G_condF rfl ?_ | refine G_skip ?_ | refine G_ret ?_ | refine G_exit ?_ | refine q_tn ?_ | refine q_tr ?_ | refine q_tx ?_ | refine q_bn ?_ | refine q_br ?_ | refine q_bx ?_ | refine q_by (by decide) ?_)
    (refine FinQ hQ (congrArg Array.toList Tryd.results194) _ _ ?_); simp (disch := omega) only [u, i64, ax, if_true, forall_const, reduceCtorEq, implies_true, tvs, bf]
  · repeat (first | ((first | refine Gs ?_ | refine Gr ?_); simp (disch := omega) only [u, i64, ax, eq_self, if_true, if_false, Nat.reduceAdd, Int.reduceToNat, Int.reduceAdd, tvs, bs]; refine aA ?_) | refine G_seq ?_ | refine G_block ?_ | refine G_condT rfl ?_ | refine G_condF rfl ?_ | refine G_skip ?_ | refine G_ret ?_ | refine G_exit ?_ | refine q_tn ?_ | refine q_tr ?_ | refine q_tx ?_ | refine q_bn ?_ | refine q_br ?_ | refine q_bx ?_ | refine q_by (by decide) ?_)
    (refine FinQ hQ (congrArg Array.toList Tryd.results194) _ _ ?_); simp (disch := omega) only [u, i64, ax, if_true, forall_const, reduceCtorEq, implies_true, tvs, bf, getD_over xs i (by omega)]
    rfl
end Go.Proofs
set_option linter.unusedVariables false
set_option linter.unusedSimpArgs false
namespace Go.Proofs
open Go.Ax
theorem pad_snoc (ds : List Nat) (z : Nat) : ds ++ List.replicate (z + 1) 0 = (ds ++ List.replicate z 0) ++ [0] := by
  rw [List.append_assoc, ← List.replicate_succ']
theorem vb_top {K : Nat} : ∀ xs, vb K (xs.take (top xs)) = vb K xs
  | [] => rfl
  | x :: xs => by
    have ih := vb_top (K := K) xs
    simp only [top]
    split
    · rename_i h0
      rw [h0] at ih
      simp only [List.take_zero, vb] at ih
      split
      · rename_i hx; simp [vb, hx, ← ih]
      · simp [vb, ← ih]
    · simp [vb, ih]
theorem vb_top_ge {K : Nat} : ∀ xs, 0 < top xs → K ^ (top xs - 1) ≤ vb K xs
  | [], h => by simp [top] at h
  | x :: xs, h => by
    simp only [top] at h ⊢
    by_cases h0 : top xs = 0
    · simp only [h0, if_true] at h ⊢
      by_cases hx : x = 0
      · simp [hx] at h
      · simp only [hx, if_false, Nat.sub_self, Nat.pow_zero, vb]; omega
    · have ih := vb_top_ge (K := K) xs (by omega)
      simp only [h0, if_false, Nat.add_sub_cancel, vb]
      obtain ⟨t, ht⟩ : ∃ t, top xs = t + 1 := ⟨top xs - 1, by omega⟩
      rw [ht, Nat.add_sub_cancel] at ih
      rw [ht, Nat.pow_succ, Nat.mul_comm]
      have := Nat.mul_le_mul_left K ih
      omega
set_option maxRecDepth 100000 in
set_option maxHeartbeats 1000000 in
theorem ret_Cut (ds : List Nat) (n : Nat) (hd : Ds 4294967296 ds) (hl : ds.length ≤ 1099511627776) (hn : n ≤ 274877906944) :
    Ret Tryd.prog GEs 188 [ws ds, i64 n] (.tup [ws (joined ((pad ds (2 * n + 2)).take (2 * n))), u ((pad ds (2 * n + 2)).getD (2 * n) 0 + (pad ds (2 * n + 2)).getD (2 * n + 1) 0 * 4294967296)]) := by
  refine RetN_start Tryd.func188 (by kernel_rfl) rfl fun Q hQ hQ2 => ?_; rw [Tryd.ntmps188]; simp only [u, i64, Nat.reduceSub, Nat.reduceAdd, bm]
  by_cases h0 : 0 < ds.length
  · obtain ⟨i0, hi0⟩ : ∃ i : Nat × Nat × List Nat, i = (1, 0, ds) := ⟨_, rfl⟩
    have hI0 : i0.2.2 = ds ++ List.replicate i0.2.1 0 ∧ i0.2.2.length ≤ max ds.length (2 * n + 2) ∧ (i0.1 = 0 → i0.2.2 = []) := by rw [hi0]; exact ⟨by simp, by simp only; omega, fun h => by simp at h⟩
    repeat (first | ((first | refine Gs ?_ | refine Gr ?_); simp (disch := omega) only [u, i64, ax, eq_self, if_true, if_false, Nat.reduceAdd, Int.reduceToNat, Int.reduceAdd, tvs, bs]; refine aA ?_) | refine G_seq ?_ | refine G_block ?_ | refine G_condT rfl ?_ | refine G_condF rfl ?_ | refine G_skip ?_ | refine G_ret ?_ | refine G_exit ?_ | refine q_tn ?_ | refine q_tr ?_ | refine q_tx ?_ | refine q_bn ?_ | refine q_br ?_ | refine q_bx ?_ | refine q_by (by decide) ?_)
    refine AWp_loop (fun i : Nat × Nat × List Nat => mk 37 [(0, ws ds), (1, i64 n), (6, gA i.2.2 i.1)] (gR i.2.2 i.1)) (fun i => i.2.2 = ds ++ List.replicate i.2.1 0 ∧ i.2.2.length ≤ max ds.length (2 * n + 2) ∧ (i.1 = 0 → i.2.2 = [])) (fun i => 2 * n + 2 - i.2.2.length) i0 ?_ hI0 ?_
    · subst hi0; dsimp only; simp only [u, i64, Nat.reduceSub, Nat.reduceAdd, bm]
    clear hi0 hI0 i0
    rintro ⟨k, z, all⟩ ⟨hall, hlen, hk⟩
    simp only at hall hlen hk
    by_cases hc : all.length < 2 * n + 2
    · cases k with
      | zero =>
        have h0 := hk rfl
        subst h0
        simp only [u, i64, Nat.reduceSub, Nat.reduceAdd, bm]
        simp only [List.length_nil] at hc
        repeat (first | ((first | refine Gs ?_ | refine Gr ?_); simp (disch := omega) only [u, i64, ax, eq_self, if_true, if_false, Nat.reduceAdd, Int.reduceToNat, Int.reduceAdd, tvs, bs]; refine aA ?_) | refine G_seq ?_ | refine G_block ?_ | refine G_condT rfl ?_ | refine G_condF rfl ?_ | refine G_skip ?_ | refine G_ret ?_ | refine G_exit ?_ | refine q_tn ?_ | refine q_tr ?_ | refine q_tx ?_ | refine q_bn ?_ | refine q_br ?_ | refine q_bx ?_ | refine q_by (by decide) ?_)
        refine ⟨(1, z + 1, [0]), ?_, ⟨by simp only; rw [pad_snoc, ← hall]; rfl, by simp only [List.length_append, List.length_cons, List.length_nil]; omega, fun h => by simp at h⟩, by simp only [List.length_append, List.length_cons, List.length_nil]; omega⟩
        simp only [u, i64, Nat.reduceSub, Nat.reduceAdd, bm]
      | succ k =>
        simp only [u, i64, Nat.reduceSub, Nat.reduceAdd, bm]
        repeat (first | ((first | refine Gs ?_ | refine Gr ?_); simp (disch := omega) only [u, i64, ax, eq_self, if_true, if_false, Nat.reduceAdd, Int.reduceToNat, Int.reduceAdd, tvs, bs]; refine aA ?_) | refine G_seq ?_ | refine G_block ?_ | refine G_condT rfl ?_ | refine G_condF rfl ?_ | refine G_skip ?_ | refine G_ret ?_ | refine G_exit ?_ | refine q_tn ?_ | refine q_tr ?_ | refine q_tx ?_ | refine q_bn ?_ | refine q_br ?_ | refine q_bx ?_ | refine q_by (by decide) ?_)
        refine ⟨(k + 2, z + 1, all ++ [0]), ?_, ⟨by simp only; rw [hall, pad_snoc], by simp only [List.length_append, List.length_cons, List.length_nil]; omega, fun h => by simp at h⟩, by simp only [List.length_append, List.length_cons, List.length_nil]; omega⟩
        simp only [u, i64, Nat.reduceSub, Nat.reduceAdd, bm]
    · have hp : (pad ds (2 * n + 2)).take (2 * n) = all.take (2 * n) ∧ (pad ds (2 * n + 2)).getD (2 * n) 0 = all.getD (2 * n) 0 ∧ (pad ds (2 * n + 2)).getD (2 * n + 1) 0 = all.getD (2 * n + 1) 0 := by
        have e : pad ds (2 * n + 2) = all := by
          unfold pad
          rw [hall]
          congr 2
          rw [hall, List.length_append, List.length_replicate] at hlen hc
          rcases Nat.lt_or_ge (2 * n + 2) ds.length with h | h <;> omega
        rw [e]
        exact ⟨rfl, rfl, rfl⟩
      obtain ⟨hp1, hp2, hp3⟩ := hp
      have hD : Ds 4294967296 all := by rw [hall]; exact hd.append (Ds_zeros (by decide) _)
      have hd1 := hD.getD (by decide) (2 * n)
      have hd2 := hD.getD (by decide) (2 * n + 1)
      cases k with
      | zero =>
        have h0 := hk rfl
        rw [h0] at hc
        simp at hc
      | succ k =>
        simp only [u, i64, Nat.reduceSub, Nat.reduceAdd, bm]
        repeat (first | ((first | refine Gs ?_ | refine Gr ?_); simp (disch := omega) only [u, i64, ax, eq_self, if_true, if_false, Nat.reduceAdd, Int.reduceToNat, Int.reduceAdd, tvs, bs]; refine aA ?_) | refine G_seq ?_ | refine G_block ?_ | refine G_condT rfl ?_ | refine G_condF rfl ?_ | refine G_skip ?_ | refine G_ret ?_ | refine G_exit ?_ | refine q_tn ?_ | refine q_tr ?_ | refine q_tx ?_ | refine q_bn ?_ | refine q_br ?_ | refine q_bx ?_ | refine q_by (by decide) ?_)
        refine G_cool0 ?_
        ((first | refine Gs ?_ | refine Gr ?_); simp (disch := omega) only [u, i64, ax, eq_self, if_true, if_false, Nat.reduceAdd, Int.reduceToNat, Int.reduceAdd, tvs, bs])
        refine callK_ret (ret_Row (all.take (2 * n)) (hD.take _) (by rw [List.length_take]; omega) (by rw [List.length_take]; omega)) (by rw [fzs_cons, fz_own, rget0, fzO_usT _ _ _ _ (by omega), fzs_nil, fzC_some]) ?_
        simp (disch := omega) only [u, i64, ax, eq_self, if_true, if_false, Nat.reduceAdd, Int.reduceToNat, Int.reduceAdd, tvs, bs]
        try refine aft_any ?_
        repeat (first | ((first | refine Gs ?_ | refine Gr ?_); simp (disch := omega) only [u, i64, ax, eq_self, if_true, if_false, Nat.reduceAdd, Int.reduceToNat, Int.reduceAdd, tvs, bs]; refine aA ?_) | refine G_seq ?_ | refine G_block ?_ | refine G_condT rfl ?_ | refine G_condF rfl ?_ | refine G_skip ?_ | refine G_ret ?_ | refine G_exit ?_ | refine q_tn ?_ | refine q_tr ?_ | refine q_tx ?_ | refine q_bn ?_ | refine q_br ?_ | refine q_bx ?_ | refine q_by (by decide) ?_)
        (refine FinQ hQ (congrArg Array.toList Tryd.results188) _ _ ?_); simp (disch := omega) only [u, i64, ax, if_true, forall_const, reduceCtorEq, implies_true, tvs, bf, hp1, hp2, hp3]
  · have hx : ds = [] := List.eq_nil_of_length_eq_zero (by omega)
    obtain ⟨i0, hi0⟩ : ∃ i : Nat × Nat × List Nat, i = (0, 0, []) := ⟨_, rfl⟩
    have hI0 : i0.2.2 = ds ++ List.replicate i0.2.1 0 ∧ i0.2.2.length ≤ max ds.length (2 * n + 2) ∧ (i0.1 = 0 → i0.2.2 = []) := by rw [hi0, hx]; exact ⟨by simp, by simp, fun h => rfl⟩
    repeat (first | ((first | refine Gs ?_ | refine Gr ?_); simp (disch := omega) only [u, i64, ax, eq_self, if_true, if_false, Nat.reduceAdd, Int.reduceToNat, Int.reduceAdd, tvs, bs]; refine aA ?_) | refine G_seq ?_ | refine G_block ?_ | refine G_condT rfl ?_ | refine G_condF rfl ?_ | refine G_skip ?_ | refine G_ret ?_ | refine G_exit ?_ | refine q_tn ?_ | refine q_tr ?_ | refine q_tx ?_ | refine q_bn ?_ | refine q_br ?_ | refine q_bx ?_ | refine q_by (by decide) ?_)
    refine AWp_loop (fun i : Nat × Nat × List Nat => mk 37 [(0, ws ds), (1, i64 n), (6, gA i.2.2 i.1)] (gR i.2.2 i.1)) (fun i => i.2.2 = ds ++ List.replicate i.2.1 0 ∧ i.2.2.length ≤ max ds.length (2 * n + 2) ∧ (i.1 = 0 → i.2.2 = [])) (fun i => 2 * n + 2 - i.2.2.length) i0 ?_ hI0 ?_
    · subst hi0; dsimp only; simp only [u, i64, Nat.reduceSub, Nat.reduceAdd, bm]
    clear hi0 hI0 i0
    rintro ⟨k, z, all⟩ ⟨hall, hlen, hk⟩
    simp only at hall hlen hk
    by_cases hc : all.length < 2 * n + 2
    · cases k with
      | zero =>
        have h0 := hk rfl
        subst h0
        simp only [u, i64, Nat.reduceSub, Nat.reduceAdd, bm]
        simp only [List.length_nil] at hc
        repeat (first | ((first | refine Gs ?_ | refine Gr ?_); simp (disch := omega) only [u, i64, ax, eq_self, if_true, if_false, Nat.reduceAdd, Int.reduceToNat, Int.reduceAdd, tvs, bs]; refine aA ?_) | refine G_seq ?_ | refine G_block ?_ | refine G_condT rfl ?_ | refine G_condF rfl ?_ | refine G_skip ?_ | refine G_ret ?_ | refine G_exit ?_ | refine q_tn ?_ | refine q_tr ?_ | refine q_tx ?_ | refine q_bn ?_ | refine q_br ?_ | refine q_bx ?_ | refine q_by (by decide) ?_)
        refine ⟨(1, z + 1, [0]), ?_, ⟨by simp only; rw [pad_snoc, ← hall]; rfl, by simp only [List.length_append, List.length_cons, List.length_nil]; omega, fun h => by simp at h⟩, by simp only [List.length_append, List.length_cons, List.length_nil]; omega⟩
        simp only [u, i64, Nat.reduceSub, Nat.reduceAdd, bm]
      | succ k =>
        simp only [u, i64, Nat.reduceSub, Nat.reduceAdd, bm]
        repeat (first | ((first | refine Gs ?_ | refine Gr ?_); simp (disch := omega) only [u, i64, ax, eq_self, if_true, if_false, Nat.reduceAdd, Int.reduceToNat, Int.reduceAdd, tvs, bs]; refine aA ?_) | refine G_seq ?_ | refine G_block ?_ | refine G_condT rfl ?_ | refine G_condF rfl ?_ | refine G_skip ?_ | refine G_ret ?_ | refine G_exit ?_ | refine q_tn ?_ | refine q_tr ?_ | refine q_tx ?_ | refine q_bn ?_ | refine q_br ?_ | refine q_bx ?_ | refine q_by (by decide) ?_)
        refine ⟨(k + 2, z + 1, all ++ [0]), ?_, ⟨by simp only; rw [hall, pad_snoc], by simp only [List.length_append, List.length_cons, List.length_nil]; omega, fun h => by simp at h⟩, by simp only [List.length_append, List.length_cons, List.length_nil]; omega⟩
        simp only [u, i64, Nat.reduceSub, Nat.reduceAdd, bm]
    · have hp : (pad ds (2 * n + 2)).take (2 * n) = all.take (2 * n) ∧ (pad ds (2 * n + 2)).getD (2 * n) 0 = all.getD (2 * n) 0 ∧ (pad ds (2 * n + 2)).getD (2 * n + 1) 0 = all.getD (2 * n + 1) 0 := by
        have e : pad ds (2 * n + 2) = all := by
          unfold pad
          rw [hall]
          congr 2
          rw [hall, List.length_append, List.length_replicate] at hlen hc
          rcases Nat.lt_or_ge (2 * n + 2) ds.length with h | h <;> omega
        rw [e]
        exact ⟨rfl, rfl, rfl⟩
      obtain ⟨hp1, hp2, hp3⟩ := hp
      have hD : Ds 4294967296 all := by rw [hall]; exact hd.append (Ds_zeros (by decide) _)
      have hd1 := hD.getD (by decide) (2 * n)
      have hd2 := hD.getD (by decide) (2 * n + 1)
      cases k with
      | zero =>
        have h0 := hk rfl
        rw [h0] at hc
        simp at hc
      | succ k =>
        simp only [u, i64, Nat.reduceSub, Nat.reduceAdd, bm]
        repeat (first | ((first | refine Gs ?_ | refine Gr ?_); simp (disch := omega) only [u, i64, ax, eq_self, if_true, if_false, Nat.reduceAdd, Int.reduceToNat, Int.reduceAdd, tvs, bs]; refine aA ?_) | refine G_seq ?_ | refine G_block ?_ | refine G_condT rfl ?_ | refine G_condF rfl ?_ | refine G_skip ?_ | refine G_ret ?_ | refine G_exit ?_ | refine q_tn ?_ | refine q_tr ?_ | refine q_tx ?_ | refine q_bn ?_ | refine q_br ?_ | refine q_bx ?_ | refine q_by (by decide) ?_)
        refine G_cool0 ?_
        ((first | refine Gs ?_ | refine Gr ?_); simp (disch := omega) only [u, i64, ax, eq_self, if_true, if_false, Nat.reduceAdd, Int.reduceToNat, Int.reduceAdd, tvs, bs])
        refine callK_ret (ret_Row (all.take (2 * n)) (hD.take _) (by rw [List.length_take]; omega) (by rw [List.length_take]; omega)) (by rw [fzs_cons, fz_own, rget0, fzO_usT _ _ _ _ (by omega), fzs_nil, fzC_some]) ?_
        simp (disch := omega) only [u, i64, ax, eq_self, if_true, if_false, Nat.reduceAdd, Int.reduceToNat, Int.reduceAdd, tvs, bs]
        try refine aft_any ?_
        repeat (first | ((first | refine Gs ?_ | refine Gr ?_); simp (disch := omega) only [u, i64, ax, eq_self, if_true, if_false, Nat.reduceAdd, Int.reduceToNat, Int.reduceAdd, tvs, bs]; refine aA ?_) | refine G_seq ?_ | refine G_block ?_ | refine G_condT rfl ?_ | refine G_condF rfl ?_ | refine G_skip ?_ | refine G_ret ?_ | refine G_exit ?_ | refine q_tn ?_ | refine q_tr ?_ | refine q_tx ?_ | refine q_bn ?_ | refine q_br ?_ | refine q_bx ?_ | refine q_by (by decide) ?_)
        (refine FinQ hQ (congrArg Array.toList Tryd.results188) _ _ ?_); simp (disch := omega) only [u, i64, ax, if_true, forall_const, reduceCtorEq, implies_true, tvs, bf, hp1, hp2, hp3]
theorem nat_row (ds : List Nat) (hd : Ds 4294967296 ds) : joined ((pad (ds.take (top ds)) (2 * (((ds.take (top ds)).length + 1) / 2) + 2)).take (2 * (((ds.take (top ds)).length + 1) / 2))) = words (vb 4294967296 ds) := by
  have htl := top_le ds
  have hlt : (ds.take (top ds)).length = top ds := by rw [List.length_take, Nat.min_eq_left htl]
  rw [hlt]
  have hv : vb 4294967296 (ds.take (top ds)) = vb 4294967296 ds := vb_top ds
  rcases Nat.eq_zero_or_pos (top ds) with h0 | h0
  · rw [h0] at hv ⊢
    simp only [List.take_zero, vb] at hv
    rw [← hv, words_zero]
    rfl
  rw [pad_take (by omega) (by omega)]
  have hpl : (pad (ds.take (top ds)) (2 * ((top ds + 1) / 2))).length = 2 * ((top ds + 1) / 2) := pad_length (by omega)
  have hev : val (joined (pad (ds.take (top ds)) (2 * ((top ds + 1) / 2)))) = vb 4294967296 ds := by
    rw [joined_val _ (by omega), pad_vb, hv]
  rw [← hev]
  refine words_of_ge (joined_Wd (pad_Ds (by decide) (hd.take _) _)) ?_
  rw [hev, joined_length, hpl, ← pow_half]
  exact Nat.le_trans (Nat.pow_le_pow_right (by decide) (by omega)) (vb_top_ge ds h0)
set_option maxRecDepth 100000 in
theorem ret_nat (ds : List Nat) (hd : Ds 4294967296 ds) (hl : ds.length ≤ 274877906944) : Ret Tryd.prog GEs 154 [ws ds] (nat (vb 4294967296 ds)) := by
  have htl : (ds.take (top ds)).length ≤ ds.length := by rw [List.length_take]; omega
  refine RetN_start Tryd.func154 (by kernel_rfl) rfl fun Q hQ hQ2 => ?_; rw [Tryd.ntmps154]; simp only [u, i64, Nat.reduceSub, Nat.reduceAdd, bm]
  repeat (first | ((first | refine Gs ?_ | refine Gr ?_); simp (disch := omega) only [u, i64, ax, eq_self, if_true, if_false, Nat.reduceAdd, Int.reduceToNat, Int.reduceAdd, tvs, bs]; first | refine aA ?_ | (refine cR (ret_Short ds (by omega)) ?_; simp (disch := omega) only [u, i64, ax, eq_self, if_true, if_false, Nat.reduceAdd, Int.reduceToNat, Int.reduceAdd, tvs, bs]; try refine aA ?_)) | (refine cR (ret_Short ds (by omega)) ?_; simp (disch := omega) only [u, i64, ax, eq_self, if_true, if_false, Nat.reduceAdd, Int.reduceToNat, Int.reduceAdd, tvs, bs]; try refine aA ?_) | refine G_seq ?_ | refine G_block ?_ | refine G_condT rfl ?_ | refine G_condF rfl ?_ | refine G_skip ?_ | refine G_ret ?_ | refine G_exit ?_ | refine q_tn ?_ | refine q_tr ?_ | refine q_tx ?_ | refine q_bn ?_ | refine q_br ?_ | refine q_bx ?_ | refine q_by (by decide) ?_)
  ((first | refine Gs ?_ | refine Gr ?_); simp (disch := omega) only [u, i64, ax, eq_self, if_true, if_false, Nat.reduceAdd, Int.reduceToNat, Int.reduceAdd, tvs, bs])
  (refine cR (ret_Cut (ds.take (top ds)) (((ds.take (top ds)).length + 1) / 2) (hd.take _) (by omega) (by omega)) ?_; simp (disch := omega) only [u, i64, ax, eq_self, if_true, if_false, Nat.reduceAdd, Int.reduceToNat, Int.reduceAdd, tvs, bs]; try refine aA ?_)
  rw [nat_row ds hd]
  repeat (first | ((first | refine Gs ?_ | refine Gr ?_); simp (disch := omega) only [u, i64, ax, eq_self, if_true, if_false, Nat.reduceAdd, Int.reduceToNat, Int.reduceAdd, tvs, bs]; refine aA ?_) | refine G_seq ?_ | refine G_block ?_ | refine G_condT rfl ?_ | refine G_condF rfl ?_ | refine G_skip ?_ | refine G_ret ?_ | refine G_exit ?_ | refine q_tn ?_ | refine q_tr ?_ | refine q_tx ?_ | refine q_bn ?_ | refine q_br ?_ | refine q_bx ?_ | refine q_by (by decide) ?_)
  (refine FinQ hQ (congrArg Array.toList Tryd.results154) _ _ ?_); simp (disch := omega) only [u, i64, ax, if_true, forall_const, reduceCtorEq, implies_true, tvs, bf]
end Go.Proofs
