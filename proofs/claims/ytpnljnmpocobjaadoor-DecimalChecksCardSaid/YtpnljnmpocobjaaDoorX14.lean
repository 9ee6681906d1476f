/-
  Contracts of functions of the program, each proved by a walk.
-/
import Derived.Test.YtpnljnmpocobjaaDoorX13
import Derived.Test.YtpnljnmpocobjaaDoorX8
import Derived.Test.YtpnljnmpocobjaaDoorX7
import Derived.Test.YtpnljnmpocobjaaDoorX10
import Derived.Test.YtpnljnmpocobjaaDoorX6
set_option maxRecDepth 100000
set_option linter.unusedVariables false
set_option linter.unusedSimpArgs false
namespace Go.Proofs
open Go.Ax
set_option maxRecDepth 100000 in
set_option maxHeartbeats 2000000 in
theorem ret_dadd (p : Nat) (g : Int) (r : Nat) (x y : DV) (hp : 1 ≤ p ∧ p ≤ 400) (hg : 1 ≤ g ∧ g ≤ 6000) (hr : r ≤ 4) (hx : x.kind ≤ 2) (hy : y.kind ≤ 2) (lx : (words x.coef).length ≤ 90) (ly : (words y.coef).length ≤ 90) (ex : -13000 ≤ x.exp ∧ x.exp ≤ 13000) (ey : -13000 ≤ y.exp ∧ y.exp ≤ 13000) :
    Ret Tryd.prog GEs 101 [cx p g r, dv x, dv y] (.tup [dv (addD p g r x y).1, i64 (addD p g r x y).2]) := by
  obtain ⟨k1, n1, c1, e1⟩ := x
  obtain ⟨k2, n2, c2, e2⟩ := y
  simp only at *
  unfold addD nanD
  simp only
  by_cases a1 : k1 = 2
  · rw [if_pos (Or.inl a1)]
    unfold dv cx
    simp only
    refine RetN_start Tryd.func101 (by kernel_rfl) rfl fun Q hQ hQ2 => ?_; rw [Tryd.ntmps101]; simp only [u, i64, Nat.reduceSub, Nat.reduceAdd, bm]
    repeat (first | ((first | refine Gs ?_ | refine Gr ?_); simp (disch := omega) only [u, i64, ax, eq_self, if_true, if_false, Nat.reduceAdd, Int.reduceToNat, Int.reduceAdd, tvs, bs]; refine aA ?_) | refine G_seq ?_ | refine G_block ?_ | refine G_condT rfl ?_ | refine G_condF rfl ?_ | refine G_skip ?_ | refine G_ret ?_ | refine G_exit ?_ | refine q_tn ?_ | refine q_tr ?_ | refine q_tx ?_ | refine q_bn ?_ | refine q_br ?_ | refine q_bx ?_ | refine q_by (by decide) ?_)
    (refine FinQ hQ (congrArg Array.toList Tryd.results101) _ _ ?_); simp (disch := omega) only [u, i64, ax, if_true, forall_const, reduceCtorEq, implies_true, tvs, bf]
    all_goals rfl
  by_cases a2 : k2 = 2
  · rw [if_pos (Or.inr a2)]
    unfold dv cx
    simp only
    refine RetN_start Tryd.func101 (by kernel_rfl) rfl fun Q hQ hQ2 => ?_; rw [Tryd.ntmps101]; simp only [u, i64, Nat.reduceSub, Nat.reduceAdd, bm]
    repeat (first | ((first | refine Gs ?_ | refine Gr ?_); simp (disch := omega) only [u, i64, ax, eq_self, if_true, if_false, Nat.reduceAdd, Int.reduceToNat, Int.reduceAdd, tvs, bs]; refine aA ?_) | refine G_seq ?_ | refine G_block ?_ | refine G_condT rfl ?_ | refine G_condF rfl ?_ | refine G_skip ?_ | refine G_ret ?_ | refine G_exit ?_ | refine q_tn ?_ | refine q_tr ?_ | refine q_tx ?_ | refine q_bn ?_ | refine q_br ?_ | refine q_bx ?_ | refine q_by (by decide) ?_)
    (refine FinQ hQ (congrArg Array.toList Tryd.results101) _ _ ?_); simp (disch := omega) only [u, i64, ax, if_true, forall_const, reduceCtorEq, implies_true, tvs, bf]
    all_goals rfl
  rw [if_neg (fun h => by omega)]
  by_cases a3 : k1 = 1
  · by_cases a4 : k2 = 1
    · by_cases a5 : n1 = n2
      · have hb : (n1 != n2) = false := by subst a5; cases n1 <;> rfl
        rw [if_neg (fun h => h.2.2 a5), if_pos a3]
        unfold dv cx
        simp only
        cases n1 <;> cases n2 <;> first | (cases a5; done) | skip
        · skip
          refine RetN_start Tryd.func101 (by kernel_rfl) rfl fun Q hQ hQ2 => ?_; rw [Tryd.ntmps101]; simp only [u, i64, Nat.reduceSub, Nat.reduceAdd, bm]
          repeat (first | ((first | refine Gs ?_ | refine Gr ?_); simp (disch := omega) only [u, i64, ax, eq_self, if_true, if_false, Nat.reduceAdd, Int.reduceToNat, Int.reduceAdd, tvs, bs]; refine aA ?_) | refine G_seq ?_ | refine G_block ?_ | refine G_condT rfl ?_ | refine G_condF rfl ?_ | refine G_skip ?_ | refine G_ret ?_ | refine G_exit ?_ | refine q_tn ?_ | refine q_tr ?_ | refine q_tx ?_ | refine q_bn ?_ | refine q_br ?_ | refine q_bx ?_ | refine q_by (by decide) ?_)
          (refine FinQ hQ (congrArg Array.toList Tryd.results101) _ _ ?_); simp (disch := omega) only [u, i64, ax, if_true, forall_const, reduceCtorEq, implies_true, tvs, bf]
          all_goals rfl
        · skip
          refine RetN_start Tryd.func101 (by kernel_rfl) rfl fun Q hQ hQ2 => ?_; rw [Tryd.ntmps101]; simp only [u, i64, Nat.reduceSub, Nat.reduceAdd, bm]
          repeat (first | ((first | refine Gs ?_ | refine Gr ?_); simp (disch := omega) only [u, i64, ax, eq_self, if_true, if_false, Nat.reduceAdd, Int.reduceToNat, Int.reduceAdd, tvs, bs]; refine aA ?_) | refine G_seq ?_ | refine G_block ?_ | refine G_condT rfl ?_ | refine G_condF rfl ?_ | refine G_skip ?_ | refine G_ret ?_ | refine G_exit ?_ | refine q_tn ?_ | refine q_tr ?_ | refine q_tx ?_ | refine q_bn ?_ | refine q_br ?_ | refine q_bx ?_ | refine q_by (by decide) ?_)
          (refine FinQ hQ (congrArg Array.toList Tryd.results101) _ _ ?_); simp (disch := omega) only [u, i64, ax, if_true, forall_const, reduceCtorEq, implies_true, tvs, bf]
          all_goals rfl
      · rw [if_pos ⟨a3, a4, a5⟩]
        unfold dv cx
        simp only
        cases n1 <;> cases n2
        · exact absurd rfl a5
        · skip
          refine RetN_start Tryd.func101 (by kernel_rfl) rfl fun Q hQ hQ2 => ?_; rw [Tryd.ntmps101]; simp only [u, i64, Nat.reduceSub, Nat.reduceAdd, bm]
          repeat (first | ((first | refine Gs ?_ | refine Gr ?_); simp (disch := omega) only [u, i64, ax, eq_self, if_true, if_false, Nat.reduceAdd, Int.reduceToNat, Int.reduceAdd, tvs, bs]; refine aA ?_) | refine G_seq ?_ | refine G_block ?_ | refine G_condT rfl ?_ | refine G_condF rfl ?_ | refine G_skip ?_ | refine G_ret ?_ | refine G_exit ?_ | refine q_tn ?_ | refine q_tr ?_ | refine q_tx ?_ | refine q_bn ?_ | refine q_br ?_ | refine q_bx ?_ | refine q_by (by decide) ?_)
          (refine FinQ hQ (congrArg Array.toList Tryd.results101) _ _ ?_); simp (disch := omega) only [u, i64, ax, if_true, forall_const, reduceCtorEq, implies_true, tvs, bf]
          all_goals rfl
        · skip
          refine RetN_start Tryd.func101 (by kernel_rfl) rfl fun Q hQ hQ2 => ?_; rw [Tryd.ntmps101]; simp only [u, i64, Nat.reduceSub, Nat.reduceAdd, bm]
          repeat (first | ((first | refine Gs ?_ | refine Gr ?_); simp (disch := omega) only [u, i64, ax, eq_self, if_true, if_false, Nat.reduceAdd, Int.reduceToNat, Int.reduceAdd, tvs, bs]; refine aA ?_) | refine G_seq ?_ | refine G_block ?_ | refine G_condT rfl ?_ | refine G_condF rfl ?_ | refine G_skip ?_ | refine G_ret ?_ | refine G_exit ?_ | refine q_tn ?_ | refine q_tr ?_ | refine q_tx ?_ | refine q_bn ?_ | refine q_br ?_ | refine q_bx ?_ | refine q_by (by decide) ?_)
          (refine FinQ hQ (congrArg Array.toList Tryd.results101) _ _ ?_); simp (disch := omega) only [u, i64, ax, if_true, forall_const, reduceCtorEq, implies_true, tvs, bf]
          all_goals rfl
        · exact absurd rfl a5
    · rw [if_neg (fun h => a4 h.2.1), if_pos a3]
      unfold dv cx
      simp only
      refine RetN_start Tryd.func101 (by kernel_rfl) rfl fun Q hQ hQ2 => ?_; rw [Tryd.ntmps101]; simp only [u, i64, Nat.reduceSub, Nat.reduceAdd, bm]
      repeat (first | ((first | refine Gs ?_ | refine Gr ?_); simp (disch := omega) only [u, i64, ax, eq_self, if_true, if_false, Nat.reduceAdd, Int.reduceToNat, Int.reduceAdd, tvs, bs]; refine aA ?_) | refine G_seq ?_ | refine G_block ?_ | refine G_condT rfl ?_ | refine G_condF rfl ?_ | refine G_skip ?_ | refine G_ret ?_ | refine G_exit ?_ | refine q_tn ?_ | refine q_tr ?_ | refine q_tx ?_ | refine q_bn ?_ | refine q_br ?_ | refine q_bx ?_ | refine q_by (by decide) ?_)
      (refine FinQ hQ (congrArg Array.toList Tryd.results101) _ _ ?_); simp (disch := omega) only [u, i64, ax, if_true, forall_const, reduceCtorEq, implies_true, tvs, bf]
      all_goals rfl
  · rw [if_neg (fun h => a3 h.1), if_neg a3]
    by_cases a4 : k2 = 1
    · rw [if_pos a4]
      unfold dv cx
      simp only
      refine RetN_start Tryd.func101 (by kernel_rfl) rfl fun Q hQ hQ2 => ?_; rw [Tryd.ntmps101]; simp only [u, i64, Nat.reduceSub, Nat.reduceAdd, bm]
      repeat (first | ((first | refine Gs ?_ | refine Gr ?_); simp (disch := omega) only [u, i64, ax, eq_self, if_true, if_false, Nat.reduceAdd, Int.reduceToNat, Int.reduceAdd, tvs, bs]; refine aA ?_) | refine G_seq ?_ | refine G_block ?_ | refine G_condT rfl ?_ | refine G_condF rfl ?_ | refine G_skip ?_ | refine G_ret ?_ | refine G_exit ?_ | refine q_tn ?_ | refine q_tr ?_ | refine q_tx ?_ | refine q_bn ?_ | refine q_br ?_ | refine q_bx ?_ | refine q_by (by decide) ?_)
      (refine FinQ hQ (congrArg Array.toList Tryd.results101) _ _ ?_); simp (disch := omega) only [u, i64, ax, if_true, forall_const, reduceCtorEq, implies_true, tvs, bf]
      all_goals rfl
    · rw [if_neg a4]
      have hbx := bl_len c1
      have hby := bl_len c2
      have hTx := ret_Ten (e1 - min e1 e2).toNat (by omega)
      have hTy := ret_Ten (e2 - min e1 e2).toNat (by omega)
      have tl : ∀ k : Nat, k ≤ 26000 → (words (10 ^ k)).length ≤ 1626 := fun k hk => le_pow_words (ten_le k) (by omega)
      have tx := tl (e1 - min e1 e2).toNat (by omega)
      have ty := tl (e2 - min e1 e2).toNat (by omega)
      have hcx : e1 - min e1 e2 = (((e1 - min e1 e2).toNat : Nat) : Int) := by omega
      have hcy : e2 - min e1 e2 = (((e2 - min e1 e2).toNat : Nat) : Int) := by omega
      have hMx := ret_Mul (words c1) (words (10 ^ (e1 - min e1 e2).toNat)) (Wd_words _) (Wd_words _) (by omega) (by omega)
      have hMy := ret_Mul (words c2) (words (10 ^ (e2 - min e1 e2).toNat)) (Wd_words _) (Wd_words _) (by omega) (by omega)
      rw [val_words, val_words] at hMx hMy
      have mx := length_mul c1 (10 ^ (e1 - min e1 e2).toNat)
      have my := length_mul c2 (10 ^ (e2 - min e1 e2).toNat)
      generalize c1 * 10 ^ (e1 - min e1 e2).toNat = A at *
      generalize c2 * 10 ^ (e2 - min e1 e2).toNat = B at *
      have hC := ret_Cmp (words A) (words B) (Wd_words _) (Wd_words _) (by omega) (by omega)
      rw [val_words, val_words] at hC
      have hs := cmpI_sign A B
      have sl : (words (sumM n1 A n2 B)).length ≤ 2000 := by
        have h1 := length_add A B
        have h2 : sumM n1 A n2 B ≤ A + B := by unfold sumM; split <;> (try split) <;> omega
        have := length_mono h2
        omega
      have hF := fun ng => ret_dFinish p g r ng (sumM n1 A n2 B) (min e1 e2) (min e1 e2) hp hg hr sl (by omega) (by omega)
      generalize hE : min e1 e2 = E at *
      generalize (e1 - E).toNat = t1 at *
      generalize (e2 - E).toNat = t2 at *
      generalize 10 ^ t1 = T1 at *
      generalize 10 ^ t2 = T2 at *
      by_cases a5 : n1 = n2
      · subst a5
        have e1' : sumN r n1 A n1 B = n1 := by unfold sumN; rw [if_pos rfl]
        have e2' : sumM n1 A n1 B = A + B := by unfold sumM; rw [if_pos rfl]
        rw [e1']
        rw [e2'] at hF ⊢
        have hF := hF n1
        have hA := ret_Add (words A) (words B) (Wd_words _) (Wd_words _) (by omega) (by omega)
        rw [val_words, val_words] at hA
        generalize cmpI A B = cc at *
        generalize finD0 p g r n1 (A + B) E E = z at *
        generalize A + B = S at *
        clear sl hs
        unfold dv cx at *
        simp only at *
        cases n1
        · skip
          refine RetN_start Tryd.func101 (by kernel_rfl) rfl fun Q hQ hQ2 => ?_; rw [Tryd.ntmps101]; simp only [u, i64, Nat.reduceSub, Nat.reduceAdd, bm]
          repeat (first | ((first | refine Gs ?_ | refine Gr ?_); simp (disch := omega) only [u, i64, ax, eq_self, if_true, if_false, Nat.reduceAdd, Int.reduceToNat, Int.reduceAdd, tvs, bs]; refine aA ?_) | refine G_seq ?_ | refine G_block ?_ | refine G_condT rfl ?_ | refine G_condF rfl ?_ | refine G_skip ?_ | refine G_ret ?_ | refine G_exit ?_ | refine q_tn ?_ | refine q_tr ?_ | refine q_tx ?_ | refine q_bn ?_ | refine q_br ?_ | refine q_bx ?_ | refine q_by (by decide) ?_)
          ((first | refine Gs ?_ | refine Gr ?_); simp (disch := omega) only [u, i64, ax, eq_self, if_true, if_false, Nat.reduceAdd, Int.reduceToNat, Int.reduceAdd, tvs, bs])
          rw [hE, hcx]
          repeat (first | ((first | refine Gs ?_ | refine Gr ?_); simp (disch := omega) only [u, i64, ax, eq_self, if_true, if_false, Nat.reduceAdd, Int.reduceToNat, Int.reduceAdd, tvs, bs]; first | refine aA ?_ | ((first | refine cR hTx ?_ | refine cR hMx ?_); simp (disch := omega) only [u, i64, ax, eq_self, if_true, if_false, Nat.reduceAdd, Int.reduceToNat, Int.reduceAdd, tvs, bs]; try refine aA ?_)) | ((first | refine cR hTx ?_ | refine cR hMx ?_); simp (disch := omega) only [u, i64, ax, eq_self, if_true, if_false, Nat.reduceAdd, Int.reduceToNat, Int.reduceAdd, tvs, bs]; try refine aA ?_) | refine G_seq ?_ | refine G_block ?_ | refine G_condT rfl ?_ | refine G_condF rfl ?_ | refine G_skip ?_ | refine G_ret ?_ | refine G_exit ?_ | refine q_tn ?_ | refine q_tr ?_ | refine q_tx ?_ | refine q_bn ?_ | refine q_br ?_ | refine q_bx ?_ | refine q_by (by decide) ?_)
          ((first | refine Gs ?_ | refine Gr ?_); simp (disch := omega) only [u, i64, ax, eq_self, if_true, if_false, Nat.reduceAdd, Int.reduceToNat, Int.reduceAdd, tvs, bs])
          rw [hcy]
          repeat (first | ((first | refine Gs ?_ | refine Gr ?_); simp (disch := omega) only [u, i64, ax, eq_self, if_true, if_false, Nat.reduceAdd, Int.reduceToNat, Int.reduceAdd, tvs, bs]; first | refine aA ?_ | ((first | refine cR hTy ?_ | refine cR hMy ?_ | refine cR hC ?_ | refine cR hA ?_ | refine cR hF ?_); simp (disch := omega) only [u, i64, ax, eq_self, if_true, if_false, Nat.reduceAdd, Int.reduceToNat, Int.reduceAdd, tvs, bs]; try refine aA ?_)) | ((first | refine cR hTy ?_ | refine cR hMy ?_ | refine cR hC ?_ | refine cR hA ?_ | refine cR hF ?_); simp (disch := omega) only [u, i64, ax, eq_self, if_true, if_false, Nat.reduceAdd, Int.reduceToNat, Int.reduceAdd, tvs, bs]; try refine aA ?_) | refine G_seq ?_ | refine G_block ?_ | refine G_condT rfl ?_ | refine G_condF rfl ?_ | refine G_skip ?_ | refine G_ret ?_ | refine G_exit ?_ | refine q_tn ?_ | refine q_tr ?_ | refine q_tx ?_ | refine q_bn ?_ | refine q_br ?_ | refine q_bx ?_ | refine q_by (by decide) ?_)
          (refine FinQ hQ (congrArg Array.toList Tryd.results101) _ _ ?_); simp (disch := omega) only [u, i64, ax, if_true, forall_const, reduceCtorEq, implies_true, tvs, bf]
          all_goals rfl
        · skip
          refine RetN_start Tryd.func101 (by kernel_rfl) rfl fun Q hQ hQ2 => ?_; rw [Tryd.ntmps101]; simp only [u, i64, Nat.reduceSub, Nat.reduceAdd, bm]
          repeat (first | ((first | refine Gs ?_ | refine Gr ?_); simp (disch := omega) only [u, i64, ax, eq_self, if_true, if_false, Nat.reduceAdd, Int.reduceToNat, Int.reduceAdd, tvs, bs]; refine aA ?_) | refine G_seq ?_ | refine G_block ?_ | refine G_condT rfl ?_ | refine G_condF rfl ?_ | refine G_skip ?_ | refine G_ret ?_ | refine G_exit ?_ | refine q_tn ?_ | refine q_tr ?_ | refine q_tx ?_ | refine q_bn ?_ | refine q_br ?_ | refine q_bx ?_ | refine q_by (by decide) ?_)
          ((first | refine Gs ?_ | refine Gr ?_); simp (disch := omega) only [u, i64, ax, eq_self, if_true, if_false, Nat.reduceAdd, Int.reduceToNat, Int.reduceAdd, tvs, bs])
          rw [hE, hcx]
          repeat (first | ((first | refine Gs ?_ | refine Gr ?_); simp (disch := omega) only [u, i64, ax, eq_self, if_true, if_false, Nat.reduceAdd, Int.reduceToNat, Int.reduceAdd, tvs, bs]; first | refine aA ?_ | ((first | refine cR hTx ?_ | refine cR hMx ?_); simp (disch := omega) only [u, i64, ax, eq_self, if_true, if_false, Nat.reduceAdd, Int.reduceToNat, Int.reduceAdd, tvs, bs]; try refine aA ?_)) | ((first | refine cR hTx ?_ | refine cR hMx ?_); simp (disch := omega) only [u, i64, ax, eq_self, if_true, if_false, Nat.reduceAdd, Int.reduceToNat, Int.reduceAdd, tvs, bs]; try refine aA ?_) | refine G_seq ?_ | refine G_block ?_ | refine G_condT rfl ?_ | refine G_condF rfl ?_ | refine G_skip ?_ | refine G_ret ?_ | refine G_exit ?_ | refine q_tn ?_ | refine q_tr ?_ | refine q_tx ?_ | refine q_bn ?_ | refine q_br ?_ | refine q_bx ?_ | refine q_by (by decide) ?_)
          ((first | refine Gs ?_ | refine Gr ?_); simp (disch := omega) only [u, i64, ax, eq_self, if_true, if_false, Nat.reduceAdd, Int.reduceToNat, Int.reduceAdd, tvs, bs])
          rw [hcy]
          repeat (first | ((first | refine Gs ?_ | refine Gr ?_); simp (disch := omega) only [u, i64, ax, eq_self, if_true, if_false, Nat.reduceAdd, Int.reduceToNat, Int.reduceAdd, tvs, bs]; first | refine aA ?_ | ((first | refine cR hTy ?_ | refine cR hMy ?_ | refine cR hC ?_ | refine cR hA ?_ | refine cR hF ?_); simp (disch := omega) only [u, i64, ax, eq_self, if_true, if_false, Nat.reduceAdd, Int.reduceToNat, Int.reduceAdd, tvs, bs]; try refine aA ?_)) | ((first | refine cR hTy ?_ | refine cR hMy ?_ | refine cR hC ?_ | refine cR hA ?_ | refine cR hF ?_); simp (disch := omega) only [u, i64, ax, eq_self, if_true, if_false, Nat.reduceAdd, Int.reduceToNat, Int.reduceAdd, tvs, bs]; try refine aA ?_) | refine G_seq ?_ | refine G_block ?_ | refine G_condT rfl ?_ | refine G_condF rfl ?_ | refine G_skip ?_ | refine G_ret ?_ | refine G_exit ?_ | refine q_tn ?_ | refine q_tr ?_ | refine q_tx ?_ | refine q_bn ?_ | refine q_br ?_ | refine q_bx ?_ | refine q_by (by decide) ?_)
          (refine FinQ hQ (congrArg Array.toList Tryd.results101) _ _ ?_); simp (disch := omega) only [u, i64, ax, if_true, forall_const, reduceCtorEq, implies_true, tvs, bf]
          all_goals rfl
      · have hb : (n1 == n2) = false := by cases n1 <;> cases n2 <;> simp_all
        unfold sumN sumM at *
        rw [if_neg a5] at hF sl
        rw [if_neg a5, if_neg a5]
        rcases Nat.lt_trichotomy A B with hlt | heq | hgt
        · have h1 : ¬ B < A := by omega
          have hcc : cmpI A B < 0 := hs.2.1.2 hlt
          rw [if_neg h1] at hF sl
          rw [if_neg h1, if_neg h1, if_pos hlt]
          have hF := hF n2
          have hA := ret_Sub (words B) (words A) (Wd_words _) (Wd_words _) (by omega) (by omega) (by rw [val_words, val_words]; omega)
          rw [val_words, val_words] at hA
          generalize cmpI A B = cc at *
          generalize finD0 p g r n2 (B - A) E E = z at *
          generalize B - A = S at *
          clear sl hs
          unfold dv cx at *
          simp only at *
          cases n1 <;> cases n2
          · exact absurd rfl a5
          · skip
            refine RetN_start Tryd.func101 (by kernel_rfl) rfl fun Q hQ hQ2 => ?_; rw [Tryd.ntmps101]; simp only [u, i64, Nat.reduceSub, Nat.reduceAdd, bm]
            repeat (first | ((first | refine Gs ?_ | refine Gr ?_); simp (disch := omega) only [u, i64, ax, eq_self, if_true, if_false, Nat.reduceAdd, Int.reduceToNat, Int.reduceAdd, tvs, bs]; refine aA ?_) | refine G_seq ?_ | refine G_block ?_ | refine G_condT rfl ?_ | refine G_condF rfl ?_ | refine G_skip ?_ | refine G_ret ?_ | refine G_exit ?_ | refine q_tn ?_ | refine q_tr ?_ | refine q_tx ?_ | refine q_bn ?_ | refine q_br ?_ | refine q_bx ?_ | refine q_by (by decide) ?_)
            ((first | refine Gs ?_ | refine Gr ?_); simp (disch := omega) only [u, i64, ax, eq_self, if_true, if_false, Nat.reduceAdd, Int.reduceToNat, Int.reduceAdd, tvs, bs])
            rw [hE, hcx]
            repeat (first | ((first | refine Gs ?_ | refine Gr ?_); simp (disch := omega) only [u, i64, ax, eq_self, if_true, if_false, Nat.reduceAdd, Int.reduceToNat, Int.reduceAdd, tvs, bs]; first | refine aA ?_ | ((first | refine cR hTx ?_ | refine cR hMx ?_); simp (disch := omega) only [u, i64, ax, eq_self, if_true, if_false, Nat.reduceAdd, Int.reduceToNat, Int.reduceAdd, tvs, bs]; try refine aA ?_)) | ((first | refine cR hTx ?_ | refine cR hMx ?_); simp (disch := omega) only [u, i64, ax, eq_self, if_true, if_false, Nat.reduceAdd, Int.reduceToNat, Int.reduceAdd, tvs, bs]; try refine aA ?_) | refine G_seq ?_ | refine G_block ?_ | refine G_condT rfl ?_ | refine G_condF rfl ?_ | refine G_skip ?_ | refine G_ret ?_ | refine G_exit ?_ | refine q_tn ?_ | refine q_tr ?_ | refine q_tx ?_ | refine q_bn ?_ | refine q_br ?_ | refine q_bx ?_ | refine q_by (by decide) ?_)
            ((first | refine Gs ?_ | refine Gr ?_); simp (disch := omega) only [u, i64, ax, eq_self, if_true, if_false, Nat.reduceAdd, Int.reduceToNat, Int.reduceAdd, tvs, bs])
            rw [hcy]
            repeat (first | ((first | refine Gs ?_ | refine Gr ?_); simp (disch := omega) only [u, i64, ax, eq_self, if_true, if_false, Nat.reduceAdd, Int.reduceToNat, Int.reduceAdd, tvs, bs]; first | refine aA ?_ | ((first | refine cR hTy ?_ | refine cR hMy ?_ | refine cR hC ?_ | refine cR hA ?_ | refine cR hF ?_); simp (disch := omega) only [u, i64, ax, eq_self, if_true, if_false, Nat.reduceAdd, Int.reduceToNat, Int.reduceAdd, tvs, bs]; try refine aA ?_)) | ((first | refine cR hTy ?_ | refine cR hMy ?_ | refine cR hC ?_ | refine cR hA ?_ | refine cR hF ?_); simp (disch := omega) only [u, i64, ax, eq_self, if_true, if_false, Nat.reduceAdd, Int.reduceToNat, Int.reduceAdd, tvs, bs]; try refine aA ?_) | refine G_seq ?_ | refine G_block ?_ | refine G_condT rfl ?_ | refine G_condF rfl ?_ | refine G_skip ?_ | refine G_ret ?_ | refine G_exit ?_ | refine q_tn ?_ | refine q_tr ?_ | refine q_tx ?_ | refine q_bn ?_ | refine q_br ?_ | refine q_bx ?_ | refine q_by (by decide) ?_)
            (refine FinQ hQ (congrArg Array.toList Tryd.results101) _ _ ?_); simp (disch := omega) only [u, i64, ax, if_true, forall_const, reduceCtorEq, implies_true, tvs, bf]
            all_goals rfl
          · skip
            refine RetN_start Tryd.func101 (by kernel_rfl) rfl fun Q hQ hQ2 => ?_; rw [Tryd.ntmps101]; simp only [u, i64, Nat.reduceSub, Nat.reduceAdd, bm]
            repeat (first | ((first | refine Gs ?_ | refine Gr ?_); simp (disch := omega) only [u, i64, ax, eq_self, if_true, if_false, Nat.reduceAdd, Int.reduceToNat, Int.reduceAdd, tvs, bs]; refine aA ?_) | refine G_seq ?_ | refine G_block ?_ | refine G_condT rfl ?_ | refine G_condF rfl ?_ | refine G_skip ?_ | refine G_ret ?_ | refine G_exit ?_ | refine q_tn ?_ | refine q_tr ?_ | refine q_tx ?_ | refine q_bn ?_ | refine q_br ?_ | refine q_bx ?_ | refine q_by (by decide) ?_)
            ((first | refine Gs ?_ | refine Gr ?_); simp (disch := omega) only [u, i64, ax, eq_self, if_true, if_false, Nat.reduceAdd, Int.reduceToNat, Int.reduceAdd, tvs, bs])
            rw [hE, hcx]
            repeat (first | ((first | refine Gs ?_ | refine Gr ?_); simp (disch := omega) only [u, i64, ax, eq_self, if_true, if_false, Nat.reduceAdd, Int.reduceToNat, Int.reduceAdd, tvs, bs]; first | refine aA ?_ | ((first | refine cR hTx ?_ | refine cR hMx ?_); simp (disch := omega) only [u, i64, ax, eq_self, if_true, if_false, Nat.reduceAdd, Int.reduceToNat, Int.reduceAdd, tvs, bs]; try refine aA ?_)) | ((first | refine cR hTx ?_ | refine cR hMx ?_); simp (disch := omega) only [u, i64, ax, eq_self, if_true, if_false, Nat.reduceAdd, Int.reduceToNat, Int.reduceAdd, tvs, bs]; try refine aA ?_) | refine G_seq ?_ | refine G_block ?_ | refine G_condT rfl ?_ | refine G_condF rfl ?_ | refine G_skip ?_ | refine G_ret ?_ | refine G_exit ?_ | refine q_tn ?_ | refine q_tr ?_ | refine q_tx ?_ | refine q_bn ?_ | refine q_br ?_ | refine q_bx ?_ | refine q_by (by decide) ?_)
            ((first | refine Gs ?_ | refine Gr ?_); simp (disch := omega) only [u, i64, ax, eq_self, if_true, if_false, Nat.reduceAdd, Int.reduceToNat, Int.reduceAdd, tvs, bs])
            rw [hcy]
            repeat (first | ((first | refine Gs ?_ | refine Gr ?_); simp (disch := omega) only [u, i64, ax, eq_self, if_true, if_false, Nat.reduceAdd, Int.reduceToNat, Int.reduceAdd, tvs, bs]; first | refine aA ?_ | ((first | refine cR hTy ?_ | refine cR hMy ?_ | refine cR hC ?_ | refine cR hA ?_ | refine cR hF ?_); simp (disch := omega) only [u, i64, ax, eq_self, if_true, if_false, Nat.reduceAdd, Int.reduceToNat, Int.reduceAdd, tvs, bs]; try refine aA ?_)) | ((first | refine cR hTy ?_ | refine cR hMy ?_ | refine cR hC ?_ | refine cR hA ?_ | refine cR hF ?_); simp (disch := omega) only [u, i64, ax, eq_self, if_true, if_false, Nat.reduceAdd, Int.reduceToNat, Int.reduceAdd, tvs, bs]; try refine aA ?_) | refine G_seq ?_ | refine G_block ?_ | refine G_condT rfl ?_ | refine G_condF rfl ?_ | refine G_skip ?_ | refine G_ret ?_ | refine G_exit ?_ | refine q_tn ?_ | refine q_tr ?_ | refine q_tx ?_ | refine q_bn ?_ | refine q_br ?_ | refine q_bx ?_ | refine q_by (by decide) ?_)
            (refine FinQ hQ (congrArg Array.toList Tryd.results101) _ _ ?_); simp (disch := omega) only [u, i64, ax, if_true, forall_const, reduceCtorEq, implies_true, tvs, bf]
            all_goals rfl
          · exact absurd rfl a5
        · subst heq
          have h1 : ¬ A < A := Nat.lt_irrefl _
          have hcc : cmpI A A = 0 := hs.2.2.1.2 rfl
          rw [if_neg h1, Nat.sub_self] at hF sl
          rw [if_neg h1, if_neg h1, if_neg h1, Nat.sub_self]
          have hF := hF (decide (r = 4))
          rw [hcc] at hC
          have hr5 : r = 0 ∨ r = 1 ∨ r = 2 ∨ r = 3 ∨ r = 4 := by omega
          by_cases h4 : r = 4
          · subst h4
            rw [decT rfl] at hF ⊢
            have hF := Ret_nil (args' := [cx p g 4, .bool true, .emp, i64 E, .bool false, i64 E]) hF rfl
            generalize finD0 p g 4 true 0 E E = z at *
            clear sl hs
            unfold dv cx at *
            simp only at *
            cases n1 <;> cases n2
            · exact absurd rfl a5
            · skip
              refine RetN_start Tryd.func101 (by kernel_rfl) rfl fun Q hQ hQ2 => ?_; rw [Tryd.ntmps101]; simp only [u, i64, Nat.reduceSub, Nat.reduceAdd, bm]
              repeat (first | ((first | refine Gs ?_ | refine Gr ?_); simp (disch := omega) only [u, i64, ax, eq_self, if_true, if_false, Nat.reduceAdd, Int.reduceToNat, Int.reduceAdd, tvs, bs]; refine aA ?_) | refine G_seq ?_ | refine G_block ?_ | refine G_condT rfl ?_ | refine G_condF rfl ?_ | refine G_skip ?_ | refine G_ret ?_ | refine G_exit ?_ | refine q_tn ?_ | refine q_tr ?_ | refine q_tx ?_ | refine q_bn ?_ | refine q_br ?_ | refine q_bx ?_ | refine q_by (by decide) ?_)
              ((first | refine Gs ?_ | refine Gr ?_); simp (disch := omega) only [u, i64, ax, eq_self, if_true, if_false, Nat.reduceAdd, Int.reduceToNat, Int.reduceAdd, tvs, bs])
              rw [hE, hcx]
              repeat (first | ((first | refine Gs ?_ | refine Gr ?_); simp (disch := omega) only [u, i64, ax, eq_self, if_true, if_false, Nat.reduceAdd, Int.reduceToNat, Int.reduceAdd, tvs, bs]; first | refine aA ?_ | ((first | refine cR hTx ?_ | refine cR hMx ?_); simp (disch := omega) only [u, i64, ax, eq_self, if_true, if_false, Nat.reduceAdd, Int.reduceToNat, Int.reduceAdd, tvs, bs]; try refine aA ?_)) | ((first | refine cR hTx ?_ | refine cR hMx ?_); simp (disch := omega) only [u, i64, ax, eq_self, if_true, if_false, Nat.reduceAdd, Int.reduceToNat, Int.reduceAdd, tvs, bs]; try refine aA ?_) | refine G_seq ?_ | refine G_block ?_ | refine G_condT rfl ?_ | refine G_condF rfl ?_ | refine G_skip ?_ | refine G_ret ?_ | refine G_exit ?_ | refine q_tn ?_ | refine q_tr ?_ | refine q_tx ?_ | refine q_bn ?_ | refine q_br ?_ | refine q_bx ?_ | refine q_by (by decide) ?_)
              ((first | refine Gs ?_ | refine Gr ?_); simp (disch := omega) only [u, i64, ax, eq_self, if_true, if_false, Nat.reduceAdd, Int.reduceToNat, Int.reduceAdd, tvs, bs])
              rw [hcy]
              repeat (first | ((first | refine Gs ?_ | refine Gr ?_); simp (disch := omega) only [u, i64, ax, eq_self, if_true, if_false, Nat.reduceAdd, Int.reduceToNat, Int.reduceAdd, tvs, bs]; first | refine aA ?_ | ((first | refine cR hTy ?_ | refine cR hMy ?_ | refine cR hC ?_ | refine cR hF ?_); simp (disch := omega) only [u, i64, ax, eq_self, if_true, if_false, Nat.reduceAdd, Int.reduceToNat, Int.reduceAdd, tvs, bs]; try refine aA ?_)) | ((first | refine cR hTy ?_ | refine cR hMy ?_ | refine cR hC ?_ | refine cR hF ?_); simp (disch := omega) only [u, i64, ax, eq_self, if_true, if_false, Nat.reduceAdd, Int.reduceToNat, Int.reduceAdd, tvs, bs]; try refine aA ?_) | refine G_seq ?_ | refine G_block ?_ | refine G_condT rfl ?_ | refine G_condF rfl ?_ | refine G_skip ?_ | refine G_ret ?_ | refine G_exit ?_ | refine q_tn ?_ | refine q_tr ?_ | refine q_tx ?_ | refine q_bn ?_ | refine q_br ?_ | refine q_bx ?_ | refine q_by (by decide) ?_)
              (refine FinQ hQ (congrArg Array.toList Tryd.results101) _ _ ?_); simp (disch := omega) only [u, i64, ax, if_true, forall_const, reduceCtorEq, implies_true, tvs, bf]
              all_goals rfl
            · skip
              refine RetN_start Tryd.func101 (by kernel_rfl) rfl fun Q hQ hQ2 => ?_; rw [Tryd.ntmps101]; simp only [u, i64, Nat.reduceSub, Nat.reduceAdd, bm]
              repeat (first | ((first | refine Gs ?_ | refine Gr ?_); simp (disch := omega) only [u, i64, ax, eq_self, if_true, if_false, Nat.reduceAdd, Int.reduceToNat, Int.reduceAdd, tvs, bs]; refine aA ?_) | refine G_seq ?_ | refine G_block ?_ | refine G_condT rfl ?_ | refine G_condF rfl ?_ | refine G_skip ?_ | refine G_ret ?_ | refine G_exit ?_ | refine q_tn ?_ | refine q_tr ?_ | refine q_tx ?_ | refine q_bn ?_ | refine q_br ?_ | refine q_bx ?_ | refine q_by (by decide) ?_)
              ((first | refine Gs ?_ | refine Gr ?_); simp (disch := omega) only [u, i64, ax, eq_self, if_true, if_false, Nat.reduceAdd, Int.reduceToNat, Int.reduceAdd, tvs, bs])
              rw [hE, hcx]
              repeat (first | ((first | refine Gs ?_ | refine Gr ?_); simp (disch := omega) only [u, i64, ax, eq_self, if_true, if_false, Nat.reduceAdd, Int.reduceToNat, Int.reduceAdd, tvs, bs]; first | refine aA ?_ | ((first | refine cR hTx ?_ | refine cR hMx ?_); simp (disch := omega) only [u, i64, ax, eq_self, if_true, if_false, Nat.reduceAdd, Int.reduceToNat, Int.reduceAdd, tvs, bs]; try refine aA ?_)) | ((first | refine cR hTx ?_ | refine cR hMx ?_); simp (disch := omega) only [u, i64, ax, eq_self, if_true, if_false, Nat.reduceAdd, Int.reduceToNat, Int.reduceAdd, tvs, bs]; try refine aA ?_) | refine G_seq ?_ | refine G_block ?_ | refine G_condT rfl ?_ | refine G_condF rfl ?_ | refine G_skip ?_ | refine G_ret ?_ | refine G_exit ?_ | refine q_tn ?_ | refine q_tr ?_ | refine q_tx ?_ | refine q_bn ?_ | refine q_br ?_ | refine q_bx ?_ | refine q_by (by decide) ?_)
              ((first | refine Gs ?_ | refine Gr ?_); simp (disch := omega) only [u, i64, ax, eq_self, if_true, if_false, Nat.reduceAdd, Int.reduceToNat, Int.reduceAdd, tvs, bs])
              rw [hcy]
              repeat (first | ((first | refine Gs ?_ | refine Gr ?_); simp (disch := omega) only [u, i64, ax, eq_self, if_true, if_false, Nat.reduceAdd, Int.reduceToNat, Int.reduceAdd, tvs, bs]; first | refine aA ?_ | ((first | refine cR hTy ?_ | refine cR hMy ?_ | refine cR hC ?_ | refine cR hF ?_); simp (disch := omega) only [u, i64, ax, eq_self, if_true, if_false, Nat.reduceAdd, Int.reduceToNat, Int.reduceAdd, tvs, bs]; try refine aA ?_)) | ((first | refine cR hTy ?_ | refine cR hMy ?_ | refine cR hC ?_ | refine cR hF ?_); simp (disch := omega) only [u, i64, ax, eq_self, if_true, if_false, Nat.reduceAdd, Int.reduceToNat, Int.reduceAdd, tvs, bs]; try refine aA ?_) | refine G_seq ?_ | refine G_block ?_ | refine G_condT rfl ?_ | refine G_condF rfl ?_ | refine G_skip ?_ | refine G_ret ?_ | refine G_exit ?_ | refine q_tn ?_ | refine q_tr ?_ | refine q_tx ?_ | refine q_bn ?_ | refine q_br ?_ | refine q_bx ?_ | refine q_by (by decide) ?_)
              (refine FinQ hQ (congrArg Array.toList Tryd.results101) _ _ ?_); simp (disch := omega) only [u, i64, ax, if_true, forall_const, reduceCtorEq, implies_true, tvs, bf]
              all_goals rfl
            · exact absurd rfl a5
          · rw [decF h4] at hF ⊢
            have hF := Ret_nil (args' := [cx p g r, .bool false, .emp, i64 E, .bool false, i64 E]) hF rfl
            generalize finD0 p g r false 0 E E = z at *
            clear sl hs
            unfold dv cx at *
            simp only at *
            cases n1 <;> cases n2
            · exact absurd rfl a5
            · skip
              refine RetN_start Tryd.func101 (by kernel_rfl) rfl fun Q hQ hQ2 => ?_; rw [Tryd.ntmps101]; simp only [u, i64, Nat.reduceSub, Nat.reduceAdd, bm]
              repeat (first | ((first | refine Gs ?_ | refine Gr ?_); simp (disch := omega) only [u, i64, ax, eq_self, if_true, if_false, Nat.reduceAdd, Int.reduceToNat, Int.reduceAdd, tvs, bs]; refine aA ?_) | refine G_seq ?_ | refine G_block ?_ | refine G_condT rfl ?_ | refine G_condF rfl ?_ | refine G_skip ?_ | refine G_ret ?_ | refine G_exit ?_ | refine q_tn ?_ | refine q_tr ?_ | refine q_tx ?_ | refine q_bn ?_ | refine q_br ?_ | refine q_bx ?_ | refine q_by (by decide) ?_)
              ((first | refine Gs ?_ | refine Gr ?_); simp (disch := omega) only [u, i64, ax, eq_self, if_true, if_false, Nat.reduceAdd, Int.reduceToNat, Int.reduceAdd, tvs, bs])
              rw [hE, hcx]
              repeat (first | ((first | refine Gs ?_ | refine Gr ?_); simp (disch := omega) only [u, i64, ax, eq_self, if_true, if_false, Nat.reduceAdd, Int.reduceToNat, Int.reduceAdd, tvs, bs]; first | refine aA ?_ | ((first | refine cR hTx ?_ | refine cR hMx ?_); simp (disch := omega) only [u, i64, ax, eq_self, if_true, if_false, Nat.reduceAdd, Int.reduceToNat, Int.reduceAdd, tvs, bs]; try refine aA ?_)) | ((first | refine cR hTx ?_ | refine cR hMx ?_); simp (disch := omega) only [u, i64, ax, eq_self, if_true, if_false, Nat.reduceAdd, Int.reduceToNat, Int.reduceAdd, tvs, bs]; try refine aA ?_) | refine G_seq ?_ | refine G_block ?_ | refine G_condT rfl ?_ | refine G_condF rfl ?_ | refine G_skip ?_ | refine G_ret ?_ | refine G_exit ?_ | refine q_tn ?_ | refine q_tr ?_ | refine q_tx ?_ | refine q_bn ?_ | refine q_br ?_ | refine q_bx ?_ | refine q_by (by decide) ?_)
              ((first | refine Gs ?_ | refine Gr ?_); simp (disch := omega) only [u, i64, ax, eq_self, if_true, if_false, Nat.reduceAdd, Int.reduceToNat, Int.reduceAdd, tvs, bs])
              rw [hcy]
              repeat (first | ((first | refine Gs ?_ | refine Gr ?_); simp (disch := omega) only [u, i64, ax, eq_self, if_true, if_false, Nat.reduceAdd, Int.reduceToNat, Int.reduceAdd, tvs, bs]; first | refine aA ?_ | ((first | refine cR hTy ?_ | refine cR hMy ?_ | refine cR hC ?_ | refine cR hF ?_); simp (disch := omega) only [u, i64, ax, eq_self, if_true, if_false, Nat.reduceAdd, Int.reduceToNat, Int.reduceAdd, tvs, bs]; try refine aA ?_)) | ((first | refine cR hTy ?_ | refine cR hMy ?_ | refine cR hC ?_ | refine cR hF ?_); simp (disch := omega) only [u, i64, ax, eq_self, if_true, if_false, Nat.reduceAdd, Int.reduceToNat, Int.reduceAdd, tvs, bs]; try refine aA ?_) | refine G_seq ?_ | refine G_block ?_ | refine G_condT rfl ?_ | refine G_condF rfl ?_ | refine G_skip ?_ | refine G_ret ?_ | refine G_exit ?_ | refine q_tn ?_ | refine q_tr ?_ | refine q_tx ?_ | refine q_bn ?_ | refine q_br ?_ | refine q_bx ?_ | refine q_by (by decide) ?_)
              (refine FinQ hQ (congrArg Array.toList Tryd.results101) _ _ ?_); simp (disch := omega) only [u, i64, ax, if_true, forall_const, reduceCtorEq, implies_true, tvs, bf]
              all_goals rfl
            · skip
              refine RetN_start Tryd.func101 (by kernel_rfl) rfl fun Q hQ hQ2 => ?_; rw [Tryd.ntmps101]; simp only [u, i64, Nat.reduceSub, Nat.reduceAdd, bm]
              repeat (first | ((first | refine Gs ?_ | refine Gr ?_); simp (disch := omega) only [u, i64, ax, eq_self, if_true, if_false, Nat.reduceAdd, Int.reduceToNat, Int.reduceAdd, tvs, bs]; refine aA ?_) | refine G_seq ?_ | refine G_block ?_ | refine G_condT rfl ?_ | refine G_condF rfl ?_ | refine G_skip ?_ | refine G_ret ?_ | refine G_exit ?_ | refine q_tn ?_ | refine q_tr ?_ | refine q_tx ?_ | refine q_bn ?_ | refine q_br ?_ | refine q_bx ?_ | refine q_by (by decide) ?_)
              ((first | refine Gs ?_ | refine Gr ?_); simp (disch := omega) only [u, i64, ax, eq_self, if_true, if_false, Nat.reduceAdd, Int.reduceToNat, Int.reduceAdd, tvs, bs])
              rw [hE, hcx]
              repeat (first | ((first | refine Gs ?_ | refine Gr ?_); simp (disch := omega) only [u, i64, ax, eq_self, if_true, if_false, Nat.reduceAdd, Int.reduceToNat, Int.reduceAdd, tvs, bs]; first | refine aA ?_ | ((first | refine cR hTx ?_ | refine cR hMx ?_); simp (disch := omega) only [u, i64, ax, eq_self, if_true, if_false, Nat.reduceAdd, Int.reduceToNat, Int.reduceAdd, tvs, bs]; try refine aA ?_)) | ((first | refine cR hTx ?_ | refine cR hMx ?_); simp (disch := omega) only [u, i64, ax, eq_self, if_true, if_false, Nat.reduceAdd, Int.reduceToNat, Int.reduceAdd, tvs, bs]; try refine aA ?_) | refine G_seq ?_ | refine G_block ?_ | refine G_condT rfl ?_ | refine G_condF rfl ?_ | refine G_skip ?_ | refine G_ret ?_ | refine G_exit ?_ | refine q_tn ?_ | refine q_tr ?_ | refine q_tx ?_ | refine q_bn ?_ | refine q_br ?_ | refine q_bx ?_ | refine q_by (by decide) ?_)
              ((first | refine Gs ?_ | refine Gr ?_); simp (disch := omega) only [u, i64, ax, eq_self, if_true, if_false, Nat.reduceAdd, Int.reduceToNat, Int.reduceAdd, tvs, bs])
              rw [hcy]
              repeat (first | ((first | refine Gs ?_ | refine Gr ?_); simp (disch := omega) only [u, i64, ax, eq_self, if_true, if_false, Nat.reduceAdd, Int.reduceToNat, Int.reduceAdd, tvs, bs]; first | refine aA ?_ | ((first | refine cR hTy ?_ | refine cR hMy ?_ | refine cR hC ?_ | refine cR hF ?_); simp (disch := omega) only [u, i64, ax, eq_self, if_true, if_false, Nat.reduceAdd, Int.reduceToNat, Int.reduceAdd, tvs, bs]; try refine aA ?_)) | ((first | refine cR hTy ?_ | refine cR hMy ?_ | refine cR hC ?_ | refine cR hF ?_); simp (disch := omega) only [u, i64, ax, eq_self, if_true, if_false, Nat.reduceAdd, Int.reduceToNat, Int.reduceAdd, tvs, bs]; try refine aA ?_) | refine G_seq ?_ | refine G_block ?_ | refine G_condT rfl ?_ | refine G_condF rfl ?_ | refine G_skip ?_ | refine G_ret ?_ | refine G_exit ?_ | refine q_tn ?_ | refine q_tr ?_ | refine q_tx ?_ | refine q_bn ?_ | refine q_br ?_ | refine q_bx ?_ | refine q_by (by decide) ?_)
              (refine FinQ hQ (congrArg Array.toList Tryd.results101) _ _ ?_); simp (disch := omega) only [u, i64, ax, if_true, forall_const, reduceCtorEq, implies_true, tvs, bf]
              all_goals rfl
            · exact absurd rfl a5
        · have h1 : ¬ A < B := by omega
          have hcc : 0 < cmpI A B := hs.2.2.2.2 hgt
          rw [if_pos hgt] at hF sl
          rw [if_pos hgt, if_pos hgt]
          have hF := hF n1
          have hA := ret_Sub (words A) (words B) (Wd_words _) (Wd_words _) (by omega) (by omega) (by rw [val_words, val_words]; omega)
          rw [val_words, val_words] at hA
          generalize cmpI A B = cc at *
          generalize finD0 p g r n1 (A - B) E E = z at *
          generalize A - B = S at *
          clear sl hs
          unfold dv cx at *
          simp only at *
          cases n1 <;> cases n2
          · exact absurd rfl a5
          · skip
            refine RetN_start Tryd.func101 (by kernel_rfl) rfl fun Q hQ hQ2 => ?_; rw [Tryd.ntmps101]; simp only [u, i64, Nat.reduceSub, Nat.reduceAdd, bm]
            repeat (first | ((first | refine Gs ?_ | refine Gr ?_); simp (disch := omega) only [u, i64, ax, eq_self, if_true, if_false, Nat.reduceAdd, Int.reduceToNat, Int.reduceAdd, tvs, bs]; refine aA ?_) | refine G_seq ?_ | refine G_block ?_ | refine G_condT rfl ?_ | refine G_condF rfl ?_ | refine G_skip ?_ | refine G_ret ?_ | refine G_exit ?_ | refine q_tn ?_ | refine q_tr ?_ | refine q_tx ?_ | refine q_bn ?_ | refine q_br ?_ | refine q_bx ?_ | refine q_by (by decide) ?_)
            ((first | refine Gs ?_ | refine Gr ?_); simp (disch := omega) only [u, i64, ax, eq_self, if_true, if_false, Nat.reduceAdd, Int.reduceToNat, Int.reduceAdd, tvs, bs])
            rw [hE, hcx]
            repeat (first | ((first | refine Gs ?_ | refine Gr ?_); simp (disch := omega) only [u, i64, ax, eq_self, if_true, if_false, Nat.reduceAdd, Int.reduceToNat, Int.reduceAdd, tvs, bs]; first | refine aA ?_ | ((first | refine cR hTx ?_ | refine cR hMx ?_); simp (disch := omega) only [u, i64, ax, eq_self, if_true, if_false, Nat.reduceAdd, Int.reduceToNat, Int.reduceAdd, tvs, bs]; try refine aA ?_)) | ((first | refine cR hTx ?_ | refine cR hMx ?_); simp (disch := omega) only [u, i64, ax, eq_self, if_true, if_false, Nat.reduceAdd, Int.reduceToNat, Int.reduceAdd, tvs, bs]; try refine aA ?_) | refine G_seq ?_ | refine G_block ?_ | refine G_condT rfl ?_ | refine G_condF rfl ?_ | refine G_skip ?_ | refine G_ret ?_ | refine G_exit ?_ | refine q_tn ?_ | refine q_tr ?_ | refine q_tx ?_ | refine q_bn ?_ | refine q_br ?_ | refine q_bx ?_ | refine q_by (by decide) ?_)
            ((first | refine Gs ?_ | refine Gr ?_); simp (disch := omega) only [u, i64, ax, eq_self, if_true, if_false, Nat.reduceAdd, Int.reduceToNat, Int.reduceAdd, tvs, bs])
            rw [hcy]
            repeat (first | ((first | refine Gs ?_ | refine Gr ?_); simp (disch := omega) only [u, i64, ax, eq_self, if_true, if_false, Nat.reduceAdd, Int.reduceToNat, Int.reduceAdd, tvs, bs]; first | refine aA ?_ | ((first | refine cR hTy ?_ | refine cR hMy ?_ | refine cR hC ?_ | refine cR hA ?_ | refine cR hF ?_); simp (disch := omega) only [u, i64, ax, eq_self, if_true, if_false, Nat.reduceAdd, Int.reduceToNat, Int.reduceAdd, tvs, bs]; try refine aA ?_)) | ((first | refine cR hTy ?_ | refine cR hMy ?_ | refine cR hC ?_ | refine cR hA ?_ | refine cR hF ?_); simp (disch := omega) only [u, i64, ax, eq_self, if_true, if_false, Nat.reduceAdd, Int.reduceToNat, Int.reduceAdd, tvs, bs]; try refine aA ?_) | refine G_seq ?_ | refine G_block ?_ | refine G_condT rfl ?_ | refine G_condF rfl ?_ | refine G_skip ?_ | refine G_ret ?_ | refine G_exit ?_ | refine q_tn ?_ | refine q_tr ?_ | refine q_tx ?_ | refine q_bn ?_ | refine q_br ?_ | refine q_bx ?_ | refine q_by (by decide) ?_)
            (refine FinQ hQ (congrArg Array.toList Tryd.results101) _ _ ?_); simp (disch := omega) only [u, i64, ax, if_true, forall_const, reduceCtorEq, implies_true, tvs, bf]
            all_goals rfl
          · skip
            refine RetN_start Tryd.func101 (by kernel_rfl) rfl fun Q hQ hQ2 => ?_; rw [Tryd.ntmps101]; simp only [u, i64, Nat.reduceSub, Nat.reduceAdd, bm]
            repeat (first | ((first | refine Gs ?_ | refine Gr ?_); simp (disch := omega) only [u, i64, ax, eq_self, if_true, if_false, Nat.reduceAdd, Int.reduceToNat, Int.reduceAdd, tvs, bs]; refine aA ?_) | refine G_seq ?_ | refine G_block ?_ | refine G_condT rfl ?_ | refine G_condF rfl ?_ | refine G_skip ?_ | refine G_ret ?_ | refine G_exit ?_ | refine q_tn ?_ | refine q_tr ?_ | refine q_tx ?_ | refine q_bn ?_ | refine q_br ?_ | refine q_bx ?_ | refine q_by (by decide) ?_)
            ((first | refine Gs ?_ | refine Gr ?_); simp (disch := omega) only [u, i64, ax, eq_self, if_true, if_false, Nat.reduceAdd, Int.reduceToNat, Int.reduceAdd, tvs, bs])
            rw [hE, hcx]
            repeat (first | ((first | refine Gs ?_ | refine Gr ?_); simp (disch := omega) only [u, i64, ax, eq_self, if_true, if_false, Nat.reduceAdd, Int.reduceToNat, Int.reduceAdd, tvs, bs]; first | refine aA ?_ | ((first | refine cR hTx ?_ | refine cR hMx ?_); simp (disch := omega) only [u, i64, ax, eq_self, if_true, if_false, Nat.reduceAdd, Int.reduceToNat, Int.reduceAdd, tvs, bs]; try refine aA ?_)) | ((first | refine cR hTx ?_ | refine cR hMx ?_); simp (disch := omega) only [u, i64, ax, eq_self, if_true, if_false, Nat.reduceAdd, Int.reduceToNat, Int.reduceAdd, tvs, bs]; try refine aA ?_) | refine G_seq ?_ | refine G_block ?_ | refine G_condT rfl ?_ | refine G_condF rfl ?_ | refine G_skip ?_ | refine G_ret ?_ | refine G_exit ?_ | refine q_tn ?_ | refine q_tr ?_ | refine q_tx ?_ | refine q_bn ?_ | refine q_br ?_ | refine q_bx ?_ | refine q_by (by decide) ?_)
            ((first | refine Gs ?_ | refine Gr ?_); simp (disch := omega) only [u, i64, ax, eq_self, if_true, if_false, Nat.reduceAdd, Int.reduceToNat, Int.reduceAdd, tvs, bs])
            rw [hcy]
            repeat (first | ((first | refine Gs ?_ | refine Gr ?_); simp (disch := omega) only [u, i64, ax, eq_self, if_true, if_false, Nat.reduceAdd, Int.reduceToNat, Int.reduceAdd, tvs, bs]; first | refine aA ?_ | ((first | refine cR hTy ?_ | refine cR hMy ?_ | refine cR hC ?_ | refine cR hA ?_ | refine cR hF ?_); simp (disch := omega) only [u, i64, ax, eq_self, if_true, if_false, Nat.reduceAdd, Int.reduceToNat, Int.reduceAdd, tvs, bs]; try refine aA ?_)) | ((first | refine cR hTy ?_ | refine cR hMy ?_ | refine cR hC ?_ | refine cR hA ?_ | refine cR hF ?_); simp (disch := omega) only [u, i64, ax, eq_self, if_true, if_false, Nat.reduceAdd, Int.reduceToNat, Int.reduceAdd, tvs, bs]; try refine aA ?_) | refine G_seq ?_ | refine G_block ?_ | refine G_condT rfl ?_ | refine G_condF rfl ?_ | refine G_skip ?_ | refine G_ret ?_ | refine G_exit ?_ | refine q_tn ?_ | refine q_tr ?_ | refine q_tx ?_ | refine q_bn ?_ | refine q_br ?_ | refine q_bx ?_ | refine q_by (by decide) ?_)
            (refine FinQ hQ (congrArg Array.toList Tryd.results101) _ _ ?_); simp (disch := omega) only [u, i64, ax, if_true, forall_const, reduceCtorEq, implies_true, tvs, bf]
            all_goals rfl
          · exact absurd rfl a5
end Go.Proofs
set_option linter.unusedVariables false
set_option linter.unusedSimpArgs false
namespace Go.Proofs
open Go.Ax
theorem dvz : dv zD = .agg [i64 0, .bool false, .lst 0 [], i64 0] := rfl
set_option maxRecDepth 100000 in
set_option maxHeartbeats 1000000 in
theorem ret_two (p : Nat) (g : Int) (r : Nat) (hp : 1 ≤ p ∧ p ≤ 400) (hg : 1 ≤ g ∧ g ≤ 6000) (hr : r ≤ 4) (d c : DI) (h1 : d.ok) (h2 : c.ok) (N : Nat) (z : DV) (fl : Nat)
    (hDo : d.okIn p g ∧ c.okIn p g → Ret Tryd.prog GEs N [cx p g r, dv d.D, dv c.D] (.tup [dv z, i64 fl])) :
    Ret Tryd.prog GEs 100 [cx p g r, d.av, c.av, .lit (.func (.func N) #[] #[])] (if d.okIn p g ∧ c.okIn p g then .tup [dv z, i64 fl, i64 0] else .tup [dv zD, i64 0, i64 221]) := by
  have hA := ret_Args2 p g r hp hg hr d c h1 h2
  by_cases h : d.okIn p g ∧ c.okIn p g
  · rw [if_pos h] at hA ⊢
    have hF := hDo h
    rw [DI.dv_eq h.1.1, DI.dv_eq h.2.1] at hF
    clear hDo
    unfold DI.av dv cx at *
    generalize val d.cs = v1 at *
    generalize val c.cs = v2 at *
    refine RetN_start Tryd.func100 (by kernel_rfl) rfl fun Q hQ hQ2 => ?_; rw [Tryd.ntmps100]; simp only [u, i64, Nat.reduceSub, Nat.reduceAdd, bm]
    repeat (first | ((first | refine Gs ?_ | refine Gr ?_); simp (disch := omega) only [u, i64, ax, eq_self, if_true, if_false, Nat.reduceAdd, Int.reduceToNat, Int.reduceAdd, tvs, bs]; refine aA ?_) | refine G_seq ?_ | refine G_block ?_ | refine G_condT rfl ?_ | refine G_condF rfl ?_ | refine G_skip ?_ | refine G_ret ?_ | refine G_exit ?_ | refine q_tn ?_ | refine q_tr ?_ | refine q_tx ?_ | refine q_bn ?_ | refine q_br ?_ | refine q_bx ?_ | refine q_by (by decide) ?_)
    ((first | refine Gs ?_ | refine Gr ?_); simp (disch := omega) only [u, i64, ax, eq_self, if_true, if_false, Nat.reduceAdd, Int.reduceToNat, Int.reduceAdd, tvs, bs])
    simp (disch := omega) only [u, i64, ax, eq_self, if_true, if_false, Nat.reduceAdd, Int.reduceToNat, Int.reduceAdd, tvs, bs, Nat.reduceMul, List.take_succ_cons, List.take_zero, List.nil_append, List.cons_append, List.append_nil, Nat.reduceLeDiff]
    repeat (first | ((first | refine Gs ?_ | refine Gr ?_); simp (disch := omega) only [u, i64, ax, eq_self, if_true, if_false, Nat.reduceAdd, Int.reduceToNat, Int.reduceAdd, tvs, bs]; first | refine aA ?_ | ((first | refine cR hA ?_ | refine cR hF ?_); simp (disch := omega) only [u, i64, ax, eq_self, if_true, if_false, Nat.reduceAdd, Int.reduceToNat, Int.reduceAdd, tvs, bs]; try refine aA ?_)) | ((first | refine cR hA ?_ | refine cR hF ?_); simp (disch := omega) only [u, i64, ax, eq_self, if_true, if_false, Nat.reduceAdd, Int.reduceToNat, Int.reduceAdd, tvs, bs]; try refine aA ?_) | refine G_seq ?_ | refine G_block ?_ | refine G_condT rfl ?_ | refine G_condF rfl ?_ | refine G_skip ?_ | refine G_ret ?_ | refine G_exit ?_ | refine q_tn ?_ | refine q_tr ?_ | refine q_tx ?_ | refine q_bn ?_ | refine q_br ?_ | refine q_bx ?_ | refine q_by (by decide) ?_)
    (refine FinQ hQ (congrArg Array.toList Tryd.results100) _ _ ?_); simp (disch := omega) only [u, i64, ax, if_true, forall_const, reduceCtorEq, implies_true, tvs, bf]
  · rw [if_neg h] at hA ⊢
    clear hDo
    rw [dvz]
    unfold DI.av cx at *
    refine RetN_start Tryd.func100 (by kernel_rfl) rfl fun Q hQ hQ2 => ?_; rw [Tryd.ntmps100]; simp only [u, i64, Nat.reduceSub, Nat.reduceAdd, bm]
    repeat (first | ((first | refine Gs ?_ | refine Gr ?_); simp (disch := omega) only [u, i64, ax, eq_self, if_true, if_false, Nat.reduceAdd, Int.reduceToNat, Int.reduceAdd, tvs, bs]; refine aA ?_) | refine G_seq ?_ | refine G_block ?_ | refine G_condT rfl ?_ | refine G_condF rfl ?_ | refine G_skip ?_ | refine G_ret ?_ | refine G_exit ?_ | refine q_tn ?_ | refine q_tr ?_ | refine q_tx ?_ | refine q_bn ?_ | refine q_br ?_ | refine q_bx ?_ | refine q_by (by decide) ?_)
    ((first | refine Gs ?_ | refine Gr ?_); simp (disch := omega) only [u, i64, ax, eq_self, if_true, if_false, Nat.reduceAdd, Int.reduceToNat, Int.reduceAdd, tvs, bs])
    simp (disch := omega) only [u, i64, ax, eq_self, if_true, if_false, Nat.reduceAdd, Int.reduceToNat, Int.reduceAdd, tvs, bs, Nat.reduceMul, List.take_succ_cons, List.take_zero, List.nil_append, List.cons_append, List.append_nil, Nat.reduceLeDiff]
    repeat (first | ((first | refine Gs ?_ | refine Gr ?_); simp (disch := omega) only [u, i64, ax, eq_self, if_true, if_false, Nat.reduceAdd, Int.reduceToNat, Int.reduceAdd, tvs, bs]; first | refine aA ?_ | (refine cR hA ?_; simp (disch := omega) only [u, i64, ax, eq_self, if_true, if_false, Nat.reduceAdd, Int.reduceToNat, Int.reduceAdd, tvs, bs]; try refine aA ?_)) | (refine cR hA ?_; simp (disch := omega) only [u, i64, ax, eq_self, if_true, if_false, Nat.reduceAdd, Int.reduceToNat, Int.reduceAdd, tvs, bs]; try refine aA ?_) | refine G_seq ?_ | refine G_block ?_ | refine G_condT rfl ?_ | refine G_condF rfl ?_ | refine G_skip ?_ | refine G_ret ?_ | refine G_exit ?_ | refine q_tn ?_ | refine q_tr ?_ | refine q_tx ?_ | refine q_bn ?_ | refine q_br ?_ | refine q_bx ?_ | refine q_by (by decide) ?_)
    (refine FinQ hQ (congrArg Array.toList Tryd.results100) _ _ ?_); simp (disch := omega) only [u, i64, ax, if_true, forall_const, reduceCtorEq, implies_true, tvs, bf]
theorem okIn_facts {p : Nat} {g : Int} (hp : 1 ≤ p ∧ p ≤ 400) (hg : 1 ≤ g ∧ g ≤ 6000) {d : DI} (h : d.okIn p g) : d.D.kind ≤ 2 ∧ -7000 ≤ d.D.exp ∧ d.D.exp ≤ 6000 ∧ rightD d.D := by
  obtain ⟨h1, h2⟩ := h
  obtain ⟨q1, q2, q3⟩ := goodD_right h1
  have hk : d.D.kind ≤ 2 := by show d.k.toNat ≤ 2; omega
  obtain ⟨e1, e2⟩ := inD_exp hp.1 q1 h2
  have e1' : d.D.kind = 0 → -7000 ≤ d.D.exp ∧ d.D.exp ≤ 6000 := fun h => by
    have := e1 h
    have e : (mkD d.k d.neg (val d.cs) d.e).exp = d.D.exp := rfl
    omega
  by_cases h0 : d.D.kind = 0
  · exact ⟨hk, (e1' h0).1, (e1' h0).2, q1⟩
  · have := (e2 h0).1
    have e : d.D.exp = 0 := this
    rw [e]
    exact ⟨hk, by decide, by decide, q1⟩
theorem ret_DAdd (p : Nat) (g : Int) (r : Nat) (hp : 1 ≤ p ∧ p ≤ 400) (hg : 1 ≤ g ∧ g ≤ 6000) (hr : r ≤ 4) (d c : DI) (h1 : d.ok) (h2 : c.ok) :
    Ret Tryd.prog GEs 41 [cx p g r, d.av, c.av] (if d.okIn p g ∧ c.okIn p g then .tup [dv (addD p g r d.D c.D).1, i64 (addD p g r d.D c.D).2, i64 0] else .tup [dv zD, i64 0, i64 221]) := by
  have hT := ret_two p g r hp hg hr d c h1 h2 101 _ _ (fun h => by
    obtain ⟨a1, a2, a3, a4⟩ := okIn_facts hp hg h.1
    obtain ⟨b1, b2, b3, b4⟩ := okIn_facts hp hg h.2
    exact ret_dadd p g r d.D c.D hp hg hr a1 b1 (Nat.le_trans (d.len_le h1) (by decide)) (Nat.le_trans (c.len_le h2) (by decide)) (by omega) (by omega))
  generalize addD p g r d.D c.D = z at *
  by_cases h : d.okIn p g ∧ c.okIn p g
  · rw [if_pos h] at hT ⊢
    unfold DI.av dv cx at *
    refine RetN_start Tryd.func41 (by kernel_rfl) rfl fun Q hQ hQ2 => ?_; rw [Tryd.ntmps41]; simp only [u, i64, Nat.reduceSub, Nat.reduceAdd, bm]
    repeat (first | ((first | refine Gs ?_ | refine Gr ?_); simp (disch := omega) only [u, i64, ax, eq_self, if_true, if_false, Nat.reduceAdd, Int.reduceToNat, Int.reduceAdd, tvs, bs]; first | refine aA ?_ | (refine cR hT ?_; simp (disch := omega) only [u, i64, ax, eq_self, if_true, if_false, Nat.reduceAdd, Int.reduceToNat, Int.reduceAdd, tvs, bs]; try refine aA ?_)) | (refine cR hT ?_; simp (disch := omega) only [u, i64, ax, eq_self, if_true, if_false, Nat.reduceAdd, Int.reduceToNat, Int.reduceAdd, tvs, bs]; try refine aA ?_) | refine G_seq ?_ | refine G_block ?_ | refine G_condT rfl ?_ | refine G_condF rfl ?_ | refine G_skip ?_ | refine G_ret ?_ | refine G_exit ?_ | refine q_tn ?_ | refine q_tr ?_ | refine q_tx ?_ | refine q_bn ?_ | refine q_br ?_ | refine q_bx ?_ | refine q_by (by decide) ?_)
    (refine FinQ hQ (congrArg Array.toList Tryd.results41) _ _ ?_); simp (disch := omega) only [u, i64, ax, if_true, forall_const, reduceCtorEq, implies_true, tvs, bf]
  · rw [if_neg h] at hT ⊢
    rw [dvz] at *
    unfold DI.av cx at *
    refine RetN_start Tryd.func41 (by kernel_rfl) rfl fun Q hQ hQ2 => ?_; rw [Tryd.ntmps41]; simp only [u, i64, Nat.reduceSub, Nat.reduceAdd, bm]
    repeat (first | ((first | refine Gs ?_ | refine Gr ?_); simp (disch := omega) only [u, i64, ax, eq_self, if_true, if_false, Nat.reduceAdd, Int.reduceToNat, Int.reduceAdd, tvs, bs]; first | refine aA ?_ | (refine cR hT ?_; simp (disch := omega) only [u, i64, ax, eq_self, if_true, if_false, Nat.reduceAdd, Int.reduceToNat, Int.reduceAdd, tvs, bs]; try refine aA ?_)) | (refine cR hT ?_; simp (disch := omega) only [u, i64, ax, eq_self, if_true, if_false, Nat.reduceAdd, Int.reduceToNat, Int.reduceAdd, tvs, bs]; try refine aA ?_) | refine G_seq ?_ | refine G_block ?_ | refine G_condT rfl ?_ | refine G_condF rfl ?_ | refine G_skip ?_ | refine G_ret ?_ | refine G_exit ?_ | refine q_tn ?_ | refine q_tr ?_ | refine q_tx ?_ | refine q_bn ?_ | refine q_br ?_ | refine q_bx ?_ | refine q_by (by decide) ?_)
    (refine FinQ hQ (congrArg Array.toList Tryd.results41) _ _ ?_); simp (disch := omega) only [u, i64, ax, if_true, forall_const, reduceCtorEq, implies_true, tvs, bf]
end Go.Proofs
set_option linter.unusedVariables false
set_option linter.unusedSimpArgs false
set_option maxRecDepth 100000
namespace Go.Proofs
open Go.Ax
/-- A number with another exponent. -/
def quantN (r : Nat) (x : DV) (exp : Int) : Nat := if x.exp < exp then quoN r x.neg x.coef (10 ^ (exp - x.exp).toNat) else x.coef * 10 ^ (x.exp - exp).toNat
def quantX (x : DV) (exp : Int) : Bool := if x.exp < exp then decide (x.coef % 10 ^ (exp - x.exp).toNat = 0) else true
def quantD (p : Nat) (g : Int) (r : Nat) (x : DV) (exp : Int) : DV × Nat :=
  if x.kind = 2 then (x, 0)
  else if x.kind = 1 ∨ exp < 1 - g - (p - 1) ∨ g < exp then (nanD, 16)
  else if inD p g ⟨0, x.neg, quantN r x exp, exp⟩ then (⟨0, x.neg, quantN r x exp, exp⟩, if quantX x exp = true then 0 else 1)
  else (nanD, 16)
theorem quoN_small (r : Nat) (neg : Bool) (n d : Nat) : quoN r neg n d ≤ n + 1 := by
  unfold quoN
  have := Nat.div_le_self n d
  split <;> omega
set_option maxRecDepth 100000 in
set_option maxHeartbeats 4000000 in
theorem ret_DQuantize (p : Nat) (g : Int) (r : Nat) (hp : 1 ≤ p ∧ p ≤ 400) (hg : 1 ≤ g ∧ g ≤ 6000) (hr : r ≤ 4) (d : DI) (h1 : d.ok) (exp : Int) (he : -1000000 ≤ exp ∧ exp ≤ 1000000) :
    Ret Tryd.prog GEs 61 [cx p g r, d.av, i64 exp] (if d.okIn p g then .tup [dv (quantD p g r d.D exp).1, i64 (quantD p g r d.D exp).2, i64 0] else .tup [dv zD, i64 0, i64 221]) := by
  have hA := ret_Args1 p g r hp hg hr d h1
  by_cases h : d.okIn p g
  · rw [if_pos h] at hA ⊢
    obtain ⟨a1, a2, a3, a4⟩ := okIn_facts hp hg h
    have hl := d.len_le h1
    have hT := ret_tiny p g r hp hg
    have hdv := DI.dv_eq h.1
    rw [show d.av = .agg [i64 d.k, .bool d.neg, ws d.cs, i64 d.e] from rfl]
    have hA' : Ret Tryd.prog GEs 110 [cx p g r, .bool false, .lst 1 [i64 d.k, .bool d.neg, ws d.cs, i64 d.e]] (.tup [.lst 1 [i64 d.D.kind, .bool d.D.neg, nat d.D.coef, i64 d.D.exp], i64 0]) := by
      have hk : ((d.D.kind : Nat) : Int) = d.k := by show ((d.k.toNat : Nat) : Int) = d.k; have := (goodD_right h.1).2.1; omega
      rw [hk]; exact hA
    have hA := hA'
    clear hA' hdv
    generalize d.k = dk at *
    generalize d.neg = dn at *
    generalize d.cs = dc at *
    generalize d.e = de at *
    generalize d.D = x at *
    clear h
    obtain ⟨kd, ng, c, e⟩ := x
    simp only at *
    have hbn := bl_len c
    have tl : ∀ k : Nat, k ≤ 14000 → (words (10 ^ k)).length ≤ 900 := fun k hk => le_pow_words (ten_le k) (by omega)
    have hTT : 1 - g - ((p : Int) - 1) = 2 - g - p := by omega
    by_cases k2 : kd = 2
    · have e1 : quantD p g r ⟨kd, ng, c, e⟩ exp = (⟨kd, ng, c, e⟩, 0) := by unfold quantD; rw [if_pos k2]
      rw [e1]
      unfold dv cx at *
      simp only at *
      refine RetN_start Tryd.func61 (by kernel_rfl) rfl fun Q hQ hQ2 => ?_; rw [Tryd.ntmps61]; simp only [u, i64, Nat.reduceSub, Nat.reduceAdd, bm]
      repeat (first | ((first | refine Gs ?_ | refine Gr ?_); simp (disch := omega) only [u, i64, ax, eq_self, if_true, if_false, Nat.reduceAdd, Int.reduceToNat, Int.reduceAdd, tvs, bs]; refine aA ?_) | refine G_seq ?_ | refine G_block ?_ | refine G_condT rfl ?_ | refine G_condF rfl ?_ | refine G_skip ?_ | refine G_ret ?_ | refine G_exit ?_ | refine q_tn ?_ | refine q_tr ?_ | refine q_tx ?_ | refine q_bn ?_ | refine q_br ?_ | refine q_bx ?_ | refine q_by (by decide) ?_)
      ((first | refine Gs ?_ | refine Gr ?_); simp (disch := omega) only [u, i64, ax, eq_self, if_true, if_false, Nat.reduceAdd, Int.reduceToNat, Int.reduceAdd, tvs, bs])
      simp (disch := omega) only [u, i64, ax, eq_self, if_true, if_false, Nat.reduceAdd, Int.reduceToNat, Int.reduceAdd, tvs, bs, Nat.reduceMul, List.take_succ_cons, List.take_zero, List.nil_append, List.cons_append, List.append_nil, Nat.reduceLeDiff]
      repeat (first | ((first | refine Gs ?_ | refine Gr ?_); simp (disch := omega) only [u, i64, ax, eq_self, if_true, if_false, Nat.reduceAdd, Int.reduceToNat, Int.reduceAdd, tvs, bs]; first | refine aA ?_ | (refine cR hA ?_; simp (disch := omega) only [u, i64, ax, eq_self, if_true, if_false, Nat.reduceAdd, Int.reduceToNat, Int.reduceAdd, tvs, bs]; try refine aA ?_)) | (refine cR hA ?_; simp (disch := omega) only [u, i64, ax, eq_self, if_true, if_false, Nat.reduceAdd, Int.reduceToNat, Int.reduceAdd, tvs, bs]; try refine aA ?_) | refine G_seq ?_ | refine G_block ?_ | refine G_condT rfl ?_ | refine G_condF rfl ?_ | refine G_skip ?_ | refine G_ret ?_ | refine G_exit ?_ | refine q_tn ?_ | refine q_tr ?_ | refine q_tx ?_ | refine q_bn ?_ | refine q_br ?_ | refine q_bx ?_ | refine q_by (by decide) ?_)
      (refine FinQ hQ (congrArg Array.toList Tryd.results61) _ _ ?_); simp (disch := omega) only [u, i64, ax, if_true, forall_const, reduceCtorEq, implies_true, tvs, bf]
      all_goals rfl
    · by_cases kx : kd = 1 ∨ exp < 1 - g - (p - 1) ∨ g < exp
      · have e1 : quantD p g r ⟨kd, ng, c, e⟩ exp = (nanD, 16) := by unfold quantD; rw [if_neg k2, if_pos kx]
        rw [e1]
        unfold nanD dv cx at *
        simp only at *
        by_cases k1 : kd = 1
        · skip
          refine RetN_start Tryd.func61 (by kernel_rfl) rfl fun Q hQ hQ2 => ?_; rw [Tryd.ntmps61]; simp only [u, i64, Nat.reduceSub, Nat.reduceAdd, bm]
          repeat (first | ((first | refine Gs ?_ | refine Gr ?_); simp (disch := omega) only [u, i64, ax, eq_self, if_true, if_false, Nat.reduceAdd, Int.reduceToNat, Int.reduceAdd, tvs, bs]; refine aA ?_) | refine G_seq ?_ | refine G_block ?_ | refine G_condT rfl ?_ | refine G_condF rfl ?_ | refine G_skip ?_ | refine G_ret ?_ | refine G_exit ?_ | refine q_tn ?_ | refine q_tr ?_ | refine q_tx ?_ | refine q_bn ?_ | refine q_br ?_ | refine q_bx ?_ | refine q_by (by decide) ?_)
          ((first | refine Gs ?_ | refine Gr ?_); simp (disch := omega) only [u, i64, ax, eq_self, if_true, if_false, Nat.reduceAdd, Int.reduceToNat, Int.reduceAdd, tvs, bs])
          simp (disch := omega) only [u, i64, ax, eq_self, if_true, if_false, Nat.reduceAdd, Int.reduceToNat, Int.reduceAdd, tvs, bs, Nat.reduceMul, List.take_succ_cons, List.take_zero, List.nil_append, List.cons_append, List.append_nil, Nat.reduceLeDiff]
          repeat (first | ((first | refine Gs ?_ | refine Gr ?_); simp (disch := omega) only [u, i64, ax, eq_self, if_true, if_false, Nat.reduceAdd, Int.reduceToNat, Int.reduceAdd, tvs, bs]; first | refine aA ?_ | (refine cR hA ?_; simp (disch := omega) only [u, i64, ax, eq_self, if_true, if_false, Nat.reduceAdd, Int.reduceToNat, Int.reduceAdd, tvs, bs]; try refine aA ?_)) | (refine cR hA ?_; simp (disch := omega) only [u, i64, ax, eq_self, if_true, if_false, Nat.reduceAdd, Int.reduceToNat, Int.reduceAdd, tvs, bs]; try refine aA ?_) | refine G_seq ?_ | refine G_block ?_ | refine G_condT rfl ?_ | refine G_condF rfl ?_ | refine G_skip ?_ | refine G_ret ?_ | refine G_exit ?_ | refine q_tn ?_ | refine q_tr ?_ | refine q_tx ?_ | refine q_bn ?_ | refine q_br ?_ | refine q_bx ?_ | refine q_by (by decide) ?_)
          (refine FinQ hQ (congrArg Array.toList Tryd.results61) _ _ ?_); simp (disch := omega) only [u, i64, ax, if_true, forall_const, reduceCtorEq, implies_true, tvs, bf]
          all_goals rfl
        · by_cases kt : exp < 1 - g - (p - 1)
          · generalize 1 - g - ((p : Int) - 1) = T at *
            refine RetN_start Tryd.func61 (by kernel_rfl) rfl fun Q hQ hQ2 => ?_; rw [Tryd.ntmps61]; simp only [u, i64, Nat.reduceSub, Nat.reduceAdd, bm]
            repeat (first | ((first | refine Gs ?_ | refine Gr ?_); simp (disch := omega) only [u, i64, ax, eq_self, if_true, if_false, Nat.reduceAdd, Int.reduceToNat, Int.reduceAdd, tvs, bs]; refine aA ?_) | refine G_seq ?_ | refine G_block ?_ | refine G_condT rfl ?_ | refine G_condF rfl ?_ | refine G_skip ?_ | refine G_ret ?_ | refine G_exit ?_ | refine q_tn ?_ | refine q_tr ?_ | refine q_tx ?_ | refine q_bn ?_ | refine q_br ?_ | refine q_bx ?_ | refine q_by (by decide) ?_)
            ((first | refine Gs ?_ | refine Gr ?_); simp (disch := omega) only [u, i64, ax, eq_self, if_true, if_false, Nat.reduceAdd, Int.reduceToNat, Int.reduceAdd, tvs, bs])
            simp (disch := omega) only [u, i64, ax, eq_self, if_true, if_false, Nat.reduceAdd, Int.reduceToNat, Int.reduceAdd, tvs, bs, Nat.reduceMul, List.take_succ_cons, List.take_zero, List.nil_append, List.cons_append, List.append_nil, Nat.reduceLeDiff]
            repeat (first | ((first | refine Gs ?_ | refine Gr ?_); simp (disch := omega) only [u, i64, ax, eq_self, if_true, if_false, Nat.reduceAdd, Int.reduceToNat, Int.reduceAdd, tvs, bs]; first | refine aA ?_ | ((first | refine cR hA ?_ | refine cR hT ?_); simp (disch := omega) only [u, i64, ax, eq_self, if_true, if_false, Nat.reduceAdd, Int.reduceToNat, Int.reduceAdd, tvs, bs]; try refine aA ?_)) | ((first | refine cR hA ?_ | refine cR hT ?_); simp (disch := omega) only [u, i64, ax, eq_self, if_true, if_false, Nat.reduceAdd, Int.reduceToNat, Int.reduceAdd, tvs, bs]; try refine aA ?_) | refine G_seq ?_ | refine G_block ?_ | refine G_condT rfl ?_ | refine G_condF rfl ?_ | refine G_skip ?_ | refine G_ret ?_ | refine G_exit ?_ | refine q_tn ?_ | refine q_tr ?_ | refine q_tx ?_ | refine q_bn ?_ | refine q_br ?_ | refine q_bx ?_ | refine q_by (by decide) ?_)
            (refine FinQ hQ (congrArg Array.toList Tryd.results61) _ _ ?_); simp (disch := omega) only [u, i64, ax, if_true, forall_const, reduceCtorEq, implies_true, tvs, bf]
            all_goals rfl
          · have kg : g < exp := by omega
            generalize 1 - g - ((p : Int) - 1) = T at *
            refine RetN_start Tryd.func61 (by kernel_rfl) rfl fun Q hQ hQ2 => ?_; rw [Tryd.ntmps61]; simp only [u, i64, Nat.reduceSub, Nat.reduceAdd, bm]
            repeat (first | ((first | refine Gs ?_ | refine Gr ?_); simp (disch := omega) only [u, i64, ax, eq_self, if_true, if_false, Nat.reduceAdd, Int.reduceToNat, Int.reduceAdd, tvs, bs]; refine aA ?_) | refine G_seq ?_ | refine G_block ?_ | refine G_condT rfl ?_ | refine G_condF rfl ?_ | refine G_skip ?_ | refine G_ret ?_ | refine G_exit ?_ | refine q_tn ?_ | refine q_tr ?_ | refine q_tx ?_ | refine q_bn ?_ | refine q_br ?_ | refine q_bx ?_ | refine q_by (by decide) ?_)
            ((first | refine Gs ?_ | refine Gr ?_); simp (disch := omega) only [u, i64, ax, eq_self, if_true, if_false, Nat.reduceAdd, Int.reduceToNat, Int.reduceAdd, tvs, bs])
            simp (disch := omega) only [u, i64, ax, eq_self, if_true, if_false, Nat.reduceAdd, Int.reduceToNat, Int.reduceAdd, tvs, bs, Nat.reduceMul, List.take_succ_cons, List.take_zero, List.nil_append, List.cons_append, List.append_nil, Nat.reduceLeDiff]
            repeat (first | ((first | refine Gs ?_ | refine Gr ?_); simp (disch := omega) only [u, i64, ax, eq_self, if_true, if_false, Nat.reduceAdd, Int.reduceToNat, Int.reduceAdd, tvs, bs]; first | refine aA ?_ | ((first | refine cR hA ?_ | refine cR hT ?_); simp (disch := omega) only [u, i64, ax, eq_self, if_true, if_false, Nat.reduceAdd, Int.reduceToNat, Int.reduceAdd, tvs, bs]; try refine aA ?_)) | ((first | refine cR hA ?_ | refine cR hT ?_); simp (disch := omega) only [u, i64, ax, eq_self, if_true, if_false, Nat.reduceAdd, Int.reduceToNat, Int.reduceAdd, tvs, bs]; try refine aA ?_) | refine G_seq ?_ | refine G_block ?_ | refine G_condT rfl ?_ | refine G_condF rfl ?_ | refine G_skip ?_ | refine G_ret ?_ | refine G_exit ?_ | refine q_tn ?_ | refine q_tr ?_ | refine q_tx ?_ | refine q_bn ?_ | refine q_br ?_ | refine q_bx ?_ | refine q_by (by decide) ?_)
            (refine FinQ hQ (congrArg Array.toList Tryd.results61) _ _ ?_); simp (disch := omega) only [u, i64, ax, if_true, forall_const, reduceCtorEq, implies_true, tvs, bf]
            all_goals rfl
      · have k0 : kd = 0 := by omega
        have kt : ¬ exp < 1 - g - ((p : Int) - 1) := by omega
        have kg : ¬ g < exp := by omega
        have k1 : ¬ kd = 1 := by omega
        subst k0
        have hM0 : ∀ k : Nat, k ≤ 14000 → Ret Tryd.prog GEs 126 [nat c, nat (10 ^ k)] (nat (c * 10 ^ k)) := fun k hk => by
          have := ret_Mul (words c) (words (10 ^ k)) (Wd_words _) (Wd_words _) (by omega) (by have := tl k hk; omega)
          rwa [val_words, val_words] at this
        have hH : ∀ N : Nat, (words N).length ≤ 2000 → Ret Tryd.prog GEs 129 [cx p g r, .agg [i64 0, .bool ng, nat N, i64 exp]] (.bool (decide (inD p g ⟨0, ng, N, exp⟩))) := fun N hN => ret_holds p g r ⟨0, ng, N, exp⟩ hp hg (by show 0 ≤ 2; decide) hN (by show -3000000 ≤ exp ∧ exp ≤ 3000000; omega)
        by_cases hx : e < exp
        · have hcast : exp - e = (((exp - e).toNat : Nat) : Int) := by omega
          have hmax : max (0 : Int) (e - exp) = ((0 : Nat) : Int) := by omega
          have hT0 := ret_Ten 0 (by decide)
          have hM := hM0 0 (by decide)
          have hT2 := ret_Ten (exp - e).toNat (by omega)
          have hQu := ret_Quotient r hr ng (words c) (words (10 ^ (exp - e).toNat)) (Wd_words _) (Wd_words _) (by omega) (by have := tl (exp - e).toNat (by omega); omega) (by rw [val_words]; exact Nat.ne_of_gt (ten_pos _))
          rw [val_words, val_words] at hQu
          have hNl : (words (quoN r ng c (10 ^ (exp - e).toNat))).length ≤ 2000 := by
            have h1 := length_mono (quoN_small r ng c (10 ^ (exp - e).toNat))
            have h2 := length_add c 1
            have h3 : (words 1).length ≤ 1 := length_le (by decide)
            omega
          have hH := hH _ hNl
          have e1 : quantD p g r ⟨0, ng, c, e⟩ exp = if inD p g ⟨0, ng, quoN r ng c (10 ^ (exp - e).toNat), exp⟩ then (⟨0, ng, quoN r ng c (10 ^ (exp - e).toNat), exp⟩, if decide (c % 10 ^ (exp - e).toNat = 0) = true then 0 else 1) else (nanD, 16) := by
            unfold quantD quantN quantX
            simp only
            rw [if_neg k2, if_neg kx, if_pos hx, if_pos hx]
          rw [e1]
          generalize quoN r ng c (10 ^ (exp - e).toNat) = N at *
          generalize decide (c % 10 ^ (exp - e).toNat = 0) = ex at *
          generalize (exp - e).toNat = t at *
          generalize 10 ^ t = TT at *
          generalize c * 10 ^ 0 = M0 at *
          generalize 10 ^ 0 = T0 at *
          clear hM0 tl
          by_cases hin : inD p g ⟨0, ng, N, exp⟩
          · rw [decT hin] at hH
            rw [if_pos hin]
            cases ex with
            | true =>
              rw [if_pos rfl]
              clear hin e1
              unfold dv cx at *
              simp only at *
              generalize 1 - g - ((p : Int) - 1) = T at *
              refine RetN_start Tryd.func61 (by kernel_rfl) rfl fun Q hQ hQ2 => ?_; rw [Tryd.ntmps61]; simp only [u, i64, Nat.reduceSub, Nat.reduceAdd, bm]
              repeat (first | ((first | refine Gs ?_ | refine Gr ?_); simp (disch := omega) only [u, i64, ax, eq_self, if_true, if_false, Nat.reduceAdd, Int.reduceToNat, Int.reduceAdd, tvs, bs]; refine aA ?_) | refine G_seq ?_ | refine G_block ?_ | refine G_condT rfl ?_ | refine G_condF rfl ?_ | refine G_skip ?_ | refine G_ret ?_ | refine G_exit ?_ | refine q_tn ?_ | refine q_tr ?_ | refine q_tx ?_ | refine q_bn ?_ | refine q_br ?_ | refine q_bx ?_ | refine q_by (by decide) ?_)
              ((first | refine Gs ?_ | refine Gr ?_); simp (disch := omega) only [u, i64, ax, eq_self, if_true, if_false, Nat.reduceAdd, Int.reduceToNat, Int.reduceAdd, tvs, bs])
              simp (disch := omega) only [u, i64, ax, eq_self, if_true, if_false, Nat.reduceAdd, Int.reduceToNat, Int.reduceAdd, tvs, bs, Nat.reduceMul, List.take_succ_cons, List.take_zero, List.nil_append, List.cons_append, List.append_nil, Nat.reduceLeDiff]
              repeat (first | ((first | refine Gs ?_ | refine Gr ?_); simp (disch := omega) only [u, i64, ax, eq_self, if_true, if_false, Nat.reduceAdd, Int.reduceToNat, Int.reduceAdd, tvs, bs]; first | refine aA ?_ | ((first | refine cR hA ?_ | refine cR hT ?_ | refine cR hT0 ?_ | refine cR hM ?_); simp (disch := omega) only [u, i64, ax, eq_self, if_true, if_false, Nat.reduceAdd, Int.reduceToNat, Int.reduceAdd, tvs, bs]; try refine aA ?_)) | ((first | refine cR hA ?_ | refine cR hT ?_ | refine cR hT0 ?_ | refine cR hM ?_); simp (disch := omega) only [u, i64, ax, eq_self, if_true, if_false, Nat.reduceAdd, Int.reduceToNat, Int.reduceAdd, tvs, bs]; try refine aA ?_) | refine G_seq ?_ | refine G_block ?_ | refine G_condT rfl ?_ | refine G_condF rfl ?_ | refine G_skip ?_ | refine G_ret ?_ | refine G_exit ?_ | refine q_tn ?_ | refine q_tr ?_ | refine q_tx ?_ | refine q_bn ?_ | refine q_br ?_ | refine q_bx ?_ | refine q_by (by decide) ?_)
              ((first | refine Gs ?_ | refine Gr ?_); simp (disch := omega) only [u, i64, ax, eq_self, if_true, if_false, Nat.reduceAdd, Int.reduceToNat, Int.reduceAdd, tvs, bs])
              rw [hcast]
              repeat (first | ((first | refine Gs ?_ | refine Gr ?_); simp (disch := omega) only [u, i64, ax, eq_self, if_true, if_false, Nat.reduceAdd, Int.reduceToNat, Int.reduceAdd, tvs, bs]; first | refine aA ?_ | ((first | refine cR hT2 ?_ | refine cR hQu ?_ | refine cR hH ?_); simp (disch := omega) only [u, i64, ax, eq_self, if_true, if_false, Nat.reduceAdd, Int.reduceToNat, Int.reduceAdd, tvs, bs]; try refine aA ?_)) | ((first | refine cR hT2 ?_ | refine cR hQu ?_ | refine cR hH ?_); simp (disch := omega) only [u, i64, ax, eq_self, if_true, if_false, Nat.reduceAdd, Int.reduceToNat, Int.reduceAdd, tvs, bs]; try refine aA ?_) | refine G_seq ?_ | refine G_block ?_ | refine G_condT rfl ?_ | refine G_condF rfl ?_ | refine G_skip ?_ | refine G_ret ?_ | refine G_exit ?_ | refine q_tn ?_ | refine q_tr ?_ | refine q_tx ?_ | refine q_bn ?_ | refine q_br ?_ | refine q_bx ?_ | refine q_by (by decide) ?_)
              (refine FinQ hQ (congrArg Array.toList Tryd.results61) _ _ ?_); simp (disch := omega) only [u, i64, ax, if_true, forall_const, reduceCtorEq, implies_true, tvs, bf]
              all_goals rfl
            | false =>
              rw [if_neg (by decide)]
              clear hin e1
              unfold dv cx at *
              simp only at *
              generalize 1 - g - ((p : Int) - 1) = T at *
              refine RetN_start Tryd.func61 (by kernel_rfl) rfl fun Q hQ hQ2 => ?_; rw [Tryd.ntmps61]; simp only [u, i64, Nat.reduceSub, Nat.reduceAdd, bm]
              repeat (first | ((first | refine Gs ?_ | refine Gr ?_); simp (disch := omega) only [u, i64, ax, eq_self, if_true, if_false, Nat.reduceAdd, Int.reduceToNat, Int.reduceAdd, tvs, bs]; refine aA ?_) | refine G_seq ?_ | refine G_block ?_ | refine G_condT rfl ?_ | refine G_condF rfl ?_ | refine G_skip ?_ | refine G_ret ?_ | refine G_exit ?_ | refine q_tn ?_ | refine q_tr ?_ | refine q_tx ?_ | refine q_bn ?_ | refine q_br ?_ | refine q_bx ?_ | refine q_by (by decide) ?_)
              ((first | refine Gs ?_ | refine Gr ?_); simp (disch := omega) only [u, i64, ax, eq_self, if_true, if_false, Nat.reduceAdd, Int.reduceToNat, Int.reduceAdd, tvs, bs])
              simp (disch := omega) only [u, i64, ax, eq_self, if_true, if_false, Nat.reduceAdd, Int.reduceToNat, Int.reduceAdd, tvs, bs, Nat.reduceMul, List.take_succ_cons, List.take_zero, List.nil_append, List.cons_append, List.append_nil, Nat.reduceLeDiff]
              repeat (first | ((first | refine Gs ?_ | refine Gr ?_); simp (disch := omega) only [u, i64, ax, eq_self, if_true, if_false, Nat.reduceAdd, Int.reduceToNat, Int.reduceAdd, tvs, bs]; first | refine aA ?_ | ((first | refine cR hA ?_ | refine cR hT ?_ | refine cR hT0 ?_ | refine cR hM ?_); simp (disch := omega) only [u, i64, ax, eq_self, if_true, if_false, Nat.reduceAdd, Int.reduceToNat, Int.reduceAdd, tvs, bs]; try refine aA ?_)) | ((first | refine cR hA ?_ | refine cR hT ?_ | refine cR hT0 ?_ | refine cR hM ?_); simp (disch := omega) only [u, i64, ax, eq_self, if_true, if_false, Nat.reduceAdd, Int.reduceToNat, Int.reduceAdd, tvs, bs]; try refine aA ?_) | refine G_seq ?_ | refine G_block ?_ | refine G_condT rfl ?_ | refine G_condF rfl ?_ | refine G_skip ?_ | refine G_ret ?_ | refine G_exit ?_ | refine q_tn ?_ | refine q_tr ?_ | refine q_tx ?_ | refine q_bn ?_ | refine q_br ?_ | refine q_bx ?_ | refine q_by (by decide) ?_)
              ((first | refine Gs ?_ | refine Gr ?_); simp (disch := omega) only [u, i64, ax, eq_self, if_true, if_false, Nat.reduceAdd, Int.reduceToNat, Int.reduceAdd, tvs, bs])
              rw [hcast]
              repeat (first | ((first | refine Gs ?_ | refine Gr ?_); simp (disch := omega) only [u, i64, ax, eq_self, if_true, if_false, Nat.reduceAdd, Int.reduceToNat, Int.reduceAdd, tvs, bs]; first | refine aA ?_ | ((first | refine cR hT2 ?_ | refine cR hQu ?_ | refine cR hH ?_); simp (disch := omega) only [u, i64, ax, eq_self, if_true, if_false, Nat.reduceAdd, Int.reduceToNat, Int.reduceAdd, tvs, bs]; try refine aA ?_)) | ((first | refine cR hT2 ?_ | refine cR hQu ?_ | refine cR hH ?_); simp (disch := omega) only [u, i64, ax, eq_self, if_true, if_false, Nat.reduceAdd, Int.reduceToNat, Int.reduceAdd, tvs, bs]; try refine aA ?_) | refine G_seq ?_ | refine G_block ?_ | refine G_condT rfl ?_ | refine G_condF rfl ?_ | refine G_skip ?_ | refine G_ret ?_ | refine G_exit ?_ | refine q_tn ?_ | refine q_tr ?_ | refine q_tx ?_ | refine q_bn ?_ | refine q_br ?_ | refine q_bx ?_ | refine q_by (by decide) ?_)
              (refine FinQ hQ (congrArg Array.toList Tryd.results61) _ _ ?_); simp (disch := omega) only [u, i64, ax, if_true, forall_const, reduceCtorEq, implies_true, tvs, bf]
              all_goals rfl
          · rw [decF hin] at hH
            rw [if_neg hin]
            clear hin e1
            unfold nanD dv cx at *
            simp only at *
            generalize 1 - g - ((p : Int) - 1) = T at *
            refine RetN_start Tryd.func61 (by kernel_rfl) rfl fun Q hQ hQ2 => ?_; rw [Tryd.ntmps61]; simp only [u, i64, Nat.reduceSub, Nat.reduceAdd, bm]
            repeat (first | ((first | refine Gs ?_ | refine Gr ?_); simp (disch := omega) only [u, i64, ax, eq_self, if_true, if_false, Nat.reduceAdd, Int.reduceToNat, Int.reduceAdd, tvs, bs]; refine aA ?_) | refine G_seq ?_ | refine G_block ?_ | refine G_condT rfl ?_ | refine G_condF rfl ?_ | refine G_skip ?_ | refine G_ret ?_ | refine G_exit ?_ | refine q_tn ?_ | refine q_tr ?_ | refine q_tx ?_ | refine q_bn ?_ | refine q_br ?_ | refine q_bx ?_ | refine q_by (by decide) ?_)
            ((first | refine Gs ?_ | refine Gr ?_); simp (disch := omega) only [u, i64, ax, eq_self, if_true, if_false, Nat.reduceAdd, Int.reduceToNat, Int.reduceAdd, tvs, bs])
            simp (disch := omega) only [u, i64, ax, eq_self, if_true, if_false, Nat.reduceAdd, Int.reduceToNat, Int.reduceAdd, tvs, bs, Nat.reduceMul, List.take_succ_cons, List.take_zero, List.nil_append, List.cons_append, List.append_nil, Nat.reduceLeDiff]
            repeat (first | ((first | refine Gs ?_ | refine Gr ?_); simp (disch := omega) only [u, i64, ax, eq_self, if_true, if_false, Nat.reduceAdd, Int.reduceToNat, Int.reduceAdd, tvs, bs]; first | refine aA ?_ | ((first | refine cR hA ?_ | refine cR hT ?_ | refine cR hT0 ?_ | refine cR hM ?_); simp (disch := omega) only [u, i64, ax, eq_self, if_true, if_false, Nat.reduceAdd, Int.reduceToNat, Int.reduceAdd, tvs, bs]; try refine aA ?_)) | ((first | refine cR hA ?_ | refine cR hT ?_ | refine cR hT0 ?_ | refine cR hM ?_); simp (disch := omega) only [u, i64, ax, eq_self, if_true, if_false, Nat.reduceAdd, Int.reduceToNat, Int.reduceAdd, tvs, bs]; try refine aA ?_) | refine G_seq ?_ | refine G_block ?_ | refine G_condT rfl ?_ | refine G_condF rfl ?_ | refine G_skip ?_ | refine G_ret ?_ | refine G_exit ?_ | refine q_tn ?_ | refine q_tr ?_ | refine q_tx ?_ | refine q_bn ?_ | refine q_br ?_ | refine q_bx ?_ | refine q_by (by decide) ?_)
            ((first | refine Gs ?_ | refine Gr ?_); simp (disch := omega) only [u, i64, ax, eq_self, if_true, if_false, Nat.reduceAdd, Int.reduceToNat, Int.reduceAdd, tvs, bs])
            rw [hcast]
            repeat (first | ((first | refine Gs ?_ | refine Gr ?_); simp (disch := omega) only [u, i64, ax, eq_self, if_true, if_false, Nat.reduceAdd, Int.reduceToNat, Int.reduceAdd, tvs, bs]; first | refine aA ?_ | ((first | refine cR hT2 ?_ | refine cR hQu ?_ | refine cR hH ?_); simp (disch := omega) only [u, i64, ax, eq_self, if_true, if_false, Nat.reduceAdd, Int.reduceToNat, Int.reduceAdd, tvs, bs]; try refine aA ?_)) | ((first | refine cR hT2 ?_ | refine cR hQu ?_ | refine cR hH ?_); simp (disch := omega) only [u, i64, ax, eq_self, if_true, if_false, Nat.reduceAdd, Int.reduceToNat, Int.reduceAdd, tvs, bs]; try refine aA ?_) | refine G_seq ?_ | refine G_block ?_ | refine G_condT rfl ?_ | refine G_condF rfl ?_ | refine G_skip ?_ | refine G_ret ?_ | refine G_exit ?_ | refine q_tn ?_ | refine q_tr ?_ | refine q_tx ?_ | refine q_bn ?_ | refine q_br ?_ | refine q_bx ?_ | refine q_by (by decide) ?_)
            (refine FinQ hQ (congrArg Array.toList Tryd.results61) _ _ ?_); simp (disch := omega) only [u, i64, ax, if_true, forall_const, reduceCtorEq, implies_true, tvs, bf]
            all_goals rfl
        · have hcast : e - exp = (((e - exp).toNat : Nat) : Int) := by omega
          have hT2 := ret_Ten (e - exp).toNat (by omega)
          have hM := hM0 (e - exp).toNat (by omega)
          have hNl : (words (c * 10 ^ (e - exp).toNat)).length ≤ 2000 := by
            have h1 := length_mul c (10 ^ (e - exp).toNat)
            have h2 := tl (e - exp).toNat (by omega)
            omega
          have hH := hH _ hNl
          have e1 : quantD p g r ⟨0, ng, c, e⟩ exp = if inD p g ⟨0, ng, c * 10 ^ (e - exp).toNat, exp⟩ then (⟨0, ng, c * 10 ^ (e - exp).toNat, exp⟩, 0) else (nanD, 16) := by
            unfold quantD quantN quantX
            simp only
            rw [if_neg k2, if_neg kx, if_neg hx, if_neg hx]
            rfl
          rw [e1]
          generalize c * 10 ^ (e - exp).toNat = N at *
          generalize (e - exp).toNat = t at *
          generalize 10 ^ t = TT at *
          clear hM0 tl
          by_cases hin : inD p g ⟨0, ng, N, exp⟩
          · rw [decT hin] at hH
            rw [if_pos hin]
            clear hin e1
            unfold dv cx at *
            simp only at *
            generalize 1 - g - ((p : Int) - 1) = T at *
            refine RetN_start Tryd.func61 (by kernel_rfl) rfl fun Q hQ hQ2 => ?_; rw [Tryd.ntmps61]; simp only [u, i64, Nat.reduceSub, Nat.reduceAdd, bm]
            repeat (first | ((first | refine Gs ?_ | refine Gr ?_); simp (disch := omega) only [u, i64, ax, eq_self, if_true, if_false, Nat.reduceAdd, Int.reduceToNat, Int.reduceAdd, tvs, bs]; refine aA ?_) | refine G_seq ?_ | refine G_block ?_ | refine G_condT rfl ?_ | refine G_condF rfl ?_ | refine G_skip ?_ | refine G_ret ?_ | refine G_exit ?_ | refine q_tn ?_ | refine q_tr ?_ | refine q_tx ?_ | refine q_bn ?_ | refine q_br ?_ | refine q_bx ?_ | refine q_by (by decide) ?_)
            ((first | refine Gs ?_ | refine Gr ?_); simp (disch := omega) only [u, i64, ax, eq_self, if_true, if_false, Nat.reduceAdd, Int.reduceToNat, Int.reduceAdd, tvs, bs])
            simp (disch := omega) only [u, i64, ax, eq_self, if_true, if_false, Nat.reduceAdd, Int.reduceToNat, Int.reduceAdd, tvs, bs, Nat.reduceMul, List.take_succ_cons, List.take_zero, List.nil_append, List.cons_append, List.append_nil, Nat.reduceLeDiff]
            repeat (first | ((first | refine Gs ?_ | refine Gr ?_); simp (disch := omega) only [u, i64, ax, eq_self, if_true, if_false, Nat.reduceAdd, Int.reduceToNat, Int.reduceAdd, tvs, bs]; first | refine aA ?_ | ((first | refine cR hA ?_ | refine cR hT ?_); simp (disch := omega) only [u, i64, ax, eq_self, if_true, if_false, Nat.reduceAdd, Int.reduceToNat, Int.reduceAdd, tvs, bs]; try refine aA ?_)) | ((first | refine cR hA ?_ | refine cR hT ?_); simp (disch := omega) only [u, i64, ax, eq_self, if_true, if_false, Nat.reduceAdd, Int.reduceToNat, Int.reduceAdd, tvs, bs]; try refine aA ?_) | refine G_seq ?_ | refine G_block ?_ | refine G_condT rfl ?_ | refine G_condF rfl ?_ | refine G_skip ?_ | refine G_ret ?_ | refine G_exit ?_ | refine q_tn ?_ | refine q_tr ?_ | refine q_tx ?_ | refine q_bn ?_ | refine q_br ?_ | refine q_bx ?_ | refine q_by (by decide) ?_)
            ((first | refine Gs ?_ | refine Gr ?_); simp (disch := omega) only [u, i64, ax, eq_self, if_true, if_false, Nat.reduceAdd, Int.reduceToNat, Int.reduceAdd, tvs, bs])
            rw [hcast]
            repeat (first | ((first | refine Gs ?_ | refine Gr ?_); simp (disch := omega) only [u, i64, ax, eq_self, if_true, if_false, Nat.reduceAdd, Int.reduceToNat, Int.reduceAdd, tvs, bs]; first | refine aA ?_ | ((first | refine cR hT2 ?_ | refine cR hM ?_ | refine cR hH ?_); simp (disch := omega) only [u, i64, ax, eq_self, if_true, if_false, Nat.reduceAdd, Int.reduceToNat, Int.reduceAdd, tvs, bs]; try refine aA ?_)) | ((first | refine cR hT2 ?_ | refine cR hM ?_ | refine cR hH ?_); simp (disch := omega) only [u, i64, ax, eq_self, if_true, if_false, Nat.reduceAdd, Int.reduceToNat, Int.reduceAdd, tvs, bs]; try refine aA ?_) | refine G_seq ?_ | refine G_block ?_ | refine G_condT rfl ?_ | refine G_condF rfl ?_ | refine G_skip ?_ | refine G_ret ?_ | refine G_exit ?_ | refine q_tn ?_ | refine q_tr ?_ | refine q_tx ?_ | refine q_bn ?_ | refine q_br ?_ | refine q_bx ?_ | refine q_by (by decide) ?_)
            (refine FinQ hQ (congrArg Array.toList Tryd.results61) _ _ ?_); simp (disch := omega) only [u, i64, ax, if_true, forall_const, reduceCtorEq, implies_true, tvs, bf]
            all_goals rfl
          · rw [decF hin] at hH
            rw [if_neg hin]
            clear hin e1
            unfold nanD dv cx at *
            simp only at *
            generalize 1 - g - ((p : Int) - 1) = T at *
            refine RetN_start Tryd.func61 (by kernel_rfl) rfl fun Q hQ hQ2 => ?_; rw [Tryd.ntmps61]; simp only [u, i64, Nat.reduceSub, Nat.reduceAdd, bm]
            repeat (first | ((first | refine Gs ?_ | refine Gr ?_); simp (disch := omega) only [u, i64, ax, eq_self, if_true, if_false, Nat.reduceAdd, Int.reduceToNat, Int.reduceAdd, tvs, bs]; refine aA ?_) | refine G_seq ?_ | refine G_block ?_ | refine G_condT rfl ?_ | refine G_condF rfl ?_ | refine G_skip ?_ | refine G_ret ?_ | refine G_exit ?_ | refine q_tn ?_ | refine q_tr ?_ | refine q_tx ?_ | refine q_bn ?_ | refine q_br ?_ | refine q_bx ?_ | refine q_by (by decide) ?_)
            ((first | refine Gs ?_ | refine Gr ?_); simp (disch := omega) only [u, i64, ax, eq_self, if_true, if_false, Nat.reduceAdd, Int.reduceToNat, Int.reduceAdd, tvs, bs])
            simp (disch := omega) only [u, i64, ax, eq_self, if_true, if_false, Nat.reduceAdd, Int.reduceToNat, Int.reduceAdd, tvs, bs, Nat.reduceMul, List.take_succ_cons, List.take_zero, List.nil_append, List.cons_append, List.append_nil, Nat.reduceLeDiff]
            repeat (first | ((first | refine Gs ?_ | refine Gr ?_); simp (disch := omega) only [u, i64, ax, eq_self, if_true, if_false, Nat.reduceAdd, Int.reduceToNat, Int.reduceAdd, tvs, bs]; first | refine aA ?_ | ((first | refine cR hA ?_ | refine cR hT ?_); simp (disch := omega) only [u, i64, ax, eq_self, if_true, if_false, Nat.reduceAdd, Int.reduceToNat, Int.reduceAdd, tvs, bs]; try refine aA ?_)) | ((first | refine cR hA ?_ | refine cR hT ?_); simp (disch := omega) only [u, i64, ax, eq_self, if_true, if_false, Nat.reduceAdd, Int.reduceToNat, Int.reduceAdd, tvs, bs]; try refine aA ?_) | refine G_seq ?_ | refine G_block ?_ | refine G_condT rfl ?_ | refine G_condF rfl ?_ | refine G_skip ?_ | refine G_ret ?_ | refine G_exit ?_ | refine q_tn ?_ | refine q_tr ?_ | refine q_tx ?_ | refine q_bn ?_ | refine q_br ?_ | refine q_bx ?_ | refine q_by (by decide) ?_)
            ((first | refine Gs ?_ | refine Gr ?_); simp (disch := omega) only [u, i64, ax, eq_self, if_true, if_false, Nat.reduceAdd, Int.reduceToNat, Int.reduceAdd, tvs, bs])
            rw [hcast]
            repeat (first | ((first | refine Gs ?_ | refine Gr ?_); simp (disch := omega) only [u, i64, ax, eq_self, if_true, if_false, Nat.reduceAdd, Int.reduceToNat, Int.reduceAdd, tvs, bs]; first | refine aA ?_ | ((first | refine cR hT2 ?_ | refine cR hM ?_ | refine cR hH ?_); simp (disch := omega) only [u, i64, ax, eq_self, if_true, if_false, Nat.reduceAdd, Int.reduceToNat, Int.reduceAdd, tvs, bs]; try refine aA ?_)) | ((first | refine cR hT2 ?_ | refine cR hM ?_ | refine cR hH ?_); simp (disch := omega) only [u, i64, ax, eq_self, if_true, if_false, Nat.reduceAdd, Int.reduceToNat, Int.reduceAdd, tvs, bs]; try refine aA ?_) | refine G_seq ?_ | refine G_block ?_ | refine G_condT rfl ?_ | refine G_condF rfl ?_ | refine G_skip ?_ | refine G_ret ?_ | refine G_exit ?_ | refine q_tn ?_ | refine q_tr ?_ | refine q_tx ?_ | refine q_bn ?_ | refine q_br ?_ | refine q_bx ?_ | refine q_by (by decide) ?_)
            (refine FinQ hQ (congrArg Array.toList Tryd.results61) _ _ ?_); simp (disch := omega) only [u, i64, ax, if_true, forall_const, reduceCtorEq, implies_true, tvs, bf]
            all_goals rfl
  · rw [if_neg h] at hA ⊢
    rw [dvz]
    unfold DI.av cx at *
    refine RetN_start Tryd.func61 (by kernel_rfl) rfl fun Q hQ hQ2 => ?_; rw [Tryd.ntmps61]; simp only [u, i64, Nat.reduceSub, Nat.reduceAdd, bm]
    repeat (first | ((first | refine Gs ?_ | refine Gr ?_); simp (disch := omega) only [u, i64, ax, eq_self, if_true, if_false, Nat.reduceAdd, Int.reduceToNat, Int.reduceAdd, tvs, bs]; refine aA ?_) | refine G_seq ?_ | refine G_block ?_ | refine G_condT rfl ?_ | refine G_condF rfl ?_ | refine G_skip ?_ | refine G_ret ?_ | refine G_exit ?_ | refine q_tn ?_ | refine q_tr ?_ | refine q_tx ?_ | refine q_bn ?_ | refine q_br ?_ | refine q_bx ?_ | refine q_by (by decide) ?_)
    ((first | refine Gs ?_ | refine Gr ?_); simp (disch := omega) only [u, i64, ax, eq_self, if_true, if_false, Nat.reduceAdd, Int.reduceToNat, Int.reduceAdd, tvs, bs])
    simp (disch := omega) only [u, i64, ax, eq_self, if_true, if_false, Nat.reduceAdd, Int.reduceToNat, Int.reduceAdd, tvs, bs, Nat.reduceMul, List.take_succ_cons, List.take_zero, List.nil_append, List.cons_append, List.append_nil, Nat.reduceLeDiff]
    repeat (first | ((first | refine Gs ?_ | refine Gr ?_); simp (disch := omega) only [u, i64, ax, eq_self, if_true, if_false, Nat.reduceAdd, Int.reduceToNat, Int.reduceAdd, tvs, bs]; first | refine aA ?_ | (refine cR hA ?_; simp (disch := omega) only [u, i64, ax, eq_self, if_true, if_false, Nat.reduceAdd, Int.reduceToNat, Int.reduceAdd, tvs, bs]; try refine aA ?_)) | (refine cR hA ?_; simp (disch := omega) only [u, i64, ax, eq_self, if_true, if_false, Nat.reduceAdd, Int.reduceToNat, Int.reduceAdd, tvs, bs]; try refine aA ?_) | refine G_seq ?_ | refine G_block ?_ | refine G_condT rfl ?_ | refine G_condF rfl ?_ | refine G_skip ?_ | refine G_ret ?_ | refine G_exit ?_ | refine q_tn ?_ | refine q_tr ?_ | refine q_tx ?_ | refine q_bn ?_ | refine q_br ?_ | refine q_bx ?_ | refine q_by (by decide) ?_)
    (refine FinQ hQ (congrArg Array.toList Tryd.results61) _ _ ?_); simp (disch := omega) only [u, i64, ax, if_true, forall_const, reduceCtorEq, implies_true, tvs, bf]
end Go.Proofs
set_option linter.unusedVariables false
namespace Go.Proofs
open Go.Ax
end Go.Proofs
set_option linter.unusedVariables false
set_option linter.unusedSimpArgs false
namespace Go.Proofs
open Go.Ax
end Go.Proofs
set_option linter.unusedVariables false
set_option linter.unusedSimpArgs false
namespace Go.Proofs
open Go.Ax
end Go.Proofs
set_option linter.unusedVariables false
set_option linter.unusedSimpArgs false
namespace Go.Proofs
open Go.Ax
end Go.Proofs
set_option linter.unusedVariables false
set_option linter.unusedSimpArgs false
namespace Go.Proofs
open Go.Ax
end Go.Proofs
set_option linter.unusedVariables false
set_option linter.unusedSimpArgs false
namespace Go.Proofs
open Go.Ax
end Go.Proofs
set_option linter.unusedVariables false
namespace Go.Proofs
open Go.Ax
section
variable {K : Nat}
/-- A row in which a piece is put in the place of another one. -/
def put (U R : List Nat) (j : Nat) : List Nat := U.take j ++ (R ++ U.drop (j + R.length))
end
end Go.Proofs
