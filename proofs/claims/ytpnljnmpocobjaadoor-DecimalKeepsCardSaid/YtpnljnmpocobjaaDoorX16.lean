/-
  Contracts of functions of the program, each proved by a walk.
-/
import Derived.Test.YtpnljnmpocobjaaDoorX15
set_option maxRecDepth 100000
set_option maxHeartbeats 4000000
set_option linter.unusedVariables false
set_option linter.unusedSimpArgs false
set_option maxRecDepth 100000
namespace Go.Proofs
open Go.Ax
theorem redD_twice (x : DV) (hr : rightD x) : redD (redD x) = redD x := by
  unfold redD
  by_cases k0 : x.kind = 0
  · rw [if_pos k0]
    by_cases c0 : x.coef = 0
    · rw [if_pos c0]
      simp only
      rw [if_pos trivial, if_pos c0]
    · rw [if_neg c0]
      simp only
      obtain ⟨m1, m2⟩ := sm_mul c0
      obtain ⟨e1, e2⟩ := strip_done (n := sm x.coef) (x := sm x.coef) (k := 0) (by rw [Nat.pow_zero, Nat.mul_one]) m2
      rw [if_pos trivial, if_neg (sm_ne c0), e1, e2, Int.natCast_zero, Int.add_zero]
  · rw [if_neg k0, if_neg k0]
theorem cmpD_red (x : DV) (hr : rightD x) (hk : x.kind ≤ 1) : cmpD x (redD x) = 0 := by
  by_cases k0 : x.kind = 0
  · by_cases c0 : x.coef = 0
    · have hs : sgD x = 0 := by unfold sgD; rw [if_pos ⟨k0, c0⟩]
      have hs2 : sgD (redD x) = 0 := by unfold sgD redD; rw [if_pos k0, if_pos c0, if_pos ⟨rfl, c0⟩]
      unfold cmpD
      rw [hs, hs2, if_neg (by decide), if_neg (by decide), if_pos rfl]
    · have e : redD x = ⟨0, x.neg, sm x.coef, x.exp + st x.coef⟩ := by unfold redD; rw [if_pos k0, if_neg c0]
      have hs : sgD x = if x.neg = true then -1 else 1 := by unfold sgD; rw [if_neg (fun h => c0 h.2)]
      have hs2 : sgD (redD x) = if x.neg = true then -1 else 1 := by rw [e]; unfold sgD; rw [if_neg (fun h => sm_ne c0 h.2)]
      have hne : sgD x ≠ 0 := by rw [hs]; split <;> decide
      have hd := dg_sm c0
      unfold cmpD
      rw [hs2, ← hs, if_neg (Int.lt_irrefl _), if_neg (Int.lt_irrefl _), if_neg hne, if_neg (by omega), e]
      simp only
      rw [if_neg (by decide), if_neg (by omega), if_neg (by omega)]
      have hm : min x.exp (x.exp + (st x.coef : Int)) = x.exp := by omega
      rw [hm, Int.sub_self, show (x.exp + (st x.coef : Int) - x.exp).toNat = st x.coef by omega, Int.toNat_zero, Nat.pow_zero, Nat.mul_one, ← (sm_mul c0).1]
      have : cmpI x.coef x.coef = 0 := (cmpI_sign _ _).2.2.1.2 rfl
      rw [this, Int.mul_zero]
  · have k1 : x.kind = 1 := by omega
    have e : redD x = x := by unfold redD; rw [if_neg k0]
    rw [e]
    unfold cmpD
    rw [if_neg (Int.lt_irrefl _), if_neg (Int.lt_irrefl _)]
    split
    · rfl
    · simp [k1]
theorem quantD_self (p : Nat) (g : Int) (r : Nat) (x : DV) (hp : 1 ≤ p) (hk : x.kind = 0) (hr : rightD x) (h : inD p g x) : quantD p g r x x.exp = (x, 0) := by
  have he := (inD_exp hp hr h).1 hk
  have hN : quantN r x x.exp = x.coef := by unfold quantN; rw [if_neg (Int.lt_irrefl _), Int.sub_self, Int.toNat_zero, Nat.pow_zero, Nat.mul_one]
  have hX : quantX x x.exp = true := by unfold quantX; rw [if_neg (Int.lt_irrefl _)]
  have ex : (⟨0, x.neg, x.coef, x.exp⟩ : DV) = x := by
    obtain ⟨k, n, c, e⟩ := x
    simp only at hk
    rw [hk]
  unfold quantD
  rw [if_neg (by omega), if_neg (by omega), hN, hX, ex, if_pos h, if_pos rfl]
theorem ret_sameTo (d : DI) (h : d.ok) (hg : d.good) : Ret Tryd.prog GEs 51 [dv d.D, d.av] (.bool true) := by
  obtain ⟨q1, q2, q3⟩ := goodD_right hg
  have hl := d.len_le h
  have hS := ret_DSame (toDI d.D) d (toDI_ok q1 hl) h
  have hs : sameD (toDI d.D) d := ⟨toDI_good q1, hg, by show ((d.k.toNat : Nat) : Int) = d.k; omega, rfl, rfl, by show val (words (val d.cs)) = val d.cs; rw [val_words]⟩
  rw [decT hs] at hS
  exact hS
set_option maxHeartbeats 40000000 in
theorem ret_LawDecimalKeeps (p g r : Int) (r1 : -9223372036854775808 ≤ r) (r2 : r < 9223372036854775808) (d : DI) (hd : d.pre) : Ret Tryd.prog GEs 13 [cx p g r, d.av] (.bool true) := by
  have hS := ret_Short1 d hd.len
  by_cases hs : d.cs.length ≤ 40
  · rw [decT hs] at hS
    have h1 := hd.ok hs
    by_cases hC : okC p g r
    · obtain ⟨hp, hg, hr⟩ := hC
      obtain ⟨p, rfl⟩ := Int.eq_ofNat_of_zero_le (show 0 ≤ p by omega)
      obtain ⟨r, rfl⟩ := Int.eq_ofNat_of_zero_le (show 0 ≤ r by omega)
      have hA := ret_Args22_1 p g r _ d (ret_Check22_1 p g r (by omega) hg (by omega) d h1)
      by_cases hb : d.okIn p g
      · rw [if_pos hb] at hA
        have rd := (goodD_right hb.1).1
        have q2 := (goodD_right hb.1).2
        have hl := d.len_le h1
        obtain ⟨i1, i2⟩ := redD_in (p := p) (g := g) (by omega) hg rd hb.2
        have il := in_len (p := p) (g := g) (by omega) i1 i2
        obtain ⟨f1, f2, f3, f4⟩ := okIn_facts (by omega) hg hb
        have hP := ret_DPlus p g r (by omega) hg (by omega) d h1
        rw [if_pos hb.1] at hP
        have hpl : plusD p g r d.D = (d.D, 0) := by
          unfold plusD
          split
          · rename_i k0; exact finD0_self p g r d.D k0 hb.2
          · rfl
        rw [hpl] at hP
        have hQz := ret_DQuantize p g r (by omega) hg (by omega) d h1 d.e (by show -1000000 ≤ d.D.exp ∧ d.D.exp ≤ 1000000; omega)
        rw [if_pos hb] at hQz
        have hR := ret_DReduce p g r (by omega) hg (by omega) d h1
        rw [if_pos hb] at hR
        have hR2 := ret_DReduce p g r (by omega) hg (by omega) (toDI (redD d.D)) (toDI_ok i1 il)
        rw [if_pos (show DI.okIn p g (toDI (redD d.D)) from ⟨toDI_good i1, by rw [toDI_D]; exact i2⟩), toDI_D, redD_twice d.D rd] at hR2
        have hCm := ret_DCompare d (toDI (redD d.D)) h1 (toDI_ok i1 il)
        rw [if_pos ⟨hb.1, toDI_good i1⟩, toDI_D] at hCm
        have s1 := ret_sameTo d h1 hb.1
        have s2 := ret_sameSelf (redD d.D) i1 il
        have hk : ((d.D.kind : Nat) : Int) = d.k := by show ((d.k.toNat : Nat) : Int) = d.k; omega
        have kr : (redD d.D).kind = d.D.kind := by
          unfold redD
          split
          · rename_i k0
            split
            · exact k0.symm
            · exact k0.symm
          · rfl
        rw [show (toDI (redD d.D)).av = dv (redD d.D) from rfl] at hR2 hCm
        by_cases k0 : d.D.kind = 0
        · have hq0 := quantD_self p g r d.D (by omega) k0 rd hb.2
          rw [show d.D.exp = d.e from rfl] at hq0
          rw [hq0] at hQz
          rw [if_neg (by omega), cmpD_red d.D rd (by omega)] at hCm
          have dk : d.k = 0 := by omega
          generalize redD d.D = y at *
          generalize d.D = x at *
          clear rd hl i1 i2 il f1 f2 f3 f4 hpl hk kr k0 hq0 q2 hb h1
          unfold DI.av dv cx at *
          refine RetN_start Tryd.func13 (by kernel_rfl) rfl fun Q hQ hQ2 => ?_; rw [Tryd.ntmps13]; simp only [u, i64, Nat.reduceSub, Nat.reduceAdd, bm]
          repeat (first | ((first | refine Gs ?_ | refine Gr ?_); simp (disch := omega) only [u, i64, ax, eq_self, if_true, if_false, Nat.reduceAdd, Int.reduceToNat, Int.reduceAdd, tvs, bs]; refine aA ?_) | refine G_seq ?_ | refine G_block ?_ | refine G_condT rfl ?_ | refine G_condF rfl ?_ | refine G_skip ?_ | refine G_ret ?_ | refine G_exit ?_ | refine q_tn ?_ | refine q_tr ?_ | refine q_tx ?_ | refine q_bn ?_ | refine q_br ?_ | refine q_bx ?_ | refine q_by (by decide) ?_)
          ((first | refine Gs ?_ | refine Gr ?_); simp (disch := omega) only [u, i64, ax, eq_self, if_true, if_false, Nat.reduceAdd, Int.reduceToNat, Int.reduceAdd, tvs, bs])
          simp (disch := omega) only [u, i64, ax, eq_self, if_true, if_false, Nat.reduceAdd, Int.reduceToNat, Int.reduceAdd, tvs, bs, Nat.reduceMul, List.take_succ_cons, List.take_zero, List.nil_append, List.cons_append, List.append_nil, Nat.reduceLeDiff]
          (refine cR hS ?_; simp (disch := omega) only [u, i64, ax, eq_self, if_true, if_false, Nat.reduceAdd, Int.reduceToNat, Int.reduceAdd, tvs, bs]; try refine aA ?_)
          simp (disch := omega) only [u, i64, ax, eq_self, if_true, if_false, Nat.reduceAdd, Int.reduceToNat, Int.reduceAdd, tvs, bs, Nat.reduceMul, List.take_succ_cons, List.take_zero, List.nil_append, List.cons_append, List.append_nil, Nat.reduceLeDiff]
          repeat (first | ((first | refine Gs ?_ | refine Gr ?_); simp (disch := omega) only [u, i64, ax, eq_self, if_true, if_false, Nat.reduceAdd, Int.reduceToNat, Int.reduceAdd, tvs, bs]; first | refine aA ?_ | ((first | refine cR hA ?_ | refine cR hP ?_ | refine cR hQz ?_ | refine cR hR ?_ | refine cR hR2 ?_ | refine cR hCm ?_ | refine cR s1 ?_ | refine cR s2 ?_ | refine cR ret_awake22 ?_); simp (disch := omega) only [u, i64, ax, eq_self, if_true, if_false, Nat.reduceAdd, Int.reduceToNat, Int.reduceAdd, tvs, bs]; try refine aA ?_)) | ((first | refine cR hA ?_ | refine cR hP ?_ | refine cR hQz ?_ | refine cR hR ?_ | refine cR hR2 ?_ | refine cR hCm ?_ | refine cR s1 ?_ | refine cR s2 ?_ | refine cR ret_awake22 ?_); simp (disch := omega) only [u, i64, ax, eq_self, if_true, if_false, Nat.reduceAdd, Int.reduceToNat, Int.reduceAdd, tvs, bs]; try refine aA ?_) | refine G_seq ?_ | refine G_block ?_ | refine G_condT rfl ?_ | refine G_condF rfl ?_ | refine G_skip ?_ | refine G_ret ?_ | refine G_exit ?_ | refine q_tn ?_ | refine q_tr ?_ | refine q_tx ?_ | refine q_bn ?_ | refine q_br ?_ | refine q_bx ?_ | refine q_by (by decide) ?_)
          (refine FinQ hQ (congrArg Array.toList Tryd.results13) _ _ ?_); simp (disch := omega) only [u, i64, ax, if_true, forall_const, reduceCtorEq, implies_true, tvs, bf]
        · have dk : ¬ d.k = 0 := by omega
          generalize quantD p g r d.D d.e = qz at *
          by_cases k2 : d.D.kind = 2
          · rw [if_pos (Or.inl k2)] at hCm
            have dk2 : d.k = 2 := by omega
            generalize redD d.D = y at *
            generalize d.D = x at *
            clear rd hl i1 i2 il f1 f2 f3 f4 hpl hk kr k0 q2 hb h1 k2
            unfold DI.av dv cx at *
            refine RetN_start Tryd.func13 (by kernel_rfl) rfl fun Q hQ hQ2 => ?_; rw [Tryd.ntmps13]; simp only [u, i64, Nat.reduceSub, Nat.reduceAdd, bm]
            repeat (first | ((first | refine Gs ?_ | refine Gr ?_); simp (disch := omega) only [u, i64, ax, eq_self, if_true, if_false, Nat.reduceAdd, Int.reduceToNat, Int.reduceAdd, tvs, bs]; refine aA ?_) | refine G_seq ?_ | refine G_block ?_ | refine G_condT rfl ?_ | refine G_condF rfl ?_ | refine G_skip ?_ | refine G_ret ?_ | refine G_exit ?_ | refine q_tn ?_ | refine q_tr ?_ | refine q_tx ?_ | refine q_bn ?_ | refine q_br ?_ | refine q_bx ?_ | refine q_by (by decide) ?_)
            ((first | refine Gs ?_ | refine Gr ?_); simp (disch := omega) only [u, i64, ax, eq_self, if_true, if_false, Nat.reduceAdd, Int.reduceToNat, Int.reduceAdd, tvs, bs])
            simp (disch := omega) only [u, i64, ax, eq_self, if_true, if_false, Nat.reduceAdd, Int.reduceToNat, Int.reduceAdd, tvs, bs, Nat.reduceMul, List.take_succ_cons, List.take_zero, List.nil_append, List.cons_append, List.append_nil, Nat.reduceLeDiff]
            (refine cR hS ?_; simp (disch := omega) only [u, i64, ax, eq_self, if_true, if_false, Nat.reduceAdd, Int.reduceToNat, Int.reduceAdd, tvs, bs]; try refine aA ?_)
            simp (disch := omega) only [u, i64, ax, eq_self, if_true, if_false, Nat.reduceAdd, Int.reduceToNat, Int.reduceAdd, tvs, bs, Nat.reduceMul, List.take_succ_cons, List.take_zero, List.nil_append, List.cons_append, List.append_nil, Nat.reduceLeDiff]
            repeat (first | ((first | refine Gs ?_ | refine Gr ?_); simp (disch := omega) only [u, i64, ax, eq_self, if_true, if_false, Nat.reduceAdd, Int.reduceToNat, Int.reduceAdd, tvs, bs]; first | refine aA ?_ | ((first | refine cR hA ?_ | refine cR hP ?_ | refine cR hQz ?_ | refine cR hR ?_ | refine cR hR2 ?_ | refine cR hCm ?_ | refine cR s1 ?_ | refine cR s2 ?_ | refine cR ret_awake22 ?_); simp (disch := omega) only [u, i64, ax, eq_self, if_true, if_false, Nat.reduceAdd, Int.reduceToNat, Int.reduceAdd, tvs, bs]; try refine aA ?_)) | ((first | refine cR hA ?_ | refine cR hP ?_ | refine cR hQz ?_ | refine cR hR ?_ | refine cR hR2 ?_ | refine cR hCm ?_ | refine cR s1 ?_ | refine cR s2 ?_ | refine cR ret_awake22 ?_); simp (disch := omega) only [u, i64, ax, eq_self, if_true, if_false, Nat.reduceAdd, Int.reduceToNat, Int.reduceAdd, tvs, bs]; try refine aA ?_) | refine G_seq ?_ | refine G_block ?_ | refine G_condT rfl ?_ | refine G_condF rfl ?_ | refine G_skip ?_ | refine G_ret ?_ | refine G_exit ?_ | refine q_tn ?_ | refine q_tr ?_ | refine q_tx ?_ | refine q_bn ?_ | refine q_br ?_ | refine q_bx ?_ | refine q_by (by decide) ?_)
            (refine FinQ hQ (congrArg Array.toList Tryd.results13) _ _ ?_); simp (disch := omega) only [u, i64, ax, if_true, forall_const, reduceCtorEq, implies_true, tvs, bf]
          · rw [if_neg (by omega), cmpD_red d.D rd (by omega)] at hCm
            have dk2 : ¬ d.k = 2 := by omega
            generalize redD d.D = y at *
            generalize d.D = x at *
            clear rd hl i1 i2 il f1 f2 f3 f4 hpl hk kr k0 q2 hb h1 k2
            unfold DI.av dv cx at *
            refine RetN_start Tryd.func13 (by kernel_rfl) rfl fun Q hQ hQ2 => ?_; rw [Tryd.ntmps13]; simp only [u, i64, Nat.reduceSub, Nat.reduceAdd, bm]
            repeat (first | ((first | refine Gs ?_ | refine Gr ?_); simp (disch := omega) only [u, i64, ax, eq_self, if_true, if_false, Nat.reduceAdd, Int.reduceToNat, Int.reduceAdd, tvs, bs]; refine aA ?_) | refine G_seq ?_ | refine G_block ?_ | refine G_condT rfl ?_ | refine G_condF rfl ?_ | refine G_skip ?_ | refine G_ret ?_ | refine G_exit ?_ | refine q_tn ?_ | refine q_tr ?_ | refine q_tx ?_ | refine q_bn ?_ | refine q_br ?_ | refine q_bx ?_ | refine q_by (by decide) ?_)
            ((first | refine Gs ?_ | refine Gr ?_); simp (disch := omega) only [u, i64, ax, eq_self, if_true, if_false, Nat.reduceAdd, Int.reduceToNat, Int.reduceAdd, tvs, bs])
            simp (disch := omega) only [u, i64, ax, eq_self, if_true, if_false, Nat.reduceAdd, Int.reduceToNat, Int.reduceAdd, tvs, bs, Nat.reduceMul, List.take_succ_cons, List.take_zero, List.nil_append, List.cons_append, List.append_nil, Nat.reduceLeDiff]
            (refine cR hS ?_; simp (disch := omega) only [u, i64, ax, eq_self, if_true, if_false, Nat.reduceAdd, Int.reduceToNat, Int.reduceAdd, tvs, bs]; try refine aA ?_)
            simp (disch := omega) only [u, i64, ax, eq_self, if_true, if_false, Nat.reduceAdd, Int.reduceToNat, Int.reduceAdd, tvs, bs, Nat.reduceMul, List.take_succ_cons, List.take_zero, List.nil_append, List.cons_append, List.append_nil, Nat.reduceLeDiff]
            repeat (first | ((first | refine Gs ?_ | refine Gr ?_); simp (disch := omega) only [u, i64, ax, eq_self, if_true, if_false, Nat.reduceAdd, Int.reduceToNat, Int.reduceAdd, tvs, bs]; first | refine aA ?_ | ((first | refine cR hA ?_ | refine cR hP ?_ | refine cR hQz ?_ | refine cR hR ?_ | refine cR hR2 ?_ | refine cR hCm ?_ | refine cR s1 ?_ | refine cR s2 ?_ | refine cR ret_awake22 ?_); simp (disch := omega) only [u, i64, ax, eq_self, if_true, if_false, Nat.reduceAdd, Int.reduceToNat, Int.reduceAdd, tvs, bs]; try refine aA ?_)) | ((first | refine cR hA ?_ | refine cR hP ?_ | refine cR hQz ?_ | refine cR hR ?_ | refine cR hR2 ?_ | refine cR hCm ?_ | refine cR s1 ?_ | refine cR s2 ?_ | refine cR ret_awake22 ?_); simp (disch := omega) only [u, i64, ax, eq_self, if_true, if_false, Nat.reduceAdd, Int.reduceToNat, Int.reduceAdd, tvs, bs]; try refine aA ?_) | refine G_seq ?_ | refine G_block ?_ | refine G_condT rfl ?_ | refine G_condF rfl ?_ | refine G_skip ?_ | refine G_ret ?_ | refine G_exit ?_ | refine q_tn ?_ | refine q_tr ?_ | refine q_tx ?_ | refine q_bn ?_ | refine q_br ?_ | refine q_bx ?_ | refine q_by (by decide) ?_)
            (refine FinQ hQ (congrArg Array.toList Tryd.results13) _ _ ?_); simp (disch := omega) only [u, i64, ax, if_true, forall_const, reduceCtorEq, implies_true, tvs, bf]
      · rw [if_neg hb] at hA
        clear hb h1
        unfold DI.av cx at *
        refine RetN_start Tryd.func13 (by kernel_rfl) rfl fun Q hQ hQ2 => ?_; rw [Tryd.ntmps13]; simp only [u, i64, Nat.reduceSub, Nat.reduceAdd, bm]
        repeat (first | ((first | refine Gs ?_ | refine Gr ?_); simp (disch := omega) only [u, i64, ax, eq_self, if_true, if_false, Nat.reduceAdd, Int.reduceToNat, Int.reduceAdd, tvs, bs]; refine aA ?_) | refine G_seq ?_ | refine G_block ?_ | refine G_condT rfl ?_ | refine G_condF rfl ?_ | refine G_skip ?_ | refine G_ret ?_ | refine G_exit ?_ | refine q_tn ?_ | refine q_tr ?_ | refine q_tx ?_ | refine q_bn ?_ | refine q_br ?_ | refine q_bx ?_ | refine q_by (by decide) ?_)
        ((first | refine Gs ?_ | refine Gr ?_); simp (disch := omega) only [u, i64, ax, eq_self, if_true, if_false, Nat.reduceAdd, Int.reduceToNat, Int.reduceAdd, tvs, bs])
        simp (disch := omega) only [u, i64, ax, eq_self, if_true, if_false, Nat.reduceAdd, Int.reduceToNat, Int.reduceAdd, tvs, bs, Nat.reduceMul, List.take_succ_cons, List.take_zero, List.nil_append, List.cons_append, List.append_nil, Nat.reduceLeDiff]
        (refine cR hS ?_; simp (disch := omega) only [u, i64, ax, eq_self, if_true, if_false, Nat.reduceAdd, Int.reduceToNat, Int.reduceAdd, tvs, bs]; try refine aA ?_)
        simp (disch := omega) only [u, i64, ax, eq_self, if_true, if_false, Nat.reduceAdd, Int.reduceToNat, Int.reduceAdd, tvs, bs, Nat.reduceMul, List.take_succ_cons, List.take_zero, List.nil_append, List.cons_append, List.append_nil, Nat.reduceLeDiff]
        repeat (first | ((first | refine Gs ?_ | refine Gr ?_); simp (disch := omega) only [u, i64, ax, eq_self, if_true, if_false, Nat.reduceAdd, Int.reduceToNat, Int.reduceAdd, tvs, bs]; first | refine aA ?_ | ((first | refine cR hA ?_ | refine cR ret_awake22 ?_); simp (disch := omega) only [u, i64, ax, eq_self, if_true, if_false, Nat.reduceAdd, Int.reduceToNat, Int.reduceAdd, tvs, bs]; try refine aA ?_)) | ((first | refine cR hA ?_ | refine cR ret_awake22 ?_); simp (disch := omega) only [u, i64, ax, eq_self, if_true, if_false, Nat.reduceAdd, Int.reduceToNat, Int.reduceAdd, tvs, bs]; try refine aA ?_) | refine G_seq ?_ | refine G_block ?_ | refine G_condT rfl ?_ | refine G_condF rfl ?_ | refine G_skip ?_ | refine G_ret ?_ | refine G_exit ?_ | refine q_tn ?_ | refine q_tr ?_ | refine q_tx ?_ | refine q_bn ?_ | refine q_br ?_ | refine q_bx ?_ | refine q_by (by decide) ?_)
        (refine FinQ hQ (congrArg Array.toList Tryd.results13) _ _ ?_); simp (disch := omega) only [u, i64, ax, if_true, forall_const, reduceCtorEq, implies_true, tvs, bf]
    · have hA := ret_Args22_1 p g r _ d (ret_Check22b_1 p g r r1 r2 hC d h1)
      clear hC h1
      unfold DI.av cx at *
      refine RetN_start Tryd.func13 (by kernel_rfl) rfl fun Q hQ hQ2 => ?_; rw [Tryd.ntmps13]; simp only [u, i64, Nat.reduceSub, Nat.reduceAdd, bm]
      repeat (first | ((first | refine Gs ?_ | refine Gr ?_); simp (disch := omega) only [u, i64, ax, eq_self, if_true, if_false, Nat.reduceAdd, Int.reduceToNat, Int.reduceAdd, tvs, bs]; refine aA ?_) | refine G_seq ?_ | refine G_block ?_ | refine G_condT rfl ?_ | refine G_condF rfl ?_ | refine G_skip ?_ | refine G_ret ?_ | refine G_exit ?_ | refine q_tn ?_ | refine q_tr ?_ | refine q_tx ?_ | refine q_bn ?_ | refine q_br ?_ | refine q_bx ?_ | refine q_by (by decide) ?_)
      ((first | refine Gs ?_ | refine Gr ?_); simp (disch := omega) only [u, i64, ax, eq_self, if_true, if_false, Nat.reduceAdd, Int.reduceToNat, Int.reduceAdd, tvs, bs])
      simp (disch := omega) only [u, i64, ax, eq_self, if_true, if_false, Nat.reduceAdd, Int.reduceToNat, Int.reduceAdd, tvs, bs, Nat.reduceMul, List.take_succ_cons, List.take_zero, List.nil_append, List.cons_append, List.append_nil, Nat.reduceLeDiff]
      (refine cR hS ?_; simp (disch := omega) only [u, i64, ax, eq_self, if_true, if_false, Nat.reduceAdd, Int.reduceToNat, Int.reduceAdd, tvs, bs]; try refine aA ?_)
      simp (disch := omega) only [u, i64, ax, eq_self, if_true, if_false, Nat.reduceAdd, Int.reduceToNat, Int.reduceAdd, tvs, bs, Nat.reduceMul, List.take_succ_cons, List.take_zero, List.nil_append, List.cons_append, List.append_nil, Nat.reduceLeDiff]
      repeat (first | ((first | refine Gs ?_ | refine Gr ?_); simp (disch := omega) only [u, i64, ax, eq_self, if_true, if_false, Nat.reduceAdd, Int.reduceToNat, Int.reduceAdd, tvs, bs]; first | refine aA ?_ | ((first | refine cR hA ?_ | refine cR ret_awake22 ?_); simp (disch := omega) only [u, i64, ax, eq_self, if_true, if_false, Nat.reduceAdd, Int.reduceToNat, Int.reduceAdd, tvs, bs]; try refine aA ?_)) | ((first | refine cR hA ?_ | refine cR ret_awake22 ?_); simp (disch := omega) only [u, i64, ax, eq_self, if_true, if_false, Nat.reduceAdd, Int.reduceToNat, Int.reduceAdd, tvs, bs]; try refine aA ?_) | refine G_seq ?_ | refine G_block ?_ | refine G_condT rfl ?_ | refine G_condF rfl ?_ | refine G_skip ?_ | refine G_ret ?_ | refine G_exit ?_ | refine q_tn ?_ | refine q_tr ?_ | refine q_tx ?_ | refine q_bn ?_ | refine q_br ?_ | refine q_bx ?_ | refine q_by (by decide) ?_)
      (refine FinQ hQ (congrArg Array.toList Tryd.results13) _ _ ?_); simp (disch := omega) only [u, i64, ax, if_true, forall_const, reduceCtorEq, implies_true, tvs, bf]
  · rw [decF hs] at hS
    unfold DI.av cx at *
    refine RetN_start Tryd.func13 (by kernel_rfl) rfl fun Q hQ hQ2 => ?_; rw [Tryd.ntmps13]; simp only [u, i64, Nat.reduceSub, Nat.reduceAdd, bm]
    repeat (first | ((first | refine Gs ?_ | refine Gr ?_); simp (disch := omega) only [u, i64, ax, eq_self, if_true, if_false, Nat.reduceAdd, Int.reduceToNat, Int.reduceAdd, tvs, bs]; refine aA ?_) | refine G_seq ?_ | refine G_block ?_ | refine G_condT rfl ?_ | refine G_condF rfl ?_ | refine G_skip ?_ | refine G_ret ?_ | refine G_exit ?_ | refine q_tn ?_ | refine q_tr ?_ | refine q_tx ?_ | refine q_bn ?_ | refine q_br ?_ | refine q_bx ?_ | refine q_by (by decide) ?_)
    ((first | refine Gs ?_ | refine Gr ?_); simp (disch := omega) only [u, i64, ax, eq_self, if_true, if_false, Nat.reduceAdd, Int.reduceToNat, Int.reduceAdd, tvs, bs])
    simp (disch := omega) only [u, i64, ax, eq_self, if_true, if_false, Nat.reduceAdd, Int.reduceToNat, Int.reduceAdd, tvs, bs, Nat.reduceMul, List.take_succ_cons, List.take_zero, List.nil_append, List.cons_append, List.append_nil, Nat.reduceLeDiff]
    repeat (first | ((first | refine Gs ?_ | refine Gr ?_); simp (disch := omega) only [u, i64, ax, eq_self, if_true, if_false, Nat.reduceAdd, Int.reduceToNat, Int.reduceAdd, tvs, bs]; first | refine aA ?_ | ((first | refine cR hS ?_ | refine cR ret_awake22 ?_); simp (disch := omega) only [u, i64, ax, eq_self, if_true, if_false, Nat.reduceAdd, Int.reduceToNat, Int.reduceAdd, tvs, bs]; try refine aA ?_)) | ((first | refine cR hS ?_ | refine cR ret_awake22 ?_); simp (disch := omega) only [u, i64, ax, eq_self, if_true, if_false, Nat.reduceAdd, Int.reduceToNat, Int.reduceAdd, tvs, bs]; try refine aA ?_) | refine G_seq ?_ | refine G_block ?_ | refine G_condT rfl ?_ | refine G_condF rfl ?_ | refine G_skip ?_ | refine G_ret ?_ | refine G_exit ?_ | refine q_tn ?_ | refine q_tr ?_ | refine q_tx ?_ | refine q_bn ?_ | refine q_br ?_ | refine q_bx ?_ | refine q_by (by decide) ?_)
    (refine FinQ hQ (congrArg Array.toList Tryd.results13) _ _ ?_); simp (disch := omega) only [u, i64, ax, if_true, forall_const, reduceCtorEq, implies_true, tvs, bf]
end Go.Proofs
