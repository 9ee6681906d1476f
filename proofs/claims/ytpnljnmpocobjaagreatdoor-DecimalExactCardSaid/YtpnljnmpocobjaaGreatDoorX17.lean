/-
  Contracts of functions of the program, each proved by a walk.
-/
import Derived.Test.YtpnljnmpocobjaaGreatDoorX14
import Derived.Test.YtpnljnmpocobjaaGreatDoorX16
set_option maxRecDepth 100000
set_option linter.unusedVariables false
set_option linter.unusedSimpArgs false
namespace Go.Proofs
open Go.Ax
theorem dvz : dv zD = .agg [i64 0, .bool false, .lst 0 [], i64 0] := rfl
set_option maxRecDepth 100000 in
set_option maxHeartbeats 1000000 in
theorem ret_two (p : Nat) (g : Int) (r : Nat) (hp : 1 ≤ p ∧ p ≤ 400) (hg : 1 ≤ g ∧ g ≤ 6000) (hr : r ≤ 4) (d c : DI) (h1 : d.ok) (h2 : c.ok) (N : Nat) (z : DV) (fl : Nat)
    (hDo : d.okIn p g ∧ c.okIn p g → Ret Tryz.prog GEs N [cx p g r, dv d.D, dv c.D] (.tup [dv z, i64 fl])) :
    Ret Tryz.prog GEs 130 [cx p g r, d.av, c.av, .lit (.func (.func N) #[] #[])] (if d.okIn p g ∧ c.okIn p g then .tup [dv z, i64 fl, i64 0] else .tup [dv zD, i64 0, i64 221]) := by
  have hA := ret_Args2 p g r hp hg hr d c h1 h2
  by_cases h : d.okIn p g ∧ c.okIn p g
  · rw [if_pos h] at hA ⊢
    have hF := hDo h
    rw [DI.dv_eq h.1.1, DI.dv_eq h.2.1] at hF
    clear hDo
    unfold DI.av dv cx at *
    generalize val d.cs = v1 at *
    generalize val c.cs = v2 at *
    refine RetN_start Tryz.func130 (by kernel_rfl) rfl fun Q hQ hQ2 => ?_; rw [Tryz.ntmps130]; simp only [u, i64, Nat.reduceSub, Nat.reduceAdd, bm]
    (refine gO ?_)
    (refine gC ?_)
    simp (disch := omega) only [u, i64, ax, eq_self, if_true, if_false, Nat.reduceAdd, Int.reduceToNat, Int.reduceAdd, tvs, bs, Nat.reduceMul, List.take_succ_cons, List.take_zero, List.nil_append, List.cons_append, List.append_nil, Nat.reduceLeDiff]
    repeat (first | (refine gC ?_; first | refine aA ?_ | ((first | refine cR hA ?_ | refine cR hF ?_); refine sX ?_; try refine aA ?_)) | ((first | refine cR hA ?_ | refine cR hF ?_); refine sX ?_; try refine aA ?_) | refine gS ?_)
    (refine FinQ hQ (congrArg Array.toList Tryz.results130) _ _ ?_); simp (disch := omega) only [u, i64, ax, if_true, forall_const, reduceCtorEq, implies_true, tvs, bf]
  · rw [if_neg h] at hA ⊢
    clear hDo
    rw [dvz]
    unfold DI.av cx at *
    refine RetN_start Tryz.func130 (by kernel_rfl) rfl fun Q hQ hQ2 => ?_; rw [Tryz.ntmps130]; simp only [u, i64, Nat.reduceSub, Nat.reduceAdd, bm]
    (refine gO ?_)
    (refine gC ?_)
    simp (disch := omega) only [u, i64, ax, eq_self, if_true, if_false, Nat.reduceAdd, Int.reduceToNat, Int.reduceAdd, tvs, bs, Nat.reduceMul, List.take_succ_cons, List.take_zero, List.nil_append, List.cons_append, List.append_nil, Nat.reduceLeDiff]
    repeat (first | (refine gC ?_; first | refine aA ?_ | (refine cR hA ?_; refine sX ?_; try refine aA ?_)) | (refine cR hA ?_; refine sX ?_; try refine aA ?_) | refine gS ?_)
    (refine FinQ hQ (congrArg Array.toList Tryz.results130) _ _ ?_); simp (disch := omega) only [u, i64, ax, if_true, forall_const, reduceCtorEq, implies_true, tvs, bf]
theorem okIn_facts {p : Nat} {g : Int} (hp : 1 ≤ p ∧ p ≤ 400) (hg : 1 ≤ g ∧ g ≤ 6000) {d : DI} (h : d.okIn p g) : d.D.kind ≤ 2 ∧ -7000 ≤ d.D.exp ∧ d.D.exp ≤ 6000 ∧ rightD d.D := by
  obtain ⟨h1, h2⟩ := h
  obtain ⟨q1, q2, q3⟩ := goodD_right h1
  have hk : d.D.kind ≤ 2 := by show d.k.toNat ≤ 2; omega
  obtain ⟨e1, e2⟩ := inD_exp hp.1 q1 h2
  have e1' : d.D.kind = 0 → -7000 ≤ d.D.exp ∧ d.D.exp ≤ 6000 := fun h => by
    have := e1 h
    have e : (mkD d.k d.neg (val d.cs) d.e).exp = d.D.exp := rfl
    omega
  by_cases h0 : d.D.kind = 0
  · exact ⟨hk, (e1' h0).1, (e1' h0).2, q1⟩
  · have := (e2 h0).1
    have e : d.D.exp = 0 := this
    rw [e]
    exact ⟨hk, by decide, by decide, q1⟩
theorem ret_DAdd (p : Nat) (g : Int) (r : Nat) (hp : 1 ≤ p ∧ p ≤ 400) (hg : 1 ≤ g ∧ g ≤ 6000) (hr : r ≤ 4) (d c : DI) (h1 : d.ok) (h2 : c.ok) :
    Ret Tryz.prog GEs 50 [cx p g r, d.av, c.av] (if d.okIn p g ∧ c.okIn p g then .tup [dv (addD p g r d.D c.D).1, i64 (addD p g r d.D c.D).2, i64 0] else .tup [dv zD, i64 0, i64 221]) := by
  have hT := ret_two p g r hp hg hr d c h1 h2 131 _ _ (fun h => by
    obtain ⟨a1, a2, a3, a4⟩ := okIn_facts hp hg h.1
    obtain ⟨b1, b2, b3, b4⟩ := okIn_facts hp hg h.2
    exact ret_dadd p g r d.D c.D hp hg hr a1 b1 (Nat.le_trans (d.len_le h1) (by decide)) (Nat.le_trans (c.len_le h2) (by decide)) (by omega) (by omega))
  generalize addD p g r d.D c.D = z at *
  by_cases h : d.okIn p g ∧ c.okIn p g
  · rw [if_pos h] at hT ⊢
    unfold DI.av dv cx at *
    refine RetN_start Tryz.func50 (by kernel_rfl) rfl fun Q hQ hQ2 => ?_; rw [Tryz.ntmps50]; simp only [u, i64, Nat.reduceSub, Nat.reduceAdd, bm]
    repeat (first | (refine gC ?_; first | refine aA ?_ | (refine cR hT ?_; refine sX ?_; try refine aA ?_)) | (refine cR hT ?_; refine sX ?_; try refine aA ?_) | refine gS ?_)
    (refine FinQ hQ (congrArg Array.toList Tryz.results50) _ _ ?_); simp (disch := omega) only [u, i64, ax, if_true, forall_const, reduceCtorEq, implies_true, tvs, bf]
  · rw [if_neg h] at hT ⊢
    rw [dvz] at *
    unfold DI.av cx at *
    refine RetN_start Tryz.func50 (by kernel_rfl) rfl fun Q hQ hQ2 => ?_; rw [Tryz.ntmps50]; simp only [u, i64, Nat.reduceSub, Nat.reduceAdd, bm]
    repeat (first | (refine gC ?_; first | refine aA ?_ | (refine cR hT ?_; refine sX ?_; try refine aA ?_)) | (refine cR hT ?_; refine sX ?_; try refine aA ?_) | refine gS ?_)
    (refine FinQ hQ (congrArg Array.toList Tryz.results50) _ _ ?_); simp (disch := omega) only [u, i64, ax, if_true, forall_const, reduceCtorEq, implies_true, tvs, bf]
set_option maxRecDepth 100000 in
set_option maxHeartbeats 1000000 in
theorem ret_dtimes (x y : DV) (hx : x.kind ≤ 2) (hy : y.kind ≤ 2) (lx : (words x.coef).length ≤ 90) (ly : (words y.coef).length ≤ 90) (ex : -3000000 ≤ x.exp ∧ x.exp ≤ 3000000) (ey : -3000000 ≤ y.exp ∧ y.exp ≤ 3000000) :
    Ret Tryz.prog GEs 144 [dv x, dv y] (.tup [dv (timesD x y).1, .bool (timesD x y).2]) := by
  have hZx := ret_dzero x hx (by omega)
  have hZy := ret_dzero y hy (by omega)
  obtain ⟨k1, n1, c1, e1⟩ := x
  obtain ⟨k2, n2, c2, e2⟩ := y
  simp only at *
  have hM := ret_Mul (words c1) (words c2) (Wd_words _) (Wd_words _) (by omega) (by omega)
  rw [val_words, val_words] at hM
  unfold timesD nanD
  simp only
  by_cases a1 : k1 = 2
  · rw [if_pos (Or.inl a1)]
    unfold dv
    simp only
    refine RetN_start Tryz.func144 (by kernel_rfl) rfl fun Q hQ hQ2 => ?_; rw [Tryz.ntmps144]; simp only [u, i64, Nat.reduceSub, Nat.reduceAdd, bm]
    (refine gO ?_)
    (refine FinQ hQ (congrArg Array.toList Tryz.results144) _ _ ?_); simp (disch := omega) only [u, i64, ax, if_true, forall_const, reduceCtorEq, implies_true, tvs, bf]
    all_goals rfl
  by_cases a2 : k2 = 2
  · rw [if_pos (Or.inr a2)]
    unfold dv
    simp only
    refine RetN_start Tryz.func144 (by kernel_rfl) rfl fun Q hQ hQ2 => ?_; rw [Tryz.ntmps144]; simp only [u, i64, Nat.reduceSub, Nat.reduceAdd, bm]
    (refine gO ?_)
    (refine FinQ hQ (congrArg Array.toList Tryz.results144) _ _ ?_); simp (disch := omega) only [u, i64, ax, if_true, forall_const, reduceCtorEq, implies_true, tvs, bf]
    all_goals rfl
  rw [if_neg (fun h => by omega)]
  by_cases a3 : k1 = 1 ∨ k2 = 1
  · rw [if_pos a3]
    generalize decide (k1 = 0 ∧ c1 = 0) = z1 at *
    generalize decide (k2 = 0 ∧ c2 = 0) = z2 at *
    unfold dv at *
    simp only at *
    by_cases a4 : k1 = 1
    · cases z1 with
      | true =>
        refine RetN_start Tryz.func144 (by kernel_rfl) rfl fun Q hQ hQ2 => ?_; rw [Tryz.ntmps144]; simp only [u, i64, Nat.reduceSub, Nat.reduceAdd, bm]
        repeat (first | (refine gC ?_; first | refine aA ?_ | (refine cR hZx ?_; refine sX ?_; try refine aA ?_)) | (refine cR hZx ?_; refine sX ?_; try refine aA ?_) | refine gS ?_)
        (refine FinQ hQ (congrArg Array.toList Tryz.results144) _ _ ?_); simp (disch := omega) only [u, i64, ax, if_true, forall_const, reduceCtorEq, implies_true, tvs, bf]
        all_goals rfl
      | false =>
        refine RetN_start Tryz.func144 (by kernel_rfl) rfl fun Q hQ hQ2 => ?_; rw [Tryz.ntmps144]; simp only [u, i64, Nat.reduceSub, Nat.reduceAdd, bm]
        repeat (first | (refine gC ?_; first | refine aA ?_ | ((first | refine cR hZx ?_ | refine cR hZy ?_); refine sX ?_; try refine aA ?_)) | ((first | refine cR hZx ?_ | refine cR hZy ?_); refine sX ?_; try refine aA ?_) | refine gS ?_)
        (refine FinQ hQ (congrArg Array.toList Tryz.results144) _ _ ?_); simp (disch := omega) only [u, i64, ax, if_true, forall_const, reduceCtorEq, implies_true, tvs, bf]
        all_goals rfl
    · have a5 : k2 = 1 := by omega
      cases z1 with
      | true =>
        refine RetN_start Tryz.func144 (by kernel_rfl) rfl fun Q hQ hQ2 => ?_; rw [Tryz.ntmps144]; simp only [u, i64, Nat.reduceSub, Nat.reduceAdd, bm]
        repeat (first | (refine gC ?_; first | refine aA ?_ | (refine cR hZx ?_; refine sX ?_; try refine aA ?_)) | (refine cR hZx ?_; refine sX ?_; try refine aA ?_) | refine gS ?_)
        (refine FinQ hQ (congrArg Array.toList Tryz.results144) _ _ ?_); simp (disch := omega) only [u, i64, ax, if_true, forall_const, reduceCtorEq, implies_true, tvs, bf]
        all_goals rfl
      | false =>
        refine RetN_start Tryz.func144 (by kernel_rfl) rfl fun Q hQ hQ2 => ?_; rw [Tryz.ntmps144]; simp only [u, i64, Nat.reduceSub, Nat.reduceAdd, bm]
        repeat (first | (refine gC ?_; first | refine aA ?_ | ((first | refine cR hZx ?_ | refine cR hZy ?_); refine sX ?_; try refine aA ?_)) | ((first | refine cR hZx ?_ | refine cR hZy ?_); refine sX ?_; try refine aA ?_) | refine gS ?_)
        (refine FinQ hQ (congrArg Array.toList Tryz.results144) _ _ ?_); simp (disch := omega) only [u, i64, ax, if_true, forall_const, reduceCtorEq, implies_true, tvs, bf]
        all_goals rfl
  · rw [if_neg a3]
    have a4 : ¬ k1 = 1 := fun h => a3 (.inl h)
    have a5 : ¬ k2 = 1 := fun h => a3 (.inr h)
    generalize c1 * c2 = C at *
    unfold dv at *
    simp only at *
    refine RetN_start Tryz.func144 (by kernel_rfl) rfl fun Q hQ hQ2 => ?_; rw [Tryz.ntmps144]; simp only [u, i64, Nat.reduceSub, Nat.reduceAdd, bm]
    repeat (first | (refine gC ?_; first | refine aA ?_ | (refine cR hM ?_; refine sX ?_; try refine aA ?_)) | (refine cR hM ?_; refine sX ?_; try refine aA ?_) | refine gS ?_)
    (refine FinQ hQ (congrArg Array.toList Tryz.results144) _ _ ?_); simp (disch := omega) only [u, i64, ax, if_true, forall_const, reduceCtorEq, implies_true, tvs, bf]
    all_goals rfl
theorem timesD_facts (x y : DV) (hx : x.kind ≤ 2) (hy : y.kind ≤ 2) : (timesD x y).1.kind ≤ 2 ∧ ((timesD x y).1.kind = 0 → (timesD x y).1.coef = x.coef * y.coef ∧ (timesD x y).1.exp = x.exp + y.exp) ∧ ((timesD x y).1.kind ≠ 0 → (timesD x y).1.coef = 0 ∧ (timesD x y).1.exp = 0) := by
  unfold timesD nanD
  split
  · exact ⟨by show 2 ≤ 2; decide, fun h => (by cases h), fun _ => ⟨rfl, rfl⟩⟩
  · split
    · exact ⟨by show 1 ≤ 2; decide, fun h => (by cases h), fun _ => ⟨rfl, rfl⟩⟩
    · exact ⟨by show 0 ≤ 2; decide, fun _ => ⟨rfl, rfl⟩, fun h => absurd rfl h⟩
set_option maxRecDepth 100000 in
set_option maxHeartbeats 1000000 in
theorem ret_dmul (p : Nat) (g : Int) (r : Nat) (x y : DV) (hp : 1 ≤ p ∧ p ≤ 400) (hg : 1 ≤ g ∧ g ≤ 6000) (hr : r ≤ 4) (hx : x.kind ≤ 2) (hy : y.kind ≤ 2) (lx : (words x.coef).length ≤ 90) (ly : (words y.coef).length ≤ 90) (ex : -1000000 ≤ x.exp ∧ x.exp ≤ 1000000) (ey : -1000000 ≤ y.exp ∧ y.exp ≤ 1000000) :
    Ret Tryz.prog GEs 142 [cx p g r, dv x, dv y] (.tup [dv (mulD p g r x y).1, i64 (mulD p g r x y).2]) := by
  have hT := ret_dtimes x y hx hy lx ly (by omega) (by omega)
  obtain ⟨t1, t2, t3⟩ := timesD_facts x y hx hy
  unfold mulD
  have hl : (words (timesD x y).1.coef).length ≤ 200 ∧ -2000000 ≤ (timesD x y).1.exp ∧ (timesD x y).1.exp ≤ 2000000 := by
    by_cases h0 : (timesD x y).1.kind = 0
    · obtain ⟨u1, u2⟩ := t2 h0
      have := length_mul x.coef y.coef
      rw [u1, u2]
      omega
    · obtain ⟨u1, u2⟩ := t3 h0
      rw [u1, u2]
      exact ⟨by decide, by decide, by decide⟩
  have hF := ret_dFinish p g r (timesD x y).1.neg (timesD x y).1.coef (timesD x y).1.exp (timesD x y).1.exp hp hg hr (by omega) (by omega) (by omega)
  generalize timesD x y = t at *
  obtain ⟨⟨k3, n3, c3, e3⟩, ok⟩ := t
  simp only at *
  unfold plusD nanD
  simp only
  cases ok with
  | false =>
    rw [if_neg (by decide)]
    unfold dv cx at *
    simp only at *
    refine RetN_start Tryz.func142 (by kernel_rfl) rfl fun Q hQ hQ2 => ?_; rw [Tryz.ntmps142]; simp only [u, i64, Nat.reduceSub, Nat.reduceAdd, bm]
    repeat (first | (refine gC ?_; first | refine aA ?_ | (refine cR hT ?_; refine sX ?_; try refine aA ?_)) | (refine cR hT ?_; refine sX ?_; try refine aA ?_) | refine gS ?_)
    (refine FinQ hQ (congrArg Array.toList Tryz.results142) _ _ ?_); simp (disch := omega) only [u, i64, ax, if_true, forall_const, reduceCtorEq, implies_true, tvs, bf]
    all_goals rfl
  | true =>
    rw [if_pos rfl]
    by_cases h0 : k3 = 0
    · rw [if_pos h0]
      generalize finD0 p g r n3 c3 e3 e3 = z at *
      unfold dv cx at *
      simp only at *
      refine RetN_start Tryz.func142 (by kernel_rfl) rfl fun Q hQ hQ2 => ?_; rw [Tryz.ntmps142]; simp only [u, i64, Nat.reduceSub, Nat.reduceAdd, bm]
      repeat (first | (refine gC ?_; first | refine aA ?_ | ((first | refine cR hT ?_ | refine cR hF ?_); refine sX ?_; try refine aA ?_)) | ((first | refine cR hT ?_ | refine cR hF ?_); refine sX ?_; try refine aA ?_) | refine gS ?_)
      (refine FinQ hQ (congrArg Array.toList Tryz.results142) _ _ ?_); simp (disch := omega) only [u, i64, ax, if_true, forall_const, reduceCtorEq, implies_true, tvs, bf]
      all_goals rfl
    · rw [if_neg h0]
      unfold dv cx at *
      simp only at *
      refine RetN_start Tryz.func142 (by kernel_rfl) rfl fun Q hQ hQ2 => ?_; rw [Tryz.ntmps142]; simp only [u, i64, Nat.reduceSub, Nat.reduceAdd, bm]
      repeat (first | (refine gC ?_; first | refine aA ?_ | (refine cR hT ?_; refine sX ?_; try refine aA ?_)) | (refine cR hT ?_; refine sX ?_; try refine aA ?_) | refine gS ?_)
      (refine FinQ hQ (congrArg Array.toList Tryz.results142) _ _ ?_); simp (disch := omega) only [u, i64, ax, if_true, forall_const, reduceCtorEq, implies_true, tvs, bf]
      all_goals rfl
theorem ret_DMul (p : Nat) (g : Int) (r : Nat) (hp : 1 ≤ p ∧ p ≤ 400) (hg : 1 ≤ g ∧ g ≤ 6000) (hr : r ≤ 4) (d c : DI) (h1 : d.ok) (h2 : c.ok) :
    Ret Tryz.prog GEs 57 [cx p g r, d.av, c.av] (if d.okIn p g ∧ c.okIn p g then .tup [dv (mulD p g r d.D c.D).1, i64 (mulD p g r d.D c.D).2, i64 0] else .tup [dv zD, i64 0, i64 221]) := by
  have hT := ret_two p g r hp hg hr d c h1 h2 142 _ _ (fun h => by
    obtain ⟨a1, a2, a3, a4⟩ := okIn_facts hp hg h.1
    obtain ⟨b1, b2, b3, b4⟩ := okIn_facts hp hg h.2
    exact ret_dmul p g r d.D c.D hp hg hr a1 b1 (Nat.le_trans (d.len_le h1) (by decide)) (Nat.le_trans (c.len_le h2) (by decide)) (by omega) (by omega))
  generalize mulD p g r d.D c.D = z at *
  by_cases h : d.okIn p g ∧ c.okIn p g
  · rw [if_pos h] at hT ⊢
    unfold DI.av dv cx at *
    refine RetN_start Tryz.func57 (by kernel_rfl) rfl fun Q hQ hQ2 => ?_; rw [Tryz.ntmps57]; simp only [u, i64, Nat.reduceSub, Nat.reduceAdd, bm]
    repeat (first | (refine gC ?_; first | refine aA ?_ | (refine cR hT ?_; refine sX ?_; try refine aA ?_)) | (refine cR hT ?_; refine sX ?_; try refine aA ?_) | refine gS ?_)
    (refine FinQ hQ (congrArg Array.toList Tryz.results57) _ _ ?_); simp (disch := omega) only [u, i64, ax, if_true, forall_const, reduceCtorEq, implies_true, tvs, bf]
  · rw [if_neg h] at hT ⊢
    rw [dvz] at *
    unfold DI.av cx at *
    refine RetN_start Tryz.func57 (by kernel_rfl) rfl fun Q hQ hQ2 => ?_; rw [Tryz.ntmps57]; simp only [u, i64, Nat.reduceSub, Nat.reduceAdd, bm]
    repeat (first | (refine gC ?_; first | refine aA ?_ | (refine cR hT ?_; refine sX ?_; try refine aA ?_)) | (refine cR hT ?_; refine sX ?_; try refine aA ?_) | refine gS ?_)
    (refine FinQ hQ (congrArg Array.toList Tryz.results57) _ _ ?_); simp (disch := omega) only [u, i64, ax, if_true, forall_const, reduceCtorEq, implies_true, tvs, bf]
end Go.Proofs
