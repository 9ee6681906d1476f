/-
  Contracts of functions of the program, each proved by a walk.
-/
import Derived.Test.YtpnljnmpocobjaaGreatDoorX16
set_option maxRecDepth 100000
set_option linter.unusedVariables false
set_option linter.unusedSimpArgs false
namespace Go.Proofs
open Go.Ax
def qz (z : Int) (d : Nat) : AV := .agg [.bool (decide (z < 0)), nat z.natAbs, nat d]
theorem sg_lt (neg : Bool) (n : Nat) : (neg && decide (n ≠ 0)) = decide (sg neg n < 0) ∧ (sg neg n).natAbs = n := by
  unfold sg
  cases neg with
  | true =>
    rw [if_pos rfl, Bool.true_and, Int.natAbs_neg, Int.natAbs_natCast]
    refine ⟨?_, rfl⟩
    simp only [decide_eq_decide]
    omega
  | false =>
    rw [if_neg (by decide), Bool.false_and, Int.natAbs_natCast, decF (show ¬ (n : Int) < 0 by omega)]
    exact ⟨rfl, rfl⟩
theorem sg_mulr (neg : Bool) (n k : Nat) : sg neg (n * k) = sg neg n * k := by
  unfold sg
  cases neg <;> simp [Int.neg_mul]
/-- What a fraction in lowest terms has to do with the one before. -/
structure Low (z0 : Int) (d0 : Nat) (z : Int) (d g : Nat) : Prop where
  g0 : 0 < g
  dnz : d ≠ 0
  num : z0 = z * g
  den : d0 = d * g
theorem Low.absle {z0 : Int} {d0 : Nat} {z : Int} {d g : Nat} (h : Low z0 d0 z d g) : z.natAbs ≤ z0.natAbs ∧ d ≤ d0 := by
  have h0 := h.g0
  rw [h.num, h.den, Int.natAbs_mul, Int.natAbs_natCast]
  exact ⟨Nat.le_mul_of_pos_right _ h0, Nat.le_mul_of_pos_right _ h0⟩
theorem ret_NormZ (neg : Bool) (ns ds : List Nat) (hn : Wd ns) (hd : Wd ds) (hln : ns.length ≤ 100000) (hld : ds.length ≤ 100000) (h0 : val ds ≠ 0) :
    ∃ z d g, Low (sg neg (val ns)) (val ds) z d g ∧ Ret Tryz.prog GEs 94 [.agg [.bool neg, ws ns, ws ds]] (qz z d) := by
  have h := ret_Norm neg ns ds hn hd (by omega) (by omega) h0
  have hg : 0 < Nat.gcd (val ns) (val ds) := Nat.pos_of_ne_zero fun h => h0 (Nat.eq_zero_of_gcd_eq_zero_right h)
  have e1 := Nat.div_mul_cancel (Nat.gcd_dvd_left (val ns) (val ds))
  have e2 := Nat.div_mul_cancel (Nat.gcd_dvd_right (val ns) (val ds))
  generalize Nat.gcd (val ns) (val ds) = g at *
  obtain ⟨b1, b2⟩ := sg_lt neg (val ns / g)
  refine ⟨sg neg (val ns / g), val ds / g, g, ⟨hg, fun h => h0 (by rw [← e2, h, Nat.zero_mul]), by rw [← sg_mulr, e1], e2.symm⟩, ?_⟩
  unfold qz
  rw [b2, ← b1]
  exact h
theorem ret_Make12z (neg : Bool) (ns ds : List Nat) (hn : Wd ns) (hd : Wd ds) (hln : ns.length ≤ 100000) (hld : ds.length ≤ 100000) (h0 : val ds ≠ 0) :
    ∃ z d g, Low (sg neg (val ns)) (val ds) z d g ∧ Ret Tryz.prog GEs 97 [.agg [.bool neg, ws ns], ws ds] (qz z d) := by
  obtain ⟨z, d, g, h, hN⟩ := ret_NormZ neg ns ds hn hd hln hld h0
  refine ⟨z, d, g, h, ?_⟩
  unfold qz at *
  refine RetN_start Tryz.func97 (by kernel_rfl) rfl fun Q hQ hQ2 => ?_; rw [Tryz.ntmps97]; simp only [u, i64, Nat.reduceSub, Nat.reduceAdd, bm]
  repeat (first | ((first | refine Gs ?_ | refine Gr ?_); simp (disch := omega) only [u, i64, ax, eq_self, if_true, if_false, Nat.reduceAdd, Int.reduceToNat, Int.reduceAdd, tvs, bs]; first | refine aA ?_ | (refine cR hN ?_; simp (disch := omega) only [u, i64, ax, eq_self, if_true, if_false, Nat.reduceAdd, Int.reduceToNat, Int.reduceAdd, tvs, bs]; try refine aA ?_)) | (refine cR hN ?_; simp (disch := omega) only [u, i64, ax, eq_self, if_true, if_false, Nat.reduceAdd, Int.reduceToNat, Int.reduceAdd, tvs, bs]; try refine aA ?_) | refine G_seq ?_ | refine G_block ?_ | refine G_condT rfl ?_ | refine G_condF rfl ?_ | refine G_skip ?_ | refine G_ret ?_ | refine G_exit ?_ | refine q_tn ?_ | refine q_tr ?_ | refine q_tx ?_ | refine q_bn ?_ | refine q_br ?_ | refine q_bx ?_ | refine q_by (by decide) ?_)
  (refine FinQ hQ (congrArg Array.toList Tryz.results97) _ _ ?_); simp (disch := omega) only [u, i64, ax, if_true, forall_const, reduceCtorEq, implies_true, tvs, bf]
theorem ret_Add11 (a b : Bool) (xs ys : List Nat) (hx : Wd xs) (hy : Wd ys) (hl : xs.length ≤ 10000) (hl2 : ys.length ≤ 10000) : Ret Tryz.prog GEs 135 [.agg [.bool a, ws xs], .agg [.bool b, ws ys]] (zv (sg a (val xs) + sg b (val ys))) := by
  have hA := ret_Add03 a b xs ys hx hy hl hl2
  generalize sg a (val xs) + sg b (val ys) = w at *
  unfold zv at *
  refine RetN_start Tryz.func135 (by kernel_rfl) rfl fun Q hQ hQ2 => ?_; rw [Tryz.ntmps135]; simp only [u, i64, Nat.reduceSub, Nat.reduceAdd, bm]
  repeat (first | ((first | refine Gs ?_ | refine Gr ?_); simp (disch := omega) only [u, i64, ax, eq_self, if_true, if_false, Nat.reduceAdd, Int.reduceToNat, Int.reduceAdd, tvs, bs]; first | refine aA ?_ | (refine cR hA ?_; simp (disch := omega) only [u, i64, ax, eq_self, if_true, if_false, Nat.reduceAdd, Int.reduceToNat, Int.reduceAdd, tvs, bs]; try refine aA ?_)) | (refine cR hA ?_; simp (disch := omega) only [u, i64, ax, eq_self, if_true, if_false, Nat.reduceAdd, Int.reduceToNat, Int.reduceAdd, tvs, bs]; try refine aA ?_) | refine G_seq ?_ | refine G_block ?_ | refine G_condT rfl ?_ | refine G_condF rfl ?_ | refine G_skip ?_ | refine G_ret ?_ | refine G_exit ?_ | refine q_tn ?_ | refine q_tr ?_ | refine q_tx ?_ | refine q_bn ?_ | refine q_br ?_ | refine q_bx ?_ | refine q_by (by decide) ?_)
  (refine FinQ hQ (congrArg Array.toList Tryz.results135) _ _ ?_); simp (disch := omega) only [u, i64, ax, if_true, forall_const, reduceCtorEq, implies_true, tvs, bf]
theorem ret_Neg11 (b : Bool) (ys : List Nat) (hy : Wd ys) (hl : ys.length ≤ 1000000) : Ret Tryz.prog GEs 197 [.agg [.bool b, ws ys]] (zv (-sg b (val ys))) := by
  have hK := ret_Neg03 b ys hy hl
  generalize -sg b (val ys) = z at *
  unfold zv at *
  refine RetN_start Tryz.func197 (by kernel_rfl) rfl fun Q hQ hQ2 => ?_; rw [Tryz.ntmps197]; simp only [u, i64, Nat.reduceSub, Nat.reduceAdd, bm]
  repeat (first | ((first | refine Gs ?_ | refine Gr ?_); simp (disch := omega) only [u, i64, ax, eq_self, if_true, if_false, Nat.reduceAdd, Int.reduceToNat, Int.reduceAdd, tvs, bs]; first | refine aA ?_ | (refine cR hK ?_; simp (disch := omega) only [u, i64, ax, eq_self, if_true, if_false, Nat.reduceAdd, Int.reduceToNat, Int.reduceAdd, tvs, bs]; try refine aA ?_)) | (refine cR hK ?_; simp (disch := omega) only [u, i64, ax, eq_self, if_true, if_false, Nat.reduceAdd, Int.reduceToNat, Int.reduceAdd, tvs, bs]; try refine aA ?_) | refine G_seq ?_ | refine G_block ?_ | refine G_condT rfl ?_ | refine G_condF rfl ?_ | refine G_skip ?_ | refine G_ret ?_ | refine G_exit ?_ | refine q_tn ?_ | refine q_tr ?_ | refine q_tx ?_ | refine q_bn ?_ | refine q_br ?_ | refine q_bx ?_ | refine q_by (by decide) ?_)
  (refine FinQ hQ (congrArg Array.toList Tryz.results197) _ _ ?_); simp (disch := omega) only [u, i64, ax, if_true, forall_const, reduceCtorEq, implies_true, tvs, bf]
theorem sg_abs (a : Bool) (n : Nat) : (sg a n).natAbs = n := (sg_lt a n).2
theorem ret_Neg12 (a : Bool) (ns dn : List Nat) (hn : Wd ns) (hd : Wd dn) (l1 : ns.length ≤ 10000) (l2 : dn.length ≤ 10000) (h0 : val dn ≠ 0) :
    ∃ z d g, Low (-sg a (val ns)) (val dn) z d g ∧ Ret Tryz.prog GEs 115 [.agg [.bool a, ws ns, ws dn]] (qz z d) := by
  have hN := ret_Neg11 a ns hn (by omega)
  have v1 := length_words_val_le hn
  obtain ⟨z, d, g, h, hM⟩ := ret_NormZ (decide (-sg a (val ns) < 0)) (words (-sg a (val ns)).natAbs) dn (Wd_words _) hd (by rw [Int.natAbs_neg, sg_abs]; omega) (by omega) h0
  rw [val_words, sg_zv] at h
  refine ⟨z, d, g, h, ?_⟩
  generalize -sg a (val ns) = w at *
  unfold qz zv at *
  refine RetN_start Tryz.func115 (by kernel_rfl) rfl fun Q hQ hQ2 => ?_; rw [Tryz.ntmps115]; simp only [u, i64, Nat.reduceSub, Nat.reduceAdd, bm]
  repeat (first | ((first | refine Gs ?_ | refine Gr ?_); simp (disch := omega) only [u, i64, ax, eq_self, if_true, if_false, Nat.reduceAdd, Int.reduceToNat, Int.reduceAdd, tvs, bs]; first | refine aA ?_ | ((first | refine cR hN ?_ | refine cR hM ?_); simp (disch := omega) only [u, i64, ax, eq_self, if_true, if_false, Nat.reduceAdd, Int.reduceToNat, Int.reduceAdd, tvs, bs]; try refine aA ?_)) | ((first | refine cR hN ?_ | refine cR hM ?_); simp (disch := omega) only [u, i64, ax, eq_self, if_true, if_false, Nat.reduceAdd, Int.reduceToNat, Int.reduceAdd, tvs, bs]; try refine aA ?_) | refine G_seq ?_ | refine G_block ?_ | refine G_condT rfl ?_ | refine G_condF rfl ?_ | refine G_skip ?_ | refine G_ret ?_ | refine G_exit ?_ | refine q_tn ?_ | refine q_tr ?_ | refine q_tx ?_ | refine q_bn ?_ | refine q_br ?_ | refine q_bx ?_ | refine q_by (by decide) ?_)
  (refine FinQ hQ (congrArg Array.toList Tryz.results115) _ _ ?_); simp (disch := omega) only [u, i64, ax, if_true, forall_const, reduceCtorEq, implies_true, tvs, bf]
theorem ret_Abs12 (a : Bool) (ns dn : List Nat) (hn : Wd ns) (hd : Wd dn) (l1 : ns.length ≤ 10000) (l2 : dn.length ≤ 10000) (h0 : val dn ≠ 0) :
    ∃ z d g, Low (val ns : Int) (val dn) z d g ∧ Ret Tryz.prog GEs 40 [.agg [.bool a, ws ns, ws dn]] (qz z d) := by
  have hN := ret_Make11z false ns hn (by omega)
  have v1 := length_words_val_le hn
  rw [sg_false] at hN
  obtain ⟨z, d, g, h, hM⟩ := ret_NormZ (decide ((val ns : Int) < 0)) (words (val ns : Int).natAbs) dn (Wd_words _) hd (by rw [Int.natAbs_natCast]; omega) (by omega) h0
  rw [val_words, sg_zv] at h
  refine ⟨z, d, g, h, ?_⟩
  generalize (val ns : Int) = w at *
  unfold qz zv at *
  refine RetN_start Tryz.func40 (by kernel_rfl) rfl fun Q hQ hQ2 => ?_; rw [Tryz.ntmps40]; simp only [u, i64, Nat.reduceSub, Nat.reduceAdd, bm]
  repeat (first | ((first | refine Gs ?_ | refine Gr ?_); simp (disch := omega) only [u, i64, ax, eq_self, if_true, if_false, Nat.reduceAdd, Int.reduceToNat, Int.reduceAdd, tvs, bs]; first | refine aA ?_ | ((first | refine cR hN ?_ | refine cR hM ?_); simp (disch := omega) only [u, i64, ax, eq_self, if_true, if_false, Nat.reduceAdd, Int.reduceToNat, Int.reduceAdd, tvs, bs]; try refine aA ?_)) | ((first | refine cR hN ?_ | refine cR hM ?_); simp (disch := omega) only [u, i64, ax, eq_self, if_true, if_false, Nat.reduceAdd, Int.reduceToNat, Int.reduceAdd, tvs, bs]; try refine aA ?_) | refine G_seq ?_ | refine G_block ?_ | refine G_condT rfl ?_ | refine G_condF rfl ?_ | refine G_skip ?_ | refine G_ret ?_ | refine G_exit ?_ | refine q_tn ?_ | refine q_tr ?_ | refine q_tx ?_ | refine q_bn ?_ | refine q_br ?_ | refine q_bx ?_ | refine q_by (by decide) ?_)
  (refine FinQ hQ (congrArg Array.toList Tryz.results40) _ _ ?_); simp (disch := omega) only [u, i64, ax, if_true, forall_const, reduceCtorEq, implies_true, tvs, bf]
set_option maxRecDepth 100000 in
theorem ret_Add12 (a b : Bool) (ns dn ms en : List Nat) (hn : Wd ns) (hd : Wd dn) (hm : Wd ms) (he : Wd en) (l1 : ns.length ≤ 2000) (l2 : dn.length ≤ 2000) (l3 : ms.length ≤ 2000) (l4 : en.length ≤ 2000) (h1 : val dn ≠ 0) (h2 : val en ≠ 0) :
    ∃ z d g, Low (sg a (val ns) * (val en : Int) + sg b (val ms) * (val dn : Int)) (val dn * val en) z d g ∧ Ret Tryz.prog GEs 64 [.agg [.bool a, ws ns, ws dn], .agg [.bool b, ws ms, ws en]] (qz z d) := by
  have v1 := length_words_val_le hn
  have v2 := length_words_val_le hd
  have v3 := length_words_val_le hm
  have v4 := length_words_val_le he
  have hM1 := ret_Make11z false en he (by omega)
  have hM2 := ret_Make11z false dn hd (by omega)
  rw [sg_false] at hM1 hM2
  have hX1 := ret_Mul11 a false ns (words (val en)) hn (Wd_words _) (by omega) (by omega)
  have hX2 := ret_Mul11 b false ms (words (val dn)) hm (Wd_words _) (by omega) (by omega)
  rw [val_words, sg_false] at hX1 hX2
  have ab : ∀ (c : Bool) (x y : Nat), (sg c x * (y : Int)).natAbs = x * y := fun c x y => by
    rw [Int.natAbs_mul, Int.natAbs_natCast, sg_abs]
  have m1 := length_mul (val ns) (val en)
  have m2 := length_mul (val ms) (val dn)
  have m3 := length_mul (val dn) (val en)
  have hA := ret_Add11 (decide (sg a (val ns) * (val en : Int) < 0)) (decide (sg b (val ms) * (val dn : Int) < 0)) (words (sg a (val ns) * (val en : Int)).natAbs) (words (sg b (val ms) * (val dn : Int)).natAbs) (Wd_words _) (Wd_words _) (by rw [ab]; omega) (by rw [ab]; omega)
  rw [val_words, val_words, sg_zv, sg_zv] at hA
  have hP := ret_rMul dn en hd he (by omega) (by omega)
  have sl := length_add (val ns * val en) (val ms * val dn)
  have hsl : (words (sg a (val ns) * (val en : Int) + sg b (val ms) * (val dn : Int)).natAbs).length ≤ 10000 := by
    have h3 : (sg a (val ns) * (val en : Int) + sg b (val ms) * (val dn : Int)).natAbs ≤ val ns * val en + val ms * val dn := by
      have := Int.natAbs_add_le (sg a (val ns) * (val en : Int)) (sg b (val ms) * (val dn : Int))
      rw [ab, ab] at this
      exact this
    have := length_mono h3
    omega
  obtain ⟨z, d, g, h, hK⟩ := ret_Make12z (decide (sg a (val ns) * (val en : Int) + sg b (val ms) * (val dn : Int) < 0)) (words (sg a (val ns) * (val en : Int) + sg b (val ms) * (val dn : Int)).natAbs) (words (val dn * val en)) (Wd_words _) (Wd_words _) (by omega) (by omega) (by rw [val_words]; exact Nat.mul_ne_zero h1 h2)
  rw [val_words, val_words, sg_zv] at h
  refine ⟨z, d, g, h, ?_⟩
  have z1 : zv (val en : Int) = .agg [.bool false, nat (val en)] := by unfold zv; rw [decF (show ¬ (val en : Int) < 0 by omega), Int.natAbs_natCast]
  have z2 : zv (val dn : Int) = .agg [.bool false, nat (val dn)] := by unfold zv; rw [decF (show ¬ (val dn : Int) < 0 by omega), Int.natAbs_natCast]
  rw [z1] at hM1
  rw [z2] at hM2
  generalize sg a (val ns) * (val en : Int) = P at *
  generalize sg b (val ms) * (val dn : Int) = R at *
  generalize P + R = S at *
  generalize val dn * val en = D at *
  unfold zv qz at *
  refine RetN_start Tryz.func64 (by kernel_rfl) rfl fun Q hQ hQ2 => ?_; rw [Tryz.ntmps64]; simp only [u, i64, Nat.reduceSub, Nat.reduceAdd, bm]
  repeat (first | ((first | refine Gs ?_ | refine Gr ?_); simp (disch := omega) only [u, i64, ax, eq_self, if_true, if_false, Nat.reduceAdd, Int.reduceToNat, Int.reduceAdd, tvs, bs]; refine aA ?_) | refine G_seq ?_ | refine G_block ?_ | refine G_condT rfl ?_ | refine G_condF rfl ?_ | refine G_skip ?_ | refine G_ret ?_ | refine G_exit ?_ | refine q_tn ?_ | refine q_tr ?_ | refine q_tx ?_ | refine q_bn ?_ | refine q_br ?_ | refine q_bx ?_ | refine q_by (by decide) ?_)
  (first | refine G_stree (.step 0 (.step 1 (.step 2 (.step 3 (.step 4 (.step 5 (.step 6 (.step 7 (.step 8 (.step 9 (.step 10 (.step 11 (.alt 12 (.step 13 (.step 14 (.step 15 .done))) (.alt 13 (.step 12 (.step 14 (.step 15 .done))) .stop)))))))))))))) mixed (by kernel_rfl) ?_ | refine G_tree (.step 0 (.step 1 (.step 2 (.step 3 (.step 4 (.step 5 (.step 6 (.step 7 (.step 8 (.step 9 (.step 10 (.step 11 (.alt 12 (.step 13 (.step 14 (.step 15 .done))) (.alt 13 (.step 12 (.step 14 (.step 15 .done))) .stop)))))))))))))) mixed (by kernel_rfl) ?_); simp (disch := omega) only [u, i64, ax, eq_self, if_true, if_false, Nat.reduceAdd, Int.reduceToNat, Int.reduceAdd, tvs, bs, x_done, x_step, x_alt, x_stop, lk_0, lk_S, mpD_nil, mpD_cons]
  refine callK_ret (hM1) (by (simp (disch := omega) only [if_true, forall_const, reduceCtorEq, implies_true, bz]) <;> rfl) ?_; simp (disch := omega) only [u, i64, ax, eq_self, if_true, if_false, Nat.reduceAdd, Int.reduceToNat, Int.reduceAdd, tvs, bs, x_done, x_step, x_alt, x_stop, lk_0, lk_S, mpD_nil, mpD_cons]
  refine callK_ret (hX1) (by (simp (disch := omega) only [if_true, forall_const, reduceCtorEq, implies_true, bz]) <;> rfl) ?_; simp (disch := omega) only [u, i64, ax, eq_self, if_true, if_false, Nat.reduceAdd, Int.reduceToNat, Int.reduceAdd, tvs, bs, x_done, x_step, x_alt, x_stop, lk_0, lk_S, mpD_nil, mpD_cons]
  refine callK_ret (hM2) (by (simp (disch := omega) only [if_true, forall_const, reduceCtorEq, implies_true, bz]) <;> rfl) ?_; simp (disch := omega) only [u, i64, ax, eq_self, if_true, if_false, Nat.reduceAdd, Int.reduceToNat, Int.reduceAdd, tvs, bs, x_done, x_step, x_alt, x_stop, lk_0, lk_S, mpD_nil, mpD_cons]
  refine callK_ret (hX2) (by (simp (disch := omega) only [if_true, forall_const, reduceCtorEq, implies_true, bz]) <;> rfl) ?_; simp (disch := omega) only [u, i64, ax, eq_self, if_true, if_false, Nat.reduceAdd, Int.reduceToNat, Int.reduceAdd, tvs, bs, x_done, x_step, x_alt, x_stop, lk_0, lk_S, mpD_nil, mpD_cons]
  repeat' apply And.intro
  all_goals
    refine aft_any ?_
    repeat (first | ((first | refine Gs ?_ | refine Gr ?_); simp (disch := omega) only [u, i64, ax, eq_self, if_true, if_false, Nat.reduceAdd, Int.reduceToNat, Int.reduceAdd, tvs, bs]; first | refine aA ?_ | ((first | refine cR hA ?_ | refine cR hP ?_ | refine cR hK ?_); simp (disch := omega) only [u, i64, ax, eq_self, if_true, if_false, Nat.reduceAdd, Int.reduceToNat, Int.reduceAdd, tvs, bs]; try refine aA ?_)) | ((first | refine cR hA ?_ | refine cR hP ?_ | refine cR hK ?_); simp (disch := omega) only [u, i64, ax, eq_self, if_true, if_false, Nat.reduceAdd, Int.reduceToNat, Int.reduceAdd, tvs, bs]; try refine aA ?_) | refine G_seq ?_ | refine G_block ?_ | refine G_condT rfl ?_ | refine G_condF rfl ?_ | refine G_skip ?_ | refine G_ret ?_ | refine G_exit ?_ | refine q_tn ?_ | refine q_tr ?_ | refine q_tx ?_ | refine q_bn ?_ | refine q_br ?_ | refine q_bx ?_ | refine q_by (by decide) ?_)
    (refine FinQ hQ (congrArg Array.toList Tryz.results64) _ _ ?_); simp (disch := omega) only [u, i64, ax, if_true, forall_const, reduceCtorEq, implies_true, tvs, bf]
set_option maxRecDepth 100000 in
theorem ret_Sub12 (a b : Bool) (ns dn ms en : List Nat) (hn : Wd ns) (hd : Wd dn) (hm : Wd ms) (he : Wd en) (l1 : ns.length ≤ 2000) (l2 : dn.length ≤ 2000) (l3 : ms.length ≤ 2000) (l4 : en.length ≤ 2000) (h1 : val dn ≠ 0) (h2 : val en ≠ 0) :
    ∃ z d g, Low (sg a (val ns) * (val en : Int) - sg b (val ms) * (val dn : Int)) (val dn * val en) z d g ∧ Ret Tryz.prog GEs 41 [.agg [.bool a, ws ns, ws dn], .agg [.bool b, ws ms, ws en]] (qz z d) := by
  obtain ⟨z1, d1, g1, k1, hN⟩ := ret_Neg12 b ms en hm he (by omega) (by omega) h2
  have hab := k1.absle
  rw [Int.natAbs_neg, sg_abs] at hab
  have v3 := length_words_val_le hm
  have v4 := length_words_val_le he
  have b1 := length_mono hab.1
  have b2 := length_mono hab.2
  obtain ⟨z, d, g, k, hA⟩ := ret_Add12 a (decide (z1 < 0)) ns dn (words z1.natAbs) (words d1) hn hd (Wd_words _) (Wd_words _) l1 l2 (by omega) (by omega) h1 (by rw [val_words]; exact k1.dnz)
  rw [val_words, val_words, sg_zv] at k
  refine ⟨z, d, g * g1, ⟨Nat.mul_pos k.g0 k1.g0, k.dnz, ?_, ?_⟩, ?_⟩
  · have e1 := k.num
    have e2 := k1.num
    rw [Int.natCast_mul, ← Int.mul_assoc, ← e1, Int.add_mul, Int.mul_assoc, ← Int.natCast_mul, ← k1.den, Int.mul_right_comm z1, ← e2, Int.sub_eq_add_neg, Int.neg_mul]
  · rw [← Nat.mul_assoc, ← k.den, Nat.mul_assoc, ← k1.den]
  · unfold qz at *
    refine RetN_start Tryz.func41 (by kernel_rfl) rfl fun Q hQ hQ2 => ?_; rw [Tryz.ntmps41]; simp only [u, i64, Nat.reduceSub, Nat.reduceAdd, bm]
    repeat (first | ((first | refine Gs ?_ | refine Gr ?_); simp (disch := omega) only [u, i64, ax, eq_self, if_true, if_false, Nat.reduceAdd, Int.reduceToNat, Int.reduceAdd, tvs, bs]; first | refine aA ?_ | ((first | refine cR hN ?_ | refine cR hA ?_); simp (disch := omega) only [u, i64, ax, eq_self, if_true, if_false, Nat.reduceAdd, Int.reduceToNat, Int.reduceAdd, tvs, bs]; try refine aA ?_)) | ((first | refine cR hN ?_ | refine cR hA ?_); simp (disch := omega) only [u, i64, ax, eq_self, if_true, if_false, Nat.reduceAdd, Int.reduceToNat, Int.reduceAdd, tvs, bs]; try refine aA ?_) | refine G_seq ?_ | refine G_block ?_ | refine G_condT rfl ?_ | refine G_condF rfl ?_ | refine G_skip ?_ | refine G_ret ?_ | refine G_exit ?_ | refine q_tn ?_ | refine q_tr ?_ | refine q_tx ?_ | refine q_bn ?_ | refine q_br ?_ | refine q_bx ?_ | refine q_by (by decide) ?_)
    (refine FinQ hQ (congrArg Array.toList Tryz.results41) _ _ ?_); simp (disch := omega) only [u, i64, ax, if_true, forall_const, reduceCtorEq, implies_true, tvs, bf]
set_option maxRecDepth 100000 in
/-- How far two fractions lie apart. -/
theorem ret_Dist12 (a b : Bool) (ns dn ms en : List Nat) (hn : Wd ns) (hd : Wd dn) (hm : Wd ms) (he : Wd en) (l1 : ns.length ≤ 400) (l2 : dn.length ≤ 400) (l3 : ms.length ≤ 400) (l4 : en.length ≤ 400) (h1 : val dn ≠ 0) (h2 : val en ≠ 0) :
    ∃ z d z' d' g, Ret Tryz.prog GEs 41 [.agg [.bool a, ws ns, ws dn], .agg [.bool b, ws ms, ws en]] (qz z d) ∧ Ret Tryz.prog GEs 40 [qz z d] (qz z' d') ∧
      Low (((sg a (val ns) * (val en : Int) - sg b (val ms) * (val dn : Int)).natAbs : Nat) : Int) (val dn * val en) z' d' g ∧ (words z'.natAbs).length ≤ 1000 ∧ (words d').length ≤ 1000 := by
  obtain ⟨z, d, g, k, hS⟩ := ret_Sub12 a b ns dn ms en hn hd hm he (by omega) (by omega) (by omega) (by omega) h1 h2
  have v1 := length_words_val_le hn
  have v2 := length_words_val_le hd
  have v3 := length_words_val_le hm
  have v4 := length_words_val_le he
  have hab := k.absle
  have ab : ∀ (c : Bool) (x y : Nat), (sg c x * (y : Int)).natAbs = x * y := fun c x y => by
    rw [Int.natAbs_mul, Int.natAbs_natCast, sg_abs]
  have h3 : (sg a (val ns) * (val en : Int) - sg b (val ms) * (val dn : Int)).natAbs ≤ val ns * val en + val ms * val dn := by
    have := Int.natAbs_sub_le (sg a (val ns) * (val en : Int)) (sg b (val ms) * (val dn : Int))
    rw [ab, ab] at this
    exact this
  have m1 := length_mul (val ns) (val en)
  have m2 := length_mul (val ms) (val dn)
  have m3 := length_mul (val dn) (val en)
  have sl := length_add (val ns * val en) (val ms * val dn)
  have b1 := length_mono (Nat.le_trans hab.1 h3)
  have b2 := length_mono hab.2
  obtain ⟨z', d', g', k', hA⟩ := ret_Abs12 (decide (z < 0)) (words z.natAbs) (words d) (Wd_words _) (Wd_words _) (by omega) (by omega) (by rw [val_words]; exact k.dnz)
  rw [val_words, val_words] at k'
  have hab' := k'.absle
  rw [Int.natAbs_natCast] at hab'
  have c1 := length_mono hab'.1
  have c2 := length_mono hab'.2
  refine ⟨z, d, z', d', g' * g, hS, hA, ⟨Nat.mul_pos k'.g0 k.g0, k'.dnz, ?_, ?_⟩, by omega, by omega⟩
  · rw [k.num, Int.natAbs_mul, Int.natAbs_natCast, Int.natCast_mul, k'.num, Int.natCast_mul, Int.mul_assoc]
  · rw [k.den, k'.den, Nat.mul_assoc]
theorem ret_Cmp12z (z : Int) (d : Nat) (z' : Int) (d' : Nat) (l1 : (words z.natAbs).length ≤ 2000) (l2 : (words d).length ≤ 2000) (l3 : (words z'.natAbs).length ≤ 2000) (l4 : (words d').length ≤ 2000) :
    Ret Tryz.prog GEs 24 [qz z d, qz z' d'] (i64 (sgnI (z * d' - z' * d))) := by
  have h := ret_Cmp12 (decide (z < 0)) (decide (z' < 0)) (words z.natAbs) (words d) (words z'.natAbs) (words d') (Wd_words _) (Wd_words _) (Wd_words _) (Wd_words _) l1 l2 l3 l4
  unfold cpQ at h
  rw [val_words, val_words, val_words, val_words, sg_zv, sg_zv] at h
  exact h
theorem Low.le {z0 z0' : Int} {d0 d0' : Nat} {z z' : Int} {d d' g g' : Nat} (h : Low z0 d0 z d g) (h' : Low z0' d0' z' d' g') (hle : z0 * d0' ≤ z0' * d0) : z * d' - z' * d ≤ 0 := by
  rw [h.num, h'.num, h.den, h'.den, Int.natCast_mul, Int.natCast_mul] at hle
  have e1 : z * g * (d' * g') = z * d' * (g * g' : Int) := by
    rw [Int.mul_assoc, Int.mul_assoc]; congr 1; rw [Int.mul_left_comm]
  have e2 : z' * g' * (d * g) = z' * d * (g * g' : Int) := by
    rw [Int.mul_assoc, Int.mul_assoc]; congr 1; rw [Int.mul_left_comm, Int.mul_comm (g' : Int)]
  rw [e1, e2] at hle
  have hp : (0 : Int) < g * g' := Int.mul_pos (by have := h.g0; omega) (by have := h'.g0; omega)
  have := Int.le_of_mul_le_mul_right hle hp
  omega
end Go.Proofs
set_option linter.unusedVariables false
set_option linter.unusedSimpArgs false
namespace Go.Proofs
open Go.Ax
theorem orI (a b : Nat) (ha : a < 4294967296) (hb : b < 4294967296) : Go.Ax.bits .or .i64 (a : Int) (b : Int) = ((a ||| b : Nat) : Int) := by
  have hx : a ||| b < 2 ^ 32 := Nat.or_lt_two_pow ha hb
  show IntKind.i64.wrap ((BitVec.ofInt 64 (a : Int) ||| BitVec.ofInt 64 (b : Int)).toNat : Int) = _
  rw [BitVec.toNat_or, toNatU a (by omega), toNatU b (by omega)]
  exact wrapI _ (by omega) (by omega)
/-- What a number encodes. -/
def dcdF (k p n : Nat) : FV :=
  if n / 2 ^ (p - 1) % 2 ^ k = 2 ^ k - 1 then (if n % 2 ^ (p - 1) = 0 then ⟨2, decide (n / 2 ^ (k + p - 1) % 2 = 1), 0, 0⟩ else ⟨3, false, 0, 0⟩)
  else if n / 2 ^ (p - 1) % 2 ^ k = 0 ∧ n % 2 ^ (p - 1) = 0 then ⟨0, decide (n / 2 ^ (k + p - 1) % 2 = 1), 0, 0⟩
  else if n / 2 ^ (p - 1) % 2 ^ k = 0 then mkF (decide (n / 2 ^ (k + p - 1) % 2 = 1)) (n % 2 ^ (p - 1)) (1 - gF k - (p - 1))
  else mkF (decide (n / 2 ^ (k + p - 1) % 2 = 1)) (n % 2 ^ (p - 1) + 2 ^ (p - 1)) ((n / 2 ^ (p - 1) % 2 ^ k : Nat) - gF k - p + 1)
theorem ret_large (x : FV) (h : (words x.mag).length ≤ 4096) : Ret Tryz.prog GEs 195 [flv x] (.bool false) := by
  unfold flv
  refine RetN_start Tryz.func195 (by kernel_rfl) rfl fun Q hQ hQ2 => ?_; rw [Tryz.ntmps195]; simp only [u, i64, Nat.reduceSub, Nat.reduceAdd, bm]
  repeat (first | ((first | refine Gs ?_ | refine Gr ?_); simp (disch := omega) only [u, i64, ax, eq_self, if_true, if_false, Nat.reduceAdd, Int.reduceToNat, Int.reduceAdd, tvs, bs]; refine aA ?_) | refine G_seq ?_ | refine G_block ?_ | refine G_condT rfl ?_ | refine G_condF rfl ?_ | refine G_skip ?_ | refine G_ret ?_ | refine G_exit ?_ | refine q_tn ?_ | refine q_tr ?_ | refine q_tx ?_ | refine q_bn ?_ | refine q_br ?_ | refine q_bx ?_ | refine q_by (by decide) ?_)
  (refine FinQ hQ (congrArg Array.toList Tryz.results195) _ _ ?_); simp (disch := omega) only [u, i64, ax, if_true, forall_const, reduceCtorEq, implies_true, tvs, bf]
theorem ret_fCanonical (x : FV) (h : wfF x) (hl : (words x.mag).length ≤ 4096) : Ret Tryz.prog GEs 113 [flv x] (.tup [flv (canF x), i64 0]) := by
  have hL := ret_large x hl
  have hC := ret_canonical x h
  generalize canF x = y at *
  unfold flv at *
  refine RetN_start Tryz.func113 (by kernel_rfl) rfl fun Q hQ hQ2 => ?_; rw [Tryz.ntmps113]; simp only [u, i64, Nat.reduceSub, Nat.reduceAdd, bm]
  repeat (first | ((first | refine Gs ?_ | refine Gr ?_); simp (disch := omega) only [u, i64, ax, eq_self, if_true, if_false, Nat.reduceAdd, Int.reduceToNat, Int.reduceAdd, tvs, bs]; first | refine aA ?_ | ((first | refine cR hL ?_ | refine cR hC ?_); simp (disch := omega) only [u, i64, ax, eq_self, if_true, if_false, Nat.reduceAdd, Int.reduceToNat, Int.reduceAdd, tvs, bs]; try refine aA ?_)) | ((first | refine cR hL ?_ | refine cR hC ?_); simp (disch := omega) only [u, i64, ax, eq_self, if_true, if_false, Nat.reduceAdd, Int.reduceToNat, Int.reduceAdd, tvs, bs]; try refine aA ?_) | refine G_seq ?_ | refine G_block ?_ | refine G_condT rfl ?_ | refine G_condF rfl ?_ | refine G_skip ?_ | refine G_ret ?_ | refine G_exit ?_ | refine q_tn ?_ | refine q_tr ?_ | refine q_tx ?_ | refine q_bn ?_ | refine q_br ?_ | refine q_bx ?_ | refine q_by (by decide) ?_)
  (refine FinQ hQ (congrArg Array.toList Tryz.results113) _ _ ?_); simp (disch := omega) only [u, i64, ax, if_true, forall_const, reduceCtorEq, implies_true, tvs, bf]
  all_goals rfl
/-- The value of a float. -/
theorem ret_fValue0 (neg : Bool) : Ret Tryz.prog GEs 38 [flv ⟨0, neg, 0, 0⟩] (.tup [.agg [.bool false, ws [], ws [1]], i64 0]) := by
  have hC := ret_fCanonical ⟨0, neg, 0, 0⟩ (.inr ⟨.inl rfl, rfl, rfl⟩) (by show (words 0).length ≤ 4096; decide)
  rw [show canF ⟨0, neg, 0, 0⟩ = ⟨0, neg, 0, 0⟩ from rfl] at hC
  unfold flv at *
  refine RetN_start Tryz.func38 (by kernel_rfl) rfl fun Q hQ hQ2 => ?_; rw [Tryz.ntmps38]; simp only [u, i64, Nat.reduceSub, Nat.reduceAdd, bm]
  repeat (first | ((first | refine Gs ?_ | refine Gr ?_); simp (disch := omega) only [u, i64, ax, eq_self, if_true, if_false, Nat.reduceAdd, Int.reduceToNat, Int.reduceAdd, tvs, bs]; first | refine aA ?_ | (refine cR hC ?_; simp (disch := omega) only [u, i64, ax, eq_self, if_true, if_false, Nat.reduceAdd, Int.reduceToNat, Int.reduceAdd, tvs, bs]; try refine aA ?_)) | (refine cR hC ?_; simp (disch := omega) only [u, i64, ax, eq_self, if_true, if_false, Nat.reduceAdd, Int.reduceToNat, Int.reduceAdd, tvs, bs]; try refine aA ?_) | refine G_seq ?_ | refine G_block ?_ | refine G_condT rfl ?_ | refine G_condF rfl ?_ | refine G_skip ?_ | refine G_ret ?_ | refine G_exit ?_ | refine q_tn ?_ | refine q_tr ?_ | refine q_tx ?_ | refine q_bn ?_ | refine q_br ?_ | refine q_bx ?_ | refine q_by (by decide) ?_)
  (refine FinQ hQ (congrArg Array.toList Tryz.results38) _ _ ?_); simp (disch := omega) only [u, i64, ax, if_true, forall_const, reduceCtorEq, implies_true, tvs, bf]
  all_goals rfl
set_option maxRecDepth 100000 in
set_option maxHeartbeats 2000000 in
theorem ret_fValue1 (neg : Bool) (e : Int) (j : Nat) (h1 : -200000 ≤ e) (h2 : e ≤ 200000) (hl : (words (2 * j + 1)).length ≤ 900) : Ret Tryz.prog GEs 38 [flv ⟨1, neg, e, 2 * j + 1⟩] (.tup [.agg [.bool neg, nat ((2 * j + 1) * 2 ^ e.toNat), nat (2 ^ (-e).toNat)], i64 0]) := by
  have hC := ret_fCanonical ⟨1, neg, e, 2 * j + 1⟩ (.inl ⟨rfl, Nat.succ_ne_zero _, by show _ ≤ e; omega, by show e ≤ _; omega, by show (words (2 * j + 1)).length ≤ _; omega⟩) (by show (words (2 * j + 1)).length ≤ 4096; omega)
  rw [show canF ⟨1, neg, e, 2 * j + 1⟩ = ⟨1, neg, e, 2 * j + 1⟩ from mkF_oddS neg j e] at hC
  unfold flv at *
  simp only at hC ⊢
  generalize 2 * j + 1 = m at *
  have hb := bl_len m
  have hLn := ret_Len (words m) (Wd_words _) (by omega)
  rw [val_words] at hLn
  have hS := ret_Shl (words m) e.toNat (Wd_words _) (by omega) (by omega)
  rw [val_words] at hS
  have hS1 := ret_Shl [1] (-e).toNat (fun x hx => by simp at hx; subst hx; decide) (by decide) (by omega)
  rw [show val [1] = 1 from rfl, Nat.one_mul] at hS1
  have m1 : max e 0 = ((e.toNat : Nat) : Int) := by omega
  have m2 : max (0 - e) 0 = (((-e).toNat : Nat) : Int) := by omega
  refine RetN_start Tryz.func38 (by kernel_rfl) rfl fun Q hQ hQ2 => ?_; rw [Tryz.ntmps38]; simp only [u, i64, Nat.reduceSub, Nat.reduceAdd, bm]
  repeat (first | ((first | refine Gs ?_ | refine Gr ?_); simp (disch := omega) only [u, i64, ax, eq_self, if_true, if_false, Nat.reduceAdd, Int.reduceToNat, Int.reduceAdd, tvs, bs]; first | refine aA ?_ | (refine cR hC ?_; simp (disch := omega) only [u, i64, ax, eq_self, if_true, if_false, Nat.reduceAdd, Int.reduceToNat, Int.reduceAdd, tvs, bs]; try refine aA ?_)) | (refine cR hC ?_; simp (disch := omega) only [u, i64, ax, eq_self, if_true, if_false, Nat.reduceAdd, Int.reduceToNat, Int.reduceAdd, tvs, bs]; try refine aA ?_) | refine G_seq ?_ | refine G_block ?_ | refine G_condT rfl ?_ | refine G_condF rfl ?_ | refine G_skip ?_ | refine G_ret ?_ | refine G_exit ?_ | refine q_tn ?_ | refine q_tr ?_ | refine q_tx ?_ | refine q_bn ?_ | refine q_br ?_ | refine q_bx ?_ | refine q_by (by decide) ?_)
  ((first | refine Gs ?_ | refine Gr ?_); simp (disch := omega) only [u, i64, ax, eq_self, if_true, if_false, Nat.reduceAdd, Int.reduceToNat, Int.reduceAdd, tvs, bs])
  rw [m1]
  repeat (first | ((first | refine Gs ?_ | refine Gr ?_); simp (disch := omega) only [u, i64, ax, eq_self, if_true, if_false, Nat.reduceAdd, Int.reduceToNat, Int.reduceAdd, tvs, bs]; first | refine aA ?_ | (refine cR hLn ?_; simp (disch := omega) only [u, i64, ax, eq_self, if_true, if_false, Nat.reduceAdd, Int.reduceToNat, Int.reduceAdd, tvs, bs]; try refine aA ?_)) | (refine cR hLn ?_; simp (disch := omega) only [u, i64, ax, eq_self, if_true, if_false, Nat.reduceAdd, Int.reduceToNat, Int.reduceAdd, tvs, bs]; try refine aA ?_) | refine G_seq ?_ | refine G_block ?_ | refine G_condT rfl ?_ | refine G_condF rfl ?_ | refine G_skip ?_ | refine G_ret ?_ | refine G_exit ?_ | refine q_tn ?_ | refine q_tr ?_ | refine q_tx ?_ | refine q_bn ?_ | refine q_br ?_ | refine q_bx ?_ | refine q_by (by decide) ?_)
  ((first | refine Gs ?_ | refine Gr ?_); simp (disch := omega) only [u, i64, ax, eq_self, if_true, if_false, Nat.reduceAdd, Int.reduceToNat, Int.reduceAdd, tvs, bs])
  rw [m1]
  (refine cR hS ?_; simp (disch := omega) only [u, i64, ax, eq_self, if_true, if_false, Nat.reduceAdd, Int.reduceToNat, Int.reduceAdd, tvs, bs]; try refine aA ?_)
  rw [m2]
  repeat (first | ((first | refine Gs ?_ | refine Gr ?_); simp (disch := omega) only [u, i64, ax, eq_self, if_true, if_false, Nat.reduceAdd, Int.reduceToNat, Int.reduceAdd, tvs, bs]; first | refine aA ?_ | (refine cR hS1 ?_; simp (disch := omega) only [u, i64, ax, eq_self, if_true, if_false, Nat.reduceAdd, Int.reduceToNat, Int.reduceAdd, tvs, bs]; try refine aA ?_)) | (refine cR hS1 ?_; simp (disch := omega) only [u, i64, ax, eq_self, if_true, if_false, Nat.reduceAdd, Int.reduceToNat, Int.reduceAdd, tvs, bs]; try refine aA ?_) | refine G_seq ?_ | refine G_block ?_ | refine G_condT rfl ?_ | refine G_condF rfl ?_ | refine G_skip ?_ | refine G_ret ?_ | refine G_exit ?_ | refine q_tn ?_ | refine q_tr ?_ | refine q_tx ?_ | refine q_bn ?_ | refine q_br ?_ | refine q_bx ?_ | refine q_by (by decide) ?_)
  (refine FinQ hQ (congrArg Array.toList Tryz.results38) _ _ ?_); simp (disch := omega) only [u, i64, ax, if_true, forall_const, reduceCtorEq, implies_true, tvs, bf]
  all_goals rfl
end Go.Proofs
set_option linter.unusedVariables false
set_option linter.unusedSimpArgs false
namespace Go.Proofs
open Go.Ax
theorem mod_bit (h i : Nat) : h % 2 ^ (i + 1) = h % 2 ^ i + 2 ^ i * (h / 2 ^ i % 2) := by rw [Nat.pow_succ]; exact Nat.mod_mul
theorem or_bit (h i : Nat) (ho : h / 2 ^ i % 2 = 1) : h % 2 ^ i ||| 2 ^ i = h % 2 ^ (i + 1) := by
  rw [mod_bit, ho, Nat.mul_one]
  have := Nat.two_pow_add_eq_or_of_lt (Nat.mod_lt h (Nat.two_pow_pos i)) 1
  rw [Nat.mul_one] at this
  rw [Nat.add_comm, this, Nat.or_comm]
/-- What is decoded is a canonical float of the format. -/
theorem decF_facts (k p n : Nat) (hk : 2 ≤ k) (hk2 : k ≤ 15) (hp : 2 ≤ p) (hp2 : p ≤ 256) : (∃ ng, dcdF k p n = ⟨0, ng, 0, 0⟩) ∨ (∃ ng, dcdF k p n = ⟨2, ng, 0, 0⟩) ∨ dcdF k p n = ⟨3, false, 0, 0⟩ ∨ ∃ ng j e, dcdF k p n = ⟨1, ng, e, 2 * j + 1⟩ ∧ inF p (gF k) (2 * j + 1) e := by
  have hg := gF_le hk hk2
  have key : ∀ (ng : Bool) (m : Nat) (e : Int), m ≠ 0 → bl m ≤ p → 1 - gF k - (p - 1) ≤ e → bl m + e ≤ gF k + 1 → ∃ ng' j e', mkF ng m e = ⟨1, ng', e', 2 * j + 1⟩ ∧ inF p (gF k) (2 * j + 1) e' := fun ng m e h0 h1 h2 h3 => by
    obtain ⟨j, hj⟩ := tz_spec h0
    have e1 : mkF ng m e = ⟨1, ng, e + tz m, 2 * j + 1⟩ := by
      conv => lhs; rw [hj, Nat.mul_comm]
      exact mkF_odd ng j _ _
    have e2 : bl m = bl (2 * j + 1) + tz m := by
      conv => lhs; rw [hj, Nat.mul_comm]
      exact bl_mul _ _ (by omega)
    exact ⟨ng, j, _, e1, by omega, by omega, by omega⟩
  have hlo := Nat.mod_lt n (Nat.two_pow_pos (p - 1))
  have hb := Nat.mod_lt (n / 2 ^ (p - 1)) (Nat.two_pow_pos k)
  have hgk : gF k + 1 = ((2 ^ (k - 1) : Nat) : Int) := by unfold gF; omega
  have h2k : 2 ^ k = 2 * 2 ^ (k - 1) := by rw [Nat.mul_comm, ← Nat.pow_succ]; congr 1; omega
  unfold dcdF
  generalize n / 2 ^ (p - 1) % 2 ^ k = b at *
  generalize n % 2 ^ (p - 1) = lo at *
  generalize decide (n / 2 ^ (k + p - 1) % 2 = 1) = ng
  have h2p := Nat.two_pow_pos (p - 1)
  have hpp : 2 ^ p = 2 ^ (p - 1) * 2 := by rw [← Nat.pow_succ]; congr 1; omega
  split
  · split
    · exact .inr (.inl ⟨_, rfl⟩)
    · exact .inr (.inr (.inl rfl))
  · rename_i hb1
    split
    · exact .inl ⟨_, rfl⟩
    · rename_i hb2
      split
      · rename_i hb3
        have hl0 : lo ≠ 0 := fun h => hb2 ⟨hb3, h⟩
        have := bl_le hlo
        exact .inr (.inr (.inr (key ng lo _ hl0 (by omega) (by omega) (by omega))))
      · rename_i hb3
        have e : bl (lo + 2 ^ (p - 1)) = p := by
          have := bl_eq (n := lo + 2 ^ (p - 1)) (k := p - 1) (by omega) (by rw [show p - 1 + 1 = p by omega]; omega)
          omega
        exact .inr (.inr (.inr (key ng (lo + 2 ^ (p - 1)) _ (by omega) (by omega) (by omega) (by omega))))
set_option maxRecDepth 100000 in
set_option maxHeartbeats 8000000 in
theorem ret_Decode (k p : Nat) (h : okFm k p) (xs : List Nat) (hx : Wd xs) (hl : xs.length ≤ 40) (hb : bl (val xs) ≤ k + p) : Ret Tryz.prog GEs 35 [.agg [i64 k, i64 p], ws xs] (.tup [flv (dcdF k p (val xs)), i64 0]) := by
  have hR := ret_fRange k p h
  have hg := gF_le (k := k) (by omega) (by omega)
  have hL := ret_Len xs hx (by omega)
  have hB := ret_Bit xs (k + p - 1) hx (by omega) (by omega)
  have hS := ret_Shr xs (p - 1) hx (by omega) (by omega)
  have hnl := length_words_val_le hx
  have hhl := Nat.le_trans (length_mono (Nat.div_le_self (val xs) (2 ^ (p - 1)))) hnl
  have hS2 := ret_Shl (words (val xs / 2 ^ (p - 1))) (p - 1) (Wd_words _) (by omega) (by omega)
  rw [val_words] at hS2
  have hmul : val xs / 2 ^ (p - 1) * 2 ^ (p - 1) ≤ val xs := Nat.div_mul_le_self _ _
  have hmul2 := length_mono hmul
  have hS3 := ret_Sub xs (words (val xs / 2 ^ (p - 1) * 2 ^ (p - 1))) hx (Wd_words _) (by omega) (by omega) (by rw [val_words]; exact hmul)
  rw [val_words] at hS3
  have hlo : val xs - val xs / 2 ^ (p - 1) * 2 ^ (p - 1) = val xs % 2 ^ (p - 1) := by
    have := Nat.div_add_mod (val xs) (2 ^ (p - 1))
    rw [Nat.mul_comm] at this
    omega
  rw [hlo] at hS3
  have hll := Nat.le_trans (length_mono (Nat.mod_le (val xs) (2 ^ (p - 1)))) hnl
  have hwf : ∀ (ng : Bool) (m : Nat) (e : Int), m ≠ 0 → (words m).length ≤ 50 → -100000 ≤ e → e ≤ 100000 → Ret Tryz.prog GEs 110 [.agg [i64 1, .bool ng, i64 e, nat m]] (.tup [flv (mkF ng m e), .bool true]) := fun ng m e h0 h1 h2 h3 =>
    ret_canonical ⟨1, ng, e, m⟩ (.inl ⟨rfl, h0, by show _ ≤ e; omega, by show e ≤ _; omega, by show (words m).length ≤ 5000; omega⟩)
  have hS1 := ret_Shl [1] (p - 1) (fun x hx => by simp at hx; subst hx; decide) (by decide) (by omega)
  rw [show val [1] = 1 from rfl, Nat.one_mul] at hS1
  have h2l : (words (2 ^ (p - 1))).length ≤ 5 := le_pow_words (Nat.le_refl _) (by omega)
  have hAd := ret_Add (words (val xs % 2 ^ (p - 1))) (words (2 ^ (p - 1))) (Wd_words _) (Wd_words _) (by omega) (by omega)
  rw [val_words, val_words] at hAd
  have hal := length_add (val xs % 2 ^ (p - 1)) (2 ^ (p - 1))
  have hZ := ret_Zero (words (val xs % 2 ^ (p - 1))) (Wd_words _) (by omega)
  rw [val_words] at hZ
  have h2p := Nat.two_pow_pos (p - 1)
  have hgk : gF k + 1 = ((2 ^ (k - 1) : Nat) : Int) := by unfold gF; omega
  unfold dcdF
  generalize val xs / 2 ^ (p - 1) * 2 ^ (p - 1) = mid at *
  generalize hhi : val xs / 2 ^ (p - 1) = hi at *
  generalize val xs % 2 ^ (p - 1) = lo at *
  generalize hng : decide (val xs / 2 ^ (k + p - 1) % 2 = 1) = ng at *
  generalize val xs = n at *
  generalize hG : gF k = G at *
  have hBt := fun i (hi' : i ≤ 15) => ret_Bit (words hi) i (Wd_words _) (by omega) (by omega)
  simp only [val_words] at hBt
  have h15 : 2 ^ k ≤ 2 ^ 15 := Nat.pow_le_pow_right (by decide) (by omega)
  have hor : ∀ i, i < 15 → hi / 2 ^ i % 2 = 1 → Go.Ax.bits .or .i64 ((hi % 2 ^ i : Nat) : Int) (IntKind.i64.wrap ((1 * 2 ^ min i IntKind.i64.bits : Nat) : Int)) = ((hi % 2 ^ (i + 1) : Nat) : Int) := fun i hi' ho => by
    have h1 : 2 ^ i ≤ 2 ^ 15 := Nat.pow_le_pow_right (by decide) (by omega)
    have h2 := Nat.mod_lt hi (Nat.two_pow_pos i)
    rw [Nat.one_mul, show min i IntKind.i64.bits = i from Nat.min_eq_left (by show i ≤ 64; omega), wrapI _ (by omega) (by omega), orI _ _ (by omega) (by omega), or_bit hi i ho]
  have hnor : ∀ i, ¬ hi / 2 ^ i % 2 = 1 → hi % 2 ^ (i + 1) = hi % 2 ^ i := fun i ho => by
    rw [mod_bit, show hi / 2 ^ i % 2 = 0 by omega, Nat.mul_zero, Nat.add_zero]
  have hsh : IntKind.i64.wrap ((1 * 2 ^ min k IntKind.i64.bits : Nat) : Int) = ((2 ^ k : Nat) : Int) := by
    rw [Nat.one_mul, show min k IntKind.i64.bits = k from Nat.min_eq_left (by show k ≤ 64; omega)]
    exact wrapI _ (Int.le_trans (by decide) (Int.natCast_nonneg _)) (by omega)
  have hbl := Nat.mod_lt hi (Nat.two_pow_pos k)
  generalize h2k : 2 ^ k = K2 at *
  have hbx : hi % K2 < 32768 := by omega
  have hK1 : ((K2 : Nat) : Int) - 1 = ((K2 - 1 : Nat) : Int) := by omega
  by_cases c1 : hi % K2 = K2 - 1
  · rw [if_pos c1]
    by_cases c2 : lo = 0
    · rw [if_pos c2]
      rw [decT c2] at hZ
      refine RetN_start Tryz.func35 (by kernel_rfl) rfl fun Q hQ hQ2 => ?_; rw [Tryz.ntmps35]; simp only [u, i64, Nat.reduceSub, Nat.reduceAdd, bm]
      repeat (first | ((first | refine Gs ?_ | refine Gr ?_); simp (disch := omega) only [u, i64, ax, eq_self, if_true, if_false, Nat.reduceAdd, Int.reduceToNat, Int.reduceAdd, tvs, bs]; first | refine aA ?_ | ((first | refine cR hR ?_ | refine cR hL ?_ | refine cR hB ?_ | refine cR hS ?_ | refine cR hS2 ?_ | refine cR hS3 ?_); simp (disch := omega) only [u, i64, ax, eq_self, if_true, if_false, Nat.reduceAdd, Int.reduceToNat, Int.reduceAdd, tvs, bs]; try refine aA ?_)) | ((first | refine cR hR ?_ | refine cR hL ?_ | refine cR hB ?_ | refine cR hS ?_ | refine cR hS2 ?_ | refine cR hS3 ?_); simp (disch := omega) only [u, i64, ax, eq_self, if_true, if_false, Nat.reduceAdd, Int.reduceToNat, Int.reduceAdd, tvs, bs]; try refine aA ?_) | refine G_seq ?_ | refine G_block ?_ | refine G_condT rfl ?_ | refine G_condF rfl ?_ | refine G_skip ?_ | refine G_ret ?_ | refine G_exit ?_ | refine q_tn ?_ | refine q_tr ?_ | refine q_tx ?_ | refine q_bn ?_ | refine q_br ?_ | refine q_bx ?_ | refine q_by (by decide) ?_)
      refine AWp_loop (fun i : Nat => mk 129 [(0, .agg [i64 k, i64 p]), (1, ws xs), (2, .ptr 0 0 0), (4, .ptr 1 0 0), (5, i64 0), (7, i64 G), (8, i64 (1 - G - ((p - 1 : Nat) : Int))), (10, i64 p), (11, .bool ng), (12, nat hi), (13, nat lo), (14, i64 (hi % 2 ^ i : Nat)), (60, i64 k), (61, i64 i)] [⟨0, true, [i64 k, i64 p]⟩, ⟨0, true, [i64 0, .bool false, i64 0, .emp]⟩]) (fun i => i ≤ k) (fun i => k - i) 0 ?_ (Nat.zero_le _) ?_
      · rw [show hi % 2 ^ 0 = 0 from Nat.mod_one _]
        simp only [u, i64, Nat.reduceSub, Nat.reduceAdd, bm]
      intro i hik
      simp only [u, i64, Nat.reduceSub, Nat.reduceAdd, bm]
      by_cases hlt : i < k
      · have hbt := hBt i (by omega)
        by_cases ho : hi / 2 ^ i % 2 = 1
        · rw [decT ho] at hbt
          repeat (first | ((first | refine Gs ?_ | refine Gr ?_); simp (disch := omega) only [u, i64, ax, eq_self, if_true, if_false, Nat.reduceAdd, Int.reduceToNat, Int.reduceAdd, tvs, bs]; first | refine aA ?_ | (refine cR hbt ?_; simp (disch := omega) only [u, i64, ax, eq_self, if_true, if_false, Nat.reduceAdd, Int.reduceToNat, Int.reduceAdd, tvs, bs]; try refine aA ?_)) | (refine cR hbt ?_; simp (disch := omega) only [u, i64, ax, eq_self, if_true, if_false, Nat.reduceAdd, Int.reduceToNat, Int.reduceAdd, tvs, bs]; try refine aA ?_) | refine G_seq ?_ | refine G_block ?_ | refine G_condT rfl ?_ | refine G_condF rfl ?_ | refine G_skip ?_ | refine G_ret ?_ | refine G_exit ?_ | refine q_tn ?_ | refine q_tr ?_ | refine q_tx ?_ | refine q_bn ?_ | refine q_br ?_ | refine q_bx ?_ | refine q_by (by decide) ?_)
          refine ⟨i + 1, ?_, by omega, by omega⟩
          rw [hor i (by omega) ho]
          simp only [u, i64, Nat.reduceSub, Nat.reduceAdd, bm]
        · rw [decF ho] at hbt
          repeat (first | ((first | refine Gs ?_ | refine Gr ?_); simp (disch := omega) only [u, i64, ax, eq_self, if_true, if_false, Nat.reduceAdd, Int.reduceToNat, Int.reduceAdd, tvs, bs]; first | refine aA ?_ | (refine cR hbt ?_; simp (disch := omega) only [u, i64, ax, eq_self, if_true, if_false, Nat.reduceAdd, Int.reduceToNat, Int.reduceAdd, tvs, bs]; try refine aA ?_)) | (refine cR hbt ?_; simp (disch := omega) only [u, i64, ax, eq_self, if_true, if_false, Nat.reduceAdd, Int.reduceToNat, Int.reduceAdd, tvs, bs]; try refine aA ?_) | refine G_seq ?_ | refine G_block ?_ | refine G_condT rfl ?_ | refine G_condF rfl ?_ | refine G_skip ?_ | refine G_ret ?_ | refine G_exit ?_ | refine q_tn ?_ | refine q_tr ?_ | refine q_tx ?_ | refine q_bn ?_ | refine q_br ?_ | refine q_bx ?_ | refine q_by (by decide) ?_)
          refine ⟨i + 1, ?_, by omega, by omega⟩
          rw [hnor i ho]
          simp only [u, i64, Nat.reduceSub, Nat.reduceAdd, bm]
      obtain rfl : i = k := by omega
      repeat (first | ((first | refine Gs ?_ | refine Gr ?_); simp (disch := omega) only [u, i64, ax, eq_self, if_true, if_false, Nat.reduceAdd, Int.reduceToNat, Int.reduceAdd, tvs, bs]; refine aA ?_) | refine G_seq ?_ | refine G_block ?_ | refine G_condT rfl ?_ | refine G_condF rfl ?_ | refine G_skip ?_ | refine G_ret ?_ | refine G_exit ?_ | refine q_tn ?_ | refine q_tr ?_ | refine q_tx ?_ | refine q_bn ?_ | refine q_br ?_ | refine q_bx ?_ | refine q_by (by decide) ?_)
      rw [h2k]
      ((first | refine Gs ?_ | refine Gr ?_); simp (disch := omega) only [u, i64, ax, eq_self, if_true, if_false, Nat.reduceAdd, Int.reduceToNat, Int.reduceAdd, tvs, bs])
      rw [hsh]
      repeat (first | ((first | refine Gs ?_ | refine Gr ?_); simp (disch := omega) only [u, i64, ax, eq_self, if_true, if_false, Nat.reduceAdd, Int.reduceToNat, Int.reduceAdd, tvs, bs]; first | refine aA ?_ | (refine cR hZ ?_; simp (disch := omega) only [u, i64, ax, eq_self, if_true, if_false, Nat.reduceAdd, Int.reduceToNat, Int.reduceAdd, tvs, bs]; try refine aA ?_)) | (refine cR hZ ?_; simp (disch := omega) only [u, i64, ax, eq_self, if_true, if_false, Nat.reduceAdd, Int.reduceToNat, Int.reduceAdd, tvs, bs]; try refine aA ?_) | refine G_seq ?_ | refine G_block ?_ | refine G_condT rfl ?_ | refine G_condF rfl ?_ | refine G_skip ?_ | refine G_ret ?_ | refine G_exit ?_ | refine q_tn ?_ | refine q_tr ?_ | refine q_tx ?_ | refine q_bn ?_ | refine q_br ?_ | refine q_bx ?_ | refine q_by (by decide) ?_)
      (refine FinQ hQ (congrArg Array.toList Tryz.results35) _ _ ?_); simp (disch := omega) only [u, i64, ax, if_true, forall_const, reduceCtorEq, implies_true, tvs, bf]
      all_goals rfl
    · rw [if_neg c2]
      rw [decF c2] at hZ
      refine RetN_start Tryz.func35 (by kernel_rfl) rfl fun Q hQ hQ2 => ?_; rw [Tryz.ntmps35]; simp only [u, i64, Nat.reduceSub, Nat.reduceAdd, bm]
      repeat (first | ((first | refine Gs ?_ | refine Gr ?_); simp (disch := omega) only [u, i64, ax, eq_self, if_true, if_false, Nat.reduceAdd, Int.reduceToNat, Int.reduceAdd, tvs, bs]; first | refine aA ?_ | ((first | refine cR hR ?_ | refine cR hL ?_ | refine cR hB ?_ | refine cR hS ?_ | refine cR hS2 ?_ | refine cR hS3 ?_); simp (disch := omega) only [u, i64, ax, eq_self, if_true, if_false, Nat.reduceAdd, Int.reduceToNat, Int.reduceAdd, tvs, bs]; try refine aA ?_)) | ((first | refine cR hR ?_ | refine cR hL ?_ | refine cR hB ?_ | refine cR hS ?_ | refine cR hS2 ?_ | refine cR hS3 ?_); simp (disch := omega) only [u, i64, ax, eq_self, if_true, if_false, Nat.reduceAdd, Int.reduceToNat, Int.reduceAdd, tvs, bs]; try refine aA ?_) | refine G_seq ?_ | refine G_block ?_ | refine G_condT rfl ?_ | refine G_condF rfl ?_ | refine G_skip ?_ | refine G_ret ?_ | refine G_exit ?_ | refine q_tn ?_ | refine q_tr ?_ | refine q_tx ?_ | refine q_bn ?_ | refine q_br ?_ | refine q_bx ?_ | refine q_by (by decide) ?_)
      refine AWp_loop (fun i : Nat => mk 129 [(0, .agg [i64 k, i64 p]), (1, ws xs), (2, .ptr 0 0 0), (4, .ptr 1 0 0), (5, i64 0), (7, i64 G), (8, i64 (1 - G - ((p - 1 : Nat) : Int))), (10, i64 p), (11, .bool ng), (12, nat hi), (13, nat lo), (14, i64 (hi % 2 ^ i : Nat)), (60, i64 k), (61, i64 i)] [⟨0, true, [i64 k, i64 p]⟩, ⟨0, true, [i64 0, .bool false, i64 0, .emp]⟩]) (fun i => i ≤ k) (fun i => k - i) 0 ?_ (Nat.zero_le _) ?_
      · rw [show hi % 2 ^ 0 = 0 from Nat.mod_one _]
        simp only [u, i64, Nat.reduceSub, Nat.reduceAdd, bm]
      intro i hik
      simp only [u, i64, Nat.reduceSub, Nat.reduceAdd, bm]
      by_cases hlt : i < k
      · have hbt := hBt i (by omega)
        by_cases ho : hi / 2 ^ i % 2 = 1
        · rw [decT ho] at hbt
          repeat (first | ((first | refine Gs ?_ | refine Gr ?_); simp (disch := omega) only [u, i64, ax, eq_self, if_true, if_false, Nat.reduceAdd, Int.reduceToNat, Int.reduceAdd, tvs, bs]; first | refine aA ?_ | (refine cR hbt ?_; simp (disch := omega) only [u, i64, ax, eq_self, if_true, if_false, Nat.reduceAdd, Int.reduceToNat, Int.reduceAdd, tvs, bs]; try refine aA ?_)) | (refine cR hbt ?_; simp (disch := omega) only [u, i64, ax, eq_self, if_true, if_false, Nat.reduceAdd, Int.reduceToNat, Int.reduceAdd, tvs, bs]; try refine aA ?_) | refine G_seq ?_ | refine G_block ?_ | refine G_condT rfl ?_ | refine G_condF rfl ?_ | refine G_skip ?_ | refine G_ret ?_ | refine G_exit ?_ | refine q_tn ?_ | refine q_tr ?_ | refine q_tx ?_ | refine q_bn ?_ | refine q_br ?_ | refine q_bx ?_ | refine q_by (by decide) ?_)
          refine ⟨i + 1, ?_, by omega, by omega⟩
          rw [hor i (by omega) ho]
          simp only [u, i64, Nat.reduceSub, Nat.reduceAdd, bm]
        · rw [decF ho] at hbt
          repeat (first | ((first | refine Gs ?_ | refine Gr ?_); simp (disch := omega) only [u, i64, ax, eq_self, if_true, if_false, Nat.reduceAdd, Int.reduceToNat, Int.reduceAdd, tvs, bs]; first | refine aA ?_ | (refine cR hbt ?_; simp (disch := omega) only [u, i64, ax, eq_self, if_true, if_false, Nat.reduceAdd, Int.reduceToNat, Int.reduceAdd, tvs, bs]; try refine aA ?_)) | (refine cR hbt ?_; simp (disch := omega) only [u, i64, ax, eq_self, if_true, if_false, Nat.reduceAdd, Int.reduceToNat, Int.reduceAdd, tvs, bs]; try refine aA ?_) | refine G_seq ?_ | refine G_block ?_ | refine G_condT rfl ?_ | refine G_condF rfl ?_ | refine G_skip ?_ | refine G_ret ?_ | refine G_exit ?_ | refine q_tn ?_ | refine q_tr ?_ | refine q_tx ?_ | refine q_bn ?_ | refine q_br ?_ | refine q_bx ?_ | refine q_by (by decide) ?_)
          refine ⟨i + 1, ?_, by omega, by omega⟩
          rw [hnor i ho]
          simp only [u, i64, Nat.reduceSub, Nat.reduceAdd, bm]
      obtain rfl : i = k := by omega
      repeat (first | ((first | refine Gs ?_ | refine Gr ?_); simp (disch := omega) only [u, i64, ax, eq_self, if_true, if_false, Nat.reduceAdd, Int.reduceToNat, Int.reduceAdd, tvs, bs]; refine aA ?_) | refine G_seq ?_ | refine G_block ?_ | refine G_condT rfl ?_ | refine G_condF rfl ?_ | refine G_skip ?_ | refine G_ret ?_ | refine G_exit ?_ | refine q_tn ?_ | refine q_tr ?_ | refine q_tx ?_ | refine q_bn ?_ | refine q_br ?_ | refine q_bx ?_ | refine q_by (by decide) ?_)
      rw [h2k]
      ((first | refine Gs ?_ | refine Gr ?_); simp (disch := omega) only [u, i64, ax, eq_self, if_true, if_false, Nat.reduceAdd, Int.reduceToNat, Int.reduceAdd, tvs, bs])
      rw [hsh]
      repeat (first | ((first | refine Gs ?_ | refine Gr ?_); simp (disch := omega) only [u, i64, ax, eq_self, if_true, if_false, Nat.reduceAdd, Int.reduceToNat, Int.reduceAdd, tvs, bs]; first | refine aA ?_ | (refine cR hZ ?_; simp (disch := omega) only [u, i64, ax, eq_self, if_true, if_false, Nat.reduceAdd, Int.reduceToNat, Int.reduceAdd, tvs, bs]; try refine aA ?_)) | (refine cR hZ ?_; simp (disch := omega) only [u, i64, ax, eq_self, if_true, if_false, Nat.reduceAdd, Int.reduceToNat, Int.reduceAdd, tvs, bs]; try refine aA ?_) | refine G_seq ?_ | refine G_block ?_ | refine G_condT rfl ?_ | refine G_condF rfl ?_ | refine G_skip ?_ | refine G_ret ?_ | refine G_exit ?_ | refine q_tn ?_ | refine q_tr ?_ | refine q_tx ?_ | refine q_bn ?_ | refine q_br ?_ | refine q_bx ?_ | refine q_by (by decide) ?_)
      (refine FinQ hQ (congrArg Array.toList Tryz.results35) _ _ ?_); simp (disch := omega) only [u, i64, ax, if_true, forall_const, reduceCtorEq, implies_true, tvs, bf]
      all_goals rfl
  · rw [if_neg c1]
    by_cases c3 : hi % K2 = 0
    · by_cases c2 : lo = 0
      · rw [if_pos ⟨c3, c2⟩]
        rw [decT c2] at hZ
        refine RetN_start Tryz.func35 (by kernel_rfl) rfl fun Q hQ hQ2 => ?_; rw [Tryz.ntmps35]; simp only [u, i64, Nat.reduceSub, Nat.reduceAdd, bm]
        repeat (first | ((first | refine Gs ?_ | refine Gr ?_); simp (disch := omega) only [u, i64, ax, eq_self, if_true, if_false, Nat.reduceAdd, Int.reduceToNat, Int.reduceAdd, tvs, bs]; first | refine aA ?_ | ((first | refine cR hR ?_ | refine cR hL ?_ | refine cR hB ?_ | refine cR hS ?_ | refine cR hS2 ?_ | refine cR hS3 ?_); simp (disch := omega) only [u, i64, ax, eq_self, if_true, if_false, Nat.reduceAdd, Int.reduceToNat, Int.reduceAdd, tvs, bs]; try refine aA ?_)) | ((first | refine cR hR ?_ | refine cR hL ?_ | refine cR hB ?_ | refine cR hS ?_ | refine cR hS2 ?_ | refine cR hS3 ?_); simp (disch := omega) only [u, i64, ax, eq_self, if_true, if_false, Nat.reduceAdd, Int.reduceToNat, Int.reduceAdd, tvs, bs]; try refine aA ?_) | refine G_seq ?_ | refine G_block ?_ | refine G_condT rfl ?_ | refine G_condF rfl ?_ | refine G_skip ?_ | refine G_ret ?_ | refine G_exit ?_ | refine q_tn ?_ | refine q_tr ?_ | refine q_tx ?_ | refine q_bn ?_ | refine q_br ?_ | refine q_bx ?_ | refine q_by (by decide) ?_)
        refine AWp_loop (fun i : Nat => mk 129 [(0, .agg [i64 k, i64 p]), (1, ws xs), (2, .ptr 0 0 0), (4, .ptr 1 0 0), (5, i64 0), (7, i64 G), (8, i64 (1 - G - ((p - 1 : Nat) : Int))), (10, i64 p), (11, .bool ng), (12, nat hi), (13, nat lo), (14, i64 (hi % 2 ^ i : Nat)), (60, i64 k), (61, i64 i)] [⟨0, true, [i64 k, i64 p]⟩, ⟨0, true, [i64 0, .bool false, i64 0, .emp]⟩]) (fun i => i ≤ k) (fun i => k - i) 0 ?_ (Nat.zero_le _) ?_
        · rw [show hi % 2 ^ 0 = 0 from Nat.mod_one _]
          simp only [u, i64, Nat.reduceSub, Nat.reduceAdd, bm]
        intro i hik
        simp only [u, i64, Nat.reduceSub, Nat.reduceAdd, bm]
        by_cases hlt : i < k
        · have hbt := hBt i (by omega)
          by_cases ho : hi / 2 ^ i % 2 = 1
          · rw [decT ho] at hbt
            repeat (first | ((first | refine Gs ?_ | refine Gr ?_); simp (disch := omega) only [u, i64, ax, eq_self, if_true, if_false, Nat.reduceAdd, Int.reduceToNat, Int.reduceAdd, tvs, bs]; first | refine aA ?_ | (refine cR hbt ?_; simp (disch := omega) only [u, i64, ax, eq_self, if_true, if_false, Nat.reduceAdd, Int.reduceToNat, Int.reduceAdd, tvs, bs]; try refine aA ?_)) | (refine cR hbt ?_; simp (disch := omega) only [u, i64, ax, eq_self, if_true, if_false, Nat.reduceAdd, Int.reduceToNat, Int.reduceAdd, tvs, bs]; try refine aA ?_) | refine G_seq ?_ | refine G_block ?_ | refine G_condT rfl ?_ | refine G_condF rfl ?_ | refine G_skip ?_ | refine G_ret ?_ | refine G_exit ?_ | refine q_tn ?_ | refine q_tr ?_ | refine q_tx ?_ | refine q_bn ?_ | refine q_br ?_ | refine q_bx ?_ | refine q_by (by decide) ?_)
            refine ⟨i + 1, ?_, by omega, by omega⟩
            rw [hor i (by omega) ho]
            simp only [u, i64, Nat.reduceSub, Nat.reduceAdd, bm]
          · rw [decF ho] at hbt
            repeat (first | ((first | refine Gs ?_ | refine Gr ?_); simp (disch := omega) only [u, i64, ax, eq_self, if_true, if_false, Nat.reduceAdd, Int.reduceToNat, Int.reduceAdd, tvs, bs]; first | refine aA ?_ | (refine cR hbt ?_; simp (disch := omega) only [u, i64, ax, eq_self, if_true, if_false, Nat.reduceAdd, Int.reduceToNat, Int.reduceAdd, tvs, bs]; try refine aA ?_)) | (refine cR hbt ?_; simp (disch := omega) only [u, i64, ax, eq_self, if_true, if_false, Nat.reduceAdd, Int.reduceToNat, Int.reduceAdd, tvs, bs]; try refine aA ?_) | refine G_seq ?_ | refine G_block ?_ | refine G_condT rfl ?_ | refine G_condF rfl ?_ | refine G_skip ?_ | refine G_ret ?_ | refine G_exit ?_ | refine q_tn ?_ | refine q_tr ?_ | refine q_tx ?_ | refine q_bn ?_ | refine q_br ?_ | refine q_bx ?_ | refine q_by (by decide) ?_)
            refine ⟨i + 1, ?_, by omega, by omega⟩
            rw [hnor i ho]
            simp only [u, i64, Nat.reduceSub, Nat.reduceAdd, bm]
        obtain rfl : i = k := by omega
        repeat (first | ((first | refine Gs ?_ | refine Gr ?_); simp (disch := omega) only [u, i64, ax, eq_self, if_true, if_false, Nat.reduceAdd, Int.reduceToNat, Int.reduceAdd, tvs, bs]; refine aA ?_) | refine G_seq ?_ | refine G_block ?_ | refine G_condT rfl ?_ | refine G_condF rfl ?_ | refine G_skip ?_ | refine G_ret ?_ | refine G_exit ?_ | refine q_tn ?_ | refine q_tr ?_ | refine q_tx ?_ | refine q_bn ?_ | refine q_br ?_ | refine q_bx ?_ | refine q_by (by decide) ?_)
        rw [h2k]
        ((first | refine Gs ?_ | refine Gr ?_); simp (disch := omega) only [u, i64, ax, eq_self, if_true, if_false, Nat.reduceAdd, Int.reduceToNat, Int.reduceAdd, tvs, bs])
        rw [hsh]
        try simp (disch := omega) only [u, i64, ax, eq_self, if_true, if_false, Nat.reduceAdd, Int.reduceToNat, Int.reduceAdd, tvs, bs]
        try refine aft_any ?_
        repeat (first | ((first | refine Gs ?_ | refine Gr ?_); simp (disch := omega) only [u, i64, ax, eq_self, if_true, if_false, Nat.reduceAdd, Int.reduceToNat, Int.reduceAdd, tvs, bs]; first | refine aA ?_ | (refine cR hZ ?_; simp (disch := omega) only [u, i64, ax, eq_self, if_true, if_false, Nat.reduceAdd, Int.reduceToNat, Int.reduceAdd, tvs, bs]; try refine aA ?_)) | (refine cR hZ ?_; simp (disch := omega) only [u, i64, ax, eq_self, if_true, if_false, Nat.reduceAdd, Int.reduceToNat, Int.reduceAdd, tvs, bs]; try refine aA ?_) | refine G_seq ?_ | refine G_block ?_ | refine G_condT rfl ?_ | refine G_condF rfl ?_ | refine G_skip ?_ | refine G_ret ?_ | refine G_exit ?_ | refine q_tn ?_ | refine q_tr ?_ | refine q_tx ?_ | refine q_bn ?_ | refine q_br ?_ | refine q_bx ?_ | refine q_by (by decide) ?_)
        (refine FinQ hQ (congrArg Array.toList Tryz.results35) _ _ ?_); simp (disch := omega) only [u, i64, ax, if_true, forall_const, reduceCtorEq, implies_true, tvs, bf]
        all_goals rfl
      · rw [if_neg (fun h => c2 h.2), if_pos c3]
        rw [decF c2] at hZ
        have hC := hwf ng lo (1 - G - ((p - 1 : Nat) : Int)) c2 (by omega) (by omega) (by omega)
        rw [show (1 - G - ((p : Int) - 1)) = 1 - G - ((p - 1 : Nat) : Int) by omega]
        generalize mkF ng lo (1 - G - ((p - 1 : Nat) : Int)) = y at *
        unfold flv at hC ⊢
        refine RetN_start Tryz.func35 (by kernel_rfl) rfl fun Q hQ hQ2 => ?_; rw [Tryz.ntmps35]; simp only [u, i64, Nat.reduceSub, Nat.reduceAdd, bm]
        repeat (first | ((first | refine Gs ?_ | refine Gr ?_); simp (disch := omega) only [u, i64, ax, eq_self, if_true, if_false, Nat.reduceAdd, Int.reduceToNat, Int.reduceAdd, tvs, bs]; first | refine aA ?_ | ((first | refine cR hR ?_ | refine cR hL ?_ | refine cR hB ?_ | refine cR hS ?_ | refine cR hS2 ?_ | refine cR hS3 ?_); simp (disch := omega) only [u, i64, ax, eq_self, if_true, if_false, Nat.reduceAdd, Int.reduceToNat, Int.reduceAdd, tvs, bs]; try refine aA ?_)) | ((first | refine cR hR ?_ | refine cR hL ?_ | refine cR hB ?_ | refine cR hS ?_ | refine cR hS2 ?_ | refine cR hS3 ?_); simp (disch := omega) only [u, i64, ax, eq_self, if_true, if_false, Nat.reduceAdd, Int.reduceToNat, Int.reduceAdd, tvs, bs]; try refine aA ?_) | refine G_seq ?_ | refine G_block ?_ | refine G_condT rfl ?_ | refine G_condF rfl ?_ | refine G_skip ?_ | refine G_ret ?_ | refine G_exit ?_ | refine q_tn ?_ | refine q_tr ?_ | refine q_tx ?_ | refine q_bn ?_ | refine q_br ?_ | refine q_bx ?_ | refine q_by (by decide) ?_)
        refine AWp_loop (fun i : Nat => mk 129 [(0, .agg [i64 k, i64 p]), (1, ws xs), (2, .ptr 0 0 0), (4, .ptr 1 0 0), (5, i64 0), (7, i64 G), (8, i64 (1 - G - ((p - 1 : Nat) : Int))), (10, i64 p), (11, .bool ng), (12, nat hi), (13, nat lo), (14, i64 (hi % 2 ^ i : Nat)), (60, i64 k), (61, i64 i)] [⟨0, true, [i64 k, i64 p]⟩, ⟨0, true, [i64 0, .bool false, i64 0, .emp]⟩]) (fun i => i ≤ k) (fun i => k - i) 0 ?_ (Nat.zero_le _) ?_
        · rw [show hi % 2 ^ 0 = 0 from Nat.mod_one _]
          simp only [u, i64, Nat.reduceSub, Nat.reduceAdd, bm]
        intro i hik
        simp only [u, i64, Nat.reduceSub, Nat.reduceAdd, bm]
        by_cases hlt : i < k
        · have hbt := hBt i (by omega)
          by_cases ho : hi / 2 ^ i % 2 = 1
          · rw [decT ho] at hbt
            repeat (first | ((first | refine Gs ?_ | refine Gr ?_); simp (disch := omega) only [u, i64, ax, eq_self, if_true, if_false, Nat.reduceAdd, Int.reduceToNat, Int.reduceAdd, tvs, bs]; first | refine aA ?_ | (refine cR hbt ?_; simp (disch := omega) only [u, i64, ax, eq_self, if_true, if_false, Nat.reduceAdd, Int.reduceToNat, Int.reduceAdd, tvs, bs]; try refine aA ?_)) | (refine cR hbt ?_; simp (disch := omega) only [u, i64, ax, eq_self, if_true, if_false, Nat.reduceAdd, Int.reduceToNat, Int.reduceAdd, tvs, bs]; try refine aA ?_) | refine G_seq ?_ | refine G_block ?_ | refine G_condT rfl ?_ | refine G_condF rfl ?_ | refine G_skip ?_ | refine G_ret ?_ | refine G_exit ?_ | refine q_tn ?_ | refine q_tr ?_ | refine q_tx ?_ | refine q_bn ?_ | refine q_br ?_ | refine q_bx ?_ | refine q_by (by decide) ?_)
            refine ⟨i + 1, ?_, by omega, by omega⟩
            rw [hor i (by omega) ho]
            simp only [u, i64, Nat.reduceSub, Nat.reduceAdd, bm]
          · rw [decF ho] at hbt
            repeat (first | ((first | refine Gs ?_ | refine Gr ?_); simp (disch := omega) only [u, i64, ax, eq_self, if_true, if_false, Nat.reduceAdd, Int.reduceToNat, Int.reduceAdd, tvs, bs]; first | refine aA ?_ | (refine cR hbt ?_; simp (disch := omega) only [u, i64, ax, eq_self, if_true, if_false, Nat.reduceAdd, Int.reduceToNat, Int.reduceAdd, tvs, bs]; try refine aA ?_)) | (refine cR hbt ?_; simp (disch := omega) only [u, i64, ax, eq_self, if_true, if_false, Nat.reduceAdd, Int.reduceToNat, Int.reduceAdd, tvs, bs]; try refine aA ?_) | refine G_seq ?_ | refine G_block ?_ | refine G_condT rfl ?_ | refine G_condF rfl ?_ | refine G_skip ?_ | refine G_ret ?_ | refine G_exit ?_ | refine q_tn ?_ | refine q_tr ?_ | refine q_tx ?_ | refine q_bn ?_ | refine q_br ?_ | refine q_bx ?_ | refine q_by (by decide) ?_)
            refine ⟨i + 1, ?_, by omega, by omega⟩
            rw [hnor i ho]
            simp only [u, i64, Nat.reduceSub, Nat.reduceAdd, bm]
        obtain rfl : i = k := by omega
        repeat (first | ((first | refine Gs ?_ | refine Gr ?_); simp (disch := omega) only [u, i64, ax, eq_self, if_true, if_false, Nat.reduceAdd, Int.reduceToNat, Int.reduceAdd, tvs, bs]; refine aA ?_) | refine G_seq ?_ | refine G_block ?_ | refine G_condT rfl ?_ | refine G_condF rfl ?_ | refine G_skip ?_ | refine G_ret ?_ | refine G_exit ?_ | refine q_tn ?_ | refine q_tr ?_ | refine q_tx ?_ | refine q_bn ?_ | refine q_br ?_ | refine q_bx ?_ | refine q_by (by decide) ?_)
        rw [h2k]
        ((first | refine Gs ?_ | refine Gr ?_); simp (disch := omega) only [u, i64, ax, eq_self, if_true, if_false, Nat.reduceAdd, Int.reduceToNat, Int.reduceAdd, tvs, bs])
        rw [hsh]
        try simp (disch := omega) only [u, i64, ax, eq_self, if_true, if_false, Nat.reduceAdd, Int.reduceToNat, Int.reduceAdd, tvs, bs]
        try refine aft_any ?_
        repeat (first | ((first | refine Gs ?_ | refine Gr ?_); simp (disch := omega) only [u, i64, ax, eq_self, if_true, if_false, Nat.reduceAdd, Int.reduceToNat, Int.reduceAdd, tvs, bs]; first | refine aA ?_ | ((first | refine cR hZ ?_ | refine cR hC ?_); simp (disch := omega) only [u, i64, ax, eq_self, if_true, if_false, Nat.reduceAdd, Int.reduceToNat, Int.reduceAdd, tvs, bs]; try refine aA ?_)) | ((first | refine cR hZ ?_ | refine cR hC ?_); simp (disch := omega) only [u, i64, ax, eq_self, if_true, if_false, Nat.reduceAdd, Int.reduceToNat, Int.reduceAdd, tvs, bs]; try refine aA ?_) | refine G_seq ?_ | refine G_block ?_ | refine G_condT rfl ?_ | refine G_condF rfl ?_ | refine G_skip ?_ | refine G_ret ?_ | refine G_exit ?_ | refine q_tn ?_ | refine q_tr ?_ | refine q_tx ?_ | refine q_bn ?_ | refine q_br ?_ | refine q_bx ?_ | refine q_by (by decide) ?_)
        (refine FinQ hQ (congrArg Array.toList Tryz.results35) _ _ ?_); simp (disch := omega) only [u, i64, ax, if_true, forall_const, reduceCtorEq, implies_true, tvs, bf]
        all_goals rfl
    · rw [if_neg (fun h => c3 h.1), if_neg c3]
      have hC := hwf ng (lo + 2 ^ (p - 1)) (((hi % K2 : Nat) : Int) - G - p + 1) (by omega) (by omega) (by omega) (by omega)
      generalize mkF ng (lo + 2 ^ (p - 1)) (((hi % K2 : Nat) : Int) - G - p + 1) = y at *
      unfold flv at hC ⊢
      refine RetN_start Tryz.func35 (by kernel_rfl) rfl fun Q hQ hQ2 => ?_; rw [Tryz.ntmps35]; simp only [u, i64, Nat.reduceSub, Nat.reduceAdd, bm]
      repeat (first | ((first | refine Gs ?_ | refine Gr ?_); simp (disch := omega) only [u, i64, ax, eq_self, if_true, if_false, Nat.reduceAdd, Int.reduceToNat, Int.reduceAdd, tvs, bs]; first | refine aA ?_ | ((first | refine cR hR ?_ | refine cR hL ?_ | refine cR hB ?_ | refine cR hS ?_ | refine cR hS2 ?_ | refine cR hS3 ?_); simp (disch := omega) only [u, i64, ax, eq_self, if_true, if_false, Nat.reduceAdd, Int.reduceToNat, Int.reduceAdd, tvs, bs]; try refine aA ?_)) | ((first | refine cR hR ?_ | refine cR hL ?_ | refine cR hB ?_ | refine cR hS ?_ | refine cR hS2 ?_ | refine cR hS3 ?_); simp (disch := omega) only [u, i64, ax, eq_self, if_true, if_false, Nat.reduceAdd, Int.reduceToNat, Int.reduceAdd, tvs, bs]; try refine aA ?_) | refine G_seq ?_ | refine G_block ?_ | refine G_condT rfl ?_ | refine G_condF rfl ?_ | refine G_skip ?_ | refine G_ret ?_ | refine G_exit ?_ | refine q_tn ?_ | refine q_tr ?_ | refine q_tx ?_ | refine q_bn ?_ | refine q_br ?_ | refine q_bx ?_ | refine q_by (by decide) ?_)
      refine AWp_loop (fun i : Nat => mk 129 [(0, .agg [i64 k, i64 p]), (1, ws xs), (2, .ptr 0 0 0), (4, .ptr 1 0 0), (5, i64 0), (7, i64 G), (8, i64 (1 - G - ((p - 1 : Nat) : Int))), (10, i64 p), (11, .bool ng), (12, nat hi), (13, nat lo), (14, i64 (hi % 2 ^ i : Nat)), (60, i64 k), (61, i64 i)] [⟨0, true, [i64 k, i64 p]⟩, ⟨0, true, [i64 0, .bool false, i64 0, .emp]⟩]) (fun i => i ≤ k) (fun i => k - i) 0 ?_ (Nat.zero_le _) ?_
      · rw [show hi % 2 ^ 0 = 0 from Nat.mod_one _]
        simp only [u, i64, Nat.reduceSub, Nat.reduceAdd, bm]
      intro i hik
      simp only [u, i64, Nat.reduceSub, Nat.reduceAdd, bm]
      by_cases hlt : i < k
      · have hbt := hBt i (by omega)
        by_cases ho : hi / 2 ^ i % 2 = 1
        · rw [decT ho] at hbt
          repeat (first | ((first | refine Gs ?_ | refine Gr ?_); simp (disch := omega) only [u, i64, ax, eq_self, if_true, if_false, Nat.reduceAdd, Int.reduceToNat, Int.reduceAdd, tvs, bs]; first | refine aA ?_ | (refine cR hbt ?_; simp (disch := omega) only [u, i64, ax, eq_self, if_true, if_false, Nat.reduceAdd, Int.reduceToNat, Int.reduceAdd, tvs, bs]; try refine aA ?_)) | (refine cR hbt ?_; simp (disch := omega) only [u, i64, ax, eq_self, if_true, if_false, Nat.reduceAdd, Int.reduceToNat, Int.reduceAdd, tvs, bs]; try refine aA ?_) | refine G_seq ?_ | refine G_block ?_ | refine G_condT rfl ?_ | refine G_condF rfl ?_ | refine G_skip ?_ | refine G_ret ?_ | refine G_exit ?_ | refine q_tn ?_ | refine q_tr ?_ | refine q_tx ?_ | refine q_bn ?_ | refine q_br ?_ | refine q_bx ?_ | refine q_by (by decide) ?_)
          refine ⟨i + 1, ?_, by omega, by omega⟩
          rw [hor i (by omega) ho]
          simp only [u, i64, Nat.reduceSub, Nat.reduceAdd, bm]
        · rw [decF ho] at hbt
          repeat (first | ((first | refine Gs ?_ | refine Gr ?_); simp (disch := omega) only [u, i64, ax, eq_self, if_true, if_false, Nat.reduceAdd, Int.reduceToNat, Int.reduceAdd, tvs, bs]; first | refine aA ?_ | (refine cR hbt ?_; simp (disch := omega) only [u, i64, ax, eq_self, if_true, if_false, Nat.reduceAdd, Int.reduceToNat, Int.reduceAdd, tvs, bs]; try refine aA ?_)) | (refine cR hbt ?_; simp (disch := omega) only [u, i64, ax, eq_self, if_true, if_false, Nat.reduceAdd, Int.reduceToNat, Int.reduceAdd, tvs, bs]; try refine aA ?_) | refine G_seq ?_ | refine G_block ?_ | refine G_condT rfl ?_ | refine G_condF rfl ?_ | refine G_skip ?_ | refine G_ret ?_ | refine G_exit ?_ | refine q_tn ?_ | refine q_tr ?_ | refine q_tx ?_ | refine q_bn ?_ | refine q_br ?_ | refine q_bx ?_ | refine q_by (by decide) ?_)
          refine ⟨i + 1, ?_, by omega, by omega⟩
          rw [hnor i ho]
          simp only [u, i64, Nat.reduceSub, Nat.reduceAdd, bm]
      obtain rfl : i = k := by omega
      repeat (first | ((first | refine Gs ?_ | refine Gr ?_); simp (disch := omega) only [u, i64, ax, eq_self, if_true, if_false, Nat.reduceAdd, Int.reduceToNat, Int.reduceAdd, tvs, bs]; refine aA ?_) | refine G_seq ?_ | refine G_block ?_ | refine G_condT rfl ?_ | refine G_condF rfl ?_ | refine G_skip ?_ | refine G_ret ?_ | refine G_exit ?_ | refine q_tn ?_ | refine q_tr ?_ | refine q_tx ?_ | refine q_bn ?_ | refine q_br ?_ | refine q_bx ?_ | refine q_by (by decide) ?_)
      rw [h2k]
      ((first | refine Gs ?_ | refine Gr ?_); simp (disch := omega) only [u, i64, ax, eq_self, if_true, if_false, Nat.reduceAdd, Int.reduceToNat, Int.reduceAdd, tvs, bs])
      rw [hsh]
      try simp (disch := omega) only [u, i64, ax, eq_self, if_true, if_false, Nat.reduceAdd, Int.reduceToNat, Int.reduceAdd, tvs, bs]
      try refine aft_any ?_
      repeat (first | ((first | refine Gs ?_ | refine Gr ?_); simp (disch := omega) only [u, i64, ax, eq_self, if_true, if_false, Nat.reduceAdd, Int.reduceToNat, Int.reduceAdd, tvs, bs]; first | refine aA ?_ | ((first | refine cR hS1 ?_ | refine cR hAd ?_ | refine cR hC ?_); simp (disch := omega) only [u, i64, ax, eq_self, if_true, if_false, Nat.reduceAdd, Int.reduceToNat, Int.reduceAdd, tvs, bs]; try refine aA ?_)) | ((first | refine cR hS1 ?_ | refine cR hAd ?_ | refine cR hC ?_); simp (disch := omega) only [u, i64, ax, eq_self, if_true, if_false, Nat.reduceAdd, Int.reduceToNat, Int.reduceAdd, tvs, bs]; try refine aA ?_) | refine G_seq ?_ | refine G_block ?_ | refine G_condT rfl ?_ | refine G_condF rfl ?_ | refine G_skip ?_ | refine G_ret ?_ | refine G_exit ?_ | refine q_tn ?_ | refine q_tr ?_ | refine q_tx ?_ | refine q_bn ?_ | refine q_br ?_ | refine q_bx ?_ | refine q_by (by decide) ?_)
      (refine FinQ hQ (congrArg Array.toList Tryz.results35) _ _ ?_); simp (disch := omega) only [u, i64, ax, if_true, forall_const, reduceCtorEq, implies_true, tvs, bf]
      all_goals rfl
end Go.Proofs
set_option linter.unusedVariables false
set_option linter.unusedSimpArgs false
namespace Go.Proofs
open Go.Ax
theorem ret_Decode_big (k p : Nat) (h : okFm k p) (xs : List Nat) (hx : Wd xs) (hl : xs.length ≤ 40) (hb : k + p < bl (val xs)) : Ret Tryz.prog GEs 35 [.agg [i64 k, i64 p], ws xs] (.tup [flz, i64 151]) := by
  have hR := ret_fRange k p h
  have hL := ret_Len xs hx (by omega)
  have hg := gF_le (k := k) (by omega) (by omega)
  refine RetN_start Tryz.func35 (by kernel_rfl) rfl fun Q hQ hQ2 => ?_; rw [Tryz.ntmps35]; simp only [u, i64, Nat.reduceSub, Nat.reduceAdd, bm]
  repeat (first | ((first | refine Gs ?_ | refine Gr ?_); simp (disch := omega) only [u, i64, ax, eq_self, if_true, if_false, Nat.reduceAdd, Int.reduceToNat, Int.reduceAdd, tvs, bs]; first | refine aA ?_ | ((first | refine cR hR ?_ | refine cR hL ?_); simp (disch := omega) only [u, i64, ax, eq_self, if_true, if_false, Nat.reduceAdd, Int.reduceToNat, Int.reduceAdd, tvs, bs]; try refine aA ?_)) | ((first | refine cR hR ?_ | refine cR hL ?_); simp (disch := omega) only [u, i64, ax, eq_self, if_true, if_false, Nat.reduceAdd, Int.reduceToNat, Int.reduceAdd, tvs, bs]; try refine aA ?_) | refine G_seq ?_ | refine G_block ?_ | refine G_condT rfl ?_ | refine G_condF rfl ?_ | refine G_skip ?_ | refine G_ret ?_ | refine G_exit ?_ | refine q_tn ?_ | refine q_tr ?_ | refine q_tx ?_ | refine q_bn ?_ | refine q_br ?_ | refine q_bx ?_ | refine q_by (by decide) ?_)
  (refine FinQ hQ (congrArg Array.toList Tryz.results35) _ _ ?_); simp (disch := omega) only [u, i64, ax, if_true, forall_const, reduceCtorEq, implies_true, tvs, bf]
  all_goals rfl
end Go.Proofs
set_option linter.unusedVariables false
set_option linter.unusedSimpArgs false
namespace Go.Proofs
open Go.Ax
/-- A small float that has a value. -/
def hasV (x : FV) : Prop := (x.kind = 0 ∧ x.mag = 0 ∧ x.exp = 0) ∨ (x.kind = 1 ∧ (∃ j, x.mag = 2 * j + 1) ∧ bl x.mag ≤ 300 ∧ -20000 ≤ x.exp ∧ x.exp ≤ 20000)
def sgF (x : FV) : Bool := x.neg && decide (x.kind = 1)
theorem sgF_sg {x : FV} (h : hasV x) : sg (sgF x) (vn x) = sg x.neg (vn x) := by
  unfold sgF
  rcases h with ⟨h1, h2, _⟩ | ⟨h1, _⟩
  · have : vn x = 0 := by unfold vn; rw [h2, Nat.zero_mul]
    rw [this]
    unfold sg
    split <;> split <;> rfl
  · rw [decT h1, Bool.and_true]
theorem hasV_len {x : FV} (h : hasV x) : (words (vn x)).length ≤ 350 ∧ (words (vd x)).length ≤ 350 ∧ vd x ≠ 0 := by
  unfold vn vd
  rcases h with ⟨h1, h2, h3⟩ | ⟨h1, ⟨j, h2⟩, h3, h4, h5⟩
  · rw [h2, h3]; exact ⟨by decide, by decide, by decide⟩
  · refine ⟨length_bl ?_, le_pow_words (Nat.le_refl _) (by omega), Nat.ne_of_gt (Nat.two_pow_pos _)⟩
    rw [bl_mul _ _ (by omega)]
    omega
theorem ret_fValue (x : FV) (h : hasV x) : Ret Tryz.prog GEs 38 [flv x] (.tup [.agg [.bool (sgF x), nat (vn x), nat (vd x)], i64 0]) := by
  obtain ⟨kd, neg, e, m⟩ := x
  rcases h with ⟨h1, h2, h3⟩ | ⟨h1, ⟨j, h2⟩, h3, h4, h5⟩
  · simp only at h1 h2 h3
    subst h1
    subst h2
    subst h3
    have := ret_fValue0 neg
    have e1 : sgF ⟨0, neg, 0, 0⟩ = false := by unfold sgF; cases neg <;> rfl
    have e2 : vn ⟨0, neg, 0, 0⟩ = 0 := by unfold vn; rfl
    have e3 : vd ⟨0, neg, 0, 0⟩ = 1 := by unfold vd; rfl
    rw [e1, e2, e3]
    exact this
  · simp only at h1 h2 h3 h4 h5
    subst h1
    subst h2
    have := ret_fValue1 neg e j (by omega) (by omega) (Nat.le_trans (length_bl (k := 5) (by omega)) (by omega))
    have e1 : sgF ⟨1, neg, e, 2 * j + 1⟩ = neg := by unfold sgF; cases neg <;> rfl
    rw [e1]
    exact this
theorem rv_hasV (k p r : Nat) (hf : okFm k p) (neg : Bool) (n d : Nat) (hd : d ≠ 0) (hk : (rvF p (gF k) r neg n d).kind ≤ 1) : hasV (rvF p (gF k) r neg n d) := by
  have hg := gF_le (k := k) (by omega) (by omega)
  unfold rvF at hk ⊢
  by_cases hn : n = 0
  · rw [if_pos hn]; exact .inl ⟨rfl, rfl, rfl⟩
  · rw [if_neg hn] at hk ⊢
    by_cases h1 : (rndF p (gF k) r neg n d).1.kind = 1
    · obtain ⟨s1, s2, s3, s4⟩ := rndF_small p (gF k) r neg (by omega) hg.1 hn hd h1
      exact .inr ⟨h1, s4, by omega, by omega, by omega⟩
    · left
      have h0 : (rndF p (gF k) r neg n d).1.kind = 0 := by omega
      rw [rndF_eq] at h0 ⊢
      by_cases ho : gF k < bl (rN p (gF k) r neg n d) + rS p (gF k) n d - 1
      · rw [if_pos ho] at h0
        rcases overF_kind p (gF k) r neg with h | ⟨h, _⟩
        · rw [h] at h0; cases h0
        · rw [h] at h0; cases h0
      · rw [if_neg ho] at h0 ⊢
        simp only at h0 ⊢
        generalize rN p (gF k) r neg n d = N at *
        by_cases hN : N = 0
        · subst hN; unfold mkF; rw [if_pos rfl]; exact ⟨rfl, rfl, rfl⟩
        · exfalso
          unfold mkF at h0
          rw [if_neg hN] at h0
          cases h0
theorem inF_hasV (k p : Nat) (hf : okFm k p) (ng : Bool) (j : Nat) (e : Int) (h : inF p (gF k) (2 * j + 1) e) : hasV ⟨1, ng, e, 2 * j + 1⟩ := by
  have hg := gF_le (k := k) (by omega) (by omega)
  obtain ⟨h1, h2, h3⟩ := h
  have := (bl_spec (n := 2 * j + 1) (Nat.succ_ne_zero _)).2.2
  exact .inr ⟨rfl, ⟨j, rfl⟩, by show bl (2 * j + 1) ≤ 300; omega, by show -20000 ≤ e; omega, by show e ≤ 20000; omega⟩
set_option maxRecDepth 100000 in
set_option maxHeartbeats 8000000 in
theorem ret_LawRoundNearest (k p : Int) (away : Bool) (neg : Bool) (ns dn xs : List Nat) (hn : Wd ns) (hd : Wd dn) (hx : Wd xs) (hln : ns.length ≤ 9223372036854775807) (hld : dn.length ≤ 9223372036854775807) (hlx : xs.length ≤ 9223372036854775807) :
    Ret Tryz.prog GEs 8 [.agg [i64 k, i64 p], .bool away, .agg [.bool neg, ws ns, ws dn], ws xs] (.bool true) := by
  have hB := ret_Brief1 neg ns dn hln hld
  by_cases hb : ns.length ≤ 40 ∧ dn.length ≤ 40
  · rw [decT hb] at hB
    by_cases hl : 40 < xs.length
    · refine RetN_start Tryz.func8 (by kernel_rfl) rfl fun Q hQ hQ2 => ?_; rw [Tryz.ntmps8]; simp only [u, i64, Nat.reduceSub, Nat.reduceAdd, bm]
      repeat (first | ((first | refine Gs ?_ | refine Gr ?_); simp (disch := omega) only [u, i64, ax, eq_self, if_true, if_false, Nat.reduceAdd, Int.reduceToNat, Int.reduceAdd, tvs, bs]; first | refine aA ?_ | ((first | refine cR hB ?_ | refine cR ret_awake16 ?_); simp (disch := omega) only [u, i64, ax, eq_self, if_true, if_false, Nat.reduceAdd, Int.reduceToNat, Int.reduceAdd, tvs, bs]; try refine aA ?_)) | ((first | refine cR hB ?_ | refine cR ret_awake16 ?_); simp (disch := omega) only [u, i64, ax, eq_self, if_true, if_false, Nat.reduceAdd, Int.reduceToNat, Int.reduceAdd, tvs, bs]; try refine aA ?_) | refine G_seq ?_ | refine G_block ?_ | refine G_condT rfl ?_ | refine G_condF rfl ?_ | refine G_skip ?_ | refine G_ret ?_ | refine G_exit ?_ | refine q_tn ?_ | refine q_tr ?_ | refine q_tx ?_ | refine q_bn ?_ | refine q_br ?_ | refine q_bx ?_ | refine q_by (by decide) ?_)
      (refine FinQ hQ (congrArg Array.toList Tryz.results8) _ _ ?_); simp (disch := omega) only [u, i64, ax, if_true, forall_const, reduceCtorEq, implies_true, tvs, bf]
    have hA := ret_args16 0 k p (by decide) (by decide) neg ns dn hn hd (by omega) (by omega)
    by_cases he : errR 0 k p ns.length dn.length (val dn) = 0
    · obtain ⟨hd0, _, _, hr, hf⟩ := errR_ok he
      obtain ⟨k, rfl⟩ := Int.eq_ofNat_of_zero_le (show 0 ≤ k by omega)
      obtain ⟨p, rfl⟩ := Int.eq_ofNat_of_zero_le (show 0 ≤ p by omega)
      have hg := gF_le (k := k) (by omega) (by omega)
      rw [he] at hA
      obtain ⟨r, hr1, hra⟩ : ∃ r : Nat, r ≤ 1 ∧ (away = true ∧ r = 1 ∨ away = false ∧ r = 0) := by
        cases away
        · exact ⟨0, by decide, .inr ⟨rfl, rfl⟩⟩
        · exact ⟨1, by decide, .inl ⟨rfl, rfl⟩⟩
      obtain ⟨fl, hR, w1, c1, x1⟩ := ret_RoundA r k p (by omega) hf neg ns dn hn hd hb.1 hb.2 hd0
      have hxv := fun hk => rv_hasV k p r hf neg (val ns) (val dn) hd0 hk
      have near : ∀ y : FV, (y.mag = 0 ∧ y.exp = 0 ∨ inF p (gF k) y.mag y.exp) → hasV y → (rvF p (gF k) r neg (val ns) (val dn)).kind ≤ 1 →
          ((sg (sgF (rvF p (gF k) r neg (val ns) (val dn))) (vn (rvF p (gF k) r neg (val ns) (val dn))) * (val dn : Int) - sg neg (val ns) * (vd (rvF p (gF k) r neg (val ns) (val dn)) : Nat)).natAbs : Int) * ((vd y * val dn : Nat) : Int) ≤
          ((sg (sgF y) (vn y) * (val dn : Int) - sg neg (val ns) * (vd y : Nat)).natAbs : Int) * ((vd (rvF p (gF k) r neg (val ns) (val dn)) * val dn : Nat) : Int) := fun y hy hyv hk => by
        rw [sgF_sg (hxv hk), sgF_sg hyv, ← Int.natCast_mul, ← Int.natCast_mul, Int.ofNat_le, ← Nat.mul_assoc, ← Nat.mul_assoc]
        refine Nat.mul_le_mul_right _ ?_
        unfold rvF at hk ⊢
        by_cases hz : val ns = 0
        · rw [if_pos hz, hz]
          have e1 : vn ⟨0, false, 0, 0⟩ = 0 := by unfold vn; rfl
          rw [e1]
          have e2 : ∀ b, sg b 0 = 0 := fun b => by unfold sg; split <;> rfl
          rw [e2, e2, Int.zero_mul, Int.zero_mul, Int.sub_self, Int.natAbs_zero, Nat.zero_mul]
          exact Nat.zero_le _
        · rw [if_neg hz] at hk ⊢
          rw [(rndF_fine p (gF k) r neg (val ns) (val dn) (by omega)).2]
          exact nearest p (gF k) r hr1 neg (val ns) (val dn) (by omega) hg.1 hz hd0 y hy (by omega)
      generalize rvF p (gF k) r neg (val ns) (val dn) = x at *
      -- the last comparison
      have fin : ∀ y : FV, y.kind ≤ 1 → (y.mag = 0 ∧ y.exp = 0 ∨ inF p (gF k) y.mag y.exp) → hasV y → Ret Tryz.prog GEs 35 [.agg [i64 k, i64 p], ws xs] (.tup [flv y, i64 0]) →
          Ret Tryz.prog GEs 8 [.agg [i64 k, i64 p], .bool away, .agg [.bool neg, ws ns, ws dn], ws xs] (.bool true) := fun y hky hy hyv hD => by
        by_cases hk : x.kind ≤ 1
        · have hV := hxv hk
          have hVx := ret_fValue x hV
          have hVy := ret_fValue y hyv
          obtain ⟨a1, a2, a3⟩ := hasV_len hV
          obtain ⟨b1, b2, b3⟩ := hasV_len hyv
          have hZx := ret_rIsZero (words (vd x)) (Wd_words _) (by omega)
          have hZy := ret_rIsZero (words (vd y)) (Wd_words _) (by omega)
          rw [val_words, decF a3] at hZx
          rw [val_words, decF b3] at hZy
          obtain ⟨z, d, z', d', g, hS1, hA1, k1, m1, m2⟩ := ret_Dist12 (sgF x) neg (words (vn x)) (words (vd x)) ns dn (Wd_words _) (Wd_words _) hn hd (by omega) (by omega) (by omega) (by omega) (by rw [val_words]; exact a3) hd0
          obtain ⟨uu, v, u', v', g', hS2, hA2, k2, m3, m4⟩ := ret_Dist12 (sgF y) neg (words (vn y)) (words (vd y)) ns dn (Wd_words _) (Wd_words _) hn hd (by omega) (by omega) (by omega) (by omega) (by rw [val_words]; exact b3) hd0
          rw [val_words, val_words] at k1 k2
          have hle := Low.le k1 k2 (near y hy hyv hk)
          have hC := ret_Cmp12z z' d' u' v' (by omega) (by omega) (by omega) (by omega)
          have hc : sgnI (z' * v' - u' * d') ≤ 0 := sgnI_le.2 hle
          have hcb := sgnI_bounds (z' * v' - u' * d')
          generalize sgnI (z' * v' - u' * d') = c at *
          generalize sgF x = s1 at *
          generalize sgF y = s2 at *
          generalize vn x = n1 at *
          generalize vd x = n2 at *
          generalize vn y = n3 at *
          generalize vd y = n4 at *
          unfold flv at *
          unfold qz at *
          have q1 : x.kind ≠ 2 := by omega
          have q2 : y.kind ≠ 2 := by omega
          have q3 : y.kind ≠ 3 := by omega
          rcases hra with ⟨rfl, rfl⟩ | ⟨rfl, rfl⟩
          · refine RetN_start Tryz.func8 (by kernel_rfl) rfl fun Q hQ hQ2 => ?_; rw [Tryz.ntmps8]; simp only [u, i64, Nat.reduceSub, Nat.reduceAdd, bm]
            repeat (first | ((first | refine Gs ?_ | refine Gr ?_); simp (disch := omega) only [u, i64, ax, eq_self, if_true, if_false, Nat.reduceAdd, Int.reduceToNat, Int.reduceAdd, tvs, bs]; first | refine aA ?_ | ((first | refine cR hB ?_ | refine cR hA ?_ | refine cR hR ?_ | refine cR hD ?_ | refine cR hVx ?_ | refine cR hVy ?_ | refine cR hZx ?_ | refine cR hZy ?_ | refine cR hS1 ?_ | refine cR hA1 ?_ | refine cR hS2 ?_ | refine cR hA2 ?_ | refine cR hC ?_ | refine cR ret_awake16 ?_); simp (disch := omega) only [u, i64, ax, eq_self, if_true, if_false, Nat.reduceAdd, Int.reduceToNat, Int.reduceAdd, tvs, bs]; try refine aA ?_)) | ((first | refine cR hB ?_ | refine cR hA ?_ | refine cR hR ?_ | refine cR hD ?_ | refine cR hVx ?_ | refine cR hVy ?_ | refine cR hZx ?_ | refine cR hZy ?_ | refine cR hS1 ?_ | refine cR hA1 ?_ | refine cR hS2 ?_ | refine cR hA2 ?_ | refine cR hC ?_ | refine cR ret_awake16 ?_); simp (disch := omega) only [u, i64, ax, eq_self, if_true, if_false, Nat.reduceAdd, Int.reduceToNat, Int.reduceAdd, tvs, bs]; try refine aA ?_) | refine G_seq ?_ | refine G_block ?_ | refine G_condT rfl ?_ | refine G_condF rfl ?_ | refine G_skip ?_ | refine G_ret ?_ | refine G_exit ?_ | refine q_tn ?_ | refine q_tr ?_ | refine q_tx ?_ | refine q_bn ?_ | refine q_br ?_ | refine q_bx ?_ | refine q_by (by decide) ?_)
            (refine FinQ hQ (congrArg Array.toList Tryz.results8) _ _ ?_); simp (disch := omega) only [u, i64, ax, if_true, forall_const, reduceCtorEq, implies_true, tvs, bf]
          · refine RetN_start Tryz.func8 (by kernel_rfl) rfl fun Q hQ hQ2 => ?_; rw [Tryz.ntmps8]; simp only [u, i64, Nat.reduceSub, Nat.reduceAdd, bm]
            repeat (first | ((first | refine Gs ?_ | refine Gr ?_); simp (disch := omega) only [u, i64, ax, eq_self, if_true, if_false, Nat.reduceAdd, Int.reduceToNat, Int.reduceAdd, tvs, bs]; first | refine aA ?_ | ((first | refine cR hB ?_ | refine cR hA ?_ | refine cR hR ?_ | refine cR hD ?_ | refine cR hVx ?_ | refine cR hVy ?_ | refine cR hZx ?_ | refine cR hZy ?_ | refine cR hS1 ?_ | refine cR hA1 ?_ | refine cR hS2 ?_ | refine cR hA2 ?_ | refine cR hC ?_ | refine cR ret_awake16 ?_); simp (disch := omega) only [u, i64, ax, eq_self, if_true, if_false, Nat.reduceAdd, Int.reduceToNat, Int.reduceAdd, tvs, bs]; try refine aA ?_)) | ((first | refine cR hB ?_ | refine cR hA ?_ | refine cR hR ?_ | refine cR hD ?_ | refine cR hVx ?_ | refine cR hVy ?_ | refine cR hZx ?_ | refine cR hZy ?_ | refine cR hS1 ?_ | refine cR hA1 ?_ | refine cR hS2 ?_ | refine cR hA2 ?_ | refine cR hC ?_ | refine cR ret_awake16 ?_); simp (disch := omega) only [u, i64, ax, eq_self, if_true, if_false, Nat.reduceAdd, Int.reduceToNat, Int.reduceAdd, tvs, bs]; try refine aA ?_) | refine G_seq ?_ | refine G_block ?_ | refine G_condT rfl ?_ | refine G_condF rfl ?_ | refine G_skip ?_ | refine G_ret ?_ | refine G_exit ?_ | refine q_tn ?_ | refine q_tr ?_ | refine q_tx ?_ | refine q_bn ?_ | refine q_br ?_ | refine q_bx ?_ | refine q_by (by decide) ?_)
            (refine FinQ hQ (congrArg Array.toList Tryz.results8) _ _ ?_); simp (disch := omega) only [u, i64, ax, if_true, forall_const, reduceCtorEq, implies_true, tvs, bf]
        · unfold flv at *
          have q1 : x.kind = 2 := by omega
          rw [q1] at hR
          have q2 : y.kind ≠ 2 := by omega
          have q3 : y.kind ≠ 3 := by omega
          rcases hra with ⟨rfl, rfl⟩ | ⟨rfl, rfl⟩
          · refine RetN_start Tryz.func8 (by kernel_rfl) rfl fun Q hQ hQ2 => ?_; rw [Tryz.ntmps8]; simp only [u, i64, Nat.reduceSub, Nat.reduceAdd, bm]
            repeat (first | ((first | refine Gs ?_ | refine Gr ?_); simp (disch := omega) only [u, i64, ax, eq_self, if_true, if_false, Nat.reduceAdd, Int.reduceToNat, Int.reduceAdd, tvs, bs]; first | refine aA ?_ | ((first | refine cR hB ?_ | refine cR hA ?_ | refine cR hR ?_ | refine cR hD ?_ | refine cR ret_awake16 ?_); simp (disch := omega) only [u, i64, ax, eq_self, if_true, if_false, Nat.reduceAdd, Int.reduceToNat, Int.reduceAdd, tvs, bs]; try refine aA ?_)) | ((first | refine cR hB ?_ | refine cR hA ?_ | refine cR hR ?_ | refine cR hD ?_ | refine cR ret_awake16 ?_); simp (disch := omega) only [u, i64, ax, eq_self, if_true, if_false, Nat.reduceAdd, Int.reduceToNat, Int.reduceAdd, tvs, bs]; try refine aA ?_) | refine G_seq ?_ | refine G_block ?_ | refine G_condT rfl ?_ | refine G_condF rfl ?_ | refine G_skip ?_ | refine G_ret ?_ | refine G_exit ?_ | refine q_tn ?_ | refine q_tr ?_ | refine q_tx ?_ | refine q_bn ?_ | refine q_br ?_ | refine q_bx ?_ | refine q_by (by decide) ?_)
            (refine FinQ hQ (congrArg Array.toList Tryz.results8) _ _ ?_); simp (disch := omega) only [u, i64, ax, if_true, forall_const, reduceCtorEq, implies_true, tvs, bf]
          · refine RetN_start Tryz.func8 (by kernel_rfl) rfl fun Q hQ hQ2 => ?_; rw [Tryz.ntmps8]; simp only [u, i64, Nat.reduceSub, Nat.reduceAdd, bm]
            repeat (first | ((first | refine Gs ?_ | refine Gr ?_); simp (disch := omega) only [u, i64, ax, eq_self, if_true, if_false, Nat.reduceAdd, Int.reduceToNat, Int.reduceAdd, tvs, bs]; first | refine aA ?_ | ((first | refine cR hB ?_ | refine cR hA ?_ | refine cR hR ?_ | refine cR hD ?_ | refine cR ret_awake16 ?_); simp (disch := omega) only [u, i64, ax, eq_self, if_true, if_false, Nat.reduceAdd, Int.reduceToNat, Int.reduceAdd, tvs, bs]; try refine aA ?_)) | ((first | refine cR hB ?_ | refine cR hA ?_ | refine cR hR ?_ | refine cR hD ?_ | refine cR ret_awake16 ?_); simp (disch := omega) only [u, i64, ax, eq_self, if_true, if_false, Nat.reduceAdd, Int.reduceToNat, Int.reduceAdd, tvs, bs]; try refine aA ?_) | refine G_seq ?_ | refine G_block ?_ | refine G_condT rfl ?_ | refine G_condF rfl ?_ | refine G_skip ?_ | refine G_ret ?_ | refine G_exit ?_ | refine q_tn ?_ | refine q_tr ?_ | refine q_tx ?_ | refine q_bn ?_ | refine q_br ?_ | refine q_bx ?_ | refine q_by (by decide) ?_)
            (refine FinQ hQ (congrArg Array.toList Tryz.results8) _ _ ?_); simp (disch := omega) only [u, i64, ax, if_true, forall_const, reduceCtorEq, implies_true, tvs, bf]
      by_cases hbl : bl (val xs) ≤ k + p
      · have hD := ret_Decode k p hf xs hx (by omega) hbl
        rcases decF_facts k p (val xs) (by omega) (by omega) (by omega) (by omega) with ⟨ng, e⟩ | ⟨ng, e⟩ | e | ⟨ng, j, e, hee, hi⟩
        · rw [e] at hD
          exact fin _ (Nat.zero_le _) (.inl ⟨rfl, rfl⟩) (.inl ⟨rfl, rfl, rfl⟩) hD
        · rw [e] at hD
          unfold flv at *
          rcases hra with ⟨rfl, rfl⟩ | ⟨rfl, rfl⟩
          · refine RetN_start Tryz.func8 (by kernel_rfl) rfl fun Q hQ hQ2 => ?_; rw [Tryz.ntmps8]; simp only [u, i64, Nat.reduceSub, Nat.reduceAdd, bm]
            repeat (first | ((first | refine Gs ?_ | refine Gr ?_); simp (disch := omega) only [u, i64, ax, eq_self, if_true, if_false, Nat.reduceAdd, Int.reduceToNat, Int.reduceAdd, tvs, bs]; first | refine aA ?_ | ((first | refine cR hB ?_ | refine cR hA ?_ | refine cR hR ?_ | refine cR hD ?_ | refine cR ret_awake16 ?_); simp (disch := omega) only [u, i64, ax, eq_self, if_true, if_false, Nat.reduceAdd, Int.reduceToNat, Int.reduceAdd, tvs, bs]; try refine aA ?_)) | ((first | refine cR hB ?_ | refine cR hA ?_ | refine cR hR ?_ | refine cR hD ?_ | refine cR ret_awake16 ?_); simp (disch := omega) only [u, i64, ax, eq_self, if_true, if_false, Nat.reduceAdd, Int.reduceToNat, Int.reduceAdd, tvs, bs]; try refine aA ?_) | refine G_seq ?_ | refine G_block ?_ | refine G_condT rfl ?_ | refine G_condF rfl ?_ | refine G_skip ?_ | refine G_ret ?_ | refine G_exit ?_ | refine q_tn ?_ | refine q_tr ?_ | refine q_tx ?_ | refine q_bn ?_ | refine q_br ?_ | refine q_bx ?_ | refine q_by (by decide) ?_)
            (refine FinQ hQ (congrArg Array.toList Tryz.results8) _ _ ?_); simp (disch := omega) only [u, i64, ax, if_true, forall_const, reduceCtorEq, implies_true, tvs, bf]
          · refine RetN_start Tryz.func8 (by kernel_rfl) rfl fun Q hQ hQ2 => ?_; rw [Tryz.ntmps8]; simp only [u, i64, Nat.reduceSub, Nat.reduceAdd, bm]
            repeat (first | ((first | refine Gs ?_ | refine Gr ?_); simp (disch := omega) only [u, i64, ax, eq_self, if_true, if_false, Nat.reduceAdd, Int.reduceToNat, Int.reduceAdd, tvs, bs]; first | refine aA ?_ | ((first | refine cR hB ?_ | refine cR hA ?_ | refine cR hR ?_ | refine cR hD ?_ | refine cR ret_awake16 ?_); simp (disch := omega) only [u, i64, ax, eq_self, if_true, if_false, Nat.reduceAdd, Int.reduceToNat, Int.reduceAdd, tvs, bs]; try refine aA ?_)) | ((first | refine cR hB ?_ | refine cR hA ?_ | refine cR hR ?_ | refine cR hD ?_ | refine cR ret_awake16 ?_); simp (disch := omega) only [u, i64, ax, eq_self, if_true, if_false, Nat.reduceAdd, Int.reduceToNat, Int.reduceAdd, tvs, bs]; try refine aA ?_) | refine G_seq ?_ | refine G_block ?_ | refine G_condT rfl ?_ | refine G_condF rfl ?_ | refine G_skip ?_ | refine G_ret ?_ | refine G_exit ?_ | refine q_tn ?_ | refine q_tr ?_ | refine q_tx ?_ | refine q_bn ?_ | refine q_br ?_ | refine q_bx ?_ | refine q_by (by decide) ?_)
            (refine FinQ hQ (congrArg Array.toList Tryz.results8) _ _ ?_); simp (disch := omega) only [u, i64, ax, if_true, forall_const, reduceCtorEq, implies_true, tvs, bf]
        · rw [e] at hD
          unfold flv at *
          rcases hra with ⟨rfl, rfl⟩ | ⟨rfl, rfl⟩
          · refine RetN_start Tryz.func8 (by kernel_rfl) rfl fun Q hQ hQ2 => ?_; rw [Tryz.ntmps8]; simp only [u, i64, Nat.reduceSub, Nat.reduceAdd, bm]
            repeat (first | ((first | refine Gs ?_ | refine Gr ?_); simp (disch := omega) only [u, i64, ax, eq_self, if_true, if_false, Nat.reduceAdd, Int.reduceToNat, Int.reduceAdd, tvs, bs]; first | refine aA ?_ | ((first | refine cR hB ?_ | refine cR hA ?_ | refine cR hR ?_ | refine cR hD ?_ | refine cR ret_awake16 ?_); simp (disch := omega) only [u, i64, ax, eq_self, if_true, if_false, Nat.reduceAdd, Int.reduceToNat, Int.reduceAdd, tvs, bs]; try refine aA ?_)) | ((first | refine cR hB ?_ | refine cR hA ?_ | refine cR hR ?_ | refine cR hD ?_ | refine cR ret_awake16 ?_); simp (disch := omega) only [u, i64, ax, eq_self, if_true, if_false, Nat.reduceAdd, Int.reduceToNat, Int.reduceAdd, tvs, bs]; try refine aA ?_) | refine G_seq ?_ | refine G_block ?_ | refine G_condT rfl ?_ | refine G_condF rfl ?_ | refine G_skip ?_ | refine G_ret ?_ | refine G_exit ?_ | refine q_tn ?_ | refine q_tr ?_ | refine q_tx ?_ | refine q_bn ?_ | refine q_br ?_ | refine q_bx ?_ | refine q_by (by decide) ?_)
            (refine FinQ hQ (congrArg Array.toList Tryz.results8) _ _ ?_); simp (disch := omega) only [u, i64, ax, if_true, forall_const, reduceCtorEq, implies_true, tvs, bf]
          · refine RetN_start Tryz.func8 (by kernel_rfl) rfl fun Q hQ hQ2 => ?_; rw [Tryz.ntmps8]; simp only [u, i64, Nat.reduceSub, Nat.reduceAdd, bm]
            repeat (first | ((first | refine Gs ?_ | refine Gr ?_); simp (disch := omega) only [u, i64, ax, eq_self, if_true, if_false, Nat.reduceAdd, Int.reduceToNat, Int.reduceAdd, tvs, bs]; first | refine aA ?_ | ((first | refine cR hB ?_ | refine cR hA ?_ | refine cR hR ?_ | refine cR hD ?_ | refine cR ret_awake16 ?_); simp (disch := omega) only [u, i64, ax, eq_self, if_true, if_false, Nat.reduceAdd, Int.reduceToNat, Int.reduceAdd, tvs, bs]; try refine aA ?_)) | ((first | refine cR hB ?_ | refine cR hA ?_ | refine cR hR ?_ | refine cR hD ?_ | refine cR ret_awake16 ?_); simp (disch := omega) only [u, i64, ax, eq_self, if_true, if_false, Nat.reduceAdd, Int.reduceToNat, Int.reduceAdd, tvs, bs]; try refine aA ?_) | refine G_seq ?_ | refine G_block ?_ | refine G_condT rfl ?_ | refine G_condF rfl ?_ | refine G_skip ?_ | refine G_ret ?_ | refine G_exit ?_ | refine q_tn ?_ | refine q_tr ?_ | refine q_tx ?_ | refine q_bn ?_ | refine q_br ?_ | refine q_bx ?_ | refine q_by (by decide) ?_)
            (refine FinQ hQ (congrArg Array.toList Tryz.results8) _ _ ?_); simp (disch := omega) only [u, i64, ax, if_true, forall_const, reduceCtorEq, implies_true, tvs, bf]
        · rw [hee] at hD
          exact fin _ (Nat.le_refl _) (.inr hi) (inF_hasV k p hf ng j e hi) hD
      · have hD := ret_Decode_big k p hf xs hx (by omega) (by omega)
        unfold flv at *
        rcases hra with ⟨rfl, rfl⟩ | ⟨rfl, rfl⟩
        · refine RetN_start Tryz.func8 (by kernel_rfl) rfl fun Q hQ hQ2 => ?_; rw [Tryz.ntmps8]; simp only [u, i64, Nat.reduceSub, Nat.reduceAdd, bm]
          repeat (first | ((first | refine Gs ?_ | refine Gr ?_); simp (disch := omega) only [u, i64, ax, eq_self, if_true, if_false, Nat.reduceAdd, Int.reduceToNat, Int.reduceAdd, tvs, bs]; first | refine aA ?_ | ((first | refine cR hB ?_ | refine cR hA ?_ | refine cR hR ?_ | refine cR hD ?_ | refine cR ret_awake16 ?_); simp (disch := omega) only [u, i64, ax, eq_self, if_true, if_false, Nat.reduceAdd, Int.reduceToNat, Int.reduceAdd, tvs, bs]; try refine aA ?_)) | ((first | refine cR hB ?_ | refine cR hA ?_ | refine cR hR ?_ | refine cR hD ?_ | refine cR ret_awake16 ?_); simp (disch := omega) only [u, i64, ax, eq_self, if_true, if_false, Nat.reduceAdd, Int.reduceToNat, Int.reduceAdd, tvs, bs]; try refine aA ?_) | refine G_seq ?_ | refine G_block ?_ | refine G_condT rfl ?_ | refine G_condF rfl ?_ | refine G_skip ?_ | refine G_ret ?_ | refine G_exit ?_ | refine q_tn ?_ | refine q_tr ?_ | refine q_tx ?_ | refine q_bn ?_ | refine q_br ?_ | refine q_bx ?_ | refine q_by (by decide) ?_)
          (refine FinQ hQ (congrArg Array.toList Tryz.results8) _ _ ?_); simp (disch := omega) only [u, i64, ax, if_true, forall_const, reduceCtorEq, implies_true, tvs, bf]
        · refine RetN_start Tryz.func8 (by kernel_rfl) rfl fun Q hQ hQ2 => ?_; rw [Tryz.ntmps8]; simp only [u, i64, Nat.reduceSub, Nat.reduceAdd, bm]
          repeat (first | ((first | refine Gs ?_ | refine Gr ?_); simp (disch := omega) only [u, i64, ax, eq_self, if_true, if_false, Nat.reduceAdd, Int.reduceToNat, Int.reduceAdd, tvs, bs]; first | refine aA ?_ | ((first | refine cR hB ?_ | refine cR hA ?_ | refine cR hR ?_ | refine cR hD ?_ | refine cR ret_awake16 ?_); simp (disch := omega) only [u, i64, ax, eq_self, if_true, if_false, Nat.reduceAdd, Int.reduceToNat, Int.reduceAdd, tvs, bs]; try refine aA ?_)) | ((first | refine cR hB ?_ | refine cR hA ?_ | refine cR hR ?_ | refine cR hD ?_ | refine cR ret_awake16 ?_); simp (disch := omega) only [u, i64, ax, eq_self, if_true, if_false, Nat.reduceAdd, Int.reduceToNat, Int.reduceAdd, tvs, bs]; try refine aA ?_) | refine G_seq ?_ | refine G_block ?_ | refine G_condT rfl ?_ | refine G_condF rfl ?_ | refine G_skip ?_ | refine G_ret ?_ | refine G_exit ?_ | refine q_tn ?_ | refine q_tr ?_ | refine q_tx ?_ | refine q_bn ?_ | refine q_br ?_ | refine q_bx ?_ | refine q_by (by decide) ?_)
          (refine FinQ hQ (congrArg Array.toList Tryz.results8) _ _ ?_); simp (disch := omega) only [u, i64, ax, if_true, forall_const, reduceCtorEq, implies_true, tvs, bf]
    · generalize errR 0 k p ns.length dn.length (val dn) = e at *
      refine RetN_start Tryz.func8 (by kernel_rfl) rfl fun Q hQ hQ2 => ?_; rw [Tryz.ntmps8]; simp only [u, i64, Nat.reduceSub, Nat.reduceAdd, bm]
      repeat (first | ((first | refine Gs ?_ | refine Gr ?_); simp (disch := omega) only [u, i64, ax, eq_self, if_true, if_false, Nat.reduceAdd, Int.reduceToNat, Int.reduceAdd, tvs, bs]; first | refine aA ?_ | ((first | refine cR hB ?_ | refine cR hA ?_ | refine cR ret_awake16 ?_); simp (disch := omega) only [u, i64, ax, eq_self, if_true, if_false, Nat.reduceAdd, Int.reduceToNat, Int.reduceAdd, tvs, bs]; try refine aA ?_)) | ((first | refine cR hB ?_ | refine cR hA ?_ | refine cR ret_awake16 ?_); simp (disch := omega) only [u, i64, ax, eq_self, if_true, if_false, Nat.reduceAdd, Int.reduceToNat, Int.reduceAdd, tvs, bs]; try refine aA ?_) | refine G_seq ?_ | refine G_block ?_ | refine G_condT rfl ?_ | refine G_condF rfl ?_ | refine G_skip ?_ | refine G_ret ?_ | refine G_exit ?_ | refine q_tn ?_ | refine q_tr ?_ | refine q_tx ?_ | refine q_bn ?_ | refine q_br ?_ | refine q_bx ?_ | refine q_by (by decide) ?_)
      (refine FinQ hQ (congrArg Array.toList Tryz.results8) _ _ ?_); simp (disch := omega) only [u, i64, ax, if_true, forall_const, reduceCtorEq, implies_true, tvs, bf]
  · rw [decF hb] at hB
    refine RetN_start Tryz.func8 (by kernel_rfl) rfl fun Q hQ hQ2 => ?_; rw [Tryz.ntmps8]; simp only [u, i64, Nat.reduceSub, Nat.reduceAdd, bm]
    repeat (first | ((first | refine Gs ?_ | refine Gr ?_); simp (disch := omega) only [u, i64, ax, eq_self, if_true, if_false, Nat.reduceAdd, Int.reduceToNat, Int.reduceAdd, tvs, bs]; first | refine aA ?_ | ((first | refine cR hB ?_ | refine cR ret_awake16 ?_); simp (disch := omega) only [u, i64, ax, eq_self, if_true, if_false, Nat.reduceAdd, Int.reduceToNat, Int.reduceAdd, tvs, bs]; try refine aA ?_)) | ((first | refine cR hB ?_ | refine cR ret_awake16 ?_); simp (disch := omega) only [u, i64, ax, eq_self, if_true, if_false, Nat.reduceAdd, Int.reduceToNat, Int.reduceAdd, tvs, bs]; try refine aA ?_) | refine G_seq ?_ | refine G_block ?_ | refine G_condT rfl ?_ | refine G_condF rfl ?_ | refine G_skip ?_ | refine G_ret ?_ | refine G_exit ?_ | refine q_tn ?_ | refine q_tr ?_ | refine q_tx ?_ | refine q_bn ?_ | refine q_br ?_ | refine q_bx ?_ | refine q_by (by decide) ?_)
    (refine FinQ hQ (congrArg Array.toList Tryz.results8) _ _ ?_); simp (disch := omega) only [u, i64, ax, if_true, forall_const, reduceCtorEq, implies_true, tvs, bf]
end Go.Proofs
