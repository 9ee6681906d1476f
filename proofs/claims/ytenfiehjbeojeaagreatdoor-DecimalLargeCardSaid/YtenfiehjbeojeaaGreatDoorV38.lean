/-
  Contracts of functions of the program, each proved by a walk.
-/
import Derived.Test.YtenfiehjbeojeaaGreatDoorV37
set_option maxRecDepth 100000
set_option linter.unusedVariables false
set_option linter.unusedSimpArgs false
set_option maxRecDepth 100000
set_option maxHeartbeats 16000000
namespace Go.Proofs
open Go.Ax
/-- Of the type. -/
structure DI.prL (d : DI) : Prop where
  k1 : -9223372036854775808 ≤ d.k
  k2 : d.k < 9223372036854775808
  e1 : -9223372036854775808 ≤ d.e
  e2 : d.e < 9223372036854775808
  wd : Wd d.cs
  len : d.cs.length ≤ 9223372036854775807
theorem ret_SameL (k e : Int) (n : Bool) (xs ys : List Nat) (hk1 : -9223372036854775808 ≤ k) (hk2 : k < 9223372036854775808) (he1 : -9223372036854775808 ≤ e) (he2 : e < 9223372036854775808) (hx : Wd xs) (hxl : xs.length ≤ 40) (hy : Wd ys) (hyl : ys.length = 4097) (hv : val ys = val xs) :
    Ret Tryz.prog GEs 33 [.agg [i64 k, .bool n, ws xs, i64 e], .agg [i64 k, .bool n, ws ys, i64 e]] (.bool (decide (goodD k n (val xs) e))) := by
  obtain ⟨k', n', v', e', hC, hE⟩ := ret_dcanonical k n xs e hk1 hk2 he1 he2 hx (by omega)
  obtain ⟨k'', n'', v'', e'', hC2, hE2⟩ := ret_dcanonical k n ys e hk1 hk2 he1 he2 hy (by omega)
  rw [hv] at hC2 hE2
  by_cases hg : goodD k n (val xs) e
  · obtain ⟨a1, a2, a3, a4⟩ := hE hg
    obtain ⟨b1, b2, b3, b4⟩ := hE2 hg
    rw [a1, a2, a3, a4] at hC
    rw [b1, b2, b3, b4] at hC2
    rw [decT hg] at hC hC2 ⊢
    have l1 := length_words_val_le hx
    have hCm := ret_Cmp (words (val xs)) (words (val xs)) (Wd_words _) (Wd_words _) (by omega) (by omega)
    rw [val_words, cmpI_eq rfl] at hCm
    generalize val xs = v at *
    have hbb : (n == n) = true := by cases n <;> rfl
    clear hg hE hE2 a1 a2 a3 a4 b1 b2 b3 b4 l1 hv hx hy hxl hyl hk1 hk2 he1 he2
    refine RetN_start Tryz.func33 (by kernel_rfl) rfl fun Q hQ hQ2 => ?_; rw [Tryz.ntmps33]; simp only [u, i64, Nat.reduceSub, Nat.reduceAdd, bm]
    repeat (first | (refine gC ?_; first | with_reducible refine aA ?_ | ((first | refine cR hC ?_ | refine cR hC2 ?_); with_reducible refine sX ?_; try with_reducible refine aA ?_)) | ((first | refine cR hC ?_ | refine cR hC2 ?_); with_reducible refine sX ?_; try with_reducible refine aA ?_) | refine gS ?_)
    (refine gC ?_)
    rw [hbb]
    simp (disch := omega) only [u, i64, ax, eq_self, if_true, if_false, Nat.reduceAdd, Int.reduceToNat, Int.reduceAdd, tvs, bs]
    repeat (first | (refine gC ?_; first | with_reducible refine aA ?_ | (refine cR hCm ?_; with_reducible refine sX ?_; try with_reducible refine aA ?_)) | (refine cR hCm ?_; with_reducible refine sX ?_; try with_reducible refine aA ?_) | refine gS ?_)
    (refine FinQ hQ (congrArg Array.toList Tryz.results33) _ _ ?_); simp (disch := omega) only [u, i64, ax, if_true, forall_const, reduceCtorEq, implies_true, tvs, bf]
  · rw [decF hg] at hC hC2 ⊢
    clear hg hE hE2
    refine RetN_start Tryz.func33 (by kernel_rfl) rfl fun Q hQ hQ2 => ?_; rw [Tryz.ntmps33]; simp only [u, i64, Nat.reduceSub, Nat.reduceAdd, bm]
    repeat (first | (refine gC ?_; first | with_reducible refine aA ?_ | ((first | refine cR hC ?_ | refine cR hC2 ?_); with_reducible refine sX ?_; try with_reducible refine aA ?_)) | ((first | refine cR hC ?_ | refine cR hC2 ?_); with_reducible refine sX ?_; try with_reducible refine aA ?_) | refine gS ?_)
    (refine FinQ hQ (congrArg Array.toList Tryz.results33) _ _ ?_); simp (disch := omega) only [u, i64, ax, if_true, forall_const, reduceCtorEq, implies_true, tvs, bf]
theorem ret_LawDecimalLarge (p g r : Int) (d c : DI) (hd : d.prL) (hc : c.prL) : Ret Tryz.prog GEs 4 [.agg [i64 p, i64 g, i64 r], d.av, c.av] (.bool true) := by
  have hS := ret_Short2 d c hd.len hc.len
  by_cases hs : d.cs.length ≤ 40 ∧ c.cs.length ≤ 40
  · rw [decT hs] at hS
    obtain ⟨ys, h2, hyw, hyv, hL⟩ := ret_Long22 c.k c.e c.neg c.cs hc.wd hs.2
    have hGd := ret_Good22 c.k c.e c.neg c.cs hc.k1 hc.k2 hc.e1 hc.e2 hc.wd (by omega)
    have hSm := ret_SameL c.k c.e c.neg c.cs ys hc.k1 hc.k2 hc.e1 hc.e2 hc.wd hs.2 hyw h2 hyv
    have hTh := ret_TheirD c.k c.e c.neg c.cs
    have hF2 : Ret Tryz.prog GEs 28 [.agg [i64 0, .bool false, .lst 0 [], i64 0], i64 0, i64 2, .agg [i64 0, .bool false, .emp, i64 0], i64 0, i64 2] (.bool true) := FitsErz 2 (by decide) (by decide)
    have hF5 : Ret Tryz.prog GEs 28 [.agg [i64 0, .bool false, .lst 0 [], i64 0], i64 0, i64 5, .agg [i64 0, .bool false, .emp, i64 0], i64 0, i64 5] (.bool true) := FitsErz 5 (by decide) (by decide)
    obtain ⟨xk, xn, xc, xe⟩ := d
    obtain ⟨yk, yn, yc, ye⟩ := c
    unfold DI.av
    simp only at *
    have h1 := hs.1
    have hVa := ret_ValueL (k1 := 0) (e1 := 0) (k2 := yk) (e2 := ye) (n1 := false) (n2 := yn) h1 h2
    have hAj := ret_AdjustedL (k1 := 0) (e1 := 0) (k2 := yk) (e2 := ye) (n1 := false) (n2 := yn) h1 h2
    have hCp := ret_CompareL (k1 := xk) (e1 := xe) (k2 := yk) (e2 := ye) (n1 := xn) (n2 := yn) h1 h2
    have hHo := ret_HoldsL (k1 := 0) (e1 := 0) (k2 := yk) (e2 := ye) (n1 := false) (n2 := yn) h1 h2 p g r
    have hRe := ret_ReduceL (k1 := 0) (e1 := 0) (k2 := yk) (e2 := ye) (n1 := false) (n2 := yn) h1 h2 p g r
    have hQz := ret_QuantizeL (k1 := 0) (e1 := 0) (k2 := yk) (e2 := ye) (n1 := false) (n2 := yn) h1 h2 p g r
    have hFu := ret_FusedL (k1 := xk) (e1 := xe) (k2 := yk) (e2 := ye) (n1 := xn) (n2 := yn) h1 h2 p g r
    have hAd := ret_AddL (k1 := xk) (e1 := xe) (k2 := yk) (e2 := ye) (n1 := xn) (n2 := yn) h1 h2 p g r
    have hSu := ret_SubL (k1 := xk) (e1 := xe) (k2 := yk) (e2 := ye) (n1 := xn) (n2 := yn) h1 h2 p g r
    have hMu := ret_MulL (k1 := xk) (e1 := xe) (k2 := yk) (e2 := ye) (n1 := xn) (n2 := yn) h1 h2 p g r
    have hPl := ret_PlusL (k1 := 0) (e1 := 0) (k2 := yk) (e2 := ye) (n1 := false) (n2 := yn) h1 h2 p g r
    have hRo := ret_RoundL h2 p g r
    have hRz := ret_RoundZ p g r
    generalize decide (goodD yk yn (val yc) ye) = B at *
    have hbb : (B == B) = true := by cases B <;> rfl
    clear hs h1 h2 hyw hyv hd hc
    refine RetN_start Tryz.func4 (by kernel_rfl) rfl fun Q hQ hQ2 => ?_; rw [Tryz.ntmps4]; simp only [u, i64, Nat.reduceSub, Nat.reduceAdd, bm]
    repeat (first | refine G_seq ?_ | refine G_block ?_ | refine G_condT rfl ?_ | refine G_condF rfl ?_ | refine G_skip ?_ | refine q_tn ?_ | refine q_bn ?_)
    refine G_reg mixed (by first | rfl | kernel_rfl) ?_
    simp (disch := omega) only [u, i64, ax, eq_self, if_true, if_false, Nat.reduceAdd, Int.reduceToNat, Int.reduceAdd, tvs, bs]
    refine aft_any ?_
    repeat (first | refine G_seq ?_ | refine G_block ?_ | refine G_condT rfl ?_ | refine G_condF rfl ?_ | refine G_skip ?_ | refine q_tn ?_ | refine q_bn ?_)
    refine G_reg mixed (by first | rfl | kernel_rfl) ?_
    simp (disch := omega) only [u, i64, ax, eq_self, if_true, if_false, Nat.reduceAdd, Int.reduceToNat, Int.reduceAdd, tvs, bs]
    simp (disch := omega) only [u, i64, ax, eq_self, if_true, if_false, Nat.reduceAdd, Int.reduceToNat, Int.reduceAdd, tvs, bs, Nat.reduceMul, List.take_succ_cons, List.take_zero, List.nil_append, List.cons_append, List.append_nil, Nat.reduceLeDiff]
    (refine cR hS ?_; with_reducible refine sX ?_; try with_reducible refine aA ?_)
    repeat (first | refine G_seq ?_ | refine G_block ?_ | refine G_condT rfl ?_ | refine G_condF rfl ?_ | refine G_skip ?_ | refine q_tn ?_ | refine q_bn ?_)
    refine G_reg mixed (by first | rfl | kernel_rfl) ?_
    simp (disch := omega) only [u, i64, ax, eq_self, if_true, if_false, Nat.reduceAdd, Int.reduceToNat, Int.reduceAdd, tvs, bs]
    (refine cR hL ?_; with_reducible refine sX ?_; try with_reducible refine aA ?_)
    repeat (first | refine G_seq ?_ | refine G_block ?_ | refine G_condT rfl ?_ | refine G_condF rfl ?_ | refine G_skip ?_ | refine q_tn ?_ | refine q_bn ?_)
    refine G_reg mixed (by first | rfl | kernel_rfl) ?_
    simp (disch := omega) only [u, i64, ax, eq_self, if_true, if_false, Nat.reduceAdd, Int.reduceToNat, Int.reduceAdd, tvs, bs]
    (refine cR hVa ?_; with_reducible refine sX ?_; try with_reducible refine aA ?_)
    repeat (first | refine G_seq ?_ | refine G_block ?_ | refine G_condT rfl ?_ | refine G_condF rfl ?_ | refine G_skip ?_ | refine q_tn ?_ | refine q_bn ?_)
    refine G_reg mixed (by first | rfl | kernel_rfl) ?_
    simp (disch := omega) only [u, i64, ax, eq_self, if_true, if_false, Nat.reduceAdd, Int.reduceToNat, Int.reduceAdd, tvs, bs]
    (refine cR hRo ?_; with_reducible refine sX ?_; try with_reducible refine aA ?_)
    repeat (first | refine G_seq ?_ | refine G_block ?_ | refine G_condT rfl ?_ | refine G_condF rfl ?_ | refine G_skip ?_ | refine q_tn ?_ | refine q_bn ?_)
    refine G_reg mixed (by first | rfl | kernel_rfl) ?_
    simp (disch := omega) only [u, i64, ax, eq_self, if_true, if_false, Nat.reduceAdd, Int.reduceToNat, Int.reduceAdd, tvs, bs]
    simp (disch := omega) only [u, i64, ax, eq_self, if_true, if_false, Nat.reduceAdd, Int.reduceToNat, Int.reduceAdd, tvs, bs, Nat.reduceMul, List.take_succ_cons, List.take_zero, List.nil_append, List.cons_append, List.append_nil, Nat.reduceLeDiff]
    (refine cR hRz ?_; with_reducible refine sX ?_; try with_reducible refine aA ?_)
    repeat (first | refine G_seq ?_ | refine G_block ?_ | refine G_condT rfl ?_ | refine G_condF rfl ?_ | refine G_skip ?_ | refine q_tn ?_ | refine q_bn ?_)
    refine G_reg mixed (by first | rfl | kernel_rfl) ?_
    simp (disch := omega) only [u, i64, ax, eq_self, if_true, if_false, Nat.reduceAdd, Int.reduceToNat, Int.reduceAdd, tvs, bs]
    (refine cR hPl ?_; with_reducible refine sX ?_; try with_reducible refine aA ?_)
    repeat (first | refine G_seq ?_ | refine G_block ?_ | refine G_condT rfl ?_ | refine G_condF rfl ?_ | refine G_skip ?_ | refine q_tn ?_ | refine q_bn ?_)
    refine G_reg mixed (by first | rfl | kernel_rfl) ?_
    simp (disch := omega) only [u, i64, ax, eq_self, if_true, if_false, Nat.reduceAdd, Int.reduceToNat, Int.reduceAdd, tvs, bs]
    (refine cR hAd ?_; with_reducible refine sX ?_; try with_reducible refine aA ?_)
    repeat (first | refine G_seq ?_ | refine G_block ?_ | refine G_condT rfl ?_ | refine G_condF rfl ?_ | refine G_skip ?_ | refine q_tn ?_ | refine q_bn ?_)
    refine G_reg mixed (by first | rfl | kernel_rfl) ?_
    simp (disch := omega) only [u, i64, ax, eq_self, if_true, if_false, Nat.reduceAdd, Int.reduceToNat, Int.reduceAdd, tvs, bs]
    (refine cR hSu ?_; with_reducible refine sX ?_; try with_reducible refine aA ?_)
    repeat (first | refine G_seq ?_ | refine G_block ?_ | refine G_condT rfl ?_ | refine G_condF rfl ?_ | refine G_skip ?_ | refine q_tn ?_ | refine q_bn ?_)
    refine G_reg mixed (by first | rfl | kernel_rfl) ?_
    simp (disch := omega) only [u, i64, ax, eq_self, if_true, if_false, Nat.reduceAdd, Int.reduceToNat, Int.reduceAdd, tvs, bs]
    (refine cR hMu ?_; with_reducible refine sX ?_; try with_reducible refine aA ?_)
    repeat (first | refine G_seq ?_ | refine G_block ?_ | refine G_condT rfl ?_ | refine G_condF rfl ?_ | refine G_skip ?_ | refine q_tn ?_ | refine q_bn ?_)
    refine G_reg mixed (by first | rfl | kernel_rfl) ?_
    simp (disch := omega) only [u, i64, ax, eq_self, if_true, if_false, Nat.reduceAdd, Int.reduceToNat, Int.reduceAdd, tvs, bs]
    (refine cR hFu ?_; with_reducible refine sX ?_; try with_reducible refine aA ?_)
    repeat (first | refine G_seq ?_ | refine G_block ?_ | refine G_condT rfl ?_ | refine G_condF rfl ?_ | refine G_skip ?_ | refine q_tn ?_ | refine q_bn ?_)
    refine G_reg mixed (by first | rfl | kernel_rfl) ?_
    simp (disch := omega) only [u, i64, ax, eq_self, if_true, if_false, Nat.reduceAdd, Int.reduceToNat, Int.reduceAdd, tvs, bs]
    refine aft_any ?_
    repeat (first | refine G_seq ?_ | refine G_block ?_ | refine G_condT rfl ?_ | refine G_condF rfl ?_ | refine G_skip ?_ | refine q_tn ?_ | refine q_bn ?_)
    simp only [List.append_eq, List.cons_append, List.nil_append]
    refine G_reg mixed (by first | rfl | kernel_rfl) ?_
    simp (disch := omega) only [u, i64, ax, eq_self, if_true, if_false, Nat.reduceAdd, Int.reduceToNat, Int.reduceAdd, tvs, bs]
    (refine cR hHo ?_; with_reducible refine sX ?_; try with_reducible refine aA ?_)
    (refine cR ret_NoRat0 ?_; with_reducible refine sX ?_; try with_reducible refine aA ?_)
    (refine cR hF2 ?_; with_reducible refine sX ?_; try with_reducible refine aA ?_)
    (refine cR hF5 ?_; with_reducible refine sX ?_; try with_reducible refine aA ?_)
    (refine cR hF2 ?_; with_reducible refine sX ?_; try with_reducible refine aA ?_)
    (refine cR hF2 ?_; with_reducible refine sX ?_; try with_reducible refine aA ?_)
    (refine cR hF2 ?_; with_reducible refine sX ?_; try with_reducible refine aA ?_)
    (refine cR hF2 ?_; with_reducible refine sX ?_; try with_reducible refine aA ?_)
    (refine cR hF2 ?_; with_reducible refine sX ?_; try with_reducible refine aA ?_)
    repeat (first | refine G_seq ?_ | refine G_block ?_ | refine G_condT rfl ?_ | refine G_condF rfl ?_ | refine G_skip ?_ | refine q_tn ?_ | refine q_bn ?_)
    refine G_reg mixed (by first | rfl | kernel_rfl) ?_
    simp (disch := omega) only [u, i64, ax, eq_self, if_true, if_false, Nat.reduceAdd, Int.reduceToNat, Int.reduceAdd, tvs, bs]
    (refine cR hQz ?_; with_reducible refine sX ?_; try with_reducible refine aA ?_)
    repeat (first | refine G_seq ?_ | refine G_block ?_ | refine G_condT rfl ?_ | refine G_condF rfl ?_ | refine G_skip ?_ | refine q_tn ?_ | refine q_bn ?_)
    refine G_reg mixed (by first | rfl | kernel_rfl) ?_
    simp (disch := omega) only [u, i64, ax, eq_self, if_true, if_false, Nat.reduceAdd, Int.reduceToNat, Int.reduceAdd, tvs, bs]
    (refine cR hRe ?_; with_reducible refine sX ?_; try with_reducible refine aA ?_)
    repeat (first | refine G_seq ?_ | refine G_block ?_ | refine G_condT rfl ?_ | refine G_condF rfl ?_ | refine G_skip ?_ | refine q_tn ?_ | refine q_bn ?_)
    refine G_reg mixed (by first | rfl | kernel_rfl) ?_
    simp (disch := omega) only [u, i64, ax, eq_self, if_true, if_false, Nat.reduceAdd, Int.reduceToNat, Int.reduceAdd, tvs, bs]
    (refine cR hCp ?_; with_reducible refine sX ?_; try with_reducible refine aA ?_)
    repeat (first | refine G_seq ?_ | refine G_block ?_ | refine G_condT rfl ?_ | refine G_condF rfl ?_ | refine G_skip ?_ | refine q_tn ?_ | refine q_bn ?_)
    refine G_reg mixed (by first | rfl | kernel_rfl) ?_
    simp (disch := omega) only [u, i64, ax, eq_self, if_true, if_false, Nat.reduceAdd, Int.reduceToNat, Int.reduceAdd, tvs, bs]
    (refine cR hAj ?_; with_reducible refine sX ?_; try with_reducible refine aA ?_)
    repeat (first | refine G_seq ?_ | refine G_block ?_ | refine G_condT rfl ?_ | refine G_condF rfl ?_ | refine G_skip ?_ | refine q_tn ?_ | refine q_bn ?_)
    refine G_reg mixed (by first | rfl | kernel_rfl) ?_
    simp (disch := omega) only [u, i64, ax, eq_self, if_true, if_false, Nat.reduceAdd, Int.reduceToNat, Int.reduceAdd, tvs, bs]
    (refine cR hF2 ?_; with_reducible refine sX ?_; try with_reducible refine aA ?_)
    (refine cR hF2 ?_; with_reducible refine sX ?_; try with_reducible refine aA ?_)
    (refine cR hSm ?_; with_reducible refine sX ?_; try with_reducible refine aA ?_)
    (refine cR hTh ?_; with_reducible refine sX ?_; try with_reducible refine aA ?_)
    (refine cR hGd ?_; with_reducible refine sX ?_; try with_reducible refine aA ?_)
    rw [hbb]
    simp (disch := omega) only [u, i64, ax, eq_self, if_true, if_false, Nat.reduceAdd, Int.reduceToNat, Int.reduceAdd, tvs, bs]
    repeat (first | (refine gC ?_; first | with_reducible refine aA ?_ | (refine cR ret_awake22 ?_; with_reducible refine sX ?_; try with_reducible refine aA ?_)) | (refine cR ret_awake22 ?_; with_reducible refine sX ?_; try with_reducible refine aA ?_) | refine gS ?_)
    (refine FinQ hQ (congrArg Array.toList Tryz.results4) _ _ ?_); simp (disch := omega) only [u, i64, ax, if_true, forall_const, reduceCtorEq, implies_true, tvs, bf]
  · rw [decF hs] at hS
    unfold DI.av
    refine RetN_start Tryz.func4 (by kernel_rfl) rfl fun Q hQ hQ2 => ?_; rw [Tryz.ntmps4]; simp only [u, i64, Nat.reduceSub, Nat.reduceAdd, bm]
    (refine gO ?_)
    (refine gC ?_)
    simp (disch := omega) only [u, i64, ax, eq_self, if_true, if_false, Nat.reduceAdd, Int.reduceToNat, Int.reduceAdd, tvs, bs, Nat.reduceMul, List.take_succ_cons, List.take_zero, List.nil_append, List.cons_append, List.append_nil, Nat.reduceLeDiff]
    repeat (first | (refine gC ?_; first | with_reducible refine aA ?_ | ((first | refine cR hS ?_ | refine cR ret_awake22 ?_); with_reducible refine sX ?_; try with_reducible refine aA ?_)) | ((first | refine cR hS ?_ | refine cR ret_awake22 ?_); with_reducible refine sX ?_; try with_reducible refine aA ?_) | refine gS ?_)
    (refine FinQ hQ (congrArg Array.toList Tryz.results4) _ _ ?_); simp (disch := omega) only [u, i64, ax, if_true, forall_const, reduceCtorEq, implies_true, tvs, bf]
end Go.Proofs
