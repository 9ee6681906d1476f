/-
  Contracts of functions of the program, each proved by a walk.
-/
import Derived.Test.YtpnljnmpocobjaaGreatDoorZ9
import Derived.Test.YtpnljnmpocobjaaGreatDoorZ27
set_option maxRecDepth 100000
set_option linter.unusedVariables false
set_option linter.unusedSimpArgs false
namespace Go.Proofs
open Go.Ax
theorem ret_Minus0 (b : List Nat) (hl : b.length ≤ 1000000) : Ret Tryz.prog GEs 255 [ws [], ws b] (.tup [ws [], .bool false]) := by
  refine RetN_start Tryz.func255 (by kernel_rfl) rfl fun Q hQ hQ2 => ?_; rw [Tryz.ntmps255]; simp only [u, i64, Nat.reduceSub, Nat.reduceAdd, bm]
  (refine gO ?_)
  refine AWp_loop (fun _ : Unit => mk 38 [(0, ws []), (1, ws b), (6, .emp), (7, .int .u64 0), (8, i64 0)] []) (fun _ => True) (fun _ => 0) () ?_ trivial ?_
  · simp only [u, i64, Nat.reduceSub, Nat.reduceAdd, bm]
  intro _ _
  simp only [u, i64, Nat.reduceSub, Nat.reduceAdd, bm]
  (refine gO ?_)
  (refine FinQ hQ (congrArg Array.toList Tryz.results255) _ _ ?_); simp (disch := omega) only [u, i64, ax, if_true, forall_const, reduceCtorEq, implies_true, tvs, bf]
  all_goals rfl
theorem ret_rSub0 (ys : List Nat) (hy : Wd ys) (hl : ys.length ≤ 100000) : Ret Tryz.prog GEs 246 [ws [], ws ys] (nat 0) := by
  have h1 := ret_Digits [] (fun x hx => by cases hx) (by decide)
  have h2 := ret_rTrim ys hy (by omega)
  have hyl := length_words_val_le hy
  have h3 := ret_Digits (words (val ys)) (Wd_words _) (by omega)
  have h4 := ret_Minus0 (digs (words (val ys))) (by rw [digs_length]; omega)
  have h5 := ret_nat [] (fun x hx => by cases hx) (by decide)
  rw [show digs [] = [] from rfl] at h1
  rw [show vb 4294967296 [] = 0 from rfl] at h5
  generalize digs (words (val ys)) = dd at *
  refine RetN_start Tryz.func246 (by kernel_rfl) rfl fun Q hQ hQ2 => ?_; rw [Tryz.ntmps246]; simp only [u, i64, Nat.reduceSub, Nat.reduceAdd, bm]
  repeat (first | (refine gC ?_; first | refine aA ?_ | ((first | refine cR h1 ?_ | refine cR h2 ?_ | refine cR h3 ?_ | refine cR h4 ?_ | refine cR h5 ?_); refine sX ?_; try refine aA ?_)) | ((first | refine cR h1 ?_ | refine cR h2 ?_ | refine cR h3 ?_ | refine cR h4 ?_ | refine cR h5 ?_); refine sX ?_; try refine aA ?_) | refine gS ?_)
  (refine FinQ hQ (congrArg Array.toList Tryz.results246) _ _ ?_); simp (disch := omega) only [u, i64, ax, if_true, forall_const, reduceCtorEq, implies_true, tvs, bf]
theorem ret_rSubA (xs ys : List Nat) (hx : Wd xs) (hy : Wd ys) (hl : xs.length ≤ 100000) (hl2 : ys.length ≤ 100000) (hle : val ys ≤ val xs) : Ret Tryz.prog GEs 246 [ws xs, ws ys] (nat (val xs - val ys)) := by
  by_cases h : xs = []
  · subst h
    have : val ys = 0 := by have : val [] = 0 := rfl; omega
    rw [this]
    exact ret_rSub0 ys hy hl2
  · exact ret_rSub xs ys hx hy h (by omega) (by omega) hle
theorem ret_rAddA (xs ys : List Nat) (hx : Wd xs) (hy : Wd ys) (hl : xs.length ≤ 100000) (hl2 : ys.length ≤ 100000) : Ret Tryz.prog GEs 208 [ws xs, ws ys] (nat (val xs + val ys)) := ret_rAdd xs ys hx hy (by omega) (by omega)
set_option maxRecDepth 100000 in
set_option maxHeartbeats 2000000 in
theorem ret_Add03 (a b : Bool) (xs ys : List Nat) (hx : Wd xs) (hy : Wd ys) (hl : xs.length ≤ 10000) (hl2 : ys.length ≤ 10000) : Ret Tryz.prog GEs 213 [.agg [.bool a, ws xs], .agg [.bool b, ws ys]] (zv (sg a (val xs) + sg b (val ys))) := by
  have h1 := length_words_val_le hx
  have h2 := length_words_val_le hy
  have hA := ret_rAddA xs ys hx hy (by omega) (by omega)
  have hAl := length_add (val xs) (val ys)
  have hC := ret_rCmp xs ys hx hy (by omega) (by omega)
  have hC2 : ∃ z : Int, (z < 0 ↔ val xs < val ys) ∧ Ret Tryz.prog GEs 177 [ws xs, ws ys] (i64 z) := ⟨_, by unfold cmpI; split <;> (try split) <;> omega, hC⟩
  obtain ⟨z, hz, hC⟩ := hC2
  have key : ∀ a : Bool, Ret Tryz.prog GEs 213 [.agg [.bool a, ws xs], .agg [.bool a, ws ys]] (zv (sg a (val xs) + sg a (val ys))) := fun a => by
    have hM := ret_Make03 a (words (val xs + val ys)) (Wd_words _) (by omega)
    rw [val_words, show sg a (val xs + val ys) = sg a (val xs) + sg a (val ys) by unfold sg; cases a <;> simp <;> omega] at hM
    generalize sg a (val xs) + sg a (val ys) = w at *
    unfold zv at *
    cases a with
    | true =>
      refine RetN_start Tryz.func213 (by kernel_rfl) rfl fun Q hQ hQ2 => ?_; rw [Tryz.ntmps213]; simp only [u, i64, Nat.reduceSub, Nat.reduceAdd, bm]
      repeat (first | (refine gC ?_; first | refine aA ?_ | ((first | refine cR hA ?_ | refine cR hM ?_); refine sX ?_; try refine aA ?_)) | ((first | refine cR hA ?_ | refine cR hM ?_); refine sX ?_; try refine aA ?_) | refine gS ?_)
      (refine FinQ hQ (congrArg Array.toList Tryz.results213) _ _ ?_); simp (disch := omega) only [u, i64, ax, if_true, forall_const, reduceCtorEq, implies_true, tvs, bf]
    | false =>
      refine RetN_start Tryz.func213 (by kernel_rfl) rfl fun Q hQ hQ2 => ?_; rw [Tryz.ntmps213]; simp only [u, i64, Nat.reduceSub, Nat.reduceAdd, bm]
      repeat (first | (refine gC ?_; first | refine aA ?_ | ((first | refine cR hA ?_ | refine cR hM ?_); refine sX ?_; try refine aA ?_)) | ((first | refine cR hA ?_ | refine cR hM ?_); refine sX ?_; try refine aA ?_) | refine gS ?_)
      (refine FinQ hQ (congrArg Array.toList Tryz.results213) _ _ ?_); simp (disch := omega) only [u, i64, ax, if_true, forall_const, reduceCtorEq, implies_true, tvs, bf]
  have key2 : ∀ a : Bool, Ret Tryz.prog GEs 213 [.agg [.bool a, ws xs], .agg [.bool (!a), ws ys]] (zv (sg a (val xs) + sg (!a) (val ys))) := fun a => by
    by_cases hlt : val xs < val ys
    · have hzz : z < 0 := hz.2 hlt
      have hS := ret_rSubA ys xs hy hx (by omega) (by omega) (by omega)
      have hSl := length_mono (Nat.sub_le (val ys) (val xs))
      have hM := ret_Make03 (!a) (words (val ys - val xs)) (Wd_words _) (by omega)
      rw [val_words, show sg (!a) (val ys - val xs) = sg a (val xs) + sg (!a) (val ys) by unfold sg; cases a <;> simp <;> omega] at hM
      generalize sg a (val xs) + sg (!a) (val ys) = w at *
      unfold zv at *
      cases a with
      | true =>
        rw [show (!true) = false from rfl] at hM ⊢
        refine RetN_start Tryz.func213 (by kernel_rfl) rfl fun Q hQ hQ2 => ?_; rw [Tryz.ntmps213]; simp only [u, i64, Nat.reduceSub, Nat.reduceAdd, bm]
        repeat (first | (refine gC ?_; first | refine aA ?_ | ((first | refine cR hC ?_ | refine cR hS ?_ | refine cR hM ?_); refine sX ?_; try refine aA ?_)) | ((first | refine cR hC ?_ | refine cR hS ?_ | refine cR hM ?_); refine sX ?_; try refine aA ?_) | refine gS ?_)
        (refine FinQ hQ (congrArg Array.toList Tryz.results213) _ _ ?_); simp (disch := omega) only [u, i64, ax, if_true, forall_const, reduceCtorEq, implies_true, tvs, bf]
      | false =>
        rw [show (!false) = true from rfl] at hM ⊢
        refine RetN_start Tryz.func213 (by kernel_rfl) rfl fun Q hQ hQ2 => ?_; rw [Tryz.ntmps213]; simp only [u, i64, Nat.reduceSub, Nat.reduceAdd, bm]
        repeat (first | (refine gC ?_; first | refine aA ?_ | ((first | refine cR hC ?_ | refine cR hS ?_ | refine cR hM ?_); refine sX ?_; try refine aA ?_)) | ((first | refine cR hC ?_ | refine cR hS ?_ | refine cR hM ?_); refine sX ?_; try refine aA ?_) | refine gS ?_)
        (refine FinQ hQ (congrArg Array.toList Tryz.results213) _ _ ?_); simp (disch := omega) only [u, i64, ax, if_true, forall_const, reduceCtorEq, implies_true, tvs, bf]
    · have hzz : ¬ z < 0 := fun h => hlt (hz.1 h)
      have hS := ret_rSubA xs ys hx hy (by omega) (by omega) (by omega)
      have hSl := length_mono (Nat.sub_le (val xs) (val ys))
      have hM := ret_Make03 a (words (val xs - val ys)) (Wd_words _) (by omega)
      rw [val_words, show sg a (val xs - val ys) = sg a (val xs) + sg (!a) (val ys) by unfold sg; cases a <;> simp <;> omega] at hM
      generalize sg a (val xs) + sg (!a) (val ys) = w at *
      unfold zv at *
      cases a with
      | true =>
        rw [show (!true) = false from rfl]
        refine RetN_start Tryz.func213 (by kernel_rfl) rfl fun Q hQ hQ2 => ?_; rw [Tryz.ntmps213]; simp only [u, i64, Nat.reduceSub, Nat.reduceAdd, bm]
        repeat (first | (refine gC ?_; first | refine aA ?_ | ((first | refine cR hC ?_ | refine cR hS ?_ | refine cR hM ?_); refine sX ?_; try refine aA ?_)) | ((first | refine cR hC ?_ | refine cR hS ?_ | refine cR hM ?_); refine sX ?_; try refine aA ?_) | refine gS ?_)
        (refine FinQ hQ (congrArg Array.toList Tryz.results213) _ _ ?_); simp (disch := omega) only [u, i64, ax, if_true, forall_const, reduceCtorEq, implies_true, tvs, bf]
      | false =>
        rw [show (!false) = true from rfl]
        refine RetN_start Tryz.func213 (by kernel_rfl) rfl fun Q hQ hQ2 => ?_; rw [Tryz.ntmps213]; simp only [u, i64, Nat.reduceSub, Nat.reduceAdd, bm]
        repeat (first | (refine gC ?_; first | refine aA ?_ | ((first | refine cR hC ?_ | refine cR hS ?_ | refine cR hM ?_); refine sX ?_; try refine aA ?_)) | ((first | refine cR hC ?_ | refine cR hS ?_ | refine cR hM ?_); refine sX ?_; try refine aA ?_) | refine gS ?_)
        (refine FinQ hQ (congrArg Array.toList Tryz.results213) _ _ ?_); simp (disch := omega) only [u, i64, ax, if_true, forall_const, reduceCtorEq, implies_true, tvs, bf]
  cases a <;> cases b
  · exact key false
  · exact key2 false
  · exact key2 true
  · exact key true
theorem ret_Sub03 (a b : Bool) (xs ys : List Nat) (hx : Wd xs) (hy : Wd ys) (hl : xs.length ≤ 10000) (hl2 : ys.length ≤ 10000) : Ret Tryz.prog GEs 233 [.agg [.bool a, ws xs], .agg [.bool b, ws ys]] (zv (sg a (val xs) - sg b (val ys))) := by
  have hN := ret_Neg03 b ys hy (by omega)
  have h2 := length_words_val_le hy
  have hab : (-sg b (val ys)).natAbs = val ys := by unfold sg; split <;> omega
  have hA := ret_Add03 a (decide (-sg b (val ys) < 0)) xs (words (-sg b (val ys)).natAbs) hx (Wd_words _) hl (by rw [hab]; omega)
  rw [val_words, sg_zv, ← Int.sub_eq_add_neg] at hA
  generalize sg a (val xs) - sg b (val ys) = w at *
  generalize -sg b (val ys) = v at *
  unfold zv at *
  refine RetN_start Tryz.func233 (by kernel_rfl) rfl fun Q hQ hQ2 => ?_; rw [Tryz.ntmps233]; simp only [u, i64, Nat.reduceSub, Nat.reduceAdd, bm]
  repeat (first | (refine gC ?_; first | refine aA ?_ | ((first | refine cR hN ?_ | refine cR hA ?_); refine sX ?_; try refine aA ?_)) | ((first | refine cR hN ?_ | refine cR hA ?_); refine sX ?_; try refine aA ?_) | refine gS ?_)
  (refine FinQ hQ (congrArg Array.toList Tryz.results233) _ _ ?_); simp (disch := omega) only [u, i64, ax, if_true, forall_const, reduceCtorEq, implies_true, tvs, bf]
theorem ret_Sub11 (a b : Bool) (xs ys : List Nat) (hx : Wd xs) (hy : Wd ys) (hl : xs.length ≤ 10000) (hl2 : ys.length ≤ 10000) : Ret Tryz.prog GEs 171 [.agg [.bool a, ws xs], .agg [.bool b, ws ys]] (zv (sg a (val xs) - sg b (val ys))) := by
  have hA := ret_Sub03 a b xs ys hx hy hl hl2
  generalize sg a (val xs) - sg b (val ys) = w at *
  unfold zv at *
  refine RetN_start Tryz.func171 (by kernel_rfl) rfl fun Q hQ hQ2 => ?_; rw [Tryz.ntmps171]; simp only [u, i64, Nat.reduceSub, Nat.reduceAdd, bm]
  repeat (first | (refine gC ?_; first | refine aA ?_ | (refine cR hA ?_; refine sX ?_; try refine aA ?_)) | (refine cR hA ?_; refine sX ?_; try refine aA ?_) | refine gS ?_)
  (refine FinQ hQ (congrArg Array.toList Tryz.results171) _ _ ?_); simp (disch := omega) only [u, i64, ax, if_true, forall_const, reduceCtorEq, implies_true, tvs, bf]
theorem sgn_zv (z : Int) : sgn (decide (z < 0)) z.natAbs = sgnI z := by
  unfold sgn sgnI
  by_cases h0 : z = 0
  · subst h0; rfl
  · rw [if_neg (by omega)]
    by_cases h : z < 0
    · rw [decT h, if_pos rfl, if_pos h]
    · rw [decF h, if_neg (by decide), if_neg h, if_pos (by omega)]
theorem ret_Cmp11 (a b : Bool) (xs ys : List Nat) (hx : Wd xs) (hy : Wd ys) (hl : xs.length ≤ 10000) (hl2 : ys.length ≤ 10000) : Ret Tryz.prog GEs 82 [.agg [.bool a, ws xs], .agg [.bool b, ws ys]] (i64 (sgnI (sg a (val xs) - sg b (val ys)))) := by
  have hS := ret_Sub11 a b xs ys hx hy hl hl2
  have h1 := length_words_val_le hx
  have h2 := length_words_val_le hy
  have hlen : (words (sg a (val xs) - sg b (val ys)).natAbs).length ≤ 20002 := by
    have h3 : (sg a (val xs) - sg b (val ys)).natAbs ≤ val xs + val ys := by unfold sg; split <;> split <;> omega
    have := length_mono h3
    have := length_add (val xs) (val ys)
    omega
  have hG := ret_Sign11 (decide (sg a (val xs) - sg b (val ys) < 0)) (words (sg a (val xs) - sg b (val ys)).natAbs) (Wd_words _) (by omega)
  rw [val_words, sgn_zv] at hG
  generalize sg a (val xs) - sg b (val ys) = w at *
  unfold zv at *
  refine RetN_start Tryz.func82 (by kernel_rfl) rfl fun Q hQ hQ2 => ?_; rw [Tryz.ntmps82]; simp only [u, i64, Nat.reduceSub, Nat.reduceAdd, bm]
  repeat (first | (refine gC ?_; first | refine aA ?_ | ((first | refine cR hS ?_ | refine cR hG ?_); refine sX ?_; try refine aA ?_)) | ((first | refine cR hS ?_ | refine cR hG ?_); refine sX ?_; try refine aA ?_) | refine gS ?_)
  (refine FinQ hQ (congrArg Array.toList Tryz.results82) _ _ ?_); simp (disch := omega) only [u, i64, ax, if_true, forall_const, reduceCtorEq, implies_true, tvs, bf]
/-- The reference compares two fractions. -/
def cpQ (a : Bool) (n d : Nat) (b : Bool) (n' d' : Nat) : Int := sgnI (sg a n * d' - sg b n' * d)
theorem sg_false (n : Nat) : sg false n = n := rfl
theorem ret_Cmp12 (a b : Bool) (ns dn ms en : List Nat) (hn : Wd ns) (hd : Wd dn) (hm : Wd ms) (he : Wd en) (l1 : ns.length ≤ 2000) (l2 : dn.length ≤ 2000) (l3 : ms.length ≤ 2000) (l4 : en.length ≤ 2000) :
    Ret Tryz.prog GEs 24 [.agg [.bool a, ws ns, ws dn], .agg [.bool b, ws ms, ws en]] (i64 (cpQ a (val ns) (val dn) b (val ms) (val en))) := by
  have v1 := length_words_val_le hn
  have v2 := length_words_val_le hd
  have v3 := length_words_val_le hm
  have v4 := length_words_val_le he
  have hM1 := ret_Make11z false en he (by omega)
  have hM2 := ret_Make11z false dn hd (by omega)
  rw [sg_false] at hM1 hM2
  have hX1 := ret_Mul11 a false ns (words (val en)) hn (Wd_words _) (by omega) (by omega)
  have hX2 := ret_Mul11 b false ms (words (val dn)) hm (Wd_words _) (by omega) (by omega)
  rw [val_words, sg_false] at hX1 hX2
  have ab : ∀ (c : Bool) (x y : Nat), (sg c x * (y : Int)).natAbs = x * y := fun c x y => by
    rw [Int.natAbs_mul, Int.natAbs_natCast]
    congr 1
    unfold sg; split <;> omega
  have m1 := length_mul (val ns) (val en)
  have m2 := length_mul (val ms) (val dn)
  have hC := ret_Cmp11 (decide (sg a (val ns) * (val en : Int) < 0)) (decide (sg b (val ms) * (val dn : Int) < 0)) (words (sg a (val ns) * (val en : Int)).natAbs) (words (sg b (val ms) * (val dn : Int)).natAbs) (Wd_words _) (Wd_words _) (by rw [ab]; omega) (by rw [ab]; omega)
  rw [val_words, val_words, sg_zv, sg_zv] at hC
  unfold cpQ
  have z1 : zv (val en : Int) = .agg [.bool false, nat (val en)] := by unfold zv; rw [decF (show ¬ (val en : Int) < 0 by omega), Int.natAbs_natCast]
  have z2 : zv (val dn : Int) = .agg [.bool false, nat (val dn)] := by unfold zv; rw [decF (show ¬ (val dn : Int) < 0 by omega), Int.natAbs_natCast]
  rw [z1] at hM1
  rw [z2] at hM2
  generalize sg a (val ns) * (val en : Int) = P at *
  generalize sg b (val ms) * (val dn : Int) = R at *
  unfold zv at *
  refine RetN_start Tryz.func24 (by kernel_rfl) rfl fun Q hQ hQ2 => ?_; rw [Tryz.ntmps24]; simp only [u, i64, Nat.reduceSub, Nat.reduceAdd, bm]
  repeat (first | (refine gC ?_; first | refine aA ?_ | ((first | refine cR hM1 ?_ | refine cR hX1 ?_ | refine cR hM2 ?_ | refine cR hX2 ?_ | refine cR hC ?_); refine sX ?_; try refine aA ?_)) | ((first | refine cR hM1 ?_ | refine cR hX1 ?_ | refine cR hM2 ?_ | refine cR hX2 ?_ | refine cR hC ?_); refine sX ?_; try refine aA ?_) | refine gS ?_)
  (refine FinQ hQ (congrArg Array.toList Tryz.results24) _ _ ?_); simp (disch := omega) only [u, i64, ax, if_true, forall_const, reduceCtorEq, implies_true, tvs, bf]
end Go.Proofs
