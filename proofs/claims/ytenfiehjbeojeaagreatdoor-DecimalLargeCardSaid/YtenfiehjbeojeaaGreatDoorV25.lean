/-
  Contracts of functions of the program, each proved by a walk.
-/
import Derived.Test.YtenfiehjbeojeaaGreatDoorV21
import Derived.Test.YtenfiehjbeojeaaGreatDoorV10
import Derived.Test.YtenfiehjbeojeaaGreatDoorV9
import Derived.Test.YtenfiehjbeojeaaGreatDoorV7
set_option maxRecDepth 100000
set_option linter.unusedVariables false
set_option linter.unusedSimpArgs false
namespace Go.Proofs
open Go.Ax
def cx (p g r : Int) : AV := .agg [i64 p, i64 g, i64 r]
def dv (x : DV) : AV := .agg [i64 x.kind, .bool x.neg, nat x.coef, i64 x.exp]
def okC (p g r : Int) : Prop := (1 ≤ p ∧ p ≤ 400) ∧ (1 ≤ g ∧ g ≤ 6000) ∧ 0 ≤ r ∧ r ≤ 4
instance (p g r : Int) : Decidable (okC p g r) := by unfold okC; infer_instance
/-- A right decimal number, whatever its words. -/
def goodD (k : Int) (neg : Bool) (v : Nat) (e : Int) : Prop := (k = 0 ∧ -1000000 ≤ e ∧ e ≤ 1000000) ∨ (k = 1 ∧ e = 0 ∧ v = 0) ∨ (k = 2 ∧ neg = false ∧ e = 0 ∧ v = 0)
instance (k : Int) (neg : Bool) (v : Nat) (e : Int) : Decidable (goodD k neg v e) := by unfold goodD; infer_instance
def mkD (k : Int) (neg : Bool) (v : Nat) (e : Int) : DV := ⟨k.toNat, neg, v, e⟩
theorem goodD_right {k : Int} {neg : Bool} {v : Nat} {e : Int} (h : goodD k neg v e) : rightD (mkD k neg v e) ∧ 0 ≤ k ∧ k ≤ 2 := by
  unfold goodD at h
  unfold rightD mkD
  simp only
  rcases h with h | h | h
  · exact ⟨.inl ⟨by omega, h.2⟩, by omega, by omega⟩
  · exact ⟨.inr (.inl ⟨by omega, h.2⟩), by omega, by omega⟩
  · exact ⟨.inr (.inr ⟨by omega, h.2⟩), by omega, by omega⟩
theorem dv_mk {k : Int} {neg : Bool} {v : Nat} {e : Int} (h : 0 ≤ k) : dv (mkD k neg v e) = .agg [i64 k, .bool neg, nat v, i64 e] := by
  unfold dv mkD
  simp only
  rw [show ((k.toNat : Nat) : Int) = k by omega]
set_option maxRecDepth 100000 in
theorem ret_DCheck (p g r : Int) (h1 : -9223372036854775808 ≤ r) (h2 : r < 9223372036854775808) : Ret Tryz.prog GEs 52 [cx p g r] (i64 (if okC p g r then 0 else 220)) := by
  have hR := ret_Right r h1 h2
  unfold cx
  by_cases hp1 : p < 1
  · rw [if_neg (fun h => by have := h.1.1; omega)]
    refine RetN_start Tryz.func52 (by kernel_rfl) rfl fun Q hQ hQ2 => ?_; rw [Tryz.ntmps52]; simp only [u, i64, Nat.reduceSub, Nat.reduceAdd, bm]
    (refine gO ?_)
    (refine FinQ hQ (congrArg Array.toList Tryz.results52) _ _ ?_); simp (disch := omega) only [u, i64, ax, if_true, forall_const, reduceCtorEq, implies_true, tvs, bf]
  · by_cases hp2 : 400 < p
    · rw [if_neg (fun h => by have := h.1.2; omega)]
      refine RetN_start Tryz.func52 (by kernel_rfl) rfl fun Q hQ hQ2 => ?_; rw [Tryz.ntmps52]; simp only [u, i64, Nat.reduceSub, Nat.reduceAdd, bm]
      (refine gO ?_)
      (refine FinQ hQ (congrArg Array.toList Tryz.results52) _ _ ?_); simp (disch := omega) only [u, i64, ax, if_true, forall_const, reduceCtorEq, implies_true, tvs, bf]
    · by_cases hg1 : g < 1
      · rw [if_neg (fun h => by have := h.2.1.1; omega)]
        refine RetN_start Tryz.func52 (by kernel_rfl) rfl fun Q hQ hQ2 => ?_; rw [Tryz.ntmps52]; simp only [u, i64, Nat.reduceSub, Nat.reduceAdd, bm]
        (refine gO ?_)
        (refine FinQ hQ (congrArg Array.toList Tryz.results52) _ _ ?_); simp (disch := omega) only [u, i64, ax, if_true, forall_const, reduceCtorEq, implies_true, tvs, bf]
      · by_cases hg2 : 6000 < g
        · rw [if_neg (fun h => by have := h.2.1.2; omega)]
          refine RetN_start Tryz.func52 (by kernel_rfl) rfl fun Q hQ hQ2 => ?_; rw [Tryz.ntmps52]; simp only [u, i64, Nat.reduceSub, Nat.reduceAdd, bm]
          (refine gO ?_)
          (refine FinQ hQ (congrArg Array.toList Tryz.results52) _ _ ?_); simp (disch := omega) only [u, i64, ax, if_true, forall_const, reduceCtorEq, implies_true, tvs, bf]
        · by_cases hr : 0 ≤ r ∧ r ≤ 4
          · rw [decT hr] at hR
            rw [if_pos ⟨⟨by omega, by omega⟩, ⟨by omega, by omega⟩, hr⟩]
            refine RetN_start Tryz.func52 (by kernel_rfl) rfl fun Q hQ hQ2 => ?_; rw [Tryz.ntmps52]; simp only [u, i64, Nat.reduceSub, Nat.reduceAdd, bm]
            repeat (first | (refine gC ?_; first | refine aA ?_ | (refine cR hR ?_; refine sX ?_; try refine aA ?_)) | (refine cR hR ?_; refine sX ?_; try refine aA ?_) | refine gS ?_)
            (refine FinQ hQ (congrArg Array.toList Tryz.results52) _ _ ?_); simp (disch := omega) only [u, i64, ax, if_true, forall_const, reduceCtorEq, implies_true, tvs, bf]
          · rw [decF hr] at hR
            rw [if_neg (fun h => hr h.2.2)]
            refine RetN_start Tryz.func52 (by kernel_rfl) rfl fun Q hQ hQ2 => ?_; rw [Tryz.ntmps52]; simp only [u, i64, Nat.reduceSub, Nat.reduceAdd, bm]
            repeat (first | (refine gC ?_; first | refine aA ?_ | (refine cR hR ?_; refine sX ?_; try refine aA ?_)) | (refine cR hR ?_; refine sX ?_; try refine aA ?_) | refine gS ?_)
            (refine FinQ hQ (congrArg Array.toList Tryz.results52) _ _ ?_); simp (disch := omega) only [u, i64, ax, if_true, forall_const, reduceCtorEq, implies_true, tvs, bf]
theorem ret_tiny (p : Nat) (g r : Int) (hp : 1 ≤ p ∧ p ≤ 400) (hg : 1 ≤ g ∧ g ≤ 6000) : Ret Tryz.prog GEs 64 [cx p g r] (i64 (1 - g - (p - 1))) := by
  unfold cx
  rw [show ((p : Int) - 1) = ((p - 1 : Nat) : Int) by omega]
  refine RetN_start Tryz.func64 (by kernel_rfl) rfl fun Q hQ hQ2 => ?_; rw [Tryz.ntmps64]; simp only [u, i64, Nat.reduceSub, Nat.reduceAdd, bm]
  (refine gO ?_)
  (refine FinQ hQ (congrArg Array.toList Tryz.results64) _ _ ?_); simp (disch := omega) only [u, i64, ax, if_true, forall_const, reduceCtorEq, implies_true, tvs, bf]
set_option maxRecDepth 100000 in
theorem ret_dzero (x : DV) (hk : x.kind ≤ 2) (hl : (words x.coef).length ≤ 100000) : Ret Tryz.prog GEs 50 [dv x] (.bool (decide (x.kind = 0 ∧ x.coef = 0))) := by
  have hw : (words x.coef).length = 0 ↔ x.coef = 0 := by rw [List.length_eq_zero_iff]; exact words_eq_nil
  unfold dv
  by_cases h0 : x.kind = 0
  · by_cases h1 : x.coef = 0
    · have h2 := hw.2 h1
      rw [decT (show x.kind = 0 ∧ x.coef = 0 from ⟨h0, h1⟩)]
      refine RetN_start Tryz.func50 (by kernel_rfl) rfl fun Q hQ hQ2 => ?_; rw [Tryz.ntmps50]; simp only [u, i64, Nat.reduceSub, Nat.reduceAdd, bm]
      (refine gO ?_)
      (refine FinQ hQ (congrArg Array.toList Tryz.results50) _ _ ?_); simp (disch := omega) only [u, i64, ax, if_true, forall_const, reduceCtorEq, implies_true, tvs, bf]
    · have h2 : ¬ (words x.coef).length = 0 := fun h => h1 (hw.1 h)
      rw [decF (show ¬ (x.kind = 0 ∧ x.coef = 0) from fun h => h1 h.2)]
      refine RetN_start Tryz.func50 (by kernel_rfl) rfl fun Q hQ hQ2 => ?_; rw [Tryz.ntmps50]; simp only [u, i64, Nat.reduceSub, Nat.reduceAdd, bm]
      (refine gO ?_)
      (refine FinQ hQ (congrArg Array.toList Tryz.results50) _ _ ?_); simp (disch := omega) only [u, i64, ax, if_true, forall_const, reduceCtorEq, implies_true, tvs, bf]
  · rw [decF (show ¬ (x.kind = 0 ∧ x.coef = 0) from fun h => h0 h.1)]
    refine RetN_start Tryz.func50 (by kernel_rfl) rfl fun Q hQ hQ2 => ?_; rw [Tryz.ntmps50]; simp only [u, i64, Nat.reduceSub, Nat.reduceAdd, bm]
    (refine gO ?_)
    (refine FinQ hQ (congrArg Array.toList Tryz.results50) _ _ ?_); simp (disch := omega) only [u, i64, ax, if_true, forall_const, reduceCtorEq, implies_true, tvs, bf]
set_option maxRecDepth 100000 in
set_option maxHeartbeats 1000000 in
theorem ret_dcanonical (k : Int) (neg : Bool) (cs : List Nat) (e : Int) (hk1 : -9223372036854775808 ≤ k) (hk2 : k < 9223372036854775808) (he1 : -9223372036854775808 ≤ e) (he2 : e < 9223372036854775808) (hc : Wd cs) (hl : cs.length ≤ 100000) :
    ∃ (k' : Int) (n' : Bool) (v' : Nat) (e' : Int), Ret Tryz.prog GEs 55 [.agg [i64 k, .bool neg, ws cs, i64 e]] (.tup [.agg [i64 k', .bool n', nat v', i64 e'], .bool (decide (goodD k neg (val cs) e))]) ∧ (goodD k neg (val cs) e → k' = k ∧ n' = neg ∧ v' = val cs ∧ e' = e) := by
  have hT := ret_Trim cs hc (by omega)
  have hw : (words (val cs)).length = 0 ↔ val cs = 0 := by rw [List.length_eq_zero_iff]; exact words_eq_nil
  generalize val cs = v at *
  by_cases k0 : k = 0
  · subst k0
    refine ⟨0, neg, v, e, ?_, fun _ => ⟨rfl, rfl, rfl, rfl⟩⟩
    have hg : goodD 0 neg v e ↔ (-1000000 ≤ e ∧ e ≤ 1000000) := by unfold goodD; omega
    by_cases h1 : -1000000 ≤ e
    · by_cases h2 : e ≤ 1000000
      · rw [decT (hg.2 ⟨h1, h2⟩)]
        refine RetN_start Tryz.func55 (by kernel_rfl) rfl fun Q hQ hQ2 => ?_; rw [Tryz.ntmps55]; simp only [u, i64, Nat.reduceSub, Nat.reduceAdd, bm]
        (refine gO ?_)
        (refine gC ?_)
        (refine cR hT ?_; refine sX ?_; try refine aA ?_)
        (refine gT ?_)
        (refine gT ?_)
        (refine gT ?_)
        (refine gT ?_)
        (refine gT ?_)
        (first | refine G_stree (.step 0 (.step 1 (.step 2 (.step 3 (.step 4 (.alt 5 (.alt 6 (.step 7 (.step 8 (.step 9 (.step 10 .done)))) (.alt 9 (.step 6 (.step 7 (.step 8 (.step 10 .done)))) .stop)) (.alt 9 (.step 5 (.step 6 (.step 7 (.step 8 (.step 10 .done))))) .stop))))))) mixed (by kernel_rfl) ?_ | refine G_tree (.step 0 (.step 1 (.step 2 (.step 3 (.step 4 (.alt 5 (.alt 6 (.step 7 (.step 8 (.step 9 (.step 10 .done)))) (.alt 9 (.step 6 (.step 7 (.step 8 (.step 10 .done)))) .stop)) (.alt 9 (.step 5 (.step 6 (.step 7 (.step 8 (.step 10 .done))))) .stop))))))) mixed (by kernel_rfl) ?_); simp (disch := omega) only [u, i64, ax, eq_self, if_true, if_false, Nat.reduceAdd, Int.reduceToNat, Int.reduceAdd, tvs, bs, x_done, x_step, x_alt, x_stop, lk_0, lk_S, mpD_nil, mpD_cons]
        repeat' apply And.intro
        all_goals
          refine aft_any ?_
          (refine gO ?_)
          (refine FinQ hQ (congrArg Array.toList Tryz.results55) _ _ ?_); simp (disch := omega) only [u, i64, ax, if_true, forall_const, reduceCtorEq, implies_true, tvs, bf]
          all_goals rfl
      · rw [decF (show ¬ goodD 0 neg v e from fun h => h2 (hg.1 h).2)]
        refine RetN_start Tryz.func55 (by kernel_rfl) rfl fun Q hQ hQ2 => ?_; rw [Tryz.ntmps55]; simp only [u, i64, Nat.reduceSub, Nat.reduceAdd, bm]
        (refine gO ?_)
        (refine gC ?_)
        (refine cR hT ?_; refine sX ?_; try refine aA ?_)
        (refine gT ?_)
        (refine gT ?_)
        (refine gT ?_)
        (refine gT ?_)
        (refine gT ?_)
        (first | refine G_stree (.step 0 (.step 1 (.step 2 (.step 3 (.step 4 (.alt 5 (.alt 6 (.step 7 (.step 8 (.step 9 (.step 10 .done)))) (.alt 9 (.step 6 (.step 7 (.step 8 (.step 10 .done)))) .stop)) (.alt 9 (.step 5 (.step 6 (.step 7 (.step 8 (.step 10 .done))))) .stop))))))) mixed (by kernel_rfl) ?_ | refine G_tree (.step 0 (.step 1 (.step 2 (.step 3 (.step 4 (.alt 5 (.alt 6 (.step 7 (.step 8 (.step 9 (.step 10 .done)))) (.alt 9 (.step 6 (.step 7 (.step 8 (.step 10 .done)))) .stop)) (.alt 9 (.step 5 (.step 6 (.step 7 (.step 8 (.step 10 .done))))) .stop))))))) mixed (by kernel_rfl) ?_); simp (disch := omega) only [u, i64, ax, eq_self, if_true, if_false, Nat.reduceAdd, Int.reduceToNat, Int.reduceAdd, tvs, bs, x_done, x_step, x_alt, x_stop, lk_0, lk_S, mpD_nil, mpD_cons]
        repeat' apply And.intro
        all_goals
          refine aft_any ?_
          (refine gO ?_)
          (refine FinQ hQ (congrArg Array.toList Tryz.results55) _ _ ?_); simp (disch := omega) only [u, i64, ax, if_true, forall_const, reduceCtorEq, implies_true, tvs, bf]
          all_goals rfl
    · rw [decF (show ¬ goodD 0 neg v e from fun h => h1 (hg.1 h).1)]
      refine RetN_start Tryz.func55 (by kernel_rfl) rfl fun Q hQ hQ2 => ?_; rw [Tryz.ntmps55]; simp only [u, i64, Nat.reduceSub, Nat.reduceAdd, bm]
      (refine gO ?_)
      (refine gC ?_)
      (refine cR hT ?_; refine sX ?_; try refine aA ?_)
      (refine gT ?_)
      (refine gT ?_)
      (refine gT ?_)
      (refine gT ?_)
      (refine gT ?_)
      (first | refine G_stree (.step 0 (.step 1 (.step 2 (.step 3 (.step 4 (.alt 5 (.alt 6 (.step 7 (.step 8 (.step 9 (.step 10 .done)))) (.alt 9 (.step 6 (.step 7 (.step 8 (.step 10 .done)))) .stop)) (.alt 9 (.step 5 (.step 6 (.step 7 (.step 8 (.step 10 .done))))) .stop))))))) mixed (by kernel_rfl) ?_ | refine G_tree (.step 0 (.step 1 (.step 2 (.step 3 (.step 4 (.alt 5 (.alt 6 (.step 7 (.step 8 (.step 9 (.step 10 .done)))) (.alt 9 (.step 6 (.step 7 (.step 8 (.step 10 .done)))) .stop)) (.alt 9 (.step 5 (.step 6 (.step 7 (.step 8 (.step 10 .done))))) .stop))))))) mixed (by kernel_rfl) ?_); simp (disch := omega) only [u, i64, ax, eq_self, if_true, if_false, Nat.reduceAdd, Int.reduceToNat, Int.reduceAdd, tvs, bs, x_done, x_step, x_alt, x_stop, lk_0, lk_S, mpD_nil, mpD_cons]
      repeat' apply And.intro
      all_goals
        refine aft_any ?_
        (refine gO ?_)
        (refine FinQ hQ (congrArg Array.toList Tryz.results55) _ _ ?_); simp (disch := omega) only [u, i64, ax, if_true, forall_const, reduceCtorEq, implies_true, tvs, bf]
        all_goals rfl
  · by_cases k1 : k = 1
    · subst k1
      refine ⟨1, neg, v, e, ?_, fun _ => ⟨rfl, rfl, rfl, rfl⟩⟩
      have hg : goodD 1 neg v e ↔ (e = 0 ∧ v = 0) := by unfold goodD; omega
      by_cases h1 : e = 0
      · by_cases h2 : v = 0
        · have h3 := hw.2 h2
          rw [decT (hg.2 ⟨h1, h2⟩)]
          refine RetN_start Tryz.func55 (by kernel_rfl) rfl fun Q hQ hQ2 => ?_; rw [Tryz.ntmps55]; simp only [u, i64, Nat.reduceSub, Nat.reduceAdd, bm]
          (refine gO ?_)
          (refine gC ?_)
          (refine cR hT ?_; refine sX ?_; try refine aA ?_)
          (refine gT ?_)
          (refine gT ?_)
          (refine gT ?_)
          (refine gT ?_)
          (refine gT ?_)
          (refine gT ?_)
          (refine gT ?_)
          (first | refine G_stree (.step 0 (.step 1 (.step 2 (.step 3 (.step 4 (.alt 5 (.alt 6 (.step 7 (.step 8 (.step 9 (.step 10 (.step 11 .done))))) (.alt 10 (.step 6 (.step 7 (.step 8 (.step 9 (.step 11 .done))))) .stop)) (.alt 10 (.step 5 (.step 6 (.step 7 (.step 8 (.step 9 (.step 11 .done)))))) .stop))))))) mixed (by kernel_rfl) ?_ | refine G_tree (.step 0 (.step 1 (.step 2 (.step 3 (.step 4 (.alt 5 (.alt 6 (.step 7 (.step 8 (.step 9 (.step 10 (.step 11 .done))))) (.alt 10 (.step 6 (.step 7 (.step 8 (.step 9 (.step 11 .done))))) .stop)) (.alt 10 (.step 5 (.step 6 (.step 7 (.step 8 (.step 9 (.step 11 .done)))))) .stop))))))) mixed (by kernel_rfl) ?_); simp (disch := omega) only [u, i64, ax, eq_self, if_true, if_false, Nat.reduceAdd, Int.reduceToNat, Int.reduceAdd, tvs, bs, x_done, x_step, x_alt, x_stop, lk_0, lk_S, mpD_nil, mpD_cons]
          repeat' apply And.intro
          all_goals
            refine aft_any ?_
            (refine gO ?_)
            (refine FinQ hQ (congrArg Array.toList Tryz.results55) _ _ ?_); simp (disch := omega) only [u, i64, ax, if_true, forall_const, reduceCtorEq, implies_true, tvs, bf]
            all_goals rfl
        · have h3 : ¬ (words v).length = 0 := fun h => h2 (hw.1 h)
          rw [decF (show ¬ goodD 1 neg v e from fun h => h2 (hg.1 h).2)]
          refine RetN_start Tryz.func55 (by kernel_rfl) rfl fun Q hQ hQ2 => ?_; rw [Tryz.ntmps55]; simp only [u, i64, Nat.reduceSub, Nat.reduceAdd, bm]
          (refine gO ?_)
          (refine gC ?_)
          (refine cR hT ?_; refine sX ?_; try refine aA ?_)
          (refine gT ?_)
          (refine gT ?_)
          (refine gT ?_)
          (refine gT ?_)
          (refine gT ?_)
          (refine gT ?_)
          (refine gT ?_)
          (first | refine G_stree (.step 0 (.step 1 (.step 2 (.step 3 (.step 4 (.alt 5 (.alt 6 (.step 7 (.step 8 (.step 9 (.step 10 (.step 11 .done))))) (.alt 10 (.step 6 (.step 7 (.step 8 (.step 9 (.step 11 .done))))) .stop)) (.alt 10 (.step 5 (.step 6 (.step 7 (.step 8 (.step 9 (.step 11 .done)))))) .stop))))))) mixed (by kernel_rfl) ?_ | refine G_tree (.step 0 (.step 1 (.step 2 (.step 3 (.step 4 (.alt 5 (.alt 6 (.step 7 (.step 8 (.step 9 (.step 10 (.step 11 .done))))) (.alt 10 (.step 6 (.step 7 (.step 8 (.step 9 (.step 11 .done))))) .stop)) (.alt 10 (.step 5 (.step 6 (.step 7 (.step 8 (.step 9 (.step 11 .done)))))) .stop))))))) mixed (by kernel_rfl) ?_); simp (disch := omega) only [u, i64, ax, eq_self, if_true, if_false, Nat.reduceAdd, Int.reduceToNat, Int.reduceAdd, tvs, bs, x_done, x_step, x_alt, x_stop, lk_0, lk_S, mpD_nil, mpD_cons]
          repeat' apply And.intro
          all_goals
            refine aft_any ?_
            (refine gO ?_)
            (refine FinQ hQ (congrArg Array.toList Tryz.results55) _ _ ?_); simp (disch := omega) only [u, i64, ax, if_true, forall_const, reduceCtorEq, implies_true, tvs, bf]
            all_goals rfl
      · rw [decF (show ¬ goodD 1 neg v e from fun h => h1 (hg.1 h).1)]
        refine RetN_start Tryz.func55 (by kernel_rfl) rfl fun Q hQ hQ2 => ?_; rw [Tryz.ntmps55]; simp only [u, i64, Nat.reduceSub, Nat.reduceAdd, bm]
        (refine gO ?_)
        (refine gC ?_)
        (refine cR hT ?_; refine sX ?_; try refine aA ?_)
        (refine gT ?_)
        (refine gT ?_)
        (refine gT ?_)
        (refine gT ?_)
        (refine gT ?_)
        (refine gT ?_)
        (refine gT ?_)
        (first | refine G_stree (.step 0 (.step 1 (.step 2 (.step 3 (.step 4 (.alt 5 (.alt 6 (.step 7 (.step 8 (.step 9 (.step 10 (.step 11 .done))))) (.alt 10 (.step 6 (.step 7 (.step 8 (.step 9 (.step 11 .done))))) .stop)) (.alt 10 (.step 5 (.step 6 (.step 7 (.step 8 (.step 9 (.step 11 .done)))))) .stop))))))) mixed (by kernel_rfl) ?_ | refine G_tree (.step 0 (.step 1 (.step 2 (.step 3 (.step 4 (.alt 5 (.alt 6 (.step 7 (.step 8 (.step 9 (.step 10 (.step 11 .done))))) (.alt 10 (.step 6 (.step 7 (.step 8 (.step 9 (.step 11 .done))))) .stop)) (.alt 10 (.step 5 (.step 6 (.step 7 (.step 8 (.step 9 (.step 11 .done)))))) .stop))))))) mixed (by kernel_rfl) ?_); simp (disch := omega) only [u, i64, ax, eq_self, if_true, if_false, Nat.reduceAdd, Int.reduceToNat, Int.reduceAdd, tvs, bs, x_done, x_step, x_alt, x_stop, lk_0, lk_S, mpD_nil, mpD_cons]
        repeat' apply And.intro
        all_goals
          refine aft_any ?_
          (refine gO ?_)
          (refine FinQ hQ (congrArg Array.toList Tryz.results55) _ _ ?_); simp (disch := omega) only [u, i64, ax, if_true, forall_const, reduceCtorEq, implies_true, tvs, bf]
          all_goals rfl
    · by_cases k2 : k = 2
      · subst k2
        refine ⟨2, neg, v, e, ?_, fun _ => ⟨rfl, rfl, rfl, rfl⟩⟩
        have hg : goodD 2 neg v e ↔ (neg = false ∧ e = 0 ∧ v = 0) := by unfold goodD; simp
        cases neg with
        | true =>
          rw [decF (show ¬ goodD 2 true v e from fun h => by cases (hg.1 h).1)]
          refine RetN_start Tryz.func55 (by kernel_rfl) rfl fun Q hQ hQ2 => ?_; rw [Tryz.ntmps55]; simp only [u, i64, Nat.reduceSub, Nat.reduceAdd, bm]
          (refine gO ?_)
          (refine gC ?_)
          (refine cR hT ?_; refine sX ?_; try refine aA ?_)
          (refine gT ?_)
          (refine gT ?_)
          (refine gT ?_)
          (refine gT ?_)
          (refine gT ?_)
          (refine gT ?_)
          (refine gT ?_)
          (refine gT ?_)
          (refine gT ?_)
          (first | refine G_stree (.step 0 (.step 1 (.step 2 (.step 3 (.step 4 (.step 5 (.step 6 (.step 7 (.step 8 (.step 9 (.alt 10 (.alt 11 (.step 12 (.step 13 (.step 14 (.step 15 (.step 16 .done))))) (.alt 15 (.step 11 (.step 12 (.step 13 (.step 14 (.step 16 .done))))) .stop)) (.alt 15 (.step 10 (.step 11 (.step 12 (.step 13 (.step 14 (.step 16 .done)))))) .stop)))))))))))) mixed (by kernel_rfl) ?_ | refine G_tree (.step 0 (.step 1 (.step 2 (.step 3 (.step 4 (.step 5 (.step 6 (.step 7 (.step 8 (.step 9 (.alt 10 (.alt 11 (.step 12 (.step 13 (.step 14 (.step 15 (.step 16 .done))))) (.alt 15 (.step 11 (.step 12 (.step 13 (.step 14 (.step 16 .done))))) .stop)) (.alt 15 (.step 10 (.step 11 (.step 12 (.step 13 (.step 14 (.step 16 .done)))))) .stop)))))))))))) mixed (by kernel_rfl) ?_); simp (disch := omega) only [u, i64, ax, eq_self, if_true, if_false, Nat.reduceAdd, Int.reduceToNat, Int.reduceAdd, tvs, bs, x_done, x_step, x_alt, x_stop, lk_0, lk_S, mpD_nil, mpD_cons]
          repeat' apply And.intro
          all_goals
            refine aft_any ?_
            (refine gO ?_)
            (refine FinQ hQ (congrArg Array.toList Tryz.results55) _ _ ?_); simp (disch := omega) only [u, i64, ax, if_true, forall_const, reduceCtorEq, implies_true, tvs, bf]
            all_goals rfl
        | false =>
          by_cases h1 : e = 0
          · by_cases h2 : v = 0
            · have h3 := hw.2 h2
              rw [decT (hg.2 ⟨rfl, h1, h2⟩)]
              refine RetN_start Tryz.func55 (by kernel_rfl) rfl fun Q hQ hQ2 => ?_; rw [Tryz.ntmps55]; simp only [u, i64, Nat.reduceSub, Nat.reduceAdd, bm]
              (refine gO ?_)
              (refine gC ?_)
              (refine cR hT ?_; refine sX ?_; try refine aA ?_)
              (refine gT ?_)
              (refine gT ?_)
              (refine gT ?_)
              (refine gT ?_)
              (refine gT ?_)
              (refine gT ?_)
              (refine gT ?_)
              (refine gT ?_)
              (refine gT ?_)
              (first | refine G_stree (.step 0 (.step 1 (.step 2 (.step 3 (.step 4 (.step 5 (.step 6 (.step 7 (.step 8 (.step 9 (.alt 10 (.alt 11 (.step 12 (.step 13 (.step 14 (.step 15 (.step 16 .done))))) (.alt 15 (.step 11 (.step 12 (.step 13 (.step 14 (.step 16 .done))))) .stop)) (.alt 15 (.step 10 (.step 11 (.step 12 (.step 13 (.step 14 (.step 16 .done)))))) .stop)))))))))))) mixed (by kernel_rfl) ?_ | refine G_tree (.step 0 (.step 1 (.step 2 (.step 3 (.step 4 (.step 5 (.step 6 (.step 7 (.step 8 (.step 9 (.alt 10 (.alt 11 (.step 12 (.step 13 (.step 14 (.step 15 (.step 16 .done))))) (.alt 15 (.step 11 (.step 12 (.step 13 (.step 14 (.step 16 .done))))) .stop)) (.alt 15 (.step 10 (.step 11 (.step 12 (.step 13 (.step 14 (.step 16 .done)))))) .stop)))))))))))) mixed (by kernel_rfl) ?_); simp (disch := omega) only [u, i64, ax, eq_self, if_true, if_false, Nat.reduceAdd, Int.reduceToNat, Int.reduceAdd, tvs, bs, x_done, x_step, x_alt, x_stop, lk_0, lk_S, mpD_nil, mpD_cons]
              repeat' apply And.intro
              all_goals
                refine aft_any ?_
                (refine gO ?_)
                (refine FinQ hQ (congrArg Array.toList Tryz.results55) _ _ ?_); simp (disch := omega) only [u, i64, ax, if_true, forall_const, reduceCtorEq, implies_true, tvs, bf]
                all_goals rfl
            · have h3 : ¬ (words v).length = 0 := fun h => h2 (hw.1 h)
              rw [decF (show ¬ goodD 2 false v e from fun h => h2 (hg.1 h).2.2)]
              refine RetN_start Tryz.func55 (by kernel_rfl) rfl fun Q hQ hQ2 => ?_; rw [Tryz.ntmps55]; simp only [u, i64, Nat.reduceSub, Nat.reduceAdd, bm]
              (refine gO ?_)
              (refine gC ?_)
              (refine cR hT ?_; refine sX ?_; try refine aA ?_)
              (refine gT ?_)
              (refine gT ?_)
              (refine gT ?_)
              (refine gT ?_)
              (refine gT ?_)
              (refine gT ?_)
              (refine gT ?_)
              (refine gT ?_)
              (refine gT ?_)
              (first | refine G_stree (.step 0 (.step 1 (.step 2 (.step 3 (.step 4 (.step 5 (.step 6 (.step 7 (.step 8 (.step 9 (.alt 10 (.alt 11 (.step 12 (.step 13 (.step 14 (.step 15 (.step 16 .done))))) (.alt 15 (.step 11 (.step 12 (.step 13 (.step 14 (.step 16 .done))))) .stop)) (.alt 15 (.step 10 (.step 11 (.step 12 (.step 13 (.step 14 (.step 16 .done)))))) .stop)))))))))))) mixed (by kernel_rfl) ?_ | refine G_tree (.step 0 (.step 1 (.step 2 (.step 3 (.step 4 (.step 5 (.step 6 (.step 7 (.step 8 (.step 9 (.alt 10 (.alt 11 (.step 12 (.step 13 (.step 14 (.step 15 (.step 16 .done))))) (.alt 15 (.step 11 (.step 12 (.step 13 (.step 14 (.step 16 .done))))) .stop)) (.alt 15 (.step 10 (.step 11 (.step 12 (.step 13 (.step 14 (.step 16 .done)))))) .stop)))))))))))) mixed (by kernel_rfl) ?_); simp (disch := omega) only [u, i64, ax, eq_self, if_true, if_false, Nat.reduceAdd, Int.reduceToNat, Int.reduceAdd, tvs, bs, x_done, x_step, x_alt, x_stop, lk_0, lk_S, mpD_nil, mpD_cons]
              repeat' apply And.intro
              all_goals
                refine aft_any ?_
                (refine gO ?_)
                (refine FinQ hQ (congrArg Array.toList Tryz.results55) _ _ ?_); simp (disch := omega) only [u, i64, ax, if_true, forall_const, reduceCtorEq, implies_true, tvs, bf]
                all_goals rfl
          · rw [decF (show ¬ goodD 2 false v e from fun h => h1 (hg.1 h).2.1)]
            refine RetN_start Tryz.func55 (by kernel_rfl) rfl fun Q hQ hQ2 => ?_; rw [Tryz.ntmps55]; simp only [u, i64, Nat.reduceSub, Nat.reduceAdd, bm]
            (refine gO ?_)
            (refine gC ?_)
            (refine cR hT ?_; refine sX ?_; try refine aA ?_)
            (refine gT ?_)
            (refine gT ?_)
            (refine gT ?_)
            (refine gT ?_)
            (refine gT ?_)
            (refine gT ?_)
            (refine gT ?_)
            (refine gT ?_)
            (refine gT ?_)
            (first | refine G_stree (.step 0 (.step 1 (.step 2 (.step 3 (.step 4 (.step 5 (.step 6 (.step 7 (.step 8 (.step 9 (.alt 10 (.alt 11 (.step 12 (.step 13 (.step 14 (.step 15 (.step 16 .done))))) (.alt 15 (.step 11 (.step 12 (.step 13 (.step 14 (.step 16 .done))))) .stop)) (.alt 15 (.step 10 (.step 11 (.step 12 (.step 13 (.step 14 (.step 16 .done)))))) .stop)))))))))))) mixed (by kernel_rfl) ?_ | refine G_tree (.step 0 (.step 1 (.step 2 (.step 3 (.step 4 (.step 5 (.step 6 (.step 7 (.step 8 (.step 9 (.alt 10 (.alt 11 (.step 12 (.step 13 (.step 14 (.step 15 (.step 16 .done))))) (.alt 15 (.step 11 (.step 12 (.step 13 (.step 14 (.step 16 .done))))) .stop)) (.alt 15 (.step 10 (.step 11 (.step 12 (.step 13 (.step 14 (.step 16 .done)))))) .stop)))))))))))) mixed (by kernel_rfl) ?_); simp (disch := omega) only [u, i64, ax, eq_self, if_true, if_false, Nat.reduceAdd, Int.reduceToNat, Int.reduceAdd, tvs, bs, x_done, x_step, x_alt, x_stop, lk_0, lk_S, mpD_nil, mpD_cons]
            repeat' apply And.intro
            all_goals
              refine aft_any ?_
              (refine gO ?_)
              (refine FinQ hQ (congrArg Array.toList Tryz.results55) _ _ ?_); simp (disch := omega) only [u, i64, ax, if_true, forall_const, reduceCtorEq, implies_true, tvs, bf]
              all_goals rfl
      · have hg : ¬ goodD k neg v e := by unfold goodD; omega
        refine ⟨0, false, 0, 0, ?_, fun h => absurd h hg⟩
        rw [decF hg]
        refine RetN_start Tryz.func55 (by kernel_rfl) rfl fun Q hQ hQ2 => ?_; rw [Tryz.ntmps55]; simp only [u, i64, Nat.reduceSub, Nat.reduceAdd, bm]
        repeat (first | (refine gC ?_; first | refine aA ?_ | (refine cR hT ?_; refine sX ?_; try refine aA ?_)) | (refine cR hT ?_; refine sX ?_; try refine aA ?_) | refine gS ?_)
        (refine FinQ hQ (congrArg Array.toList Tryz.results55) _ _ ?_); simp (disch := omega) only [u, i64, ax, if_true, forall_const, reduceCtorEq, implies_true, tvs, bf]
        all_goals rfl
end Go.Proofs
