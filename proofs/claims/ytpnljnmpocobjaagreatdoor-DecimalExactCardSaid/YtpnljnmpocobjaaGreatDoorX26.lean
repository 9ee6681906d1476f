/-
  Contracts of functions of the program, each proved by a walk.
-/
import Derived.Test.YtpnljnmpocobjaaGreatDoorX17
import Derived.Test.YtpnljnmpocobjaaGreatDoorX22
import Derived.Test.YtpnljnmpocobjaaGreatDoorX18
import Derived.Test.YtpnljnmpocobjaaGreatDoorX14
set_option maxRecDepth 100000
set_option linter.unusedVariables false
set_option linter.unusedSimpArgs false
set_option maxRecDepth 100000
set_option maxHeartbeats 1000000
namespace Go.Proofs
open Go.Ax
set_option maxHeartbeats 16000000 in
theorem ret_Equal22 (k1 k2 e1 e2 : Int) (n1 n2 : Bool) (xs ys : List Nat) (hl : xs.length ≤ 1099511627776) (hl2 : ys.length ≤ 1099511627776) :
    Ret Tryz.prog GEs 205 [.agg [i64 k1, .bool n1, ws xs, i64 e1], .agg [i64 k2, .bool n2, ws ys, i64 e2]] (.bool (decide (k1 = k2 ∧ n1 = n2 ∧ e1 = e2 ∧ xs = ys))) := by
  by_cases hk : k1 = k2
  · by_cases hn : n1 = n2
    · by_cases he : e1 = e2
      · by_cases hlen : xs.length = ys.length
        · subst hn
          subst hk
          subst he
          have hbb : (n1 != n1) = false := by cases n1 <;> rfl
          rw [show decide (k1 = k1 ∧ n1 = n1 ∧ e1 = e1 ∧ xs = ys) = decide (xs = ys) by simp]
          refine RetN_start Tryz.func205 (by kernel_rfl) rfl fun Q hQ hQ2 => ?_; rw [Tryz.ntmps205]; simp only [u, i64, Nat.reduceSub, Nat.reduceAdd, bm]
          (refine gT ?_)
          (refine gT ?_)
          (refine gT ?_)
          (refine gC ?_)
          rw [hbb]
          simp (disch := omega) only [u, i64, ax, eq_self, if_true, if_false, Nat.reduceAdd, Int.reduceToNat, Int.reduceAdd, tvs, bs]
          refine aft_any ?_
          (refine gO ?_)
          refine AWp_loop (fun n : Nat => mk 52 [(0, .agg [i64 k1, .bool n1, ws xs, i64 e1]), (1, .agg [i64 k1, .bool n1, ws ys, i64 e1]), (2, .ptr 0 0 0), (3, .ptr 1 0 0), (4, .bool false), (5, i64 n)] [⟨0, true, [i64 k1, .bool n1, ws xs, i64 e1]⟩, ⟨0, true, [i64 k1, .bool n1, ws ys, i64 e1]⟩]) (fun n => n ≤ xs.length ∧ ∀ i, i < n → xs.getD i 0 = ys.getD i 0) (fun n => xs.length - n) 0 ?_ ⟨Nat.zero_le _, fun i hi => by omega⟩ fun n hn => ?_
          · simp only [u, i64, Nat.reduceSub, Nat.reduceAdd, bm]
          simp only [u, i64, Nat.reduceSub, Nat.reduceAdd, bm]
          by_cases h : n < xs.length
          · by_cases he : xs.getD n 0 = ys.getD n 0
            · (refine gO ?_)
              refine ⟨n + 1, ?_, ⟨h, fun i hi => ?_⟩, by omega⟩
              · simp only [u, i64, Nat.reduceSub, Nat.reduceAdd, bm]
              · rcases Nat.lt_or_ge i n with h1 | h1
                · exact hn.2 i h1
                · rw [show i = n by omega]; exact he
            · have hne : ¬ xs = ys := fun h => he (by rw [h])
              (refine gO ?_)
              (refine FinQ hQ (congrArg Array.toList Tryz.results205) _ _ ?_); simp (disch := omega) only [u, i64, ax, if_true, forall_const, reduceCtorEq, implies_true, tvs, bf, decF hne]
          · (refine gO ?_)
            (refine FinQ hQ (congrArg Array.toList Tryz.results205) _ _ ?_); simp (disch := omega) only [u, i64, ax, if_true, forall_const, reduceCtorEq, implies_true, tvs, bf, decT (show xs = ys from eq_of_getD hlen fun i hi => hn.2 i (by omega))]
        · have hne : ¬ (k1 = k2 ∧ n1 = n2 ∧ e1 = e2 ∧ xs = ys) := fun h => hlen (by rw [h.2.2.2])
          have hbb : (n1 != n2) = false := by subst hn; cases n1 <;> rfl
          refine RetN_start Tryz.func205 (by kernel_rfl) rfl fun Q hQ hQ2 => ?_; rw [Tryz.ntmps205]; simp only [u, i64, Nat.reduceSub, Nat.reduceAdd, bm]
          (refine gT ?_)
          (refine gT ?_)
          (refine gT ?_)
          (refine gC ?_)
          rw [hbb]
          simp (disch := omega) only [u, i64, ax, eq_self, if_true, if_false, Nat.reduceAdd, Int.reduceToNat, Int.reduceAdd, tvs, bs]
          refine aft_any ?_
          (refine gO ?_)
          (refine FinQ hQ (congrArg Array.toList Tryz.results205) _ _ ?_); simp (disch := omega) only [u, i64, ax, if_true, forall_const, reduceCtorEq, implies_true, tvs, bf, decF hne]
      · have hne : ¬ (k1 = k2 ∧ n1 = n2 ∧ e1 = e2 ∧ xs = ys) := fun h => he h.2.2.1
        have hbb : (n1 != n2) = false := by subst hn; cases n1 <;> rfl
        refine RetN_start Tryz.func205 (by kernel_rfl) rfl fun Q hQ hQ2 => ?_; rw [Tryz.ntmps205]; simp only [u, i64, Nat.reduceSub, Nat.reduceAdd, bm]
        (refine gT ?_)
        (refine gT ?_)
        (refine gT ?_)
        (refine gC ?_)
        rw [hbb]
        simp (disch := omega) only [u, i64, ax, eq_self, if_true, if_false, Nat.reduceAdd, Int.reduceToNat, Int.reduceAdd, tvs, bs]
        refine aft_any ?_
        (refine gO ?_)
        (refine FinQ hQ (congrArg Array.toList Tryz.results205) _ _ ?_); simp (disch := omega) only [u, i64, ax, if_true, forall_const, reduceCtorEq, implies_true, tvs, bf, decF hne]
    · have hne : ¬ (k1 = k2 ∧ n1 = n2 ∧ e1 = e2 ∧ xs = ys) := fun h => hn h.2.1
      have hbb : (n1 != n2) = true := by cases n1 <;> cases n2 <;> simp_all
      refine RetN_start Tryz.func205 (by kernel_rfl) rfl fun Q hQ hQ2 => ?_; rw [Tryz.ntmps205]; simp only [u, i64, Nat.reduceSub, Nat.reduceAdd, bm]
      (refine gT ?_)
      (refine gT ?_)
      (refine gT ?_)
      (refine gC ?_)
      rw [hbb]
      simp (disch := omega) only [u, i64, ax, eq_self, if_true, if_false, Nat.reduceAdd, Int.reduceToNat, Int.reduceAdd, tvs, bs]
      refine aft_any ?_
      (refine gO ?_)
      (refine FinQ hQ (congrArg Array.toList Tryz.results205) _ _ ?_); simp (disch := omega) only [u, i64, ax, if_true, forall_const, reduceCtorEq, implies_true, tvs, bf, decF hne]
  · have hne : ¬ (k1 = k2 ∧ n1 = n2 ∧ e1 = e2 ∧ xs = ys) := fun h => hk h.1
    refine RetN_start Tryz.func205 (by kernel_rfl) rfl fun Q hQ hQ2 => ?_; rw [Tryz.ntmps205]; simp only [u, i64, Nat.reduceSub, Nat.reduceAdd, bm]
    (refine gO ?_)
    (refine FinQ hQ (congrArg Array.toList Tryz.results205) _ _ ?_); simp (disch := omega) only [u, i64, ax, if_true, forall_const, reduceCtorEq, implies_true, tvs, bf, decF hne]
theorem ret_Is22 (x y : DV) (lx : (words x.coef).length ≤ 100000) (ly : (words y.coef).length ≤ 100000) : Ret Tryz.prog GEs 124 [dv x, dv y] (.bool (decide (x.kind = y.kind ∧ x.neg = y.neg ∧ x.exp = y.exp ∧ x.coef = y.coef))) := by
  have hC := ret_Canonical22 y.kind y.exp y.neg (words y.coef) (Wd_words _) ly
  rw [val_words] at hC
  have hE := ret_Equal22 x.kind y.kind x.exp y.exp x.neg y.neg (words x.coef) (words y.coef) (by omega) (by omega)
  have e : decide ((x.kind : Int) = y.kind ∧ x.neg = y.neg ∧ x.exp = y.exp ∧ words x.coef = words y.coef) = decide (x.kind = y.kind ∧ x.neg = y.neg ∧ x.exp = y.exp ∧ x.coef = y.coef) := by
    rw [decide_eq_decide]
    constructor
    · intro ⟨h1, h2, h3, h4⟩
      exact ⟨by omega, h2, h3, by have := congrArg val h4; rwa [val_words, val_words] at this⟩
    · intro ⟨h1, h2, h3, h4⟩
      exact ⟨by omega, h2, h3, by rw [h4]⟩
  rw [e] at hE
  unfold dv
  refine RetN_start Tryz.func124 (by kernel_rfl) rfl fun Q hQ hQ2 => ?_; rw [Tryz.ntmps124]; simp only [u, i64, Nat.reduceSub, Nat.reduceAdd, bm]
  repeat (first | (refine gC ?_; first | refine aA ?_ | ((first | refine cR hC ?_ | refine cR hE ?_); refine sX ?_; try refine aA ?_)) | ((first | refine cR hC ?_ | refine cR hE ?_); refine sX ?_; try refine aA ?_) | refine gS ?_)
  (refine FinQ hQ (congrArg Array.toList Tryz.results124) _ _ ?_); simp (disch := omega) only [u, i64, ax, if_true, forall_const, reduceCtorEq, implies_true, tvs, bf]
/-- A result that is the reference's. -/
theorem ret_FitsOk (x : DV) (fl : Nat) (lx : (words x.coef).length ≤ 100000) : Ret Tryz.prog GEs 46 [dv x, i64 fl, i64 0, dv x, i64 fl, i64 0] (.bool true) := by
  have hI := ret_Is22 x x lx lx
  rw [decT (show x.kind = x.kind ∧ x.neg = x.neg ∧ x.exp = x.exp ∧ x.coef = x.coef from ⟨rfl, rfl, rfl, rfl⟩)] at hI
  have hT := ret_TheirD x.kind x.exp x.neg (words x.coef)
  unfold dv at *
  refine RetN_start Tryz.func46 (by kernel_rfl) rfl fun Q hQ hQ2 => ?_; rw [Tryz.ntmps46]; simp only [u, i64, Nat.reduceSub, Nat.reduceAdd, bm]
  repeat (first | (refine gC ?_; first | refine aA ?_ | ((first | refine cR hT ?_ | refine cR hI ?_); refine sX ?_; try refine aA ?_)) | ((first | refine cR hT ?_ | refine cR hI ?_); refine sX ?_; try refine aA ?_) | refine gS ?_)
  (refine FinQ hQ (congrArg Array.toList Tryz.results46) _ _ ?_); simp (disch := omega) only [u, i64, ax, if_true, forall_const, reduceCtorEq, implies_true, tvs, bf]
theorem ret_FitsErr (w : Nat) (hw : w ≠ 0) (hw2 : w < 1000) : Ret Tryz.prog GEs 46 [dv zD, i64 0, i64 w, dv zD, i64 0, i64 w] (.bool true) := by
  have hN := ret_NoneD 0 0 false [] (by decide)
  rw [decT (show (0 : Int) = 0 ∧ false = false ∧ (0 : Int) = 0 ∧ ([] : List Nat).length = 0 from ⟨rfl, rfl, rfl, rfl⟩)] at hN
  rw [dvz]
  refine RetN_start Tryz.func46 (by kernel_rfl) rfl fun Q hQ hQ2 => ?_; rw [Tryz.ntmps46]; simp only [u, i64, Nat.reduceSub, Nat.reduceAdd, bm]
  repeat (first | (refine gC ?_; first | refine aA ?_ | (refine cR hN ?_; refine sX ?_; try refine aA ?_)) | (refine cR hN ?_; refine sX ?_; try refine aA ?_) | refine gS ?_)
  (refine FinQ hQ (congrArg Array.toList Tryz.results46) _ _ ?_); simp (disch := omega) only [u, i64, ax, if_true, forall_const, reduceCtorEq, implies_true, tvs, bf]
theorem one_of22 (p : Nat) (g r : Int) (hp : 1 ≤ p ∧ p ≤ 400) (hg : 1 ≤ g ∧ g ≤ 6000) (d : DI) (h : d.ok) :
    (¬ d.good ∧ Ret Tryz.prog GEs 55 [.agg [i64 d.k, .bool d.neg, ws d.cs, i64 d.e]] (.bool false)) ∨
    (d.good ∧ Ret Tryz.prog GEs 55 [.agg [i64 d.k, .bool d.neg, ws d.cs, i64 d.e]] (.bool true) ∧ Ret Tryz.prog GEs 129 [cx p g r, .agg [i64 d.k, .bool d.neg, ws d.cs, i64 d.e]] (.bool (decide (inD p g d.D)))) := by
  have hG := ret_Good22 d.k d.e d.neg d.cs h.k1 h.k2 h.e1 h.e2 h.wd (Nat.le_trans h.len (by decide))
  by_cases g1 : d.good
  · right
    have hgg : goodD d.k d.neg (val d.cs) d.e := g1
    rw [decT hgg] at hG
    obtain ⟨q1, q2, q3⟩ := goodD_right hgg
    exact ⟨g1, hG, ret_In22 p g r hp hg d.k d.e d.neg d.cs ⟨q2, q3⟩ (by unfold goodD at hgg; omega) h.wd (Nat.le_trans h.len (by decide))⟩
  · left
    rw [decF (show ¬ goodD d.k d.neg (val d.cs) d.e from g1)] at hG
    exact ⟨g1, hG⟩
theorem ret_Short1 (d : DI) (h1 : d.cs.length ≤ 9223372036854775807) : Ret Tryz.prog GEs 42 [.lst 1 [i64 d.k, .bool d.neg, ws d.cs, i64 d.e]] (.bool (decide (d.cs.length ≤ 40))) := by
  by_cases q1 : d.cs.length ≤ 40
  · skip
    rw [decT (show d.cs.length ≤ 40 from q1)]
    refine RetN_start Tryz.func42 (by kernel_rfl) rfl fun Q hQ hQ2 => ?_; rw [Tryz.ntmps42]; simp only [u, i64, Nat.reduceSub, Nat.reduceAdd, bm]
    (refine gO ?_)
    refine G_loop ?_
    refine G_round ?_
    (refine gO ?_)
    refine G_round ?_
    (refine gO ?_)
    (refine FinQ hQ (congrArg Array.toList Tryz.results42) _ _ ?_); simp (disch := omega) only [u, i64, ax, if_true, forall_const, reduceCtorEq, implies_true, tvs, bf]
  · skip
    rw [decF (show ¬ (d.cs.length ≤ 40) from fun h => q1 h)]
    refine RetN_start Tryz.func42 (by kernel_rfl) rfl fun Q hQ hQ2 => ?_; rw [Tryz.ntmps42]; simp only [u, i64, Nat.reduceSub, Nat.reduceAdd, bm]
    (refine gO ?_)
    refine G_loop ?_
    refine G_round ?_
    (refine gO ?_)
    (refine FinQ hQ (congrArg Array.toList Tryz.results42) _ _ ?_); simp (disch := omega) only [u, i64, ax, if_true, forall_const, reduceCtorEq, implies_true, tvs, bf]
theorem ret_Short2 (d c : DI) (h1 : d.cs.length ≤ 9223372036854775807) (h2 : c.cs.length ≤ 9223372036854775807) : Ret Tryz.prog GEs 42 [.lst 2 [i64 d.k, .bool d.neg, ws d.cs, i64 d.e, i64 c.k, .bool c.neg, ws c.cs, i64 c.e]] (.bool (decide (d.cs.length ≤ 40 ∧ c.cs.length ≤ 40))) := by
  by_cases q1 : d.cs.length ≤ 40
  · skip
    by_cases q2 : c.cs.length ≤ 40
    · skip
      rw [decT (show d.cs.length ≤ 40 ∧ c.cs.length ≤ 40 from ⟨q1, q2⟩)]
      refine RetN_start Tryz.func42 (by kernel_rfl) rfl fun Q hQ hQ2 => ?_; rw [Tryz.ntmps42]; simp only [u, i64, Nat.reduceSub, Nat.reduceAdd, bm]
      (refine gO ?_)
      refine G_loop ?_
      refine G_round ?_
      (refine gO ?_)
      refine G_round ?_
      (refine gO ?_)
      refine G_round ?_
      (refine gO ?_)
      (refine FinQ hQ (congrArg Array.toList Tryz.results42) _ _ ?_); simp (disch := omega) only [u, i64, ax, if_true, forall_const, reduceCtorEq, implies_true, tvs, bf]
    · skip
      rw [decF (show ¬ (d.cs.length ≤ 40 ∧ c.cs.length ≤ 40) from fun h => q2 h.2)]
      refine RetN_start Tryz.func42 (by kernel_rfl) rfl fun Q hQ hQ2 => ?_; rw [Tryz.ntmps42]; simp only [u, i64, Nat.reduceSub, Nat.reduceAdd, bm]
      (refine gO ?_)
      refine G_loop ?_
      refine G_round ?_
      (refine gO ?_)
      refine G_round ?_
      (refine gO ?_)
      (refine FinQ hQ (congrArg Array.toList Tryz.results42) _ _ ?_); simp (disch := omega) only [u, i64, ax, if_true, forall_const, reduceCtorEq, implies_true, tvs, bf]
  · skip
    rw [decF (show ¬ (d.cs.length ≤ 40 ∧ c.cs.length ≤ 40) from fun h => q1 h.1)]
    refine RetN_start Tryz.func42 (by kernel_rfl) rfl fun Q hQ hQ2 => ?_; rw [Tryz.ntmps42]; simp only [u, i64, Nat.reduceSub, Nat.reduceAdd, bm]
    (refine gO ?_)
    refine G_loop ?_
    refine G_round ?_
    (refine gO ?_)
    (refine FinQ hQ (congrArg Array.toList Tryz.results42) _ _ ?_); simp (disch := omega) only [u, i64, ax, if_true, forall_const, reduceCtorEq, implies_true, tvs, bf]
theorem ret_Short3 (d c b : DI) (h1 : d.cs.length ≤ 9223372036854775807) (h2 : c.cs.length ≤ 9223372036854775807) (h3 : b.cs.length ≤ 9223372036854775807) : Ret Tryz.prog GEs 42 [.lst 3 [i64 d.k, .bool d.neg, ws d.cs, i64 d.e, i64 c.k, .bool c.neg, ws c.cs, i64 c.e, i64 b.k, .bool b.neg, ws b.cs, i64 b.e]] (.bool (decide (d.cs.length ≤ 40 ∧ c.cs.length ≤ 40 ∧ b.cs.length ≤ 40))) := by
  by_cases q1 : d.cs.length ≤ 40
  · skip
    by_cases q2 : c.cs.length ≤ 40
    · skip
      by_cases q3 : b.cs.length ≤ 40
      · skip
        rw [decT (show d.cs.length ≤ 40 ∧ c.cs.length ≤ 40 ∧ b.cs.length ≤ 40 from ⟨q1, q2, q3⟩)]
        refine RetN_start Tryz.func42 (by kernel_rfl) rfl fun Q hQ hQ2 => ?_; rw [Tryz.ntmps42]; simp only [u, i64, Nat.reduceSub, Nat.reduceAdd, bm]
        (refine gO ?_)
        refine G_loop ?_
        refine G_round ?_
        (refine gO ?_)
        refine G_round ?_
        (refine gO ?_)
        refine G_round ?_
        (refine gO ?_)
        refine G_round ?_
        (refine gO ?_)
        (refine FinQ hQ (congrArg Array.toList Tryz.results42) _ _ ?_); simp (disch := omega) only [u, i64, ax, if_true, forall_const, reduceCtorEq, implies_true, tvs, bf]
      · skip
        rw [decF (show ¬ (d.cs.length ≤ 40 ∧ c.cs.length ≤ 40 ∧ b.cs.length ≤ 40) from fun h => q3 h.2.2)]
        refine RetN_start Tryz.func42 (by kernel_rfl) rfl fun Q hQ hQ2 => ?_; rw [Tryz.ntmps42]; simp only [u, i64, Nat.reduceSub, Nat.reduceAdd, bm]
        (refine gO ?_)
        refine G_loop ?_
        refine G_round ?_
        (refine gO ?_)
        refine G_round ?_
        (refine gO ?_)
        refine G_round ?_
        (refine gO ?_)
        (refine FinQ hQ (congrArg Array.toList Tryz.results42) _ _ ?_); simp (disch := omega) only [u, i64, ax, if_true, forall_const, reduceCtorEq, implies_true, tvs, bf]
    · skip
      rw [decF (show ¬ (d.cs.length ≤ 40 ∧ c.cs.length ≤ 40 ∧ b.cs.length ≤ 40) from fun h => q2 h.2.1)]
      refine RetN_start Tryz.func42 (by kernel_rfl) rfl fun Q hQ hQ2 => ?_; rw [Tryz.ntmps42]; simp only [u, i64, Nat.reduceSub, Nat.reduceAdd, bm]
      (refine gO ?_)
      refine G_loop ?_
      refine G_round ?_
      (refine gO ?_)
      refine G_round ?_
      (refine gO ?_)
      (refine FinQ hQ (congrArg Array.toList Tryz.results42) _ _ ?_); simp (disch := omega) only [u, i64, ax, if_true, forall_const, reduceCtorEq, implies_true, tvs, bf]
  · skip
    rw [decF (show ¬ (d.cs.length ≤ 40 ∧ c.cs.length ≤ 40 ∧ b.cs.length ≤ 40) from fun h => q1 h.1)]
    refine RetN_start Tryz.func42 (by kernel_rfl) rfl fun Q hQ hQ2 => ?_; rw [Tryz.ntmps42]; simp only [u, i64, Nat.reduceSub, Nat.reduceAdd, bm]
    (refine gO ?_)
    refine G_loop ?_
    refine G_round ?_
    (refine gO ?_)
    (refine FinQ hQ (congrArg Array.toList Tryz.results42) _ _ ?_); simp (disch := omega) only [u, i64, ax, if_true, forall_const, reduceCtorEq, implies_true, tvs, bf]
set_option maxHeartbeats 8000000 in
theorem ret_Check22_0 (p : Nat) (g : Int) (r : Nat) (hp : 1 ≤ p ∧ p ≤ 400) (hg : 1 ≤ g ∧ g ≤ 6000) (hr : r ≤ 4)  :
    Ret Tryz.prog GEs 122 [cx p g r, .emp] (i64 (0)) := by
  have hR := ret_Right22 p g r (by omega) (by omega)
  rw [decT (show okC p g r from ⟨by omega, hg, by omega⟩)] at hR
  unfold cx at *
  refine RetN_start Tryz.func122 (by kernel_rfl) rfl fun Q hQ hQ2 => ?_; rw [Tryz.ntmps122]; simp only [u, i64, Nat.reduceSub, Nat.reduceAdd, bm]
  (refine gO ?_)
  refine G_loop ?_
  refine G_round ?_
  repeat (first | (refine gC ?_; first | refine aA ?_ | (refine cR hR ?_; refine sX ?_; try refine aA ?_)) | (refine cR hR ?_; refine sX ?_; try refine aA ?_) | refine gS ?_)
  refine G_loop ?_
  refine G_round ?_
  (refine gO ?_)
  (refine FinQ hQ (congrArg Array.toList Tryz.results122) _ _ ?_); simp (disch := omega) only [u, i64, ax, if_true, forall_const, reduceCtorEq, implies_true, tvs, bf]
set_option maxHeartbeats 8000000 in
theorem ret_Check22_1 (p : Nat) (g : Int) (r : Nat) (hp : 1 ≤ p ∧ p ≤ 400) (hg : 1 ≤ g ∧ g ≤ 6000) (hr : r ≤ 4) (d : DI) (h1 : d.ok) :
    Ret Tryz.prog GEs 122 [cx p g r, .lst 1 [i64 d.k, .bool d.neg, ws d.cs, i64 d.e]] (i64 (if d.okIn p g then 0 else 221)) := by
  have hR := ret_Right22 p g r (by omega) (by omega)
  rw [decT (show okC p g r from ⟨by omega, hg, by omega⟩)] at hR
  have l1 := ret_rLarge d.cs (by have := h1.len; omega)
  rw [decF (show ¬ 4096 < d.cs.length by have := h1.len; omega)] at l1
  have o1 := one_of22 p g r hp hg d h1
  obtain ⟨k1, n1, c1, e1⟩ := d
  simp only at *
  unfold cx at *
  rcases o1 with ⟨g1, a1⟩ | ⟨g1, a1, b1⟩
  · skip
    rw [if_neg (show ¬ (DI.okIn p g ⟨k1, n1, c1, e1⟩) from fun h => g1 h.1)]
    refine RetN_start Tryz.func122 (by kernel_rfl) rfl fun Q hQ hQ2 => ?_; rw [Tryz.ntmps122]; simp only [u, i64, Nat.reduceSub, Nat.reduceAdd, bm]
    (refine gO ?_)
    refine G_loop ?_
    refine G_round ?_
    repeat (first | (refine gC ?_; first | refine aA ?_ | (refine cR l1 ?_; refine sX ?_; try refine aA ?_)) | (refine cR l1 ?_; refine sX ?_; try refine aA ?_) | refine gS ?_)
    refine G_round ?_
    repeat (first | (refine gC ?_; first | refine aA ?_ | (refine cR hR ?_; refine sX ?_; try refine aA ?_)) | (refine cR hR ?_; refine sX ?_; try refine aA ?_) | refine gS ?_)
    refine G_loop ?_
    refine G_round ?_
    repeat (first | (refine gC ?_; first | refine aA ?_ | (refine cR a1 ?_; refine sX ?_; try refine aA ?_)) | (refine cR a1 ?_; refine sX ?_; try refine aA ?_) | refine gS ?_)
    (refine FinQ hQ (congrArg Array.toList Tryz.results122) _ _ ?_); simp (disch := omega) only [u, i64, ax, if_true, forall_const, reduceCtorEq, implies_true, tvs, bf]
  · by_cases q1 : inD p g (DI.D ⟨k1, n1, c1, e1⟩)
    · rw [decT q1] at b1
      rw [if_pos (show DI.okIn p g ⟨k1, n1, c1, e1⟩ from ⟨g1, q1⟩)]
      refine RetN_start Tryz.func122 (by kernel_rfl) rfl fun Q hQ hQ2 => ?_; rw [Tryz.ntmps122]; simp only [u, i64, Nat.reduceSub, Nat.reduceAdd, bm]
      (refine gO ?_)
      refine G_loop ?_
      refine G_round ?_
      repeat (first | (refine gC ?_; first | refine aA ?_ | (refine cR l1 ?_; refine sX ?_; try refine aA ?_)) | (refine cR l1 ?_; refine sX ?_; try refine aA ?_) | refine gS ?_)
      refine G_round ?_
      repeat (first | (refine gC ?_; first | refine aA ?_ | (refine cR hR ?_; refine sX ?_; try refine aA ?_)) | (refine cR hR ?_; refine sX ?_; try refine aA ?_) | refine gS ?_)
      refine G_loop ?_
      refine G_round ?_
      repeat (first | (refine gC ?_; first | refine aA ?_ | ((first | refine cR a1 ?_ | refine cR b1 ?_); refine sX ?_; try refine aA ?_)) | ((first | refine cR a1 ?_ | refine cR b1 ?_); refine sX ?_; try refine aA ?_) | refine gS ?_)
      refine G_round ?_
      (refine gO ?_)
      (refine FinQ hQ (congrArg Array.toList Tryz.results122) _ _ ?_); simp (disch := omega) only [u, i64, ax, if_true, forall_const, reduceCtorEq, implies_true, tvs, bf]
    · rw [decF q1] at b1
      rw [if_neg (show ¬ (DI.okIn p g ⟨k1, n1, c1, e1⟩) from fun h => q1 h.2)]
      refine RetN_start Tryz.func122 (by kernel_rfl) rfl fun Q hQ hQ2 => ?_; rw [Tryz.ntmps122]; simp only [u, i64, Nat.reduceSub, Nat.reduceAdd, bm]
      (refine gO ?_)
      refine G_loop ?_
      refine G_round ?_
      repeat (first | (refine gC ?_; first | refine aA ?_ | (refine cR l1 ?_; refine sX ?_; try refine aA ?_)) | (refine cR l1 ?_; refine sX ?_; try refine aA ?_) | refine gS ?_)
      refine G_round ?_
      repeat (first | (refine gC ?_; first | refine aA ?_ | (refine cR hR ?_; refine sX ?_; try refine aA ?_)) | (refine cR hR ?_; refine sX ?_; try refine aA ?_) | refine gS ?_)
      refine G_loop ?_
      refine G_round ?_
      repeat (first | (refine gC ?_; first | refine aA ?_ | ((first | refine cR a1 ?_ | refine cR b1 ?_); refine sX ?_; try refine aA ?_)) | ((first | refine cR a1 ?_ | refine cR b1 ?_); refine sX ?_; try refine aA ?_) | refine gS ?_)
      (refine FinQ hQ (congrArg Array.toList Tryz.results122) _ _ ?_); simp (disch := omega) only [u, i64, ax, if_true, forall_const, reduceCtorEq, implies_true, tvs, bf]
set_option maxHeartbeats 8000000 in
theorem ret_Check22_2 (p : Nat) (g : Int) (r : Nat) (hp : 1 ≤ p ∧ p ≤ 400) (hg : 1 ≤ g ∧ g ≤ 6000) (hr : r ≤ 4) (d c : DI) (h1 : d.ok) (h2 : c.ok) :
    Ret Tryz.prog GEs 122 [cx p g r, .lst 2 [i64 d.k, .bool d.neg, ws d.cs, i64 d.e, i64 c.k, .bool c.neg, ws c.cs, i64 c.e]] (i64 (if d.okIn p g ∧ c.okIn p g then 0 else 221)) := by
  have hR := ret_Right22 p g r (by omega) (by omega)
  rw [decT (show okC p g r from ⟨by omega, hg, by omega⟩)] at hR
  have l1 := ret_rLarge d.cs (by have := h1.len; omega)
  rw [decF (show ¬ 4096 < d.cs.length by have := h1.len; omega)] at l1
  have o1 := one_of22 p g r hp hg d h1
  have l2 := ret_rLarge c.cs (by have := h2.len; omega)
  rw [decF (show ¬ 4096 < c.cs.length by have := h2.len; omega)] at l2
  have o2 := one_of22 p g r hp hg c h2
  obtain ⟨k1, n1, c1, e1⟩ := d
  obtain ⟨k2, n2, c2, e2⟩ := c
  simp only at *
  unfold cx at *
  rcases o1 with ⟨g1, a1⟩ | ⟨g1, a1, b1⟩
  · skip
    rw [if_neg (show ¬ (DI.okIn p g ⟨k1, n1, c1, e1⟩ ∧ DI.okIn p g ⟨k2, n2, c2, e2⟩) from fun h => g1 h.1.1)]
    refine RetN_start Tryz.func122 (by kernel_rfl) rfl fun Q hQ hQ2 => ?_; rw [Tryz.ntmps122]; simp only [u, i64, Nat.reduceSub, Nat.reduceAdd, bm]
    (refine gO ?_)
    refine G_loop ?_
    refine G_round ?_
    repeat (first | (refine gC ?_; first | refine aA ?_ | (refine cR l1 ?_; refine sX ?_; try refine aA ?_)) | (refine cR l1 ?_; refine sX ?_; try refine aA ?_) | refine gS ?_)
    refine G_round ?_
    repeat (first | (refine gC ?_; first | refine aA ?_ | (refine cR l2 ?_; refine sX ?_; try refine aA ?_)) | (refine cR l2 ?_; refine sX ?_; try refine aA ?_) | refine gS ?_)
    refine G_round ?_
    repeat (first | (refine gC ?_; first | refine aA ?_ | (refine cR hR ?_; refine sX ?_; try refine aA ?_)) | (refine cR hR ?_; refine sX ?_; try refine aA ?_) | refine gS ?_)
    refine G_loop ?_
    refine G_round ?_
    repeat (first | (refine gC ?_; first | refine aA ?_ | (refine cR a1 ?_; refine sX ?_; try refine aA ?_)) | (refine cR a1 ?_; refine sX ?_; try refine aA ?_) | refine gS ?_)
    (refine FinQ hQ (congrArg Array.toList Tryz.results122) _ _ ?_); simp (disch := omega) only [u, i64, ax, if_true, forall_const, reduceCtorEq, implies_true, tvs, bf]
  · by_cases q1 : inD p g (DI.D ⟨k1, n1, c1, e1⟩)
    · rw [decT q1] at b1
      rcases o2 with ⟨g2, a2⟩ | ⟨g2, a2, b2⟩
      · skip
        rw [if_neg (show ¬ (DI.okIn p g ⟨k1, n1, c1, e1⟩ ∧ DI.okIn p g ⟨k2, n2, c2, e2⟩) from fun h => g2 h.2.1)]
        refine RetN_start Tryz.func122 (by kernel_rfl) rfl fun Q hQ hQ2 => ?_; rw [Tryz.ntmps122]; simp only [u, i64, Nat.reduceSub, Nat.reduceAdd, bm]
        (refine gO ?_)
        refine G_loop ?_
        refine G_round ?_
        repeat (first | (refine gC ?_; first | refine aA ?_ | (refine cR l1 ?_; refine sX ?_; try refine aA ?_)) | (refine cR l1 ?_; refine sX ?_; try refine aA ?_) | refine gS ?_)
        refine G_round ?_
        repeat (first | (refine gC ?_; first | refine aA ?_ | (refine cR l2 ?_; refine sX ?_; try refine aA ?_)) | (refine cR l2 ?_; refine sX ?_; try refine aA ?_) | refine gS ?_)
        refine G_round ?_
        repeat (first | (refine gC ?_; first | refine aA ?_ | (refine cR hR ?_; refine sX ?_; try refine aA ?_)) | (refine cR hR ?_; refine sX ?_; try refine aA ?_) | refine gS ?_)
        refine G_loop ?_
        refine G_round ?_
        repeat (first | (refine gC ?_; first | refine aA ?_ | ((first | refine cR a1 ?_ | refine cR b1 ?_); refine sX ?_; try refine aA ?_)) | ((first | refine cR a1 ?_ | refine cR b1 ?_); refine sX ?_; try refine aA ?_) | refine gS ?_)
        refine G_round ?_
        repeat (first | (refine gC ?_; first | refine aA ?_ | (refine cR a2 ?_; refine sX ?_; try refine aA ?_)) | (refine cR a2 ?_; refine sX ?_; try refine aA ?_) | refine gS ?_)
        (refine FinQ hQ (congrArg Array.toList Tryz.results122) _ _ ?_); simp (disch := omega) only [u, i64, ax, if_true, forall_const, reduceCtorEq, implies_true, tvs, bf]
      · by_cases q2 : inD p g (DI.D ⟨k2, n2, c2, e2⟩)
        · rw [decT q2] at b2
          rw [if_pos (show DI.okIn p g ⟨k1, n1, c1, e1⟩ ∧ DI.okIn p g ⟨k2, n2, c2, e2⟩ from ⟨⟨g1, q1⟩, ⟨g2, q2⟩⟩)]
          refine RetN_start Tryz.func122 (by kernel_rfl) rfl fun Q hQ hQ2 => ?_; rw [Tryz.ntmps122]; simp only [u, i64, Nat.reduceSub, Nat.reduceAdd, bm]
          (refine gO ?_)
          refine G_loop ?_
          refine G_round ?_
          repeat (first | (refine gC ?_; first | refine aA ?_ | (refine cR l1 ?_; refine sX ?_; try refine aA ?_)) | (refine cR l1 ?_; refine sX ?_; try refine aA ?_) | refine gS ?_)
          refine G_round ?_
          repeat (first | (refine gC ?_; first | refine aA ?_ | (refine cR l2 ?_; refine sX ?_; try refine aA ?_)) | (refine cR l2 ?_; refine sX ?_; try refine aA ?_) | refine gS ?_)
          refine G_round ?_
          repeat (first | (refine gC ?_; first | refine aA ?_ | (refine cR hR ?_; refine sX ?_; try refine aA ?_)) | (refine cR hR ?_; refine sX ?_; try refine aA ?_) | refine gS ?_)
          refine G_loop ?_
          refine G_round ?_
          repeat (first | (refine gC ?_; first | refine aA ?_ | ((first | refine cR a1 ?_ | refine cR b1 ?_); refine sX ?_; try refine aA ?_)) | ((first | refine cR a1 ?_ | refine cR b1 ?_); refine sX ?_; try refine aA ?_) | refine gS ?_)
          refine G_round ?_
          repeat (first | (refine gC ?_; first | refine aA ?_ | ((first | refine cR a2 ?_ | refine cR b2 ?_); refine sX ?_; try refine aA ?_)) | ((first | refine cR a2 ?_ | refine cR b2 ?_); refine sX ?_; try refine aA ?_) | refine gS ?_)
          refine G_round ?_
          (refine gO ?_)
          (refine FinQ hQ (congrArg Array.toList Tryz.results122) _ _ ?_); simp (disch := omega) only [u, i64, ax, if_true, forall_const, reduceCtorEq, implies_true, tvs, bf]
        · rw [decF q2] at b2
          rw [if_neg (show ¬ (DI.okIn p g ⟨k1, n1, c1, e1⟩ ∧ DI.okIn p g ⟨k2, n2, c2, e2⟩) from fun h => q2 h.2.2)]
          refine RetN_start Tryz.func122 (by kernel_rfl) rfl fun Q hQ hQ2 => ?_; rw [Tryz.ntmps122]; simp only [u, i64, Nat.reduceSub, Nat.reduceAdd, bm]
          (refine gO ?_)
          refine G_loop ?_
          refine G_round ?_
          repeat (first | (refine gC ?_; first | refine aA ?_ | (refine cR l1 ?_; refine sX ?_; try refine aA ?_)) | (refine cR l1 ?_; refine sX ?_; try refine aA ?_) | refine gS ?_)
          refine G_round ?_
          repeat (first | (refine gC ?_; first | refine aA ?_ | (refine cR l2 ?_; refine sX ?_; try refine aA ?_)) | (refine cR l2 ?_; refine sX ?_; try refine aA ?_) | refine gS ?_)
          refine G_round ?_
          repeat (first | (refine gC ?_; first | refine aA ?_ | (refine cR hR ?_; refine sX ?_; try refine aA ?_)) | (refine cR hR ?_; refine sX ?_; try refine aA ?_) | refine gS ?_)
          refine G_loop ?_
          refine G_round ?_
          repeat (first | (refine gC ?_; first | refine aA ?_ | ((first | refine cR a1 ?_ | refine cR b1 ?_); refine sX ?_; try refine aA ?_)) | ((first | refine cR a1 ?_ | refine cR b1 ?_); refine sX ?_; try refine aA ?_) | refine gS ?_)
          refine G_round ?_
          repeat (first | (refine gC ?_; first | refine aA ?_ | ((first | refine cR a2 ?_ | refine cR b2 ?_); refine sX ?_; try refine aA ?_)) | ((first | refine cR a2 ?_ | refine cR b2 ?_); refine sX ?_; try refine aA ?_) | refine gS ?_)
          (refine FinQ hQ (congrArg Array.toList Tryz.results122) _ _ ?_); simp (disch := omega) only [u, i64, ax, if_true, forall_const, reduceCtorEq, implies_true, tvs, bf]
    · rw [decF q1] at b1
      rw [if_neg (show ¬ (DI.okIn p g ⟨k1, n1, c1, e1⟩ ∧ DI.okIn p g ⟨k2, n2, c2, e2⟩) from fun h => q1 h.1.2)]
      refine RetN_start Tryz.func122 (by kernel_rfl) rfl fun Q hQ hQ2 => ?_; rw [Tryz.ntmps122]; simp only [u, i64, Nat.reduceSub, Nat.reduceAdd, bm]
      (refine gO ?_)
      refine G_loop ?_
      refine G_round ?_
      repeat (first | (refine gC ?_; first | refine aA ?_ | (refine cR l1 ?_; refine sX ?_; try refine aA ?_)) | (refine cR l1 ?_; refine sX ?_; try refine aA ?_) | refine gS ?_)
      refine G_round ?_
      repeat (first | (refine gC ?_; first | refine aA ?_ | (refine cR l2 ?_; refine sX ?_; try refine aA ?_)) | (refine cR l2 ?_; refine sX ?_; try refine aA ?_) | refine gS ?_)
      refine G_round ?_
      repeat (first | (refine gC ?_; first | refine aA ?_ | (refine cR hR ?_; refine sX ?_; try refine aA ?_)) | (refine cR hR ?_; refine sX ?_; try refine aA ?_) | refine gS ?_)
      refine G_loop ?_
      refine G_round ?_
      repeat (first | (refine gC ?_; first | refine aA ?_ | ((first | refine cR a1 ?_ | refine cR b1 ?_); refine sX ?_; try refine aA ?_)) | ((first | refine cR a1 ?_ | refine cR b1 ?_); refine sX ?_; try refine aA ?_) | refine gS ?_)
      (refine FinQ hQ (congrArg Array.toList Tryz.results122) _ _ ?_); simp (disch := omega) only [u, i64, ax, if_true, forall_const, reduceCtorEq, implies_true, tvs, bf]
theorem ret_Check22b_0 (p g r : Int) (r1 : -9223372036854775808 ≤ r) (r2 : r < 9223372036854775808) (hb : ¬ okC p g r)  :
    Ret Tryz.prog GEs 122 [cx p g r, .emp] (i64 220) := by
  have hR := ret_Right22 p g r r1 r2
  rw [decF hb] at hR
  clear hb
  unfold cx at *
  refine RetN_start Tryz.func122 (by kernel_rfl) rfl fun Q hQ hQ2 => ?_; rw [Tryz.ntmps122]; simp only [u, i64, Nat.reduceSub, Nat.reduceAdd, bm]
  (refine gO ?_)
  refine G_loop ?_
  refine G_round ?_
  repeat (first | (refine gC ?_; first | refine aA ?_ | (refine cR hR ?_; refine sX ?_; try refine aA ?_)) | (refine cR hR ?_; refine sX ?_; try refine aA ?_) | refine gS ?_)
  (refine FinQ hQ (congrArg Array.toList Tryz.results122) _ _ ?_); simp (disch := omega) only [u, i64, ax, if_true, forall_const, reduceCtorEq, implies_true, tvs, bf]
theorem ret_Check22b_1 (p g r : Int) (r1 : -9223372036854775808 ≤ r) (r2 : r < 9223372036854775808) (hb : ¬ okC p g r) (d : DI) (h1 : d.ok) :
    Ret Tryz.prog GEs 122 [cx p g r, .lst 1 [i64 d.k, .bool d.neg, ws d.cs, i64 d.e]] (i64 220) := by
  have hR := ret_Right22 p g r r1 r2
  rw [decF hb] at hR
  have l1 := ret_rLarge d.cs (by have := h1.len; omega)
  rw [decF (show ¬ 4096 < d.cs.length by have := h1.len; omega)] at l1
  clear hb
  unfold cx at *
  refine RetN_start Tryz.func122 (by kernel_rfl) rfl fun Q hQ hQ2 => ?_; rw [Tryz.ntmps122]; simp only [u, i64, Nat.reduceSub, Nat.reduceAdd, bm]
  (refine gO ?_)
  refine G_loop ?_
  refine G_round ?_
  repeat (first | (refine gC ?_; first | refine aA ?_ | (refine cR l1 ?_; refine sX ?_; try refine aA ?_)) | (refine cR l1 ?_; refine sX ?_; try refine aA ?_) | refine gS ?_)
  refine G_round ?_
  repeat (first | (refine gC ?_; first | refine aA ?_ | (refine cR hR ?_; refine sX ?_; try refine aA ?_)) | (refine cR hR ?_; refine sX ?_; try refine aA ?_) | refine gS ?_)
  (refine FinQ hQ (congrArg Array.toList Tryz.results122) _ _ ?_); simp (disch := omega) only [u, i64, ax, if_true, forall_const, reduceCtorEq, implies_true, tvs, bf]
theorem ret_Check22b_2 (p g r : Int) (r1 : -9223372036854775808 ≤ r) (r2 : r < 9223372036854775808) (hb : ¬ okC p g r) (d c : DI) (h1 : d.ok) (h2 : c.ok) :
    Ret Tryz.prog GEs 122 [cx p g r, .lst 2 [i64 d.k, .bool d.neg, ws d.cs, i64 d.e, i64 c.k, .bool c.neg, ws c.cs, i64 c.e]] (i64 220) := by
  have hR := ret_Right22 p g r r1 r2
  rw [decF hb] at hR
  have l1 := ret_rLarge d.cs (by have := h1.len; omega)
  rw [decF (show ¬ 4096 < d.cs.length by have := h1.len; omega)] at l1
  have l2 := ret_rLarge c.cs (by have := h2.len; omega)
  rw [decF (show ¬ 4096 < c.cs.length by have := h2.len; omega)] at l2
  clear hb
  unfold cx at *
  refine RetN_start Tryz.func122 (by kernel_rfl) rfl fun Q hQ hQ2 => ?_; rw [Tryz.ntmps122]; simp only [u, i64, Nat.reduceSub, Nat.reduceAdd, bm]
  (refine gO ?_)
  refine G_loop ?_
  refine G_round ?_
  repeat (first | (refine gC ?_; first | refine aA ?_ | (refine cR l1 ?_; refine sX ?_; try refine aA ?_)) | (refine cR l1 ?_; refine sX ?_; try refine aA ?_) | refine gS ?_)
  refine G_round ?_
  repeat (first | (refine gC ?_; first | refine aA ?_ | (refine cR l2 ?_; refine sX ?_; try refine aA ?_)) | (refine cR l2 ?_; refine sX ?_; try refine aA ?_) | refine gS ?_)
  refine G_round ?_
  repeat (first | (refine gC ?_; first | refine aA ?_ | (refine cR hR ?_; refine sX ?_; try refine aA ?_)) | (refine cR hR ?_; refine sX ?_; try refine aA ?_) | refine gS ?_)
  (refine FinQ hQ (congrArg Array.toList Tryz.results122) _ _ ?_); simp (disch := omega) only [u, i64, ax, if_true, forall_const, reduceCtorEq, implies_true, tvs, bf]
end Go.Proofs
set_option linter.unusedVariables false
set_option linter.unusedSimpArgs false
set_option maxRecDepth 100000
set_option maxHeartbeats 1000000
namespace Go.Proofs
open Go.Ax
theorem dg_small {n k : Nat} (h1 : 10 ^ k ≤ n) (h2 : n < 10 ^ (k + 1)) : dg n = k + 1 := dg_eq h1 h2
theorem okDI (n : Nat) (h : n < 1000000) (k : Nat) (hk : k < 3) (e : Int) (he : -100 ≤ e ∧ e ≤ 100) : DI.ok ⟨k, false, [n], e⟩ :=
  ⟨by show -9223372036854775808 ≤ (k : Int); omega, by show (k : Int) < 9223372036854775808; omega, by show -9223372036854775808 ≤ e; omega, by show e < 9223372036854775808; omega, Wd_cons (by omega) Wd_nil, by show 1 ≤ 40; decide⟩
theorem val1 (n : Nat) : val [n] = n := by simp [val]
theorem okIn1 (n : Nat) (e : Int) (k : Nat) (h1 : 10 ^ k ≤ n) (h2 : n < 10 ^ (k + 1)) (hk : k + 1 ≤ 5) (he : -13 ≤ e) (he2 : e + k ≤ 10) : DI.okIn 5 10 ⟨0, false, [n], e⟩ := by
  have hd := dg_small h1 h2
  have hn : n ≠ 0 := by have := ten_pos k; omega
  refine ⟨.inl ⟨rfl, by show -1000000 ≤ e; omega, by show e ≤ 1000000; omega⟩, .inr (.inr ?_)⟩
  show val [n] ≠ 0 ∧ dg (val [n]) ≤ 5 ∧ 1 - 10 - ((5 : Nat) - 1 : Int) ≤ e ∧ e + dg (val [n]) - 1 ≤ 10
  rw [val1, hd]
  exact ⟨hn, hk, by omega, by omega⟩
theorem add_ex1 : addD 5 10 0 ⟨0, false, 120, -2⟩ ⟨0, false, 3, -1⟩ = (⟨0, false, 150, -2⟩, 0) := by
  have h := finD0_self 5 10 0 ⟨0, false, 150, -2⟩ rfl (.inr (.inr ⟨by decide, by rw [show dg 150 = 3 from dg_small (k := 2) (by decide) (by decide)]; decide, by decide, by rw [show dg 150 = 3 from dg_small (k := 2) (by decide) (by decide)]; decide⟩))
  exact h
theorem add_ex2 : addD 5 10 0 ⟨0, false, 99999, 0⟩ ⟨0, false, 2, 0⟩ = (⟨0, false, 10000, 1⟩, 1) := by
  have hd : dg 100001 = 6 := dg_small (k := 5) (by decide) (by decide)
  have hst : st 100001 = 0 := by have := st_of 100001 0 (by decide); simpa using this
  show finD0 5 10 0 false 100001 0 0 = _
  unfold finD0
  rw [if_neg (by decide), finD_ine 5 10 0 false 100001 0 0 (by rw [hd]; decide) (by rw [hd, hst]; decide), hd]
  have hs : stpD 5 10 (0 + ((6 : Nat) : Int) - 1) = 1 := by decide
  rw [hs]
  have hq : quoN 0 false 100001 (10 ^ ((1 : Int) - 0).toNat) = 10000 := by decide
  rw [hq]
  have hd5 : dg 10000 = 5 := dg_small (k := 4) (by decide) (by decide)
  unfold ineD
  rw [if_neg (by decide), hd5]
  rfl
theorem quant_ex : quantD 5 10 0 ⟨0, false, 2675, -3⟩ (-2) = (⟨0, false, 268, -2⟩, 1) := by
  have hd : dg 268 = 3 := dg_small (k := 2) (by decide) (by decide)
  have hN : quantN 0 ⟨0, false, 2675, -3⟩ (-2) = 268 := by decide
  have hX : quantX ⟨0, false, 2675, -3⟩ (-2) = false := by decide
  unfold quantD
  rw [if_neg (by decide), if_neg (by decide), hN, hX]
  rw [if_pos (show inD 5 10 ⟨0, false, 268, -2⟩ from .inr (.inr ⟨by decide, by rw [hd]; decide, by decide, by rw [hd]; decide⟩))]
  rfl
theorem w1 (n : Nat) (h : words n = [n]) : nat n = .lst 1 [.int .u64 n] := by
  unfold nat
  rw [h]
  rfl
set_option maxHeartbeats 8000000 in
theorem ret_awake22 : Ret Tryz.prog GEs 43 [] (.bool true) := by
  have h1 := ret_DAdd 5 10 0 (by decide) (by decide) (by decide) ⟨0, false, [120], -2⟩ ⟨0, false, [3], -1⟩ (okDI 120 (by decide) 0 (by decide) (-2) (by decide)) (okDI 3 (by decide) 0 (by decide) (-1) (by decide))
  rw [if_pos ⟨okIn1 120 (-2) 2 (by decide) (by decide) (by decide) (by decide) (by decide), okIn1 3 (-1) 0 (by decide) (by decide) (by decide) (by decide) (by decide)⟩] at h1
  rw [show DI.D ⟨0, false, [120], -2⟩ = ⟨0, false, 120, -2⟩ by unfold DI.D mkD; rw [val1]; rfl, show DI.D ⟨0, false, [3], -1⟩ = ⟨0, false, 3, -1⟩ by unfold DI.D mkD; rw [val1]; rfl, add_ex1] at h1
  have h2 := ret_DAdd 5 10 0 (by decide) (by decide) (by decide) ⟨0, false, [99999], 0⟩ ⟨0, false, [2], 0⟩ (okDI 99999 (by decide) 0 (by decide) 0 (by decide)) (okDI 2 (by decide) 0 (by decide) 0 (by decide))
  rw [if_pos ⟨okIn1 99999 0 4 (by decide) (by decide) (by decide) (by decide) (by decide), okIn1 2 0 0 (by decide) (by decide) (by decide) (by decide) (by decide)⟩] at h2
  rw [show DI.D ⟨0, false, [99999], 0⟩ = ⟨0, false, 99999, 0⟩ by unfold DI.D mkD; rw [val1]; rfl, show DI.D ⟨0, false, [2], 0⟩ = ⟨0, false, 2, 0⟩ by unfold DI.D mkD; rw [val1]; rfl, add_ex2] at h2
  have h3 := ret_DQuantize 5 10 0 (by decide) (by decide) (by decide) ⟨0, false, [2675], -3⟩ (okDI 2675 (by decide) 0 (by decide) (-3) (by decide)) (-2) (by decide)
  rw [if_pos (okIn1 2675 (-3) 3 (by decide) (by decide) (by decide) (by decide) (by decide))] at h3
  rw [show DI.D ⟨0, false, [2675], -3⟩ = ⟨0, false, 2675, -3⟩ by unfold DI.D mkD; rw [val1]; rfl, quant_ex] at h3
  unfold dv DI.av cx at h1 h2 h3
  simp only at h1 h2 h3
  rw [w1 150 (by decide +kernel)] at h1
  rw [w1 10000 (by decide +kernel)] at h2
  rw [w1 268 (by decide +kernel)] at h3
  refine RetN_start Tryz.func43 (by kernel_rfl) rfl fun Q hQ hQ2 => ?_; rw [Tryz.ntmps43]; simp only [u, i64, Nat.reduceSub, Nat.reduceAdd, bm]
  repeat (first | (refine gC ?_; first | refine aA ?_ | ((first | refine cR h1 ?_ | refine cR h2 ?_ | refine cR h3 ?_); refine sX ?_; try refine aA ?_)) | ((first | refine cR h1 ?_ | refine cR h2 ?_ | refine cR h3 ?_); refine sX ?_; try refine aA ?_) | refine gS ?_)
  simp only [List.append_eq, List.cons_append, List.nil_append]
  (refine gO ?_)
  (refine FinQ hQ (congrArg Array.toList Tryz.results43) _ _ ?_); simp (disch := omega) only [u, i64, ax, if_true, forall_const, reduceCtorEq, implies_true, tvs, bf]
end Go.Proofs
set_option linter.unusedVariables false
set_option linter.unusedSimpArgs false
set_option maxHeartbeats 1000000
namespace Go.Proofs
open Go.Ax
set_option maxRecDepth 100000 in
set_option maxHeartbeats 8000000 in
theorem ret_Args3 (p : Nat) (g : Int) (r : Nat) (hp : 1 ≤ p ∧ p ≤ 400) (hg : 1 ≤ g ∧ g ≤ 6000) (hr : r ≤ 4) (d c b : DI) (h1 : d.ok) (h2 : c.ok) (h3 : b.ok) :
    Ret Tryz.prog GEs 116 [cx p g r, .bool false, .lst 3 [i64 d.k, .bool d.neg, ws d.cs, i64 d.e, i64 c.k, .bool c.neg, ws c.cs, i64 c.e, i64 b.k, .bool b.neg, ws b.cs, i64 b.e]] (if d.okIn p g ∧ c.okIn p g ∧ b.okIn p g then .tup [.lst 3 [i64 d.k, .bool d.neg, nat (val d.cs), i64 d.e, i64 c.k, .bool c.neg, nat (val c.cs), i64 c.e, i64 b.k, .bool b.neg, nat (val b.cs), i64 b.e], i64 0] else .tup [.lst 0 [], i64 221]) := by
  have hS := ret_sizes3 d c b (Nat.le_trans h1.len (by decide)) (Nat.le_trans h2.len (by decide)) (Nat.le_trans h3.len (by decide))
  have hC := ret_DCheck p g r (by omega) (by omega)
  rw [if_pos (show okC p g r from ⟨by omega, hg, by omega⟩)] at hC
  have o1 := one_of p g r hp hg d h1
  have o2 := one_of p g r hp hg c h2
  have o3 := one_of p g r hp hg b h3
  obtain ⟨k1, n1, c1, e1⟩ := d
  obtain ⟨k2, n2, c2, e2⟩ := c
  obtain ⟨k3, n3, c3, e3⟩ := b
  simp only at *
  unfold cx at *
  rcases o1 with ⟨x1, x2, x3, x4, g1, a1⟩ | ⟨g1, a1, b1⟩
  · rw [if_neg (show ¬ (DI.okIn p g ⟨k1, n1, c1, e1⟩ ∧ DI.okIn p g ⟨k2, n2, c2, e2⟩ ∧ DI.okIn p g ⟨k3, n3, c3, e3⟩) from fun h => g1 h.1.1)]
    refine RetN_start Tryz.func116 (by kernel_rfl) rfl fun Q hQ hQ2 => ?_; rw [Tryz.ntmps116]; simp only [u, i64, Nat.reduceSub, Nat.reduceAdd, bm]
    repeat (first | (refine gC ?_; first | refine aA ?_ | ((first | refine cR hS ?_ | refine cR hC ?_); refine sX ?_; try refine aA ?_)) | ((first | refine cR hS ?_ | refine cR hC ?_); refine sX ?_; try refine aA ?_) | refine gS ?_)
    refine G_loop ?_
    refine G_round ?_
    repeat (first | (refine gC ?_; first | refine aA ?_ | (refine cR a1 ?_; refine sX ?_; try refine aA ?_)) | (refine cR a1 ?_; refine sX ?_; try refine aA ?_) | refine gS ?_)
    (refine FinQ hQ (congrArg Array.toList Tryz.results116) _ _ ?_); simp (disch := omega) only [u, i64, ax, if_true, forall_const, reduceCtorEq, implies_true, tvs, bf]
  · by_cases q1 : inD p g (DI.D ⟨k1, n1, c1, e1⟩)
    · rw [decT q1] at b1
      rcases o2 with ⟨x1, x2, x3, x4, g2, a2⟩ | ⟨g2, a2, b2⟩
      · rw [if_neg (show ¬ (DI.okIn p g ⟨k1, n1, c1, e1⟩ ∧ DI.okIn p g ⟨k2, n2, c2, e2⟩ ∧ DI.okIn p g ⟨k3, n3, c3, e3⟩) from fun h => g2 h.2.1.1)]
        refine RetN_start Tryz.func116 (by kernel_rfl) rfl fun Q hQ hQ2 => ?_; rw [Tryz.ntmps116]; simp only [u, i64, Nat.reduceSub, Nat.reduceAdd, bm]
        repeat (first | (refine gC ?_; first | refine aA ?_ | ((first | refine cR hS ?_ | refine cR hC ?_); refine sX ?_; try refine aA ?_)) | ((first | refine cR hS ?_ | refine cR hC ?_); refine sX ?_; try refine aA ?_) | refine gS ?_)
        refine G_loop ?_
        refine G_round ?_
        repeat (first | (refine gC ?_; first | refine aA ?_ | ((first | refine cR a1 ?_ | refine cR b1 ?_); refine sX ?_; try refine aA ?_)) | ((first | refine cR a1 ?_ | refine cR b1 ?_); refine sX ?_; try refine aA ?_) | refine gS ?_)
        (refine gC ?_)
        refine ⟨⟨rfl, rfl⟩, ?_⟩
        simp (disch := omega) only [u, i64, ax, eq_self, if_true, if_false, Nat.reduceAdd, Int.reduceToNat, Int.reduceAdd, tvs, bs, Nat.reduceMul, List.take_succ_cons, List.take_zero, List.nil_append, List.cons_append, List.append_nil]
        refine aft_any ?_
        (refine gO ?_)
        refine G_round ?_
        repeat (first | (refine gC ?_; first | refine aA ?_ | (refine cR a2 ?_; refine sX ?_; try refine aA ?_)) | (refine cR a2 ?_; refine sX ?_; try refine aA ?_) | refine gS ?_)
        (refine FinQ hQ (congrArg Array.toList Tryz.results116) _ _ ?_); simp (disch := omega) only [u, i64, ax, if_true, forall_const, reduceCtorEq, implies_true, tvs, bf]
      · by_cases q2 : inD p g (DI.D ⟨k2, n2, c2, e2⟩)
        · rw [decT q2] at b2
          rcases o3 with ⟨x1, x2, x3, x4, g3, a3⟩ | ⟨g3, a3, b3⟩
          · rw [if_neg (show ¬ (DI.okIn p g ⟨k1, n1, c1, e1⟩ ∧ DI.okIn p g ⟨k2, n2, c2, e2⟩ ∧ DI.okIn p g ⟨k3, n3, c3, e3⟩) from fun h => g3 h.2.2.1)]
            refine RetN_start Tryz.func116 (by kernel_rfl) rfl fun Q hQ hQ2 => ?_; rw [Tryz.ntmps116]; simp only [u, i64, Nat.reduceSub, Nat.reduceAdd, bm]
            repeat (first | (refine gC ?_; first | refine aA ?_ | ((first | refine cR hS ?_ | refine cR hC ?_); refine sX ?_; try refine aA ?_)) | ((first | refine cR hS ?_ | refine cR hC ?_); refine sX ?_; try refine aA ?_) | refine gS ?_)
            refine G_loop ?_
            refine G_round ?_
            repeat (first | (refine gC ?_; first | refine aA ?_ | ((first | refine cR a1 ?_ | refine cR b1 ?_); refine sX ?_; try refine aA ?_)) | ((first | refine cR a1 ?_ | refine cR b1 ?_); refine sX ?_; try refine aA ?_) | refine gS ?_)
            (refine gC ?_)
            refine ⟨⟨rfl, rfl⟩, ?_⟩
            simp (disch := omega) only [u, i64, ax, eq_self, if_true, if_false, Nat.reduceAdd, Int.reduceToNat, Int.reduceAdd, tvs, bs, Nat.reduceMul, List.take_succ_cons, List.take_zero, List.nil_append, List.cons_append, List.append_nil]
            refine aft_any ?_
            (refine gO ?_)
            refine G_round ?_
            repeat (first | (refine gC ?_; first | refine aA ?_ | ((first | refine cR a2 ?_ | refine cR b2 ?_); refine sX ?_; try refine aA ?_)) | ((first | refine cR a2 ?_ | refine cR b2 ?_); refine sX ?_; try refine aA ?_) | refine gS ?_)
            (refine gC ?_)
            refine ⟨⟨rfl, rfl⟩, ?_⟩
            simp (disch := omega) only [u, i64, ax, eq_self, if_true, if_false, Nat.reduceAdd, Int.reduceToNat, Int.reduceAdd, tvs, bs, Nat.reduceMul, List.take_succ_cons, List.take_zero, List.nil_append, List.cons_append, List.append_nil]
            refine aft_any ?_
            (refine gO ?_)
            refine G_round ?_
            repeat (first | (refine gC ?_; first | refine aA ?_ | (refine cR a3 ?_; refine sX ?_; try refine aA ?_)) | (refine cR a3 ?_; refine sX ?_; try refine aA ?_) | refine gS ?_)
            (refine FinQ hQ (congrArg Array.toList Tryz.results116) _ _ ?_); simp (disch := omega) only [u, i64, ax, if_true, forall_const, reduceCtorEq, implies_true, tvs, bf]
          · by_cases q3 : inD p g (DI.D ⟨k3, n3, c3, e3⟩)
            · rw [decT q3] at b3
              rw [if_pos (show DI.okIn p g ⟨k1, n1, c1, e1⟩ ∧ DI.okIn p g ⟨k2, n2, c2, e2⟩ ∧ DI.okIn p g ⟨k3, n3, c3, e3⟩ from ⟨⟨g1, q1⟩, ⟨g2, q2⟩, ⟨g3, q3⟩⟩)]
              refine RetN_start Tryz.func116 (by kernel_rfl) rfl fun Q hQ hQ2 => ?_; rw [Tryz.ntmps116]; simp only [u, i64, Nat.reduceSub, Nat.reduceAdd, bm]
              repeat (first | (refine gC ?_; first | refine aA ?_ | ((first | refine cR hS ?_ | refine cR hC ?_); refine sX ?_; try refine aA ?_)) | ((first | refine cR hS ?_ | refine cR hC ?_); refine sX ?_; try refine aA ?_) | refine gS ?_)
              refine G_loop ?_
              refine G_round ?_
              repeat (first | (refine gC ?_; first | refine aA ?_ | ((first | refine cR a1 ?_ | refine cR b1 ?_); refine sX ?_; try refine aA ?_)) | ((first | refine cR a1 ?_ | refine cR b1 ?_); refine sX ?_; try refine aA ?_) | refine gS ?_)
              (refine gC ?_)
              refine ⟨⟨rfl, rfl⟩, ?_⟩
              simp (disch := omega) only [u, i64, ax, eq_self, if_true, if_false, Nat.reduceAdd, Int.reduceToNat, Int.reduceAdd, tvs, bs, Nat.reduceMul, List.take_succ_cons, List.take_zero, List.nil_append, List.cons_append, List.append_nil]
              refine aft_any ?_
              (refine gO ?_)
              refine G_round ?_
              repeat (first | (refine gC ?_; first | refine aA ?_ | ((first | refine cR a2 ?_ | refine cR b2 ?_); refine sX ?_; try refine aA ?_)) | ((first | refine cR a2 ?_ | refine cR b2 ?_); refine sX ?_; try refine aA ?_) | refine gS ?_)
              (refine gC ?_)
              refine ⟨⟨rfl, rfl⟩, ?_⟩
              simp (disch := omega) only [u, i64, ax, eq_self, if_true, if_false, Nat.reduceAdd, Int.reduceToNat, Int.reduceAdd, tvs, bs, Nat.reduceMul, List.take_succ_cons, List.take_zero, List.nil_append, List.cons_append, List.append_nil]
              refine aft_any ?_
              (refine gO ?_)
              refine G_round ?_
              repeat (first | (refine gC ?_; first | refine aA ?_ | ((first | refine cR a3 ?_ | refine cR b3 ?_); refine sX ?_; try refine aA ?_)) | ((first | refine cR a3 ?_ | refine cR b3 ?_); refine sX ?_; try refine aA ?_) | refine gS ?_)
              (refine gC ?_)
              refine ⟨⟨rfl, rfl⟩, ?_⟩
              simp (disch := omega) only [u, i64, ax, eq_self, if_true, if_false, Nat.reduceAdd, Int.reduceToNat, Int.reduceAdd, tvs, bs, Nat.reduceMul, List.take_succ_cons, List.take_zero, List.nil_append, List.cons_append, List.append_nil]
              refine aft_any ?_
              (refine gO ?_)
              refine G_round ?_
              (refine gO ?_)
              (refine FinQ hQ (congrArg Array.toList Tryz.results116) _ _ ?_); simp (disch := omega) only [u, i64, ax, if_true, forall_const, reduceCtorEq, implies_true, tvs, bf, fzO_d3]
            · rw [decF q3] at b3
              rw [if_neg (show ¬ (DI.okIn p g ⟨k1, n1, c1, e1⟩ ∧ DI.okIn p g ⟨k2, n2, c2, e2⟩ ∧ DI.okIn p g ⟨k3, n3, c3, e3⟩) from fun h => q3 h.2.2.2)]
              refine RetN_start Tryz.func116 (by kernel_rfl) rfl fun Q hQ hQ2 => ?_; rw [Tryz.ntmps116]; simp only [u, i64, Nat.reduceSub, Nat.reduceAdd, bm]
              repeat (first | (refine gC ?_; first | refine aA ?_ | ((first | refine cR hS ?_ | refine cR hC ?_); refine sX ?_; try refine aA ?_)) | ((first | refine cR hS ?_ | refine cR hC ?_); refine sX ?_; try refine aA ?_) | refine gS ?_)
              refine G_loop ?_
              refine G_round ?_
              repeat (first | (refine gC ?_; first | refine aA ?_ | ((first | refine cR a1 ?_ | refine cR b1 ?_); refine sX ?_; try refine aA ?_)) | ((first | refine cR a1 ?_ | refine cR b1 ?_); refine sX ?_; try refine aA ?_) | refine gS ?_)
              (refine gC ?_)
              refine ⟨⟨rfl, rfl⟩, ?_⟩
              simp (disch := omega) only [u, i64, ax, eq_self, if_true, if_false, Nat.reduceAdd, Int.reduceToNat, Int.reduceAdd, tvs, bs, Nat.reduceMul, List.take_succ_cons, List.take_zero, List.nil_append, List.cons_append, List.append_nil]
              refine aft_any ?_
              (refine gO ?_)
              refine G_round ?_
              repeat (first | (refine gC ?_; first | refine aA ?_ | ((first | refine cR a2 ?_ | refine cR b2 ?_); refine sX ?_; try refine aA ?_)) | ((first | refine cR a2 ?_ | refine cR b2 ?_); refine sX ?_; try refine aA ?_) | refine gS ?_)
              (refine gC ?_)
              refine ⟨⟨rfl, rfl⟩, ?_⟩
              simp (disch := omega) only [u, i64, ax, eq_self, if_true, if_false, Nat.reduceAdd, Int.reduceToNat, Int.reduceAdd, tvs, bs, Nat.reduceMul, List.take_succ_cons, List.take_zero, List.nil_append, List.cons_append, List.append_nil]
              refine aft_any ?_
              (refine gO ?_)
              refine G_round ?_
              repeat (first | (refine gC ?_; first | refine aA ?_ | ((first | refine cR a3 ?_ | refine cR b3 ?_); refine sX ?_; try refine aA ?_)) | ((first | refine cR a3 ?_ | refine cR b3 ?_); refine sX ?_; try refine aA ?_) | refine gS ?_)
              (refine FinQ hQ (congrArg Array.toList Tryz.results116) _ _ ?_); simp (disch := omega) only [u, i64, ax, if_true, forall_const, reduceCtorEq, implies_true, tvs, bf]
        · rw [decF q2] at b2
          rw [if_neg (show ¬ (DI.okIn p g ⟨k1, n1, c1, e1⟩ ∧ DI.okIn p g ⟨k2, n2, c2, e2⟩ ∧ DI.okIn p g ⟨k3, n3, c3, e3⟩) from fun h => q2 h.2.1.2)]
          refine RetN_start Tryz.func116 (by kernel_rfl) rfl fun Q hQ hQ2 => ?_; rw [Tryz.ntmps116]; simp only [u, i64, Nat.reduceSub, Nat.reduceAdd, bm]
          repeat (first | (refine gC ?_; first | refine aA ?_ | ((first | refine cR hS ?_ | refine cR hC ?_); refine sX ?_; try refine aA ?_)) | ((first | refine cR hS ?_ | refine cR hC ?_); refine sX ?_; try refine aA ?_) | refine gS ?_)
          refine G_loop ?_
          refine G_round ?_
          repeat (first | (refine gC ?_; first | refine aA ?_ | ((first | refine cR a1 ?_ | refine cR b1 ?_); refine sX ?_; try refine aA ?_)) | ((first | refine cR a1 ?_ | refine cR b1 ?_); refine sX ?_; try refine aA ?_) | refine gS ?_)
          (refine gC ?_)
          refine ⟨⟨rfl, rfl⟩, ?_⟩
          simp (disch := omega) only [u, i64, ax, eq_self, if_true, if_false, Nat.reduceAdd, Int.reduceToNat, Int.reduceAdd, tvs, bs, Nat.reduceMul, List.take_succ_cons, List.take_zero, List.nil_append, List.cons_append, List.append_nil]
          refine aft_any ?_
          (refine gO ?_)
          refine G_round ?_
          repeat (first | (refine gC ?_; first | refine aA ?_ | ((first | refine cR a2 ?_ | refine cR b2 ?_); refine sX ?_; try refine aA ?_)) | ((first | refine cR a2 ?_ | refine cR b2 ?_); refine sX ?_; try refine aA ?_) | refine gS ?_)
          (refine FinQ hQ (congrArg Array.toList Tryz.results116) _ _ ?_); simp (disch := omega) only [u, i64, ax, if_true, forall_const, reduceCtorEq, implies_true, tvs, bf]
    · rw [decF q1] at b1
      rw [if_neg (show ¬ (DI.okIn p g ⟨k1, n1, c1, e1⟩ ∧ DI.okIn p g ⟨k2, n2, c2, e2⟩ ∧ DI.okIn p g ⟨k3, n3, c3, e3⟩) from fun h => q1 h.1.2)]
      refine RetN_start Tryz.func116 (by kernel_rfl) rfl fun Q hQ hQ2 => ?_; rw [Tryz.ntmps116]; simp only [u, i64, Nat.reduceSub, Nat.reduceAdd, bm]
      repeat (first | (refine gC ?_; first | refine aA ?_ | ((first | refine cR hS ?_ | refine cR hC ?_); refine sX ?_; try refine aA ?_)) | ((first | refine cR hS ?_ | refine cR hC ?_); refine sX ?_; try refine aA ?_) | refine gS ?_)
      refine G_loop ?_
      refine G_round ?_
      repeat (first | (refine gC ?_; first | refine aA ?_ | ((first | refine cR a1 ?_ | refine cR b1 ?_); refine sX ?_; try refine aA ?_)) | ((first | refine cR a1 ?_ | refine cR b1 ?_); refine sX ?_; try refine aA ?_) | refine gS ?_)
      (refine FinQ hQ (congrArg Array.toList Tryz.results116) _ _ ?_); simp (disch := omega) only [u, i64, ax, if_true, forall_const, reduceCtorEq, implies_true, tvs, bf]
end Go.Proofs
set_option linter.unusedVariables false
set_option linter.unusedSimpArgs false
set_option maxRecDepth 100000
set_option maxHeartbeats 1000000
namespace Go.Proofs
open Go.Ax
theorem fzO_allS (s : Bool) (ver n sz : Nat) (cs : List AV) (h : n * sz = cs.length) (hp : pureAs cs = true) : fzO s ver 0 n sz (some ⟨ver, false, cs⟩) = some (.lst n cs) := by
  rw [fzO_some, if_pos (show _ ∧ _ ∧ _ ∧ _ from ⟨rfl, (fun h => rfl), by omega, hp⟩), h, List.drop_zero, List.take_length]
theorem fzO_s1 (s : Bool) (ver : Nat) (k : Int) (n : Bool) (v : List Nat) (e : Int) : fzO s ver 0 1 4 (some ⟨ver, false, [.int .i64 k, .bool n, ws v, .int .i64 e]⟩) = some (.lst 1 [.int .i64 k, .bool n, ws v, .int .i64 e]) :=
  fzO_allS _ _ _ _ _ rfl (by simp only [pAs_cons, pAs_nil, pA_int, pA_bool, pA_lst, us_pure, Bool.and_true])
theorem fzO_s2 (s : Bool) (ver : Nat) (k : Int) (n : Bool) (v : List Nat) (e : Int) (k2 : Int) (n2 : Bool) (v2 : List Nat) (e2 : Int) : fzO s ver 0 2 4 (some ⟨ver, false, [.int .i64 k, .bool n, ws v, .int .i64 e, .int .i64 k2, .bool n2, ws v2, .int .i64 e2]⟩) = some (.lst 2 [.int .i64 k, .bool n, ws v, .int .i64 e, .int .i64 k2, .bool n2, ws v2, .int .i64 e2]) :=
  fzO_allS _ _ _ _ _ rfl (by simp only [pAs_cons, pAs_nil, pA_int, pA_bool, pA_lst, us_pure, Bool.and_true])
theorem ret_Args22_1 (p g r z : Int) (d : DI) (hC : Ret Tryz.prog GEs 122 [cx p g r, .lst 1 [i64 d.k, .bool d.neg, ws d.cs, i64 d.e]] (i64 z)) :
    Ret Tryz.prog GEs 45 [cx p g r, .lst 1 [i64 d.k, .bool d.neg, ws d.cs, i64 d.e]] (i64 z) := by
  have hX := ret_Ctx p g r
  have t1 := ret_TheirD d.k d.e d.neg d.cs
  unfold cx at *
  refine RetN_start Tryz.func45 (by kernel_rfl) rfl fun Q hQ hQ2 => ?_; rw [Tryz.ntmps45]; simp only [u, i64, Nat.reduceSub, Nat.reduceAdd, bm]
  (refine gO ?_)
  refine G_loop ?_
  refine G_round ?_
  (refine gO ?_)
  (refine gC ?_)
  (refine cR t1 ?_; refine sX ?_; try refine aA ?_)
  refine ⟨⟨rfl, rfl⟩, ?_⟩
  simp (disch := omega) only [u, i64, ax, eq_self, if_true, if_false, Nat.reduceAdd, Int.reduceToNat, Int.reduceAdd, tvs, bs, Nat.reduceMul, List.take_succ_cons, List.take_zero, List.nil_append, List.cons_append, List.append_nil, Nat.reduceLeDiff]
  refine aft_any ?_
  (refine gO ?_)
  refine G_round ?_
  (refine gO ?_)
  refine G_cool1 ?_
  (refine gC ?_)
  (refine cR hX ?_; refine sX ?_; try refine aA ?_)
  refine callK_ret hC (by (simp (disch := omega) only [if_true, forall_const, reduceCtorEq, implies_true, bz]); rw [fzO_s1]; rfl) ?_
  simp (disch := omega) only [u, i64, ax, eq_self, if_true, if_false, Nat.reduceAdd, Int.reduceToNat, Int.reduceAdd, tvs, bs]
  refine aft_any ?_
  (refine gO ?_)
  (refine FinQ hQ (congrArg Array.toList Tryz.results45) _ _ ?_); simp (disch := omega) only [u, i64, ax, if_true, forall_const, reduceCtorEq, implies_true, tvs, bf]
theorem ret_Args22_2 (p g r z : Int) (d c : DI) (hC : Ret Tryz.prog GEs 122 [cx p g r, .lst 2 [i64 d.k, .bool d.neg, ws d.cs, i64 d.e, i64 c.k, .bool c.neg, ws c.cs, i64 c.e]] (i64 z)) :
    Ret Tryz.prog GEs 45 [cx p g r, .lst 2 [i64 d.k, .bool d.neg, ws d.cs, i64 d.e, i64 c.k, .bool c.neg, ws c.cs, i64 c.e]] (i64 z) := by
  have hX := ret_Ctx p g r
  have t1 := ret_TheirD d.k d.e d.neg d.cs
  have t2 := ret_TheirD c.k c.e c.neg c.cs
  unfold cx at *
  refine RetN_start Tryz.func45 (by kernel_rfl) rfl fun Q hQ hQ2 => ?_; rw [Tryz.ntmps45]; simp only [u, i64, Nat.reduceSub, Nat.reduceAdd, bm]
  (refine gO ?_)
  refine G_loop ?_
  refine G_round ?_
  (refine gO ?_)
  (refine gC ?_)
  (refine cR t1 ?_; refine sX ?_; try refine aA ?_)
  refine ⟨⟨rfl, rfl⟩, ?_⟩
  simp (disch := omega) only [u, i64, ax, eq_self, if_true, if_false, Nat.reduceAdd, Int.reduceToNat, Int.reduceAdd, tvs, bs, Nat.reduceMul, List.take_succ_cons, List.take_zero, List.nil_append, List.cons_append, List.append_nil, Nat.reduceLeDiff]
  refine aft_any ?_
  (refine gO ?_)
  refine G_round ?_
  (refine gO ?_)
  (refine gC ?_)
  (refine cR t2 ?_; refine sX ?_; try refine aA ?_)
  refine ⟨⟨rfl, rfl⟩, ?_⟩
  simp (disch := omega) only [u, i64, ax, eq_self, if_true, if_false, Nat.reduceAdd, Int.reduceToNat, Int.reduceAdd, tvs, bs, Nat.reduceMul, List.take_succ_cons, List.take_zero, List.nil_append, List.cons_append, List.append_nil, Nat.reduceLeDiff]
  refine aft_any ?_
  (refine gO ?_)
  refine G_round ?_
  (refine gO ?_)
  refine G_cool1 ?_
  (refine gC ?_)
  (refine cR hX ?_; refine sX ?_; try refine aA ?_)
  refine callK_ret hC (by (simp (disch := omega) only [if_true, forall_const, reduceCtorEq, implies_true, bz]); rw [fzO_s2]; rfl) ?_
  simp (disch := omega) only [u, i64, ax, eq_self, if_true, if_false, Nat.reduceAdd, Int.reduceToNat, Int.reduceAdd, tvs, bs]
  refine aft_any ?_
  (refine gO ?_)
  (refine FinQ hQ (congrArg Array.toList Tryz.results45) _ _ ?_); simp (disch := omega) only [u, i64, ax, if_true, forall_const, reduceCtorEq, implies_true, tvs, bf]
/-- A wrong context. -/
theorem ret_Args1b (p g r : Int) (r1 : -9223372036854775808 ≤ r) (r2 : r < 9223372036854775808) (hb : ¬ okC p g r) (d : DI) (h : d.ok) : Ret Tryz.prog GEs 116 [cx p g r, .bool false, .lst 1 [i64 d.k, .bool d.neg, ws d.cs, i64 d.e]] (.tup [.lst 0 [], i64 220]) := by
  have hS := ret_sizes1 d (Nat.le_trans h.len (by decide))
  have hC := ret_DCheck p g r r1 r2
  rw [if_neg hb] at hC
  clear hb
  unfold cx at *
  refine RetN_start Tryz.func116 (by kernel_rfl) rfl fun Q hQ hQ2 => ?_; rw [Tryz.ntmps116]; simp only [u, i64, Nat.reduceSub, Nat.reduceAdd, bm]
  repeat (first | (refine gC ?_; first | refine aA ?_ | ((first | refine cR hS ?_ | refine cR hC ?_); refine sX ?_; try refine aA ?_)) | ((first | refine cR hS ?_ | refine cR hC ?_); refine sX ?_; try refine aA ?_) | refine gS ?_)
  (refine FinQ hQ (congrArg Array.toList Tryz.results116) _ _ ?_); simp (disch := omega) only [u, i64, ax, if_true, forall_const, reduceCtorEq, implies_true, tvs, bf]
end Go.Proofs
set_option linter.unusedVariables false
set_option maxHeartbeats 1000000
namespace Go.Proofs
open Go.Ax
theorem timesD_len (x y : DV) (hx : x.kind ≤ 2) (hy : y.kind ≤ 2) (lx : (words x.coef).length ≤ 40) (ly : (words y.coef).length ≤ 40) (ex : -6500 ≤ x.exp ∧ x.exp ≤ 6500) (ey : -6500 ≤ y.exp ∧ y.exp ≤ 6500) : (timesD x y).1.kind ≤ 2 ∧ (words (timesD x y).1.coef).length ≤ 90 ∧ -13000 ≤ (timesD x y).1.exp ∧ (timesD x y).1.exp ≤ 13000 := by
  obtain ⟨t1, t2, t3⟩ := timesD_facts x y hx hy
  refine ⟨t1, ?_⟩
  by_cases h0 : (timesD x y).1.kind = 0
  · obtain ⟨u1, u2⟩ := t2 h0
    have := length_mul x.coef y.coef
    rw [u1, u2]
    omega
  · obtain ⟨u1, u2⟩ := t3 h0
    rw [u1, u2]
    exact ⟨by decide, by decide, by decide⟩
theorem dexp_b {p : Nat} {g : Int} (hp : 1 ≤ p ∧ p ≤ 400) (hg : 1 ≤ g ∧ g ≤ 6000) {d : DI} (h : d.okIn p g) : -6500 ≤ d.D.exp ∧ d.D.exp ≤ 6500 := by
  obtain ⟨f1, f2, f3, f4⟩ := okIn_facts hp hg h
  obtain ⟨i1, i2⟩ := inD_exp hp.1 f4 h.2
  by_cases k0 : d.D.kind = 0
  · have := i1 k0
    omega
  · have := (i2 k0).1
    omega
theorem nanD_of {x : DV} (h : rightD x) (hk : x.kind = 2) : x = nanD := by
  obtain ⟨k, n, c, e⟩ := x
  unfold rightD at h
  simp only at h hk
  subst hk
  obtain ⟨_, h1, h2, h3⟩ : (2 : Nat) = 2 ∧ n = false ∧ e = 0 ∧ c = 0 := by
    rcases h with h | h | h
    · exact absurd h.1 (by decide)
    · exact absurd h.1 (by decide)
    · exact h
  subst h1 h2 h3
  rfl
end Go.Proofs
set_option linter.unusedVariables false
set_option linter.unusedSimpArgs false
set_option maxRecDepth 100000
set_option maxHeartbeats 1000000
namespace Go.Proofs
open Go.Ax
theorem fzO_s3 (s : Bool) (ver : Nat) (k : Int) (n : Bool) (v : List Nat) (e : Int) (k2 : Int) (n2 : Bool) (v2 : List Nat) (e2 : Int) (k3 : Int) (n3 : Bool) (v3 : List Nat) (e3 : Int) : fzO s ver 0 3 4 (some ⟨ver, false, [.int .i64 k, .bool n, ws v, .int .i64 e, .int .i64 k2, .bool n2, ws v2, .int .i64 e2, .int .i64 k3, .bool n3, ws v3, .int .i64 e3]⟩) = some (.lst 3 [.int .i64 k, .bool n, ws v, .int .i64 e, .int .i64 k2, .bool n2, ws v2, .int .i64 e2, .int .i64 k3, .bool n3, ws v3, .int .i64 e3]) :=
  fzO_allS _ _ _ _ _ rfl (by simp only [pAs_cons, pAs_nil, pA_int, pA_bool, pA_lst, us_pure, Bool.and_true])
theorem ret_Args22_0 (p g r z : Int) (hC : Ret Tryz.prog GEs 122 [cx p g r, .emp] (i64 z)) :
    Ret Tryz.prog GEs 45 [cx p g r, .emp] (i64 z) := by
  have hX := ret_Ctx p g r
  unfold cx at *
  refine RetN_start Tryz.func45 (by kernel_rfl) rfl fun Q hQ hQ2 => ?_; rw [Tryz.ntmps45]; simp only [u, i64, Nat.reduceSub, Nat.reduceAdd, bm]
  (refine gO ?_)
  refine G_loop ?_
  refine G_round ?_
  repeat (first | (refine gC ?_; first | refine aA ?_ | ((first | refine cR hX ?_ | refine cR hC ?_); refine sX ?_; try refine aA ?_)) | ((first | refine cR hX ?_ | refine cR hC ?_); refine sX ?_; try refine aA ?_) | refine gS ?_)
  (refine FinQ hQ (congrArg Array.toList Tryz.results45) _ _ ?_); simp (disch := omega) only [u, i64, ax, if_true, forall_const, reduceCtorEq, implies_true, tvs, bf]
theorem ret_Args22_3 (p g r z : Int) (d c b : DI) (hC : Ret Tryz.prog GEs 122 [cx p g r, .lst 3 [i64 d.k, .bool d.neg, ws d.cs, i64 d.e, i64 c.k, .bool c.neg, ws c.cs, i64 c.e, i64 b.k, .bool b.neg, ws b.cs, i64 b.e]] (i64 z)) :
    Ret Tryz.prog GEs 45 [cx p g r, .lst 3 [i64 d.k, .bool d.neg, ws d.cs, i64 d.e, i64 c.k, .bool c.neg, ws c.cs, i64 c.e, i64 b.k, .bool b.neg, ws b.cs, i64 b.e]] (i64 z) := by
  have hX := ret_Ctx p g r
  have t1 := ret_TheirD d.k d.e d.neg d.cs
  have t2 := ret_TheirD c.k c.e c.neg c.cs
  have t3 := ret_TheirD b.k b.e b.neg b.cs
  unfold cx at *
  refine RetN_start Tryz.func45 (by kernel_rfl) rfl fun Q hQ hQ2 => ?_; rw [Tryz.ntmps45]; simp only [u, i64, Nat.reduceSub, Nat.reduceAdd, bm]
  (refine gO ?_)
  refine G_loop ?_
  refine G_round ?_
  (refine gO ?_)
  (refine gC ?_)
  (refine cR t1 ?_; refine sX ?_; try refine aA ?_)
  refine ⟨⟨rfl, rfl⟩, ?_⟩
  simp (disch := omega) only [u, i64, ax, eq_self, if_true, if_false, Nat.reduceAdd, Int.reduceToNat, Int.reduceAdd, tvs, bs, Nat.reduceMul, List.take_succ_cons, List.take_zero, List.nil_append, List.cons_append, List.append_nil, Nat.reduceLeDiff]
  refine aft_any ?_
  (refine gO ?_)
  refine G_round ?_
  (refine gO ?_)
  (refine gC ?_)
  (refine cR t2 ?_; refine sX ?_; try refine aA ?_)
  refine ⟨⟨rfl, rfl⟩, ?_⟩
  simp (disch := omega) only [u, i64, ax, eq_self, if_true, if_false, Nat.reduceAdd, Int.reduceToNat, Int.reduceAdd, tvs, bs, Nat.reduceMul, List.take_succ_cons, List.take_zero, List.nil_append, List.cons_append, List.append_nil, Nat.reduceLeDiff]
  refine aft_any ?_
  (refine gO ?_)
  refine G_round ?_
  (refine gO ?_)
  (refine gC ?_)
  (refine cR t3 ?_; refine sX ?_; try refine aA ?_)
  refine ⟨⟨rfl, rfl⟩, ?_⟩
  simp (disch := omega) only [u, i64, ax, eq_self, if_true, if_false, Nat.reduceAdd, Int.reduceToNat, Int.reduceAdd, tvs, bs, Nat.reduceMul, List.take_succ_cons, List.take_zero, List.nil_append, List.cons_append, List.append_nil, Nat.reduceLeDiff]
  refine aft_any ?_
  (refine gO ?_)
  refine G_round ?_
  (refine gO ?_)
  refine G_cool1 ?_
  (refine gC ?_)
  (refine cR hX ?_; refine sX ?_; try refine aA ?_)
  refine callK_ret hC (by (simp (disch := omega) only [if_true, forall_const, reduceCtorEq, implies_true, bz]); rw [fzO_s3]; rfl) ?_
  simp (disch := omega) only [u, i64, ax, eq_self, if_true, if_false, Nat.reduceAdd, Int.reduceToNat, Int.reduceAdd, tvs, bs]
  refine aft_any ?_
  (refine gO ?_)
  (refine FinQ hQ (congrArg Array.toList Tryz.results45) _ _ ?_); simp (disch := omega) only [u, i64, ax, if_true, forall_const, reduceCtorEq, implies_true, tvs, bf]
theorem ret_Args2b (p g r : Int) (r1 : -9223372036854775808 ≤ r) (r2 : r < 9223372036854775808) (hb : ¬ okC p g r) (d c : DI) (h : d.ok) (h2 : c.ok) : Ret Tryz.prog GEs 116 [cx p g r, .bool false, .lst 2 [i64 d.k, .bool d.neg, ws d.cs, i64 d.e, i64 c.k, .bool c.neg, ws c.cs, i64 c.e]] (.tup [.lst 0 [], i64 220]) := by
  have hS := ret_sizes2 d c (Nat.le_trans h.len (by decide)) (Nat.le_trans h2.len (by decide))
  have hC := ret_DCheck p g r r1 r2
  rw [if_neg hb] at hC
  clear hb
  unfold cx at *
  refine RetN_start Tryz.func116 (by kernel_rfl) rfl fun Q hQ hQ2 => ?_; rw [Tryz.ntmps116]; simp only [u, i64, Nat.reduceSub, Nat.reduceAdd, bm]
  repeat (first | (refine gC ?_; first | refine aA ?_ | ((first | refine cR hS ?_ | refine cR hC ?_); refine sX ?_; try refine aA ?_)) | ((first | refine cR hS ?_ | refine cR hC ?_); refine sX ?_; try refine aA ?_) | refine gS ?_)
  (refine FinQ hQ (congrArg Array.toList Tryz.results116) _ _ ?_); simp (disch := omega) only [u, i64, ax, if_true, forall_const, reduceCtorEq, implies_true, tvs, bf]
theorem ret_Args3b (p g r : Int) (r1 : -9223372036854775808 ≤ r) (r2 : r < 9223372036854775808) (hb : ¬ okC p g r) (d c b : DI) (h : d.ok) (h2 : c.ok) (h3 : b.ok) : Ret Tryz.prog GEs 116 [cx p g r, .bool false, .lst 3 [i64 d.k, .bool d.neg, ws d.cs, i64 d.e, i64 c.k, .bool c.neg, ws c.cs, i64 c.e, i64 b.k, .bool b.neg, ws b.cs, i64 b.e]] (.tup [.lst 0 [], i64 220]) := by
  have hS := ret_sizes3 d c b (Nat.le_trans h.len (by decide)) (Nat.le_trans h2.len (by decide)) (Nat.le_trans h3.len (by decide))
  have hC := ret_DCheck p g r r1 r2
  rw [if_neg hb] at hC
  clear hb
  unfold cx at *
  refine RetN_start Tryz.func116 (by kernel_rfl) rfl fun Q hQ hQ2 => ?_; rw [Tryz.ntmps116]; simp only [u, i64, Nat.reduceSub, Nat.reduceAdd, bm]
  repeat (first | (refine gC ?_; first | refine aA ?_ | ((first | refine cR hS ?_ | refine cR hC ?_); refine sX ?_; try refine aA ?_)) | ((first | refine cR hS ?_ | refine cR hC ?_); refine sX ?_; try refine aA ?_) | refine gS ?_)
  (refine FinQ hQ (congrArg Array.toList Tryz.results116) _ _ ?_); simp (disch := omega) only [u, i64, ax, if_true, forall_const, reduceCtorEq, implies_true, tvs, bf]
theorem ret_Args1o (p g r : Int) (d : DI) (h : d.ok) : Ret Tryz.prog GEs 116 [cx p g r, .bool true, .lst 1 [i64 d.k, .bool d.neg, ws d.cs, i64 d.e]] (.tup [.lst 0 [], i64 1]) := by
  have hS := ret_sizes1 d (Nat.le_trans h.len (by decide))
  unfold cx at *
  refine RetN_start Tryz.func116 (by kernel_rfl) rfl fun Q hQ hQ2 => ?_; rw [Tryz.ntmps116]; simp only [u, i64, Nat.reduceSub, Nat.reduceAdd, bm]
  repeat (first | (refine gC ?_; first | refine aA ?_ | (refine cR hS ?_; refine sX ?_; try refine aA ?_)) | (refine cR hS ?_; refine sX ?_; try refine aA ?_) | refine gS ?_)
  (refine FinQ hQ (congrArg Array.toList Tryz.results116) _ _ ?_); simp (disch := omega) only [u, i64, ax, if_true, forall_const, reduceCtorEq, implies_true, tvs, bf]
theorem ret_twoB (p g r : Int) (r1 : -9223372036854775808 ≤ r) (r2 : r < 9223372036854775808) (hb : ¬ okC p g r) (d c : DI) (h1 : d.ok) (h2 : c.ok) (N : Nat) :
    Ret Tryz.prog GEs 130 [cx p g r, d.av, c.av, .lit (.func (.func N) #[] #[])] (.tup [dv zD, i64 0, i64 220]) := by
  have hA := ret_Args2b p g r r1 r2 hb d c h1 h2
  clear hb
  rw [dvz]
  unfold DI.av cx at *
  refine RetN_start Tryz.func130 (by kernel_rfl) rfl fun Q hQ hQ2 => ?_; rw [Tryz.ntmps130]; simp only [u, i64, Nat.reduceSub, Nat.reduceAdd, bm]
  (refine gO ?_)
  (refine gC ?_)
  simp (disch := omega) only [u, i64, ax, eq_self, if_true, if_false, Nat.reduceAdd, Int.reduceToNat, Int.reduceAdd, tvs, bs, Nat.reduceMul, List.take_succ_cons, List.take_zero, List.nil_append, List.cons_append, List.append_nil, Nat.reduceLeDiff]
  repeat (first | (refine gC ?_; first | refine aA ?_ | (refine cR hA ?_; refine sX ?_; try refine aA ?_)) | (refine cR hA ?_; refine sX ?_; try refine aA ?_) | refine gS ?_)
  (refine FinQ hQ (congrArg Array.toList Tryz.results130) _ _ ?_); simp (disch := omega) only [u, i64, ax, if_true, forall_const, reduceCtorEq, implies_true, tvs, bf]
theorem ret_DAddB (p g r : Int) (r1 : -9223372036854775808 ≤ r) (r2 : r < 9223372036854775808) (hb : ¬ okC p g r) (d c : DI) (h1 : d.ok) (h2 : c.ok) : Ret Tryz.prog GEs 50 [cx p g r, d.av, c.av] (.tup [dv zD, i64 0, i64 220]) := by
  have hT := ret_twoB p g r r1 r2 hb d c h1 h2 131
  rw [dvz] at *
  clear hb
  unfold DI.av cx at *
  refine RetN_start Tryz.func50 (by kernel_rfl) rfl fun Q hQ hQ2 => ?_; rw [Tryz.ntmps50]; simp only [u, i64, Nat.reduceSub, Nat.reduceAdd, bm]
  repeat (first | (refine gC ?_; first | refine aA ?_ | (refine cR hT ?_; refine sX ?_; try refine aA ?_)) | (refine cR hT ?_; refine sX ?_; try refine aA ?_) | refine gS ?_)
  (refine FinQ hQ (congrArg Array.toList Tryz.results50) _ _ ?_); simp (disch := omega) only [u, i64, ax, if_true, forall_const, reduceCtorEq, implies_true, tvs, bf]
theorem ret_DMulB (p g r : Int) (r1 : -9223372036854775808 ≤ r) (r2 : r < 9223372036854775808) (hb : ¬ okC p g r) (d c : DI) (h1 : d.ok) (h2 : c.ok) : Ret Tryz.prog GEs 57 [cx p g r, d.av, c.av] (.tup [dv zD, i64 0, i64 220]) := by
  have hT := ret_twoB p g r r1 r2 hb d c h1 h2 142
  rw [dvz] at *
  clear hb
  unfold DI.av cx at *
  refine RetN_start Tryz.func57 (by kernel_rfl) rfl fun Q hQ hQ2 => ?_; rw [Tryz.ntmps57]; simp only [u, i64, Nat.reduceSub, Nat.reduceAdd, bm]
  repeat (first | (refine gC ?_; first | refine aA ?_ | (refine cR hT ?_; refine sX ?_; try refine aA ?_)) | (refine cR hT ?_; refine sX ?_; try refine aA ?_) | refine gS ?_)
  (refine FinQ hQ (congrArg Array.toList Tryz.results57) _ _ ?_); simp (disch := omega) only [u, i64, ax, if_true, forall_const, reduceCtorEq, implies_true, tvs, bf]
theorem ret_DPlusB (p g r : Int) (r1 : -9223372036854775808 ≤ r) (r2 : r < 9223372036854775808) (hb : ¬ okC p g r) (d : DI) (h : d.ok) : Ret Tryz.prog GEs 54 [cx p g r, d.av] (.tup [dv zD, i64 0, i64 220]) := by
  have hC := ret_DCheck p g r r1 r2
  rw [if_neg hb] at hC
  have hl := h.len
  rw [dvz]
  clear hb
  unfold DI.av cx at *
  refine RetN_start Tryz.func54 (by kernel_rfl) rfl fun Q hQ hQ2 => ?_; rw [Tryz.ntmps54]; simp only [u, i64, Nat.reduceSub, Nat.reduceAdd, bm]
  repeat (first | (refine gC ?_; first | refine aA ?_ | (refine cR hC ?_; refine sX ?_; try refine aA ?_)) | (refine cR hC ?_; refine sX ?_; try refine aA ?_) | refine gS ?_)
  (refine FinQ hQ (congrArg Array.toList Tryz.results54) _ _ ?_); simp (disch := omega) only [u, i64, ax, if_true, forall_const, reduceCtorEq, implies_true, tvs, bf]
theorem ret_DQuantizeB (p g r : Int) (r1 : -9223372036854775808 ≤ r) (r2 : r < 9223372036854775808) (hb : ¬ okC p g r) (d : DI) (h : d.ok) (exp : Int) (he : -1000000 ≤ exp ∧ exp ≤ 1000000) : Ret Tryz.prog GEs 44 [cx p g r, d.av, i64 exp] (.tup [dv zD, i64 0, i64 220]) := by
  have hA := ret_Args1b p g r r1 r2 hb d h
  rw [dvz]
  clear hb
  unfold DI.av cx at *
  refine RetN_start Tryz.func44 (by kernel_rfl) rfl fun Q hQ hQ2 => ?_; rw [Tryz.ntmps44]; simp only [u, i64, Nat.reduceSub, Nat.reduceAdd, bm]
  (refine gO ?_)
  (refine gC ?_)
  simp (disch := omega) only [u, i64, ax, eq_self, if_true, if_false, Nat.reduceAdd, Int.reduceToNat, Int.reduceAdd, tvs, bs, Nat.reduceMul, List.take_succ_cons, List.take_zero, List.nil_append, List.cons_append, List.append_nil, Nat.reduceLeDiff]
  repeat (first | (refine gC ?_; first | refine aA ?_ | (refine cR hA ?_; refine sX ?_; try refine aA ?_)) | (refine cR hA ?_; refine sX ?_; try refine aA ?_) | refine gS ?_)
  (refine FinQ hQ (congrArg Array.toList Tryz.results44) _ _ ?_); simp (disch := omega) only [u, i64, ax, if_true, forall_const, reduceCtorEq, implies_true, tvs, bf]
theorem ret_DQuantizeO (p g r : Int) (d : DI) (h : d.ok) (exp : Int) (e1 : -9223372036854775808 ≤ exp) (e2 : exp < 9223372036854775808) (he : ¬ (-1000000 ≤ exp ∧ exp ≤ 1000000)) : Ret Tryz.prog GEs 44 [cx p g r, d.av, i64 exp] (.tup [dv zD, i64 0, i64 1]) := by
  have hA := ret_Args1o p g r d h
  rw [dvz]
  unfold DI.av cx at *
  by_cases h1 : exp < -1000000
  · refine RetN_start Tryz.func44 (by kernel_rfl) rfl fun Q hQ hQ2 => ?_; rw [Tryz.ntmps44]; simp only [u, i64, Nat.reduceSub, Nat.reduceAdd, bm]
    (refine gO ?_)
    (refine gC ?_)
    simp (disch := omega) only [u, i64, ax, eq_self, if_true, if_false, Nat.reduceAdd, Int.reduceToNat, Int.reduceAdd, tvs, bs, Nat.reduceMul, List.take_succ_cons, List.take_zero, List.nil_append, List.cons_append, List.append_nil, Nat.reduceLeDiff]
    repeat (first | (refine gC ?_; first | refine aA ?_ | (refine cR hA ?_; refine sX ?_; try refine aA ?_)) | (refine cR hA ?_; refine sX ?_; try refine aA ?_) | refine gS ?_)
    (refine FinQ hQ (congrArg Array.toList Tryz.results44) _ _ ?_); simp (disch := omega) only [u, i64, ax, if_true, forall_const, reduceCtorEq, implies_true, tvs, bf]
  · have h3 : 1000000 < exp := by omega
    refine RetN_start Tryz.func44 (by kernel_rfl) rfl fun Q hQ hQ2 => ?_; rw [Tryz.ntmps44]; simp only [u, i64, Nat.reduceSub, Nat.reduceAdd, bm]
    (refine gO ?_)
    (refine gC ?_)
    simp (disch := omega) only [u, i64, ax, eq_self, if_true, if_false, Nat.reduceAdd, Int.reduceToNat, Int.reduceAdd, tvs, bs, Nat.reduceMul, List.take_succ_cons, List.take_zero, List.nil_append, List.cons_append, List.append_nil, Nat.reduceLeDiff]
    repeat (first | (refine gC ?_; first | refine aA ?_ | (refine cR hA ?_; refine sX ?_; try refine aA ?_)) | (refine cR hA ?_; refine sX ?_; try refine aA ?_) | refine gS ?_)
    (refine FinQ hQ (congrArg Array.toList Tryz.results44) _ _ ?_); simp (disch := omega) only [u, i64, ax, if_true, forall_const, reduceCtorEq, implies_true, tvs, bf]
/-- A product and a third number. -/
theorem ret_DFused (p : Nat) (g : Int) (r : Nat) (hp : 1 ≤ p ∧ p ≤ 400) (hg : 1 ≤ g ∧ g ≤ 6000) (hr : r ≤ 4) (d c b : DI) (h1 : d.ok) (h2 : c.ok) (h3 : b.ok) :
    Ret Tryz.prog GEs 59 [cx p g r, d.av, c.av, b.av] (if d.okIn p g ∧ c.okIn p g ∧ b.okIn p g then .tup [dv (fusedD p g r d.D c.D b.D).1, i64 (fusedD p g r d.D c.D b.D).2, i64 0] else .tup [dv zD, i64 0, i64 221]) := by
  have hA := ret_Args3 p g r hp hg hr d c b h1 h2 h3
  by_cases h : d.okIn p g ∧ c.okIn p g ∧ b.okIn p g
  · rw [if_pos h] at hA ⊢
    obtain ⟨a1, a2, a3, a4⟩ := okIn_facts hp hg h.1
    obtain ⟨b1, b2, b3, b4⟩ := okIn_facts hp hg h.2.1
    obtain ⟨c1, c2, c3, c4⟩ := okIn_facts hp hg h.2.2
    have e1 := dexp_b hp hg h.1
    have e2 := dexp_b hp hg h.2.1
    have ll1 := d.len_le h1
    have ll2 := c.len_le h2
    have ll3 := b.len_le h3
    have hT := ret_dtimes d.D c.D a1 b1 (by omega) (by omega) (by omega) (by omega)
    obtain ⟨t1, t2, t3, t4⟩ := timesD_len d.D c.D a1 b1 ll1 ll2 e1 e2
    have hS := ret_dadd p g r (timesD d.D c.D).1 b.D hp hg hr t1 c1 t2 (by omega) ⟨t3, t4⟩ (by omega)
    have kb : b.k = 2 ↔ b.D.kind = 2 := by have := (goodD_right h.2.2.1).2; show b.k = 2 ↔ b.k.toNat = 2; omega
    have hnb := fun hk => nanD_of c4 hk
    have db := DI.dv_eq h.2.2.1
    rw [DI.dv_eq h.1.1, DI.dv_eq h.2.1.1] at hT
    rw [db] at hS
    unfold fusedD
    by_cases k2 : b.D.kind = 2
    · rw [if_pos k2]
      rw [hnb k2] at db
      rw [db]
      have kk := kb.2 k2
      clear hT hS hnb kb c1 c2 c3 c4 db k2
      unfold DI.av cx at *
      generalize val d.cs = v1 at *
      generalize val c.cs = v2 at *
      generalize val b.cs = v3 at *
      refine RetN_start Tryz.func59 (by kernel_rfl) rfl fun Q hQ hQ2 => ?_; rw [Tryz.ntmps59]; simp only [u, i64, Nat.reduceSub, Nat.reduceAdd, bm]
      (refine gO ?_)
      (refine gC ?_)
      simp (disch := omega) only [u, i64, ax, eq_self, if_true, if_false, Nat.reduceAdd, Int.reduceToNat, Int.reduceAdd, tvs, bs, Nat.reduceMul, List.take_succ_cons, List.take_zero, List.nil_append, List.cons_append, List.append_nil, Nat.reduceLeDiff]
      repeat (first | (refine gC ?_; first | refine aA ?_ | (refine cR hA ?_; refine sX ?_; try refine aA ?_)) | (refine cR hA ?_; refine sX ?_; try refine aA ?_) | refine gS ?_)
      (refine FinQ hQ (congrArg Array.toList Tryz.results59) _ _ ?_); simp (disch := omega) only [u, i64, ax, if_true, forall_const, reduceCtorEq, implies_true, tvs, bf]
      all_goals rfl
    · rw [if_neg k2]
      have kk : ¬ b.k = 2 := fun h => k2 (kb.1 h)
      clear hnb kb c1 c2 c3 c4 db k2
      generalize timesD d.D c.D = t at *
      obtain ⟨t, ok⟩ := t
      simp only at *
      cases ok with
      | false =>
        rw [if_neg (by decide)]
        unfold nanD
        unfold DI.av dv cx at *
        generalize val d.cs = v1 at *
        generalize val c.cs = v2 at *
        generalize val b.cs = v3 at *
        refine RetN_start Tryz.func59 (by kernel_rfl) rfl fun Q hQ hQ2 => ?_; rw [Tryz.ntmps59]; simp only [u, i64, Nat.reduceSub, Nat.reduceAdd, bm]
        (refine gO ?_)
        (refine gC ?_)
        simp (disch := omega) only [u, i64, ax, eq_self, if_true, if_false, Nat.reduceAdd, Int.reduceToNat, Int.reduceAdd, tvs, bs, Nat.reduceMul, List.take_succ_cons, List.take_zero, List.nil_append, List.cons_append, List.append_nil, Nat.reduceLeDiff]
        repeat (first | (refine gC ?_; first | refine aA ?_ | ((first | refine cR hA ?_ | refine cR hT ?_); refine sX ?_; try refine aA ?_)) | ((first | refine cR hA ?_ | refine cR hT ?_); refine sX ?_; try refine aA ?_) | refine gS ?_)
        (refine FinQ hQ (congrArg Array.toList Tryz.results59) _ _ ?_); simp (disch := omega) only [u, i64, ax, if_true, forall_const, reduceCtorEq, implies_true, tvs, bf]
        all_goals rfl
      | true =>
        rw [if_pos rfl]
        generalize addD p g r t b.D = y at *
        unfold DI.av dv cx at *
        generalize val d.cs = v1 at *
        generalize val c.cs = v2 at *
        generalize val b.cs = v3 at *
        refine RetN_start Tryz.func59 (by kernel_rfl) rfl fun Q hQ hQ2 => ?_; rw [Tryz.ntmps59]; simp only [u, i64, Nat.reduceSub, Nat.reduceAdd, bm]
        (refine gO ?_)
        (refine gC ?_)
        simp (disch := omega) only [u, i64, ax, eq_self, if_true, if_false, Nat.reduceAdd, Int.reduceToNat, Int.reduceAdd, tvs, bs, Nat.reduceMul, List.take_succ_cons, List.take_zero, List.nil_append, List.cons_append, List.append_nil, Nat.reduceLeDiff]
        repeat (first | (refine gC ?_; first | refine aA ?_ | ((first | refine cR hA ?_ | refine cR hT ?_ | refine cR hS ?_); refine sX ?_; try refine aA ?_)) | ((first | refine cR hA ?_ | refine cR hT ?_ | refine cR hS ?_); refine sX ?_; try refine aA ?_) | refine gS ?_)
        (refine FinQ hQ (congrArg Array.toList Tryz.results59) _ _ ?_); simp (disch := omega) only [u, i64, ax, if_true, forall_const, reduceCtorEq, implies_true, tvs, bf]
        all_goals rfl
  · rw [if_neg h] at hA ⊢
    rw [dvz]
    unfold DI.av cx at *
    refine RetN_start Tryz.func59 (by kernel_rfl) rfl fun Q hQ hQ2 => ?_; rw [Tryz.ntmps59]; simp only [u, i64, Nat.reduceSub, Nat.reduceAdd, bm]
    (refine gO ?_)
    (refine gC ?_)
    simp (disch := omega) only [u, i64, ax, eq_self, if_true, if_false, Nat.reduceAdd, Int.reduceToNat, Int.reduceAdd, tvs, bs, Nat.reduceMul, List.take_succ_cons, List.take_zero, List.nil_append, List.cons_append, List.append_nil, Nat.reduceLeDiff]
    repeat (first | (refine gC ?_; first | refine aA ?_ | (refine cR hA ?_; refine sX ?_; try refine aA ?_)) | (refine cR hA ?_; refine sX ?_; try refine aA ?_) | refine gS ?_)
    (refine FinQ hQ (congrArg Array.toList Tryz.results59) _ _ ?_); simp (disch := omega) only [u, i64, ax, if_true, forall_const, reduceCtorEq, implies_true, tvs, bf]
theorem ret_DFusedB (p g r : Int) (r1 : -9223372036854775808 ≤ r) (r2 : r < 9223372036854775808) (hb : ¬ okC p g r) (d c b : DI) (h1 : d.ok) (h2 : c.ok) (h3 : b.ok) : Ret Tryz.prog GEs 59 [cx p g r, d.av, c.av, b.av] (.tup [dv zD, i64 0, i64 220]) := by
  have hA := ret_Args3b p g r r1 r2 hb d c b h1 h2 h3
  rw [dvz]
  clear hb
  unfold DI.av cx at *
  refine RetN_start Tryz.func59 (by kernel_rfl) rfl fun Q hQ hQ2 => ?_; rw [Tryz.ntmps59]; simp only [u, i64, Nat.reduceSub, Nat.reduceAdd, bm]
  (refine gO ?_)
  (refine gC ?_)
  simp (disch := omega) only [u, i64, ax, eq_self, if_true, if_false, Nat.reduceAdd, Int.reduceToNat, Int.reduceAdd, tvs, bs, Nat.reduceMul, List.take_succ_cons, List.take_zero, List.nil_append, List.cons_append, List.append_nil, Nat.reduceLeDiff]
  repeat (first | (refine gC ?_; first | refine aA ?_ | (refine cR hA ?_; refine sX ?_; try refine aA ?_)) | (refine cR hA ?_; refine sX ?_; try refine aA ?_) | refine gS ?_)
  (refine FinQ hQ (congrArg Array.toList Tryz.results59) _ _ ?_); simp (disch := omega) only [u, i64, ax, if_true, forall_const, reduceCtorEq, implies_true, tvs, bf]
/-- A number with the other sign. -/
def minD (x : DV) : DV := ⟨x.kind, !x.neg && decide (x.kind ≠ 2), x.coef, x.exp⟩
end Go.Proofs
