/-
  Contracts of functions of the program, each proved by a walk.
-/
import Derived.Test.YtpnljnmpocobjaaGreatDoorZ25
import Derived.Test.YtpnljnmpocobjaaGreatDoorZ23
import Derived.Test.YtpnljnmpocobjaaGreatDoorZ27
import Derived.Test.YtpnljnmpocobjaaGreatDoorZ9
import Derived.Test.YtpnljnmpocobjaaGreatDoorZ26
import Derived.Test.YtpnljnmpocobjaaGreatDoorZ28
set_option maxRecDepth 100000
set_option linter.unusedVariables false
set_option linter.unusedSimpArgs false
namespace Go.Proofs
open Go.Ax
theorem ret_sign15 (z : Int) (h1 : -4611686018427387904 ≤ z) (h2 : z ≤ 4611686018427387904) : Ret Tryz.prog GEs 87 [i64 z] (i64 (sgnI z)) := by
  unfold sgnI
  by_cases c1 : z < 0
  · rw [if_pos c1]
    refine RetN_start Tryz.func87 (by kernel_rfl) rfl fun Q hQ hQ2 => ?_; rw [Tryz.ntmps87]; simp only [u, i64, Nat.reduceSub, Nat.reduceAdd, bm]
    (refine gO ?_)
    (refine FinQ hQ (congrArg Array.toList Tryz.results87) _ _ ?_); simp (disch := omega) only [u, i64, ax, if_true, forall_const, reduceCtorEq, implies_true, tvs, bf]
  · rw [if_neg c1]
    by_cases c2 : 0 < z
    · rw [if_pos c2]
      refine RetN_start Tryz.func87 (by kernel_rfl) rfl fun Q hQ hQ2 => ?_; rw [Tryz.ntmps87]; simp only [u, i64, Nat.reduceSub, Nat.reduceAdd, bm]
      (refine gO ?_)
      (refine FinQ hQ (congrArg Array.toList Tryz.results87) _ _ ?_); simp (disch := omega) only [u, i64, ax, if_true, forall_const, reduceCtorEq, implies_true, tvs, bf]
    · rw [if_neg c2]
      refine RetN_start Tryz.func87 (by kernel_rfl) rfl fun Q hQ hQ2 => ?_; rw [Tryz.ntmps87]; simp only [u, i64, Nat.reduceSub, Nat.reduceAdd, bm]
      (refine gO ?_)
      (refine FinQ hQ (congrArg Array.toList Tryz.results87) _ _ ?_); simp (disch := omega) only [u, i64, ax, if_true, forall_const, reduceCtorEq, implies_true, tvs, bf]
theorem ret_rank15 (x : FV) (hk : x.kind ≤ 2) : Ret Tryz.prog GEs 86 [flv x] (i64 (rkF x)) := by
  obtain ⟨kd, neg, e, m⟩ := x
  simp only at hk
  have h3 : kd = 0 ∨ kd = 1 ∨ kd = 2 := by omega
  unfold rkF flv
  simp only
  rcases h3 with rfl | rfl | rfl <;> cases neg
  · show Ret Tryz.prog GEs 86 [.agg [i64 0, .bool false, i64 e, nat m]] (i64 0)
    refine RetN_start Tryz.func86 (by kernel_rfl) rfl fun Q hQ hQ2 => ?_; rw [Tryz.ntmps86]; simp only [u, i64, Nat.reduceSub, Nat.reduceAdd, bm]
    (refine gO ?_)
    (refine FinQ hQ (congrArg Array.toList Tryz.results86) _ _ ?_); simp (disch := omega) only [u, i64, ax, if_true, forall_const, reduceCtorEq, implies_true, tvs, bf]
  · show Ret Tryz.prog GEs 86 [.agg [i64 0, .bool true, i64 e, nat m]] (i64 0)
    refine RetN_start Tryz.func86 (by kernel_rfl) rfl fun Q hQ hQ2 => ?_; rw [Tryz.ntmps86]; simp only [u, i64, Nat.reduceSub, Nat.reduceAdd, bm]
    (refine gO ?_)
    (refine FinQ hQ (congrArg Array.toList Tryz.results86) _ _ ?_); simp (disch := omega) only [u, i64, ax, if_true, forall_const, reduceCtorEq, implies_true, tvs, bf]
    all_goals rfl
  · show Ret Tryz.prog GEs 86 [.agg [i64 1, .bool false, i64 e, nat m]] (i64 1)
    refine RetN_start Tryz.func86 (by kernel_rfl) rfl fun Q hQ hQ2 => ?_; rw [Tryz.ntmps86]; simp only [u, i64, Nat.reduceSub, Nat.reduceAdd, bm]
    (refine gO ?_)
    (refine FinQ hQ (congrArg Array.toList Tryz.results86) _ _ ?_); simp (disch := omega) only [u, i64, ax, if_true, forall_const, reduceCtorEq, implies_true, tvs, bf]
  · show Ret Tryz.prog GEs 86 [.agg [i64 1, .bool true, i64 e, nat m]] (i64 (-1))
    refine RetN_start Tryz.func86 (by kernel_rfl) rfl fun Q hQ hQ2 => ?_; rw [Tryz.ntmps86]; simp only [u, i64, Nat.reduceSub, Nat.reduceAdd, bm]
    (refine gO ?_)
    (refine FinQ hQ (congrArg Array.toList Tryz.results86) _ _ ?_); simp (disch := omega) only [u, i64, ax, if_true, forall_const, reduceCtorEq, implies_true, tvs, bf]
    all_goals rfl
  · show Ret Tryz.prog GEs 86 [.agg [i64 2, .bool false, i64 e, nat m]] (i64 2)
    refine RetN_start Tryz.func86 (by kernel_rfl) rfl fun Q hQ hQ2 => ?_; rw [Tryz.ntmps86]; simp only [u, i64, Nat.reduceSub, Nat.reduceAdd, bm]
    (refine gO ?_)
    (refine FinQ hQ (congrArg Array.toList Tryz.results86) _ _ ?_); simp (disch := omega) only [u, i64, ax, if_true, forall_const, reduceCtorEq, implies_true, tvs, bf]
  · show Ret Tryz.prog GEs 86 [.agg [i64 2, .bool true, i64 e, nat m]] (i64 (-2))
    refine RetN_start Tryz.func86 (by kernel_rfl) rfl fun Q hQ hQ2 => ?_; rw [Tryz.ntmps86]; simp only [u, i64, Nat.reduceSub, Nat.reduceAdd, bm]
    (refine gO ?_)
    (refine FinQ hQ (congrArg Array.toList Tryz.results86) _ _ ?_); simp (disch := omega) only [u, i64, ax, if_true, forall_const, reduceCtorEq, implies_true, tvs, bf]
    all_goals rfl
theorem ret_Exp15 (k e : Int) (neg : Bool) (m : Nat) (hl : (words m).length ≤ 10000) (h1 : -1000000 ≤ e) (h2 : e ≤ 1000000) : Ret Tryz.prog GEs 176 [.agg [i64 k, .bool neg, i64 e, nat m]] (i64 ((bl m : Int) - 1 + e)) := by
  have hL := ret_rLen (words m) (Wd_words _) (by omega)
  rw [val_words] at hL
  have hb := bl_len m
  by_cases h0 : 1 ≤ bl m
  · rw [show (bl m : Int) - 1 + e = ((bl m - 1 : Nat) : Int) + e by omega]
    refine RetN_start Tryz.func176 (by kernel_rfl) rfl fun Q hQ hQ2 => ?_; rw [Tryz.ntmps176]; simp only [u, i64, Nat.reduceSub, Nat.reduceAdd, bm]
    repeat (first | (refine gC ?_; first | refine aA ?_ | (refine cR hL ?_; refine sX ?_; try refine aA ?_)) | (refine cR hL ?_; refine sX ?_; try refine aA ?_) | refine gS ?_)
    (refine FinQ hQ (congrArg Array.toList Tryz.results176) _ _ ?_); simp (disch := omega) only [u, i64, ax, if_true, forall_const, reduceCtorEq, implies_true, tvs, bf]
  · refine RetN_start Tryz.func176 (by kernel_rfl) rfl fun Q hQ hQ2 => ?_; rw [Tryz.ntmps176]; simp only [u, i64, Nat.reduceSub, Nat.reduceAdd, bm]
    repeat (first | (refine gC ?_; first | refine aA ?_ | (refine cR hL ?_; refine sX ?_; try refine aA ?_)) | (refine cR hL ?_; refine sX ?_; try refine aA ?_) | refine gS ?_)
    (refine FinQ hQ (congrArg Array.toList Tryz.results176) _ _ ?_); simp (disch := omega) only [u, i64, ax, if_true, forall_const, reduceCtorEq, implies_true, tvs, bf]
set_option maxRecDepth 100000 in
set_option maxHeartbeats 2000000 in
theorem ret_size15 (k k' e e' : Int) (neg neg' : Bool) (m m' : Nat) (hl : (words m).length ≤ 5000) (hl' : (words m').length ≤ 5000) (h1 : -400000 ≤ e) (h2 : e ≤ 400000) (h3 : -400000 ≤ e') (h4 : e' ≤ 400000) :
    Ret Tryz.prog GEs 88 [.agg [i64 k, .bool neg, i64 e, nat m], .agg [i64 k', .bool neg', i64 e', nat m']] (i64 (szF m e m' e')) := by
  have hE := ret_Exp15 k e neg m (by omega) (by omega) (by omega)
  have hE' := ret_Exp15 k' e' neg' m' (by omega) (by omega) (by omega)
  have hb := bl_len m
  have hb' := bl_len m'
  unfold szF
  have eA : ∀ m k : Nat, bl m ≤ 320000 → k ≤ 900000 → (words (m * 2 ^ k)).length ≤ 20001 := fun m k h1 h2 => by
    by_cases h0 : m = 0
    · subst h0; rw [Nat.zero_mul]; decide
    · exact length_bl (by rw [bl_mul _ _ h0]; omega)
  by_cases c1 : (bl m : Int) - 1 + e = (bl m' : Int) - 1 + e'
  · rw [if_neg (not_not_intro c1)]
    by_cases c2 : e' ≤ e
    · rw [if_pos c2]
      have hL := ret_rLeft (words m) (e - e').toNat (Wd_words _) (by omega) (by omega)
      rw [val_words] at hL
      have hlen := eA m (e - e').toNat (by omega) (by omega)
      have hC := ret_rCmp (words (m * 2 ^ (e - e').toNat)) (words m') (Wd_words _) (Wd_words _) (by omega) (by omega)
      rw [val_words, val_words] at hC
      have hs : e - e' = (((e - e').toNat : Nat) : Int) := by omega
      generalize cmpI (m * 2 ^ (e - e').toNat) m' = c at *
      generalize (bl m : Int) - 1 + e = E1 at *
      generalize (bl m' : Int) - 1 + e' = E2 at *
      generalize m * 2 ^ (e - e').toNat = M at *
      generalize (e - e').toNat = t at *
      refine RetN_start Tryz.func88 (by kernel_rfl) rfl fun Q hQ hQ2 => ?_; rw [Tryz.ntmps88]; simp only [u, i64, Nat.reduceSub, Nat.reduceAdd, bm]
      repeat (first | (refine gC ?_; first | refine aA ?_ | ((first | refine cR hE ?_ | refine cR hE' ?_); refine sX ?_; try refine aA ?_)) | ((first | refine cR hE ?_ | refine cR hE' ?_); refine sX ?_; try refine aA ?_) | refine gS ?_)
      (refine gC ?_)
      rw [hs]
      repeat (first | (refine gC ?_; first | refine aA ?_ | ((first | refine cR hL ?_ | refine cR hC ?_); refine sX ?_; try refine aA ?_)) | ((first | refine cR hL ?_ | refine cR hC ?_); refine sX ?_; try refine aA ?_) | refine gS ?_)
      (refine FinQ hQ (congrArg Array.toList Tryz.results88) _ _ ?_); simp (disch := omega) only [u, i64, ax, if_true, forall_const, reduceCtorEq, implies_true, tvs, bf]
    · rw [if_neg c2]
      have hL := ret_rLeft (words m') (e' - e).toNat (Wd_words _) (by omega) (by omega)
      rw [val_words] at hL
      have hlen := eA m' (e' - e).toNat (by omega) (by omega)
      have hC := ret_rCmp (words m) (words (m' * 2 ^ (e' - e).toNat)) (Wd_words _) (Wd_words _) (by omega) (by omega)
      rw [val_words, val_words] at hC
      have hs : e' - e = (((e' - e).toNat : Nat) : Int) := by omega
      generalize cmpI m (m' * 2 ^ (e' - e).toNat) = c at *
      generalize (bl m : Int) - 1 + e = E1 at *
      generalize (bl m' : Int) - 1 + e' = E2 at *
      generalize m' * 2 ^ (e' - e).toNat = M at *
      generalize (e' - e).toNat = t at *
      refine RetN_start Tryz.func88 (by kernel_rfl) rfl fun Q hQ hQ2 => ?_; rw [Tryz.ntmps88]; simp only [u, i64, Nat.reduceSub, Nat.reduceAdd, bm]
      repeat (first | (refine gC ?_; first | refine aA ?_ | ((first | refine cR hE ?_ | refine cR hE' ?_); refine sX ?_; try refine aA ?_)) | ((first | refine cR hE ?_ | refine cR hE' ?_); refine sX ?_; try refine aA ?_) | refine gS ?_)
      (refine gC ?_)
      rw [hs]
      repeat (first | (refine gC ?_; first | refine aA ?_ | ((first | refine cR hL ?_ | refine cR hC ?_); refine sX ?_; try refine aA ?_)) | ((first | refine cR hL ?_ | refine cR hC ?_); refine sX ?_; try refine aA ?_) | refine gS ?_)
      (refine FinQ hQ (congrArg Array.toList Tryz.results88) _ _ ?_); simp (disch := omega) only [u, i64, ax, if_true, forall_const, reduceCtorEq, implies_true, tvs, bf]
  · rw [if_pos c1]
    have hS := ret_sign15 ((bl m : Int) - 1 + e - ((bl m' : Int) - 1 + e')) (by omega) (by omega)
    have hbd : -4000000 ≤ (bl m : Int) - 1 + e ∧ (bl m : Int) - 1 + e ≤ 4000000 ∧ -4000000 ≤ (bl m' : Int) - 1 + e' ∧ (bl m' : Int) - 1 + e' ≤ 4000000 := by omega
    generalize sgnI ((bl m : Int) - 1 + e - ((bl m' : Int) - 1 + e')) = c at *
    generalize (bl m : Int) - 1 + e = E1 at *
    generalize (bl m' : Int) - 1 + e' = E2 at *
    refine RetN_start Tryz.func88 (by kernel_rfl) rfl fun Q hQ hQ2 => ?_; rw [Tryz.ntmps88]; simp only [u, i64, Nat.reduceSub, Nat.reduceAdd, bm]
    repeat (first | (refine gC ?_; first | refine aA ?_ | ((first | refine cR hE ?_ | refine cR hE' ?_ | refine cR hS ?_); refine sX ?_; try refine aA ?_)) | ((first | refine cR hE ?_ | refine cR hE' ?_ | refine cR hS ?_); refine sX ?_; try refine aA ?_) | refine gS ?_)
    (refine FinQ hQ (congrArg Array.toList Tryz.results88) _ _ ?_); simp (disch := omega) only [u, i64, ax, if_true, forall_const, reduceCtorEq, implies_true, tvs, bf]
set_option maxRecDepth 100000 in
set_option maxHeartbeats 2000000 in
theorem ret_Cmp15 (x y : FV) (hx : x.kind ≤ 2) (hy : y.kind ≤ 2) (hl : (words x.mag).length ≤ 5000) (hl' : (words y.mag).length ≤ 5000) (h1 : -400000 ≤ x.exp) (h2 : x.exp ≤ 400000) (h3 : -400000 ≤ y.exp) (h4 : y.exp ≤ 400000) :
    Ret Tryz.prog GEs 27 [flv x, flv y] (i64 (cpF x y)) := by
  have hr := ret_rank15 x hx
  have hr' := ret_rank15 y hy
  have hz := ret_size15 x.kind y.kind x.exp y.exp x.neg y.neg x.mag y.mag hl hl' h1 h2 h3 h4
  have hb1 : -2 ≤ rkF x ∧ rkF x ≤ 2 := by unfold rkF; split <;> split <;> (try split) <;> omega
  have hb2 : -2 ≤ rkF y ∧ rkF y ≤ 2 := by unfold rkF; split <;> split <;> (try split) <;> omega
  have hS := ret_sign15 (rkF x - rkF y) (by omega) (by omega)
  have hzb : -1 ≤ szF x.mag x.exp y.mag y.exp ∧ szF x.mag x.exp y.mag y.exp ≤ 1 := by
    unfold szF sgnI cmpI
    split
    · split <;> (try split) <;> omega
    · split <;> split <;> (try split) <;> omega
  unfold cpF
  generalize szF x.mag x.exp y.mag y.exp = c at *
  generalize rkF x = a at *
  generalize rkF y = b at *
  unfold flv at *
  generalize sgnI (a - b) = s at *
  by_cases c1 : a ≠ b ∨ (a ≠ 1 ∧ a ≠ -1)
  · rw [if_pos c1]
    by_cases c2 : a = b
    · refine RetN_start Tryz.func27 (by kernel_rfl) rfl fun Q hQ hQ2 => ?_; rw [Tryz.ntmps27]; simp only [u, i64, Nat.reduceSub, Nat.reduceAdd, bm]
      repeat (first | (refine gC ?_; first | refine aA ?_ | ((first | refine cR hr ?_ | refine cR hr' ?_ | refine cR hS ?_); refine sX ?_; try refine aA ?_)) | ((first | refine cR hr ?_ | refine cR hr' ?_ | refine cR hS ?_); refine sX ?_; try refine aA ?_) | refine gS ?_)
      (refine FinQ hQ (congrArg Array.toList Tryz.results27) _ _ ?_); simp (disch := omega) only [u, i64, ax, if_true, forall_const, reduceCtorEq, implies_true, tvs, bf]
    · refine RetN_start Tryz.func27 (by kernel_rfl) rfl fun Q hQ hQ2 => ?_; rw [Tryz.ntmps27]; simp only [u, i64, Nat.reduceSub, Nat.reduceAdd, bm]
      repeat (first | (refine gC ?_; first | refine aA ?_ | ((first | refine cR hr ?_ | refine cR hr' ?_ | refine cR hS ?_); refine sX ?_; try refine aA ?_)) | ((first | refine cR hr ?_ | refine cR hr' ?_ | refine cR hS ?_); refine sX ?_; try refine aA ?_) | refine gS ?_)
      (refine FinQ hQ (congrArg Array.toList Tryz.results27) _ _ ?_); simp (disch := omega) only [u, i64, ax, if_true, forall_const, reduceCtorEq, implies_true, tvs, bf]
  · rw [if_neg c1]
    by_cases c3 : a < 0
    · rw [if_pos c3, show -c = 0 - c by omega]
      have ha : a = -1 := by omega
      have hb : b = -1 := by omega
      subst ha
      subst hb
      refine RetN_start Tryz.func27 (by kernel_rfl) rfl fun Q hQ hQ2 => ?_; rw [Tryz.ntmps27]; simp only [u, i64, Nat.reduceSub, Nat.reduceAdd, bm]
      repeat (first | (refine gC ?_; first | refine aA ?_ | ((first | refine cR hr ?_ | refine cR hr' ?_ | refine cR hz ?_); refine sX ?_; try refine aA ?_)) | ((first | refine cR hr ?_ | refine cR hr' ?_ | refine cR hz ?_); refine sX ?_; try refine aA ?_) | refine gS ?_)
      (refine FinQ hQ (congrArg Array.toList Tryz.results27) _ _ ?_); simp (disch := omega) only [u, i64, ax, if_true, forall_const, reduceCtorEq, implies_true, tvs, bf]
    · rw [if_neg c3]
      have ha : a = 1 := by omega
      have hb : b = 1 := by omega
      subst ha
      subst hb
      refine RetN_start Tryz.func27 (by kernel_rfl) rfl fun Q hQ hQ2 => ?_; rw [Tryz.ntmps27]; simp only [u, i64, Nat.reduceSub, Nat.reduceAdd, bm]
      repeat (first | (refine gC ?_; first | refine aA ?_ | ((first | refine cR hr ?_ | refine cR hr' ?_ | refine cR hz ?_); refine sX ?_; try refine aA ?_)) | ((first | refine cR hr ?_ | refine cR hr' ?_ | refine cR hz ?_); refine sX ?_; try refine aA ?_) | refine gS ?_)
      (refine FinQ hQ (congrArg Array.toList Tryz.results27) _ _ ?_); simp (disch := omega) only [u, i64, ax, if_true, forall_const, reduceCtorEq, implies_true, tvs, bf]
end Go.Proofs
set_option linter.unusedVariables false
set_option linter.unusedSimpArgs false
namespace Go.Proofs
open Go.Ax
end Go.Proofs
set_option linter.unusedVariables false
set_option linter.unusedSimpArgs false
namespace Go.Proofs
open Go.Ax
theorem ret_GoodW (x : FV) (h : wfF x) (hk : x.kind ≤ 2) : Ret Tryz.prog GEs 25 [flv x] (.bool true) := by
  obtain ⟨kd, neg, e, m⟩ := x
  rcases h with ⟨h1, h2, h3, h4, h5⟩ | ⟨h1, h2, h3⟩
  · simp only at h1 h2 h3 h4 h5
    subst h1
    exact ret_Good15 neg e (words m) (Wd_words _) (by omega) (by rw [val_words]; exact h2) h3 h4
  · simp only at h1 h2 h3 hk
    subst h2
    subst h3
    have hZ := ret_rIsZero (words 0) (Wd_words _) (by decide)
    rw [val_words, decT rfl] at hZ
    have h5 : kd = 0 ∨ kd = 2 := by omega
    rcases h5 with rfl | rfl
    · show Ret Tryz.prog GEs 25 [.agg [i64 0, .bool neg, i64 0, nat 0]] (.bool true)
      refine RetN_start Tryz.func25 (by kernel_rfl) rfl fun Q hQ hQ2 => ?_; rw [Tryz.ntmps25]; simp only [u, i64, Nat.reduceSub, Nat.reduceAdd, bm]
      repeat (first | (refine gC ?_; first | refine aA ?_ | (refine cR hZ ?_; refine sX ?_; try refine aA ?_)) | (refine cR hZ ?_; refine sX ?_; try refine aA ?_) | refine gS ?_)
      (refine FinQ hQ (congrArg Array.toList Tryz.results25) _ _ ?_); simp (disch := omega) only [u, i64, ax, if_true, forall_const, reduceCtorEq, implies_true, tvs, bf]
    · show Ret Tryz.prog GEs 25 [.agg [i64 2, .bool neg, i64 0, nat 0]] (.bool true)
      refine RetN_start Tryz.func25 (by kernel_rfl) rfl fun Q hQ hQ2 => ?_; rw [Tryz.ntmps25]; simp only [u, i64, Nat.reduceSub, Nat.reduceAdd, bm]
      repeat (first | (refine gC ?_; first | refine aA ?_ | (refine cR hZ ?_; refine sX ?_; try refine aA ?_)) | (refine cR hZ ?_; refine sX ?_; try refine aA ?_) | refine gS ?_)
      (refine FinQ hQ (congrArg Array.toList Tryz.results25) _ _ ?_); simp (disch := omega) only [u, i64, ax, if_true, forall_const, reduceCtorEq, implies_true, tvs, bf]
end Go.Proofs
set_option linter.unusedVariables false
set_option linter.unusedSimpArgs false
namespace Go.Proofs
open Go.Ax
theorem wf_bounds {x : FV} (h : wfF x) : (words x.mag).length ≤ 5000 ∧ -400000 ≤ x.exp ∧ x.exp ≤ 400000 := by
  rcases h with ⟨h1, h2, h3, h4, h5⟩ | ⟨h1, h2, h3⟩
  · exact ⟨h5, by omega, by omega⟩
  · rw [h2, h3]; exact ⟨by decide, by decide, by decide⟩
theorem sgnI_bounds (z : Int) : -1 ≤ sgnI z ∧ sgnI z ≤ 1 := by unfold sgnI; split <;> (try split) <;> omega
end Go.Proofs
set_option linter.unusedVariables false
set_option linter.unusedSimpArgs false
set_option maxHeartbeats 1000000
namespace Go.Proofs
open Go.Ax
/-- What a fraction in lowest terms has to do with the one before. -/
structure Low (z0 : Int) (d0 : Nat) (z : Int) (d g : Nat) : Prop where
  g0 : 0 < g
  dnz : d ≠ 0
  num : z0 = z * g
  den : d0 = d * g
theorem Low.le {z0 z0' : Int} {d0 d0' : Nat} {z z' : Int} {d d' g g' : Nat} (h : Low z0 d0 z d g) (h' : Low z0' d0' z' d' g') (hle : z0 * d0' ≤ z0' * d0) : z * d' - z' * d ≤ 0 := by
  rw [h.num, h'.num, h.den, h'.den, Int.natCast_mul, Int.natCast_mul] at hle
  have e1 : z * g * (d' * g') = z * d' * (g * g' : Int) := by
    rw [Int.mul_assoc, Int.mul_assoc]; congr 1; rw [Int.mul_left_comm]
  have e2 : z' * g' * (d * g) = z' * d * (g * g' : Int) := by
    rw [Int.mul_assoc, Int.mul_assoc]; congr 1; rw [Int.mul_left_comm, Int.mul_comm (g' : Int)]
  rw [e1, e2] at hle
  have hp : (0 : Int) < g * g' := Int.mul_pos (by have := h.g0; omega) (by have := h'.g0; omega)
  have := Int.le_of_mul_le_mul_right hle hp
  omega
end Go.Proofs
set_option linter.unusedVariables false
set_option linter.unusedSimpArgs false
namespace Go.Proofs
open Go.Ax
theorem orI (a b : Nat) (ha : a < 4294967296) (hb : b < 4294967296) : Go.Ax.bits .or .i64 (a : Int) (b : Int) = ((a ||| b : Nat) : Int) := by
  have hx : a ||| b < 2 ^ 32 := Nat.or_lt_two_pow ha hb
  show IntKind.i64.wrap ((BitVec.ofInt 64 (a : Int) ||| BitVec.ofInt 64 (b : Int)).toNat : Int) = _
  rw [BitVec.toNat_or, toNatU a (by omega), toNatU b (by omega)]
  exact wrapI _ (by omega) (by omega)
/-- What a number encodes. -/
def dcdF (k p n : Nat) : FV :=
  if n / 2 ^ (p - 1) % 2 ^ k = 2 ^ k - 1 then (if n % 2 ^ (p - 1) = 0 then ⟨2, decide (n / 2 ^ (k + p - 1) % 2 = 1), 0, 0⟩ else ⟨3, false, 0, 0⟩)
  else if n / 2 ^ (p - 1) % 2 ^ k = 0 ∧ n % 2 ^ (p - 1) = 0 then ⟨0, decide (n / 2 ^ (k + p - 1) % 2 = 1), 0, 0⟩
  else if n / 2 ^ (p - 1) % 2 ^ k = 0 then mkF (decide (n / 2 ^ (k + p - 1) % 2 = 1)) (n % 2 ^ (p - 1)) (1 - gF k - (p - 1))
  else mkF (decide (n / 2 ^ (k + p - 1) % 2 = 1)) (n % 2 ^ (p - 1) + 2 ^ (p - 1)) ((n / 2 ^ (p - 1) % 2 ^ k : Nat) - gF k - p + 1)
end Go.Proofs
