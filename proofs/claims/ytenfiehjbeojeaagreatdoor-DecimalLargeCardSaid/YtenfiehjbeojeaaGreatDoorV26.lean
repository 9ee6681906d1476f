/-
  Contracts of functions of the program, each proved by a walk.
-/
import Derived.Test.YtenfiehjbeojeaaGreatDoorV24
import Derived.Test.YtenfiehjbeojeaaGreatDoorV25
set_option maxRecDepth 100000
set_option linter.unusedVariables false
set_option linter.unusedSimpArgs false
namespace Go.Proofs
open Go.Ax
structure DI where
  k : Int
  neg : Bool
  cs : List Nat
  e : Int
def DI.av (d : DI) : AV := .agg [i64 d.k, .bool d.neg, ws d.cs, i64 d.e]
def DI.D (d : DI) : DV := mkD d.k d.neg (val d.cs) d.e
def DI.good (d : DI) : Prop := goodD d.k d.neg (val d.cs) d.e
instance (d : DI) : Decidable d.good := by unfold DI.good; infer_instance
/-- Of the type, and not long. -/
structure DI.ok (d : DI) : Prop where
  k1 : -9223372036854775808 ≤ d.k
  k2 : d.k < 9223372036854775808
  e1 : -9223372036854775808 ≤ d.e
  e2 : d.e < 9223372036854775808
  wd : Wd d.cs
  len : d.cs.length ≤ 40
def DI.okIn (p : Nat) (g : Int) (d : DI) : Prop := d.good ∧ inD p g d.D
instance (p : Nat) (g : Int) (d : DI) : Decidable (d.okIn p g) := by unfold DI.okIn; infer_instance
theorem DI.dv_eq {d : DI} (h : d.good) : dv d.D = .agg [i64 d.k, .bool d.neg, nat (val d.cs), i64 d.e] := dv_mk (goodD_right h).2.1
theorem DI.len_le {d : DI} (h : d.ok) : (words d.D.coef).length ≤ 40 := Nat.le_trans (length_words_val_le h.wd) h.len
set_option maxRecDepth 100000 in
set_option maxHeartbeats 1000000 in
/-- Is a canonical decimal number one of the context? -/
theorem ret_holds (p : Nat) (g r : Int) (x : DV) (hp : 1 ≤ p ∧ p ≤ 400) (hg : 1 ≤ g ∧ g ≤ 6000) (hk : x.kind ≤ 2) (hl : (words x.coef).length ≤ 2000) (he : -3000000 ≤ x.exp ∧ x.exp ≤ 3000000) : Ret Tryz.prog GEs 67 [cx p g r, dv x] (.bool (decide (inD p g x))) := by
  have hZ := ret_dzero x hk (by omega)
  have hT := ret_tiny p g r hp hg
  have hD := ret_WDigits x.coef (by omega)
  have hbn := bl_len x.coef
  have hdb := dg_le_bl x.coef
  have hT1 : -7000 ≤ 1 - g - ((p : Int) - 1) ∧ 1 - g - ((p : Int) - 1) ≤ 0 := by omega
  obtain ⟨kd, neg, c, e⟩ := x
  simp only at hk hl he hbn hdb hD hZ
  have hin : inD p g ⟨kd, neg, c, e⟩ ↔ kd ≠ 0 ∨ (c = 0 ∧ 1 - g - ((p : Int) - 1) ≤ e ∧ e ≤ g) ∨ (c ≠ 0 ∧ dg c ≤ p ∧ 1 - g - ((p : Int) - 1) ≤ e ∧ e + dg c - 1 ≤ g) := Iff.rfl
  unfold dv cx at *
  simp only at *
  generalize 1 - g - ((p : Int) - 1) = T at *
  by_cases k0 : kd = 0
  · by_cases c0 : c = 0
    · rw [decT (show kd = 0 ∧ c = 0 from ⟨k0, c0⟩)] at hZ
      by_cases h1 : T ≤ e
      · by_cases h2 : e ≤ g
        · rw [decT (hin.2 (.inr (.inl ⟨c0, h1, h2⟩)))]
          clear hin
          refine RetN_start Tryz.func67 (by kernel_rfl) rfl fun Q hQ hQ2 => ?_; rw [Tryz.ntmps67]; simp only [u, i64, Nat.reduceSub, Nat.reduceAdd, bm]
          repeat (first | (refine gC ?_; first | refine aA ?_ | ((first | refine cR hZ ?_ | refine cR hT ?_); refine sX ?_; try refine aA ?_)) | ((first | refine cR hZ ?_ | refine cR hT ?_); refine sX ?_; try refine aA ?_) | refine gS ?_)
          (refine FinQ hQ (congrArg Array.toList Tryz.results67) _ _ ?_); simp (disch := omega) only [u, i64, ax, if_true, forall_const, reduceCtorEq, implies_true, tvs, bf]
        · rw [decF (fun h => by have := hin.1 h; omega)]
          clear hin
          refine RetN_start Tryz.func67 (by kernel_rfl) rfl fun Q hQ hQ2 => ?_; rw [Tryz.ntmps67]; simp only [u, i64, Nat.reduceSub, Nat.reduceAdd, bm]
          repeat (first | (refine gC ?_; first | refine aA ?_ | ((first | refine cR hZ ?_ | refine cR hT ?_); refine sX ?_; try refine aA ?_)) | ((first | refine cR hZ ?_ | refine cR hT ?_); refine sX ?_; try refine aA ?_) | refine gS ?_)
          (refine FinQ hQ (congrArg Array.toList Tryz.results67) _ _ ?_); simp (disch := omega) only [u, i64, ax, if_true, forall_const, reduceCtorEq, implies_true, tvs, bf]
      · rw [decF (fun h => by have := hin.1 h; omega)]
        clear hin
        refine RetN_start Tryz.func67 (by kernel_rfl) rfl fun Q hQ hQ2 => ?_; rw [Tryz.ntmps67]; simp only [u, i64, Nat.reduceSub, Nat.reduceAdd, bm]
        repeat (first | (refine gC ?_; first | refine aA ?_ | ((first | refine cR hZ ?_ | refine cR hT ?_); refine sX ?_; try refine aA ?_)) | ((first | refine cR hZ ?_ | refine cR hT ?_); refine sX ?_; try refine aA ?_) | refine gS ?_)
        (refine FinQ hQ (congrArg Array.toList Tryz.results67) _ _ ?_); simp (disch := omega) only [u, i64, ax, if_true, forall_const, reduceCtorEq, implies_true, tvs, bf]
    · rw [decF (show ¬ (kd = 0 ∧ c = 0) from fun h => c0 h.2)] at hZ
      have hd1 := (dg_spec c c0).2.2
      by_cases h0 : dg c ≤ p
      · by_cases h1 : T ≤ e
        · by_cases h2 : e + dg c - 1 ≤ g
          · rw [decT (hin.2 (.inr (.inr ⟨c0, h0, h1, h2⟩)))]
            clear hin
            refine RetN_start Tryz.func67 (by kernel_rfl) rfl fun Q hQ hQ2 => ?_; rw [Tryz.ntmps67]; simp only [u, i64, Nat.reduceSub, Nat.reduceAdd, bm]
            repeat (first | (refine gC ?_; first | refine aA ?_ | ((first | refine cR hZ ?_ | refine cR hD ?_ | refine cR hT ?_); refine sX ?_; try refine aA ?_)) | ((first | refine cR hZ ?_ | refine cR hD ?_ | refine cR hT ?_); refine sX ?_; try refine aA ?_) | refine gS ?_)
            (refine FinQ hQ (congrArg Array.toList Tryz.results67) _ _ ?_); simp (disch := omega) only [u, i64, ax, if_true, forall_const, reduceCtorEq, implies_true, tvs, bf]
          · rw [decF (fun h => by have := hin.1 h; omega)]
            clear hin
            refine RetN_start Tryz.func67 (by kernel_rfl) rfl fun Q hQ hQ2 => ?_; rw [Tryz.ntmps67]; simp only [u, i64, Nat.reduceSub, Nat.reduceAdd, bm]
            repeat (first | (refine gC ?_; first | refine aA ?_ | ((first | refine cR hZ ?_ | refine cR hD ?_ | refine cR hT ?_); refine sX ?_; try refine aA ?_)) | ((first | refine cR hZ ?_ | refine cR hD ?_ | refine cR hT ?_); refine sX ?_; try refine aA ?_) | refine gS ?_)
            (refine FinQ hQ (congrArg Array.toList Tryz.results67) _ _ ?_); simp (disch := omega) only [u, i64, ax, if_true, forall_const, reduceCtorEq, implies_true, tvs, bf]
        · rw [decF (fun h => by have := hin.1 h; omega)]
          clear hin
          refine RetN_start Tryz.func67 (by kernel_rfl) rfl fun Q hQ hQ2 => ?_; rw [Tryz.ntmps67]; simp only [u, i64, Nat.reduceSub, Nat.reduceAdd, bm]
          repeat (first | (refine gC ?_; first | refine aA ?_ | ((first | refine cR hZ ?_ | refine cR hD ?_ | refine cR hT ?_); refine sX ?_; try refine aA ?_)) | ((first | refine cR hZ ?_ | refine cR hD ?_ | refine cR hT ?_); refine sX ?_; try refine aA ?_) | refine gS ?_)
          (refine FinQ hQ (congrArg Array.toList Tryz.results67) _ _ ?_); simp (disch := omega) only [u, i64, ax, if_true, forall_const, reduceCtorEq, implies_true, tvs, bf]
      · rw [decF (fun h => by have := hin.1 h; omega)]
        clear hin
        refine RetN_start Tryz.func67 (by kernel_rfl) rfl fun Q hQ hQ2 => ?_; rw [Tryz.ntmps67]; simp only [u, i64, Nat.reduceSub, Nat.reduceAdd, bm]
        repeat (first | (refine gC ?_; first | refine aA ?_ | ((first | refine cR hZ ?_ | refine cR hD ?_); refine sX ?_; try refine aA ?_)) | ((first | refine cR hZ ?_ | refine cR hD ?_); refine sX ?_; try refine aA ?_) | refine gS ?_)
        (refine FinQ hQ (congrArg Array.toList Tryz.results67) _ _ ?_); simp (disch := omega) only [u, i64, ax, if_true, forall_const, reduceCtorEq, implies_true, tvs, bf]
  · rw [decT (hin.2 (.inl k0))]
    clear hin
    refine RetN_start Tryz.func67 (by kernel_rfl) rfl fun Q hQ hQ2 => ?_; rw [Tryz.ntmps67]; simp only [u, i64, Nat.reduceSub, Nat.reduceAdd, bm]
    (refine gO ?_)
    (refine FinQ hQ (congrArg Array.toList Tryz.results67) _ _ ?_); simp (disch := omega) only [u, i64, ax, if_true, forall_const, reduceCtorEq, implies_true, tvs, bf]
set_option maxRecDepth 100000 in
theorem ret_sizes1 (d : DI) (h : d.cs.length ≤ 4096) : Ret Tryz.prog GEs 91 [.lst 1 [i64 d.k, .bool d.neg, ws d.cs, i64 d.e]] (i64 0) := by
  refine RetN_start Tryz.func91 (by kernel_rfl) rfl fun Q hQ hQ2 => ?_; rw [Tryz.ntmps91]; simp only [u, i64, Nat.reduceSub, Nat.reduceAdd, bm]
  (refine gO ?_)
  refine G_loop ?_
  refine G_round ?_
  (refine gO ?_)
  refine G_round ?_
  (refine gO ?_)
  (refine FinQ hQ (congrArg Array.toList Tryz.results91) _ _ ?_); simp (disch := omega) only [u, i64, ax, if_true, forall_const, reduceCtorEq, implies_true, tvs, bf]
  all_goals rfl
set_option maxRecDepth 100000 in
theorem ret_sizes2 (d c : DI) (h : d.cs.length ≤ 4096) (h2 : c.cs.length ≤ 4096) : Ret Tryz.prog GEs 91 [.lst 2 [i64 d.k, .bool d.neg, ws d.cs, i64 d.e, i64 c.k, .bool c.neg, ws c.cs, i64 c.e]] (i64 0) := by
  refine RetN_start Tryz.func91 (by kernel_rfl) rfl fun Q hQ hQ2 => ?_; rw [Tryz.ntmps91]; simp only [u, i64, Nat.reduceSub, Nat.reduceAdd, bm]
  (refine gO ?_)
  refine G_loop ?_
  refine G_round ?_
  (refine gO ?_)
  refine G_round ?_
  (refine gO ?_)
  refine G_round ?_
  (refine gO ?_)
  (refine FinQ hQ (congrArg Array.toList Tryz.results91) _ _ ?_); simp (disch := omega) only [u, i64, ax, if_true, forall_const, reduceCtorEq, implies_true, tvs, bf]
  all_goals rfl
set_option maxRecDepth 100000 in
theorem ret_sizes3 (d c b : DI) (h : d.cs.length ≤ 4096) (h2 : c.cs.length ≤ 4096) (h3 : b.cs.length ≤ 4096) : Ret Tryz.prog GEs 91 [.lst 3 [i64 d.k, .bool d.neg, ws d.cs, i64 d.e, i64 c.k, .bool c.neg, ws c.cs, i64 c.e, i64 b.k, .bool b.neg, ws b.cs, i64 b.e]] (i64 0) := by
  refine RetN_start Tryz.func91 (by kernel_rfl) rfl fun Q hQ hQ2 => ?_; rw [Tryz.ntmps91]; simp only [u, i64, Nat.reduceSub, Nat.reduceAdd, bm]
  (refine gO ?_)
  refine G_loop ?_
  refine G_round ?_
  (refine gO ?_)
  refine G_round ?_
  (refine gO ?_)
  refine G_round ?_
  (refine gO ?_)
  refine G_round ?_
  (refine gO ?_)
  (refine FinQ hQ (congrArg Array.toList Tryz.results91) _ _ ?_); simp (disch := omega) only [u, i64, ax, if_true, forall_const, reduceCtorEq, implies_true, tvs, bf]
  all_goals rfl
theorem pA_nat (v : Nat) : pureA (nat v) = true := us_pure _
theorem fzO_all (ver n sz : Nat) (hot : Bool) (cs : List AV) (h : n * sz = cs.length) (hp : pureAs cs = true) : fzO false ver 0 n sz (some ⟨ver, hot, cs⟩) = some (.lst n cs) := by
  rw [fzO_some, if_pos (show _ ∧ _ ∧ _ ∧ _ from ⟨rfl, (fun h => by cases h), by omega, hp⟩), h, List.drop_zero, List.take_length]
theorem fzO_d1 (ver : Nat) (hot : Bool) (k : Int) (n : Bool) (v : Nat) (e : Int) : fzO false ver 0 1 4 (some ⟨ver, hot, [.int .i64 k, .bool n, nat v, .int .i64 e]⟩) = some (.lst 1 [.int .i64 k, .bool n, nat v, .int .i64 e]) :=
  fzO_all _ _ _ _ _ rfl (by simp only [pAs_cons, pAs_nil, pA_int, pA_bool, pA_nat, Bool.and_true])
theorem fzO_d2 (ver : Nat) (hot : Bool) (k : Int) (n : Bool) (v : Nat) (e : Int) (k2 : Int) (n2 : Bool) (v2 : Nat) (e2 : Int) : fzO false ver 0 2 4 (some ⟨ver, hot, [.int .i64 k, .bool n, nat v, .int .i64 e, .int .i64 k2, .bool n2, nat v2, .int .i64 e2]⟩) = some (.lst 2 [.int .i64 k, .bool n, nat v, .int .i64 e, .int .i64 k2, .bool n2, nat v2, .int .i64 e2]) :=
  fzO_all _ _ _ _ _ rfl (by simp only [pAs_cons, pAs_nil, pA_int, pA_bool, pA_nat, Bool.and_true])
/-- What the program finds out about one number. -/
theorem one_of (p : Nat) (g r : Int) (hp : 1 ≤ p ∧ p ≤ 400) (hg : 1 ≤ g ∧ g ≤ 6000) (d : DI) (h : d.ok) :
    (∃ (k' : Int) (n' : Bool) (v' : Nat) (e' : Int), ¬ d.good ∧ Ret Tryz.prog GEs 55 [.agg [i64 d.k, .bool d.neg, ws d.cs, i64 d.e]] (.tup [.agg [i64 k', .bool n', nat v', i64 e'], .bool false])) ∨
    (d.good ∧ Ret Tryz.prog GEs 55 [.agg [i64 d.k, .bool d.neg, ws d.cs, i64 d.e]] (.tup [.agg [i64 d.k, .bool d.neg, nat (val d.cs), i64 d.e], .bool true]) ∧ Ret Tryz.prog GEs 67 [cx p g r, .agg [i64 d.k, .bool d.neg, nat (val d.cs), i64 d.e]] (.bool (decide (inD p g d.D)))) := by
  obtain ⟨k', n', v', e', hC, hE⟩ := ret_dcanonical d.k d.neg d.cs d.e h.k1 h.k2 h.e1 h.e2 h.wd (Nat.le_trans h.len (by decide))
  by_cases hg' : d.good
  · right
    obtain ⟨rfl, rfl, rfl, rfl⟩ := hE hg'
    have hgg : goodD d.k d.neg (val d.cs) d.e := hg'
    rw [decT hgg] at hC
    obtain ⟨q1, q2, q3⟩ := goodD_right hgg
    have hH := ret_holds p g r d.D hp hg (by show d.k.toNat ≤ 2; omega) (by have := d.len_le h; omega) (by unfold goodD at hgg; show -3000000 ≤ d.e ∧ d.e ≤ 3000000; omega)
    rw [DI.dv_eq hg'] at hH
    exact ⟨hg', hC, hH⟩
  · left
    have hgg : ¬ goodD d.k d.neg (val d.cs) d.e := hg'
    rw [decF hgg] at hC
    exact ⟨k', n', v', e', hg', hC⟩
set_option maxRecDepth 100000 in
set_option maxHeartbeats 1000000 in
theorem ret_Args1 (p : Nat) (g : Int) (r : Nat) (hp : 1 ≤ p ∧ p ≤ 400) (hg : 1 ≤ g ∧ g ≤ 6000) (hr : r ≤ 4) (d : DI) (h : d.ok) :
    Ret Tryz.prog GEs 60 [cx p g r, .bool false, .lst 1 [i64 d.k, .bool d.neg, ws d.cs, i64 d.e]] (if d.okIn p g then .tup [.lst 1 [i64 d.k, .bool d.neg, nat (val d.cs), i64 d.e], i64 0] else .tup [.lst 0 [], i64 221]) := by
  have hS := ret_sizes1 d (Nat.le_trans h.len (by decide))
  have hC := ret_DCheck p g r (by omega) (by omega)
  rw [if_pos (show okC p g r from ⟨by omega, hg, by omega⟩)] at hC
  have h1 := one_of p g r hp hg d h
  obtain ⟨k, neg, cs, e⟩ := d
  simp only at *
  unfold cx at *
  rcases h1 with ⟨k', n', v', e', q1, q2⟩ | ⟨q1, q2, q3⟩
  · rw [if_neg (show ¬ DI.okIn p g ⟨k, neg, cs, e⟩ from fun h => q1 h.1)]
    refine RetN_start Tryz.func60 (by kernel_rfl) rfl fun Q hQ hQ2 => ?_; rw [Tryz.ntmps60]; simp only [u, i64, Nat.reduceSub, Nat.reduceAdd, bm]
    repeat (first | (refine gC ?_; first | refine aA ?_ | ((first | refine cR hS ?_ | refine cR hC ?_); refine sX ?_; try refine aA ?_)) | ((first | refine cR hS ?_ | refine cR hC ?_); refine sX ?_; try refine aA ?_) | refine gS ?_)
    refine G_loop ?_
    refine G_round ?_
    repeat (first | (refine gC ?_; first | refine aA ?_ | (refine cR q2 ?_; refine sX ?_; try refine aA ?_)) | (refine cR q2 ?_; refine sX ?_; try refine aA ?_) | refine gS ?_)
    (refine FinQ hQ (congrArg Array.toList Tryz.results60) _ _ ?_); simp (disch := omega) only [u, i64, ax, if_true, forall_const, reduceCtorEq, implies_true, tvs, bf]
  · by_cases q4 : inD p g (DI.D ⟨k, neg, cs, e⟩)
    · rw [decT q4] at q3
      rw [if_pos (show DI.okIn p g ⟨k, neg, cs, e⟩ from ⟨q1, q4⟩)]
      refine RetN_start Tryz.func60 (by kernel_rfl) rfl fun Q hQ hQ2 => ?_; rw [Tryz.ntmps60]; simp only [u, i64, Nat.reduceSub, Nat.reduceAdd, bm]
      repeat (first | (refine gC ?_; first | refine aA ?_ | ((first | refine cR hS ?_ | refine cR hC ?_); refine sX ?_; try refine aA ?_)) | ((first | refine cR hS ?_ | refine cR hC ?_); refine sX ?_; try refine aA ?_) | refine gS ?_)
      refine G_loop ?_
      refine G_round ?_
      repeat (first | (refine gC ?_; first | refine aA ?_ | ((first | refine cR q2 ?_ | refine cR q3 ?_); refine sX ?_; try refine aA ?_)) | ((first | refine cR q2 ?_ | refine cR q3 ?_); refine sX ?_; try refine aA ?_) | refine gS ?_)
      (refine gC ?_)
      refine ⟨⟨rfl, rfl⟩, ?_⟩
      simp (disch := omega) only [u, i64, ax, eq_self, if_true, if_false, Nat.reduceAdd, Int.reduceToNat, Int.reduceAdd, tvs, bs, Nat.reduceMul, List.take_succ_cons, List.take_zero, List.nil_append, List.cons_append, List.append_nil]
      refine aft_any ?_
      (refine gO ?_)
      refine G_round ?_
      (refine gO ?_)
      (refine FinQ hQ (congrArg Array.toList Tryz.results60) _ _ ?_); simp (disch := omega) only [u, i64, ax, if_true, forall_const, reduceCtorEq, implies_true, tvs, bf, fzO_d1]
    · rw [decF q4] at q3
      rw [if_neg (show ¬ DI.okIn p g ⟨k, neg, cs, e⟩ from fun h => q4 h.2)]
      refine RetN_start Tryz.func60 (by kernel_rfl) rfl fun Q hQ hQ2 => ?_; rw [Tryz.ntmps60]; simp only [u, i64, Nat.reduceSub, Nat.reduceAdd, bm]
      repeat (first | (refine gC ?_; first | refine aA ?_ | ((first | refine cR hS ?_ | refine cR hC ?_); refine sX ?_; try refine aA ?_)) | ((first | refine cR hS ?_ | refine cR hC ?_); refine sX ?_; try refine aA ?_) | refine gS ?_)
      refine G_loop ?_
      refine G_round ?_
      repeat (first | (refine gC ?_; first | refine aA ?_ | ((first | refine cR q2 ?_ | refine cR q3 ?_); refine sX ?_; try refine aA ?_)) | ((first | refine cR q2 ?_ | refine cR q3 ?_); refine sX ?_; try refine aA ?_) | refine gS ?_)
      (refine FinQ hQ (congrArg Array.toList Tryz.results60) _ _ ?_); simp (disch := omega) only [u, i64, ax, if_true, forall_const, reduceCtorEq, implies_true, tvs, bf]
end Go.Proofs
set_option linter.unusedVariables false
set_option linter.unusedSimpArgs false
namespace Go.Proofs
open Go.Ax
set_option maxRecDepth 100000 in
set_option maxHeartbeats 2000000 in
theorem ret_Args2 (p : Nat) (g : Int) (r : Nat) (hp : 1 ≤ p ∧ p ≤ 400) (hg : 1 ≤ g ∧ g ≤ 6000) (hr : r ≤ 4) (d c : DI) (h1 : d.ok) (h2 : c.ok) :
    Ret Tryz.prog GEs 60 [cx p g r, .bool false, .lst 2 [i64 d.k, .bool d.neg, ws d.cs, i64 d.e, i64 c.k, .bool c.neg, ws c.cs, i64 c.e]] (if d.okIn p g ∧ c.okIn p g then .tup [.lst 2 [i64 d.k, .bool d.neg, nat (val d.cs), i64 d.e, i64 c.k, .bool c.neg, nat (val c.cs), i64 c.e], i64 0] else .tup [.lst 0 [], i64 221]) := by
  have hS := ret_sizes2 d c (Nat.le_trans h1.len (by decide)) (Nat.le_trans h2.len (by decide))
  have hC := ret_DCheck p g r (by omega) (by omega)
  rw [if_pos (show okC p g r from ⟨by omega, hg, by omega⟩)] at hC
  have o1 := one_of p g r hp hg d h1
  have o2 := one_of p g r hp hg c h2
  obtain ⟨k1, n1, c1, e1⟩ := d
  obtain ⟨k2, n2, c2, e2⟩ := c
  simp only at *
  unfold cx at *
  rcases o1 with ⟨x1, x2, x3, x4, g1, a1⟩ | ⟨g1, a1, b1⟩
  · rw [if_neg (show ¬ (DI.okIn p g ⟨k1, n1, c1, e1⟩ ∧ DI.okIn p g ⟨k2, n2, c2, e2⟩) from fun h => g1 h.1.1)]
    refine RetN_start Tryz.func60 (by kernel_rfl) rfl fun Q hQ hQ2 => ?_; rw [Tryz.ntmps60]; simp only [u, i64, Nat.reduceSub, Nat.reduceAdd, bm]
    repeat (first | (refine gC ?_; first | refine aA ?_ | ((first | refine cR hS ?_ | refine cR hC ?_); refine sX ?_; try refine aA ?_)) | ((first | refine cR hS ?_ | refine cR hC ?_); refine sX ?_; try refine aA ?_) | refine gS ?_)
    refine G_loop ?_
    refine G_round ?_
    repeat (first | (refine gC ?_; first | refine aA ?_ | (refine cR a1 ?_; refine sX ?_; try refine aA ?_)) | (refine cR a1 ?_; refine sX ?_; try refine aA ?_) | refine gS ?_)
    (refine FinQ hQ (congrArg Array.toList Tryz.results60) _ _ ?_); simp (disch := omega) only [u, i64, ax, if_true, forall_const, reduceCtorEq, implies_true, tvs, bf]
  · by_cases q1 : inD p g (DI.D ⟨k1, n1, c1, e1⟩)
    · rw [decT q1] at b1
      rcases o2 with ⟨x1, x2, x3, x4, g2, a2⟩ | ⟨g2, a2, b2⟩
      · rw [if_neg (show ¬ (DI.okIn p g ⟨k1, n1, c1, e1⟩ ∧ DI.okIn p g ⟨k2, n2, c2, e2⟩) from fun h => g2 h.2.1)]
        refine RetN_start Tryz.func60 (by kernel_rfl) rfl fun Q hQ hQ2 => ?_; rw [Tryz.ntmps60]; simp only [u, i64, Nat.reduceSub, Nat.reduceAdd, bm]
        repeat (first | (refine gC ?_; first | refine aA ?_ | ((first | refine cR hS ?_ | refine cR hC ?_); refine sX ?_; try refine aA ?_)) | ((first | refine cR hS ?_ | refine cR hC ?_); refine sX ?_; try refine aA ?_) | refine gS ?_)
        refine G_loop ?_
        refine G_round ?_
        repeat (first | (refine gC ?_; first | refine aA ?_ | ((first | refine cR a1 ?_ | refine cR b1 ?_); refine sX ?_; try refine aA ?_)) | ((first | refine cR a1 ?_ | refine cR b1 ?_); refine sX ?_; try refine aA ?_) | refine gS ?_)
        (refine gC ?_)
        refine ⟨⟨rfl, rfl⟩, ?_⟩
        simp (disch := omega) only [u, i64, ax, eq_self, if_true, if_false, Nat.reduceAdd, Int.reduceToNat, Int.reduceAdd, tvs, bs, Nat.reduceMul, List.take_succ_cons, List.take_zero, List.nil_append, List.cons_append, List.append_nil]
        refine aft_any ?_
        (refine gO ?_)
        refine G_round ?_
        repeat (first | (refine gC ?_; first | refine aA ?_ | (refine cR a2 ?_; refine sX ?_; try refine aA ?_)) | (refine cR a2 ?_; refine sX ?_; try refine aA ?_) | refine gS ?_)
        (refine FinQ hQ (congrArg Array.toList Tryz.results60) _ _ ?_); simp (disch := omega) only [u, i64, ax, if_true, forall_const, reduceCtorEq, implies_true, tvs, bf]
      · by_cases q2 : inD p g (DI.D ⟨k2, n2, c2, e2⟩)
        · rw [decT q2] at b2
          rw [if_pos (show DI.okIn p g ⟨k1, n1, c1, e1⟩ ∧ DI.okIn p g ⟨k2, n2, c2, e2⟩ from ⟨⟨g1, q1⟩, ⟨g2, q2⟩⟩)]
          refine RetN_start Tryz.func60 (by kernel_rfl) rfl fun Q hQ hQ2 => ?_; rw [Tryz.ntmps60]; simp only [u, i64, Nat.reduceSub, Nat.reduceAdd, bm]
          repeat (first | (refine gC ?_; first | refine aA ?_ | ((first | refine cR hS ?_ | refine cR hC ?_); refine sX ?_; try refine aA ?_)) | ((first | refine cR hS ?_ | refine cR hC ?_); refine sX ?_; try refine aA ?_) | refine gS ?_)
          refine G_loop ?_
          refine G_round ?_
          repeat (first | (refine gC ?_; first | refine aA ?_ | ((first | refine cR a1 ?_ | refine cR b1 ?_); refine sX ?_; try refine aA ?_)) | ((first | refine cR a1 ?_ | refine cR b1 ?_); refine sX ?_; try refine aA ?_) | refine gS ?_)
          (refine gC ?_)
          refine ⟨⟨rfl, rfl⟩, ?_⟩
          simp (disch := omega) only [u, i64, ax, eq_self, if_true, if_false, Nat.reduceAdd, Int.reduceToNat, Int.reduceAdd, tvs, bs, Nat.reduceMul, List.take_succ_cons, List.take_zero, List.nil_append, List.cons_append, List.append_nil]
          refine aft_any ?_
          (refine gO ?_)
          refine G_round ?_
          repeat (first | (refine gC ?_; first | refine aA ?_ | ((first | refine cR a2 ?_ | refine cR b2 ?_); refine sX ?_; try refine aA ?_)) | ((first | refine cR a2 ?_ | refine cR b2 ?_); refine sX ?_; try refine aA ?_) | refine gS ?_)
          (refine gC ?_)
          refine ⟨⟨rfl, rfl⟩, ?_⟩
          simp (disch := omega) only [u, i64, ax, eq_self, if_true, if_false, Nat.reduceAdd, Int.reduceToNat, Int.reduceAdd, tvs, bs, Nat.reduceMul, List.take_succ_cons, List.take_zero, List.nil_append, List.cons_append, List.append_nil]
          refine aft_any ?_
          (refine gO ?_)
          refine G_round ?_
          (refine gO ?_)
          (refine FinQ hQ (congrArg Array.toList Tryz.results60) _ _ ?_); simp (disch := omega) only [u, i64, ax, if_true, forall_const, reduceCtorEq, implies_true, tvs, bf, fzO_d2]
        · rw [decF q2] at b2
          rw [if_neg (show ¬ (DI.okIn p g ⟨k1, n1, c1, e1⟩ ∧ DI.okIn p g ⟨k2, n2, c2, e2⟩) from fun h => q2 h.2.2)]
          refine RetN_start Tryz.func60 (by kernel_rfl) rfl fun Q hQ hQ2 => ?_; rw [Tryz.ntmps60]; simp only [u, i64, Nat.reduceSub, Nat.reduceAdd, bm]
          repeat (first | (refine gC ?_; first | refine aA ?_ | ((first | refine cR hS ?_ | refine cR hC ?_); refine sX ?_; try refine aA ?_)) | ((first | refine cR hS ?_ | refine cR hC ?_); refine sX ?_; try refine aA ?_) | refine gS ?_)
          refine G_loop ?_
          refine G_round ?_
          repeat (first | (refine gC ?_; first | refine aA ?_ | ((first | refine cR a1 ?_ | refine cR b1 ?_); refine sX ?_; try refine aA ?_)) | ((first | refine cR a1 ?_ | refine cR b1 ?_); refine sX ?_; try refine aA ?_) | refine gS ?_)
          (refine gC ?_)
          refine ⟨⟨rfl, rfl⟩, ?_⟩
          simp (disch := omega) only [u, i64, ax, eq_self, if_true, if_false, Nat.reduceAdd, Int.reduceToNat, Int.reduceAdd, tvs, bs, Nat.reduceMul, List.take_succ_cons, List.take_zero, List.nil_append, List.cons_append, List.append_nil]
          refine aft_any ?_
          (refine gO ?_)
          refine G_round ?_
          repeat (first | (refine gC ?_; first | refine aA ?_ | ((first | refine cR a2 ?_ | refine cR b2 ?_); refine sX ?_; try refine aA ?_)) | ((first | refine cR a2 ?_ | refine cR b2 ?_); refine sX ?_; try refine aA ?_) | refine gS ?_)
          (refine FinQ hQ (congrArg Array.toList Tryz.results60) _ _ ?_); simp (disch := omega) only [u, i64, ax, if_true, forall_const, reduceCtorEq, implies_true, tvs, bf]
    · rw [decF q1] at b1
      rw [if_neg (show ¬ (DI.okIn p g ⟨k1, n1, c1, e1⟩ ∧ DI.okIn p g ⟨k2, n2, c2, e2⟩) from fun h => q1 h.1.2)]
      refine RetN_start Tryz.func60 (by kernel_rfl) rfl fun Q hQ hQ2 => ?_; rw [Tryz.ntmps60]; simp only [u, i64, Nat.reduceSub, Nat.reduceAdd, bm]
      repeat (first | (refine gC ?_; first | refine aA ?_ | ((first | refine cR hS ?_ | refine cR hC ?_); refine sX ?_; try refine aA ?_)) | ((first | refine cR hS ?_ | refine cR hC ?_); refine sX ?_; try refine aA ?_) | refine gS ?_)
      refine G_loop ?_
      refine G_round ?_
      repeat (first | (refine gC ?_; first | refine aA ?_ | ((first | refine cR a1 ?_ | refine cR b1 ?_); refine sX ?_; try refine aA ?_)) | ((first | refine cR a1 ?_ | refine cR b1 ?_); refine sX ?_; try refine aA ?_) | refine gS ?_)
      (refine FinQ hQ (congrArg Array.toList Tryz.results60) _ _ ?_); simp (disch := omega) only [u, i64, ax, if_true, forall_const, reduceCtorEq, implies_true, tvs, bf]
end Go.Proofs
