/-
  Contracts of functions of the program, each proved by a walk.
-/
import Derived.Test.YtpnljnmpocobjaaGreatDoorZ30
set_option maxRecDepth 100000
set_option linter.unusedVariables false
set_option linter.unusedSimpArgs false
set_option maxRecDepth 100000
namespace Go.Proofs
open Go.Ax
/-- Several ways to one state. -/
theorem G_join {P : Program} {GE : Nat → Option (List AV)} {Q : Exit → St → Prop} {x y : Code} {st : St} (st2 : St) (h2 : AWp P GE y Q st2) (h1 : AWp P GE x (thenA (fun s => leS s st2) Q) st) : AWp P GE x (thenA (AWp P GE y Q) Q) st :=
  AWp_mono h1 fun e s h => by
    cases e with
    | normal => exact AWp_le h h2
    | _ => exact h
theorem ret_Trim11 (neg : Bool) (xs : List Nat) (hx : Wd xs) (hl : xs.length ≤ 34359738368) : Ret Tryz.prog GEs 194 [.agg [.bool neg, ws xs]] (.agg [.bool (neg && decide (val xs ≠ 0)), nat (val xs)]) := by
  have hT := ret_Trim03 neg xs hx hl
  refine RetN_start Tryz.func194 (by kernel_rfl) rfl fun Q hQ hQ2 => ?_; rw [Tryz.ntmps194]; simp only [u, i64, Nat.reduceSub, Nat.reduceAdd, bm]
  repeat (first | (refine gC ?_; first | refine aA ?_ | (refine cR hT ?_; refine sX ?_; try refine aA ?_)) | (refine cR hT ?_; refine sX ?_; try refine aA ?_) | refine gS ?_)
  (refine FinQ hQ (congrArg Array.toList Tryz.results194) _ _ ?_); simp (disch := omega) only [u, i64, ax, if_true, forall_const, reduceCtorEq, implies_true, tvs, bf]
theorem ret_Whole12 (neg : Bool) (m : Nat) (hl : (words m).length ≤ 100000) : Ret Tryz.prog GEs 111 [.agg [.bool neg, nat m]] (.agg [.bool (neg && decide (m ≠ 0)), nat m, nat 1]) := by
  have hT := ret_Trim11 neg (words m) (Wd_words _) (by omega)
  rw [val_words] at hT
  have hF := ret_rFromWord 1 (by decide)
  refine RetN_start Tryz.func111 (by kernel_rfl) rfl fun Q hQ hQ2 => ?_; rw [Tryz.ntmps111]; simp only [u, i64, Nat.reduceSub, Nat.reduceAdd, bm]
  repeat (first | (refine gC ?_; first | refine aA ?_ | ((first | refine cR hT ?_ | refine cR hF ?_); refine sX ?_; try refine aA ?_)) | ((first | refine cR hT ?_ | refine cR hF ?_); refine sX ?_; try refine aA ?_) | refine gS ?_)
  (refine FinQ hQ (congrArg Array.toList Tryz.results111) _ _ ?_); simp (disch := omega) only [u, i64, ax, if_true, forall_const, reduceCtorEq, implies_true, tvs, bf]
theorem ret_From03z : Ret Tryz.prog GEs 184 [i64 0] (.agg [.bool false, nat 0]) := by
  have hF := ret_rFromWord 0 (by decide)
  have hM := ret_Make false (words 0) (Wd_words _) (by decide)
  rw [Bool.false_and, val_words] at hM
  refine RetN_start Tryz.func184 (by kernel_rfl) rfl fun Q hQ hQ2 => ?_; rw [Tryz.ntmps184]; simp only [u, i64, Nat.reduceSub, Nat.reduceAdd, bm]
  repeat (first | (refine gC ?_; first | refine aA ?_ | ((first | refine cR hF ?_ | refine cR hM ?_); refine sX ?_; try refine aA ?_)) | ((first | refine cR hF ?_ | refine cR hM ?_); refine sX ?_; try refine aA ?_) | refine gS ?_)
  (refine FinQ hQ (congrArg Array.toList Tryz.results184) _ _ ?_); simp (disch := omega) only [u, i64, ax, if_true, forall_const, reduceCtorEq, implies_true, tvs, bf]
theorem ret_From11z : Ret Tryz.prog GEs 99 [i64 0] (.agg [.bool false, nat 0]) := by
  refine RetN_start Tryz.func99 (by kernel_rfl) rfl fun Q hQ hQ2 => ?_; rw [Tryz.ntmps99]; simp only [u, i64, Nat.reduceSub, Nat.reduceAdd, bm]
  repeat (first | (refine gC ?_; first | refine aA ?_ | (refine cR ret_From03z ?_; refine sX ?_; try refine aA ?_)) | (refine cR ret_From03z ?_; refine sX ?_; try refine aA ?_) | refine gS ?_)
  (refine FinQ hQ (congrArg Array.toList Tryz.results99) _ _ ?_); simp (disch := omega) only [u, i64, ax, if_true, forall_const, reduceCtorEq, implies_true, tvs, bf]
theorem ret_From12z : Ret Tryz.prog GEs 33 [i64 0, i64 1] (.agg [.bool false, nat 0, nat 1]) := by
  have hF := ret_rFromWord 1 (by decide)
  have hM := ret_Make12 0 1 (by decide) (by decide) (by decide) (by decide)
  refine RetN_start Tryz.func33 (by kernel_rfl) rfl fun Q hQ hQ2 => ?_; rw [Tryz.ntmps33]; simp only [u, i64, Nat.reduceSub, Nat.reduceAdd, bm]
  repeat (first | (refine gC ?_; first | refine aA ?_ | ((first | refine cR ret_From11z ?_ | refine cR hF ?_ | refine cR hM ?_); refine sX ?_; try refine aA ?_)) | ((first | refine cR ret_From11z ?_ | refine cR hF ?_ | refine cR hM ?_); refine sX ?_; try refine aA ?_) | refine gS ?_)
  (refine FinQ hQ (congrArg Array.toList Tryz.results33) _ _ ?_); simp (disch := omega) only [u, i64, ax, if_true, forall_const, reduceCtorEq, implies_true, tvs, bf]
theorem tz_oddS (j : Nat) : tz (2 * j + 1) = 0 := tz_odd j
set_option maxRecDepth 100000 in
theorem ret_Rat15 (x : FV) (h : hasV x) : Ret Tryz.prog GEs 36 [flv x] (.agg [.bool (sgF x), nat (vn x), nat (vd x)]) := by
  obtain ⟨kd, neg, e, m⟩ := x
  rcases h with ⟨h1, h2, h3⟩ | ⟨h1, ⟨j, h2⟩, h3, h4, h5⟩
  · simp only at h1 h2 h3
    subst h1
    subst h2
    subst h3
    have e1 : sgF ⟨0, neg, 0, 0⟩ = false := by unfold sgF; cases neg <;> rfl
    have e2 : vn ⟨0, neg, 0, 0⟩ = 0 := by unfold vn; rfl
    have e3 : vd ⟨0, neg, 0, 0⟩ = 1 := by unfold vd; rfl
    rw [e1, e2, e3]
    unfold flv
    simp only
    refine RetN_start Tryz.func36 (by kernel_rfl) rfl fun Q hQ hQ2 => ?_; rw [Tryz.ntmps36]; simp only [u, i64, Nat.reduceSub, Nat.reduceAdd, bm]
    repeat (first | (refine gC ?_; first | refine aA ?_ | (refine cR ret_From12z ?_; refine sX ?_; try refine aA ?_)) | (refine cR ret_From12z ?_; refine sX ?_; try refine aA ?_) | refine gS ?_)
    (refine FinQ hQ (congrArg Array.toList Tryz.results36) _ _ ?_); simp (disch := omega) only [u, i64, ax, if_true, forall_const, reduceCtorEq, implies_true, tvs, bf]
    all_goals rfl
  · simp only at h1 h2 h3 h4 h5
    subst h1
    subst h2
    have e1 : sgF ⟨1, neg, e, 2 * j + 1⟩ = neg := by unfold sgF; cases neg <;> rfl
    have hml : (words (2 * j + 1)).length ≤ 5 := length_bl (by omega)
    have hO := ret_odd 1 neg e (words (2 * j + 1)) (Wd_words _) (by omega) (by rw [val_words]; omega) (by omega) (by omega)
    rw [val_words, tz_oddS, Nat.pow_zero, Nat.div_one, Int.natCast_zero, Int.add_zero] at hO
    have hF := ret_rFromWord 1 (by decide)
    have hw1 : (words 1).length ≤ 1 := length_le (by decide)
    have hm0 : 2 * j + 1 ≠ 0 := by omega
    rw [e1]
    unfold vn vd flv
    simp only
    by_cases he : e < 0
    · have hM := ret_Make11 neg (words (2 * j + 1)) (Wd_words _) (by omega)
      rw [val_words, decT hm0, Bool.and_true] at hM
      have hL := ret_rLeft (words 1) (-e).toNat (Wd_words _) (by omega) (by omega)
      rw [val_words, Nat.one_mul] at hL
      have c1 : 0 - e = (((-e).toNat : Nat) : Int) := by omega
      rw [show e.toNat = 0 by omega, Nat.pow_zero, Nat.mul_one]
      generalize (-e).toNat = t at *
      generalize 2 ^ t = P2 at *
      generalize 2 * j + 1 = M at *
      refine RetN_start Tryz.func36 (by kernel_rfl) rfl fun Q hQ hQ2 => ?_; rw [Tryz.ntmps36]; simp only [u, i64, Nat.reduceSub, Nat.reduceAdd, bm]
      repeat (first | (refine gC ?_; first | refine aA ?_ | (refine cR hO ?_; refine sX ?_; try refine aA ?_)) | (refine cR hO ?_; refine sX ?_; try refine aA ?_) | refine gS ?_)
      (refine gC ?_)
      (refine cR hM ?_; refine sX ?_; try refine aA ?_)
      (refine cR hF ?_; refine sX ?_; try refine aA ?_)
      rw [c1]
      repeat (first | (refine gC ?_; first | refine aA ?_ | (refine cR hL ?_; refine sX ?_; try refine aA ?_)) | (refine cR hL ?_; refine sX ?_; try refine aA ?_) | refine gS ?_)
      (refine FinQ hQ (congrArg Array.toList Tryz.results36) _ _ ?_); simp (disch := omega) only [u, i64, ax, if_true, forall_const, reduceCtorEq, implies_true, tvs, bf]
      all_goals rfl
    · have hL := ret_rLeft (words (2 * j + 1)) e.toNat (Wd_words _) (by omega) (by omega)
      rw [val_words] at hL
      have c1 : e = ((e.toNat : Nat) : Int) := by omega
      have hb : (words ((2 * j + 1) * 2 ^ e.toNat)).length ≤ 400 := length_bl (by rw [bl_mul _ _ hm0]; omega)
      have hne : (2 * j + 1) * 2 ^ e.toNat ≠ 0 := Nat.mul_ne_zero hm0 (Nat.ne_of_gt (Nat.two_pow_pos _))
      rw [show (-e).toNat = 0 by omega, Nat.pow_zero]
      generalize (2 * j + 1) * 2 ^ e.toNat = N at *
      have hM := ret_Make11 neg (words N) (Wd_words _) (by omega)
      rw [val_words, decT hne, Bool.and_true] at hM
      have hW := ret_Whole12 neg N (by omega)
      rw [decT hne, Bool.and_true] at hW
      generalize e.toNat = t at *
      subst c1
      generalize 2 * j + 1 = M at *
      refine RetN_start Tryz.func36 (by kernel_rfl) rfl fun Q hQ hQ2 => ?_; rw [Tryz.ntmps36]; simp only [u, i64, Nat.reduceSub, Nat.reduceAdd, bm]
      repeat (first | (refine gC ?_; first | refine aA ?_ | ((first | refine cR hO ?_ | refine cR hL ?_ | refine cR hM ?_ | refine cR hW ?_); refine sX ?_; try refine aA ?_)) | ((first | refine cR hO ?_ | refine cR hL ?_ | refine cR hM ?_ | refine cR hW ?_); refine sX ?_; try refine aA ?_) | refine gS ?_)
      (refine FinQ hQ (congrArg Array.toList Tryz.results36) _ _ ?_); simp (disch := omega) only [u, i64, ax, if_true, forall_const, reduceCtorEq, implies_true, tvs, bf]
      all_goals rfl
set_option maxRecDepth 100000 in
set_option maxHeartbeats 8000000 in
theorem encl_walk (k p : Int) (neg : Bool) (ns dn xs : List Nat) (hl : xs.length ≤ 40) (x y z : FV) (ge : Nat) (sv : Bool)
    (hB : Ret Tryz.prog GEs 16 [.lst 1 [.bool neg, ws ns, ws dn]] (.bool true))
    (hA : Ret Tryz.prog GEs 19 [.agg [i64 k, i64 p], i64 0, .lst 1 [.bool neg, ws ns, ws dn]] (i64 0))
    (hBt : Ret Tryz.prog GEs 28 [.agg [i64 k, i64 p], .agg [.bool neg, ws ns, ws dn]] (.tup [flv x, flv y, i64 0]))
    (hD : Ret Tryz.prog GEs 35 [.agg [i64 k, i64 p], ws xs] (.tup [flv z, i64 ge]))
    (hTx : Ret Tryz.prog GEs 26 [flv x] (flv x)) (hTy : Ret Tryz.prog GEs 26 [flv y] (flv y))
    (hGx : Ret Tryz.prog GEs 25 [flv x] (.bool true)) (hGy : Ret Tryz.prog GEs 25 [flv y] (.bool true))
    (x2 : x.kind ≤ 2) (y2 : y.kind ≤ 2)
    (xn : x.kind = 2 → x.neg = true) (yn : y.kind = 2 → y.neg = false) (xy : ¬ (x.kind = 2 ∧ y.kind = 2))
    (hX : x.kind ≤ 1 → ∃ (b : Bool) (n d : Nat) (c : Int), Ret Tryz.prog GEs 36 [flv x] (.agg [.bool b, nat n, nat d]) ∧ Ret Tryz.prog GEs 24 [.agg [.bool b, nat n, nat d], .agg [.bool neg, ws ns, ws dn]] (i64 c) ∧ -1 ≤ c ∧ c ≤ 0)
    (hY : y.kind ≤ 1 → ∃ (b : Bool) (n d : Nat) (c : Int), Ret Tryz.prog GEs 36 [flv y] (.agg [.bool b, nat n, nat d]) ∧ Ret Tryz.prog GEs 24 [.agg [.bool b, nat n, nat d], .agg [.bool neg, ws ns, ws dn]] (i64 c) ∧ 0 ≤ c ∧ c ≤ 1)
    (hS : Ret Tryz.prog GEs 37 [flv x, flv y] (.bool sv))
    (hz : sv = false → z.kind ≠ 3 → Ret Tryz.prog GEs 26 [flv z] (flv z) ∧ ((∃ c1 : Int, Ret Tryz.prog GEs 27 [flv z, flv x] (i64 c1) ∧ -1 ≤ c1 ∧ c1 ≤ 0) ∨
      ∃ c1 c2 : Int, Ret Tryz.prog GEs 27 [flv z, flv x] (i64 c1) ∧ Ret Tryz.prog GEs 27 [flv z, flv y] (i64 c2) ∧ 0 < c1 ∧ c1 ≤ 1 ∧ 0 ≤ c2 ∧ c2 ≤ 1)) (hge : ge < 1000) :
    Ret Tryz.prog GEs 7 [.agg [i64 k, i64 p], .agg [.bool neg, ws ns, ws dn], ws xs] (.bool true) := by
  have x3 : x.kind ≠ 3 := by clear hX hY hz; omega
  have y3 : y.kind ≠ 3 := by clear hX hY hz; omega
  unfold flv at *
  refine RetN_start Tryz.func7 (by kernel_rfl) rfl fun Q hQ hQ2 => ?_; rw [Tryz.ntmps7]; simp only [u, i64, Nat.reduceSub, Nat.reduceAdd, bm]
  repeat (first | (refine gC ?_; first | refine aA ?_ | ((first | refine cR hB ?_ | refine cR hA ?_ | refine cR hBt ?_); refine sX ?_; try refine aA ?_)) | ((first | refine cR hB ?_ | refine cR hA ?_ | refine cR hBt ?_); refine sX ?_; try refine aA ?_) | refine gS ?_)
  (refine gC ?_)
  (refine cR hD ?_; refine sX ?_; try refine aA ?_)
  (first | refine G_stree (.step 0 (.step 1 (.step 2 (.step 3 (.alt 4 (.step 5 (.step 6 (.step 7 .done))) (.alt 5 (.step 4 (.step 6 (.step 7 .done))) .stop)))))) mixed (by kernel_rfl) ?_ | refine G_tree (.step 0 (.step 1 (.step 2 (.step 3 (.alt 4 (.step 5 (.step 6 (.step 7 .done))) (.alt 5 (.step 4 (.step 6 (.step 7 .done))) .stop)))))) mixed (by kernel_rfl) ?_); simp (disch := omega) only [u, i64, ax, eq_self, if_true, if_false, Nat.reduceAdd, Int.reduceToNat, Int.reduceAdd, tvs, bs, x_done, x_step, x_alt, x_stop, lk_0, lk_S, mpD_nil, mpD_cons]
  refine callK_ret (hTx) (by (simp (disch := omega) only [if_true, forall_const, reduceCtorEq, implies_true, bz]) <;> rfl) ?_; simp (disch := omega) only [u, i64, ax, eq_self, if_true, if_false, Nat.reduceAdd, Int.reduceToNat, Int.reduceAdd, tvs, bs, x_done, x_step, x_alt, x_stop, lk_0, lk_S, mpD_nil, mpD_cons]
  refine callK_ret (hTy) (by (simp (disch := omega) only [if_true, forall_const, reduceCtorEq, implies_true, bz]) <;> rfl) ?_; simp (disch := omega) only [u, i64, ax, eq_self, if_true, if_false, Nat.reduceAdd, Int.reduceToNat, Int.reduceAdd, tvs, bs, x_done, x_step, x_alt, x_stop, lk_0, lk_S, mpD_nil, mpD_cons]
  repeat' apply And.intro
  · refine aft_any ?_
    repeat (first | (refine gC ?_; first | refine aA ?_ | ((first | refine cR hGx ?_ | refine cR hGy ?_); refine sX ?_; try refine aA ?_)) | ((first | refine cR hGx ?_ | refine cR hGy ?_); refine sX ?_; try refine aA ?_) | refine gS ?_)
    refine G_join (mk 140 [(6, .bool false), (7, .ptr 2 0 0), (8, .ptr 3 0 0), (10, .ptr 4 0 0), (11, i64 ge), (12, .ptr 5 0 0), (13, .ptr 6 0 0), (111, .bool false)] [⟨0, true, [i64 k, i64 p]⟩, ⟨0, true, [.bool neg, ws ns, ws dn]⟩, ⟨0, true, [i64 x.kind, .bool x.neg, i64 x.exp, nat x.mag]⟩, ⟨0, true, [i64 y.kind, .bool y.neg, i64 y.exp, nat y.mag]⟩, ⟨0, true, [i64 z.kind, .bool z.neg, i64 z.exp, nat z.mag]⟩, ⟨0, true, [i64 x.kind, .bool x.neg, i64 x.exp, nat x.mag]⟩, ⟨0, true, [i64 y.kind, .bool y.neg, i64 y.exp, nat y.mag]⟩]) ?_ ?_
    · simp only [u, i64, Nat.reduceSub, Nat.reduceAdd, bm]
      clear hX hY xn yn xy x3 y3 x2 y2 hGx hGy hTx hTy hBt hD hB hA
      by_cases hg : ge = 0
      · by_cases hz3 : z.kind = 3
        · clear hz
          repeat (first | (refine gC ?_; first | refine aA ?_ | (refine cR ret_awake16 ?_; refine sX ?_; try refine aA ?_)) | (refine cR ret_awake16 ?_; refine sX ?_; try refine aA ?_) | refine gS ?_)
          (refine FinQ hQ (congrArg Array.toList Tryz.results7) _ _ ?_); simp (disch := omega) only [u, i64, ax, if_true, forall_const, reduceCtorEq, implies_true, tvs, bf]
        · cases hsv : sv with
          | true =>
            rw [hsv] at hS
            clear hz
            repeat (first | (refine gC ?_; first | refine aA ?_ | ((first | refine cR hS ?_ | refine cR ret_awake16 ?_); refine sX ?_; try refine aA ?_)) | ((first | refine cR hS ?_ | refine cR ret_awake16 ?_); refine sX ?_; try refine aA ?_) | refine gS ?_)
            (refine FinQ hQ (congrArg Array.toList Tryz.results7) _ _ ?_); simp (disch := omega) only [u, i64, ax, if_true, forall_const, reduceCtorEq, implies_true, tvs, bf]
          | false =>
            rw [hsv] at hS
            obtain ⟨hTz, hk⟩ := hz hsv hz3
            clear hz
            rcases hk with ⟨c1, hD1, b1, b2⟩ | ⟨c1, c2, hD1, hD2, b1, b2, b3, b4⟩
            · repeat (first | (refine gC ?_; first | refine aA ?_ | ((first | refine cR hS ?_ | refine cR hTz ?_ | refine cR hD1 ?_ | refine cR ret_awake16 ?_); refine sX ?_; try refine aA ?_)) | ((first | refine cR hS ?_ | refine cR hTz ?_ | refine cR hD1 ?_ | refine cR ret_awake16 ?_); refine sX ?_; try refine aA ?_) | refine gS ?_)
              (refine FinQ hQ (congrArg Array.toList Tryz.results7) _ _ ?_); simp (disch := omega) only [u, i64, ax, if_true, forall_const, reduceCtorEq, implies_true, tvs, bf]
            · repeat (first | (refine gC ?_; first | refine aA ?_ | ((first | refine cR hS ?_ | refine cR hTz ?_ | refine cR hD1 ?_ | refine cR hD2 ?_ | refine cR ret_awake16 ?_); refine sX ?_; try refine aA ?_)) | ((first | refine cR hS ?_ | refine cR hTz ?_ | refine cR hD1 ?_ | refine cR hD2 ?_ | refine cR ret_awake16 ?_); refine sX ?_; try refine aA ?_) | refine gS ?_)
              (refine FinQ hQ (congrArg Array.toList Tryz.results7) _ _ ?_); simp (disch := omega) only [u, i64, ax, if_true, forall_const, reduceCtorEq, implies_true, tvs, bf]
      · clear hz
        repeat (first | (refine gC ?_; first | refine aA ?_ | (refine cR ret_awake16 ?_; refine sX ?_; try refine aA ?_)) | (refine cR ret_awake16 ?_; refine sX ?_; try refine aA ?_) | refine gS ?_)
        (refine FinQ hQ (congrArg Array.toList Tryz.results7) _ _ ?_); simp (disch := omega) only [u, i64, ax, if_true, forall_const, reduceCtorEq, implies_true, tvs, bf]
    · clear hz hS hTx hTy hBt hD hB hA hGx hGy
      by_cases kx : x.kind = 2
      · have hn := xn kx
        have ky1 : y.kind ≤ 1 := by have := fun h => xy ⟨kx, h⟩; clear hX hY; omega
        obtain ⟨b, n, d, c, hR2, hC2, q1, q2⟩ := hY ky1
        clear hX hY xn yn xy
        rw [hn]
        (refine gC ?_)
        (refine cR hR2 ?_; refine sX ?_; try refine aA ?_)
        (refine cR hC2 ?_; refine sX ?_; try refine aA ?_)
        refine q_tn ?_
        simp only [u, i64, Nat.reduceSub, Nat.reduceAdd, bm]
      · have kx1 : x.kind ≤ 1 := by clear hX hY; omega
        obtain ⟨b, n, d, c, hR1, hC1, q1, q2⟩ := hX kx1
        by_cases ky : y.kind = 2
        · have hn := yn ky
          clear hX hY xn yn xy
          rw [hn]
          (refine gC ?_)
          (refine cR hR1 ?_; refine sX ?_; try refine aA ?_)
          (refine cR hC1 ?_; refine sX ?_; try refine aA ?_)
          refine q_tn ?_
          simp only [u, i64, Nat.reduceSub, Nat.reduceAdd, bm]
        · have ky1 : y.kind ≤ 1 := by clear hX hY; omega
          obtain ⟨b', n', d', c', hR2, hC2, q3, q4⟩ := hY ky1
          clear hX hY xn yn xy
          (refine gC ?_)
          (refine cR hR1 ?_; refine sX ?_; try refine aA ?_)
          (refine cR hC1 ?_; refine sX ?_; try refine aA ?_)
          (refine cR hR2 ?_; refine sX ?_; try refine aA ?_)
          (refine cR hC2 ?_; refine sX ?_; try refine aA ?_)
          refine q_tn ?_
          simp only [u, i64, Nat.reduceSub, Nat.reduceAdd, bm]
  · refine aft_any ?_
    repeat (first | (refine gC ?_; first | refine aA ?_ | ((first | refine cR hGx ?_ | refine cR hGy ?_); refine sX ?_; try refine aA ?_)) | ((first | refine cR hGx ?_ | refine cR hGy ?_); refine sX ?_; try refine aA ?_) | refine gS ?_)
    refine G_join (mk 140 [(6, .bool false), (7, .ptr 2 0 0), (8, .ptr 3 0 0), (10, .ptr 4 0 0), (11, i64 ge), (12, .ptr 6 0 0), (13, .ptr 5 0 0), (111, .bool false)] [⟨0, true, [i64 k, i64 p]⟩, ⟨0, true, [.bool neg, ws ns, ws dn]⟩, ⟨0, true, [i64 x.kind, .bool x.neg, i64 x.exp, nat x.mag]⟩, ⟨0, true, [i64 y.kind, .bool y.neg, i64 y.exp, nat y.mag]⟩, ⟨0, true, [i64 z.kind, .bool z.neg, i64 z.exp, nat z.mag]⟩, ⟨0, true, [i64 y.kind, .bool y.neg, i64 y.exp, nat y.mag]⟩, ⟨0, true, [i64 x.kind, .bool x.neg, i64 x.exp, nat x.mag]⟩]) ?_ ?_
    · simp only [u, i64, Nat.reduceSub, Nat.reduceAdd, bm]
      clear hX hY xn yn xy x3 y3 x2 y2 hGx hGy hTx hTy hBt hD hB hA
      by_cases hg : ge = 0
      · by_cases hz3 : z.kind = 3
        · clear hz
          repeat (first | (refine gC ?_; first | refine aA ?_ | (refine cR ret_awake16 ?_; refine sX ?_; try refine aA ?_)) | (refine cR ret_awake16 ?_; refine sX ?_; try refine aA ?_) | refine gS ?_)
          (refine FinQ hQ (congrArg Array.toList Tryz.results7) _ _ ?_); simp (disch := omega) only [u, i64, ax, if_true, forall_const, reduceCtorEq, implies_true, tvs, bf]
        · cases hsv : sv with
          | true =>
            rw [hsv] at hS
            clear hz
            repeat (first | (refine gC ?_; first | refine aA ?_ | ((first | refine cR hS ?_ | refine cR ret_awake16 ?_); refine sX ?_; try refine aA ?_)) | ((first | refine cR hS ?_ | refine cR ret_awake16 ?_); refine sX ?_; try refine aA ?_) | refine gS ?_)
            (refine FinQ hQ (congrArg Array.toList Tryz.results7) _ _ ?_); simp (disch := omega) only [u, i64, ax, if_true, forall_const, reduceCtorEq, implies_true, tvs, bf]
          | false =>
            rw [hsv] at hS
            obtain ⟨hTz, hk⟩ := hz hsv hz3
            clear hz
            rcases hk with ⟨c1, hD1, b1, b2⟩ | ⟨c1, c2, hD1, hD2, b1, b2, b3, b4⟩
            · repeat (first | (refine gC ?_; first | refine aA ?_ | ((first | refine cR hS ?_ | refine cR hTz ?_ | refine cR hD1 ?_ | refine cR ret_awake16 ?_); refine sX ?_; try refine aA ?_)) | ((first | refine cR hS ?_ | refine cR hTz ?_ | refine cR hD1 ?_ | refine cR ret_awake16 ?_); refine sX ?_; try refine aA ?_) | refine gS ?_)
              (refine FinQ hQ (congrArg Array.toList Tryz.results7) _ _ ?_); simp (disch := omega) only [u, i64, ax, if_true, forall_const, reduceCtorEq, implies_true, tvs, bf]
            · repeat (first | (refine gC ?_; first | refine aA ?_ | ((first | refine cR hS ?_ | refine cR hTz ?_ | refine cR hD1 ?_ | refine cR hD2 ?_ | refine cR ret_awake16 ?_); refine sX ?_; try refine aA ?_)) | ((first | refine cR hS ?_ | refine cR hTz ?_ | refine cR hD1 ?_ | refine cR hD2 ?_ | refine cR ret_awake16 ?_); refine sX ?_; try refine aA ?_) | refine gS ?_)
              (refine FinQ hQ (congrArg Array.toList Tryz.results7) _ _ ?_); simp (disch := omega) only [u, i64, ax, if_true, forall_const, reduceCtorEq, implies_true, tvs, bf]
      · clear hz
        repeat (first | (refine gC ?_; first | refine aA ?_ | (refine cR ret_awake16 ?_; refine sX ?_; try refine aA ?_)) | (refine cR ret_awake16 ?_; refine sX ?_; try refine aA ?_) | refine gS ?_)
        (refine FinQ hQ (congrArg Array.toList Tryz.results7) _ _ ?_); simp (disch := omega) only [u, i64, ax, if_true, forall_const, reduceCtorEq, implies_true, tvs, bf]
    · clear hz hS hTx hTy hBt hD hB hA hGx hGy
      by_cases kx : x.kind = 2
      · have hn := xn kx
        have ky1 : y.kind ≤ 1 := by have := fun h => xy ⟨kx, h⟩; clear hX hY; omega
        obtain ⟨b, n, d, c, hR2, hC2, q1, q2⟩ := hY ky1
        clear hX hY xn yn xy
        rw [hn]
        (refine gC ?_)
        (refine cR hR2 ?_; refine sX ?_; try refine aA ?_)
        (refine cR hC2 ?_; refine sX ?_; try refine aA ?_)
        refine q_tn ?_
        simp only [u, i64, Nat.reduceSub, Nat.reduceAdd, bm]
      · have kx1 : x.kind ≤ 1 := by clear hX hY; omega
        obtain ⟨b, n, d, c, hR1, hC1, q1, q2⟩ := hX kx1
        by_cases ky : y.kind = 2
        · have hn := yn ky
          clear hX hY xn yn xy
          rw [hn]
          (refine gC ?_)
          (refine cR hR1 ?_; refine sX ?_; try refine aA ?_)
          (refine cR hC1 ?_; refine sX ?_; try refine aA ?_)
          refine q_tn ?_
          simp only [u, i64, Nat.reduceSub, Nat.reduceAdd, bm]
        · have ky1 : y.kind ≤ 1 := by clear hX hY; omega
          obtain ⟨b', n', d', c', hR2, hC2, q3, q4⟩ := hY ky1
          clear hX hY xn yn xy
          (refine gC ?_)
          (refine cR hR1 ?_; refine sX ?_; try refine aA ?_)
          (refine cR hC1 ?_; refine sX ?_; try refine aA ?_)
          (refine cR hR2 ?_; refine sX ?_; try refine aA ?_)
          (refine cR hC2 ?_; refine sX ?_; try refine aA ?_)
          refine q_tn ?_
          simp only [u, i64, Nat.reduceSub, Nat.reduceAdd, bm]
theorem cpF_bounds (x y : FV) : -1 ≤ cpF x y ∧ cpF x y ≤ 1 := by
  have hzb : -1 ≤ szF x.mag x.exp y.mag y.exp ∧ szF x.mag x.exp y.mag y.exp ≤ 1 := by
    unfold szF sgnI cmpI
    split
    · split <;> (try split) <;> omega
    · split <;> split <;> (try split) <;> omega
  unfold cpF
  split
  · exact sgnI_bounds _
  · split <;> omega
theorem sgnI_ge {z : Int} : 0 ≤ sgnI z ↔ 0 ≤ z := by unfold sgnI; split <;> (try split) <;> omega
theorem rvF_ne {p : Nat} {G : Int} {r : Nat} {neg : Bool} {n d : Nat} (h : n ≠ 0) : rvF p G r neg n d = (rndF p G r neg n d).1 := by unfold rvF; rw [if_neg h]
set_option maxRecDepth 100000 in
set_option maxHeartbeats 4000000 in
theorem ret_LawRoundEncloses (k p : Int) (neg : Bool) (ns dn xs : List Nat) (hn : Wd ns) (hd : Wd dn) (hx : Wd xs) (hln : ns.length ≤ 9223372036854775807) (hld : dn.length ≤ 9223372036854775807) (hlx : xs.length ≤ 9223372036854775807) :
    Ret Tryz.prog GEs 7 [.agg [i64 k, i64 p], .agg [.bool neg, ws ns, ws dn], ws xs] (.bool true) := by
  have hB := ret_Brief1 neg ns dn hln hld
  by_cases hb : ns.length ≤ 40 ∧ dn.length ≤ 40
  · rw [decT hb] at hB
    by_cases hl : 40 < xs.length
    · refine RetN_start Tryz.func7 (by kernel_rfl) rfl fun Q hQ hQ2 => ?_; rw [Tryz.ntmps7]; simp only [u, i64, Nat.reduceSub, Nat.reduceAdd, bm]
      repeat (first | (refine gC ?_; first | refine aA ?_ | ((first | refine cR hB ?_ | refine cR ret_awake16 ?_); refine sX ?_; try refine aA ?_)) | ((first | refine cR hB ?_ | refine cR ret_awake16 ?_); refine sX ?_; try refine aA ?_) | refine gS ?_)
      (refine FinQ hQ (congrArg Array.toList Tryz.results7) _ _ ?_); simp (disch := omega) only [u, i64, ax, if_true, forall_const, reduceCtorEq, implies_true, tvs, bf]
    have hA := ret_args16 0 k p (by decide) (by decide) neg ns dn hn hd (by omega) (by omega)
    by_cases he : errR 0 k p ns.length dn.length (val dn) = 0
    · have he4 : errR 4 k p ns.length dn.length (val dn) = 0 := by rw [errR_same (r' := 0) (by decide) (by decide)]; exact he
      obtain ⟨hd0, _, _, hr, hf⟩ := errR_ok he
      obtain ⟨k, rfl⟩ := Int.eq_ofNat_of_zero_le (show 0 ≤ k by omega)
      obtain ⟨p, rfl⟩ := Int.eq_ofNat_of_zero_le (show 0 ≤ p by omega)
      have hg := gF_le (k := k) (by omega) (by omega)
      rw [he] at hA
      -- what is decoded
      obtain ⟨z, ge, hD, hge, hzf⟩ : ∃ (z : FV) (ge : Nat), Ret Tryz.prog GEs 35 [.agg [i64 k, i64 p], ws xs] (.tup [flv z, i64 ge]) ∧ ge < 1000 ∧ (z.kind ≠ 3 → (z.kind = 0 ∨ z.kind = 2 ∨ z.kind = 1 ∧ z.mag ≠ 0 ∧ inF p (gF k) z.mag z.exp) ∧ (words z.mag).length ≤ 5000 ∧ -400000 ≤ z.exp ∧ z.exp ≤ 400000) := by
        by_cases hbl : bl (val xs) ≤ k + p
        · refine ⟨_, 0, ret_Decode k p hf xs hx (by omega) hbl, by decide, fun h3 => ?_⟩
          rcases decF_facts k p (val xs) (by omega) (by omega) (by omega) (by omega) with ⟨ng, e⟩ | ⟨ng, e⟩ | e | ⟨ng, j, e, hee, hi⟩
          · rw [e]; exact ⟨.inl rfl, by show (words 0).length ≤ 5000; decide, by show -400000 ≤ (0 : Int); decide, by show (0 : Int) ≤ 400000; decide⟩
          · rw [e]; exact ⟨.inr (.inl rfl), by show (words 0).length ≤ 5000; decide, by show -400000 ≤ (0 : Int); decide, by show (0 : Int) ≤ 400000; decide⟩
          · rw [e] at h3; exact absurd rfl h3
          · rw [hee]
            have hv := inF_hasV k p hf ng j e hi
            refine ⟨.inr (.inr ⟨rfl, by show 2 * j + 1 ≠ 0; omega, hi⟩), ?_⟩
            rcases hv with ⟨h, _⟩ | ⟨_, _, h1, h2, h3⟩
            · cases h
            · exact ⟨Nat.le_trans (length_bl (k := 5) (by omega)) (by decide), by omega, by omega⟩
        · exact ⟨⟨0, false, 0, 0⟩, 151, ret_Decode_big k p hf xs hx (by omega) (by omega), by decide, fun _ => ⟨.inl rfl, by decide, by decide, by decide⟩⟩
      by_cases hz0 : val ns = 0
      · have hBt := ret_Between_zero k p neg ns dn hn hd (by omega) (by omega) he4 hz0
        have hS : Ret Tryz.prog GEs 37 [flz, flz] (.bool true) := ret_fSame ⟨0, false, 0, 0⟩ ⟨0, false, 0, 0⟩ (.inr ⟨.inl rfl, rfl, rfl⟩) (.inr ⟨.inl rfl, rfl, rfl⟩)
        have hT : Ret Tryz.prog GEs 26 [flz] flz := ret_Their ⟨0, false, 0, 0⟩
        have hG : Ret Tryz.prog GEs 25 [flz] (.bool true) := ret_GoodW ⟨0, false, 0, 0⟩ (.inr ⟨.inl rfl, rfl, rfl⟩) (by decide)
        have hR : Ret Tryz.prog GEs 36 [flz] (.agg [.bool false, nat 0, nat 1]) := ret_Rat15 ⟨0, false, 0, 0⟩ (.inl ⟨rfl, rfl, rfl⟩)
        have hC := ret_Cmp12 false neg (words 0) (words 1) ns dn (Wd_words _) (Wd_words _) hn hd (by decide) (by have : (words 1).length ≤ 1 := length_le (by decide); omega) (by omega) (by omega)
        have hq : cpQ false (val (words 0)) (val (words 1)) neg (val ns) (val dn) = 0 := by
          unfold cpQ
          rw [val_words, hz0]
          have e2 : ∀ b, sg b 0 = 0 := fun b => by unfold sg; split <;> rfl
          rw [e2, e2, Int.zero_mul, Int.zero_mul]
          rfl
        rw [hq] at hC
        exact encl_walk k p neg ns dn xs (by omega) ⟨0, false, 0, 0⟩ ⟨0, false, 0, 0⟩ z ge true hB hA hBt hD hT hT hG hG (by decide) (by decide) (fun h => by cases h) (fun h => by cases h) (fun h => by cases h.1)
          (fun _ => ⟨false, 0, 1, 0, hR, hC, by decide, by decide⟩) (fun _ => ⟨false, 0, 1, 0, hR, hC, by decide, by decide⟩) hS (fun h => by cases h) hge
      · have hBt := ret_Between_ok k p hf neg ns dn hn hd (by omega) (by omega) hz0 hd0
        have hnl := length_words_val_le hn
        have hdl := length_words_val_le hd
        obtain ⟨w1, w2, w3⟩ := rndF_wf k p hf 4 neg (val ns) (val dn) hz0 hd0 (by omega) (by omega)
        obtain ⟨u1, u2, u3⟩ := rndF_wf k p hf 3 neg (val ns) (val dn) hz0 hd0 (by omega) (by omega)
        obtain ⟨f1, f2, f3, f4, f5⟩ := enc_facts p (gF k) neg (by omega) hg.1 hz0 hd0 _ _ rfl rfl
        have hv4 := rv_hasV k p 4 hf neg (val ns) (val dn) hd0
        have hv3 := rv_hasV k p 3 hf neg (val ns) (val dn) hd0
        rw [rvF_ne hz0] at hv4 hv3
        have n4 := (rndF_fine p (gF k) 4 neg (val ns) (val dn) (by omega)).2
        have n3 := (rndF_fine p (gF k) 3 neg (val ns) (val dn) (by omega)).2
        generalize (rndF p (gF k) 4 neg (val ns) (val dn)).1 = x at *
        generalize (rndF p (gF k) 3 neg (val ns) (val dn)).1 = y at *
        have hS := ret_fSame x y w1 u1
        have bx := wf_bounds w1
        have byy := wf_bounds u1
        have hGx := ret_GoodW x w1 w3
        have hGy := ret_GoodW y u1 u3
        have key : ∀ v : FV, hasV v → ∃ c : Int, Ret Tryz.prog GEs 36 [flv v] (.agg [.bool (sgF v), nat (vn v), nat (vd v)]) ∧ Ret Tryz.prog GEs 24 [.agg [.bool (sgF v), nat (vn v), nat (vd v)], .agg [.bool neg, ws ns, ws dn]] (i64 c) ∧ c = sgnI (sg v.neg (vn v) * (val dn : Int) - sg neg (val ns) * (vd v : Nat)) := fun v hv => by
          obtain ⟨l1, l2, l3⟩ := hasV_len hv
          have h := ret_Cmp12 (sgF v) neg (words (vn v)) (words (vd v)) ns dn (Wd_words _) (Wd_words _) hn hd (by omega) (by omega) (by omega) (by omega)
          unfold cpQ at h
          rw [val_words, val_words, sgF_sg hv] at h
          exact ⟨_, ret_Rat15 v hv, h, rfl⟩
        refine encl_walk k p neg ns dn xs (by omega) x y z ge _ hB hA hBt hD (ret_Their x) (ret_Their y) hGx hGy w3 u3 f1 f2 (fun h => by have h1 := f1 h.1; have h2 := f2 h.2; rw [n4] at h1; rw [n3] at h2; rw [h1] at h2; cases h2) (fun hk => ?_) (fun hk => ?_) hS (fun _ h3 => ⟨ret_Their z, ?_⟩) hge
        · obtain ⟨c, h1, h2, h3⟩ := key x (hv4 hk)
          have hb := sgnI_bounds (sg x.neg (vn x) * (val dn : Int) - sg neg (val ns) * (vd x : Nat))
          have hle : sgnI (sg x.neg (vn x) * (val dn : Int) - sg neg (val ns) * (vd x : Nat)) ≤ 0 := sgnI_le.2 (by have := f3 hk; unfold sg; omega)
          exact ⟨_, _, _, c, h1, h2, by omega, by omega⟩
        · obtain ⟨c, h1, h2, h3⟩ := key y (hv3 hk)
          have hb := sgnI_bounds (sg y.neg (vn y) * (val dn : Int) - sg neg (val ns) * (vd y : Nat))
          have hle : 0 ≤ sgnI (sg y.neg (vn y) * (val dn : Int) - sg neg (val ns) * (vd y : Nat)) := sgnI_ge.2 (by have := f4 hk; unfold sg; omega)
          exact ⟨_, _, _, c, h1, h2, by omega, by omega⟩
        · obtain ⟨zk, z1, z2, z4⟩ := hzf h3
          have zk2 : z.kind ≤ 2 := by omega
          have hC1 := ret_Cmp15 z x zk2 w3 z1 bx.1 z2 z4 bx.2.1 bx.2.2
          have hC2 := ret_Cmp15 z y zk2 u3 z1 byy.1 z2 z4 byy.2.1 byy.2.2
          have b1 := cpF_bounds z x
          have b2 := cpF_bounds z y
          by_cases hc : cpF z x ≤ 0
          · exact .inl ⟨_, hC1, by omega, hc⟩
          · refine .inr ⟨_, _, hC1, hC2, by omega, by omega, ?_, by omega⟩
            rcases f5 z zk with h | h
            · exact absurd h hc
            · exact h
    · generalize errR 0 k p ns.length dn.length (val dn) = e at *
      refine RetN_start Tryz.func7 (by kernel_rfl) rfl fun Q hQ hQ2 => ?_; rw [Tryz.ntmps7]; simp only [u, i64, Nat.reduceSub, Nat.reduceAdd, bm]
      repeat (first | (refine gC ?_; first | refine aA ?_ | ((first | refine cR hB ?_ | refine cR hA ?_ | refine cR ret_awake16 ?_); refine sX ?_; try refine aA ?_)) | ((first | refine cR hB ?_ | refine cR hA ?_ | refine cR ret_awake16 ?_); refine sX ?_; try refine aA ?_) | refine gS ?_)
      (refine FinQ hQ (congrArg Array.toList Tryz.results7) _ _ ?_); simp (disch := omega) only [u, i64, ax, if_true, forall_const, reduceCtorEq, implies_true, tvs, bf]
  · rw [decF hb] at hB
    refine RetN_start Tryz.func7 (by kernel_rfl) rfl fun Q hQ hQ2 => ?_; rw [Tryz.ntmps7]; simp only [u, i64, Nat.reduceSub, Nat.reduceAdd, bm]
    repeat (first | (refine gC ?_; first | refine aA ?_ | ((first | refine cR hB ?_ | refine cR ret_awake16 ?_); refine sX ?_; try refine aA ?_)) | ((first | refine cR hB ?_ | refine cR ret_awake16 ?_); refine sX ?_; try refine aA ?_) | refine gS ?_)
    (refine FinQ hQ (congrArg Array.toList Tryz.results7) _ _ ?_); simp (disch := omega) only [u, i64, ax, if_true, forall_const, reduceCtorEq, implies_true, tvs, bf]
end Go.Proofs
