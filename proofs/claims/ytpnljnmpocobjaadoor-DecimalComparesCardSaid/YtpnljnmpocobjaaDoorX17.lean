/-
  Contracts of functions of the program, each proved by a walk.
-/
import Derived.Test.YtpnljnmpocobjaaDoorX15
set_option maxRecDepth 100000
set_option linter.unusedVariables false
set_option linter.unusedSimpArgs false
set_option maxHeartbeats 4000000
namespace Go.Proofs
open Go.Ax
theorem len_pos (n : Nat) : decide (0 < (words n).length) = decide (n ≠ 0) := by
  by_cases h : n = 0
  · subst h; rw [words_zero]; rfl
  · have : 0 < (words n).length := List.length_pos_iff.2 fun h0 => h (words_eq_nil.1 h0)
    rw [decT this, decT h]
set_option maxRecDepth 100000 in
theorem ret_Make (neg : Bool) (xs : List Nat) (hx : Wd xs) (hl : xs.length ≤ 34359738368) : Ret Tryd.prog GEs 136 [.bool neg, ws xs] (.agg [.bool (neg && decide (val xs ≠ 0)), nat (val xs)]) := by
  have hxl := length_words_val_le hx
  rw [← len_pos]
  refine RetN_start Tryd.func136 (by kernel_rfl) rfl fun Q hQ hQ2 => ?_; rw [Tryd.ntmps136]; simp only [u, i64, Nat.reduceSub, Nat.reduceAdd, bm]
  (refine gO ?_)
  (refine gC ?_)
  (refine cR (ret_rTrim xs hx hl) ?_; refine sX ?_; try refine aA ?_)
  cases neg with
  | true =>
    by_cases h : 0 < (words (val xs)).length
    · (refine gO ?_)
      (refine FinQ hQ (congrArg Array.toList Tryd.results136) _ _ ?_); simp (disch := omega) only [u, i64, ax, if_true, forall_const, reduceCtorEq, implies_true, tvs, bf, decT h]
    · (refine gO ?_)
      (refine FinQ hQ (congrArg Array.toList Tryd.results136) _ _ ?_); simp (disch := omega) only [u, i64, ax, if_true, forall_const, reduceCtorEq, implies_true, tvs, bf, decF h]
  | false =>
    (refine gO ?_)
    (refine FinQ hQ (congrArg Array.toList Tryd.results136) _ _ ?_); simp (disch := omega) only [u, i64, ax, if_true, forall_const, reduceCtorEq, implies_true, tvs, bf]
    all_goals rfl
set_option maxRecDepth 100000 in
theorem ret_Make11 (neg : Bool) (xs : List Nat) (hx : Wd xs) (hl : xs.length ≤ 34359738368) : Ret Tryd.prog GEs 69 [.bool neg, ws xs] (.agg [.bool (neg && decide (val xs ≠ 0)), nat (val xs)]) := by
  refine RetN_start Tryd.func69 (by kernel_rfl) rfl fun Q hQ hQ2 => ?_; rw [Tryd.ntmps69]; simp only [u, i64, Nat.reduceSub, Nat.reduceAdd, bm]
  repeat (first | (refine gC ?_; first | refine aA ?_ | (refine cR (ret_Make neg xs hx hl) ?_; refine sX ?_; try refine aA ?_)) | (refine cR (ret_Make neg xs hx hl) ?_; refine sX ?_; try refine aA ?_) | refine gS ?_)
  (refine FinQ hQ (congrArg Array.toList Tryd.results69) _ _ ?_); simp (disch := omega) only [u, i64, ax, if_true, forall_const, reduceCtorEq, implies_true, tvs, bf]
theorem ret_Short2 (d c : DI) (h1 : d.cs.length ≤ 9223372036854775807) (h2 : c.cs.length ≤ 9223372036854775807) : Ret Tryd.prog GEs 34 [.lst 2 [i64 d.k, .bool d.neg, ws d.cs, i64 d.e, i64 c.k, .bool c.neg, ws c.cs, i64 c.e]] (.bool (decide (d.cs.length ≤ 40 ∧ c.cs.length ≤ 40))) := by
  by_cases q1 : d.cs.length ≤ 40
  · skip
    by_cases q2 : c.cs.length ≤ 40
    · skip
      rw [decT (show d.cs.length ≤ 40 ∧ c.cs.length ≤ 40 from ⟨q1, q2⟩)]
      refine RetN_start Tryd.func34 (by kernel_rfl) rfl fun Q hQ hQ2 => ?_; rw [Tryd.ntmps34]; simp only [u, i64, Nat.reduceSub, Nat.reduceAdd, bm]
      (refine gO ?_)
      refine G_loop ?_
      refine G_round ?_
      (refine gO ?_)
      refine G_round ?_
      (refine gO ?_)
      refine G_round ?_
      (refine gO ?_)
      (refine FinQ hQ (congrArg Array.toList Tryd.results34) _ _ ?_); simp (disch := omega) only [u, i64, ax, if_true, forall_const, reduceCtorEq, implies_true, tvs, bf]
    · skip
      rw [decF (show ¬ (d.cs.length ≤ 40 ∧ c.cs.length ≤ 40) from fun h => q2 h.2)]
      refine RetN_start Tryd.func34 (by kernel_rfl) rfl fun Q hQ hQ2 => ?_; rw [Tryd.ntmps34]; simp only [u, i64, Nat.reduceSub, Nat.reduceAdd, bm]
      (refine gO ?_)
      refine G_loop ?_
      refine G_round ?_
      (refine gO ?_)
      refine G_round ?_
      (refine gO ?_)
      (refine FinQ hQ (congrArg Array.toList Tryd.results34) _ _ ?_); simp (disch := omega) only [u, i64, ax, if_true, forall_const, reduceCtorEq, implies_true, tvs, bf]
  · skip
    rw [decF (show ¬ (d.cs.length ≤ 40 ∧ c.cs.length ≤ 40) from fun h => q1 h.1)]
    refine RetN_start Tryd.func34 (by kernel_rfl) rfl fun Q hQ hQ2 => ?_; rw [Tryd.ntmps34]; simp only [u, i64, Nat.reduceSub, Nat.reduceAdd, bm]
    (refine gO ?_)
    refine G_loop ?_
    refine G_round ?_
    (refine gO ?_)
    (refine FinQ hQ (congrArg Array.toList Tryd.results34) _ _ ?_); simp (disch := omega) only [u, i64, ax, if_true, forall_const, reduceCtorEq, implies_true, tvs, bf]
theorem ret_Adjusted22 (k e : Int) (neg : Bool) (cs : List Nat) (hc : Wd cs) (h0 : val cs ≠ 0) (hl : cs.length ≤ 10000) (he : -1000000 ≤ e ∧ e ≤ 1000000) :
    Ret Tryd.prog GEs 166 [.agg [i64 k, .bool neg, ws cs, i64 e]] (i64 (e + dg (val cs) - 1)) := by
  have hD := ret_rDigitsW cs hc h0 hl
  have hb := bl_len (val cs)
  have hnl := length_words_val_le hc
  have hdb := dg_le_bl (val cs)
  generalize dg (val cs) = n at *
  refine RetN_start Tryd.func166 (by kernel_rfl) rfl fun Q hQ hQ2 => ?_; rw [Tryd.ntmps166]; simp only [u, i64, Nat.reduceSub, Nat.reduceAdd, bm]
  repeat (first | (refine gC ?_; first | refine aA ?_ | (refine cR hD ?_; refine sX ?_; try refine aA ?_)) | (refine cR hD ?_; refine sX ?_; try refine aA ?_) | refine gS ?_)
  (refine FinQ hQ (congrArg Array.toList Tryd.results166) _ _ ?_); simp (disch := omega) only [u, i64, ax, if_true, forall_const, reduceCtorEq, implies_true, tvs, bf]
theorem ret_At22 (e low : Int) (neg : Bool) (cs : List Nat) (hc : Wd cs) (h0 : val cs ≠ 0) (hl : cs.length ≤ 10000) (hj : low ≤ e) (hj2 : e - low ≤ 1000000) (he : -1000000 ≤ e ∧ e ≤ 1000000) :
    Ret Tryd.prog GEs 38 [.agg [i64 0, .bool neg, ws cs, i64 e], i64 low] (.agg [.bool neg, nat (val cs * 10 ^ (e - low).toNat)]) := by
  have hZ := ret_Zero22 0 e neg cs hc (by omega)
  rw [decF (show ¬ ((0 : Int) = 0 ∧ val cs = 0) from fun h => h0 h.2)] at hZ
  have hs : e - low = (((e - low).toNat : Nat) : Int) := by omega
  generalize (e - low).toNat = j at *
  have hT := ret_rTen j (by omega)
  have htl := ten_len (k := j) (by omega)
  have hM := ret_rMul cs (words (10 ^ j)) hc (Wd_words _) (by omega) (by omega)
  rw [val_words] at hM
  have hm0 : val cs * 10 ^ j ≠ 0 := Nat.mul_ne_zero h0 (Nat.ne_of_gt (Nat.pow_pos (by decide)))
  have hml : (words (val cs * 10 ^ j)).length ≤ 34359738368 := by
    have := length_mul (val cs) (10 ^ j)
    have := length_words_val_le hc
    omega
  have hK := ret_Make11 neg (words (val cs * 10 ^ j)) (Wd_words _) hml
  rw [val_words, show (neg && decide (val cs * 10 ^ j ≠ 0)) = neg by rw [decT hm0, Bool.and_true]] at hK
  clear htl hml hm0 h0
  generalize val cs * 10 ^ j = m at *
  generalize 10 ^ j = t at *
  refine RetN_start Tryd.func38 (by kernel_rfl) rfl fun Q hQ hQ2 => ?_; rw [Tryd.ntmps38]; simp only [u, i64, Nat.reduceSub, Nat.reduceAdd, bm]
  repeat (first | (refine gC ?_; first | refine aA ?_ | (refine cR hZ ?_; refine sX ?_; try refine aA ?_)) | (refine cR hZ ?_; refine sX ?_; try refine aA ?_) | refine gS ?_)
  (refine gC ?_)
  rw [hs]
  repeat (first | (refine gC ?_; first | refine aA ?_ | ((first | refine cR hT ?_ | refine cR hM ?_ | refine cR hK ?_); refine sX ?_; try refine aA ?_)) | ((first | refine cR hT ?_ | refine cR hM ?_ | refine cR hK ?_); refine sX ?_; try refine aA ?_) | refine gS ?_)
  (refine FinQ hQ (congrArg Array.toList Tryd.results38) _ _ ?_); simp (disch := omega) only [u, i64, ax, if_true, forall_const, reduceCtorEq, implies_true, tvs, bf]
def sizeD (x y : DV) : Int :=
  if x.exp + dg x.coef < y.exp + dg y.coef then -1
  else if y.exp + dg y.coef < x.exp + dg x.coef then 1
  else cmpI (x.coef * 10 ^ (x.exp - min x.exp y.exp).toNat) (y.coef * 10 ^ (y.exp - min x.exp y.exp).toNat)
def rankD (x : DV) : Int := if x.kind = 1 then (if x.neg = true then -2 else 2) else if x.coef = 0 then 0 else if x.neg = true then -1 else 1
def cmp22 (x y : DV) : Int := if rankD x < rankD y then -1 else if rankD y < rankD x then 1 else if rankD x ≠ 1 ∧ rankD x ≠ -1 then 0 else rankD x * sizeD x y
theorem cmpI_b (a b : Nat) : -1 ≤ cmpI a b ∧ cmpI a b ≤ 1 := by unfold cmpI; split <;> (try split) <;> omega
theorem sizeD_b (x y : DV) : -1 ≤ sizeD x y ∧ sizeD x y ≤ 1 := by
  unfold sizeD
  have := cmpI_b (x.coef * 10 ^ (x.exp - min x.exp y.exp).toNat) (y.coef * 10 ^ (y.exp - min x.exp y.exp).toNat)
  split
  · omega
  · split
    · omega
    · exact this
theorem rankD_b (x : DV) : -2 ≤ rankD x ∧ rankD x ≤ 2 := by unfold rankD; split <;> (try split) <;> (try split) <;> omega
set_option maxHeartbeats 4000000 in
theorem ret_size22 (d c : DI) (h1 : d.ok) (h2 : c.ok) (z1 : val d.cs ≠ 0) (z2 : val c.cs ≠ 0) (k1 : d.k = 0) (k2 : c.k = 0) (he1 : -1000000 ≤ d.e ∧ d.e ≤ 1000000) (he2 : -1000000 ≤ c.e ∧ c.e ≤ 1000000) :
    Ret Tryd.prog GEs 124 [d.av, c.av] (i64 (sizeD d.D c.D)) := by
  obtain ⟨k, n, cs, e⟩ := d
  obtain ⟨l, m, ds, f⟩ := c
  have w1 := h1.wd
  have w2 := h2.wd
  have l1 := h1.len
  have l2 := h2.len
  unfold DI.av
  simp only at *
  subst k1 k2
  clear h1 h2
  have hA := ret_Adjusted22 0 e n cs w1 z1 (by omega) he1
  have hB := ret_Adjusted22 0 f m ds w2 z2 (by omega) he2
  have b1 := dg_le_bl (val cs)
  have b2 := dg_le_bl (val ds)
  have b3 := bl_len (val cs)
  have b4 := bl_len (val ds)
  have b5 := length_words_val_le w1
  have b6 := length_words_val_le w2
  show Ret Tryd.prog GEs 124 _ (i64 (if e + dg (val cs) < f + dg (val ds) then -1 else if f + dg (val ds) < e + dg (val cs) then 1 else cmpI (val cs * 10 ^ (e - min e f).toNat) (val ds * 10 ^ (f - min e f).toNat)))
  by_cases c1 : e + dg (val cs) < f + dg (val ds)
  · rw [if_pos c1]
    generalize dg (val cs) = u1 at *
    generalize dg (val ds) = u2 at *
    refine RetN_start Tryd.func124 (by kernel_rfl) rfl fun Q hQ hQ2 => ?_; rw [Tryd.ntmps124]; simp only [u, i64, Nat.reduceSub, Nat.reduceAdd, bm]
    repeat (first | (refine gC ?_; first | refine aA ?_ | ((first | refine cR hA ?_ | refine cR hB ?_); refine sX ?_; try refine aA ?_)) | ((first | refine cR hA ?_ | refine cR hB ?_); refine sX ?_; try refine aA ?_) | refine gS ?_)
    (refine FinQ hQ (congrArg Array.toList Tryd.results124) _ _ ?_); simp (disch := omega) only [u, i64, ax, if_true, forall_const, reduceCtorEq, implies_true, tvs, bf]
  · by_cases c2 : f + dg (val ds) < e + dg (val cs)
    · rw [if_neg c1, if_pos c2]
      generalize dg (val cs) = u1 at *
      generalize dg (val ds) = u2 at *
      refine RetN_start Tryd.func124 (by kernel_rfl) rfl fun Q hQ hQ2 => ?_; rw [Tryd.ntmps124]; simp only [u, i64, Nat.reduceSub, Nat.reduceAdd, bm]
      repeat (first | (refine gC ?_; first | refine aA ?_ | ((first | refine cR hA ?_ | refine cR hB ?_); refine sX ?_; try refine aA ?_)) | ((first | refine cR hA ?_ | refine cR hB ?_); refine sX ?_; try refine aA ?_) | refine gS ?_)
      (refine FinQ hQ (congrArg Array.toList Tryd.results124) _ _ ?_); simp (disch := omega) only [u, i64, ax, if_true, forall_const, reduceCtorEq, implies_true, tvs, bf]
    · rw [if_neg c1, if_neg c2]
      have a1 := ret_At22 e (min e f) n cs w1 z1 (by omega) (by omega) (by omega) he1
      have a2 := ret_At22 f (min e f) m ds w2 z2 (by omega) (by omega) (by omega) he2
      have t1 := ten_len (k := (e - min e f).toNat) (by omega)
      have t2 := ten_len (k := (f - min e f).toNat) (by omega)
      have m1 := length_mul (val cs) (10 ^ (e - min e f).toNat)
      have m2 := length_mul (val ds) (10 ^ (f - min e f).toNat)
      have hC := ret_rCmp (words (val cs * 10 ^ (e - min e f).toNat)) (words (val ds * 10 ^ (f - min e f).toNat)) (Wd_words _) (Wd_words _) (by omega) (by omega)
      rw [val_words, val_words] at hC
      generalize val cs * 10 ^ (e - min e f).toNat = p1 at *
      generalize val ds * 10 ^ (f - min e f).toNat = p2 at *
      generalize cmpI p1 p2 = z at *
      clear t1 t2 m1 m2
      generalize dg (val cs) = u1 at *
      generalize dg (val ds) = u2 at *
      have hmin : ∃ w, w = min e f := ⟨_, rfl⟩
      refine RetN_start Tryd.func124 (by kernel_rfl) rfl fun Q hQ hQ2 => ?_; rw [Tryd.ntmps124]; simp only [u, i64, Nat.reduceSub, Nat.reduceAdd, bm]
      repeat (first | (refine gC ?_; first | refine aA ?_ | ((first | refine cR hA ?_ | refine cR hB ?_ | refine cR a1 ?_ | refine cR a2 ?_ | refine cR hC ?_); refine sX ?_; try refine aA ?_)) | ((first | refine cR hA ?_ | refine cR hB ?_ | refine cR a1 ?_ | refine cR a2 ?_ | refine cR hC ?_); refine sX ?_; try refine aA ?_) | refine gS ?_)
      (refine FinQ hQ (congrArg Array.toList Tryd.results124) _ _ ?_); simp (disch := omega) only [u, i64, ax, if_true, forall_const, reduceCtorEq, implies_true, tvs, bf]
theorem ret_rank22 (d : DI) (h1 : d.ok) (hk : d.k = 0 ∨ d.k = 1) : Ret Tryd.prog GEs 123 [d.av] (i64 (rankD d.D)) := by
  obtain ⟨k, n, cs, e⟩ := d
  have hZ := ret_Zero22 k e n cs h1.wd (Nat.le_trans h1.len (by decide))
  unfold DI.av
  simp only at *
  show Ret Tryd.prog GEs 123 _ (i64 (if k.toNat = 1 then (if n = true then -2 else 2) else if val cs = 0 then 0 else if n = true then -1 else 1))
  rcases hk with rfl | rfl
  · rw [if_neg (by decide)]
    by_cases h0 : val cs = 0
    · rw [decT ⟨rfl, h0⟩] at hZ
      rw [if_pos h0]
      cases n with
      | true =>
        refine RetN_start Tryd.func123 (by kernel_rfl) rfl fun Q hQ hQ2 => ?_; rw [Tryd.ntmps123]; simp only [u, i64, Nat.reduceSub, Nat.reduceAdd, bm]
        repeat (first | (refine gC ?_; first | refine aA ?_ | (refine cR hZ ?_; refine sX ?_; try refine aA ?_)) | (refine cR hZ ?_; refine sX ?_; try refine aA ?_) | refine gS ?_)
        (refine FinQ hQ (congrArg Array.toList Tryd.results123) _ _ ?_); simp (disch := omega) only [u, i64, ax, if_true, forall_const, reduceCtorEq, implies_true, tvs, bf]
        all_goals rfl
      | false =>
        refine RetN_start Tryd.func123 (by kernel_rfl) rfl fun Q hQ hQ2 => ?_; rw [Tryd.ntmps123]; simp only [u, i64, Nat.reduceSub, Nat.reduceAdd, bm]
        repeat (first | (refine gC ?_; first | refine aA ?_ | (refine cR hZ ?_; refine sX ?_; try refine aA ?_)) | (refine cR hZ ?_; refine sX ?_; try refine aA ?_) | refine gS ?_)
        (refine FinQ hQ (congrArg Array.toList Tryd.results123) _ _ ?_); simp (disch := omega) only [u, i64, ax, if_true, forall_const, reduceCtorEq, implies_true, tvs, bf]
        all_goals rfl
    · rw [decF (fun h => h0 h.2)] at hZ
      rw [if_neg h0]
      cases n with
      | true =>
        refine RetN_start Tryd.func123 (by kernel_rfl) rfl fun Q hQ hQ2 => ?_; rw [Tryd.ntmps123]; simp only [u, i64, Nat.reduceSub, Nat.reduceAdd, bm]
        repeat (first | (refine gC ?_; first | refine aA ?_ | (refine cR hZ ?_; refine sX ?_; try refine aA ?_)) | (refine cR hZ ?_; refine sX ?_; try refine aA ?_) | refine gS ?_)
        (refine FinQ hQ (congrArg Array.toList Tryd.results123) _ _ ?_); simp (disch := omega) only [u, i64, ax, if_true, forall_const, reduceCtorEq, implies_true, tvs, bf]
        all_goals rfl
      | false =>
        refine RetN_start Tryd.func123 (by kernel_rfl) rfl fun Q hQ hQ2 => ?_; rw [Tryd.ntmps123]; simp only [u, i64, Nat.reduceSub, Nat.reduceAdd, bm]
        repeat (first | (refine gC ?_; first | refine aA ?_ | (refine cR hZ ?_; refine sX ?_; try refine aA ?_)) | (refine cR hZ ?_; refine sX ?_; try refine aA ?_) | refine gS ?_)
        (refine FinQ hQ (congrArg Array.toList Tryd.results123) _ _ ?_); simp (disch := omega) only [u, i64, ax, if_true, forall_const, reduceCtorEq, implies_true, tvs, bf]
        all_goals rfl
  · rw [if_pos (by decide)]
    cases n with
    | true =>
      refine RetN_start Tryd.func123 (by kernel_rfl) rfl fun Q hQ hQ2 => ?_; rw [Tryd.ntmps123]; simp only [u, i64, Nat.reduceSub, Nat.reduceAdd, bm]
      (refine gO ?_)
      (refine FinQ hQ (congrArg Array.toList Tryd.results123) _ _ ?_); simp (disch := omega) only [u, i64, ax, if_true, forall_const, reduceCtorEq, implies_true, tvs, bf]
      all_goals rfl
    | false =>
      refine RetN_start Tryd.func123 (by kernel_rfl) rfl fun Q hQ hQ2 => ?_; rw [Tryd.ntmps123]; simp only [u, i64, Nat.reduceSub, Nat.reduceAdd, bm]
      (refine gO ?_)
      (refine FinQ hQ (congrArg Array.toList Tryd.results123) _ _ ?_); simp (disch := omega) only [u, i64, ax, if_true, forall_const, reduceCtorEq, implies_true, tvs, bf]
      all_goals rfl
set_option maxHeartbeats 4000000 in
theorem ret_Compare22 (d c : DI) (h1 : d.ok) (h2 : c.ok) (g1 : d.good) (g2 : c.good) : Ret Tryd.prog GEs 59 [d.av, c.av] (if d.k = 2 ∨ c.k = 2 then .tup [i64 0, .bool false] else .tup [i64 (cmp22 d.D c.D), .bool true]) := by
  by_cases a1 : d.k = 2
  · rw [if_pos (Or.inl a1)]
    unfold DI.av
    refine RetN_start Tryd.func59 (by kernel_rfl) rfl fun Q hQ hQ2 => ?_; rw [Tryd.ntmps59]; simp only [u, i64, Nat.reduceSub, Nat.reduceAdd, bm]
    (refine gO ?_)
    (refine FinQ hQ (congrArg Array.toList Tryd.results59) _ _ ?_); simp (disch := omega) only [u, i64, ax, if_true, forall_const, reduceCtorEq, implies_true, tvs, bf]
  by_cases a2 : c.k = 2
  · rw [if_pos (Or.inr a2)]
    unfold DI.av
    refine RetN_start Tryd.func59 (by kernel_rfl) rfl fun Q hQ hQ2 => ?_; rw [Tryd.ntmps59]; simp only [u, i64, Nat.reduceSub, Nat.reduceAdd, bm]
    (refine gO ?_)
    (refine FinQ hQ (congrArg Array.toList Tryd.results59) _ _ ?_); simp (disch := omega) only [u, i64, ax, if_true, forall_const, reduceCtorEq, implies_true, tvs, bf]
  rw [if_neg (by omega)]
  have e1 : (d.k = 0 ∨ d.k = 1) := by have := g1; unfold DI.good goodD at this; omega
  have e2 : (c.k = 0 ∨ c.k = 1) := by have := g2; unfold DI.good goodD at this; omega
  have hR1 := ret_rank22 d h1 e1
  have hR2 := ret_rank22 c h2 e2
  have b1 := rankD_b d.D
  have b2 := rankD_b c.D
  unfold cmp22
  by_cases c1 : rankD d.D < rankD c.D
  · rw [if_pos c1]
    generalize rankD d.D = r1 at *
    generalize rankD c.D = r2 at *
    clear g1 g2 h1 h2
    unfold DI.av at *
    refine RetN_start Tryd.func59 (by kernel_rfl) rfl fun Q hQ hQ2 => ?_; rw [Tryd.ntmps59]; simp only [u, i64, Nat.reduceSub, Nat.reduceAdd, bm]
    repeat (first | (refine gC ?_; first | refine aA ?_ | ((first | refine cR hR1 ?_ | refine cR hR2 ?_); refine sX ?_; try refine aA ?_)) | ((first | refine cR hR1 ?_ | refine cR hR2 ?_); refine sX ?_; try refine aA ?_) | refine gS ?_)
    (refine FinQ hQ (congrArg Array.toList Tryd.results59) _ _ ?_); simp (disch := omega) only [u, i64, ax, if_true, forall_const, reduceCtorEq, implies_true, tvs, bf]
  rw [if_neg c1]
  by_cases c2 : rankD c.D < rankD d.D
  · rw [if_pos c2]
    generalize rankD d.D = r1 at *
    generalize rankD c.D = r2 at *
    clear g1 g2 h1 h2
    unfold DI.av at *
    refine RetN_start Tryd.func59 (by kernel_rfl) rfl fun Q hQ hQ2 => ?_; rw [Tryd.ntmps59]; simp only [u, i64, Nat.reduceSub, Nat.reduceAdd, bm]
    repeat (first | (refine gC ?_; first | refine aA ?_ | ((first | refine cR hR1 ?_ | refine cR hR2 ?_); refine sX ?_; try refine aA ?_)) | ((first | refine cR hR1 ?_ | refine cR hR2 ?_); refine sX ?_; try refine aA ?_) | refine gS ?_)
    (refine FinQ hQ (congrArg Array.toList Tryd.results59) _ _ ?_); simp (disch := omega) only [u, i64, ax, if_true, forall_const, reduceCtorEq, implies_true, tvs, bf]
  rw [if_neg c2]
  by_cases c3 : rankD d.D ≠ 1 ∧ rankD d.D ≠ -1
  · rw [if_pos c3]
    generalize rankD d.D = r1 at *
    generalize rankD c.D = r2 at *
    obtain ⟨c4, c5⟩ := c3
    clear g1 g2 h1 h2
    unfold DI.av at *
    refine RetN_start Tryd.func59 (by kernel_rfl) rfl fun Q hQ hQ2 => ?_; rw [Tryd.ntmps59]; simp only [u, i64, Nat.reduceSub, Nat.reduceAdd, bm]
    repeat (first | (refine gC ?_; first | refine aA ?_ | ((first | refine cR hR1 ?_ | refine cR hR2 ?_); refine sX ?_; try refine aA ?_)) | ((first | refine cR hR1 ?_ | refine cR hR2 ?_); refine sX ?_; try refine aA ?_) | refine gS ?_)
    (refine FinQ hQ (congrArg Array.toList Tryd.results59) _ _ ?_); simp (disch := omega) only [u, i64, ax, if_true, forall_const, reduceCtorEq, implies_true, tvs, bf]
  rw [if_neg c3]
  have k1 : d.k = 0 ∧ val d.cs ≠ 0 := by
    have : rankD d.D = (if d.k.toNat = 1 then (if d.neg = true then -2 else 2) else if val d.cs = 0 then 0 else if d.neg = true then -1 else 1) := rfl
    rcases e1 with e1 | e1
    · refine ⟨e1, fun h => ?_⟩
      rw [e1, if_neg (by decide), if_pos h] at this
      omega
    · rw [e1, if_pos (by decide)] at this
      split at this <;> omega
  have k2 : c.k = 0 ∧ val c.cs ≠ 0 := by
    have : rankD c.D = (if c.k.toNat = 1 then (if c.neg = true then -2 else 2) else if val c.cs = 0 then 0 else if c.neg = true then -1 else 1) := rfl
    rcases e2 with e2 | e2
    · refine ⟨e2, fun h => ?_⟩
      rw [e2, if_neg (by decide), if_pos h] at this
      omega
    · rw [e2, if_pos (by decide)] at this
      split at this <;> omega
  have hS := ret_size22 d c h1 h2 k1.2 k2.2 k1.1 k2.1 (by have := g1; unfold DI.good goodD at this; omega) (by have := g2; unfold DI.good goodD at this; omega)
  have b3 := sizeD_b d.D c.D
  generalize sizeD d.D c.D = z at *
  generalize rankD d.D = r1 at *
  generalize rankD c.D = r2 at *
  clear g1 g2 h1 h2
  unfold DI.av at *
  have hr : r1 = 1 ∨ r1 = -1 := by omega
  have hr2 : r2 = r1 := by omega
  subst hr2
  rcases hr with rfl | rfl
  · rw [Int.one_mul]
    refine RetN_start Tryd.func59 (by kernel_rfl) rfl fun Q hQ hQ2 => ?_; rw [Tryd.ntmps59]; simp only [u, i64, Nat.reduceSub, Nat.reduceAdd, bm]
    repeat (first | (refine gC ?_; first | refine aA ?_ | ((first | refine cR hR1 ?_ | refine cR hR2 ?_ | refine cR hS ?_); refine sX ?_; try refine aA ?_)) | ((first | refine cR hR1 ?_ | refine cR hR2 ?_ | refine cR hS ?_); refine sX ?_; try refine aA ?_) | refine gS ?_)
    (refine FinQ hQ (congrArg Array.toList Tryd.results59) _ _ ?_); simp (disch := omega) only [u, i64, ax, if_true, forall_const, reduceCtorEq, implies_true, tvs, bf]
    rw [Int.one_mul]
  · refine RetN_start Tryd.func59 (by kernel_rfl) rfl fun Q hQ hQ2 => ?_; rw [Tryd.ntmps59]; simp only [u, i64, Nat.reduceSub, Nat.reduceAdd, bm]
    repeat (first | (refine gC ?_; first | refine aA ?_ | ((first | refine cR hR1 ?_ | refine cR hR2 ?_ | refine cR hS ?_); refine sX ?_; try refine aA ?_)) | ((first | refine cR hR1 ?_ | refine cR hR2 ?_ | refine cR hS ?_); refine sX ?_; try refine aA ?_) | refine gS ?_)
    (refine FinQ hQ (congrArg Array.toList Tryd.results59) _ _ ?_); simp (disch := omega) only [u, i64, ax, if_true, forall_const, reduceCtorEq, implies_true, tvs, bf]
theorem cmp22_D (x y : DV) (hx : rightD x) (hy : rightD y) (kx : x.kind ≤ 1) (ky : y.kind ≤ 1) : cmp22 x y = cmpD x y := by
  obtain ⟨k, n, a, e⟩ := x
  obtain ⟨l, m, b, f⟩ := y
  unfold cmp22 cmpD sizeD rankD sgD
  simp only at *
  generalize cmpI (a * 10 ^ (e - min e f).toNat) (b * 10 ^ (f - min e f).toNat) = z
  have hk : k = 0 ∨ k = 1 := by omega
  have hl : l = 0 ∨ l = 1 := by omega
  rcases hk with rfl | rfl <;> rcases hl with rfl | rfl <;> cases n <;> cases m <;> by_cases ha : a = 0 <;> by_cases hb : b = 0 <;> simp [ha, hb] <;> (try split) <;> (try split) <;> omega
theorem cmpI_anti (a b : Nat) : cmpI b a = - cmpI a b := by
  unfold cmpI
  split <;> split <;> (try split) <;> (try split) <;> omega
theorem cmpD_anti (x y : DV) (kx : x.kind ≤ 1) (ky : y.kind ≤ 1) : cmpD y x = - cmpD x y := by
  obtain ⟨k, n, a, e⟩ := x
  obtain ⟨l, m, b, f⟩ := y
  unfold cmpD sgD
  simp only at *
  rw [Int.min_comm f e, cmpI_anti (a * 10 ^ (e - min e f).toNat) (b * 10 ^ (f - min e f).toNat)]
  generalize cmpI (a * 10 ^ (e - min e f).toNat) (b * 10 ^ (f - min e f).toNat) = z
  have hk : k = 0 ∨ k = 1 := by omega
  have hl : l = 0 ∨ l = 1 := by omega
  rcases hk with rfl | rfl <;> rcases hl with rfl | rfl <;> cases n <;> cases m <;> by_cases ha : a = 0 <;> by_cases hb : b = 0 <;> simp [ha, hb] <;> (try split) <;> (try split) <;> (try split) <;> omega
theorem cmpD_b (x y : DV) : -1 ≤ cmpD x y ∧ cmpD x y ≤ 1 := by
  have h := sgD_b x
  have hc := cmpI_b (x.coef * 10 ^ (x.exp - min x.exp y.exp).toNat) (y.coef * 10 ^ (y.exp - min x.exp y.exp).toNat)
  have hs : sgD x = -1 ∨ sgD x = 0 ∨ sgD x = 1 := by omega
  unfold cmpD
  generalize cmpI (x.coef * 10 ^ (x.exp - min x.exp y.exp).toNat) (y.coef * 10 ^ (y.exp - min x.exp y.exp).toNat) = z at *
  rcases hs with hs | hs | hs <;> rw [hs] <;> (repeat' split) <;> omega
set_option maxHeartbeats 160000000 in
theorem ret_LawDecimalCompares (d c : DI) (hd : d.pre) (hc : c.pre) : Ret Tryd.prog GEs 12 [d.av, c.av] (.bool true) := by
  have hS := ret_Short2 d c hd.len hc.len
  by_cases hs : d.cs.length ≤ 40 ∧ c.cs.length ≤ 40
  · rw [decT hs] at hS
    have h1 := hd.ok hs.1
    have h2 := hc.ok hs.2
    have hA := ret_DCompare d c h1 h2
    have hB := ret_DCompare c d h2 h1
    have t1 := ret_TheirD d.k d.e d.neg d.cs
    have t2 := ret_TheirD c.k c.e c.neg c.cs
    have G1 := ret_Good22 d.k d.e d.neg d.cs h1.k1 h1.k2 h1.e1 h1.e2 h1.wd (Nat.le_trans h1.len (by decide))
    have G2 := ret_Good22 c.k c.e c.neg c.cs h2.k1 h2.k2 h2.e1 h2.e2 h2.wd (Nat.le_trans h2.len (by decide))
    by_cases g1 : d.good
    · rw [decT (show goodD d.k d.neg (val d.cs) d.e from g1)] at G1
      by_cases g2 : c.good
      · rw [decT (show goodD c.k c.neg (val c.cs) c.e from g2)] at G2
        rw [if_pos ⟨g1, g2⟩] at hA
        rw [if_pos ⟨g2, g1⟩] at hB
        have hC := ret_Compare22 d c h1 h2 g1 g2
        obtain ⟨q1, q2, q3⟩ := goodD_right g1
        obtain ⟨p1, p2, p3⟩ := goodD_right g2
        have k1 : d.D.kind = 2 ↔ d.k = 2 := by show d.k.toNat = 2 ↔ _; omega
        have k2 : c.D.kind = 2 ↔ c.k = 2 := by show c.k.toNat = 2 ↔ _; omega
        by_cases hn : d.k = 2 ∨ c.k = 2
        · rw [if_pos (by rw [k1, k2]; exact hn)] at hA
          rw [if_pos (by rw [k1, k2]; exact hn.symm)] at hB
          rw [if_pos hn] at hC
          clear q1 p1 q2 q3 p2 p3 k1 k2 hn g1 g2 h1 h2 hs
          unfold DI.av at *
          refine RetN_start Tryd.func12 (by kernel_rfl) rfl fun Q hQ hQ2 => ?_; rw [Tryd.ntmps12]; simp only [u, i64, Nat.reduceSub, Nat.reduceAdd, bm]
          (refine gO ?_)
          (refine gC ?_)
          simp (disch := omega) only [u, i64, ax, eq_self, if_true, if_false, Nat.reduceAdd, Int.reduceToNat, Int.reduceAdd, tvs, bs, Nat.reduceMul, List.take_succ_cons, List.take_zero, List.nil_append, List.cons_append, List.append_nil, Nat.reduceLeDiff]
          (refine cR hS ?_; refine sX ?_; try refine aA ?_)
          skip
          (refine gO ?_)
          (refine gC ?_)
          (refine cR hA ?_; refine sX ?_; try refine aA ?_)
          skip
          (refine gO ?_)
          (refine gC ?_)
          (refine cR hB ?_; refine sX ?_; try refine aA ?_)
          skip
          (refine gO ?_)
          (refine gC ?_)
          (refine cR t1 ?_; refine sX ?_; try refine aA ?_)
          (refine cR G1 ?_; refine sX ?_; try refine aA ?_)
          (refine cR t2 ?_; refine sX ?_; try refine aA ?_)
          (refine cR G2 ?_; refine sX ?_; try refine aA ?_)
          skip
          (refine gO ?_)
          (refine gC ?_)
          (refine cR t1 ?_; refine sX ?_; try refine aA ?_)
          (refine cR t2 ?_; refine sX ?_; try refine aA ?_)
          (refine cR hC ?_; refine sX ?_; try refine aA ?_)
          skip
          repeat (first | (refine gC ?_; first | refine aA ?_ | (refine cR ret_awake22 ?_; refine sX ?_; try refine aA ?_)) | (refine cR ret_awake22 ?_; refine sX ?_; try refine aA ?_) | refine gS ?_)
          (refine FinQ hQ (congrArg Array.toList Tryd.results12) _ _ ?_); simp (disch := omega) only [u, i64, ax, if_true, forall_const, reduceCtorEq, implies_true, tvs, bf, Int.sub_zero, Int.neg_zero]
          all_goals rfl
        · rw [if_neg (by rw [k1, k2]; exact hn)] at hA
          rw [if_neg (by rw [k1, k2]; exact fun h => hn h.symm)] at hB
          rw [if_neg hn, cmp22_D d.D c.D q1 p1 (by show d.k.toNat ≤ 1; omega) (by show c.k.toNat ≤ 1; omega)] at hC
          rw [cmpD_anti d.D c.D (by show d.k.toNat ≤ 1; omega) (by show c.k.toNat ≤ 1; omega)] at hB
          have hb := cmpD_b d.D c.D
          generalize cmpD d.D c.D = z at *
          clear q1 p1 q2 q3 p2 p3 k1 k2 hn g1 g2 h1 h2 hs
          unfold DI.av at *
          have hz : z = -1 ∨ z = 0 ∨ z = 1 := by omega
          rcases hz with rfl | rfl | rfl
          all_goals
            refine RetN_start Tryd.func12 (by kernel_rfl) rfl fun Q hQ hQ2 => ?_; rw [Tryd.ntmps12]; simp only [u, i64, Nat.reduceSub, Nat.reduceAdd, bm]
            (refine gO ?_)
            (refine gC ?_)
            simp (disch := omega) only [u, i64, ax, eq_self, if_true, if_false, Nat.reduceAdd, Int.reduceToNat, Int.reduceAdd, tvs, bs, Nat.reduceMul, List.take_succ_cons, List.take_zero, List.nil_append, List.cons_append, List.append_nil, Nat.reduceLeDiff]
            (refine cR hS ?_; refine sX ?_; try refine aA ?_)
            skip
            (refine gO ?_)
            (refine gC ?_)
            (refine cR hA ?_; refine sX ?_; try refine aA ?_)
            skip
            (refine gO ?_)
            (refine gC ?_)
            (refine cR hB ?_; refine sX ?_; try refine aA ?_)
            skip
            (refine gO ?_)
            (refine gC ?_)
            (refine cR t1 ?_; refine sX ?_; try refine aA ?_)
            (refine cR G1 ?_; refine sX ?_; try refine aA ?_)
            (refine cR t2 ?_; refine sX ?_; try refine aA ?_)
            (refine cR G2 ?_; refine sX ?_; try refine aA ?_)
            skip
            (refine gO ?_)
            (refine gC ?_)
            (refine cR t1 ?_; refine sX ?_; try refine aA ?_)
            (refine cR t2 ?_; refine sX ?_; try refine aA ?_)
            (refine cR hC ?_; refine sX ?_; try refine aA ?_)
            skip
            repeat (first | (refine gC ?_; first | refine aA ?_ | (refine cR ret_awake22 ?_; refine sX ?_; try refine aA ?_)) | (refine cR ret_awake22 ?_; refine sX ?_; try refine aA ?_) | refine gS ?_)
            (refine FinQ hQ (congrArg Array.toList Tryd.results12) _ _ ?_); simp (disch := omega) only [u, i64, ax, if_true, forall_const, reduceCtorEq, implies_true, tvs, bf, Int.sub_zero, Int.neg_zero]
            all_goals rfl
      · rw [decF (show ¬ goodD c.k c.neg (val c.cs) c.e from g2)] at G2
        rw [if_neg (fun h => g2 h.2)] at hA
        rw [if_neg (fun h => g2 h.1)] at hB
        clear g1 g2 h1 h2 hs
        unfold DI.av at *
        refine RetN_start Tryd.func12 (by kernel_rfl) rfl fun Q hQ hQ2 => ?_; rw [Tryd.ntmps12]; simp only [u, i64, Nat.reduceSub, Nat.reduceAdd, bm]
        (refine gO ?_)
        (refine gC ?_)
        simp (disch := omega) only [u, i64, ax, eq_self, if_true, if_false, Nat.reduceAdd, Int.reduceToNat, Int.reduceAdd, tvs, bs, Nat.reduceMul, List.take_succ_cons, List.take_zero, List.nil_append, List.cons_append, List.append_nil, Nat.reduceLeDiff]
        (refine cR hS ?_; refine sX ?_; try refine aA ?_)
        skip
        (refine gO ?_)
        (refine gC ?_)
        (refine cR hA ?_; refine sX ?_; try refine aA ?_)
        skip
        (refine gO ?_)
        (refine gC ?_)
        (refine cR hB ?_; refine sX ?_; try refine aA ?_)
        skip
        (refine gO ?_)
        (refine gC ?_)
        (refine cR t1 ?_; refine sX ?_; try refine aA ?_)
        (refine cR G1 ?_; refine sX ?_; try refine aA ?_)
        (refine cR t2 ?_; refine sX ?_; try refine aA ?_)
        (refine cR G2 ?_; refine sX ?_; try refine aA ?_)
        skip
        repeat (first | (refine gC ?_; first | refine aA ?_ | (refine cR ret_awake22 ?_; refine sX ?_; try refine aA ?_)) | (refine cR ret_awake22 ?_; refine sX ?_; try refine aA ?_) | refine gS ?_)
        (refine FinQ hQ (congrArg Array.toList Tryd.results12) _ _ ?_); simp (disch := omega) only [u, i64, ax, if_true, forall_const, reduceCtorEq, implies_true, tvs, bf, Int.sub_zero, Int.neg_zero]
    · rw [decF (show ¬ goodD d.k d.neg (val d.cs) d.e from g1)] at G1
      rw [if_neg (fun h => g1 h.1)] at hA
      rw [if_neg (fun h => g1 h.2)] at hB
      clear g1 h1 h2 hs
      unfold DI.av at *
      refine RetN_start Tryd.func12 (by kernel_rfl) rfl fun Q hQ hQ2 => ?_; rw [Tryd.ntmps12]; simp only [u, i64, Nat.reduceSub, Nat.reduceAdd, bm]
      (refine gO ?_)
      (refine gC ?_)
      simp (disch := omega) only [u, i64, ax, eq_self, if_true, if_false, Nat.reduceAdd, Int.reduceToNat, Int.reduceAdd, tvs, bs, Nat.reduceMul, List.take_succ_cons, List.take_zero, List.nil_append, List.cons_append, List.append_nil, Nat.reduceLeDiff]
      (refine cR hS ?_; refine sX ?_; try refine aA ?_)
      skip
      (refine gO ?_)
      (refine gC ?_)
      (refine cR hA ?_; refine sX ?_; try refine aA ?_)
      skip
      (refine gO ?_)
      (refine gC ?_)
      (refine cR hB ?_; refine sX ?_; try refine aA ?_)
      skip
      (refine gO ?_)
      (refine gC ?_)
      (refine cR t1 ?_; refine sX ?_; try refine aA ?_)
      (refine cR G1 ?_; refine sX ?_; try refine aA ?_)
      skip
      repeat (first | (refine gC ?_; first | refine aA ?_ | (refine cR ret_awake22 ?_; refine sX ?_; try refine aA ?_)) | (refine cR ret_awake22 ?_; refine sX ?_; try refine aA ?_) | refine gS ?_)
      (refine FinQ hQ (congrArg Array.toList Tryd.results12) _ _ ?_); simp (disch := omega) only [u, i64, ax, if_true, forall_const, reduceCtorEq, implies_true, tvs, bf, Int.sub_zero, Int.neg_zero]
  · rw [decF hs] at hS
    unfold DI.av at *
    refine RetN_start Tryd.func12 (by kernel_rfl) rfl fun Q hQ hQ2 => ?_; rw [Tryd.ntmps12]; simp only [u, i64, Nat.reduceSub, Nat.reduceAdd, bm]
    (refine gO ?_)
    (refine gC ?_)
    simp (disch := omega) only [u, i64, ax, eq_self, if_true, if_false, Nat.reduceAdd, Int.reduceToNat, Int.reduceAdd, tvs, bs, Nat.reduceMul, List.take_succ_cons, List.take_zero, List.nil_append, List.cons_append, List.append_nil, Nat.reduceLeDiff]
    (refine cR hS ?_; refine sX ?_; try refine aA ?_)
    skip
    repeat (first | (refine gC ?_; first | refine aA ?_ | (refine cR ret_awake22 ?_; refine sX ?_; try refine aA ?_)) | (refine cR ret_awake22 ?_; refine sX ?_; try refine aA ?_) | refine gS ?_)
    (refine FinQ hQ (congrArg Array.toList Tryd.results12) _ _ ?_); simp (disch := omega) only [u, i64, ax, if_true, forall_const, reduceCtorEq, implies_true, tvs, bf, Int.sub_zero, Int.neg_zero]
end Go.Proofs
