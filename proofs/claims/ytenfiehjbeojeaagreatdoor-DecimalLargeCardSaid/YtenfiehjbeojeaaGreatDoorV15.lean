/-
  Contracts of functions of the program, each proved by a walk.
-/
import Derived.Test.YtenfiehjbeojeaaGreatDoorV12
import Derived.Test.YtenfiehjbeojeaaGreatDoorV8
set_option maxRecDepth 100000
set_option linter.unusedVariables false
set_option linter.unusedSimpArgs false
namespace Go.Proofs
open Go.Ax
def wf : Nat → Nat → List Nat
  | 0, _ => []
  | k + 1, n => n % 18446744073709551616 :: wf k (n / 18446744073709551616)
theorem wf_length : ∀ k n, (wf k n).length = k
  | 0, _ => rfl
  | k + 1, n => by simp only [wf, List.length_cons, wf_length k]
theorem wf_Wd : ∀ k n, Wd (wf k n)
  | 0, _ => Wd_nil
  | k + 1, n => Wd_cons (Nat.mod_lt _ (by decide)) (wf_Wd k _)
theorem wf_val : ∀ (xs : List Nat), Wd xs → wf xs.length (val xs) = xs
  | [], _ => rfl
  | x :: xs, h => by
    have hx := h.head
    have e1 : val (x :: xs) % 18446744073709551616 = x := by simp only [val]; omega
    have e2 : val (x :: xs) / 18446744073709551616 = val xs := by simp only [val]; omega
    simp only [List.length_cons, wf, e1, e2, wf_val xs h.tail]
theorem val_wf : ∀ (k n : Nat), n < 18446744073709551616 ^ k → val (wf k n) = n
  | 0, n, h => by simp only [Nat.pow_zero] at h; simp [wf, val]; omega
  | k + 1, n, h => by
    have : n / 18446744073709551616 < 18446744073709551616 ^ k := by rw [Nat.div_lt_iff_lt_mul (by decide)]; rw [Nat.pow_succ] at h; exact h
    simp only [wf, val, val_wf k _ this]
    exact Nat.mod_add_div n 18446744073709551616
/-- A list in three pieces. -/
theorem three (W : List Nat) (off n : Nat) : W = W.take off ++ ((W.drop off).take n ++ W.drop (off + n)) := by
  conv => lhs; rw [← List.take_append_drop off W]
  congr 1
  conv => lhs; rw [← List.take_append_drop n (W.drop off)]
  rw [List.drop_drop]
theorem less_word {q w c b x : Nat} (hq : q < 18446744073709551616) (hw : w < 18446744073709551616) (hc : c < 18446744073709551616) (hb : b ≤ 1) (hx : x < 18446744073709551616) :
    (q * w / 18446744073709551616 + (q * w % 18446744073709551616 + c) / 18446744073709551616) < 18446744073709551616 ∧ (q * w % 18446744073709551616 + c) / 18446744073709551616 ≤ 1 ∧
    (x + 18446744073709551616 - (q * w % 18446744073709551616 + c) % 18446744073709551616 - b) % 18446744073709551616 + q * w + (c + b) = x + (q * w / 18446744073709551616 + (q * w % 18446744073709551616 + c) / 18446744073709551616 + (if x < (q * w % 18446744073709551616 + c) % 18446744073709551616 + b then 1 else 0)) * 18446744073709551616 := by
  have hp : q * w ≤ 18446744073709551616 * 18446744073709551616 - 2 * 18446744073709551616 + 1 := by
    have := Nat.mul_le_mul (show q ≤ 18446744073709551615 by omega) (show w ≤ 18446744073709551615 by omega)
    omega
  generalize q * w = p at *
  refine ⟨by omega, by omega, ?_⟩
  split <;> omega
theorem less_step {P S U k u' x k' V w q : Nat} (h : S + q * V = U + k * P) (h2 : u' + q * w + k = x + k' * 18446744073709551616) :
    (S + P * u') + q * (V + P * w) = (U + P * x) + k' * (P * 18446744073709551616) := by
  have e : P * (u' + q * w + k) = P * (x + k' * 18446744073709551616) := by rw [h2]
  have e1 : q * (V + P * w) = q * V + P * (q * w) := by rw [Nat.mul_add, Nat.mul_left_comm]
  have e2 : P * (k' * 18446744073709551616) = k' * (P * 18446744073709551616) := by rw [Nat.mul_left_comm]
  have e3 : k * P = P * k := Nat.mul_comm _ _
  simp only [Nat.mul_add] at e
  rw [e1]
  omega
theorem setd (W : List Nat) (off i v : Nat) : (W.set (off + i) v).drop off = (W.drop off).set i v := by
  rw [List.drop_set, if_neg (by omega), Nat.add_sub_cancel_left]
theorem getd (W : List Nat) (off i : Nat) : (W.drop off).getD i 0 = W.getD (off + i) 0 := by
  simp [List.getD_eq_getElem?_getD, List.getElem?_drop]
theorem getd_of {W U : List Nat} {k : Nat} (h : W.drop k = U.drop k) : W.getD k 0 = U.getD k 0 := by
  have := congrArg (fun l : List Nat => l.getD 0 0) h
  simpa [List.getD_eq_getElem?_getD, List.getElem?_drop] using this
/-- What becomes of the row. -/
def lessR (U V : List Nat) (off q : Nat) : List Nat :=
  U.take off ++ (wf (V.length + 1) (if val ((U.drop off).take (V.length + 1)) < q * val V then val ((U.drop off).take (V.length + 1)) + val V - q * val V else val ((U.drop off).take (V.length + 1)) - q * val V) ++ U.drop (off + (V.length + 1)))
theorem lessR_of {U V W : List Nat} {off q : Nat} (hW : Wd W) (hl : W.length = U.length) (hoff : off + (V.length + 1) ≤ U.length) (h1 : W.take off = U.take off) (h2 : W.drop (off + (V.length + 1)) = U.drop (off + (V.length + 1)))
    (h3 : val ((W.drop off).take (V.length + 1)) = if val ((U.drop off).take (V.length + 1)) < q * val V then val ((U.drop off).take (V.length + 1)) + val V - q * val V else val ((U.drop off).take (V.length + 1)) - q * val V) : W = lessR U V off q := by
  unfold lessR
  rw [← h3, ← h1, ← h2]
  have hlen : ((W.drop off).take (V.length + 1)).length = V.length + 1 := by
    rw [List.length_take, List.length_drop]; omega
  have := wf_val _ ((hW.drop off).take (V.length + 1))
  rw [hlen] at this
  rw [this]
  exact three W off (V.length + 1)
theorem less_end {T s c P A S qV X Vv : Nat} (h1 : A + P * s = S) (h2 : S + qV = X + 1 * (P * 18446744073709551616)) (h3 : T + c * P = A + Vv) (h4 : qV ≤ X + Vv) (h5 : T < P) (h6 : s < 18446744073709551616) (h7 : c ≤ 1) : T + P * ((s + c) % 18446744073709551616) = X + Vv - qV := by
  have e1 : c * P = P * c := Nat.mul_comm _ _
  rcases Nat.lt_or_ge (s + c) 18446744073709551616 with h | h
  · have e2 := Nat.mul_le_mul_left P (show s + c + 1 ≤ 18446744073709551616 from h)
    simp only [Nat.mul_add, Nat.mul_one] at e2
    omega
  · have e3 : s + c = 18446744073709551616 := by omega
    have e4 : P * (s + c) = P * 18446744073709551616 := by rw [e3]
    rw [Nat.mul_add] at e4
    rw [e3, Nat.mod_self, Nat.mul_zero]
    omega
theorem last_word {c b x : Nat} (hc : c < 18446744073709551616) (hb : b ≤ 1) (hx : x < 18446744073709551616) : (x + 18446744073709551616 - c - b) % 18446744073709551616 + (c + b) = x + (if x < c + b then 1 else 0) * 18446744073709551616 := by
  split <;> omega
theorem drop_more {W U : List Nat} {k : Nat} (h : W.drop k = U.drop k) : W.drop (k + 1) = U.drop (k + 1) := by
  have := congrArg (List.drop 1) h
  simpa [List.drop_drop] using this
set_option maxRecDepth 100000 in
set_option maxHeartbeats 4000000 in
theorem ret_less (U V : List Nat) (off q : Nat) (hU : Wd U) (hV : Wd V) (hq : q < 18446744073709551616) (hoff : off + (V.length + 1) ≤ U.length) (hl : U.length ≤ 1099511627776) (hfit : q * val V ≤ val ((U.drop off).take (V.length + 1)) + val V) :
    RetM Tryz.prog GEs 87 [.own 0 0 off (V.length + 1) 1, ws V, u q] (us U) (us (lessR U V off q)) (.bool (decide (val ((U.drop off).take (V.length + 1)) < q * val V))) := by
  refine RetM_start Tryz.func87 (by kernel_rfl) rfl fun Q hQ hQ2 => ?_; rw [Tryz.ntmps87, sM_eq]; simp only [u, i64, Nat.reduceSub, Nat.reduceAdd, bm]
  (refine gO ?_)
  refine AWp_loop (fun i : Nat × List Nat × Nat × Nat => mk 99 [(0, .own 0 0 off (V.length + 1) 1), (1, ws V), (2, u q), (7, u i.2.2.1), (8, u i.2.2.2), (17, ws V), (18, i64 V.length), (19, i64 i.1)] [⟨0, true, us i.2.1⟩])
    (fun i => i.1 ≤ V.length ∧ i.2.1.length = U.length ∧ Wd i.2.1 ∧ i.2.2.1 < 18446744073709551616 ∧ i.2.2.2 ≤ 1 ∧ i.2.1.take off = U.take off ∧ i.2.1.drop (off + i.1) = U.drop (off + i.1) ∧ val ((i.2.1.drop off).take i.1) + q * val (V.take i.1) = val ((U.drop off).take i.1) + (i.2.2.1 + i.2.2.2) * 18446744073709551616 ^ i.1)
    (fun i => V.length - i.1) (0, U, 0, 0) ?_ ⟨Nat.zero_le _, rfl, hU, by simp, by simp, rfl, rfl, by simp [val]⟩ ?_
  · simp only [u, i64, Nat.reduceSub, Nat.reduceAdd, bm]
  rintro ⟨n, W, c, b⟩ ⟨h1, h2, h3, h4, h5, h6, h7, h8⟩
  simp only at h1 h2 h3 h4 h5 h6 h7 h8
  simp only [u, i64, Nat.reduceSub, Nat.reduceAdd, bm]
  have hx := h3.getD (off + n)
  have e1 := val_take_getD (U.drop off) n
  rw [getd, ← getd_of h7] at e1
  by_cases hn : n < V.length
  · have hw := hV.getD n
    obtain ⟨k1, k2, k3⟩ := less_word hq hw h4 h5 hx
    have e2 := val_take_getD V n
    have hs := val_set_take (W.drop off) n ((W.getD (off + n) 0 + 18446744073709551616 - (q * V.getD n 0 % 18446744073709551616 + c) % 18446744073709551616 - b) % 18446744073709551616) (by rw [List.length_drop]; omega)
    rw [← setd] at hs
    have e3 := less_step h8 k3
    rw [← hs, ← e1, ← e2, ← Nat.pow_succ] at e3
    have hlow : (q * V.getD n 0 % 18446744073709551616 + c) % 18446744073709551616 < 18446744073709551616 := Nat.mod_lt _ (by decide)
    (refine gO ?_)
    (refine gC ?_)
    (refine callK_mem (ret_Mul64 q (V.getD n 0) hq hw) rfl (by (simp (disch := omega) only [if_true, forall_const, reduceCtorEq, implies_true, bz]) <;> rfl) ?_; refine sX ?_; try refine aA ?_)
    (refine gO ?_)
    (refine gC ?_)
    (refine callK_ext (retx_Add64 (q * V.getD n 0 % 18446744073709551616) c 0 (by decide)) rfl (by (simp (disch := omega) only [if_true, forall_const, reduceCtorEq, implies_true, bz]) <;> rfl) ?_; refine sX ?_; try refine aA ?_)
    (refine gO ?_)
    (refine gC ?_)
    (refine callK_ext (retx_Sub64 (W.getD (off + n) 0) ((q * V.getD n 0 % 18446744073709551616 + c) % 18446744073709551616) b h5) rfl (by (simp (disch := omega) only [if_true, forall_const, reduceCtorEq, implies_true, bz]) <;> rfl) ?_; refine sX ?_; try refine aA ?_)
    (refine gO ?_)
    refine ⟨(n + 1, W.set (off + n) ((W.getD (off + n) 0 + 18446744073709551616 - (q * V.getD n 0 % 18446744073709551616 + c) % 18446744073709551616 - b) % 18446744073709551616), q * V.getD n 0 / 18446744073709551616 + (q * V.getD n 0 % 18446744073709551616 + c) / 18446744073709551616, if W.getD (off + n) 0 < (q * V.getD n 0 % 18446744073709551616 + c) % 18446744073709551616 + b then 1 else 0), ?_,
      ⟨hn, by simpa using h2, h3.set _ (Nat.mod_lt _ (by decide)), k1, ite_le1 _, by rw [List.take_set_of_le (by omega)]; exact h6, ?_, e3⟩, by simp only; omega⟩
    · simp only [u, i64, Nat.reduceSub, Nat.reduceAdd, bm]
    · show (W.set (off + n) _).drop (off + n + 1) = U.drop (off + n + 1)
      rw [List.drop_set_of_lt (by omega)]
      exact drop_more h7
  · have hn0 : n = V.length := by omega
    subst hn0
    rw [List.take_of_length_le (Nat.le_refl _)] at h8
    have k3 := last_word h4 h5 hx
    have hs := val_set_take (W.drop off) V.length ((W.getD (off + V.length) 0 + 18446744073709551616 - c - b) % 18446744073709551616) (by rw [List.length_drop]; omega)
    rw [← setd] at hs
    have e3 := less_step (V := val V) (w := 0) h8 (by rw [Nat.mul_zero, Nat.add_zero]; exact k3)
    rw [← hs, ← e1] at e3
    simp only [Nat.mul_zero, Nat.add_zero] at e3
    have g1 : (W.set (off + V.length) ((W.getD (off + V.length) 0 + 18446744073709551616 - c - b) % 18446744073709551616)).length = U.length := by simpa using h2
    have g2 : Wd (W.set (off + V.length) ((W.getD (off + V.length) 0 + 18446744073709551616 - c - b) % 18446744073709551616)) := h3.set _ (Nat.mod_lt _ (by decide))
    have g3 : (W.set (off + V.length) ((W.getD (off + V.length) 0 + 18446744073709551616 - c - b) % 18446744073709551616)).take off = U.take off := by rw [List.take_set_of_le (by omega)]; exact h6
    have g4 : (W.set (off + V.length) ((W.getD (off + V.length) 0 + 18446744073709551616 - c - b) % 18446744073709551616)).drop (off + (V.length + 1)) = U.drop (off + (V.length + 1)) := by
      show (W.set (off + V.length) _).drop (off + V.length + 1) = U.drop (off + V.length + 1)
      rw [List.drop_set_of_lt (by omega)]
      exact drop_more h7
    have g5 := val_lt ((g2.drop off).take (V.length + 1))
    rw [List.length_take, List.length_drop, Nat.min_eq_left (by omega), Nat.pow_succ] at g5
    by_cases hb : W.getD (off + V.length) 0 < c + b
    · rw [if_pos hb] at e3
      have hmod : (W.getD (off + V.length) 0 + 18446744073709551616 - c - b) % 18446744073709551616 = W.getD (off + V.length) 0 + 18446744073709551616 - c - b := Nat.mod_eq_of_lt (by omega)
      rw [hmod] at g1 g2 g3 g4 g5 e3
      have hlt : val ((U.drop off).take (V.length + 1)) < q * val V := by omega
      (refine gO ?_)
      (refine gC ?_)
      (refine callK_ext (retx_Sub64 (W.getD (off + V.length) 0) c b h5) rfl (by (simp (disch := omega) only [if_true, forall_const, reduceCtorEq, implies_true, bz]) <;> rfl) ?_; refine sX ?_; try refine aA ?_)
      generalize hW1 : W.set (off + V.length) (W.getD (off + V.length) 0 + 18446744073709551616 - c - b) = W1 at *
      clear hmod k3 hs h8 h7 h6 hx e1 h3 h2 hW1 hb
      (refine gO ?_)
      refine AWp_loop (fun i : Nat × List Nat × Nat => mk 99 [(0, .own 0 0 off (V.length + 1) 1), (1, ws V), (14, u i.2.2), (70, ws V), (71, i64 V.length), (72, i64 i.1)] [⟨0, true, us i.2.1⟩])
        (fun i => i.1 ≤ V.length ∧ i.2.1.length = U.length ∧ Wd i.2.1 ∧ i.2.2 ≤ 1 ∧ i.2.1.take off = U.take off ∧ i.2.1.drop (off + i.1) = W1.drop (off + i.1) ∧ val ((i.2.1.drop off).take i.1) + i.2.2 * 18446744073709551616 ^ i.1 = val ((W1.drop off).take i.1) + val (V.take i.1))
        (fun i => V.length - i.1) (0, W1, 0) ?_ ⟨Nat.zero_le _, g1, g2, by simp, g3, rfl, by simp [val]⟩ ?_
      · simp only [u, i64, Nat.reduceSub, Nat.reduceAdd, bm]
      rintro ⟨n, W, c⟩ ⟨h1, h2, h3, h4, h6, h7, h8⟩
      simp only at h1 h2 h3 h4 h6 h7 h8
      simp only [u, i64, Nat.reduceSub, Nat.reduceAdd, bm]
      have hx := h3.getD (off + n)
      have e1 := val_take_getD (W1.drop off) n
      rw [getd, ← getd_of h7] at e1
      by_cases hn : n < V.length
      · have hw := hV.getD n
        have e2 := val_take_getD V n
        have hs := val_set_take (W.drop off) n ((W.getD (off + n) 0 + V.getD n 0 + c) % 18446744073709551616) (by rw [List.length_drop]; omega)
        rw [← setd] at hs
        have e4 := add_step _ _ _ _ c (W.getD (off + n) 0) (V.getD n 0) h8
        rw [← hs, ← e1, ← e2, ← Nat.pow_succ] at e4
        have hc1 : (W.getD (off + n) 0 + V.getD n 0 + c) / 18446744073709551616 ≤ 1 := by omega
        (refine gO ?_)
        (refine gC ?_)
        (refine callK_ext (retx_Add64 (W.getD (off + n) 0) (V.getD n 0) c h4) rfl (by (simp (disch := omega) only [if_true, forall_const, reduceCtorEq, implies_true, bz]) <;> rfl) ?_; refine sX ?_; try refine aA ?_)
        (refine gO ?_)
        refine ⟨(n + 1, W.set (off + n) ((W.getD (off + n) 0 + V.getD n 0 + c) % 18446744073709551616), (W.getD (off + n) 0 + V.getD n 0 + c) / 18446744073709551616), ?_,
          ⟨hn, by simpa using h2, h3.set _ (Nat.mod_lt _ (by decide)), hc1, by rw [List.take_set_of_le (by omega)]; exact h6, ?_, e4⟩, by simp only; omega⟩
        · simp only [u, i64, Nat.reduceSub, Nat.reduceAdd, bm]
        · show (W.set (off + n) _).drop (off + n + 1) = W1.drop (off + n + 1)
          rw [List.drop_set_of_lt (by omega)]
          exact drop_more h7
      · have hn0 : n = V.length := by omega
        subst hn0
        rw [List.take_of_length_le (Nat.le_refl _)] at h8
        have hT := val_lt ((h3.drop off).take V.length)
        rw [List.length_take, List.length_drop, Nat.min_eq_left (by omega)] at hT
        have hs := val_set_take (W.drop off) V.length ((W.getD (off + V.length) 0 + c) % 18446744073709551616) (by rw [List.length_drop]; omega)
        rw [← setd, less_end e1.symm e3 h8 hfit hT hx h4] at hs
        have hend : W.set (off + V.length) ((W.getD (off + V.length) 0 + c) % 18446744073709551616) = lessR U V off q := by
          refine lessR_of (h3.set _ (Nat.mod_lt _ (by decide))) (by simpa using h2) hoff (by rw [List.take_set_of_le (by omega)]; exact h6) ?_ (by rw [if_pos hlt]; exact hs)
          show (W.set (off + V.length) _).drop (off + V.length + 1) = U.drop (off + V.length + 1)
          rw [List.drop_set_of_lt (by omega), drop_more h7]
          exact g4
        (refine gO ?_)
        rw [hend]
        refine FinQM hQ (congrArg Array.toList Tryz.results87) _ _ rfl (us_noMem _) ?_; simp (disch := omega) only [u, i64, ax, if_true, forall_const, reduceCtorEq, implies_true, tvs, bf, decT hlt]
    · rw [if_neg hb, Nat.zero_mul, Nat.add_zero] at e3
      have hge : ¬ val ((U.drop off).take (V.length + 1)) < q * val V := by omega
      have hend : W.set (off + V.length) ((W.getD (off + V.length) 0 + 18446744073709551616 - c - b) % 18446744073709551616) = lessR U V off q :=
        lessR_of g2 g1 hoff g3 g4 (by rw [if_neg hge]; omega)
      (refine gO ?_)
      (refine gC ?_)
      (refine callK_ext (retx_Sub64 (W.getD (off + V.length) 0) c b h5) rfl (by (simp (disch := omega) only [if_true, forall_const, reduceCtorEq, implies_true, bz]) <;> rfl) ?_; refine sX ?_; try refine aA ?_)
      (refine gO ?_)
      rw [hend]
      refine FinQM hQ (congrArg Array.toList Tryz.results87) _ _ rfl (us_noMem _) ?_; simp (disch := omega) only [u, i64, ax, if_true, forall_const, reduceCtorEq, implies_true, tvs, bf, decF hge]
end Go.Proofs
