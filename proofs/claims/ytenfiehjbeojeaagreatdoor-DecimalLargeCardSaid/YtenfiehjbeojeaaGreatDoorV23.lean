/-
  Contracts of functions of the program, each proved by a walk.
-/
import Derived.Test.YtenfiehjbeojeaaGreatDoorV22
import Derived.Test.YtenfiehjbeojeaaGreatDoorV7
import Derived.Test.YtenfiehjbeojeaaGreatDoorV12
set_option maxRecDepth 100000
set_option linter.unusedVariables false
set_option linter.unusedSimpArgs false
set_option maxRecDepth 100000
set_option maxHeartbeats 4000000
namespace Go.Proofs
open Go.Ax
theorem Ret_nilL {P : Program} {GE : Nat → Option (List AV)} {f : FuncId} {args args' : List AV} {r : AV} (h : Ret P GE f args r) (hn : nrms args' = args) : Ret P GE f args' r :=
  ⟨h.1, fun w ok vargs hG hv => h.2 w ok vargs hG (by rw [← hn]; exact VReps.nrm _ _ hv)⟩
theorem pad_set (n : Nat) (xs : List Nat) (i : Nat) (h : i < xs.length) (hn : i < n) : (xs.take i ++ List.replicate (n - i) 0).set i (xs.getD i 0) = xs.take (i + 1) ++ List.replicate (n - (i + 1)) 0 := by
  have e : (xs.take i).length = i := by rw [List.length_take]; omega
  rw [List.set_append_right _ _ (by omega), e, Nat.sub_self, show n - i = (n - (i + 1)) + 1 by omega, List.replicate_succ, List.set_cons_zero, List.take_add_one, List.getElem?_eq_getElem h, List.getD_eq_getElem?_getD, List.getElem?_eq_getElem h, List.append_assoc]
  rfl
end Go.Proofs
set_option linter.unusedVariables false
set_option linter.unusedSimpArgs false
namespace Go.Proofs
open Go.Ax
theorem mulw (a b o c : Nat) (ha : a < 18446744073709551616) (hb : b < 18446744073709551616) (ho : o < 18446744073709551616) (hc : c < 18446744073709551616) :
    a * b / 18446744073709551616 + (a * b % 18446744073709551616 + o) / 18446744073709551616 + ((a * b % 18446744073709551616 + o) % 18446744073709551616 + c) / 18446744073709551616 < 18446744073709551616 ∧
    ((a * b % 18446744073709551616 + o) % 18446744073709551616 + c) % 18446744073709551616 + (a * b / 18446744073709551616 + (a * b % 18446744073709551616 + o) / 18446744073709551616 + ((a * b % 18446744073709551616 + o) % 18446744073709551616 + c) / 18446744073709551616) * 18446744073709551616 = a * b + o + c := by
  have h : a * b ≤ 18446744073709551615 * 18446744073709551615 := Nat.mul_le_mul (by omega) (by omega)
  generalize a * b = p at *
  omega
theorem drop_set_above (os : List Nat) (i v : Nat) : (os.set i v).drop (i + 1) = os.drop (i + 1) := by
  apply List.ext_getElem?
  intro k
  rw [List.getElem?_drop, List.getElem?_drop, List.getElem?_set_ne (by omega)]
theorem mul_step2 {s0 s c N M a y b v k o B : Nat} (h : s + c * (N * M) = s0 + N * (a * y)) (e : v + k * B = a * b + o + c) : s + N * M * v + k * (N * M * B) = s0 + N * M * o + N * (a * (y + M * b)) := by
  have e1 : N * M * v + k * (N * M * B) = N * M * (a * b + o + c) := by rw [← e, Nat.mul_add, Nat.mul_left_comm k]
  have e2 : N * (a * (y + M * b)) = N * (a * y) + N * M * (a * b) := by rw [Nat.mul_add a, Nat.mul_add N, Nat.mul_left_comm a M b, Nat.mul_assoc N M]
  rw [Nat.add_assoc, e1, e2, Nat.mul_add, Nat.mul_add, Nat.mul_comm (N * M) c]
  omega
set_option maxRecDepth 100000 in
theorem ret_Mul (xs ys : List Nat) (hx : Wd xs) (hy : Wd ys) (hlx : xs.length ≤ 549755813888) (hly : ys.length ≤ 549755813888) : Ret Tryz.prog GEs 46 [ws xs, ws ys] (nat (val xs * val ys)) := by
  refine RetN_start Tryz.func46 (by kernel_rfl) rfl fun Q hQ hQ2 => ?_; rw [Tryz.ntmps46]; simp only [u, i64, Nat.reduceSub, Nat.reduceAdd, bm]
  (refine gO ?_)
  (refine gC ?_)
  (refine cR (ret_view xs hx (by omega)) ?_; refine sX ?_; try refine aA ?_)
  (refine cR (ret_view ys hy (by omega)) ?_; refine sX ?_; try refine aA ?_)
  have hX := length_words_val_le hx
  have hY := length_words_val_le hy
  have hWx := Wd_words (val xs)
  have hWy := Wd_words (val ys)
  have hvx := val_words (val xs)
  have hvy := val_words (val ys)
  simp only [nat]
  generalize words (val xs) = X at *
  generalize words (val ys) = Y at *
  by_cases hx0 : X.length = 0
  · (refine gO ?_)
    (refine FinQ hQ (congrArg Array.toList Tryz.results46) _ _ ?_); simp (disch := omega) only [u, i64, ax, if_true, forall_const, reduceCtorEq, implies_true, tvs, bf]
    have : X = [] := List.eq_nil_of_length_eq_zero hx0
    subst this
    rw [← hvx]; simp [val, nat, words_zero, us]
  by_cases hy0 : Y.length = 0
  · (refine gO ?_)
    (refine FinQ hQ (congrArg Array.toList Tryz.results46) _ _ ?_); simp (disch := omega) only [u, i64, ax, if_true, forall_const, reduceCtorEq, implies_true, tvs, bf]
    have : Y = [] := List.eq_nil_of_length_eq_zero hy0
    subst this
    rw [← hvy]; simp [val, nat, words_zero, us]
  (refine gO ?_)
  refine AWp_loop (fun i : Nat × List Nat => mk 93 [(1, ws Y), (5, .own 0 0 0 (X.length + Y.length) 1), (32, ws X), (33, i64 X.length), (34, i64 i.1)] [⟨0, true, us i.2⟩])
      (fun i => i.1 ≤ X.length ∧ i.2.length = X.length + Y.length ∧ Wd i.2 ∧ val (i.2.take (i.1 + Y.length)) = val (X.take i.1) * val Y) (fun i => X.length - i.1) (0, List.replicate (X.length + Y.length) 0) ?_ ⟨Nat.zero_le _, by simp, Wd_replicate _ (by decide), by simp [val, val_replicate_zero]⟩ ?_
  · simp only [u, i64, Nat.reduceSub, Nat.reduceAdd, bm]
  rintro ⟨n, os0⟩ ⟨h1, h2, h3, h4⟩
  simp only at h1 h2 h3 h4
  simp only [u, i64, Nat.reduceSub, Nat.reduceAdd, bm]
  by_cases hn : n < X.length
  · have ha := hWx.getD n
    have e1 := val_take_getD X n
    (refine gO ?_)
    refine AWp_loop (fun i : Nat × List Nat × Nat => mk 93 [(1, ws Y), (5, .own 0 0 0 (X.length + Y.length) 1), (6, i64 n), (7, u (X.getD n 0)), (8, u i.2.2), (32, ws X), (33, i64 X.length), (34, i64 n), (39, ws Y), (40, i64 Y.length), (41, i64 i.1)] [⟨0, true, us i.2.1⟩])
      (fun i => i.1 ≤ Y.length ∧ i.2.1.length = X.length + Y.length ∧ Wd i.2.1 ∧ i.2.2 < 18446744073709551616 ∧ i.2.1.drop (n + i.1) = os0.drop (n + i.1) ∧ val (i.2.1.take (n + i.1)) + i.2.2 * 18446744073709551616 ^ (n + i.1) = val (os0.take (n + i.1)) + 18446744073709551616 ^ n * (X.getD n 0 * val (Y.take i.1))) (fun i => Y.length - i.1) (0, os0, 0) ?_ ⟨Nat.zero_le _, h2, h3, by simp, rfl, by simp [val]⟩ ?_
    · simp only [u, i64, Nat.reduceSub, Nat.reduceAdd, bm]
    rintro ⟨m, os, c⟩ ⟨g1, g2, g3, g4, g5, g6⟩
    simp only at g1 g2 g3 g4 g5 g6
    simp only [u, i64, Nat.reduceSub, Nat.reduceAdd, bm]
    by_cases hm : m < Y.length
    · have hb := hWy.getD m
      have ho := g3.getD (n + m)
      obtain ⟨w1, w2⟩ := mulw _ _ _ c ha hb ho g4
      have hd : X.getD n 0 * Y.getD m 0 / 18446744073709551616 < 18446744073709551616 := by
        rw [Nat.div_lt_iff_lt_mul (by decide)]; exact Nat.mul_lt_mul'' ha hb
      (refine gO ?_)
      (refine gC ?_)
      (refine callK_mem (ret_Mul64 _ _ ha hb) rfl (by (simp (disch := omega) only [if_true, forall_const, reduceCtorEq, implies_true, bz]) <;> rfl) ?_; refine sX ?_; try refine aA ?_)
      (refine gO ?_)
      (refine gC ?_)
      (refine callK_ext (retx_Add64 _ _ 0 (by decide)) rfl (by (simp (disch := omega) only [if_true, forall_const, reduceCtorEq, implies_true, bz]) <;> rfl) ?_; refine sX ?_; try refine aA ?_)
      (refine gO ?_)
      (refine gC ?_)
      (refine callK_ext (retx_Add64 _ _ 0 (by decide)) rfl (by (simp (disch := omega) only [if_true, forall_const, reduceCtorEq, implies_true, bz]) <;> rfl) ?_; refine sX ?_; try refine aA ?_)
      (refine gO ?_)
      have e2 := val_take_getD Y m
      have e3 := val_take_getD os0 (n + m)
      have hoo : os.getD (n + m) 0 = os0.getD (n + m) 0 := by
        have := congrArg (fun l => l.getD 0 0) g5
        simpa [List.getD_eq_getElem?_getD, List.getElem?_drop] using this
      have hs := val_set_take os (n + m) (((X.getD n 0 * Y.getD m 0 % 18446744073709551616 + os.getD (n + m) 0) % 18446744073709551616 + c) % 18446744073709551616) (by omega)
      refine ⟨(m + 1, os.set (n + m) (((X.getD n 0 * Y.getD m 0 % 18446744073709551616 + os.getD (n + m) 0) % 18446744073709551616 + c) % 18446744073709551616), X.getD n 0 * Y.getD m 0 / 18446744073709551616 + (X.getD n 0 * Y.getD m 0 % 18446744073709551616 + os.getD (n + m) 0) / 18446744073709551616 + ((X.getD n 0 * Y.getD m 0 % 18446744073709551616 + os.getD (n + m) 0) % 18446744073709551616 + c) / 18446744073709551616), ?_, ⟨hm, by simpa using g2, g3.set _ (Nat.mod_lt _ (by decide)), w1, ?_, ?_⟩, by simp only; omega⟩
      · simp only [u, i64, Nat.reduceSub, Nat.reduceAdd, bm]
      · simp only
        rw [show n + (m + 1) = n + m + 1 by omega, drop_set_above, ← List.drop_drop, g5, List.drop_drop]
      · simp only
        rw [show n + (m + 1) = n + m + 1 by omega, hs, e2, e3, ← hoo]
        rw [Nat.pow_add] at g6
        rw [Nat.pow_succ, Nat.pow_add]
        exact mul_step2 g6 w2
    · have hm0 : m = Y.length := by omega
      subst hm0
      have hs := val_set_take os (n + Y.length) c (by omega)
      rw [List.take_length] at g6
      (refine gO ?_)
      refine ⟨(n + 1, os.set (n + Y.length) c), ?_, ⟨hn, by simpa using g2, g3.set _ g4, ?_⟩, by simp only; omega⟩
      · simp only [u, i64, Nat.reduceSub, Nat.reduceAdd, bm]
      · simp only
        rw [show n + 1 + Y.length = n + Y.length + 1 by omega, hs, Nat.mul_comm _ c, g6, h4, e1, Nat.add_mul, Nat.mul_assoc]
  · have hn0 : n = X.length := by omega
    subst hn0
    rw [List.take_length, List.take_of_length_le (by omega), hvx, hvy] at h4
    (refine gO ?_)
    refine G_cool0 ?_
    (refine gC ?_)
    (refine cR (ret_Trim os0 h3 (by omega)) ?_; refine sX ?_; try refine aA ?_)
    rw [h4]
    (refine gO ?_)
    (refine FinQ hQ (congrArg Array.toList Tryz.results46) _ _ ?_); simp (disch := omega) only [u, i64, ax, if_true, forall_const, reduceCtorEq, implies_true, tvs, bf]
end Go.Proofs
