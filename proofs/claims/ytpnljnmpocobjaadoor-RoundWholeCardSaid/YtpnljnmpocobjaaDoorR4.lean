/-
  Contracts of functions of the program, each proved by a walk.
-/
import Derived.Test.YtpnljnmpocobjaaDoorR3
set_option linter.unusedVariables false
set_option linter.unusedSimpArgs false
namespace Go.Proofs
open Go.Ax

theorem times_word {c o x y : Nat} (hc : c < 4294967296) (ho : o < 4294967296) (hx : x < 4294967296) (hy : y < 4294967296) : x * y < 18446744073709551616 ∧ c + o < 18446744073709551616 ∧ c + o + x * y < 18446744073709551616 ∧ (c + o + x * y) / 4294967296 < 4294967296 := by
  have h := Nat.mul_le_mul (show x ≤ 4294967295 by omega) (show y ≤ 4294967295 by omega)
  generalize x * y = p at *
  omega
theorem times_step {K P Q A S c o x y V M : Nat} (h : S + P * c = M + Q * x * V) (hP : P = Q * A) : (S + P * ((c + o + x * y) % K)) + P * K * ((c + o + x * y) / K) = (M + P * o) + Q * x * (V + A * y) := by
  have e := Nat.mod_add_div (c + o + x * y) K
  have e1 : P * ((c + o + x * y) % K) + P * K * ((c + o + x * y) / K) = P * (c + o + x * y) := by
    rw [Nat.mul_assoc P K, ← Nat.mul_add, e]
  have e2 : P * (x * y) = Q * x * (A * y) := by rw [hP, Nat.mul_assoc Q A, Nat.mul_left_comm A x, ← Nat.mul_assoc Q x]
  rw [Nat.mul_add, Nat.mul_add, e2] at e1
  rw [Nat.mul_add (Q * x)]
  omega
theorem getDs (os : List Nat) (i k v : Nat) : (os.set i v).getD k 0 = if i = k ∧ k < os.length then v else os.getD k 0 := by
  rw [List.getD_eq_getElem?_getD, List.getElem?_set]
  by_cases h : i = k
  · subst h
    by_cases h2 : i < os.length
    · simp [h2]
    · simp [h2, List.getD_eq_getElem?_getD, List.getElem?_eq_none (Nat.le_of_not_lt h2)]
  · simp [h, List.getD_eq_getElem?_getD]

set_option maxRecDepth 100000 in
set_option maxHeartbeats 1000000 in
theorem retF_Times (a b : List Nat) (ha : Ds 4294967296 a) (hb : Ds 4294967296 b) (hla : a.length ≤ 549755813888) (hlb : b.length ≤ 549755813888) :
    RetF Tryd.prog GEs 155 [ws a, ws b] (us (wfb 4294967296 (a.length + b.length) (vb 4294967296 a * vb 4294967296 b))) := by
  refine RetF_start Tryd.func155 (by kernel_rfl) rfl fun Q hQ hQ2 => ?_
  rw [Tryd.ntmps155]; simp only [u, i64, Nat.reduceSub, Nat.reduceAdd, bm]
  repeat (first | (((first | refine G_sreg mixed (by first | rfl | kernel_rfl) ?_ | refine G_reg mixed (by first | rfl | kernel_rfl) ?_); simp (disch := omega) only [u, i64, ax, eq_self, if_true, if_false, Nat.reduceAdd, Int.reduceToNat, Int.reduceAdd, tvs, bs]; refine aft_any ?_)) | refine G_seq ?_ | refine G_block ?_ | refine G_condT rfl ?_ | refine G_condF rfl ?_ | refine G_skip ?_ | refine G_ret ?_ | refine G_exit ?_ | refine q_tn ?_ | refine q_tr ?_ | refine q_tx ?_ | refine q_bn ?_ | refine q_br ?_ | refine q_bx ?_ | refine q_by (by decide) ?_)
  refine AWp_loop (fun i : Nat × List Nat => mk 62 [(0, ws a), (1, ws b), (5, .own 0 0 0 (a.length + b.length) 1), (6, i64 i.1)] [⟨0, true, us i.2⟩])
    (fun i => i.1 ≤ a.length ∧ i.2.length = a.length + b.length ∧ Ds 4294967296 i.2 ∧ (∀ j, i.1 + b.length ≤ j → i.2.getD j 0 = 0) ∧ vb 4294967296 (i.2.take (i.1 + b.length)) = vb 4294967296 (a.take i.1) * vb 4294967296 b) (fun i => a.length - i.1) (0, List.replicate (a.length + b.length) 0) ?_
    ⟨Nat.zero_le _, by simp, Ds_zeros (by decide) _, fun j _ => getD_rep _ _, by simp [vb, List.take_replicate, vb_zeros]⟩ ?_
  · simp only [u, i64, Nat.reduceSub, Nat.reduceAdd, bm]
  rintro ⟨n, os⟩ ⟨h1, h2, h3, h4, h5⟩
  simp only at h1 h2 h3 h4 h5
  simp only [u, i64, Nat.reduceSub, Nat.reduceAdd, bm]
  by_cases hn : n < a.length
  · have hx := ha.getD (by decide) n
    have e1 := vb_take_getD (K := 4294967296) a n
    repeat (first | (((first | refine G_sreg mixed (by first | rfl | kernel_rfl) ?_ | refine G_reg mixed (by first | rfl | kernel_rfl) ?_); simp (disch := omega) only [u, i64, ax, eq_self, if_true, if_false, Nat.reduceAdd, Int.reduceToNat, Int.reduceAdd, tvs, bs]; refine aft_any ?_)) | refine G_seq ?_ | refine G_block ?_ | refine G_condT rfl ?_ | refine G_condF rfl ?_ | refine G_skip ?_ | refine G_ret ?_ | refine G_exit ?_ | refine q_tn ?_ | refine q_tr ?_ | refine q_tx ?_ | refine q_bn ?_ | refine q_br ?_ | refine q_bx ?_ | refine q_by (by decide) ?_)
    refine AWp_loop (fun i : Nat × List Nat × Nat => mk 62 [(0, ws a), (1, ws b), (5, .own 0 0 0 (a.length + b.length) 1), (6, i64 n), (7, u i.2.2), (8, i64 i.1)] [⟨0, true, us i.2.1⟩])
      (fun i => i.1 ≤ b.length ∧ i.2.1.length = a.length + b.length ∧ Ds 4294967296 i.2.1 ∧ i.2.2 < 4294967296 ∧ (∀ j, n + i.1 ≤ j → i.2.1.getD j 0 = os.getD j 0) ∧
        vb 4294967296 (i.2.1.take (n + i.1)) + 4294967296 ^ (n + i.1) * i.2.2 = vb 4294967296 (os.take (n + i.1)) + 4294967296 ^ n * a.getD n 0 * vb 4294967296 (b.take i.1)) (fun i => b.length - i.1) (0, os, 0) ?_
      ⟨Nat.zero_le _, h2, h3, by simp, fun j _ => rfl, by simp [vb]⟩ ?_
    · simp only [u, i64, Nat.reduceSub, Nat.reduceAdd, bm]
    rintro ⟨k, ps, c⟩ ⟨g1, g2, g3, g4, g5, g6⟩
    simp only at g1 g2 g3 g4 g5 g6
    simp only [u, i64, Nat.reduceSub, Nat.reduceAdd, bm]
    by_cases hk : k < b.length
    · have hy := hb.getD (by decide) k
      have ho := g3.getD (by decide) (n + k)
      have e2 := vb_take_getD (K := 4294967296) b k
      have e3 := vb_take_getD (K := 4294967296) os (n + k)
      rw [← g5 (n + k) (Nat.le_refl _)] at e3
      have hs := vb_set_take (K := 4294967296) ps (n + k) ((c + ps.getD (n + k) 0 + a.getD n 0 * b.getD k 0) % 4294967296) (by omega)
      have e4 := times_step (K := 4294967296) (o := ps.getD (n + k) 0) (y := b.getD k 0) g6 (Nat.pow_add _ _ _)
      rw [← hs, ← e3, ← e2, ← Nat.pow_succ] at e4
      obtain ⟨w1, w2, w3, w4⟩ := times_word g4 ho hx hy
      repeat (first | (((first | refine G_sreg mixed (by first | rfl | kernel_rfl) ?_ | refine G_reg mixed (by first | rfl | kernel_rfl) ?_); simp (disch := omega) only [u, i64, ax, eq_self, if_true, if_false, Nat.reduceAdd, Int.reduceToNat, Int.reduceAdd, tvs, bs]; refine aft_any ?_)) | refine G_seq ?_ | refine G_block ?_ | refine G_condT rfl ?_ | refine G_condF rfl ?_ | refine G_skip ?_ | refine G_ret ?_ | refine G_exit ?_ | refine q_tn ?_ | refine q_tr ?_ | refine q_tx ?_ | refine q_bn ?_ | refine q_br ?_ | refine q_bx ?_ | refine q_by (by decide) ?_)
      refine ⟨(k + 1, ps.set (n + k) ((c + ps.getD (n + k) 0 + a.getD n 0 * b.getD k 0) % 4294967296), (c + ps.getD (n + k) 0 + a.getD n 0 * b.getD k 0) / 4294967296), ?_,
        ⟨hk, by simpa using g2, g3.set _ (Nat.mod_lt _ (by decide)), w4, fun j hj => ?_, e4⟩, by simp only; omega⟩
      · simp only [u, i64, Nat.reduceSub, Nat.reduceAdd, bm]
      · simp only at hj ⊢
        rw [getDs, if_neg (by omega)]
        exact g5 j (by omega)
    · have hk0 : k = b.length := by omega
      subst hk0
      rw [List.take_of_length_le (Nat.le_refl _), h5] at g6
      have hs := vb_set_take (K := 4294967296) ps (n + b.length) c (by omega)
      have hfin : vb 4294967296 ((ps.set (n + b.length) c).take (n + 1 + b.length)) = vb 4294967296 (a.take (n + 1)) * vb 4294967296 b := by
        rw [show n + 1 + b.length = n + b.length + 1 by omega, hs, g6, e1, Nat.add_mul]
      repeat (first | (((first | refine G_sreg mixed (by first | rfl | kernel_rfl) ?_ | refine G_reg mixed (by first | rfl | kernel_rfl) ?_); simp (disch := omega) only [u, i64, ax, eq_self, if_true, if_false, Nat.reduceAdd, Int.reduceToNat, Int.reduceAdd, tvs, bs]; refine aft_any ?_)) | refine G_seq ?_ | refine G_block ?_ | refine G_condT rfl ?_ | refine G_condF rfl ?_ | refine G_skip ?_ | refine G_ret ?_ | refine G_exit ?_ | refine q_tn ?_ | refine q_tr ?_ | refine q_tx ?_ | refine q_bn ?_ | refine q_br ?_ | refine q_bx ?_ | refine q_by (by decide) ?_)
      refine ⟨(n + 1, ps.set (n + b.length) c), ?_, ⟨hn, by simpa using g2, g3.set _ g4, fun j hj => ?_, hfin⟩, by simp only; omega⟩
      · simp only [u, i64, Nat.reduceSub, Nat.reduceAdd, bm]
      · simp only at hj ⊢
        rw [getDs, if_neg (by omega), g5 j (by omega)]
        exact h4 j (by omega)
  · have hn0 : n = a.length := by omega
    subst hn0
    rw [List.take_of_length_le (by omega), List.take_length] at h5
    rw [← wfb_of (by decide) h3 h2 h5] at hQ
    repeat (first | (((first | refine G_sreg mixed (by first | rfl | kernel_rfl) ?_ | refine G_reg mixed (by first | rfl | kernel_rfl) ?_); simp (disch := omega) only [u, i64, ax, eq_self, if_true, if_false, Nat.reduceAdd, Int.reduceToNat, Int.reduceAdd, tvs, bs]; refine aft_any ?_)) | refine G_seq ?_ | refine G_block ?_ | refine G_condT rfl ?_ | refine G_condF rfl ?_ | refine G_skip ?_ | refine G_ret ?_ | refine G_exit ?_ | refine q_tn ?_ | refine q_tr ?_ | refine q_tx ?_ | refine q_bn ?_ | refine q_br ?_ | refine q_bx ?_ | refine q_by (by decide) ?_)
    refine FinQF hQ (congrArg Array.toList Tryd.results155) _ _ _ _ _ _ _ rfl rfl (by simp [us_length, h2]) (by rw [List.take_of_length_le (by simp [us_length]; omega)]) (us_noMem _)
theorem ret_Times (a b : List Nat) (ha : Ds 4294967296 a) (hb : Ds 4294967296 b) (hla : a.length ≤ 549755813888) (hlb : b.length ≤ 549755813888) :
    Ret Tryd.prog GEs 155 [ws a, ws b] (ws (wfb 4294967296 (a.length + b.length) (vb 4294967296 a * vb 4294967296 b))) := by
  have := (retF_Times a b ha hb hla hlb).ret
  rwa [us_length] at this
theorem ret_Minus (a b : List Nat) (ha : Ds 4294967296 a) (hb : Ds 4294967296 b) (h0 : a ≠ []) (hla : a.length ≤ 1099511627775) (hlb : b.length ≤ 1099511627775) :
    Ret Tryd.prog GEs 190 [ws a, ws b] (.tup [ws (mdiff 4294967296 a.length (vb 4294967296 a) (vb 4294967296 (b.take a.length))), .bool (decide (vb 4294967296 a < vb 4294967296 (b.take a.length)))]) := by
  have := (retT_Minus a b ha hb h0 hla hlb).ret
  rwa [us_length] at this
end Go.Proofs
