/-
  Contracts of functions of the program, each proved by a walk.
-/
import Derived.Test.YtpnljnmpocobjaaDoorR2
set_option linter.unusedVariables false
set_option linter.unusedSimpArgs false
namespace Go.Proofs
open Go.Ax

theorem dplus_step {K p s c a b x y : Nat} (h : s + c * p = a + b) : s + p * ((c + x + y) % K) + (c + x + y) / K * (p * K) = a + p * x + (b + p * y) := by
  have e : p * ((c + x + y) % K) + (c + x + y) / K * (p * K) = p * (c + x + y) := by
    rw [Nat.mul_comm ((c + x + y) / K), Nat.mul_assoc, ← Nat.mul_add, Nat.mod_add_div]
  rw [Nat.add_assoc, e, Nat.mul_add, Nat.mul_add, Nat.mul_comm p c]
  omega
theorem vb_snoc {K : Nat} (xs : List Nat) (x : Nat) : vb K (xs ++ [x]) = vb K xs + K ^ xs.length * x := by rw [vb_append]; simp [vb]
theorem Ds_snoc {K : Nat} {xs : List Nat} {x : Nat} (h : Ds K xs) (hx : x < K) : Ds K (xs ++ [x]) := h.append (Ds_cons hx Ds_nil)

set_option maxRecDepth 100000 in
set_option maxHeartbeats 1000000 in
theorem ret_Plus (a b : List Nat) (ha : Ds 4294967296 a) (hb : Ds 4294967296 b) (hla : a.length ≤ 1099511627775) (hlb : b.length ≤ 1099511627775) :
    Ret Tryd.prog GEs 173 [ws a, ws b] (ws (wfb 4294967296 (max a.length b.length + 1) (vb 4294967296 a + vb 4294967296 b))) := by
  refine RetN_start Tryd.func173 (by kernel_rfl) rfl fun Q hQ hQ2 => ?_
  rw [Tryd.ntmps173]; simp only [u, i64, Nat.reduceSub, Nat.reduceAdd, bm]
  repeat (first | (((first | refine G_sreg mixed (by first | rfl | kernel_rfl) ?_ | refine G_reg mixed (by first | rfl | kernel_rfl) ?_); simp (disch := omega) only [u, i64, ax, eq_self, if_true, if_false, Nat.reduceAdd, Int.reduceToNat, Int.reduceAdd, tvs, bs]; refine aft_any ?_)) | refine G_seq ?_ | refine G_block ?_ | refine G_condT rfl ?_ | refine G_condF rfl ?_ | refine G_skip ?_ | refine G_ret ?_ | refine G_exit ?_ | refine q_tn ?_ | refine q_tr ?_ | refine q_tx ?_ | refine q_bn ?_ | refine q_br ?_ | refine q_bx ?_ | refine q_by (by decide) ?_)
  refine AWp_loop (fun i : Nat × List Nat × Nat => mk 40 [(0, ws a), (1, ws b), (5, gA i.2.1 i.1), (6, u i.2.2), (7, i64 i.1)] (gR i.2.1 i.1))
    (fun i => i.1 ≤ max a.length b.length ∧ i.2.1.length = i.1 ∧ Ds 4294967296 i.2.1 ∧ i.2.2 ≤ 1 ∧ vb 4294967296 i.2.1 + i.2.2 * 4294967296 ^ i.1 = vb 4294967296 (a.take i.1) + vb 4294967296 (b.take i.1)) (fun i => max a.length b.length - i.1) (0, [], 0) ?_
    ⟨Nat.zero_le _, rfl, Ds_nil, by simp, by simp [vb]⟩ ?_
  · simp only [u, i64, Nat.reduceSub, Nat.reduceAdd, bm]
  rintro ⟨k, os, c⟩ ⟨h1, h2, h3, h4, h5⟩
  simp only at h1 h2 h3 h4 h5
  have e1 := vb_take_getD (K := 4294967296) a k
  have e2 := vb_take_getD (K := 4294967296) b k
  have ga := ha.getD (by decide) k
  have gb := hb.getD (by decide) k
  have e3 := dplus_step (K := 4294967296) (x := a.getD k 0) (y := b.getD k 0) h5
  rw [← e1, ← e2, ← Nat.pow_succ] at e3
  by_cases hn : k < max a.length b.length
  · have hor : k < a.length ∨ k < b.length := by omega
    have hs := vb_snoc (K := 4294967296) os ((c + a.getD k 0 + b.getD k 0) % 4294967296)
    rw [h2] at hs
    rw [← hs] at e3
    have hI : k + 1 ≤ max a.length b.length ∧ (os ++ [(c + a.getD k 0 + b.getD k 0) % 4294967296]).length = k + 1 ∧ Ds 4294967296 (os ++ [(c + a.getD k 0 + b.getD k 0) % 4294967296]) ∧ (c + a.getD k 0 + b.getD k 0) / 4294967296 ≤ 1 ∧
        vb 4294967296 (os ++ [(c + a.getD k 0 + b.getD k 0) % 4294967296]) + (c + a.getD k 0 + b.getD k 0) / 4294967296 * 4294967296 ^ (k + 1) = vb 4294967296 (a.take (k + 1)) + vb 4294967296 (b.take (k + 1)) :=
      ⟨hn, by simp [h2], Ds_snoc h3 (Nat.mod_lt _ (by decide)), by omega, e3⟩
    clear e3 hs e1 e2
    by_cases hka : k < a.length
    · cases k with
      | zero =>
        have h0 : os = [] := List.eq_nil_of_length_eq_zero h2
        subst h0
        simp only [u, i64, Nat.reduceSub, Nat.reduceAdd, bm]
        repeat (first | (((first | refine G_sreg mixed (by first | rfl | kernel_rfl) ?_ | refine G_reg mixed (by first | rfl | kernel_rfl) ?_); simp (disch := omega) only [u, i64, ax, eq_self, if_true, if_false, Nat.reduceAdd, Int.reduceToNat, Int.reduceAdd, tvs, bs]; refine aft_any ?_)) | refine G_seq ?_ | refine G_block ?_ | refine G_condT rfl ?_ | refine G_condF rfl ?_ | refine G_skip ?_ | refine G_ret ?_ | refine G_exit ?_ | refine q_tn ?_ | refine q_tr ?_ | refine q_tx ?_ | refine q_bn ?_ | refine q_br ?_ | refine q_bx ?_ | refine q_by (by decide) ?_)
        ((first | refine G_sreg mixed (by first | rfl | kernel_rfl) ?_ | refine G_reg mixed (by first | rfl | kernel_rfl) ?_); simp (disch := omega) only [u, i64, ax, eq_self, if_true, if_false, Nat.reduceAdd, Int.reduceToNat, Int.reduceAdd, tvs, bs])
        (refine callK_ret (ret_digit a 0 (by omega)) (by (simp (disch := omega) only [if_true, forall_const, reduceCtorEq, implies_true, bz]) <;> rfl) ?_; simp (disch := omega) only [u, i64, ax, eq_self, if_true, if_false, Nat.reduceAdd, Int.reduceToNat, Int.reduceAdd, tvs, bs]; try refine aft_any ?_)
        (refine callK_ret (ret_digit b 0 (by omega)) (by (simp (disch := omega) only [if_true, forall_const, reduceCtorEq, implies_true, bz]) <;> rfl) ?_; simp (disch := omega) only [u, i64, ax, eq_self, if_true, if_false, Nat.reduceAdd, Int.reduceToNat, Int.reduceAdd, tvs, bs]; try refine aft_any ?_)
        repeat (first | (((first | refine G_sreg mixed (by first | rfl | kernel_rfl) ?_ | refine G_reg mixed (by first | rfl | kernel_rfl) ?_); simp (disch := omega) only [u, i64, ax, eq_self, if_true, if_false, Nat.reduceAdd, Int.reduceToNat, Int.reduceAdd, tvs, bs]; refine aft_any ?_)) | refine G_seq ?_ | refine G_block ?_ | refine G_condT rfl ?_ | refine G_condF rfl ?_ | refine G_skip ?_ | refine G_ret ?_ | refine G_exit ?_ | refine q_tn ?_ | refine q_tr ?_ | refine q_tx ?_ | refine q_bn ?_ | refine q_br ?_ | refine q_bx ?_ | refine q_by (by decide) ?_)
        refine ⟨(1, [(c + a.getD 0 0 + b.getD 0 0) % 4294967296], (c + a.getD 0 0 + b.getD 0 0) / 4294967296), ?_, hI, by simp only; omega⟩
        simp only [u, i64, Nat.reduceSub, Nat.reduceAdd, bm]
      | succ k =>
        simp only [u, i64, Nat.reduceSub, Nat.reduceAdd, bm]
        repeat (first | (((first | refine G_sreg mixed (by first | rfl | kernel_rfl) ?_ | refine G_reg mixed (by first | rfl | kernel_rfl) ?_); simp (disch := omega) only [u, i64, ax, eq_self, if_true, if_false, Nat.reduceAdd, Int.reduceToNat, Int.reduceAdd, tvs, bs]; refine aft_any ?_)) | refine G_seq ?_ | refine G_block ?_ | refine G_condT rfl ?_ | refine G_condF rfl ?_ | refine G_skip ?_ | refine G_ret ?_ | refine G_exit ?_ | refine q_tn ?_ | refine q_tr ?_ | refine q_tx ?_ | refine q_bn ?_ | refine q_br ?_ | refine q_bx ?_ | refine q_by (by decide) ?_)
        ((first | refine G_sreg mixed (by first | rfl | kernel_rfl) ?_ | refine G_reg mixed (by first | rfl | kernel_rfl) ?_); simp (disch := omega) only [u, i64, ax, eq_self, if_true, if_false, Nat.reduceAdd, Int.reduceToNat, Int.reduceAdd, tvs, bs])
        (refine callK_ret (ret_digit a (k + 1) (by omega)) (by (simp (disch := omega) only [if_true, forall_const, reduceCtorEq, implies_true, bz]) <;> rfl) ?_; simp (disch := omega) only [u, i64, ax, eq_self, if_true, if_false, Nat.reduceAdd, Int.reduceToNat, Int.reduceAdd, tvs, bs]; try refine aft_any ?_)
        (refine callK_ret (ret_digit b (k + 1) (by omega)) (by (simp (disch := omega) only [if_true, forall_const, reduceCtorEq, implies_true, bz]) <;> rfl) ?_; simp (disch := omega) only [u, i64, ax, eq_self, if_true, if_false, Nat.reduceAdd, Int.reduceToNat, Int.reduceAdd, tvs, bs]; try refine aft_any ?_)
        repeat (first | (((first | refine G_sreg mixed (by first | rfl | kernel_rfl) ?_ | refine G_reg mixed (by first | rfl | kernel_rfl) ?_); simp (disch := omega) only [u, i64, ax, eq_self, if_true, if_false, Nat.reduceAdd, Int.reduceToNat, Int.reduceAdd, tvs, bs]; refine aft_any ?_)) | refine G_seq ?_ | refine G_block ?_ | refine G_condT rfl ?_ | refine G_condF rfl ?_ | refine G_skip ?_ | refine G_ret ?_ | refine G_exit ?_ | refine q_tn ?_ | refine q_tr ?_ | refine q_tx ?_ | refine q_bn ?_ | refine q_br ?_ | refine q_bx ?_ | refine q_by (by decide) ?_)
        refine ⟨(k + 2, os ++ [(c + a.getD (k + 1) 0 + b.getD (k + 1) 0) % 4294967296], (c + a.getD (k + 1) 0 + b.getD (k + 1) 0) / 4294967296), ?_, hI, by simp only; omega⟩
        simp only [u, i64, Nat.reduceSub, Nat.reduceAdd, bm]
    · have hkb : k < b.length := by omega
      cases k with
      | zero =>
        have h0 : os = [] := List.eq_nil_of_length_eq_zero h2
        subst h0
        simp only [u, i64, Nat.reduceSub, Nat.reduceAdd, bm]
        repeat (first | (((first | refine G_sreg mixed (by first | rfl | kernel_rfl) ?_ | refine G_reg mixed (by first | rfl | kernel_rfl) ?_); simp (disch := omega) only [u, i64, ax, eq_self, if_true, if_false, Nat.reduceAdd, Int.reduceToNat, Int.reduceAdd, tvs, bs]; refine aft_any ?_)) | refine G_seq ?_ | refine G_block ?_ | refine G_condT rfl ?_ | refine G_condF rfl ?_ | refine G_skip ?_ | refine G_ret ?_ | refine G_exit ?_ | refine q_tn ?_ | refine q_tr ?_ | refine q_tx ?_ | refine q_bn ?_ | refine q_br ?_ | refine q_bx ?_ | refine q_by (by decide) ?_)
        ((first | refine G_sreg mixed (by first | rfl | kernel_rfl) ?_ | refine G_reg mixed (by first | rfl | kernel_rfl) ?_); simp (disch := omega) only [u, i64, ax, eq_self, if_true, if_false, Nat.reduceAdd, Int.reduceToNat, Int.reduceAdd, tvs, bs])
        (refine callK_ret (ret_digit a 0 (by omega)) (by (simp (disch := omega) only [if_true, forall_const, reduceCtorEq, implies_true, bz]) <;> rfl) ?_; simp (disch := omega) only [u, i64, ax, eq_self, if_true, if_false, Nat.reduceAdd, Int.reduceToNat, Int.reduceAdd, tvs, bs]; try refine aft_any ?_)
        (refine callK_ret (ret_digit b 0 (by omega)) (by (simp (disch := omega) only [if_true, forall_const, reduceCtorEq, implies_true, bz]) <;> rfl) ?_; simp (disch := omega) only [u, i64, ax, eq_self, if_true, if_false, Nat.reduceAdd, Int.reduceToNat, Int.reduceAdd, tvs, bs]; try refine aft_any ?_)
        repeat (first | (((first | refine G_sreg mixed (by first | rfl | kernel_rfl) ?_ | refine G_reg mixed (by first | rfl | kernel_rfl) ?_); simp (disch := omega) only [u, i64, ax, eq_self, if_true, if_false, Nat.reduceAdd, Int.reduceToNat, Int.reduceAdd, tvs, bs]; refine aft_any ?_)) | refine G_seq ?_ | refine G_block ?_ | refine G_condT rfl ?_ | refine G_condF rfl ?_ | refine G_skip ?_ | refine G_ret ?_ | refine G_exit ?_ | refine q_tn ?_ | refine q_tr ?_ | refine q_tx ?_ | refine q_bn ?_ | refine q_br ?_ | refine q_bx ?_ | refine q_by (by decide) ?_)
        refine ⟨(1, [(c + a.getD 0 0 + b.getD 0 0) % 4294967296], (c + a.getD 0 0 + b.getD 0 0) / 4294967296), ?_, hI, by simp only; omega⟩
        simp only [u, i64, Nat.reduceSub, Nat.reduceAdd, bm]
      | succ k =>
        simp only [u, i64, Nat.reduceSub, Nat.reduceAdd, bm]
        repeat (first | (((first | refine G_sreg mixed (by first | rfl | kernel_rfl) ?_ | refine G_reg mixed (by first | rfl | kernel_rfl) ?_); simp (disch := omega) only [u, i64, ax, eq_self, if_true, if_false, Nat.reduceAdd, Int.reduceToNat, Int.reduceAdd, tvs, bs]; refine aft_any ?_)) | refine G_seq ?_ | refine G_block ?_ | refine G_condT rfl ?_ | refine G_condF rfl ?_ | refine G_skip ?_ | refine G_ret ?_ | refine G_exit ?_ | refine q_tn ?_ | refine q_tr ?_ | refine q_tx ?_ | refine q_bn ?_ | refine q_br ?_ | refine q_bx ?_ | refine q_by (by decide) ?_)
        ((first | refine G_sreg mixed (by first | rfl | kernel_rfl) ?_ | refine G_reg mixed (by first | rfl | kernel_rfl) ?_); simp (disch := omega) only [u, i64, ax, eq_self, if_true, if_false, Nat.reduceAdd, Int.reduceToNat, Int.reduceAdd, tvs, bs])
        (refine callK_ret (ret_digit a (k + 1) (by omega)) (by (simp (disch := omega) only [if_true, forall_const, reduceCtorEq, implies_true, bz]) <;> rfl) ?_; simp (disch := omega) only [u, i64, ax, eq_self, if_true, if_false, Nat.reduceAdd, Int.reduceToNat, Int.reduceAdd, tvs, bs]; try refine aft_any ?_)
        (refine callK_ret (ret_digit b (k + 1) (by omega)) (by (simp (disch := omega) only [if_true, forall_const, reduceCtorEq, implies_true, bz]) <;> rfl) ?_; simp (disch := omega) only [u, i64, ax, eq_self, if_true, if_false, Nat.reduceAdd, Int.reduceToNat, Int.reduceAdd, tvs, bs]; try refine aft_any ?_)
        repeat (first | (((first | refine G_sreg mixed (by first | rfl | kernel_rfl) ?_ | refine G_reg mixed (by first | rfl | kernel_rfl) ?_); simp (disch := omega) only [u, i64, ax, eq_self, if_true, if_false, Nat.reduceAdd, Int.reduceToNat, Int.reduceAdd, tvs, bs]; refine aft_any ?_)) | refine G_seq ?_ | refine G_block ?_ | refine G_condT rfl ?_ | refine G_condF rfl ?_ | refine G_skip ?_ | refine G_ret ?_ | refine G_exit ?_ | refine q_tn ?_ | refine q_tr ?_ | refine q_tx ?_ | refine q_bn ?_ | refine q_br ?_ | refine q_bx ?_ | refine q_by (by decide) ?_)
        refine ⟨(k + 2, os ++ [(c + a.getD (k + 1) 0 + b.getD (k + 1) 0) % 4294967296], (c + a.getD (k + 1) 0 + b.getD (k + 1) 0) / 4294967296), ?_, hI, by simp only; omega⟩
        simp only [u, i64, Nat.reduceSub, Nat.reduceAdd, bm]
  · have hk0 : k = max a.length b.length := by omega
    rw [List.take_of_length_le (by omega), List.take_of_length_le (by omega)] at h5
    have hend : os ++ [c] = wfb 4294967296 (max a.length b.length + 1) (vb 4294967296 a + vb 4294967296 b) :=
      wfb_of (by decide) (Ds_snoc h3 (by omega)) (by simp [h2, hk0]) (by rw [vb_snoc, h2, Nat.mul_comm, h5])
    rw [← hend] at hQ
    have hna : ¬ k < a.length := by omega
    have hnb : ¬ k < b.length := by omega
    cases k with
    | zero =>
      have h0 : os = [] := List.eq_nil_of_length_eq_zero h2
      subst h0
      simp only [u, i64, Nat.reduceSub, Nat.reduceAdd, bm]
      repeat (first | (((first | refine G_sreg mixed (by first | rfl | kernel_rfl) ?_ | refine G_reg mixed (by first | rfl | kernel_rfl) ?_); simp (disch := omega) only [u, i64, ax, eq_self, if_true, if_false, Nat.reduceAdd, Int.reduceToNat, Int.reduceAdd, tvs, bs]; refine aft_any ?_)) | refine G_seq ?_ | refine G_block ?_ | refine G_condT rfl ?_ | refine G_condF rfl ?_ | refine G_skip ?_ | refine G_ret ?_ | refine G_exit ?_ | refine q_tn ?_ | refine q_tr ?_ | refine q_tx ?_ | refine q_bn ?_ | refine q_br ?_ | refine q_bx ?_ | refine q_by (by decide) ?_)
      (refine FinQ hQ (congrArg Array.toList Tryd.results173) _ _ ?_); simp (disch := omega) only [u, i64, ax, if_true, forall_const, reduceCtorEq, implies_true, tvs, bf]
      rfl
    | succ k =>
      simp only [u, i64, Nat.reduceSub, Nat.reduceAdd, bm]
      repeat (first | (((first | refine G_sreg mixed (by first | rfl | kernel_rfl) ?_ | refine G_reg mixed (by first | rfl | kernel_rfl) ?_); simp (disch := omega) only [u, i64, ax, eq_self, if_true, if_false, Nat.reduceAdd, Int.reduceToNat, Int.reduceAdd, tvs, bs]; refine aft_any ?_)) | refine G_seq ?_ | refine G_block ?_ | refine G_condT rfl ?_ | refine G_condF rfl ?_ | refine G_skip ?_ | refine G_ret ?_ | refine G_exit ?_ | refine q_tn ?_ | refine q_tr ?_ | refine q_tx ?_ | refine q_bn ?_ | refine q_br ?_ | refine q_bx ?_ | refine q_by (by decide) ?_)
      have hlen : (os ++ [c]).length = os.length + 1 := by simp
      rw [← us_snoc1 os c]
      (refine FinQ hQ (congrArg Array.toList Tryd.results173) _ _ ?_); simp (disch := omega) only [u, i64, ax, if_true, forall_const, reduceCtorEq, implies_true, tvs, bf]

/-- The difference of digits, as many as the first ones have. -/
theorem dminus_step {K p s c a b x y : Nat} (hc : c ≤ 1) (hx : x < K) (hy : y < K) (h : s + b = a + c * p) :
    s + p * ((x + K - y - c) % K) + (b + p * y) = a + p * x + (1 - (x + K - y - c) / K) * (p * K) ∧ 1 - (x + K - y - c) / K ≤ 1 := by
  have hlt : (x + K - y - c) / K ≤ 1 := by
    have : x + K - y - c < 2 * K := by omega
    exact Nat.le_of_lt_succ ((Nat.div_lt_iff_lt_mul (show 0 < K by omega)).2 this)
  refine ⟨?_, Nat.sub_le _ _⟩
  have e := Nat.div_add_mod (x + K - y - c) K
  generalize (x + K - y - c) / K = q at *
  generalize (x + K - y - c) % K = r at *
  have e2 : p * (r + y + c) = p * (x + (1 - q) * K) := by
    have : q = 0 ∨ q = 1 := by omega
    rcases this with rfl | rfl
    · simp at e ⊢; congr 1; omega
    · simp at e ⊢; congr 1; omega
  simp only [Nat.mul_add] at e2
  rw [Nat.mul_left_comm p, Nat.mul_comm p c] at e2
  omega
def mdiff (K n a b : Nat) : List Nat := wfb K n (if b ≤ a then a - b else a + K ^ n - b)

set_option maxRecDepth 100000 in
set_option maxHeartbeats 1000000 in
theorem retT_Minus (a b : List Nat) (ha : Ds 4294967296 a) (hb : Ds 4294967296 b) (h0 : a ≠ []) (hla : a.length ≤ 1099511627775) (hlb : b.length ≤ 1099511627775) :
    RetT Tryd.prog GEs 190 [ws a, ws b] (us (mdiff 4294967296 a.length (vb 4294967296 a) (vb 4294967296 (b.take a.length)))) [.bool (decide (vb 4294967296 a < vb 4294967296 (b.take a.length)))] := by
  refine RetT_start Tryd.func190 (by kernel_rfl) rfl fun Q hQ hQ2 => ?_
  rw [Tryd.ntmps190]; simp only [u, i64, Nat.reduceSub, Nat.reduceAdd, bm]
  repeat (first | (((first | refine G_sreg mixed (by first | rfl | kernel_rfl) ?_ | refine G_reg mixed (by first | rfl | kernel_rfl) ?_); simp (disch := omega) only [u, i64, ax, eq_self, if_true, if_false, Nat.reduceAdd, Int.reduceToNat, Int.reduceAdd, tvs, bs]; refine aft_any ?_)) | refine G_seq ?_ | refine G_block ?_ | refine G_condT rfl ?_ | refine G_condF rfl ?_ | refine G_skip ?_ | refine G_ret ?_ | refine G_exit ?_ | refine q_tn ?_ | refine q_tr ?_ | refine q_tx ?_ | refine q_bn ?_ | refine q_br ?_ | refine q_bx ?_ | refine q_by (by decide) ?_)
  refine AWp_loop (fun i : Nat × List Nat × Nat => mk 38 [(0, ws a), (1, ws b), (6, gA i.2.1 i.1), (7, u i.2.2), (8, i64 i.1)] (gR i.2.1 i.1))
    (fun i => i.1 ≤ a.length ∧ i.2.1.length = i.1 ∧ Ds 4294967296 i.2.1 ∧ i.2.2 ≤ 1 ∧ vb 4294967296 i.2.1 + vb 4294967296 (b.take i.1) = vb 4294967296 (a.take i.1) + i.2.2 * 4294967296 ^ i.1) (fun i => a.length - i.1) (0, [], 0) ?_
    ⟨Nat.zero_le _, rfl, Ds_nil, by simp, by simp [vb]⟩ ?_
  · simp only [u, i64, Nat.reduceSub, Nat.reduceAdd, bm]
  rintro ⟨k, os, c⟩ ⟨h1, h2, h3, h4, h5⟩
  simp only at h1 h2 h3 h4 h5
  have e1 := vb_take_getD (K := 4294967296) a k
  have e2 := vb_take_getD (K := 4294967296) b k
  have ga := ha.getD (by decide) k
  have gb := hb.getD (by decide) k
  obtain ⟨e3, e4⟩ := dminus_step (K := 4294967296) h4 ga gb h5
  rw [← e1, ← e2, ← Nat.pow_succ] at e3
  by_cases hn : k < a.length
  · have hs := vb_snoc (K := 4294967296) os ((a.getD k 0 + 4294967296 - b.getD k 0 - c) % 4294967296)
    rw [h2] at hs
    rw [← hs] at e3
    have hI : k + 1 ≤ a.length ∧ (os ++ [(a.getD k 0 + 4294967296 - b.getD k 0 - c) % 4294967296]).length = k + 1 ∧ Ds 4294967296 (os ++ [(a.getD k 0 + 4294967296 - b.getD k 0 - c) % 4294967296]) ∧ 1 - (a.getD k 0 + 4294967296 - b.getD k 0 - c) / 4294967296 ≤ 1 ∧
        vb 4294967296 (os ++ [(a.getD k 0 + 4294967296 - b.getD k 0 - c) % 4294967296]) + vb 4294967296 (b.take (k + 1)) = vb 4294967296 (a.take (k + 1)) + (1 - (a.getD k 0 + 4294967296 - b.getD k 0 - c) / 4294967296) * 4294967296 ^ (k + 1) :=
      ⟨hn, by simp [h2], Ds_snoc h3 (Nat.mod_lt _ (by decide)), e4, e3⟩
    clear e3 hs e1 e2
    cases k with
    | zero =>
      have h0 : os = [] := List.eq_nil_of_length_eq_zero h2
      subst h0
      simp only [u, i64, Nat.reduceSub, Nat.reduceAdd, bm]
      repeat (first | (((first | refine G_sreg mixed (by first | rfl | kernel_rfl) ?_ | refine G_reg mixed (by first | rfl | kernel_rfl) ?_); simp (disch := omega) only [u, i64, ax, eq_self, if_true, if_false, Nat.reduceAdd, Int.reduceToNat, Int.reduceAdd, tvs, bs]; refine aft_any ?_)) | refine G_seq ?_ | refine G_block ?_ | refine G_condT rfl ?_ | refine G_condF rfl ?_ | refine G_skip ?_ | refine G_ret ?_ | refine G_exit ?_ | refine q_tn ?_ | refine q_tr ?_ | refine q_tx ?_ | refine q_bn ?_ | refine q_br ?_ | refine q_bx ?_ | refine q_by (by decide) ?_)
      ((first | refine G_sreg mixed (by first | rfl | kernel_rfl) ?_ | refine G_reg mixed (by first | rfl | kernel_rfl) ?_); simp (disch := omega) only [u, i64, ax, eq_self, if_true, if_false, Nat.reduceAdd, Int.reduceToNat, Int.reduceAdd, tvs, bs])
      (refine callK_ret (ret_digit b 0 (by omega)) (by (simp (disch := omega) only [if_true, forall_const, reduceCtorEq, implies_true, bz]) <;> rfl) ?_; simp (disch := omega) only [u, i64, ax, eq_self, if_true, if_false, Nat.reduceAdd, Int.reduceToNat, Int.reduceAdd, tvs, bs]; try refine aft_any ?_)
      repeat (first | (((first | refine G_sreg mixed (by first | rfl | kernel_rfl) ?_ | refine G_reg mixed (by first | rfl | kernel_rfl) ?_); simp (disch := omega) only [u, i64, ax, eq_self, if_true, if_false, Nat.reduceAdd, Int.reduceToNat, Int.reduceAdd, tvs, bs]; refine aft_any ?_)) | refine G_seq ?_ | refine G_block ?_ | refine G_condT rfl ?_ | refine G_condF rfl ?_ | refine G_skip ?_ | refine G_ret ?_ | refine G_exit ?_ | refine q_tn ?_ | refine q_tr ?_ | refine q_tx ?_ | refine q_bn ?_ | refine q_br ?_ | refine q_bx ?_ | refine q_by (by decide) ?_)
      refine ⟨(1, [(a.getD 0 0 + 4294967296 - b.getD 0 0 - c) % 4294967296], 1 - (a.getD 0 0 + 4294967296 - b.getD 0 0 - c) / 4294967296), ?_, hI, by simp only; omega⟩
      simp only [u, i64, Nat.reduceSub, Nat.reduceAdd, bm]
    | succ k =>
      simp only [u, i64, Nat.reduceSub, Nat.reduceAdd, bm]
      repeat (first | (((first | refine G_sreg mixed (by first | rfl | kernel_rfl) ?_ | refine G_reg mixed (by first | rfl | kernel_rfl) ?_); simp (disch := omega) only [u, i64, ax, eq_self, if_true, if_false, Nat.reduceAdd, Int.reduceToNat, Int.reduceAdd, tvs, bs]; refine aft_any ?_)) | refine G_seq ?_ | refine G_block ?_ | refine G_condT rfl ?_ | refine G_condF rfl ?_ | refine G_skip ?_ | refine G_ret ?_ | refine G_exit ?_ | refine q_tn ?_ | refine q_tr ?_ | refine q_tx ?_ | refine q_bn ?_ | refine q_br ?_ | refine q_bx ?_ | refine q_by (by decide) ?_)
      ((first | refine G_sreg mixed (by first | rfl | kernel_rfl) ?_ | refine G_reg mixed (by first | rfl | kernel_rfl) ?_); simp (disch := omega) only [u, i64, ax, eq_self, if_true, if_false, Nat.reduceAdd, Int.reduceToNat, Int.reduceAdd, tvs, bs])
      (refine callK_ret (ret_digit b (k + 1) (by omega)) (by (simp (disch := omega) only [if_true, forall_const, reduceCtorEq, implies_true, bz]) <;> rfl) ?_; simp (disch := omega) only [u, i64, ax, eq_self, if_true, if_false, Nat.reduceAdd, Int.reduceToNat, Int.reduceAdd, tvs, bs]; try refine aft_any ?_)
      repeat (first | (((first | refine G_sreg mixed (by first | rfl | kernel_rfl) ?_ | refine G_reg mixed (by first | rfl | kernel_rfl) ?_); simp (disch := omega) only [u, i64, ax, eq_self, if_true, if_false, Nat.reduceAdd, Int.reduceToNat, Int.reduceAdd, tvs, bs]; refine aft_any ?_)) | refine G_seq ?_ | refine G_block ?_ | refine G_condT rfl ?_ | refine G_condF rfl ?_ | refine G_skip ?_ | refine G_ret ?_ | refine G_exit ?_ | refine q_tn ?_ | refine q_tr ?_ | refine q_tx ?_ | refine q_bn ?_ | refine q_br ?_ | refine q_bx ?_ | refine q_by (by decide) ?_)
      refine ⟨(k + 2, os ++ [(a.getD (k + 1) 0 + 4294967296 - b.getD (k + 1) 0 - c) % 4294967296], 1 - (a.getD (k + 1) 0 + 4294967296 - b.getD (k + 1) 0 - c) / 4294967296), ?_, hI, by simp only; omega⟩
      simp only [u, i64, Nat.reduceSub, Nat.reduceAdd, bm]
  · have hk0 : k = a.length := by omega
    rw [hk0, List.take_length] at h5
    have hlt := vb_lt h3
    have hlt2 := vb_lt ha
    have hlt3 := vb_lt (hb.take a.length)
    rw [List.length_take] at hlt3
    have hlt4 : 4294967296 ^ min a.length b.length ≤ 4294967296 ^ a.length := Nat.pow_le_pow_right (by decide) (Nat.min_le_left _ _)
    rw [h2, hk0] at hlt
    have hend : os = mdiff 4294967296 a.length (vb 4294967296 a) (vb 4294967296 (b.take a.length)) ∧ decide (c = 1) = decide (vb 4294967296 a < vb 4294967296 (b.take a.length)) := by
      have : c = 0 ∨ c = 1 := by omega
      rcases this with rfl | rfl
      · refine ⟨wfb_of (by decide) h3 (h2.trans hk0) ?_, ?_⟩
        · rw [if_pos (by omega)]; omega
        · rw [decF (by decide), decF (by omega)]
      · refine ⟨wfb_of (by decide) h3 (h2.trans hk0) ?_, ?_⟩
        · rw [if_neg (by omega)]; omega
        · rw [decT rfl, decT (by omega)]
    rw [← hend.1, ← hend.2] at hQ
    cases k with
    | zero => exact absurd (List.eq_nil_of_length_eq_zero hk0.symm) h0
    | succ k =>
      simp only [u, i64, Nat.reduceSub, Nat.reduceAdd, bm]
      repeat (first | (((first | refine G_sreg mixed (by first | rfl | kernel_rfl) ?_ | refine G_reg mixed (by first | rfl | kernel_rfl) ?_); simp (disch := omega) only [u, i64, ax, eq_self, if_true, if_false, Nat.reduceAdd, Int.reduceToNat, Int.reduceAdd, tvs, bs]; refine aft_any ?_)) | refine G_seq ?_ | refine G_block ?_ | refine G_condT rfl ?_ | refine G_condF rfl ?_ | refine G_skip ?_ | refine G_ret ?_ | refine G_exit ?_ | refine q_tn ?_ | refine q_tr ?_ | refine q_tx ?_ | refine q_bn ?_ | refine q_br ?_ | refine q_bx ?_ | refine q_by (by decide) ?_)
      refine FinQT hQ (congrArg Array.toList Tryd.results190) _ _ _ _ _ _ _ rfl rfl (by simp [us_length]) (by rw [List.take_of_length_le (by simp [us_length])]) (us_noMem _) rfl rfl
end Go.Proofs
