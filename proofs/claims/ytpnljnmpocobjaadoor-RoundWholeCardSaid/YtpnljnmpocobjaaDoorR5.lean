/-
  Contracts of functions of the program, each proved by a walk.
-/
import Derived.Test.YtpnljnmpocobjaaDoorR4
set_option linter.unusedVariables false
set_option linter.unusedSimpArgs false
namespace Go.Proofs
open Go.Ax

theorem ddiv_step {K w R D Q a : Nat} (hw : 0 < w) (hq : Q = D / w) (hr : R = D % w) :
    (R * K + a) / w + K * Q = (a + K * D) / w ∧ (R * K + a) % w = (a + K * D) % w := by
  have h := Nat.div_add_mod D w
  have e : a + K * D = (R * K + a) + w * (K * Q) := by
    conv => lhs; rw [← h]
    rw [Nat.mul_add, hq, hr, Nat.mul_left_comm, Nat.mul_comm K (D % w)]
    omega
  rw [e]
  exact ⟨by rw [Nat.add_mul_div_left _ _ hw], by rw [Nat.add_mul_mod_self_left]⟩
theorem ddiv_lt {K w R a : Nat} (hR : R < w) (ha : a < K) : (R * K + a) / w < K := by
  refine (Nat.div_lt_iff_lt_mul (by omega)).2 ?_
  have := Nat.mul_le_mul_right K (show R + 1 ≤ w from hR)
  rw [Nat.add_mul] at this
  rw [Nat.mul_comm K w]
  omega
theorem vb_drop_set {K : Nat} (os : List Nat) (n v : Nat) (h : n < os.length) : vb K ((os.set n v).drop n) = v + K * vb K (os.drop (n + 1)) := by
  rw [vb_drop_one _ n (by simpa using h), List.getD_eq_getElem?_getD, List.getElem?_set_self h, List.drop_set_of_lt (Nat.lt_succ_self n)]
  rfl

set_option maxRecDepth 100000 in
theorem ret_one (xs : List Nat) (w : Nat) (hx : Ds 4294967296 xs) (hw : w < 4294967296) (h0 : 0 < w) (hl : xs.length ≤ 1099511627775) : Ret Tryd.prog GEs 191 [ws xs, u w] (.tup [ws (wfb 4294967296 xs.length (vb 4294967296 xs / w)), ws [vb 4294967296 xs % w]]) := by
  refine RetN_start Tryd.func191 (by kernel_rfl) rfl fun Q hQ hQ2 => ?_
  rw [Tryd.ntmps191]; simp only [u, i64, Nat.reduceSub, Nat.reduceAdd, bm]
  repeat (first | (((first | refine G_sreg mixed (by first | rfl | kernel_rfl) ?_ | refine G_reg mixed (by first | rfl | kernel_rfl) ?_); simp (disch := omega) only [u, i64, ax, eq_self, if_true, if_false, Nat.reduceAdd, Int.reduceToNat, Int.reduceAdd, tvs, bs]; refine aft_any ?_)) | refine G_seq ?_ | refine G_block ?_ | refine G_condT rfl ?_ | refine G_condF rfl ?_ | refine G_skip ?_ | refine G_ret ?_ | refine G_exit ?_ | refine q_tn ?_ | refine q_tr ?_ | refine q_tx ?_ | refine q_bn ?_ | refine q_br ?_ | refine q_bx ?_ | refine q_by (by decide) ?_)
  refine AWp_loop (fun i : Nat × List Nat × Nat => mk 38 [(0, ws xs), (1, u w), (6, .own 0 0 0 xs.length 1), (7, u i.2.2), (8, i64 ((i.1 : Int) - 1))] [⟨0, true, us i.2.1⟩])
    (fun i => i.1 ≤ xs.length ∧ i.2.1.length = xs.length ∧ Ds 4294967296 i.2.1 ∧ vb 4294967296 (i.2.1.drop i.1) = vb 4294967296 (xs.drop i.1) / w ∧ i.2.2 = vb 4294967296 (xs.drop i.1) % w) (fun i => i.1) (xs.length, List.replicate xs.length 0, 0) ?_ ⟨Nat.le_refl _, by simp, Ds_zeros (by decide) _, by simp [vb], by simp [vb]⟩ ?_
  · simp only [u, i64, Nat.reduceSub, Nat.reduceAdd, bm]
  rintro ⟨n, os, r⟩ ⟨h1, h2, h3, h4, h5⟩
  simp only at h1 h2 h3 h4 h5
  simp only [u, i64, Nat.reduceSub, Nat.reduceAdd, bm]
  by_cases hn : 1 ≤ n
  · obtain ⟨m, rfl⟩ : ∃ m, n = m + 1 := ⟨n - 1, by omega⟩
    have ha := hx.getD (by decide) m
    have hr : r < w := by rw [h5]; exact Nat.mod_lt _ h0
    have hst := ddiv_step (K := 4294967296) (a := xs.getD m 0) h0 h4 h5
    have hq := ddiv_lt hr ha
    have hv := vb_drop_one (K := 4294967296) xs m (by omega)
    rw [← hv] at hst
    have hs := vb_drop_set (K := 4294967296) os m ((r * 4294967296 + xs.getD m 0) / w) (by omega)
    rw [hst.1] at hs
    have hqB : (r * 4294967296 + xs.getD m 0) / w < 18446744073709551616 := by omega
    simp only [Int.natCast_add, Int.natCast_one, Int.add_sub_cancel]
    repeat (first | (((first | refine G_sreg mixed (by first | rfl | kernel_rfl) ?_ | refine G_reg mixed (by first | rfl | kernel_rfl) ?_); simp (disch := omega) only [u, i64, ax, eq_self, if_true, if_false, Nat.reduceAdd, Int.reduceToNat, Int.reduceAdd, tvs, bs]; refine aft_any ?_)) | refine G_seq ?_ | refine G_block ?_ | refine G_condT rfl ?_ | refine G_condF rfl ?_ | refine G_skip ?_ | refine G_ret ?_ | refine G_exit ?_ | refine q_tn ?_ | refine q_tr ?_ | refine q_tx ?_ | refine q_bn ?_ | refine q_br ?_ | refine q_bx ?_ | refine q_by (by decide) ?_)
    refine ⟨(m, os.set m ((r * 4294967296 + xs.getD m 0) / w), (r * 4294967296 + xs.getD m 0) % w), ?_, ⟨by simp only; omega, by simpa using h2, h3.set m hq, hs, hst.2⟩, by simp only; omega⟩
    simp only [u, i64, Nat.reduceSub, Nat.reduceAdd, bm]
  · have hn0 : n = 0 := by omega
    subst hn0
    simp only [List.drop_zero] at h4 h5
    rw [← h5, ← wfb_of (by decide) h3 h2 h4] at hQ
    repeat (first | (((first | refine G_sreg mixed (by first | rfl | kernel_rfl) ?_ | refine G_reg mixed (by first | rfl | kernel_rfl) ?_); simp (disch := omega) only [u, i64, ax, eq_self, if_true, if_false, Nat.reduceAdd, Int.reduceToNat, Int.reduceAdd, tvs, bs]; refine aft_any ?_)) | refine G_seq ?_ | refine G_block ?_ | refine G_condT rfl ?_ | refine G_condF rfl ?_ | refine G_skip ?_ | refine G_ret ?_ | refine G_exit ?_ | refine q_tn ?_ | refine q_tr ?_ | refine q_tx ?_ | refine q_bn ?_ | refine q_br ?_ | refine q_bx ?_ | refine q_by (by decide) ?_)
    (refine FinQ hQ (congrArg Array.toList Tryd.results191) _ _ ?_); simp (disch := omega) only [u, i64, ax, if_true, forall_const, reduceCtorEq, implies_true, tvs, bf]
    rfl
end Go.Proofs
