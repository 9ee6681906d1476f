/-
  Contracts of functions of the program, each proved by a walk.
-/
import Derived.Test.YtpnljnmpocobjaaDoorZ10
import Derived.Test.YtpnljnmpocobjaaDoorZ7
import Derived.Test.YtpnljnmpocobjaaDoorZ6
import Derived.Test.YtpnljnmpocobjaaDoorZ8
set_option maxRecDepth 100000
set_option linter.unusedVariables false
set_option linter.unusedSimpArgs false
namespace Go.Proofs
open Go.Ax
theorem divw_step {w R D Q a : Nat} (hw : 0 < w) (hq : Q = D / w) (hr : R = D % w) :
    (R * 18446744073709551616 + a) / w + 18446744073709551616 * Q = (a + 18446744073709551616 * D) / w ∧ (R * 18446744073709551616 + a) % w = (a + 18446744073709551616 * D) % w := by
  have h := Nat.div_add_mod D w
  have e : a + 18446744073709551616 * D = (R * 18446744073709551616 + a) + w * (18446744073709551616 * Q) := by
    conv => lhs; rw [← h]
    rw [Nat.mul_add, hq, hr, Nat.mul_left_comm]
    omega
  rw [e]
  exact ⟨by rw [Nat.add_mul_div_left _ _ hw], by rw [Nat.add_mul_mod_self_left]⟩
theorem divw_lt {w R a : Nat} (hR : R < w) (ha : a < 18446744073709551616) : (R * 18446744073709551616 + a) / w < 18446744073709551616 := by
  refine (Nat.div_lt_iff_lt_mul (by omega)).2 ?_
  have := Nat.mul_le_mul_right 18446744073709551616 (show R + 1 ≤ w from hR)
  rw [Nat.mul_comm 18446744073709551616 w]
  omega
theorem val_drop_set (os : List Nat) (n v : Nat) (h : n < os.length) : val ((os.set n v).drop n) = v + 18446744073709551616 * val (os.drop (n + 1)) := by
  rw [val_drop _ n (by simpa using h), List.getD_eq_getElem?_getD, List.getElem?_set_self h, List.drop_set_of_lt (Nat.lt_succ_self n)]
  rfl
set_option maxRecDepth 100000 in
theorem ret_divWord (xs : List Nat) (w : Nat) (hx : Wd xs) (hw : w < 18446744073709551616) (h0 : 0 < w) (hl : xs.length ≤ 1099511627775) : Ret Tryd.prog GEs 176 [ws xs, u w] (.tup [nat (val xs / w), u (val xs % w)]) := by
  refine RetN_start Tryd.func176 (by kernel_rfl) rfl fun Q hQ hQ2 => ?_; rw [Tryd.ntmps176]; simp only [u, i64, Nat.reduceSub, Nat.reduceAdd, bm]
  repeat (first | ((first | refine Gs ?_ | refine Gr ?_); simp (disch := omega) only [u, i64, ax, eq_self, if_true, if_false, Nat.reduceAdd, Int.reduceToNat, Int.reduceAdd, tvs, bs]; refine aA ?_) | refine G_seq ?_ | refine G_block ?_ | refine G_condT rfl ?_ | refine G_condF rfl ?_ | refine G_skip ?_ | refine G_ret ?_ | refine G_exit ?_ | refine q_tn ?_ | refine q_tr ?_ | refine q_tx ?_ | refine q_bn ?_ | refine q_br ?_ | refine q_bx ?_ | refine q_by (by decide) ?_)
  refine AWp_loop (fun i : Nat × List Nat × Nat => mk 35 [(0, ws xs), (1, u w), (6, .own 0 0 0 xs.length 1), (7, u i.2.2), (8, i64 ((i.1 : Int) - 1))] [⟨0, true, us i.2.1⟩])
    (fun i => i.1 ≤ xs.length ∧ i.2.1.length = xs.length ∧ Wd i.2.1 ∧ val (i.2.1.drop i.1) = val (xs.drop i.1) / w ∧ i.2.2 = val (xs.drop i.1) % w) (fun i => i.1) (xs.length, List.replicate xs.length 0, 0) ?_ ⟨Nat.le_refl _, by simp, Wd_replicate _ (by decide), by simp [val], by simp [val]⟩ ?_
  · simp only [u, i64, Nat.reduceSub, Nat.reduceAdd, bm]
  rintro ⟨n, os, r⟩ ⟨h1, h2, h3, h4, h5⟩
  simp only at h1 h2 h3 h4 h5
  simp only [u, i64, Nat.reduceSub, Nat.reduceAdd, bm]
  by_cases hn : 1 ≤ n
  · obtain ⟨m, rfl⟩ : ∃ m, n = m + 1 := ⟨n - 1, by omega⟩
    have ha := hx.getD m
    have hr : r < w := by rw [h5]; exact Nat.mod_lt _ h0
    have hst := divw_step (a := xs.getD m 0) h0 h4 h5
    have hq := divw_lt hr ha
    have hv := val_drop xs m (by omega)
    rw [← hv] at hst
    have hr2 : (r * 18446744073709551616 + xs.getD m 0) % w < w := Nat.mod_lt _ h0
    have hs := val_drop_set os m ((r * 18446744073709551616 + xs.getD m 0) / w) (by omega)
    rw [hst.1] at hs
    simp only [Int.natCast_add, Int.natCast_one, Int.add_sub_cancel]
    repeat (first | ((first | refine Gs ?_ | refine Gr ?_); simp (disch := omega) only [u, i64, ax, eq_self, if_true, if_false, Nat.reduceAdd, Int.reduceToNat, Int.reduceAdd, tvs, bs]; first | refine aA ?_ | (refine cR (ret_Div64 r (xs.getD m 0) w ha hw hr) ?_; simp (disch := omega) only [u, i64, ax, eq_self, if_true, if_false, Nat.reduceAdd, Int.reduceToNat, Int.reduceAdd, tvs, bs]; try refine aA ?_)) | (refine cR (ret_Div64 r (xs.getD m 0) w ha hw hr) ?_; simp (disch := omega) only [u, i64, ax, eq_self, if_true, if_false, Nat.reduceAdd, Int.reduceToNat, Int.reduceAdd, tvs, bs]; try refine aA ?_) | refine G_seq ?_ | refine G_block ?_ | refine G_condT rfl ?_ | refine G_condF rfl ?_ | refine G_skip ?_ | refine G_ret ?_ | refine G_exit ?_ | refine q_tn ?_ | refine q_tr ?_ | refine q_tx ?_ | refine q_bn ?_ | refine q_br ?_ | refine q_bx ?_ | refine q_by (by decide) ?_)
    refine ⟨(m, os.set m ((r * 18446744073709551616 + xs.getD m 0) / w), (r * 18446744073709551616 + xs.getD m 0) % w), ?_, ⟨by simp only; omega, by simpa using h2, h3.set m hq, hs, hst.2⟩, by simp only; omega⟩
    simp only [u, i64, Nat.reduceSub, Nat.reduceAdd, bm]
  · have hn0 : n = 0 := by omega
    subst hn0
    simp only [List.drop_zero] at h4 h5
    repeat (first | ((first | refine Gs ?_ | refine Gr ?_); simp (disch := omega) only [u, i64, ax, eq_self, if_true, if_false, Nat.reduceAdd, Int.reduceToNat, Int.reduceAdd, tvs, bs]; refine aA ?_) | refine G_seq ?_ | refine G_block ?_ | refine G_condT rfl ?_ | refine G_condF rfl ?_ | refine G_skip ?_ | refine G_ret ?_ | refine G_exit ?_ | refine q_tn ?_ | refine q_tr ?_ | refine q_tx ?_ | refine q_bn ?_ | refine q_br ?_ | refine q_bx ?_ | refine q_by (by decide) ?_)
    refine G_cool0 ?_
    ((first | refine Gs ?_ | refine Gr ?_); simp (disch := omega) only [u, i64, ax, eq_self, if_true, if_false, Nat.reduceAdd, Int.reduceToNat, Int.reduceAdd, tvs, bs])
    (refine cR (ret_Trim os h3 (by omega)) ?_; simp (disch := omega) only [u, i64, ax, eq_self, if_true, if_false, Nat.reduceAdd, Int.reduceToNat, Int.reduceAdd, tvs, bs]; try refine aA ?_)
    rw [h4]
    repeat (first | ((first | refine Gs ?_ | refine Gr ?_); simp (disch := omega) only [u, i64, ax, eq_self, if_true, if_false, Nat.reduceAdd, Int.reduceToNat, Int.reduceAdd, tvs, bs]; refine aA ?_) | refine G_seq ?_ | refine G_block ?_ | refine G_condT rfl ?_ | refine G_condF rfl ?_ | refine G_skip ?_ | refine G_ret ?_ | refine G_exit ?_ | refine q_tn ?_ | refine q_tr ?_ | refine q_tx ?_ | refine q_bn ?_ | refine q_br ?_ | refine q_bx ?_ | refine q_by (by decide) ?_)
    (refine FinQ hQ (congrArg Array.toList Tryd.results176) _ _ ?_); simp (disch := omega) only [u, i64, ax, if_true, forall_const, reduceCtorEq, implies_true, tvs, bf, h5]
theorem guess_test {q r v w c N V2 U3 : Nat} (hN : q * v + r = N) (hV : V2 = v * 18446744073709551616 + w) (hU : U3 = N * 18446744073709551616 + c) : q * V2 ≤ U3 ↔ q * w ≤ r * 18446744073709551616 + c := by
  have e : q * V2 = q * v * 18446744073709551616 + q * w := by rw [hV, Nat.mul_add, Nat.mul_assoc]
  rw [e, hU, ← hN, Nat.add_mul]; omega
theorem guess_over {q r v w c N V2 U3 : Nat} (hN : q * v + r = N) (hV : V2 = v * 18446744073709551616 + w) (hU : U3 = N * 18446744073709551616 + c) (hq : q < 18446744073709551616) (hw : w < 18446744073709551616) (hr : 18446744073709551616 ≤ r) : q * V2 ≤ U3 := by
  refine (guess_test hN hV hU).2 ?_
  have h1 : q * w ≤ 18446744073709551616 * 18446744073709551616 := Nat.mul_le_mul (by omega) (by omega)
  omega
theorem guess_less {q r v N : Nat} (hN : q * v + r = N) (h : 1 ≤ q) : (q - 1) * v + (r + v) = N := by
  obtain ⟨k, rfl⟩ : ∃ k, q = k + 1 := ⟨q - 1, by omega⟩
  rw [Nat.add_mul] at hN
  simp only [Nat.add_sub_cancel]
  omega
set_option maxRecDepth 100000 in
set_option maxHeartbeats 4000000 in
theorem ret_guess (a b c v w : Nat) (ha : a < 18446744073709551616) (hb : b < 18446744073709551616) (hc : c < 18446744073709551616) (hv : v < 18446744073709551616) (hw : w < 18446744073709551616) (hv0 : 0 < v) :
    Ret Tryd.prog GEs 179 [u a, u b, u c, u v, u w] (u (min 18446744073709551615 (((a * 18446744073709551616 + b) * 18446744073709551616 + c) / (v * 18446744073709551616 + w)))) := by
  obtain ⟨N, hN⟩ : ∃ N, a * 18446744073709551616 + b = N := ⟨_, rfl⟩
  obtain ⟨V2, hV2⟩ : ∃ V, v * 18446744073709551616 + w = V := ⟨_, rfl⟩
  obtain ⟨U3, hU3⟩ : ∃ U, N * 18446744073709551616 + c = U := ⟨_, rfl⟩
  rw [hN, hU3, hV2]
  have hV0 : 0 < V2 := by omega
  obtain ⟨T, hT⟩ : ∃ T, min 18446744073709551615 (U3 / V2) = T := ⟨_, rfl⟩
  have hT1 : T ≤ 18446744073709551615 := hT ▸ Nat.min_le_left _ _
  have hT2 : T * V2 ≤ U3 := (Nat.le_div_iff_mul_le hV0).1 (hT ▸ Nat.min_le_right _ _)
  have hT3 : ∀ q, q ≤ 18446744073709551615 → q * V2 ≤ U3 → q ≤ T := fun q h1 h2 => hT ▸ Nat.le_min.2 ⟨h1, (Nat.le_div_iff_mul_le hV0).2 h2⟩
  rw [hT]
  clear hT
  refine RetN_start Tryd.func179 (by kernel_rfl) rfl fun Q hQ hQ2 => ?_; rw [Tryd.ntmps179]; simp only [u, i64, Nat.reduceSub, Nat.reduceAdd, bm]
  by_cases hav : v < a
  · have h1 := hT3 18446744073709551615 (Nat.le_refl _) (by omega)
    have e : T = 18446744073709551615 := by omega
    clear hT3 hT2 hT1
    repeat (first | ((first | refine Gs ?_ | refine Gr ?_); simp (disch := omega) only [u, i64, ax, eq_self, if_true, if_false, Nat.reduceAdd, Int.reduceToNat, Int.reduceAdd, tvs, bs]; refine aA ?_) | refine G_seq ?_ | refine G_block ?_ | refine G_condT rfl ?_ | refine G_condF rfl ?_ | refine G_skip ?_ | refine G_ret ?_ | refine G_exit ?_ | refine q_tn ?_ | refine q_tr ?_ | refine q_tx ?_ | refine q_bn ?_ | refine q_br ?_ | refine q_bx ?_ | refine q_by (by decide) ?_)
    (refine FinQ hQ (congrArg Array.toList Tryd.results179) _ _ ?_); simp (disch := omega) only [u, i64, ax, if_true, forall_const, reduceCtorEq, implies_true, tvs, bf, e]
    rfl
  by_cases heq : a = v
  · obtain ⟨i0, hi0⟩ : ∃ i : Nat × Nat × Bool, i = (18446744073709551615, (b + v) % 18446744073709551616, decide ((b + v) / 18446744073709551616 = 1)) := ⟨_, rfl⟩
    have hI0 : T ≤ i0.1 ∧ i0.1 < 18446744073709551616 ∧ i0.2.1 < 18446744073709551616 ∧ (i0.2.2 = false → i0.1 * v + i0.2.1 = N) ∧ (i0.2.2 = true → i0.1 * V2 ≤ U3) := by
      rw [hi0]
      simp only
      refine ⟨hT1, by omega, by omega, fun h => ?_, fun h => ?_⟩
      · have := of_decide_eq_false h
        omega
      · have := of_decide_eq_true h
        exact guess_over (r := b + v) (N := N) (v := v) (w := w) (c := c) (by omega) hV2.symm hU3.symm (by omega) hw (by omega)
    repeat (first | ((first | refine Gs ?_ | refine Gr ?_); simp (disch := omega) only [u, i64, ax, eq_self, if_true, if_false, Nat.reduceAdd, Int.reduceToNat, Int.reduceAdd, tvs, bs]; refine aA ?_) | refine G_seq ?_ | refine G_block ?_ | refine G_condT rfl ?_ | refine G_condF rfl ?_ | refine G_skip ?_ | refine G_ret ?_ | refine G_exit ?_ | refine q_tn ?_ | refine q_tr ?_ | refine q_tx ?_ | refine q_bn ?_ | refine q_br ?_ | refine q_bx ?_ | refine q_by (by decide) ?_)
    ((first | refine Gs ?_ | refine Gr ?_); simp (disch := omega) only [u, i64, ax, eq_self, if_true, if_false, Nat.reduceAdd, Int.reduceToNat, Int.reduceAdd, tvs, bs])
    (refine callK_ext (retx_Add64 b v 0 (by decide)) rfl (by (simp (disch := omega) only [if_true, forall_const, reduceCtorEq, implies_true, bz]) <;> rfl) ?_; simp (disch := omega) only [u, i64, ax, eq_self, if_true, if_false, Nat.reduceAdd, Int.reduceToNat, Int.reduceAdd, tvs, bs]; try refine aA ?_)
    repeat (first | ((first | refine Gs ?_ | refine Gr ?_); simp (disch := omega) only [u, i64, ax, eq_self, if_true, if_false, Nat.reduceAdd, Int.reduceToNat, Int.reduceAdd, tvs, bs]; refine aA ?_) | refine G_seq ?_ | refine G_block ?_ | refine G_condT rfl ?_ | refine G_condF rfl ?_ | refine G_skip ?_ | refine G_ret ?_ | refine G_exit ?_ | refine q_tn ?_ | refine q_tr ?_ | refine q_tx ?_ | refine q_bn ?_ | refine q_br ?_ | refine q_bx ?_ | refine q_by (by decide) ?_)
    refine G_cutB (mk 71 [(11, u T)] []) ?_ ?_
    · simp only [u, i64, Nat.reduceSub, Nat.reduceAdd, bm]
      repeat (first | ((first | refine Gs ?_ | refine Gr ?_); simp (disch := omega) only [u, i64, ax, eq_self, if_true, if_false, Nat.reduceAdd, Int.reduceToNat, Int.reduceAdd, tvs, bs]; refine aA ?_) | refine G_seq ?_ | refine G_block ?_ | refine G_condT rfl ?_ | refine G_condF rfl ?_ | refine G_skip ?_ | refine G_ret ?_ | refine G_exit ?_ | refine q_tn ?_ | refine q_tr ?_ | refine q_tx ?_ | refine q_bn ?_ | refine q_br ?_ | refine q_bx ?_ | refine q_by (by decide) ?_)
      (refine FinQ hQ (congrArg Array.toList Tryd.results179) _ _ ?_); simp (disch := omega) only [u, i64, ax, if_true, forall_const, reduceCtorEq, implies_true, tvs, bf]
    refine AWp_loop (fun i : Nat × Nat × Bool => mk 71 [(0, u a), (1, u b), (2, u c), (3, u v), (4, u w), (11, u i.1), (12, u i.2.1), (13, .bool i.2.2)] [])
      (fun i => T ≤ i.1 ∧ i.1 < 18446744073709551616 ∧ i.2.1 < 18446744073709551616 ∧ (i.2.2 = false → i.1 * v + i.2.1 = N) ∧ (i.2.2 = true → i.1 * V2 ≤ U3)) (fun i => i.1) i0 ?_ hI0 ?_
    · subst hi0
      dsimp only
      simp only [u, i64, Nat.reduceSub, Nat.reduceAdd, bm]
      try simp only [Int.cast_ofNat_Int, leT_same, leT_any, leT_nil, and_self]
    clear hi0 hI0 i0
    rintro ⟨q, r, o⟩ ⟨g1, g2, g3, g4, g5⟩
    simp only at g1 g2 g3 g4 g5
    simp only [u, i64, Nat.reduceSub, Nat.reduceAdd, bm]
    cases o with
    | true =>
      have e := hT3 q (by omega) (g5 rfl)
      have e : q = T := by omega
      repeat (first | ((first | refine Gs ?_ | refine Gr ?_); simp (disch := omega) only [u, i64, ax, eq_self, if_true, if_false, Nat.reduceAdd, Int.reduceToNat, Int.reduceAdd, tvs, bs]; refine aA ?_) | refine G_seq ?_ | refine G_block ?_ | refine G_condT rfl ?_ | refine G_condF rfl ?_ | refine G_skip ?_ | refine G_ret ?_ | refine G_exit ?_ | refine q_tn ?_ | refine q_tr ?_ | refine q_tx ?_ | refine q_bn ?_ | refine q_br ?_ | refine q_bx ?_ | refine q_by (by decide) ?_)
      refine ⟨rfl, ?_⟩
      rw [e]
      simp only [u, i64, Nat.reduceSub, Nat.reduceAdd, bm]
    | false =>
      have hN1 := g4 rfl
      have htest := guess_test hN1 hV2.symm hU3.symm
      have hp : q * w < 18446744073709551616 * 18446744073709551616 := by
        have := Nat.mul_le_mul (show q ≤ 18446744073709551615 by omega) (show w ≤ 18446744073709551615 by omega)
        omega
      have hsp := Nat.div_add_mod (q * w) 18446744073709551616
      have hlo : q * w % 18446744073709551616 < 18446744073709551616 := Nat.mod_lt _ (by decide)
      have hhi : q * w / 18446744073709551616 < 18446744073709551616 := Nat.div_lt_of_lt_mul hp
      by_cases ht : q * w ≤ r * 18446744073709551616 + c
      · have e := hT3 q (by omega) (htest.2 ht)
        have e : q = T := by omega
        clear htest hp g4 g5 hN1
        by_cases h1 : q * w / 18446744073709551616 < r
        · repeat (first | ((first | refine Gs ?_ | refine Gr ?_); simp (disch := omega) only [u, i64, ax, eq_self, if_true, if_false, Nat.reduceAdd, Int.reduceToNat, Int.reduceAdd, tvs, bs]; refine aA ?_) | refine G_seq ?_ | refine G_block ?_ | refine G_condT rfl ?_ | refine G_condF rfl ?_ | refine G_skip ?_ | refine G_ret ?_ | refine G_exit ?_ | refine q_tn ?_ | refine q_tr ?_ | refine q_tx ?_ | refine q_bn ?_ | refine q_br ?_ | refine q_bx ?_ | refine q_by (by decide) ?_)
          ((first | refine Gs ?_ | refine Gr ?_); simp (disch := omega) only [u, i64, ax, eq_self, if_true, if_false, Nat.reduceAdd, Int.reduceToNat, Int.reduceAdd, tvs, bs])
          (refine callK_mem (ret_Mul64 q w g2 hw) rfl (by (simp (disch := omega) only [if_true, forall_const, reduceCtorEq, implies_true, bz]) <;> rfl) ?_; simp (disch := omega) only [u, i64, ax, eq_self, if_true, if_false, Nat.reduceAdd, Int.reduceToNat, Int.reduceAdd, tvs, bs]; try refine aA ?_)
          repeat (first | ((first | refine Gs ?_ | refine Gr ?_); simp (disch := omega) only [u, i64, ax, eq_self, if_true, if_false, Nat.reduceAdd, Int.reduceToNat, Int.reduceAdd, tvs, bs]; refine aA ?_) | refine G_seq ?_ | refine G_block ?_ | refine G_condT rfl ?_ | refine G_condF rfl ?_ | refine G_skip ?_ | refine G_ret ?_ | refine G_exit ?_ | refine q_tn ?_ | refine q_tr ?_ | refine q_tx ?_ | refine q_bn ?_ | refine q_br ?_ | refine q_bx ?_ | refine q_by (by decide) ?_)
          refine ⟨rfl, ?_⟩
          rw [e]
          simp only [u, i64, Nat.reduceSub, Nat.reduceAdd, bm]
        · have h2 : q * w / 18446744073709551616 = r := by omega
          have h3 : q * w % 18446744073709551616 ≤ c := by omega
          repeat (first | ((first | refine Gs ?_ | refine Gr ?_); simp (disch := omega) only [u, i64, ax, eq_self, if_true, if_false, Nat.reduceAdd, Int.reduceToNat, Int.reduceAdd, tvs, bs]; refine aA ?_) | refine G_seq ?_ | refine G_block ?_ | refine G_condT rfl ?_ | refine G_condF rfl ?_ | refine G_skip ?_ | refine G_ret ?_ | refine G_exit ?_ | refine q_tn ?_ | refine q_tr ?_ | refine q_tx ?_ | refine q_bn ?_ | refine q_br ?_ | refine q_bx ?_ | refine q_by (by decide) ?_)
          ((first | refine Gs ?_ | refine Gr ?_); simp (disch := omega) only [u, i64, ax, eq_self, if_true, if_false, Nat.reduceAdd, Int.reduceToNat, Int.reduceAdd, tvs, bs])
          (refine callK_mem (ret_Mul64 q w g2 hw) rfl (by (simp (disch := omega) only [if_true, forall_const, reduceCtorEq, implies_true, bz]) <;> rfl) ?_; simp (disch := omega) only [u, i64, ax, eq_self, if_true, if_false, Nat.reduceAdd, Int.reduceToNat, Int.reduceAdd, tvs, bs]; try refine aA ?_)
          repeat (first | ((first | refine Gs ?_ | refine Gr ?_); simp (disch := omega) only [u, i64, ax, eq_self, if_true, if_false, Nat.reduceAdd, Int.reduceToNat, Int.reduceAdd, tvs, bs]; refine aA ?_) | refine G_seq ?_ | refine G_block ?_ | refine G_condT rfl ?_ | refine G_condF rfl ?_ | refine G_skip ?_ | refine G_ret ?_ | refine G_exit ?_ | refine q_tn ?_ | refine q_tr ?_ | refine q_tx ?_ | refine q_bn ?_ | refine q_br ?_ | refine q_bx ?_ | refine q_by (by decide) ?_)
          refine ⟨rfl, ?_⟩
          rw [e]
          simp only [u, i64, Nat.reduceSub, Nat.reduceAdd, bm]
      · have hlt : T < q := by
          rcases Nat.lt_or_ge T q with h | h
          · exact h
          · have e : q = T := by omega
            rw [← e] at hT2
            exact absurd (htest.1 hT2) ht
        have hnew := guess_less hN1 (by omega)
        have hov := fun h => guess_over hnew hV2.symm hU3.symm (by omega) hw h
        have hI1 : T ≤ q - 1 ∧ q - 1 < 18446744073709551616 ∧ (r + v) % 18446744073709551616 < 18446744073709551616 ∧ (decide ((r + v) / 18446744073709551616 = 1) = false → (q - 1) * v + (r + v) % 18446744073709551616 = N) ∧ (decide ((r + v) / 18446744073709551616 = 1) = true → (q - 1) * V2 ≤ U3) :=
          ⟨by omega, by omega, by omega, fun h => by rw [Nat.mod_eq_of_lt (by have := of_decide_eq_false h; omega)]; exact hnew, fun h => hov (by have := of_decide_eq_true h; omega)⟩
        clear htest hp g4 g5 hN1 hnew hov
        by_cases h2 : q * w / 18446744073709551616 = r
        · have h3 : ¬ q * w % 18446744073709551616 ≤ c := by omega
          have h1 : ¬ q * w / 18446744073709551616 < r := by omega
          repeat (first | ((first | refine Gs ?_ | refine Gr ?_); simp (disch := omega) only [u, i64, ax, eq_self, if_true, if_false, Nat.reduceAdd, Int.reduceToNat, Int.reduceAdd, tvs, bs]; refine aA ?_) | refine G_seq ?_ | refine G_block ?_ | refine G_condT rfl ?_ | refine G_condF rfl ?_ | refine G_skip ?_ | refine G_ret ?_ | refine G_exit ?_ | refine q_tn ?_ | refine q_tr ?_ | refine q_tx ?_ | refine q_bn ?_ | refine q_br ?_ | refine q_bx ?_ | refine q_by (by decide) ?_)
          ((first | refine Gs ?_ | refine Gr ?_); simp (disch := omega) only [u, i64, ax, eq_self, if_true, if_false, Nat.reduceAdd, Int.reduceToNat, Int.reduceAdd, tvs, bs])
          (refine callK_mem (ret_Mul64 q w g2 hw) rfl (by (simp (disch := omega) only [if_true, forall_const, reduceCtorEq, implies_true, bz]) <;> rfl) ?_; simp (disch := omega) only [u, i64, ax, eq_self, if_true, if_false, Nat.reduceAdd, Int.reduceToNat, Int.reduceAdd, tvs, bs]; try refine aA ?_)
          repeat (first | ((first | refine Gs ?_ | refine Gr ?_); simp (disch := omega) only [u, i64, ax, eq_self, if_true, if_false, Nat.reduceAdd, Int.reduceToNat, Int.reduceAdd, tvs, bs]; refine aA ?_) | refine G_seq ?_ | refine G_block ?_ | refine G_condT rfl ?_ | refine G_condF rfl ?_ | refine G_skip ?_ | refine G_ret ?_ | refine G_exit ?_ | refine q_tn ?_ | refine q_tr ?_ | refine q_tx ?_ | refine q_bn ?_ | refine q_br ?_ | refine q_bx ?_ | refine q_by (by decide) ?_)
          ((first | refine Gs ?_ | refine Gr ?_); simp (disch := omega) only [u, i64, ax, eq_self, if_true, if_false, Nat.reduceAdd, Int.reduceToNat, Int.reduceAdd, tvs, bs])
          (refine callK_ext (retx_Add64 r v 0 (by decide)) rfl (by (simp (disch := omega) only [if_true, forall_const, reduceCtorEq, implies_true, bz]) <;> rfl) ?_; simp (disch := omega) only [u, i64, ax, eq_self, if_true, if_false, Nat.reduceAdd, Int.reduceToNat, Int.reduceAdd, tvs, bs]; try refine aA ?_)
          repeat (first | ((first | refine Gs ?_ | refine Gr ?_); simp (disch := omega) only [u, i64, ax, eq_self, if_true, if_false, Nat.reduceAdd, Int.reduceToNat, Int.reduceAdd, tvs, bs]; refine aA ?_) | refine G_seq ?_ | refine G_block ?_ | refine G_condT rfl ?_ | refine G_condF rfl ?_ | refine G_skip ?_ | refine G_ret ?_ | refine G_exit ?_ | refine q_tn ?_ | refine q_tr ?_ | refine q_tx ?_ | refine q_bn ?_ | refine q_br ?_ | refine q_bx ?_ | refine q_by (by decide) ?_)
          refine ⟨(q - 1, (r + v) % 18446744073709551616, decide ((r + v) / 18446744073709551616 = 1)), ?_, hI1, by simp only; omega⟩
          simp only [u, i64, Nat.reduceSub, Nat.reduceAdd, bm]
        · have h1 : ¬ q * w / 18446744073709551616 < r := by omega
          repeat (first | ((first | refine Gs ?_ | refine Gr ?_); simp (disch := omega) only [u, i64, ax, eq_self, if_true, if_false, Nat.reduceAdd, Int.reduceToNat, Int.reduceAdd, tvs, bs]; refine aA ?_) | refine G_seq ?_ | refine G_block ?_ | refine G_condT rfl ?_ | refine G_condF rfl ?_ | refine G_skip ?_ | refine G_ret ?_ | refine G_exit ?_ | refine q_tn ?_ | refine q_tr ?_ | refine q_tx ?_ | refine q_bn ?_ | refine q_br ?_ | refine q_bx ?_ | refine q_by (by decide) ?_)
          ((first | refine Gs ?_ | refine Gr ?_); simp (disch := omega) only [u, i64, ax, eq_self, if_true, if_false, Nat.reduceAdd, Int.reduceToNat, Int.reduceAdd, tvs, bs])
          (refine callK_mem (ret_Mul64 q w g2 hw) rfl (by (simp (disch := omega) only [if_true, forall_const, reduceCtorEq, implies_true, bz]) <;> rfl) ?_; simp (disch := omega) only [u, i64, ax, eq_self, if_true, if_false, Nat.reduceAdd, Int.reduceToNat, Int.reduceAdd, tvs, bs]; try refine aA ?_)
          repeat (first | ((first | refine Gs ?_ | refine Gr ?_); simp (disch := omega) only [u, i64, ax, eq_self, if_true, if_false, Nat.reduceAdd, Int.reduceToNat, Int.reduceAdd, tvs, bs]; refine aA ?_) | refine G_seq ?_ | refine G_block ?_ | refine G_condT rfl ?_ | refine G_condF rfl ?_ | refine G_skip ?_ | refine G_ret ?_ | refine G_exit ?_ | refine q_tn ?_ | refine q_tr ?_ | refine q_tx ?_ | refine q_bn ?_ | refine q_br ?_ | refine q_bx ?_ | refine q_by (by decide) ?_)
          ((first | refine Gs ?_ | refine Gr ?_); simp (disch := omega) only [u, i64, ax, eq_self, if_true, if_false, Nat.reduceAdd, Int.reduceToNat, Int.reduceAdd, tvs, bs])
          (refine callK_ext (retx_Add64 r v 0 (by decide)) rfl (by (simp (disch := omega) only [if_true, forall_const, reduceCtorEq, implies_true, bz]) <;> rfl) ?_; simp (disch := omega) only [u, i64, ax, eq_self, if_true, if_false, Nat.reduceAdd, Int.reduceToNat, Int.reduceAdd, tvs, bs]; try refine aA ?_)
          repeat (first | ((first | refine Gs ?_ | refine Gr ?_); simp (disch := omega) only [u, i64, ax, eq_self, if_true, if_false, Nat.reduceAdd, Int.reduceToNat, Int.reduceAdd, tvs, bs]; refine aA ?_) | refine G_seq ?_ | refine G_block ?_ | refine G_condT rfl ?_ | refine G_condF rfl ?_ | refine G_skip ?_ | refine G_ret ?_ | refine G_exit ?_ | refine q_tn ?_ | refine q_tr ?_ | refine q_tx ?_ | refine q_bn ?_ | refine q_br ?_ | refine q_bx ?_ | refine q_by (by decide) ?_)
          refine ⟨(q - 1, (r + v) % 18446744073709551616, decide ((r + v) / 18446744073709551616 = 1)), ?_, hI1, by simp only; omega⟩
          simp only [u, i64, Nat.reduceSub, Nat.reduceAdd, bm]
  · have hlt : a < v := by omega
    have hNv : N < v * 18446744073709551616 := by omega
    have hq := (Nat.div_lt_iff_lt_mul hv0).2 (show N < 18446744073709551616 * v by omega)
    have hr := Nat.mod_lt N hv0
    obtain ⟨i0, hi0⟩ : ∃ i : Nat × Nat × Bool, i = (N / v, N % v, false) := ⟨_, rfl⟩
    have hI0 : T ≤ i0.1 ∧ i0.1 < 18446744073709551616 ∧ i0.2.1 < 18446744073709551616 ∧ (i0.2.2 = false → i0.1 * v + i0.2.1 = N) ∧ (i0.2.2 = true → i0.1 * V2 ≤ U3) := by
      rw [hi0]
      simp only
      refine ⟨(Nat.le_div_iff_mul_le hv0).2 (knuth_le hV2.symm hU3.symm hc hT2), hq, by omega, fun _ => by rw [Nat.mul_comm]; exact Nat.div_add_mod N v, fun h => by cases h⟩
    repeat (first | ((first | refine Gs ?_ | refine Gr ?_); simp (disch := omega) only [u, i64, ax, eq_self, if_true, if_false, Nat.reduceAdd, Int.reduceToNat, Int.reduceAdd, tvs, bs]; refine aA ?_) | refine G_seq ?_ | refine G_block ?_ | refine G_condT rfl ?_ | refine G_condF rfl ?_ | refine G_skip ?_ | refine G_ret ?_ | refine G_exit ?_ | refine q_tn ?_ | refine q_tr ?_ | refine q_tx ?_ | refine q_bn ?_ | refine q_br ?_ | refine q_bx ?_ | refine q_by (by decide) ?_)
    ((first | refine Gs ?_ | refine Gr ?_); simp (disch := omega) only [u, i64, ax, eq_self, if_true, if_false, Nat.reduceAdd, Int.reduceToNat, Int.reduceAdd, tvs, bs])
    (refine cR (ret_Div64 a b v hb hv hlt) ?_; simp (disch := omega) only [u, i64, ax, eq_self, if_true, if_false, Nat.reduceAdd, Int.reduceToNat, Int.reduceAdd, tvs, bs]; try refine aA ?_)
    rw [hN]
    repeat (first | ((first | refine Gs ?_ | refine Gr ?_); simp (disch := omega) only [u, i64, ax, eq_self, if_true, if_false, Nat.reduceAdd, Int.reduceToNat, Int.reduceAdd, tvs, bs]; refine aA ?_) | refine G_seq ?_ | refine G_block ?_ | refine G_condT rfl ?_ | refine G_condF rfl ?_ | refine G_skip ?_ | refine G_ret ?_ | refine G_exit ?_ | refine q_tn ?_ | refine q_tr ?_ | refine q_tx ?_ | refine q_bn ?_ | refine q_br ?_ | refine q_bx ?_ | refine q_by (by decide) ?_)
    clear hT1
    refine G_cutB (mk 71 [(11, u T)] []) ?_ ?_
    · simp only [u, i64, Nat.reduceSub, Nat.reduceAdd, bm]
      repeat (first | ((first | refine Gs ?_ | refine Gr ?_); simp (disch := omega) only [u, i64, ax, eq_self, if_true, if_false, Nat.reduceAdd, Int.reduceToNat, Int.reduceAdd, tvs, bs]; refine aA ?_) | refine G_seq ?_ | refine G_block ?_ | refine G_condT rfl ?_ | refine G_condF rfl ?_ | refine G_skip ?_ | refine G_ret ?_ | refine G_exit ?_ | refine q_tn ?_ | refine q_tr ?_ | refine q_tx ?_ | refine q_bn ?_ | refine q_br ?_ | refine q_bx ?_ | refine q_by (by decide) ?_)
      (refine FinQ hQ (congrArg Array.toList Tryd.results179) _ _ ?_); simp (disch := omega) only [u, i64, ax, if_true, forall_const, reduceCtorEq, implies_true, tvs, bf]
    refine AWp_loop (fun i : Nat × Nat × Bool => mk 71 [(0, u a), (1, u b), (2, u c), (3, u v), (4, u w), (11, u i.1), (12, u i.2.1), (13, .bool i.2.2)] [])
      (fun i => T ≤ i.1 ∧ i.1 < 18446744073709551616 ∧ i.2.1 < 18446744073709551616 ∧ (i.2.2 = false → i.1 * v + i.2.1 = N) ∧ (i.2.2 = true → i.1 * V2 ≤ U3)) (fun i => i.1) i0 ?_ hI0 ?_
    · subst hi0
      dsimp only
      simp only [u, i64, Nat.reduceSub, Nat.reduceAdd, bm]
      try simp only [Int.cast_ofNat_Int, leT_same, leT_any, leT_nil, and_self]
    clear hi0 hI0 i0
    rintro ⟨q, r, o⟩ ⟨g1, g2, g3, g4, g5⟩
    simp only at g1 g2 g3 g4 g5
    simp only [u, i64, Nat.reduceSub, Nat.reduceAdd, bm]
    cases o with
    | true =>
      have e := hT3 q (by omega) (g5 rfl)
      have e : q = T := by omega
      repeat (first | ((first | refine Gs ?_ | refine Gr ?_); simp (disch := omega) only [u, i64, ax, eq_self, if_true, if_false, Nat.reduceAdd, Int.reduceToNat, Int.reduceAdd, tvs, bs]; refine aA ?_) | refine G_seq ?_ | refine G_block ?_ | refine G_condT rfl ?_ | refine G_condF rfl ?_ | refine G_skip ?_ | refine G_ret ?_ | refine G_exit ?_ | refine q_tn ?_ | refine q_tr ?_ | refine q_tx ?_ | refine q_bn ?_ | refine q_br ?_ | refine q_bx ?_ | refine q_by (by decide) ?_)
      refine ⟨rfl, ?_⟩
      rw [e]
      simp only [u, i64, Nat.reduceSub, Nat.reduceAdd, bm]
    | false =>
      have hN1 := g4 rfl
      have htest := guess_test hN1 hV2.symm hU3.symm
      have hp : q * w < 18446744073709551616 * 18446744073709551616 := by
        have := Nat.mul_le_mul (show q ≤ 18446744073709551615 by omega) (show w ≤ 18446744073709551615 by omega)
        omega
      have hsp := Nat.div_add_mod (q * w) 18446744073709551616
      have hlo : q * w % 18446744073709551616 < 18446744073709551616 := Nat.mod_lt _ (by decide)
      have hhi : q * w / 18446744073709551616 < 18446744073709551616 := Nat.div_lt_of_lt_mul hp
      by_cases ht : q * w ≤ r * 18446744073709551616 + c
      · have e := hT3 q (by omega) (htest.2 ht)
        have e : q = T := by omega
        clear htest hp g4 g5 hN1
        by_cases h1 : q * w / 18446744073709551616 < r
        · repeat (first | ((first | refine Gs ?_ | refine Gr ?_); simp (disch := omega) only [u, i64, ax, eq_self, if_true, if_false, Nat.reduceAdd, Int.reduceToNat, Int.reduceAdd, tvs, bs]; refine aA ?_) | refine G_seq ?_ | refine G_block ?_ | refine G_condT rfl ?_ | refine G_condF rfl ?_ | refine G_skip ?_ | refine G_ret ?_ | refine G_exit ?_ | refine q_tn ?_ | refine q_tr ?_ | refine q_tx ?_ | refine q_bn ?_ | refine q_br ?_ | refine q_bx ?_ | refine q_by (by decide) ?_)
          ((first | refine Gs ?_ | refine Gr ?_); simp (disch := omega) only [u, i64, ax, eq_self, if_true, if_false, Nat.reduceAdd, Int.reduceToNat, Int.reduceAdd, tvs, bs])
          (refine callK_mem (ret_Mul64 q w g2 hw) rfl (by (simp (disch := omega) only [if_true, forall_const, reduceCtorEq, implies_true, bz]) <;> rfl) ?_; simp (disch := omega) only [u, i64, ax, eq_self, if_true, if_false, Nat.reduceAdd, Int.reduceToNat, Int.reduceAdd, tvs, bs]; try refine aA ?_)
          repeat (first | ((first | refine Gs ?_ | refine Gr ?_); simp (disch := omega) only [u, i64, ax, eq_self, if_true, if_false, Nat.reduceAdd, Int.reduceToNat, Int.reduceAdd, tvs, bs]; refine aA ?_) | refine G_seq ?_ | refine G_block ?_ | refine G_condT rfl ?_ | refine G_condF rfl ?_ | refine G_skip ?_ | refine G_ret ?_ | refine G_exit ?_ | refine q_tn ?_ | refine q_tr ?_ | refine q_tx ?_ | refine q_bn ?_ | refine q_br ?_ | refine q_bx ?_ | refine q_by (by decide) ?_)
          refine ⟨rfl, ?_⟩
          rw [e]
          simp only [u, i64, Nat.reduceSub, Nat.reduceAdd, bm]
        · have h2 : q * w / 18446744073709551616 = r := by omega
          have h3 : q * w % 18446744073709551616 ≤ c := by omega
          repeat (first | ((first | refine Gs ?_ | refine Gr ?_); simp (disch := omega) only [u, i64, ax, eq_self, if_true, if_false, Nat.reduceAdd, Int.reduceToNat, Int.reduceAdd, tvs, bs]; refine aA ?_) | refine G_seq ?_ | refine G_block ?_ | refine G_condT rfl ?_ | refine G_condF rfl ?_ | refine G_skip ?_ | refine G_ret ?_ | refine G_exit ?_ | refine q_tn ?_ | refine q_tr ?_ | refine q_tx ?_ | refine q_bn ?_ | refine q_br ?_ | refine q_bx ?_ | refine q_by (by decide) ?_)
          ((first | refine Gs ?_ | refine Gr ?_); simp (disch := omega) only [u, i64, ax, eq_self, if_true, if_false, Nat.reduceAdd, Int.reduceToNat, Int.reduceAdd, tvs, bs])
          (refine callK_mem (ret_Mul64 q w g2 hw) rfl (by (simp (disch := omega) only [if_true, forall_const, reduceCtorEq, implies_true, bz]) <;> rfl) ?_; simp (disch := omega) only [u, i64, ax, eq_self, if_true, if_false, Nat.reduceAdd, Int.reduceToNat, Int.reduceAdd, tvs, bs]; try refine aA ?_)
          repeat (first | ((first | refine Gs ?_ | refine Gr ?_); simp (disch := omega) only [u, i64, ax, eq_self, if_true, if_false, Nat.reduceAdd, Int.reduceToNat, Int.reduceAdd, tvs, bs]; refine aA ?_) | refine G_seq ?_ | refine G_block ?_ | refine G_condT rfl ?_ | refine G_condF rfl ?_ | refine G_skip ?_ | refine G_ret ?_ | refine G_exit ?_ | refine q_tn ?_ | refine q_tr ?_ | refine q_tx ?_ | refine q_bn ?_ | refine q_br ?_ | refine q_bx ?_ | refine q_by (by decide) ?_)
          refine ⟨rfl, ?_⟩
          rw [e]
          simp only [u, i64, Nat.reduceSub, Nat.reduceAdd, bm]
      · have hlt : T < q := by
          rcases Nat.lt_or_ge T q with h | h
          · exact h
          · have e : q = T := by omega
            rw [← e] at hT2
            exact absurd (htest.1 hT2) ht
        have hnew := guess_less hN1 (by omega)
        have hov := fun h => guess_over hnew hV2.symm hU3.symm (by omega) hw h
        have hI1 : T ≤ q - 1 ∧ q - 1 < 18446744073709551616 ∧ (r + v) % 18446744073709551616 < 18446744073709551616 ∧ (decide ((r + v) / 18446744073709551616 = 1) = false → (q - 1) * v + (r + v) % 18446744073709551616 = N) ∧ (decide ((r + v) / 18446744073709551616 = 1) = true → (q - 1) * V2 ≤ U3) :=
          ⟨by omega, by omega, by omega, fun h => by rw [Nat.mod_eq_of_lt (by have := of_decide_eq_false h; omega)]; exact hnew, fun h => hov (by have := of_decide_eq_true h; omega)⟩
        clear htest hp g4 g5 hN1 hnew hov
        by_cases h2 : q * w / 18446744073709551616 = r
        · have h3 : ¬ q * w % 18446744073709551616 ≤ c := by omega
          have h1 : ¬ q * w / 18446744073709551616 < r := by omega
          repeat (first | ((first | refine Gs ?_ | refine Gr ?_); simp (disch := omega) only [u, i64, ax, eq_self, if_true, if_false, Nat.reduceAdd, Int.reduceToNat, Int.reduceAdd, tvs, bs]; refine aA ?_) | refine G_seq ?_ | refine G_block ?_ | refine G_condT rfl ?_ | refine G_condF rfl ?_ | refine G_skip ?_ | refine G_ret ?_ | refine G_exit ?_ | refine q_tn ?_ | refine q_tr ?_ | refine q_tx ?_ | refine q_bn ?_ | refine q_br ?_ | refine q_bx ?_ | refine q_by (by decide) ?_)
          ((first | refine Gs ?_ | refine Gr ?_); simp (disch := omega) only [u, i64, ax, eq_self, if_true, if_false, Nat.reduceAdd, Int.reduceToNat, Int.reduceAdd, tvs, bs])
          (refine callK_mem (ret_Mul64 q w g2 hw) rfl (by (simp (disch := omega) only [if_true, forall_const, reduceCtorEq, implies_true, bz]) <;> rfl) ?_; simp (disch := omega) only [u, i64, ax, eq_self, if_true, if_false, Nat.reduceAdd, Int.reduceToNat, Int.reduceAdd, tvs, bs]; try refine aA ?_)
          repeat (first | ((first | refine Gs ?_ | refine Gr ?_); simp (disch := omega) only [u, i64, ax, eq_self, if_true, if_false, Nat.reduceAdd, Int.reduceToNat, Int.reduceAdd, tvs, bs]; refine aA ?_) | refine G_seq ?_ | refine G_block ?_ | refine G_condT rfl ?_ | refine G_condF rfl ?_ | refine G_skip ?_ | refine G_ret ?_ | refine G_exit ?_ | refine q_tn ?_ | refine q_tr ?_ | refine q_tx ?_ | refine q_bn ?_ | refine q_br ?_ | refine q_bx ?_ | refine q_by (by decide) ?_)
          ((first | refine Gs ?_ | refine Gr ?_); simp (disch := omega) only [u, i64, ax, eq_self, if_true, if_false, Nat.reduceAdd, Int.reduceToNat, Int.reduceAdd, tvs, bs])
          (refine callK_ext (retx_Add64 r v 0 (by decide)) rfl (by (simp (disch := omega) only [if_true, forall_const, reduceCtorEq, implies_true, bz]) <;> rfl) ?_; simp (disch := omega) only [u, i64, ax, eq_self, if_true, if_false, Nat.reduceAdd, Int.reduceToNat, Int.reduceAdd, tvs, bs]; try refine aA ?_)
          repeat (first | ((first | refine Gs ?_ | refine Gr ?_); simp (disch := omega) only [u, i64, ax, eq_self, if_true, if_false, Nat.reduceAdd, Int.reduceToNat, Int.reduceAdd, tvs, bs]; refine aA ?_) | refine G_seq ?_ | refine G_block ?_ | refine G_condT rfl ?_ | refine G_condF rfl ?_ | refine G_skip ?_ | refine G_ret ?_ | refine G_exit ?_ | refine q_tn ?_ | refine q_tr ?_ | refine q_tx ?_ | refine q_bn ?_ | refine q_br ?_ | refine q_bx ?_ | refine q_by (by decide) ?_)
          refine ⟨(q - 1, (r + v) % 18446744073709551616, decide ((r + v) / 18446744073709551616 = 1)), ?_, hI1, by simp only; omega⟩
          simp only [u, i64, Nat.reduceSub, Nat.reduceAdd, bm]
        · have h1 : ¬ q * w / 18446744073709551616 < r := by omega
          repeat (first | ((first | refine Gs ?_ | refine Gr ?_); simp (disch := omega) only [u, i64, ax, eq_self, if_true, if_false, Nat.reduceAdd, Int.reduceToNat, Int.reduceAdd, tvs, bs]; refine aA ?_) | refine G_seq ?_ | refine G_block ?_ | refine G_condT rfl ?_ | refine G_condF rfl ?_ | refine G_skip ?_ | refine G_ret ?_ | refine G_exit ?_ | refine q_tn ?_ | refine q_tr ?_ | refine q_tx ?_ | refine q_bn ?_ | refine q_br ?_ | refine q_bx ?_ | refine q_by (by decide) ?_)
          ((first | refine Gs ?_ | refine Gr ?_); simp (disch := omega) only [u, i64, ax, eq_self, if_true, if_false, Nat.reduceAdd, Int.reduceToNat, Int.reduceAdd, tvs, bs])
          (refine callK_mem (ret_Mul64 q w g2 hw) rfl (by (simp (disch := omega) only [if_true, forall_const, reduceCtorEq, implies_true, bz]) <;> rfl) ?_; simp (disch := omega) only [u, i64, ax, eq_self, if_true, if_false, Nat.reduceAdd, Int.reduceToNat, Int.reduceAdd, tvs, bs]; try refine aA ?_)
          repeat (first | ((first | refine Gs ?_ | refine Gr ?_); simp (disch := omega) only [u, i64, ax, eq_self, if_true, if_false, Nat.reduceAdd, Int.reduceToNat, Int.reduceAdd, tvs, bs]; refine aA ?_) | refine G_seq ?_ | refine G_block ?_ | refine G_condT rfl ?_ | refine G_condF rfl ?_ | refine G_skip ?_ | refine G_ret ?_ | refine G_exit ?_ | refine q_tn ?_ | refine q_tr ?_ | refine q_tx ?_ | refine q_bn ?_ | refine q_br ?_ | refine q_bx ?_ | refine q_by (by decide) ?_)
          ((first | refine Gs ?_ | refine Gr ?_); simp (disch := omega) only [u, i64, ax, eq_self, if_true, if_false, Nat.reduceAdd, Int.reduceToNat, Int.reduceAdd, tvs, bs])
          (refine callK_ext (retx_Add64 r v 0 (by decide)) rfl (by (simp (disch := omega) only [if_true, forall_const, reduceCtorEq, implies_true, bz]) <;> rfl) ?_; simp (disch := omega) only [u, i64, ax, eq_self, if_true, if_false, Nat.reduceAdd, Int.reduceToNat, Int.reduceAdd, tvs, bs]; try refine aA ?_)
          repeat (first | ((first | refine Gs ?_ | refine Gr ?_); simp (disch := omega) only [u, i64, ax, eq_self, if_true, if_false, Nat.reduceAdd, Int.reduceToNat, Int.reduceAdd, tvs, bs]; refine aA ?_) | refine G_seq ?_ | refine G_block ?_ | refine G_condT rfl ?_ | refine G_condF rfl ?_ | refine G_skip ?_ | refine G_ret ?_ | refine G_exit ?_ | refine q_tn ?_ | refine q_tr ?_ | refine q_tx ?_ | refine q_bn ?_ | refine q_br ?_ | refine q_bx ?_ | refine q_by (by decide) ?_)
          refine ⟨(q - 1, (r + v) % 18446744073709551616, decide ((r + v) / 18446744073709551616 = 1)), ?_, hI1, by simp only; omega⟩
          simp only [u, i64, Nat.reduceSub, Nat.reduceAdd, bm]
end Go.Proofs
set_option linter.unusedVariables false
set_option linter.unusedSimpArgs false
namespace Go.Proofs
open Go.Ax
def wf : Nat → Nat → List Nat
  | 0, _ => []
  | k + 1, n => n % 18446744073709551616 :: wf k (n / 18446744073709551616)
theorem wf_length : ∀ k n, (wf k n).length = k
  | 0, _ => rfl
  | k + 1, n => by simp only [wf, List.length_cons, wf_length k]
theorem wf_Wd : ∀ k n, Wd (wf k n)
  | 0, _ => Wd_nil
  | k + 1, n => Wd_cons (Nat.mod_lt _ (by decide)) (wf_Wd k _)
theorem wf_val : ∀ (xs : List Nat), Wd xs → wf xs.length (val xs) = xs
  | [], _ => rfl
  | x :: xs, h => by
    have hx := h.head
    have e1 : val (x :: xs) % 18446744073709551616 = x := by simp only [val]; omega
    have e2 : val (x :: xs) / 18446744073709551616 = val xs := by simp only [val]; omega
    simp only [List.length_cons, wf, e1, e2, wf_val xs h.tail]
theorem val_wf : ∀ (k n : Nat), n < 18446744073709551616 ^ k → val (wf k n) = n
  | 0, n, h => by simp only [Nat.pow_zero] at h; simp [wf, val]; omega
  | k + 1, n, h => by
    have : n / 18446744073709551616 < 18446744073709551616 ^ k := by rw [Nat.div_lt_iff_lt_mul (by decide)]; rw [Nat.pow_succ] at h; exact h
    simp only [wf, val, val_wf k _ this]
    exact Nat.mod_add_div n 18446744073709551616
/-- A list in three pieces. -/
theorem three (W : List Nat) (off n : Nat) : W = W.take off ++ ((W.drop off).take n ++ W.drop (off + n)) := by
  conv => lhs; rw [← List.take_append_drop off W]
  congr 1
  conv => lhs; rw [← List.take_append_drop n (W.drop off)]
  rw [List.drop_drop]
theorem less_word {q w c b x : Nat} (hq : q < 18446744073709551616) (hw : w < 18446744073709551616) (hc : c < 18446744073709551616) (hb : b ≤ 1) (hx : x < 18446744073709551616) :
    (q * w / 18446744073709551616 + (q * w % 18446744073709551616 + c) / 18446744073709551616) < 18446744073709551616 ∧ (q * w % 18446744073709551616 + c) / 18446744073709551616 ≤ 1 ∧
    (x + 18446744073709551616 - (q * w % 18446744073709551616 + c) % 18446744073709551616 - b) % 18446744073709551616 + q * w + (c + b) = x + (q * w / 18446744073709551616 + (q * w % 18446744073709551616 + c) / 18446744073709551616 + (if x < (q * w % 18446744073709551616 + c) % 18446744073709551616 + b then 1 else 0)) * 18446744073709551616 := by
  have hp : q * w ≤ 18446744073709551616 * 18446744073709551616 - 2 * 18446744073709551616 + 1 := by
    have := Nat.mul_le_mul (show q ≤ 18446744073709551615 by omega) (show w ≤ 18446744073709551615 by omega)
    omega
  generalize q * w = p at *
  refine ⟨by omega, by omega, ?_⟩
  split <;> omega
theorem less_step {P S U k u' x k' V w q : Nat} (h : S + q * V = U + k * P) (h2 : u' + q * w + k = x + k' * 18446744073709551616) :
    (S + P * u') + q * (V + P * w) = (U + P * x) + k' * (P * 18446744073709551616) := by
  have e : P * (u' + q * w + k) = P * (x + k' * 18446744073709551616) := by rw [h2]
  have e1 : q * (V + P * w) = q * V + P * (q * w) := by rw [Nat.mul_add, Nat.mul_left_comm]
  have e2 : P * (k' * 18446744073709551616) = k' * (P * 18446744073709551616) := by rw [Nat.mul_left_comm]
  have e3 : k * P = P * k := Nat.mul_comm _ _
  simp only [Nat.mul_add] at e
  rw [e1]
  omega
theorem setd (W : List Nat) (off i v : Nat) : (W.set (off + i) v).drop off = (W.drop off).set i v := by
  rw [List.drop_set, if_neg (by omega), Nat.add_sub_cancel_left]
theorem getd (W : List Nat) (off i : Nat) : (W.drop off).getD i 0 = W.getD (off + i) 0 := by
  simp [List.getD_eq_getElem?_getD, List.getElem?_drop]
theorem getd_of {W U : List Nat} {k : Nat} (h : W.drop k = U.drop k) : W.getD k 0 = U.getD k 0 := by
  have := congrArg (fun l : List Nat => l.getD 0 0) h
  simpa [List.getD_eq_getElem?_getD, List.getElem?_drop] using this
/-- What becomes of the row. -/
def lessR (U V : List Nat) (off q : Nat) : List Nat :=
  U.take off ++ (wf (V.length + 1) (if val ((U.drop off).take (V.length + 1)) < q * val V then val ((U.drop off).take (V.length + 1)) + val V - q * val V else val ((U.drop off).take (V.length + 1)) - q * val V) ++ U.drop (off + (V.length + 1)))
theorem lessR_of {U V W : List Nat} {off q : Nat} (hW : Wd W) (hl : W.length = U.length) (hoff : off + (V.length + 1) ≤ U.length) (h1 : W.take off = U.take off) (h2 : W.drop (off + (V.length + 1)) = U.drop (off + (V.length + 1)))
    (h3 : val ((W.drop off).take (V.length + 1)) = if val ((U.drop off).take (V.length + 1)) < q * val V then val ((U.drop off).take (V.length + 1)) + val V - q * val V else val ((U.drop off).take (V.length + 1)) - q * val V) : W = lessR U V off q := by
  unfold lessR
  rw [← h3, ← h1, ← h2]
  have hlen : ((W.drop off).take (V.length + 1)).length = V.length + 1 := by
    rw [List.length_take, List.length_drop]; omega
  have := wf_val _ ((hW.drop off).take (V.length + 1))
  rw [hlen] at this
  rw [this]
  exact three W off (V.length + 1)
theorem less_end {T s c P A S qV X Vv : Nat} (h1 : A + P * s = S) (h2 : S + qV = X + 1 * (P * 18446744073709551616)) (h3 : T + c * P = A + Vv) (h4 : qV ≤ X + Vv) (h5 : T < P) (h6 : s < 18446744073709551616) (h7 : c ≤ 1) : T + P * ((s + c) % 18446744073709551616) = X + Vv - qV := by
  have e1 : c * P = P * c := Nat.mul_comm _ _
  rcases Nat.lt_or_ge (s + c) 18446744073709551616 with h | h
  · have e2 := Nat.mul_le_mul_left P (show s + c + 1 ≤ 18446744073709551616 from h)
    simp only [Nat.mul_add, Nat.mul_one] at e2
    omega
  · have e3 : s + c = 18446744073709551616 := by omega
    have e4 : P * (s + c) = P * 18446744073709551616 := by rw [e3]
    rw [Nat.mul_add] at e4
    rw [e3, Nat.mod_self, Nat.mul_zero]
    omega
theorem last_word {c b x : Nat} (hc : c < 18446744073709551616) (hb : b ≤ 1) (hx : x < 18446744073709551616) : (x + 18446744073709551616 - c - b) % 18446744073709551616 + (c + b) = x + (if x < c + b then 1 else 0) * 18446744073709551616 := by
  split <;> omega
theorem drop_more {W U : List Nat} {k : Nat} (h : W.drop k = U.drop k) : W.drop (k + 1) = U.drop (k + 1) := by
  have := congrArg (List.drop 1) h
  simpa [List.drop_drop] using this
set_option maxRecDepth 100000 in
set_option maxHeartbeats 4000000 in
theorem ret_less (U V : List Nat) (off q : Nat) (hU : Wd U) (hV : Wd V) (hq : q < 18446744073709551616) (hoff : off + (V.length + 1) ≤ U.length) (hl : U.length ≤ 1099511627776) (hfit : q * val V ≤ val ((U.drop off).take (V.length + 1)) + val V) :
    RetM Tryd.prog GEs 180 [.own 0 0 off (V.length + 1) 1, ws V, u q] (us U) (us (lessR U V off q)) (.bool (decide (val ((U.drop off).take (V.length + 1)) < q * val V))) := by
  refine RetM_start Tryd.func180 (by kernel_rfl) rfl fun Q hQ hQ2 => ?_; rw [Tryd.ntmps180, sM_eq]; simp only [u, i64, Nat.reduceSub, Nat.reduceAdd, bm]
  repeat (first | ((first | refine Gs ?_ | refine Gr ?_); simp (disch := omega) only [u, i64, ax, eq_self, if_true, if_false, Nat.reduceAdd, Int.reduceToNat, Int.reduceAdd, tvs, bs]; refine aA ?_) | refine G_seq ?_ | refine G_block ?_ | refine G_condT rfl ?_ | refine G_condF rfl ?_ | refine G_skip ?_ | refine G_ret ?_ | refine G_exit ?_ | refine q_tn ?_ | refine q_tr ?_ | refine q_tx ?_ | refine q_bn ?_ | refine q_br ?_ | refine q_bx ?_ | refine q_by (by decide) ?_)
  refine AWp_loop (fun i : Nat × List Nat × Nat × Nat => mk 99 [(0, .own 0 0 off (V.length + 1) 1), (1, ws V), (2, u q), (7, u i.2.2.1), (8, u i.2.2.2), (17, ws V), (18, i64 V.length), (19, i64 i.1)] [⟨0, true, us i.2.1⟩])
    (fun i => i.1 ≤ V.length ∧ i.2.1.length = U.length ∧ Wd i.2.1 ∧ i.2.2.1 < 18446744073709551616 ∧ i.2.2.2 ≤ 1 ∧ i.2.1.take off = U.take off ∧ i.2.1.drop (off + i.1) = U.drop (off + i.1) ∧ val ((i.2.1.drop off).take i.1) + q * val (V.take i.1) = val ((U.drop off).take i.1) + (i.2.2.1 + i.2.2.2) * 18446744073709551616 ^ i.1)
    (fun i => V.length - i.1) (0, U, 0, 0) ?_ ⟨Nat.zero_le _, rfl, hU, by simp, by simp, rfl, rfl, by simp [val]⟩ ?_
  · simp only [u, i64, Nat.reduceSub, Nat.reduceAdd, bm]
  rintro ⟨n, W, c, b⟩ ⟨h1, h2, h3, h4, h5, h6, h7, h8⟩
  simp only at h1 h2 h3 h4 h5 h6 h7 h8
  simp only [u, i64, Nat.reduceSub, Nat.reduceAdd, bm]
  have hx := h3.getD (off + n)
  have e1 := val_take_getD (U.drop off) n
  rw [getd, ← getd_of h7] at e1
  by_cases hn : n < V.length
  · have hw := hV.getD n
    obtain ⟨k1, k2, k3⟩ := less_word hq hw h4 h5 hx
    have e2 := val_take_getD V n
    have hs := val_set_take (W.drop off) n ((W.getD (off + n) 0 + 18446744073709551616 - (q * V.getD n 0 % 18446744073709551616 + c) % 18446744073709551616 - b) % 18446744073709551616) (by rw [List.length_drop]; omega)
    rw [← setd] at hs
    have e3 := less_step h8 k3
    rw [← hs, ← e1, ← e2, ← Nat.pow_succ] at e3
    have hlow : (q * V.getD n 0 % 18446744073709551616 + c) % 18446744073709551616 < 18446744073709551616 := Nat.mod_lt _ (by decide)
    repeat (first | ((first | refine Gs ?_ | refine Gr ?_); simp (disch := omega) only [u, i64, ax, eq_self, if_true, if_false, Nat.reduceAdd, Int.reduceToNat, Int.reduceAdd, tvs, bs]; refine aA ?_) | refine G_seq ?_ | refine G_block ?_ | refine G_condT rfl ?_ | refine G_condF rfl ?_ | refine G_skip ?_ | refine G_ret ?_ | refine G_exit ?_ | refine q_tn ?_ | refine q_tr ?_ | refine q_tx ?_ | refine q_bn ?_ | refine q_br ?_ | refine q_bx ?_ | refine q_by (by decide) ?_)
    ((first | refine Gs ?_ | refine Gr ?_); simp (disch := omega) only [u, i64, ax, eq_self, if_true, if_false, Nat.reduceAdd, Int.reduceToNat, Int.reduceAdd, tvs, bs])
    (refine callK_mem (ret_Mul64 q (V.getD n 0) hq hw) rfl (by (simp (disch := omega) only [if_true, forall_const, reduceCtorEq, implies_true, bz]) <;> rfl) ?_; simp (disch := omega) only [u, i64, ax, eq_self, if_true, if_false, Nat.reduceAdd, Int.reduceToNat, Int.reduceAdd, tvs, bs]; try refine aA ?_)
    repeat (first | ((first | refine Gs ?_ | refine Gr ?_); simp (disch := omega) only [u, i64, ax, eq_self, if_true, if_false, Nat.reduceAdd, Int.reduceToNat, Int.reduceAdd, tvs, bs]; refine aA ?_) | refine G_seq ?_ | refine G_block ?_ | refine G_condT rfl ?_ | refine G_condF rfl ?_ | refine G_skip ?_ | refine G_ret ?_ | refine G_exit ?_ | refine q_tn ?_ | refine q_tr ?_ | refine q_tx ?_ | refine q_bn ?_ | refine q_br ?_ | refine q_bx ?_ | refine q_by (by decide) ?_)
    ((first | refine Gs ?_ | refine Gr ?_); simp (disch := omega) only [u, i64, ax, eq_self, if_true, if_false, Nat.reduceAdd, Int.reduceToNat, Int.reduceAdd, tvs, bs])
    (refine callK_ext (retx_Add64 (q * V.getD n 0 % 18446744073709551616) c 0 (by decide)) rfl (by (simp (disch := omega) only [if_true, forall_const, reduceCtorEq, implies_true, bz]) <;> rfl) ?_; simp (disch := omega) only [u, i64, ax, eq_self, if_true, if_false, Nat.reduceAdd, Int.reduceToNat, Int.reduceAdd, tvs, bs]; try refine aA ?_)
    repeat (first | ((first | refine Gs ?_ | refine Gr ?_); simp (disch := omega) only [u, i64, ax, eq_self, if_true, if_false, Nat.reduceAdd, Int.reduceToNat, Int.reduceAdd, tvs, bs]; refine aA ?_) | refine G_seq ?_ | refine G_block ?_ | refine G_condT rfl ?_ | refine G_condF rfl ?_ | refine G_skip ?_ | refine G_ret ?_ | refine G_exit ?_ | refine q_tn ?_ | refine q_tr ?_ | refine q_tx ?_ | refine q_bn ?_ | refine q_br ?_ | refine q_bx ?_ | refine q_by (by decide) ?_)
    ((first | refine Gs ?_ | refine Gr ?_); simp (disch := omega) only [u, i64, ax, eq_self, if_true, if_false, Nat.reduceAdd, Int.reduceToNat, Int.reduceAdd, tvs, bs])
    (refine callK_ext (retx_Sub64 (W.getD (off + n) 0) ((q * V.getD n 0 % 18446744073709551616 + c) % 18446744073709551616) b h5) rfl (by (simp (disch := omega) only [if_true, forall_const, reduceCtorEq, implies_true, bz]) <;> rfl) ?_; simp (disch := omega) only [u, i64, ax, eq_self, if_true, if_false, Nat.reduceAdd, Int.reduceToNat, Int.reduceAdd, tvs, bs]; try refine aA ?_)
    repeat (first | ((first | refine Gs ?_ | refine Gr ?_); simp (disch := omega) only [u, i64, ax, eq_self, if_true, if_false, Nat.reduceAdd, Int.reduceToNat, Int.reduceAdd, tvs, bs]; refine aA ?_) | refine G_seq ?_ | refine G_block ?_ | refine G_condT rfl ?_ | refine G_condF rfl ?_ | refine G_skip ?_ | refine G_ret ?_ | refine G_exit ?_ | refine q_tn ?_ | refine q_tr ?_ | refine q_tx ?_ | refine q_bn ?_ | refine q_br ?_ | refine q_bx ?_ | refine q_by (by decide) ?_)
    refine ⟨(n + 1, W.set (off + n) ((W.getD (off + n) 0 + 18446744073709551616 - (q * V.getD n 0 % 18446744073709551616 + c) % 18446744073709551616 - b) % 18446744073709551616), q * V.getD n 0 / 18446744073709551616 + (q * V.getD n 0 % 18446744073709551616 + c) / 18446744073709551616, if W.getD (off + n) 0 < (q * V.getD n 0 % 18446744073709551616 + c) % 18446744073709551616 + b then 1 else 0), ?_,
      ⟨hn, by simpa using h2, h3.set _ (Nat.mod_lt _ (by decide)), k1, ite_le1 _, by rw [List.take_set_of_le (by omega)]; exact h6, ?_, e3⟩, by simp only; omega⟩
    · simp only [u, i64, Nat.reduceSub, Nat.reduceAdd, bm]
    · show (W.set (off + n) _).drop (off + n + 1) = U.drop (off + n + 1)
      rw [List.drop_set_of_lt (by omega)]
      exact drop_more h7
  · have hn0 : n = V.length := by omega
    subst hn0
    rw [List.take_of_length_le (Nat.le_refl _)] at h8
    have k3 := last_word h4 h5 hx
    have hs := val_set_take (W.drop off) V.length ((W.getD (off + V.length) 0 + 18446744073709551616 - c - b) % 18446744073709551616) (by rw [List.length_drop]; omega)
    rw [← setd] at hs
    have e3 := less_step (V := val V) (w := 0) h8 (by rw [Nat.mul_zero, Nat.add_zero]; exact k3)
    rw [← hs, ← e1] at e3
    simp only [Nat.mul_zero, Nat.add_zero] at e3
    have g1 : (W.set (off + V.length) ((W.getD (off + V.length) 0 + 18446744073709551616 - c - b) % 18446744073709551616)).length = U.length := by simpa using h2
    have g2 : Wd (W.set (off + V.length) ((W.getD (off + V.length) 0 + 18446744073709551616 - c - b) % 18446744073709551616)) := h3.set _ (Nat.mod_lt _ (by decide))
    have g3 : (W.set (off + V.length) ((W.getD (off + V.length) 0 + 18446744073709551616 - c - b) % 18446744073709551616)).take off = U.take off := by rw [List.take_set_of_le (by omega)]; exact h6
    have g4 : (W.set (off + V.length) ((W.getD (off + V.length) 0 + 18446744073709551616 - c - b) % 18446744073709551616)).drop (off + (V.length + 1)) = U.drop (off + (V.length + 1)) := by
      show (W.set (off + V.length) _).drop (off + V.length + 1) = U.drop (off + V.length + 1)
      rw [List.drop_set_of_lt (by omega)]
      exact drop_more h7
    have g5 := val_lt ((g2.drop off).take (V.length + 1))
    rw [List.length_take, List.length_drop, Nat.min_eq_left (by omega), Nat.pow_succ] at g5
    by_cases hb : W.getD (off + V.length) 0 < c + b
    · rw [if_pos hb] at e3
      have hmod : (W.getD (off + V.length) 0 + 18446744073709551616 - c - b) % 18446744073709551616 = W.getD (off + V.length) 0 + 18446744073709551616 - c - b := Nat.mod_eq_of_lt (by omega)
      rw [hmod] at g1 g2 g3 g4 g5 e3
      have hlt : val ((U.drop off).take (V.length + 1)) < q * val V := by omega
      repeat (first | ((first | refine Gs ?_ | refine Gr ?_); simp (disch := omega) only [u, i64, ax, eq_self, if_true, if_false, Nat.reduceAdd, Int.reduceToNat, Int.reduceAdd, tvs, bs]; refine aA ?_) | refine G_seq ?_ | refine G_block ?_ | refine G_condT rfl ?_ | refine G_condF rfl ?_ | refine G_skip ?_ | refine G_ret ?_ | refine G_exit ?_ | refine q_tn ?_ | refine q_tr ?_ | refine q_tx ?_ | refine q_bn ?_ | refine q_br ?_ | refine q_bx ?_ | refine q_by (by decide) ?_)
      ((first | refine Gs ?_ | refine Gr ?_); simp (disch := omega) only [u, i64, ax, eq_self, if_true, if_false, Nat.reduceAdd, Int.reduceToNat, Int.reduceAdd, tvs, bs])
      (refine callK_ext (retx_Sub64 (W.getD (off + V.length) 0) c b h5) rfl (by (simp (disch := omega) only [if_true, forall_const, reduceCtorEq, implies_true, bz]) <;> rfl) ?_; simp (disch := omega) only [u, i64, ax, eq_self, if_true, if_false, Nat.reduceAdd, Int.reduceToNat, Int.reduceAdd, tvs, bs]; try refine aA ?_)
      generalize hW1 : W.set (off + V.length) (W.getD (off + V.length) 0 + 18446744073709551616 - c - b) = W1 at *
      clear hmod k3 hs h8 h7 h6 hx e1 h3 h2 hW1 hb
      repeat (first | ((first | refine Gs ?_ | refine Gr ?_); simp (disch := omega) only [u, i64, ax, eq_self, if_true, if_false, Nat.reduceAdd, Int.reduceToNat, Int.reduceAdd, tvs, bs]; refine aA ?_) | refine G_seq ?_ | refine G_block ?_ | refine G_condT rfl ?_ | refine G_condF rfl ?_ | refine G_skip ?_ | refine G_ret ?_ | refine G_exit ?_ | refine q_tn ?_ | refine q_tr ?_ | refine q_tx ?_ | refine q_bn ?_ | refine q_br ?_ | refine q_bx ?_ | refine q_by (by decide) ?_)
      refine AWp_loop (fun i : Nat × List Nat × Nat => mk 99 [(0, .own 0 0 off (V.length + 1) 1), (1, ws V), (14, u i.2.2), (70, ws V), (71, i64 V.length), (72, i64 i.1)] [⟨0, true, us i.2.1⟩])
        (fun i => i.1 ≤ V.length ∧ i.2.1.length = U.length ∧ Wd i.2.1 ∧ i.2.2 ≤ 1 ∧ i.2.1.take off = U.take off ∧ i.2.1.drop (off + i.1) = W1.drop (off + i.1) ∧ val ((i.2.1.drop off).take i.1) + i.2.2 * 18446744073709551616 ^ i.1 = val ((W1.drop off).take i.1) + val (V.take i.1))
        (fun i => V.length - i.1) (0, W1, 0) ?_ ⟨Nat.zero_le _, g1, g2, by simp, g3, rfl, by simp [val]⟩ ?_
      · simp only [u, i64, Nat.reduceSub, Nat.reduceAdd, bm]
      rintro ⟨n, W, c⟩ ⟨h1, h2, h3, h4, h6, h7, h8⟩
      simp only at h1 h2 h3 h4 h6 h7 h8
      simp only [u, i64, Nat.reduceSub, Nat.reduceAdd, bm]
      have hx := h3.getD (off + n)
      have e1 := val_take_getD (W1.drop off) n
      rw [getd, ← getd_of h7] at e1
      by_cases hn : n < V.length
      · have hw := hV.getD n
        have e2 := val_take_getD V n
        have hs := val_set_take (W.drop off) n ((W.getD (off + n) 0 + V.getD n 0 + c) % 18446744073709551616) (by rw [List.length_drop]; omega)
        rw [← setd] at hs
        have e4 := add_step _ _ _ _ c (W.getD (off + n) 0) (V.getD n 0) h8
        rw [← hs, ← e1, ← e2, ← Nat.pow_succ] at e4
        have hc1 : (W.getD (off + n) 0 + V.getD n 0 + c) / 18446744073709551616 ≤ 1 := by omega
        repeat (first | ((first | refine Gs ?_ | refine Gr ?_); simp (disch := omega) only [u, i64, ax, eq_self, if_true, if_false, Nat.reduceAdd, Int.reduceToNat, Int.reduceAdd, tvs, bs]; refine aA ?_) | refine G_seq ?_ | refine G_block ?_ | refine G_condT rfl ?_ | refine G_condF rfl ?_ | refine G_skip ?_ | refine G_ret ?_ | refine G_exit ?_ | refine q_tn ?_ | refine q_tr ?_ | refine q_tx ?_ | refine q_bn ?_ | refine q_br ?_ | refine q_bx ?_ | refine q_by (by decide) ?_)
        ((first | refine Gs ?_ | refine Gr ?_); simp (disch := omega) only [u, i64, ax, eq_self, if_true, if_false, Nat.reduceAdd, Int.reduceToNat, Int.reduceAdd, tvs, bs])
        (refine callK_ext (retx_Add64 (W.getD (off + n) 0) (V.getD n 0) c h4) rfl (by (simp (disch := omega) only [if_true, forall_const, reduceCtorEq, implies_true, bz]) <;> rfl) ?_; simp (disch := omega) only [u, i64, ax, eq_self, if_true, if_false, Nat.reduceAdd, Int.reduceToNat, Int.reduceAdd, tvs, bs]; try refine aA ?_)
        repeat (first | ((first | refine Gs ?_ | refine Gr ?_); simp (disch := omega) only [u, i64, ax, eq_self, if_true, if_false, Nat.reduceAdd, Int.reduceToNat, Int.reduceAdd, tvs, bs]; refine aA ?_) | refine G_seq ?_ | refine G_block ?_ | refine G_condT rfl ?_ | refine G_condF rfl ?_ | refine G_skip ?_ | refine G_ret ?_ | refine G_exit ?_ | refine q_tn ?_ | refine q_tr ?_ | refine q_tx ?_ | refine q_bn ?_ | refine q_br ?_ | refine q_bx ?_ | refine q_by (by decide) ?_)
        refine ⟨(n + 1, W.set (off + n) ((W.getD (off + n) 0 + V.getD n 0 + c) % 18446744073709551616), (W.getD (off + n) 0 + V.getD n 0 + c) / 18446744073709551616), ?_,
          ⟨hn, by simpa using h2, h3.set _ (Nat.mod_lt _ (by decide)), hc1, by rw [List.take_set_of_le (by omega)]; exact h6, ?_, e4⟩, by simp only; omega⟩
        · simp only [u, i64, Nat.reduceSub, Nat.reduceAdd, bm]
        · show (W.set (off + n) _).drop (off + n + 1) = W1.drop (off + n + 1)
          rw [List.drop_set_of_lt (by omega)]
          exact drop_more h7
      · have hn0 : n = V.length := by omega
        subst hn0
        rw [List.take_of_length_le (Nat.le_refl _)] at h8
        have hT := val_lt ((h3.drop off).take V.length)
        rw [List.length_take, List.length_drop, Nat.min_eq_left (by omega)] at hT
        have hs := val_set_take (W.drop off) V.length ((W.getD (off + V.length) 0 + c) % 18446744073709551616) (by rw [List.length_drop]; omega)
        rw [← setd, less_end e1.symm e3 h8 hfit hT hx h4] at hs
        have hend : W.set (off + V.length) ((W.getD (off + V.length) 0 + c) % 18446744073709551616) = lessR U V off q := by
          refine lessR_of (h3.set _ (Nat.mod_lt _ (by decide))) (by simpa using h2) hoff (by rw [List.take_set_of_le (by omega)]; exact h6) ?_ (by rw [if_pos hlt]; exact hs)
          show (W.set (off + V.length) _).drop (off + V.length + 1) = U.drop (off + V.length + 1)
          rw [List.drop_set_of_lt (by omega), drop_more h7]
          exact g4
        repeat (first | ((first | refine Gs ?_ | refine Gr ?_); simp (disch := omega) only [u, i64, ax, eq_self, if_true, if_false, Nat.reduceAdd, Int.reduceToNat, Int.reduceAdd, tvs, bs]; refine aA ?_) | refine G_seq ?_ | refine G_block ?_ | refine G_condT rfl ?_ | refine G_condF rfl ?_ | refine G_skip ?_ | refine G_ret ?_ | refine G_exit ?_ | refine q_tn ?_ | refine q_tr ?_ | refine q_tx ?_ | refine q_bn ?_ | refine q_br ?_ | refine q_bx ?_ | refine q_by (by decide) ?_)
        rw [hend]
        refine FinQM hQ (congrArg Array.toList Tryd.results180) _ _ rfl (us_noMem _) ?_; simp (disch := omega) only [u, i64, ax, if_true, forall_const, reduceCtorEq, implies_true, tvs, bf, decT hlt]
    · rw [if_neg hb, Nat.zero_mul, Nat.add_zero] at e3
      have hge : ¬ val ((U.drop off).take (V.length + 1)) < q * val V := by omega
      have hend : W.set (off + V.length) ((W.getD (off + V.length) 0 + 18446744073709551616 - c - b) % 18446744073709551616) = lessR U V off q :=
        lessR_of g2 g1 hoff g3 g4 (by rw [if_neg hge]; omega)
      repeat (first | ((first | refine Gs ?_ | refine Gr ?_); simp (disch := omega) only [u, i64, ax, eq_self, if_true, if_false, Nat.reduceAdd, Int.reduceToNat, Int.reduceAdd, tvs, bs]; refine aA ?_) | refine G_seq ?_ | refine G_block ?_ | refine G_condT rfl ?_ | refine G_condF rfl ?_ | refine G_skip ?_ | refine G_ret ?_ | refine G_exit ?_ | refine q_tn ?_ | refine q_tr ?_ | refine q_tx ?_ | refine q_bn ?_ | refine q_br ?_ | refine q_bx ?_ | refine q_by (by decide) ?_)
      ((first | refine Gs ?_ | refine Gr ?_); simp (disch := omega) only [u, i64, ax, eq_self, if_true, if_false, Nat.reduceAdd, Int.reduceToNat, Int.reduceAdd, tvs, bs])
      (refine callK_ext (retx_Sub64 (W.getD (off + V.length) 0) c b h5) rfl (by (simp (disch := omega) only [if_true, forall_const, reduceCtorEq, implies_true, bz]) <;> rfl) ?_; simp (disch := omega) only [u, i64, ax, eq_self, if_true, if_false, Nat.reduceAdd, Int.reduceToNat, Int.reduceAdd, tvs, bs]; try refine aA ?_)
      repeat (first | ((first | refine Gs ?_ | refine Gr ?_); simp (disch := omega) only [u, i64, ax, eq_self, if_true, if_false, Nat.reduceAdd, Int.reduceToNat, Int.reduceAdd, tvs, bs]; refine aA ?_) | refine G_seq ?_ | refine G_block ?_ | refine G_condT rfl ?_ | refine G_condF rfl ?_ | refine G_skip ?_ | refine G_ret ?_ | refine G_exit ?_ | refine q_tn ?_ | refine q_tr ?_ | refine q_tx ?_ | refine q_bn ?_ | refine q_br ?_ | refine q_bx ?_ | refine q_by (by decide) ?_)
      rw [hend]
      refine FinQM hQ (congrArg Array.toList Tryd.results180) _ _ rfl (us_noMem _) ?_; simp (disch := omega) only [u, i64, ax, if_true, forall_const, reduceCtorEq, implies_true, tvs, bf, decF hge]
end Go.Proofs
set_option linter.unusedVariables false
set_option linter.unusedSimpArgs false
namespace Go.Proofs
open Go.Ax
set_option maxRecDepth 100000 in
theorem retF_Trim (xs : List Nat) (hne : val xs ≠ 0) (hw : Wd xs) (hl : xs.length ≤ 1099511627776) : RetF Tryd.prog GEs 149 [ws xs] (us (words (val xs))) := by
  refine RetF_start Tryd.func149 (by kernel_rfl) rfl fun Q hQ hQ2 => ?_; rw [Tryd.ntmps149]; simp only [u, i64, Nat.reduceSub, Nat.reduceAdd, bm]
  repeat (first | ((first | refine Gs ?_ | refine Gr ?_); simp (disch := omega) only [u, i64, ax, eq_self, if_true, if_false, Nat.reduceAdd, Int.reduceToNat, Int.reduceAdd, tvs, bs]; refine aA ?_) | refine G_seq ?_ | refine G_block ?_ | refine G_condT rfl ?_ | refine G_condF rfl ?_ | refine G_skip ?_ | refine G_ret ?_ | refine G_exit ?_ | refine q_tn ?_ | refine q_tr ?_ | refine q_tx ?_ | refine q_bn ?_ | refine q_br ?_ | refine q_bx ?_ | refine q_by (by decide) ?_)
  ((first | refine Gs ?_ | refine Gr ?_); simp (disch := omega) only [u, i64, ax, eq_self, if_true, if_false, Nat.reduceAdd, Int.reduceToNat, Int.reduceAdd, tvs, bs])
  (refine cR (ret_view xs hw hl) ?_; simp (disch := omega) only [u, i64, ax, eq_self, if_true, if_false, Nat.reduceAdd, Int.reduceToNat, Int.reduceAdd, tvs, bs]; try refine aA ?_)
  have hlen := length_words_val_le hw
  have hpos : 0 < (words (val xs)).length := List.length_pos_iff.2 fun h => hne (words_eq_nil.1 h)
  repeat (first | ((first | refine Gs ?_ | refine Gr ?_); simp (disch := omega) only [u, i64, ax, eq_self, if_true, if_false, Nat.reduceAdd, Int.reduceToNat, Int.reduceAdd, tvs, bs]; refine aA ?_) | refine G_seq ?_ | refine G_block ?_ | refine G_condT rfl ?_ | refine G_condF rfl ?_ | refine G_skip ?_ | refine G_ret ?_ | refine G_exit ?_ | refine q_tn ?_ | refine q_tr ?_ | refine q_tx ?_ | refine q_bn ?_ | refine q_br ?_ | refine q_bx ?_ | refine q_by (by decide) ?_)
  refine FinQF hQ (congrArg Array.toList Tryd.results149) _ _ _ _ _ _ _ rfl rfl (by simp [us_length]) (by rw [List.take_of_length_le (by simp [us_length])]) (us_noMem _)
set_option maxRecDepth 100000 in
theorem retF_Shl (xs : List Nat) (s : Nat) (hne : val xs ≠ 0) (hx : Wd xs) (hl : xs.length ≤ 549755813888) (hs : s ≤ 549755813888) : RetF Tryd.prog GEs 92 [ws xs, i64 s] (us (words (val xs * 2 ^ s))) := by
  refine RetF_start Tryd.func92 (by kernel_rfl) rfl fun Q hQ hQ2 => ?_; rw [Tryd.ntmps92]; simp only [u, i64, Nat.reduceSub, Nat.reduceAdd, bm]
  repeat (first | ((first | refine Gs ?_ | refine Gr ?_); simp (disch := omega) only [u, i64, ax, eq_self, if_true, if_false, Nat.reduceAdd, Int.reduceToNat, Int.reduceAdd, tvs, bs]; refine aA ?_) | refine G_seq ?_ | refine G_block ?_ | refine G_condT rfl ?_ | refine G_condF rfl ?_ | refine G_skip ?_ | refine G_ret ?_ | refine G_exit ?_ | refine q_tn ?_ | refine q_tr ?_ | refine q_tx ?_ | refine q_bn ?_ | refine q_br ?_ | refine q_bx ?_ | refine q_by (by decide) ?_)
  ((first | refine Gs ?_ | refine Gr ?_); simp (disch := omega) only [u, i64, ax, eq_self, if_true, if_false, Nat.reduceAdd, Int.reduceToNat, Int.reduceAdd, tvs, bs])
  (refine cR (ret_view xs hx (by omega)) ?_; simp (disch := omega) only [u, i64, ax, eq_self, if_true, if_false, Nat.reduceAdd, Int.reduceToNat, Int.reduceAdd, tvs, bs]; try refine aA ?_)
  have hX := length_words_val_le hx
  have hW := Wd_words (val xs)
  have hv := val_words (val xs)
  simp only [nat]
  generalize words (val xs) = X at *
  by_cases h0 : X.length = 0
  · have : X = [] := List.eq_nil_of_length_eq_zero h0
    subst this
    exact absurd hv.symm hne
  have hr : s % 64 < 64 := Nat.mod_lt _ (by decide)
  have hsq : s = 64 * (s / 64) + s % 64 := (Nat.div_add_mod s 64).symm
  repeat (first | ((first | refine Gs ?_ | refine Gr ?_); simp (disch := omega) only [u, i64, ax, eq_self, if_true, if_false, Nat.reduceAdd, Int.reduceToNat, Int.reduceAdd, tvs, bs]; refine aA ?_) | refine G_seq ?_ | refine G_block ?_ | refine G_condT rfl ?_ | refine G_condF rfl ?_ | refine G_skip ?_ | refine G_ret ?_ | refine G_exit ?_ | refine q_tn ?_ | refine q_tr ?_ | refine q_tx ?_ | refine q_bn ?_ | refine q_br ?_ | refine q_bx ?_ | refine q_by (by decide) ?_)
  refine AWp_loop (fun i : Nat × List Nat => mk 58 [(0, ws X), (1, i64 s), (5, .own 0 0 0 (X.length + s / 64 + 1) 1), (20, ws X), (21, i64 X.length), (22, i64 i.1)] [⟨0, true, us i.2⟩])
      (fun i => i.1 ≤ X.length ∧ i.2.length = X.length + s / 64 + 1 ∧ Wd i.2 ∧ i.2.getD (i.1 + s / 64) 0 < 2 ^ (s % 64) ∧ (∀ k, i.1 + s / 64 < k → i.2.getD k 0 = 0) ∧ val (i.2.take (i.1 + s / 64)) + 18446744073709551616 ^ (i.1 + s / 64) * i.2.getD (i.1 + s / 64) 0 = val (X.take i.1) * 2 ^ s) (fun i => X.length - i.1) (0, List.replicate (X.length + s / 64 + 1) 0) ?_
      ⟨Nat.zero_le _, by simp, Wd_replicate _ (by decide), by rw [getD_rep]; exact Nat.two_pow_pos _, fun k _ => getD_rep _ _, by simp only [getD_rep]; simp [val, val_replicate_zero]⟩ ?_
  · simp only [u, i64, Nat.reduceSub, Nat.reduceAdd, bm]
  rintro ⟨n, os⟩ ⟨h1, h2, h3, h4, h5, h6⟩
  simp only at h1 h2 h3 h4 h5 h6
  simp only [u, i64, Nat.reduceSub, Nat.reduceAdd, bm]
  by_cases hn : n < X.length
  · have hw := hW.getD n
    have ho := h3.getD (n + s / 64)
    have e1 := val_take_getD X n
    have hlow : X.getD n 0 * 2 ^ (s % 64) % 18446744073709551616 < 18446744073709551616 := Nat.mod_lt _ (by decide)
    have hor := or_add _ _ _ hr h4 hw
    have horb : os.getD (n + s / 64) 0 ||| (X.getD n 0 * 2 ^ (s % 64) % 18446744073709551616) < 18446744073709551616 := Nat.or_lt_two_pow (n := 64) ho hlow
    have hhi := div_lt_two (X.getD n 0) (s % 64) hw
    have hmd : X.getD n 0 * 2 ^ (s % 64) % 18446744073709551616 + X.getD n 0 * 2 ^ (s % 64) / 18446744073709551616 * 18446744073709551616 = X.getD n 0 * 2 ^ (s % 64) := by omega
    have h6' := h6
    rw [Nat.pow_add] at h6'
    have hfin := shl_step h6' hmd
    have hs2 : 2 ^ s = 18446744073709551616 ^ (s / 64) * 2 ^ (s % 64) := by rw [Bpow, ← Nat.pow_add, ← hsq]
    have hB : 2 ^ (s % 64) ≤ 2 ^ 64 := Nat.pow_le_pow_right (by decide) (by omega)
    by_cases hr0 : 0 < s % 64
    · have hsd := shr_div (X.getD n 0) _ hr hr0
      repeat (first | ((first | refine Gs ?_ | refine Gr ?_); simp (disch := omega) only [u, i64, ax, eq_self, if_true, if_false, Nat.reduceAdd, Int.reduceToNat, Int.reduceAdd, tvs, bs]; refine aA ?_) | refine G_seq ?_ | refine G_block ?_ | refine G_condT rfl ?_ | refine G_condF rfl ?_ | refine G_skip ?_ | refine G_ret ?_ | refine G_exit ?_ | refine q_tn ?_ | refine q_tr ?_ | refine q_tx ?_ | refine q_bn ?_ | refine q_br ?_ | refine q_bx ?_ | refine q_by (by decide) ?_)
      refine ⟨(n + 1, (os.set (n + s / 64) (os.getD (n + s / 64) 0 ||| (X.getD n 0 * 2 ^ (s % 64) % 18446744073709551616))).set (n + s / 64 + 1) (X.getD n 0 / 2 ^ (64 - s % 64))), ?_, ⟨hn, by simpa using h2, (h3.set _ horb).set _ (by rw [hsd]; exact Nat.lt_of_lt_of_le hhi hB), ?_, ?_, ?_⟩, by simp only; omega⟩
      · simp only [u, i64, Nat.reduceSub, Nat.reduceAdd, bm]
      · simp only
        rw [show n + 1 + s / 64 = n + s / 64 + 1 by omega, getD_set_self _ _ _ (by simp; omega), hsd]
        exact hhi
      · intro k hk
        simp only at hk ⊢
        rw [getD_set_ne _ _ _ _ (by omega), getD_set_ne _ _ _ _ (by omega)]
        exact h5 k (by omega)
      · simp only
        rw [show n + 1 + s / 64 = n + s / 64 + 1 by omega, getD_set_self _ _ _ (by simp; omega), List.take_set_of_le (by omega), val_set_take _ _ _ (by omega), hsd, hor, e1, Nat.add_mul, hs2, ← hs2, Nat.pow_succ, Nat.pow_add]
        rw [hfin, hs2, Nat.mul_assoc (18446744073709551616 ^ n)]
    · have hr1 : s % 64 = 0 := by omega
      repeat (first | ((first | refine Gs ?_ | refine Gr ?_); simp (disch := omega) only [u, i64, ax, eq_self, if_true, if_false, Nat.reduceAdd, Int.reduceToNat, Int.reduceAdd, tvs, bs]; refine aA ?_) | refine G_seq ?_ | refine G_block ?_ | refine G_condT rfl ?_ | refine G_condF rfl ?_ | refine G_skip ?_ | refine G_ret ?_ | refine G_exit ?_ | refine q_tn ?_ | refine q_tr ?_ | refine q_tx ?_ | refine q_bn ?_ | refine q_br ?_ | refine q_bx ?_ | refine q_by (by decide) ?_)
      refine ⟨(n + 1, os.set (n + s / 64) (os.getD (n + s / 64) 0 ||| (X.getD n 0 * 2 ^ (s % 64) % 18446744073709551616))), ?_, ⟨hn, by simpa using h2, h3.set _ horb, ?_, ?_, ?_⟩, by simp only; omega⟩
      · simp only [u, i64, Nat.reduceSub, Nat.reduceAdd, bm]
      · simp only
        rw [getD_set_ne _ _ _ _ (by omega), h5 (n + 1 + s / 64) (by omega)]
        exact Nat.two_pow_pos _
      · intro k hk
        simp only at hk ⊢
        rw [getD_set_ne _ _ _ _ (by omega)]
        exact h5 k (by omega)
      · have hh0 : X.getD n 0 * 2 ^ (s % 64) / 18446744073709551616 = 0 := by rw [hr1, Nat.pow_zero, Nat.mul_one]; exact Nat.div_eq_of_lt hw
        rw [hh0, Nat.mul_zero, Nat.add_zero] at hfin
        simp only
        rw [getD_set_ne _ _ _ _ (by omega), h5 (n + 1 + s / 64) (by omega), Nat.mul_zero, Nat.add_zero, show n + 1 + s / 64 = n + s / 64 + 1 by omega, val_set_take _ _ _ (by omega), hor, e1, Nat.add_mul, Nat.pow_add]
        rw [hfin, hs2, Nat.mul_assoc (18446744073709551616 ^ n)]
  · have hn0 : n = X.length := by omega
    subst hn0
    have hall : val os = val xs * 2 ^ s := by
      have e := val_take_getD os (X.length + s / 64)
      rw [List.take_of_length_le (by omega), h6, List.take_length, hv] at e
      exact e
    have hne2 : val xs * 2 ^ s ≠ 0 := Nat.mul_ne_zero hne (Nat.ne_of_gt (Nat.two_pow_pos s))
    have hF := retF_Trim os (by rw [hall]; exact hne2) h3 (by omega)
    rw [hall] at hF
    repeat (first | ((first | refine Gs ?_ | refine Gr ?_); simp (disch := omega) only [u, i64, ax, eq_self, if_true, if_false, Nat.reduceAdd, Int.reduceToNat, Int.reduceAdd, tvs, bs]; refine aA ?_) | refine G_seq ?_ | refine G_block ?_ | refine G_condT rfl ?_ | refine G_condF rfl ?_ | refine G_skip ?_ | refine G_ret ?_ | refine G_exit ?_ | refine q_tn ?_ | refine q_tr ?_ | refine q_tx ?_ | refine q_bn ?_ | refine q_br ?_ | refine q_bx ?_ | refine q_by (by decide) ?_)
    ((first | refine G_sregL 1 mixed (by first | rfl | kernel_rfl) rfl rfl ?_ | refine G_regL 1 mixed (by first | rfl | kernel_rfl) rfl rfl ?_); simp (disch := omega) only [u, i64, ax, eq_self, if_true, if_false, Nat.reduceAdd, Int.reduceToNat, Int.reduceAdd, tvs, bs, tk_0, tk_S]; refine aft_any ?_)
    (refine LStep_fresh rfl (by rfl) (by simp (disch := omega) only [u, i64, ax, eq_self, if_true, if_false, Nat.reduceAdd, Int.reduceToNat, Int.reduceAdd, tvs, bs]; (simp (disch := omega) only [if_true, forall_const, reduceCtorEq, implies_true, bz]) <;> rfl) (us_noMem _) hF ?_; simp (disch := omega) only [u, i64, ax, eq_self, if_true, if_false, Nat.reduceAdd, Int.reduceToNat, Int.reduceAdd, tvs, bs, mp_0, mp_S, ap_0, ap_S, tk_0, tk_S, us_length]; try refine aA ?_)
    repeat (first | ((first | refine Gs ?_ | refine Gr ?_); simp (disch := omega) only [u, i64, ax, eq_self, if_true, if_false, Nat.reduceAdd, Int.reduceToNat, Int.reduceAdd, tvs, bs]; refine aA ?_) | refine G_seq ?_ | refine G_block ?_ | refine G_condT rfl ?_ | refine G_condF rfl ?_ | refine G_skip ?_ | refine G_ret ?_ | refine G_exit ?_ | refine q_tn ?_ | refine q_tr ?_ | refine q_tx ?_ | refine q_bn ?_ | refine q_br ?_ | refine q_bx ?_ | refine q_by (by decide) ?_)
    refine FinQF hQ (congrArg Array.toList Tryd.results92) _ _ _ _ _ _ _ rfl rfl (by simp [us_length]) (by rw [List.take_of_length_le (by simp [us_length])]) (us_noMem _)
end Go.Proofs
set_option linter.unusedVariables false
set_option linter.unusedSimpArgs false
namespace Go.Proofs
open Go.Ax
theorem take_zero_rest {xs : List Nat} {n : Nat} (hx : Wd xs) (h : val xs < 18446744073709551616 ^ n) : val (xs.take n) = val xs := by
  rcases Nat.lt_or_ge n xs.length with hn | hn
  · have e := val_split xs n (by omega)
    rcases Nat.eq_zero_or_pos (val (xs.drop n)) with h0 | h0
    · rw [h0, Nat.mul_zero, Nat.add_zero] at e; exact e.symm
    · have := Nat.mul_le_mul_left (18446744073709551616 ^ n) (show 1 ≤ val (xs.drop n) from h0)
      omega
  · rw [List.take_of_length_le hn]
/-- What the step of the division does to the row. -/
theorem lessR_facts {U V : List Nat} {j q : Nat} (hU : Wd U) (hV : Wd V) (hlen : j + (V.length + 1) ≤ U.length) (hV0 : 0 < val V) (hlt : val (U.drop (j + 1)) < val V)
    (h1 : val (U.drop j) / val V ≤ q) (h2 : q ≤ val (U.drop j) / val V + 1) :
    val ((U.drop j).take (V.length + 1)) = val (U.drop j) ∧ q * val V ≤ val (U.drop j) + val V ∧
    (if val (U.drop j) < q * val V then q - 1 else q) = val (U.drop j) / val V ∧
    (lessR U V j q).length = U.length ∧ Wd (lessR U V j q) ∧ val ((lessR U V j q).drop j) = val (U.drop j) % val V ∧
    val (lessR U V j q) + val V * (18446744073709551616 ^ j * (val (U.drop j) / val V)) = val U := by
  have hd := val_drop U j (by omega)
  have hx := hU.getD j
  have hVl := val_lt hV
  have hsm : val (U.drop j) < 18446744073709551616 ^ (V.length + 1) := by
    rw [hd, Nat.pow_succ]; omega
  have et := take_zero_rest (hU.drop j) hsm
  have hdm := Nat.div_add_mod (val (U.drop j)) (val V)
  have hmd := Nat.mod_lt (val (U.drop j)) hV0
  have hq1 := Nat.mul_le_mul_right (val V) h2
  rw [Nat.add_mul, Nat.mul_comm (val (U.drop j) / val V)] at hq1
  have hfit : q * val V ≤ val (U.drop j) + val V := by omega
  have hcase : (val (U.drop j) < q * val V ∧ q = val (U.drop j) / val V + 1) ∨ (¬ val (U.drop j) < q * val V ∧ q = val (U.drop j) / val V) := by
    rcases Nat.lt_or_ge (val (U.drop j)) (q * val V) with h | h
    · refine .inl ⟨h, ?_⟩
      rcases Nat.lt_or_ge (val (U.drop j) / val V) q with h3 | h3
      · omega
      · have e : q = val (U.drop j) / val V := by omega
        rw [e, Nat.mul_comm] at h
        omega
    · exact .inr ⟨by omega, Nat.le_antisymm ((Nat.le_div_iff_mul_le hV0).2 h) h1⟩
  have hval : (if val (U.drop j) < q * val V then val (U.drop j) + val V - q * val V else val (U.drop j) - q * val V) = val (U.drop j) % val V := by
    rcases hcase with ⟨ha, hb⟩ | ⟨ha, hb⟩
    · rw [if_pos ha, hb, Nat.add_mul, Nat.mul_comm (val (U.drop j) / val V)]; omega
    · rw [if_neg ha, hb, Nat.mul_comm (val (U.drop j) / val V)]; omega
  have hlr : lessR U V j q = U.take j ++ (wf (V.length + 1) (val (U.drop j) % val V) ++ U.drop (j + (V.length + 1))) := by
    unfold lessR; rw [et, hval]
  have hWd : Wd (lessR U V j q) := by rw [hlr]; exact (hU.take j).append ((wf_Wd _ _).append (hU.drop _))
  have hrest : val (U.drop (j + (V.length + 1))) = 0 := by
    have e := val_split (U.drop j) (V.length + 1) (by rw [List.length_drop]; omega)
    rw [List.drop_drop, et] at e
    rcases Nat.eq_zero_or_pos (val (U.drop (j + (V.length + 1)))) with h0 | h0
    · exact h0
    · have := Nat.mul_le_mul_left (18446744073709551616 ^ (V.length + 1)) (show 1 ≤ val (U.drop (j + (V.length + 1))) from h0)
      omega
  have hlt : (U.take j).length = j := by rw [List.length_take]; omega
  have hdr : (lessR U V j q).drop j = wf (V.length + 1) (val (U.drop j) % val V) ++ U.drop (j + (V.length + 1)) := by
    rw [hlr, List.drop_append_of_le_length (by omega), List.drop_of_length_le (by omega), List.nil_append]
  have hvd : val ((lessR U V j q).drop j) = val (U.drop j) % val V := by
    rw [hdr, val_append, hrest, Nat.mul_zero, Nat.add_zero, val_wf _ _ (by rw [Nat.pow_succ]; omega)]
  have hll : (lessR U V j q).length = U.length := by
    rw [hlr, List.length_append, List.length_append, wf_length, hlt, List.length_drop]; omega
  refine ⟨et, hfit, ?_, hll, hWd, hvd, ?_⟩
  · rcases hcase with ⟨ha, hb⟩ | ⟨ha, hb⟩
    · rw [if_pos ha, hb, Nat.add_sub_cancel]
    · rw [if_neg ha, hb]
  · have e1 := val_split (lessR U V j q) j (by omega)
    have e2 := val_split U j (by omega)
    have e3 : (lessR U V j q).take j = U.take j := by
      rw [hlr, List.take_append_of_le_length (by omega), List.take_of_length_le (by omega)]
    rw [e3, hvd] at e1
    rw [e1, e2]
    conv => rhs; rw [← hdm]
    rw [Nat.mul_add, Nat.mul_left_comm (val V)]
    omega
theorem v2_eq (P l a b : Nat) : l + P * b + P * 18446744073709551616 * a = (a * 18446744073709551616 + b) * P + l := by
  rw [Nat.add_mul, Nat.mul_assoc P 18446744073709551616 a, Nat.mul_comm P (18446744073709551616 * a), Nat.mul_comm 18446744073709551616 a, Nat.mul_comm P b]; omega
theorem u3_eq (P l a b c : Nat) : l + P * c + P * 18446744073709551616 * b + P * 18446744073709551616 * 18446744073709551616 * a = ((a * 18446744073709551616 + b) * 18446744073709551616 + c) * P + l := by
  rw [Nat.add_mul _ c P, Nat.mul_right_comm (a * 18446744073709551616 + b) 18446744073709551616 P, Nat.add_mul (a * 18446744073709551616) b P, Nat.mul_right_comm a 18446744073709551616 P, Nat.mul_comm P c, Nat.mul_right_comm P 18446744073709551616 b, Nat.mul_comm P b, Nat.mul_right_comm (P * 18446744073709551616) 18446744073709551616 a, Nat.mul_right_comm P 18446744073709551616 a, Nat.mul_comm P a]; omega
/-- The estimate at the head of the row. -/
theorem guess_ok {U V : List Nat} {j : Nat} (hU : Wd U) (hV : Wd V) (hlen : j + (V.length + 1) ≤ U.length) (h2 : 2 ≤ V.length) (htop : 9223372036854775808 ≤ V.getD (V.length - 1) 0) (hlt : val (U.drop (j + 1)) < val V) :
    val (U.drop j) / val V ≤ min 18446744073709551615 (((U.getD (j + V.length) 0 * 18446744073709551616 + U.getD (j + V.length - 1) 0) * 18446744073709551616 + U.getD (j + V.length - 2) 0) / (V.getD (V.length - 1) 0 * 18446744073709551616 + V.getD (V.length - 2) 0)) ∧
    min 18446744073709551615 (((U.getD (j + V.length) 0 * 18446744073709551616 + U.getD (j + V.length - 1) 0) * 18446744073709551616 + U.getD (j + V.length - 2) 0) / (V.getD (V.length - 1) 0 * 18446744073709551616 + V.getD (V.length - 2) 0)) ≤ val (U.drop j) / val V + 1 := by
  obtain ⟨m, hm⟩ : ∃ m, V.length = m + 2 := ⟨V.length - 2, by omega⟩
  have hd := val_drop U j (by omega)
  have hx := hU.getD j
  have hVl := val_lt hV
  have hsm : val (U.drop j) < 18446744073709551616 ^ (V.length + 1) := by rw [hd, Nat.pow_succ]; omega
  have et := take_zero_rest (hU.drop j) hsm
  rw [hm] at et htop ⊢
  simp only [Nat.add_sub_cancel, show j + (m + 2) - 1 = j + (m + 1) by omega, show j + (m + 2) - 2 = j + m by omega, show m + 2 - 1 = m + 1 by omega] at htop ⊢
  have eV : val V = val (V.take (m + 2)) := by rw [List.take_of_length_le (by omega)]
  rw [val_take_getD V (m + 1), val_take_getD V m] at eV
  have eU := et.symm
  rw [show m + 2 + 1 = (m + 2) + 1 from rfl, val_take_getD (U.drop j) (m + 2), val_take_getD (U.drop j) (m + 1), val_take_getD (U.drop j) m, getd, getd, getd] at eU
  have hP0 : 0 < 18446744073709551616 ^ m := Nat.pow_pos (by decide)
  have hlV := val_lt (hV.take m)
  have hlU := val_lt ((hU.drop j).take m)
  rw [List.length_take, Nat.min_eq_left (by omega)] at hlV
  rw [List.length_take, List.length_drop, Nat.min_eq_left (by omega)] at hlU
  have hB : val (U.drop j) < 18446744073709551616 * val V := by rw [hd]; omega
  simp only [Nat.pow_succ] at eV eU
  have := knuth (V := val V) (U := val (U.drop j)) (V2 := V.getD (m + 1) 0 * 18446744073709551616 + V.getD m 0) (Vl := val (V.take m)) (P := 18446744073709551616 ^ m) (U3 := (U.getD (j + (m + 2)) 0 * 18446744073709551616 + U.getD (j + (m + 1)) 0) * 18446744073709551616 + U.getD (j + m) 0) (Ul := val ((U.drop j).take m)) (B := 18446744073709551616)
    (by rw [eV]; exact v2_eq _ _ _ _) hlV (by rw [eU]; exact u3_eq _ _ _ _ _) hlU hB (by omega) (by omega)
  simpa using this
end Go.Proofs
set_option linter.unusedVariables false
set_option linter.unusedSimpArgs false
namespace Go.Proofs
open Go.Ax
theorem words_lt {X : Nat} (h : 1 ≤ (words X).length) : 18446744073709551616 ^ ((words X).length - 1) ≤ X := by
  have hne : words X ≠ [] := fun h0 => by rw [h0] at h; simp at h
  have := le_val_of_can (Canon_words X) hne
  rwa [val_words] at this
theorem words_len {X k : Nat} (h1 : 18446744073709551616 ^ k ≤ X) (h2 : X < 18446744073709551616 ^ (k + 1)) : (words X).length = k + 1 := by
  have e1 := length_le h2
  rcases Nat.lt_or_ge k (words X).length with h | h
  · omega
  · have := lt_pow_of_length h; omega
theorem row_top {z l n V : Nat} (hn : 1 ≤ n) (hz : z < 18446744073709551616 ^ l * 9223372036854775808) (hl : n ≤ l) (hV : 9223372036854775808 * 18446744073709551616 ^ (n - 1) ≤ V) : val ((words z ++ [0, 0]).drop (l + 1 - n)) < V := by
  rcases Nat.lt_or_ge (val ((words z ++ [0, 0]).drop (l + 1 - n))) V with h | h
  · exact h
  · have e0 : val (words z ++ [0, 0]) = z := by rw [val_append, val_words]; simp [val]
    rcases Nat.lt_or_ge (words z ++ [0, 0]).length (l + 1 - n) with hk | hk
    · rw [List.drop_of_length_le (by omega)] at h
      have : 0 < 18446744073709551616 ^ (n - 1) := Nat.pow_pos (by decide)
      simp [val] at h
      omega
    · have e := val_split _ _ hk
      rw [e0] at e
      have h1 := Nat.mul_le_mul_left (18446744073709551616 ^ (l + 1 - n)) (Nat.le_trans hV h)
      have h2 : 18446744073709551616 ^ (l + 1 - n) * (9223372036854775808 * 18446744073709551616 ^ (n - 1)) = 18446744073709551616 ^ l * 9223372036854775808 := by
        rw [Nat.mul_left_comm, ← Nat.pow_add, show l + 1 - n + (n - 1) = l by omega, Nat.mul_comm]
      omega
/-- The shifted divisor: as many words, and its highest bit is set. -/
theorem norm_top {Y n s : Nat} (hn : (words Y).length = n + 1) (hs : s = 64 - bl ((words Y).getD n 0)) :
    (words (Y * 2 ^ s)).length = n + 1 ∧ 9223372036854775808 ≤ (words (Y * 2 ^ s)).getD n 0 ∧ s < 64 := by
  have hY : Y ≠ 0 := fun h => by rw [h, words_zero] at hn; simp at hn
  obtain ⟨hb, htw⟩ := bl_words Y hY
  rw [hn, Nat.add_sub_cancel] at hb htw
  obtain ⟨h1, h2, h3⟩ := bl_spec hY
  have hlow := words_lt (X := Y) (by omega)
  rw [hn, Nat.add_sub_cancel, Bpow] at hlow
  have h64 := bl_le (n := (words Y).getD n 0) (k := 64) htw
  have htop : 1 ≤ bl ((words Y).getD n 0) := by
    rcases Nat.eq_zero_or_pos (bl ((words Y).getD n 0)) with h0 | h0
    · rw [h0, Nat.add_zero] at hb
      rw [hb] at h2
      omega
    · exact h0
  have e1 : 2 ^ (64 * n + 63) ≤ Y * 2 ^ s := by
    have := Nat.mul_le_mul_right (2 ^ s) h1
    rw [← Nat.pow_add, show bl Y - 1 + s = 64 * n + 63 by omega] at this
    exact this
  have e2 : Y * 2 ^ s < 2 ^ (64 * n + 64) := by
    have := (Nat.mul_lt_mul_right (Nat.two_pow_pos s)).2 h2
    rw [← Nat.pow_add, show bl Y + s = 64 * n + 64 by omega] at this
    exact this
  have hl : (words (Y * 2 ^ s)).length = n + 1 := words_len (by rw [Bpow]; exact Nat.le_trans (Nat.pow_le_pow_right (by decide) (by omega)) e1) (by rw [Bpow, show 64 * (n + 1) = 64 * n + 64 by omega]; exact e2)
  refine ⟨hl, ?_, by omega⟩
  have ev := val_words (Y * 2 ^ s)
  have et := val_take_getD (words (Y * 2 ^ s)) n
  rw [List.take_of_length_le (by omega), ev] at et
  have hlt := val_lt ((Wd_words (Y * 2 ^ s)).take n)
  rw [List.length_take, Nat.min_eq_left (by omega), Bpow] at hlt
  rw [Bpow] at et
  rcases Nat.lt_or_ge ((words (Y * 2 ^ s)).getD n 0) 9223372036854775808 with h | h
  · have h3 := Nat.mul_le_mul_left (2 ^ (64 * n)) (show (words (Y * 2 ^ s)).getD n 0 + 1 ≤ 9223372036854775808 from h)
    rw [show (9223372036854775808 : Nat) = 2 ^ 63 by decide, ← Nat.pow_add, Nat.mul_add, Nat.mul_one] at h3
    omega
  · exact h
set_option maxRecDepth 100000 in
set_option maxHeartbeats 4000000 in
theorem ret_DivMod (xs ys : List Nat) (hx : Wd xs) (hy : Wd ys) (hlx : xs.length ≤ 274877906944) (hly : ys.length ≤ 274877906944) (hne : val ys ≠ 0) : Ret Tryd.prog GEs 145 [ws xs, ws ys] (.tup [nat (val xs / val ys), nat (val xs % val ys)]) := by
  refine RetN_start Tryd.func145 (by kernel_rfl) rfl fun Q hQ hQ2 => ?_; rw [Tryd.ntmps145]; simp only [u, i64, Nat.reduceSub, Nat.reduceAdd, bm]
  repeat (first | ((first | refine Gs ?_ | refine Gr ?_); simp (disch := omega) only [u, i64, ax, eq_self, if_true, if_false, Nat.reduceAdd, Int.reduceToNat, Int.reduceAdd, tvs, bs]; refine aA ?_) | refine G_seq ?_ | refine G_block ?_ | refine G_condT rfl ?_ | refine G_condF rfl ?_ | refine G_skip ?_ | refine G_ret ?_ | refine G_exit ?_ | refine q_tn ?_ | refine q_tr ?_ | refine q_tx ?_ | refine q_bn ?_ | refine q_br ?_ | refine q_bx ?_ | refine q_by (by decide) ?_)
  ((first | refine Gs ?_ | refine Gr ?_); simp (disch := omega) only [u, i64, ax, eq_self, if_true, if_false, Nat.reduceAdd, Int.reduceToNat, Int.reduceAdd, tvs, bs])
  (refine cR (ret_view xs hx (by omega)) ?_; simp (disch := omega) only [u, i64, ax, eq_self, if_true, if_false, Nat.reduceAdd, Int.reduceToNat, Int.reduceAdd, tvs, bs]; try refine aA ?_)
  (refine cR (ret_view ys hy (by omega)) ?_; simp (disch := omega) only [u, i64, ax, eq_self, if_true, if_false, Nat.reduceAdd, Int.reduceToNat, Int.reduceAdd, tvs, bs]; try refine aA ?_)
  have hX := length_words_val_le hx
  have hY := length_words_val_le hy
  generalize val xs = x at *
  generalize val ys = y at *
  have hWx := Wd_words x
  have hWy := Wd_words y
  have hvx := val_words x
  have hvy := val_words y
  have hpos : 0 < (words y).length := List.length_pos_iff.2 fun h => hne (words_eq_nil.1 h)
  repeat (first | ((first | refine Gs ?_ | refine Gr ?_); simp (disch := omega) only [u, i64, ax, eq_self, if_true, if_false, Nat.reduceAdd, Int.reduceToNat, Int.reduceAdd, tvs, bs]; refine aA ?_) | refine G_seq ?_ | refine G_block ?_ | refine G_condT rfl ?_ | refine G_condF rfl ?_ | refine G_skip ?_ | refine G_ret ?_ | refine G_exit ?_ | refine q_tn ?_ | refine q_tr ?_ | refine q_tx ?_ | refine q_bn ?_ | refine q_br ?_ | refine q_bx ?_ | refine q_by (by decide) ?_)
  ((first | refine Gs ?_ | refine Gr ?_); simp (disch := omega) only [u, i64, ax, eq_self, if_true, if_false, Nat.reduceAdd, Int.reduceToNat, Int.reduceAdd, tvs, bs])
  (refine cR (ret_Cmp (words x) (words y) hWx hWy (by omega) (by omega)) ?_; simp (disch := omega) only [u, i64, ax, eq_self, if_true, if_false, Nat.reduceAdd, Int.reduceToNat, Int.reduceAdd, tvs, bs]; try refine aA ?_)
  rw [hvx, hvy]
  by_cases hlt : x < y
  · rw [cmpI_lt hlt]
    repeat (first | ((first | refine Gs ?_ | refine Gr ?_); simp (disch := omega) only [u, i64, ax, eq_self, if_true, if_false, Nat.reduceAdd, Int.reduceToNat, Int.reduceAdd, tvs, bs]; refine aA ?_) | refine G_seq ?_ | refine G_block ?_ | refine G_condT rfl ?_ | refine G_condF rfl ?_ | refine G_skip ?_ | refine G_ret ?_ | refine G_exit ?_ | refine q_tn ?_ | refine q_tr ?_ | refine q_tx ?_ | refine q_bn ?_ | refine q_br ?_ | refine q_bx ?_ | refine q_by (by decide) ?_)
    ((first | refine Gs ?_ | refine Gr ?_); simp (disch := omega) only [u, i64, ax, eq_self, if_true, if_false, Nat.reduceAdd, Int.reduceToNat, Int.reduceAdd, tvs, bs])
    (refine cR (ret_Trim (words x) hWx (by omega)) ?_; simp (disch := omega) only [u, i64, ax, eq_self, if_true, if_false, Nat.reduceAdd, Int.reduceToNat, Int.reduceAdd, tvs, bs]; try refine aA ?_)
    rw [hvx]
    repeat (first | ((first | refine Gs ?_ | refine Gr ?_); simp (disch := omega) only [u, i64, ax, eq_self, if_true, if_false, Nat.reduceAdd, Int.reduceToNat, Int.reduceAdd, tvs, bs]; refine aA ?_) | refine G_seq ?_ | refine G_block ?_ | refine G_condT rfl ?_ | refine G_condF rfl ?_ | refine G_skip ?_ | refine G_ret ?_ | refine G_exit ?_ | refine q_tn ?_ | refine q_tr ?_ | refine q_tx ?_ | refine q_bn ?_ | refine q_br ?_ | refine q_bx ?_ | refine q_by (by decide) ?_)
    (refine FinQ hQ (congrArg Array.toList Tryd.results145) _ _ ?_); simp (disch := omega) only [u, i64, ax, if_true, forall_const, reduceCtorEq, implies_true, tvs, bf]
    rw [Nat.div_eq_of_lt hlt, Nat.mod_eq_of_lt hlt]
    simp [nat, words_zero, us]
  have hc0 : 0 ≤ cmpI x y := by unfold cmpI; rw [if_neg hlt]; split <;> omega
  have hcn : cmpI x y = ((cmpI x y).toNat : Int) := by omega
  rw [hcn]
  by_cases h1 : (words y).length = 1
  · have hw := hWy.getD 0
    have hy0 : (words y).getD 0 0 = y := by
      have := val_take_getD (words y) 0
      rw [List.take_of_length_le (by omega), hvy] at this
      simp [val] at this
      simp
      omega
    rw [hy0] at hw
    have hr := Nat.mod_lt x (Nat.pos_of_ne_zero hne)
    repeat (first | ((first | refine Gs ?_ | refine Gr ?_); simp (disch := omega) only [u, i64, ax, eq_self, if_true, if_false, Nat.reduceAdd, Int.reduceToNat, Int.reduceAdd, tvs, bs]; refine aA ?_) | refine G_seq ?_ | refine G_block ?_ | refine G_condT rfl ?_ | refine G_condF rfl ?_ | refine G_skip ?_ | refine G_ret ?_ | refine G_exit ?_ | refine q_tn ?_ | refine q_tr ?_ | refine q_tx ?_ | refine q_bn ?_ | refine q_br ?_ | refine q_bx ?_ | refine q_by (by decide) ?_)
    ((first | refine Gs ?_ | refine Gr ?_); simp (disch := omega) only [u, i64, ax, eq_self, if_true, if_false, Nat.reduceAdd, Int.reduceToNat, Int.reduceAdd, tvs, bs])
    rw [hy0]
    (refine cR (ret_divWord (words x) y hWx hw (Nat.pos_of_ne_zero hne) (by omega)) ?_; simp (disch := omega) only [u, i64, ax, eq_self, if_true, if_false, Nat.reduceAdd, Int.reduceToNat, Int.reduceAdd, tvs, bs]; try refine aA ?_)
    rw [hvx]
    repeat (first | ((first | refine Gs ?_ | refine Gr ?_); simp (disch := omega) only [u, i64, ax, eq_self, if_true, if_false, Nat.reduceAdd, Int.reduceToNat, Int.reduceAdd, tvs, bs]; first | refine aA ?_ | (refine cR (ret_Word (x % y) (by omega)) ?_; simp (disch := omega) only [u, i64, ax, eq_self, if_true, if_false, Nat.reduceAdd, Int.reduceToNat, Int.reduceAdd, tvs, bs]; try refine aA ?_)) | (refine cR (ret_Word (x % y) (by omega)) ?_; simp (disch := omega) only [u, i64, ax, eq_self, if_true, if_false, Nat.reduceAdd, Int.reduceToNat, Int.reduceAdd, tvs, bs]; try refine aA ?_) | refine G_seq ?_ | refine G_block ?_ | refine G_condT rfl ?_ | refine G_condF rfl ?_ | refine G_skip ?_ | refine G_ret ?_ | refine G_exit ?_ | refine q_tn ?_ | refine q_tr ?_ | refine q_tx ?_ | refine q_bn ?_ | refine q_br ?_ | refine q_bx ?_ | refine q_by (by decide) ?_)
    (refine FinQ hQ (congrArg Array.toList Tryd.results145) _ _ ?_); simp (disch := omega) only [u, i64, ax, if_true, forall_const, reduceCtorEq, implies_true, tvs, bf]
  obtain ⟨n, hn⟩ : ∃ n, (words y).length = n + 2 := ⟨(words y).length - 2, by omega⟩
  obtain ⟨s, hs⟩ : ∃ s, s = 64 - bl ((words y).getD (n + 1) 0) := ⟨_, rfl⟩
  obtain ⟨hvl, htop, hs64⟩ := norm_top hn hs
  have hlen := length_mono (show y ≤ x by omega)
  have hps := Nat.two_pow_pos s
  have hx0 : x ≠ 0 := by omega
  have hV0 : 0 < y * 2 ^ s := Nat.mul_pos (Nat.pos_of_ne_zero hne) hps
  have hyt := hWy.getD (n + 1)
  -- the row: x shifted, with zeros above
  have hxl : x * 2 ^ s < 18446744073709551616 ^ ((words x).length + 1) := by
    rw [Nat.pow_succ]
    have h1 := lt_pow_of_length (Nat.le_refl (words x).length)
    have h2 : 2 ^ s ≤ 18446744073709551616 := by rw [show 18446744073709551616 = 2 ^ 64 by decide]; exact Nat.pow_le_pow_right (by decide) (by omega)
    exact Nat.lt_of_lt_of_le ((Nat.mul_lt_mul_right hps).2 h1) (Nat.mul_le_mul_left _ h2)
  have hxl2 := length_le hxl
  have hxl1 := length_mono (show x ≤ x * 2 ^ s from Nat.le_mul_of_pos_right x hps)
  have hdiv : x * 2 ^ s / (y * 2 ^ s) = x / y := Nat.mul_div_mul_right _ _ hps
  have hmod : x * 2 ^ s % (y * 2 ^ s) = x % y * 2 ^ s := Nat.mul_mod_mul_right _ _ _
  have hF := retF_Shl (words x) s (by rw [hvx]; exact hx0) hWx (by omega) (by omega)
  rw [hvx] at hF
  have hsub : (words y).length - 1 = n + 1 := by omega
  repeat (first | ((first | refine Gs ?_ | refine Gr ?_); simp (disch := omega) only [u, i64, ax, eq_self, if_true, if_false, Nat.reduceAdd, Int.reduceToNat, Int.reduceAdd, tvs, bs]; refine aA ?_) | refine G_seq ?_ | refine G_block ?_ | refine G_condT rfl ?_ | refine G_condF rfl ?_ | refine G_skip ?_ | refine G_ret ?_ | refine G_exit ?_ | refine q_tn ?_ | refine q_tr ?_ | refine q_tx ?_ | refine q_bn ?_ | refine q_br ?_ | refine q_bx ?_ | refine q_by (by decide) ?_)
  ((first | refine Gs ?_ | refine Gr ?_); simp (disch := omega) only [u, i64, ax, eq_self, if_true, if_false, Nat.reduceAdd, Int.reduceToNat, Int.reduceAdd, tvs, bs])
  rw [hsub]
  (refine callK_mem (ret_LeadingZeros64 ((words y).getD (n + 1) 0) hyt) rfl (by (simp (disch := omega) only [if_true, forall_const, reduceCtorEq, implies_true, bz]) <;> rfl) ?_; simp (disch := omega) only [u, i64, ax, eq_self, if_true, if_false, Nat.reduceAdd, Int.reduceToNat, Int.reduceAdd, tvs, bs]; try refine aA ?_)
  rw [← hs]
  repeat (first | ((first | refine Gs ?_ | refine Gr ?_); simp (disch := omega) only [u, i64, ax, eq_self, if_true, if_false, Nat.reduceAdd, Int.reduceToNat, Int.reduceAdd, tvs, bs]; refine aA ?_) | refine G_seq ?_ | refine G_block ?_ | refine G_condT rfl ?_ | refine G_condF rfl ?_ | refine G_skip ?_ | refine G_ret ?_ | refine G_exit ?_ | refine q_tn ?_ | refine q_tr ?_ | refine q_tx ?_ | refine q_bn ?_ | refine q_br ?_ | refine q_bx ?_ | refine q_by (by decide) ?_)
  ((first | refine Gs ?_ | refine Gr ?_); simp (disch := omega) only [u, i64, ax, eq_self, if_true, if_false, Nat.reduceAdd, Int.reduceToNat, Int.reduceAdd, tvs, bs])
  (refine cR (ret_Shl (words y) s hWy (by omega) (by omega)) ?_; simp (disch := omega) only [u, i64, ax, eq_self, if_true, if_false, Nat.reduceAdd, Int.reduceToNat, Int.reduceAdd, tvs, bs]; try refine aA ?_)
  rw [hvy]
  repeat (first | ((first | refine Gs ?_ | refine Gr ?_); simp (disch := omega) only [u, i64, ax, eq_self, if_true, if_false, Nat.reduceAdd, Int.reduceToNat, Int.reduceAdd, tvs, bs]; refine aA ?_) | refine G_seq ?_ | refine G_block ?_ | refine G_condT rfl ?_ | refine G_condF rfl ?_ | refine G_skip ?_ | refine G_ret ?_ | refine G_exit ?_ | refine q_tn ?_ | refine q_tr ?_ | refine q_tx ?_ | refine q_bn ?_ | refine q_br ?_ | refine q_bx ?_ | refine q_by (by decide) ?_)
  ((first | refine G_sregL 2 mixed (by first | rfl | kernel_rfl) rfl rfl ?_ | refine G_regL 2 mixed (by first | rfl | kernel_rfl) rfl rfl ?_); simp (disch := omega) only [u, i64, ax, eq_self, if_true, if_false, Nat.reduceAdd, Int.reduceToNat, Int.reduceAdd, tvs, bs, tk_0, tk_S]; refine aft_any ?_)
  (refine LStep_fresh rfl (by rfl) (by simp (disch := omega) only [u, i64, ax, eq_self, if_true, if_false, Nat.reduceAdd, Int.reduceToNat, Int.reduceAdd, tvs, bs]; (simp (disch := omega) only [if_true, forall_const, reduceCtorEq, implies_true, bz]) <;> rfl) (us_noMem _) hF ?_; simp (disch := omega) only [u, i64, ax, eq_self, if_true, if_false, Nat.reduceAdd, Int.reduceToNat, Int.reduceAdd, tvs, bs, mp_0, mp_S, ap_0, ap_S, tk_0, tk_S, us_length]; try refine aA ?_)
  repeat (first | ((first | refine Gs ?_ | refine Gr ?_); simp (disch := omega) only [u, i64, ax, eq_self, if_true, if_false, Nat.reduceAdd, Int.reduceToNat, Int.reduceAdd, tvs, bs]; refine aA ?_) | refine G_seq ?_ | refine G_block ?_ | refine G_condT rfl ?_ | refine G_condF rfl ?_ | refine G_skip ?_ | refine G_ret ?_ | refine G_exit ?_ | refine q_tn ?_ | refine q_tr ?_ | refine q_tx ?_ | refine q_bn ?_ | refine q_br ?_ | refine q_bx ?_ | refine q_by (by decide) ?_)
  have hWV := Wd_words (y * 2 ^ s)
  have hvV := val_words (y * 2 ^ s)
  have hVlow : 9223372036854775808 * 18446744073709551616 ^ (n + 1) ≤ y * 2 ^ s := by
    have et := val_take_getD (words (y * 2 ^ s)) (n + 1)
    rw [List.take_of_length_le (by omega), hvV] at et
    have := Nat.mul_le_mul_left (18446744073709551616 ^ (n + 1)) htop
    rw [Nat.mul_comm]
    omega
  have hxB : x * 2 ^ s < 18446744073709551616 ^ (words x).length * 9223372036854775808 := by
    have h1 := lt_pow_of_length (Nat.le_refl (words x).length)
    have h2 : 2 ^ s ≤ 9223372036854775808 := by rw [show 9223372036854775808 = 2 ^ 63 by decide]; exact Nat.pow_le_pow_right (by decide) (by omega)
    exact Nat.lt_of_lt_of_le ((Nat.mul_lt_mul_right hps).2 h1) (Nat.mul_le_mul_left _ h2)
  have hVlow2 : 9223372036854775808 * 18446744073709551616 ^ ((words (y * 2 ^ s)).length - 1) ≤ y * 2 ^ s := by rw [hvl]; exact hVlow
  refine AWp_loop (fun i : Nat × List Nat × List Nat => mk 127 [(8, i64 s), (9, nat (y * 2 ^ s)), (10, .own 0 1 0 ((words x).length + 1) 1), (11, i64 (words (y * 2 ^ s)).length), (12, .own 1 0 0 ((words x).length + 1 - (words (y * 2 ^ s)).length) 1), (13, i64 ((i.1 : Int) - 1))] [⟨1, true, us i.2.1⟩, ⟨0, true, us i.2.2⟩])
    (fun i => i.1 ≤ (words x).length + 1 - (words (y * 2 ^ s)).length ∧ i.2.1.length = (words (x * 2 ^ s)).length + 2 ∧ Wd i.2.1 ∧ i.2.2.length = (words x).length + 1 - (words (y * 2 ^ s)).length ∧ Wd i.2.2 ∧ val (i.2.1.drop i.1) < y * 2 ^ s ∧ val i.2.1 + y * 2 ^ s * (18446744073709551616 ^ i.1 * val (i.2.2.drop i.1)) = x * 2 ^ s)
    (fun i => i.1) ((words x).length + 1 - (words (y * 2 ^ s)).length, words (x * 2 ^ s) ++ [0, 0], List.replicate ((words x).length + 1 - (words (y * 2 ^ s)).length) 0) ?_ ⟨Nat.le_refl _, by simp, (Wd_words _).append (Wd_cons (by decide) (Wd_cons (by decide) Wd_nil)), by simp, Wd_replicate _ (by decide), ?_, ?_⟩ ?_
  · simp only [← us_append]
    simp only [u, i64, Nat.reduceSub, Nat.reduceAdd, bm]
    have hk1 : (((words x).length + 1 - (words (y * 2 ^ s)).length : Nat) : Int) - 1 = (((words x).length + 1 - (words (y * 2 ^ s)).length - 1 : Nat) : Int) := by omega
    rw [hk1]
    simp only [u, i64, Nat.reduceSub, Nat.reduceAdd, bm]
    all_goals exact ⟨trivial, trivial, rfl⟩
  · exact row_top (by omega) hxB (by omega) hVlow2
  · simp only
    rw [List.drop_of_length_le (by simp), val_append, val_words]
    simp [val]
  rintro ⟨k, U, os⟩ ⟨g1, g2, g3, g4, g5, g6, g7⟩
  simp only at g1 g2 g3 g4 g5 g6 g7
  simp only [u, i64, Nat.reduceSub, Nat.reduceAdd, bm]
  by_cases hk : 1 ≤ k
  · obtain ⟨j, rfl⟩ : ∃ j, k = j + 1 := ⟨k - 1, by omega⟩
    simp only [Int.natCast_add, Int.natCast_one, Int.add_sub_cancel]
    have hgk := guess_ok (U := U) (V := words (y * 2 ^ s)) (j := j) g3 hWV (by omega) (by omega) (by rw [hvl]; exact htop) (by rw [hvV]; exact g6)
    rw [hvV] at hgk
    have hjlen : j + ((words (y * 2 ^ s)).length + 1) ≤ U.length := by omega
    have hUlen : U.length ≤ 1099511627776 := by omega
    repeat (first | ((first | refine Gs ?_ | refine Gr ?_); simp (disch := omega) only [u, i64, ax, eq_self, if_true, if_false, Nat.reduceAdd, Int.reduceToNat, Int.reduceAdd, tvs, bs]; refine aA ?_) | refine G_seq ?_ | refine G_block ?_ | refine G_condT rfl ?_ | refine G_condF rfl ?_ | refine G_skip ?_ | refine G_ret ?_ | refine G_exit ?_ | refine q_tn ?_ | refine q_tr ?_ | refine q_tx ?_ | refine q_bn ?_ | refine q_br ?_ | refine q_bx ?_ | refine q_by (by decide) ?_)
    ((first | refine Gs ?_ | refine Gr ?_); simp (disch := omega) only [u, i64, ax, eq_self, if_true, if_false, Nat.reduceAdd, Int.reduceToNat, Int.reduceAdd, tvs, bs])
    (refine cR (ret_guess (U.getD (j + (words (y * 2 ^ s)).length) 0) (U.getD (j + (words (y * 2 ^ s)).length - 1) 0) (U.getD (j + (words (y * 2 ^ s)).length - 2) 0) ((words (y * 2 ^ s)).getD ((words (y * 2 ^ s)).length - 1) 0) ((words (y * 2 ^ s)).getD ((words (y * 2 ^ s)).length - 2) 0) (g3.getD _) (g3.getD _) (g3.getD _) (hWV.getD _) (hWV.getD _) (by rw [hvl]; exact Nat.lt_of_lt_of_le (by decide) htop)) ?_; simp (disch := omega) only [u, i64, ax, eq_self, if_true, if_false, Nat.reduceAdd, Int.reduceToNat, Int.reduceAdd, tvs, bs]; try refine aA ?_)
    have hqB := Nat.min_le_left 18446744073709551615 (((U.getD (j + (words (y * 2 ^ s)).length) 0 * 18446744073709551616 + U.getD (j + (words (y * 2 ^ s)).length - 1) 0) * 18446744073709551616 + U.getD (j + (words (y * 2 ^ s)).length - 2) 0) / ((words (y * 2 ^ s)).getD ((words (y * 2 ^ s)).length - 1) 0 * 18446744073709551616 + (words (y * 2 ^ s)).getD ((words (y * 2 ^ s)).length - 2) 0))
    obtain ⟨q, hq⟩ : ∃ q, min 18446744073709551615 (((U.getD (j + (words (y * 2 ^ s)).length) 0 * 18446744073709551616 + U.getD (j + (words (y * 2 ^ s)).length - 1) 0) * 18446744073709551616 + U.getD (j + (words (y * 2 ^ s)).length - 2) 0) / ((words (y * 2 ^ s)).getD ((words (y * 2 ^ s)).length - 1) 0 * 18446744073709551616 + (words (y * 2 ^ s)).getD ((words (y * 2 ^ s)).length - 2) 0)) = q := ⟨_, rfl⟩
    rw [hq] at hgk hqB
    rw [hq]
    have hqB2 : q < 18446744073709551616 := Nat.lt_of_le_of_lt hqB (by decide)
    have hQlt : val (U.drop j) / (y * 2 ^ s) < 18446744073709551616 := Nat.lt_of_le_of_lt hgk.1 hqB2
    have hq1B : q - 1 < 18446744073709551616 := Nat.lt_of_le_of_lt (Nat.sub_le _ _) hqB2
    have hjos : j < os.length := by omega
    obtain ⟨f1, f2, f3, f4, f5, f6, f7⟩ := lessR_facts (U := U) (V := words (y * 2 ^ s)) (j := j) (q := q) g3 hWV hjlen (by rw [hvV]; exact hV0) (by rw [hvV]; exact g6) (by rw [hvV]; exact hgk.1) (by rw [hvV]; exact hgk.2)
    have hM := ret_less U (words (y * 2 ^ s)) j q g3 hWV hqB2 hjlen hUlen (by rw [f1]; exact f2)
    rw [f1] at hM
    rw [hvV] at f2 f3 f6 f7 hM
    have hjl : j + (words (y * 2 ^ s)).length + 1 - j = (words (y * 2 ^ s)).length + 1 := by omega
    have hnext : val ((lessR U (words (y * 2 ^ s)) j q).drop j) < y * 2 ^ s := by rw [f6]; exact Nat.mod_lt _ hV0
    have hsum : val (lessR U (words (y * 2 ^ s)) j q) + y * 2 ^ s * (18446744073709551616 ^ j * val ((os.set j (val (U.drop j) / (y * 2 ^ s))).drop j)) = x * 2 ^ s := by
      rw [val_drop_set _ _ _ hjos, ← g7, ← f7, Nat.pow_succ, Nat.mul_add (18446744073709551616 ^ j), Nat.mul_add (y * 2 ^ s), Nat.mul_assoc (18446744073709551616 ^ j)]
      omega
    clear f1 f2 f6 f7 hgk hq
    repeat (first | ((first | refine Gs ?_ | refine Gr ?_); simp (disch := omega) only [u, i64, ax, eq_self, if_true, if_false, Nat.reduceAdd, Int.reduceToNat, Int.reduceAdd, tvs, bs]; refine aA ?_) | refine G_seq ?_ | refine G_block ?_ | refine G_condT rfl ?_ | refine G_condF rfl ?_ | refine G_skip ?_ | refine G_ret ?_ | refine G_exit ?_ | refine q_tn ?_ | refine q_tr ?_ | refine q_tx ?_ | refine q_bn ?_ | refine q_br ?_ | refine q_bx ?_ | refine q_by (by decide) ?_)
    first | refine G_sregL 9 mixed (by first | rfl | kernel_rfl) rfl rfl ?_ | refine G_regL 9 mixed (by first | rfl | kernel_rfl) rfl rfl ?_
    simp (disch := omega) only [u, i64, ax, eq_self, if_true, if_false, Nat.reduceAdd, Int.reduceToNat, Int.reduceAdd, tvs, bs, tk_0, tk_S, hjl]
    refine aft_any ?_
    by_cases hc : val (U.drop j) < q * (y * 2 ^ s)
    · rw [decT hc] at hM
      rw [if_pos hc] at f3
      (refine LStep_mut rfl (by rfl) (by simp (disch := omega) only [u, i64, ax, eq_self, if_true, if_false, Nat.reduceAdd, Int.reduceToNat, Int.reduceAdd, tvs, bs]; rfl) (by rfl) (by (simp (disch := omega) only [if_true, forall_const, reduceCtorEq, implies_true, bz]) <;> rfl) (us_pure _) (us_noMem _) rfl hM ?_; simp (disch := omega) only [u, i64, ax, eq_self, if_true, if_false, Nat.reduceAdd, Int.reduceToNat, Int.reduceAdd, tvs, bs, mp_0, mp_S, ap_0, ap_S, tk_0, tk_S, us_length]; try refine aA ?_)
      have hjl2 := hjl
      have hq1 : 1 ≤ q := by
        rcases Nat.eq_zero_or_pos q with h0 | h0
        · rw [h0, Nat.zero_mul] at hc; omega
        · exact h0
      repeat (first | ((first | refine Gs ?_ | refine Gr ?_); simp (disch := omega) only [u, i64, ax, eq_self, if_true, if_false, Nat.reduceAdd, Int.reduceToNat, Int.reduceAdd, tvs, bs]; refine aA ?_) | refine G_seq ?_ | refine G_block ?_ | refine G_condT rfl ?_ | refine G_condF rfl ?_ | refine G_skip ?_ | refine G_ret ?_ | refine G_exit ?_ | refine q_tn ?_ | refine q_tr ?_ | refine q_tx ?_ | refine q_bn ?_ | refine q_br ?_ | refine q_bx ?_ | refine q_by (by decide) ?_)
      refine ⟨(j, lessR U (words (y * 2 ^ s)) j q, os.set j (q - 1)), ?_, ⟨by simp only; omega, by simp only; rw [f4, g2], f5, by simp only [List.length_set]; exact g4, g5.set _ hq1B, hnext, by simp only; rw [f3]; exact hsum⟩, by simp only; omega⟩
      simp only [u, i64, Nat.reduceSub, Nat.reduceAdd, bm]
    · rw [decF hc] at hM
      rw [if_neg hc] at f3
      rw [← f3] at hsum
      (refine LStep_mut rfl (by rfl) (by simp (disch := omega) only [u, i64, ax, eq_self, if_true, if_false, Nat.reduceAdd, Int.reduceToNat, Int.reduceAdd, tvs, bs]; rfl) (by rfl) (by (simp (disch := omega) only [if_true, forall_const, reduceCtorEq, implies_true, bz]) <;> rfl) (us_pure _) (us_noMem _) rfl hM ?_; simp (disch := omega) only [u, i64, ax, eq_self, if_true, if_false, Nat.reduceAdd, Int.reduceToNat, Int.reduceAdd, tvs, bs, mp_0, mp_S, ap_0, ap_S, tk_0, tk_S, us_length]; try refine aA ?_)
      repeat (first | ((first | refine Gs ?_ | refine Gr ?_); simp (disch := omega) only [u, i64, ax, eq_self, if_true, if_false, Nat.reduceAdd, Int.reduceToNat, Int.reduceAdd, tvs, bs]; refine aA ?_) | refine G_seq ?_ | refine G_block ?_ | refine G_condT rfl ?_ | refine G_condF rfl ?_ | refine G_skip ?_ | refine G_ret ?_ | refine G_exit ?_ | refine q_tn ?_ | refine q_tr ?_ | refine q_tx ?_ | refine q_bn ?_ | refine q_br ?_ | refine q_bx ?_ | refine q_by (by decide) ?_)
      refine ⟨(j, lessR U (words (y * 2 ^ s)) j q, os.set j q), ?_, ⟨by simp only; omega, by simp only; rw [f4, g2], f5, by simp only [List.length_set]; exact g4, g5.set _ hqB2, hnext, hsum⟩, by simp only; omega⟩
      simp only [u, i64, Nat.reduceSub, Nat.reduceAdd, bm]
  · have hk0 : k = 0 := by omega
    subst hk0
    simp only [List.drop_zero, Nat.pow_zero, Nat.one_mul] at g6 g7
    have hQ1 : val os = x / y := by
      rw [← hdiv, ← g7, Nat.add_mul_div_left _ _ hV0, Nat.div_eq_of_lt g6, Nat.zero_add]
    have hR1 : val U = x % y * 2 ^ s := by
      rw [← hmod, ← g7, Nat.add_mul_mod_self_left, Nat.mod_eq_of_lt g6]
    have hUt : val (U.take ((words x).length + 1)) = x % y * 2 ^ s := by
      rw [take_zero_rest g3, hR1]
      refine Nat.lt_of_lt_of_le g6 ?_
      have := lt_pow_of_length (Nat.le_refl (words (y * 2 ^ s)).length)
      exact Nat.le_trans (Nat.le_of_lt this) (Nat.pow_le_pow_right (by decide) (by omega))
    repeat (first | ((first | refine Gs ?_ | refine Gr ?_); simp (disch := omega) only [u, i64, ax, eq_self, if_true, if_false, Nat.reduceAdd, Int.reduceToNat, Int.reduceAdd, tvs, bs]; refine aA ?_) | refine G_seq ?_ | refine G_block ?_ | refine G_condT rfl ?_ | refine G_condF rfl ?_ | refine G_skip ?_ | refine G_ret ?_ | refine G_exit ?_ | refine q_tn ?_ | refine q_tr ?_ | refine q_tx ?_ | refine q_bn ?_ | refine q_br ?_ | refine q_bx ?_ | refine q_by (by decide) ?_)
    refine G_cool0 ?_
    refine G_cool1 ?_
    ((first | refine Gs ?_ | refine Gr ?_); simp (disch := omega) only [u, i64, ax, eq_self, if_true, if_false, Nat.reduceAdd, Int.reduceToNat, Int.reduceAdd, tvs, bs])
    (refine cR (ret_Trim os g5 (by omega)) ?_; simp (disch := omega) only [u, i64, ax, eq_self, if_true, if_false, Nat.reduceAdd, Int.reduceToNat, Int.reduceAdd, tvs, bs]; try refine aA ?_)
    rw [hQ1]
    refine callK_ret (ret_Trim (U.take ((words x).length + 1)) (g3.take _) (by rw [List.length_take]; omega)) (by rw [fzs_cons, fz_own, rget0, fzO_usT _ _ _ _ (by omega), fzs_nil, fzC_some]) ?_
    rw [hUt]
    simp (disch := omega) only [u, i64, ax, eq_self, if_true, if_false, Nat.reduceAdd, Int.reduceToNat, Int.reduceAdd, tvs, bs]
    try refine aft_any ?_
    (refine cR (ret_Shr (words (x % y * 2 ^ s)) s (Wd_words _) (by have := length_mono (show x % y * 2 ^ s ≤ x * 2 ^ s from Nat.mul_le_mul_right _ (Nat.mod_le _ _)); omega) (by omega)) ?_; simp (disch := omega) only [u, i64, ax, eq_self, if_true, if_false, Nat.reduceAdd, Int.reduceToNat, Int.reduceAdd, tvs, bs]; try refine aA ?_)
    rw [val_words, Nat.mul_div_cancel _ hps]
    repeat (first | ((first | refine Gs ?_ | refine Gr ?_); simp (disch := omega) only [u, i64, ax, eq_self, if_true, if_false, Nat.reduceAdd, Int.reduceToNat, Int.reduceAdd, tvs, bs]; refine aA ?_) | refine G_seq ?_ | refine G_block ?_ | refine G_condT rfl ?_ | refine G_condF rfl ?_ | refine G_skip ?_ | refine G_ret ?_ | refine G_exit ?_ | refine q_tn ?_ | refine q_tr ?_ | refine q_tx ?_ | refine q_bn ?_ | refine q_br ?_ | refine q_bx ?_ | refine q_by (by decide) ?_)
    (refine FinQ hQ (congrArg Array.toList Tryd.results145) _ _ ?_); simp (disch := omega) only [u, i64, ax, if_true, forall_const, reduceCtorEq, implies_true, tvs, bf]
end Go.Proofs
set_option linter.unusedVariables false
set_option linter.unusedSimpArgs false
namespace Go.Proofs
open Go.Ax
set_option maxRecDepth 100000 in
theorem ret_Right (r : Int) (h1 : -9223372036854775808 ≤ r) (h2 : r < 9223372036854775808) : Ret Tryd.prog GEs 109 [i64 r] (.bool (decide (0 ≤ r ∧ r ≤ 4))) := by
  refine RetN_start Tryd.func109 (by kernel_rfl) rfl fun Q hQ hQ2 => ?_; rw [Tryd.ntmps109]; simp only [u, i64, Nat.reduceSub, Nat.reduceAdd, bm]
  by_cases ha : 0 ≤ r
  · by_cases hb : r ≤ 4
    · repeat (first | ((first | refine Gs ?_ | refine Gr ?_); simp (disch := omega) only [u, i64, ax, eq_self, if_true, if_false, Nat.reduceAdd, Int.reduceToNat, Int.reduceAdd, tvs, bs]; refine aA ?_) | refine G_seq ?_ | refine G_block ?_ | refine G_condT rfl ?_ | refine G_condF rfl ?_ | refine G_skip ?_ | refine G_ret ?_ | refine G_exit ?_ | refine q_tn ?_ | refine q_tr ?_ | refine q_tx ?_ | refine q_bn ?_ | refine q_br ?_ | refine q_bx ?_ | refine q_by (by decide) ?_)
      (refine FinQ hQ (congrArg Array.toList Tryd.results109) _ _ ?_); simp (disch := omega) only [u, i64, ax, if_true, forall_const, reduceCtorEq, implies_true, tvs, bf, decT (show 0 ≤ r ∧ r ≤ 4 from ⟨ha, hb⟩)]
    · repeat (first | ((first | refine Gs ?_ | refine Gr ?_); simp (disch := omega) only [u, i64, ax, eq_self, if_true, if_false, Nat.reduceAdd, Int.reduceToNat, Int.reduceAdd, tvs, bs]; refine aA ?_) | refine G_seq ?_ | refine G_block ?_ | refine G_condT rfl ?_ | refine G_condF rfl ?_ | refine G_skip ?_ | refine G_ret ?_ | refine G_exit ?_ | refine q_tn ?_ | refine q_tr ?_ | refine q_tx ?_ | refine q_bn ?_ | refine q_br ?_ | refine q_bx ?_ | refine q_by (by decide) ?_)
      (refine FinQ hQ (congrArg Array.toList Tryd.results109) _ _ ?_); simp (disch := omega) only [u, i64, ax, if_true, forall_const, reduceCtorEq, implies_true, tvs, bf, decF (show ¬ (0 ≤ r ∧ r ≤ 4) from fun h => hb h.2)]
  · repeat (first | ((first | refine Gs ?_ | refine Gr ?_); simp (disch := omega) only [u, i64, ax, eq_self, if_true, if_false, Nat.reduceAdd, Int.reduceToNat, Int.reduceAdd, tvs, bs]; refine aA ?_) | refine G_seq ?_ | refine G_block ?_ | refine G_condT rfl ?_ | refine G_condF rfl ?_ | refine G_skip ?_ | refine G_ret ?_ | refine G_exit ?_ | refine q_tn ?_ | refine q_tr ?_ | refine q_tx ?_ | refine q_bn ?_ | refine q_br ?_ | refine q_bx ?_ | refine q_by (by decide) ?_)
    (refine FinQ hQ (congrArg Array.toList Tryd.results109) _ _ ?_); simp (disch := omega) only [u, i64, ax, if_true, forall_const, reduceCtorEq, implies_true, tvs, bf, decF (show ¬ (0 ≤ r ∧ r ≤ 4) from fun h => ha h.1)]
theorem ret_more (r : Nat) (hr : r ≤ 4) (neg odd : Bool) (x : Nat) (hx : x ≤ 3) : Ret Tryd.prog GEs (216 + r) [.bool neg, .bool odd, i64 x] (.bool (moreF r neg odd x)) := by
  have h1 : r = 0 ∨ r = 1 ∨ r = 2 ∨ r = 3 ∨ r = 4 := by omega
  have h2 : x = 0 ∨ x = 1 ∨ x = 2 ∨ x = 3 := by omega
  rcases h1 with rfl | rfl | rfl | rfl | rfl <;> rcases h2 with rfl | rfl | rfl | rfl <;> cases neg <;> cases odd <;> exact ran (n := 20) (by kernel_rfl)
set_option maxRecDepth 100000 in
theorem ret_compare (x : Nat) (ds : List Nat) (hw : Wd ds) (hx : (words x).length ≤ 274877906944) (hd : ds.length ≤ 274877906944) : Ret Tryd.prog GEs 171 [nat x, ws ds] (i64 (restC x (val ds))) := by
  obtain ⟨d, hdd⟩ : ∃ d, val ds = d := ⟨_, rfl⟩
  rw [hdd]
  have h2x : (words (x * 2 ^ 1)).length ≤ 549755813888 := by
    have := length_mul x 2
    have h2 : (words 2).length ≤ 1 := length_le (by decide)
    simp only [Nat.pow_one]; omega
  refine RetN_start Tryd.func171 (by kernel_rfl) rfl fun Q hQ hQ2 => ?_; rw [Tryd.ntmps171]; simp only [u, i64, Nat.reduceSub, Nat.reduceAdd, bm]
  repeat (first | ((first | refine Gs ?_ | refine Gr ?_); simp (disch := omega) only [u, i64, ax, eq_self, if_true, if_false, Nat.reduceAdd, Int.reduceToNat, Int.reduceAdd, tvs, bs]; refine aA ?_) | refine G_seq ?_ | refine G_block ?_ | refine G_condT rfl ?_ | refine G_condF rfl ?_ | refine G_skip ?_ | refine G_ret ?_ | refine G_exit ?_ | refine q_tn ?_ | refine q_tr ?_ | refine q_tx ?_ | refine q_bn ?_ | refine q_br ?_ | refine q_bx ?_ | refine q_by (by decide) ?_)
  ((first | refine Gs ?_ | refine Gr ?_); simp (disch := omega) only [u, i64, ax, eq_self, if_true, if_false, Nat.reduceAdd, Int.reduceToNat, Int.reduceAdd, tvs, bs])
  (refine cR (ret_Zero (words x) (Wd_words x) (by omega)) ?_; simp (disch := omega) only [u, i64, ax, eq_self, if_true, if_false, Nat.reduceAdd, Int.reduceToNat, Int.reduceAdd, tvs, bs]; try refine aA ?_)
  rw [val_words]
  by_cases h0 : x = 0
  · rw [decT h0]
    repeat (first | ((first | refine Gs ?_ | refine Gr ?_); simp (disch := omega) only [u, i64, ax, eq_self, if_true, if_false, Nat.reduceAdd, Int.reduceToNat, Int.reduceAdd, tvs, bs]; refine aA ?_) | refine G_seq ?_ | refine G_block ?_ | refine G_condT rfl ?_ | refine G_condF rfl ?_ | refine G_skip ?_ | refine G_ret ?_ | refine G_exit ?_ | refine q_tn ?_ | refine q_tr ?_ | refine q_tx ?_ | refine q_bn ?_ | refine q_br ?_ | refine q_bx ?_ | refine q_by (by decide) ?_)
    (refine FinQ hQ (congrArg Array.toList Tryd.results171) _ _ ?_); simp (disch := omega) only [u, i64, ax, if_true, forall_const, reduceCtorEq, implies_true, tvs, bf, restC, if_pos h0]
    rfl
  · rw [decF h0]
    repeat (first | ((first | refine Gs ?_ | refine Gr ?_); simp (disch := omega) only [u, i64, ax, eq_self, if_true, if_false, Nat.reduceAdd, Int.reduceToNat, Int.reduceAdd, tvs, bs]; refine aA ?_) | refine G_seq ?_ | refine G_block ?_ | refine G_condT rfl ?_ | refine G_condF rfl ?_ | refine G_skip ?_ | refine G_ret ?_ | refine G_exit ?_ | refine q_tn ?_ | refine q_tr ?_ | refine q_tx ?_ | refine q_bn ?_ | refine q_br ?_ | refine q_bx ?_ | refine q_by (by decide) ?_)
    ((first | refine Gs ?_ | refine Gr ?_); simp (disch := omega) only [u, i64, ax, eq_self, if_true, if_false, Nat.reduceAdd, Int.reduceToNat, Int.reduceAdd, tvs, bs])
    (refine cR (ret_Shl (words x) 1 (Wd_words x) (by omega) (by decide)) ?_; simp (disch := omega) only [u, i64, ax, eq_self, if_true, if_false, Nat.reduceAdd, Int.reduceToNat, Int.reduceAdd, tvs, bs]; try refine aA ?_)
    rw [val_words]
    (refine cR (ret_Cmp (words (x * 2 ^ 1)) ds (Wd_words _) hw (by omega) (by omega)) ?_; simp (disch := omega) only [u, i64, ax, eq_self, if_true, if_false, Nat.reduceAdd, Int.reduceToNat, Int.reduceAdd, tvs, bs]; try refine aA ?_)
    rw [val_words, hdd, Nat.pow_one, Nat.mul_comm]
    have hr : restC x d = if 2 * x < d then 1 else if 2 * x = d then 2 else 3 := by unfold restC; rw [if_neg h0]
    by_cases h1 : 2 * x < d
    · rw [cmpI_lt h1]
      repeat (first | ((first | refine Gs ?_ | refine Gr ?_); simp (disch := omega) only [u, i64, ax, eq_self, if_true, if_false, Nat.reduceAdd, Int.reduceToNat, Int.reduceAdd, tvs, bs]; refine aA ?_) | refine G_seq ?_ | refine G_block ?_ | refine G_condT rfl ?_ | refine G_condF rfl ?_ | refine G_skip ?_ | refine G_ret ?_ | refine G_exit ?_ | refine q_tn ?_ | refine q_tr ?_ | refine q_tx ?_ | refine q_bn ?_ | refine q_br ?_ | refine q_bx ?_ | refine q_by (by decide) ?_)
      (refine FinQ hQ (congrArg Array.toList Tryd.results171) _ _ ?_); simp (disch := omega) only [u, i64, ax, if_true, forall_const, reduceCtorEq, implies_true, tvs, bf, hr, if_pos h1]
      rfl
    · by_cases h2 : 2 * x = d
      · rw [cmpI_eq h2]
        repeat (first | ((first | refine Gs ?_ | refine Gr ?_); simp (disch := omega) only [u, i64, ax, eq_self, if_true, if_false, Nat.reduceAdd, Int.reduceToNat, Int.reduceAdd, tvs, bs]; refine aA ?_) | refine G_seq ?_ | refine G_block ?_ | refine G_condT rfl ?_ | refine G_condF rfl ?_ | refine G_skip ?_ | refine G_ret ?_ | refine G_exit ?_ | refine q_tn ?_ | refine q_tr ?_ | refine q_tx ?_ | refine q_bn ?_ | refine q_br ?_ | refine q_bx ?_ | refine q_by (by decide) ?_)
        (refine FinQ hQ (congrArg Array.toList Tryd.results171) _ _ ?_); simp (disch := omega) only [u, i64, ax, if_true, forall_const, reduceCtorEq, implies_true, tvs, bf, hr, if_neg h1, if_pos h2]
        rfl
      · rw [cmpI_gt (by omega)]
        repeat (first | ((first | refine Gs ?_ | refine Gr ?_); simp (disch := omega) only [u, i64, ax, eq_self, if_true, if_false, Nat.reduceAdd, Int.reduceToNat, Int.reduceAdd, tvs, bs]; refine aA ?_) | refine G_seq ?_ | refine G_block ?_ | refine G_condT rfl ?_ | refine G_condF rfl ?_ | refine G_skip ?_ | refine G_ret ?_ | refine G_exit ?_ | refine q_tn ?_ | refine q_tr ?_ | refine q_tx ?_ | refine q_bn ?_ | refine q_br ?_ | refine q_bx ?_ | refine q_by (by decide) ?_)
        (refine FinQ hQ (congrArg Array.toList Tryd.results171) _ _ ?_); simp (disch := omega) only [u, i64, ax, if_true, forall_const, reduceCtorEq, implies_true, tvs, bf, hr, if_neg h1, if_neg h2]
        rfl
theorem ge0 : globA (GEs 0) = .lptr [fv 216, fv 217, fv 218, fv 219, fv 220] := rfl
set_option maxRecDepth 100000 in
set_option maxHeartbeats 1000000 in
theorem ret_up (r : Nat) (hr : r ≤ 4) (neg : Bool) (q : Nat) (hq : (words q).length ≤ 274877906944) (x : Nat) (hx : x ≤ 3) : Ret Tryd.prog GEs 170 [i64 r, .bool neg, nat q, i64 x] (nat (q + if moreF r neg (decide (q % 2 = 1)) x = true then 1 else 0)) := by
  have h1 : r = 0 ∨ r = 1 ∨ r = 2 ∨ r = 3 ∨ r = 4 := by omega
  have hm := ret_more r hr neg (decide (q % 2 = 1)) x hx
  have hB := ret_Bit (words q) 0 (Wd_words q) (by omega) (by decide)
  rw [val_words, Nat.pow_zero, Nat.div_one] at hB
  obtain ⟨m, hmd⟩ : ∃ m, moreF r neg (decide (q % 2 = 1)) x = m := ⟨_, rfl⟩
  rw [hmd] at hm ⊢
  have hA := ret_Add (words q) [1] (Wd_words q) (Wd_cons (by decide) Wd_nil) (by omega) (by simp)
  have hT := ret_Trim (words q) (Wd_words q) (by omega)
  rw [val_words] at hA hT
  rw [show val [1] = 1 by simp [val]] at hA
  rcases h1 with rfl | rfl | rfl | rfl | rfl
  all_goals
    cases m with
    | true =>
      refine RetN_start Tryd.func170 (by kernel_rfl) rfl fun Q hQ hQ2 => ?_; rw [Tryd.ntmps170]; simp only [u, i64, Nat.reduceSub, Nat.reduceAdd, bm]
      repeat (first | ((first | refine Gs ?_ | refine Gr ?_); simp (disch := omega) only [u, i64, ax, eq_self, if_true, if_false, Nat.reduceAdd, Int.reduceToNat, Int.reduceAdd, tvs, bs]; refine aA ?_) | refine G_seq ?_ | refine G_block ?_ | refine G_condT rfl ?_ | refine G_condF rfl ?_ | refine G_skip ?_ | refine G_ret ?_ | refine G_exit ?_ | refine q_tn ?_ | refine q_tr ?_ | refine q_tx ?_ | refine q_bn ?_ | refine q_br ?_ | refine q_bx ?_ | refine q_by (by decide) ?_)
      first | refine G_sreg mixed (by first | rfl | kernel_rfl) ?_ | refine G_reg mixed (by first | rfl | kernel_rfl) ?_
      simp (disch := omega) only [u, i64, ax, eq_self, if_true, if_false, Nat.reduceAdd, Int.reduceToNat, Int.reduceAdd, tvs, bs, ge0, fv, Int.reduceToNat]
      repeat (first | ((first | refine Gs ?_ | refine Gr ?_); simp (disch := omega) only [u, i64, ax, eq_self, if_true, if_false, Nat.reduceAdd, Int.reduceToNat, Int.reduceAdd, tvs, bs]; first | refine aA ?_ | ((first | refine cR hB ?_ | refine cR hm ?_ | refine cR hA ?_); simp (disch := omega) only [u, i64, ax, eq_self, if_true, if_false, Nat.reduceAdd, Int.reduceToNat, Int.reduceAdd, tvs, bs]; try refine aA ?_)) | ((first | refine cR hB ?_ | refine cR hm ?_ | refine cR hA ?_); simp (disch := omega) only [u, i64, ax, eq_self, if_true, if_false, Nat.reduceAdd, Int.reduceToNat, Int.reduceAdd, tvs, bs]; try refine aA ?_) | refine G_seq ?_ | refine G_block ?_ | refine G_condT rfl ?_ | refine G_condF rfl ?_ | refine G_skip ?_ | refine G_ret ?_ | refine G_exit ?_ | refine q_tn ?_ | refine q_tr ?_ | refine q_tx ?_ | refine q_bn ?_ | refine q_br ?_ | refine q_bx ?_ | refine q_by (by decide) ?_)
      (refine FinQ hQ (congrArg Array.toList Tryd.results170) _ _ ?_); simp (disch := omega) only [u, i64, ax, if_true, forall_const, reduceCtorEq, implies_true, tvs, bf]
    | false =>
      refine RetN_start Tryd.func170 (by kernel_rfl) rfl fun Q hQ hQ2 => ?_; rw [Tryd.ntmps170]; simp only [u, i64, Nat.reduceSub, Nat.reduceAdd, bm]
      repeat (first | ((first | refine Gs ?_ | refine Gr ?_); simp (disch := omega) only [u, i64, ax, eq_self, if_true, if_false, Nat.reduceAdd, Int.reduceToNat, Int.reduceAdd, tvs, bs]; refine aA ?_) | refine G_seq ?_ | refine G_block ?_ | refine G_condT rfl ?_ | refine G_condF rfl ?_ | refine G_skip ?_ | refine G_ret ?_ | refine G_exit ?_ | refine q_tn ?_ | refine q_tr ?_ | refine q_tx ?_ | refine q_bn ?_ | refine q_br ?_ | refine q_bx ?_ | refine q_by (by decide) ?_)
      first | refine G_sreg mixed (by first | rfl | kernel_rfl) ?_ | refine G_reg mixed (by first | rfl | kernel_rfl) ?_
      simp (disch := omega) only [u, i64, ax, eq_self, if_true, if_false, Nat.reduceAdd, Int.reduceToNat, Int.reduceAdd, tvs, bs, ge0, fv, Int.reduceToNat]
      repeat (first | ((first | refine Gs ?_ | refine Gr ?_); simp (disch := omega) only [u, i64, ax, eq_self, if_true, if_false, Nat.reduceAdd, Int.reduceToNat, Int.reduceAdd, tvs, bs]; first | refine aA ?_ | ((first | refine cR hB ?_ | refine cR hm ?_ | refine cR hT ?_); simp (disch := omega) only [u, i64, ax, eq_self, if_true, if_false, Nat.reduceAdd, Int.reduceToNat, Int.reduceAdd, tvs, bs]; try refine aA ?_)) | ((first | refine cR hB ?_ | refine cR hm ?_ | refine cR hT ?_); simp (disch := omega) only [u, i64, ax, eq_self, if_true, if_false, Nat.reduceAdd, Int.reduceToNat, Int.reduceAdd, tvs, bs]; try refine aA ?_) | refine G_seq ?_ | refine G_block ?_ | refine G_condT rfl ?_ | refine G_condF rfl ?_ | refine G_skip ?_ | refine G_ret ?_ | refine G_exit ?_ | refine q_tn ?_ | refine q_tr ?_ | refine q_tx ?_ | refine q_bn ?_ | refine q_br ?_ | refine q_bx ?_ | refine q_by (by decide) ?_)
      (refine FinQ hQ (congrArg Array.toList Tryd.results170) _ _ ?_); simp (disch := omega) only [u, i64, ax, if_true, forall_const, reduceCtorEq, implies_true, tvs, bf]
      rfl
set_option maxRecDepth 100000 in
theorem ret_Quotient (r : Nat) (hr : r ≤ 4) (neg : Bool) (ns ds : List Nat) (hn : Wd ns) (hd : Wd ds) (hln : ns.length ≤ 137438953472) (hld : ds.length ≤ 137438953472) (h0 : val ds ≠ 0) :
    Ret Tryd.prog GEs 128 [i64 r, .bool neg, ws ns, ws ds] (.tup [nat (quoN r neg (val ns) (val ds)), .bool (decide (val ns % val ds = 0))]) := by
  have hnl := length_words_val_le hn
  have hdl := length_words_val_le hd
  have hq := length_mono (Nat.div_le_self (val ns) (val ds))
  have hm := length_mono (Nat.mod_le (val ns) (val ds))
  refine RetN_start Tryd.func128 (by kernel_rfl) rfl fun Q hQ hQ2 => ?_; rw [Tryd.ntmps128]; simp only [u, i64, Nat.reduceSub, Nat.reduceAdd, bm]
  repeat (first | ((first | refine Gs ?_ | refine Gr ?_); simp (disch := omega) only [u, i64, ax, eq_self, if_true, if_false, Nat.reduceAdd, Int.reduceToNat, Int.reduceAdd, tvs, bs]; first | refine aA ?_ | (refine cR (ret_DivMod ns ds hn hd (by omega) (by omega) h0) ?_; simp (disch := omega) only [u, i64, ax, eq_self, if_true, if_false, Nat.reduceAdd, Int.reduceToNat, Int.reduceAdd, tvs, bs]; try refine aA ?_)) | (refine cR (ret_DivMod ns ds hn hd (by omega) (by omega) h0) ?_; simp (disch := omega) only [u, i64, ax, eq_self, if_true, if_false, Nat.reduceAdd, Int.reduceToNat, Int.reduceAdd, tvs, bs]; try refine aA ?_) | refine G_seq ?_ | refine G_block ?_ | refine G_condT rfl ?_ | refine G_condF rfl ?_ | refine G_skip ?_ | refine G_ret ?_ | refine G_exit ?_ | refine q_tn ?_ | refine q_tr ?_ | refine q_tx ?_ | refine q_bn ?_ | refine q_br ?_ | refine q_bx ?_ | refine q_by (by decide) ?_)
  ((first | refine Gs ?_ | refine Gr ?_); simp (disch := omega) only [u, i64, ax, eq_self, if_true, if_false, Nat.reduceAdd, Int.reduceToNat, Int.reduceAdd, tvs, bs])
  (refine cR (ret_compare (val ns % val ds) ds hd (by omega) (by omega)) ?_; simp (disch := omega) only [u, i64, ax, eq_self, if_true, if_false, Nat.reduceAdd, Int.reduceToNat, Int.reduceAdd, tvs, bs]; try refine aA ?_)
  (refine cR (ret_up r hr neg (val ns / val ds) (by omega) (restC (val ns % val ds) (val ds)) (restC_le _ _)) ?_; simp (disch := omega) only [u, i64, ax, eq_self, if_true, if_false, Nat.reduceAdd, Int.reduceToNat, Int.reduceAdd, tvs, bs]; try refine aA ?_)
  (refine cR (ret_Zero (words (val ns % val ds)) (Wd_words _) (by omega)) ?_; simp (disch := omega) only [u, i64, ax, eq_self, if_true, if_false, Nat.reduceAdd, Int.reduceToNat, Int.reduceAdd, tvs, bs]; try refine aA ?_)
  rw [val_words]
  repeat (first | ((first | refine Gs ?_ | refine Gr ?_); simp (disch := omega) only [u, i64, ax, eq_self, if_true, if_false, Nat.reduceAdd, Int.reduceToNat, Int.reduceAdd, tvs, bs]; refine aA ?_) | refine G_seq ?_ | refine G_block ?_ | refine G_condT rfl ?_ | refine G_condF rfl ?_ | refine G_skip ?_ | refine G_ret ?_ | refine G_exit ?_ | refine q_tn ?_ | refine q_tr ?_ | refine q_tx ?_ | refine q_bn ?_ | refine q_br ?_ | refine q_bx ?_ | refine q_by (by decide) ?_)
  (refine FinQ hQ (congrArg Array.toList Tryd.results128) _ _ ?_); simp (disch := omega) only [u, i64, ax, if_true, forall_const, reduceCtorEq, implies_true, tvs, bf]
  rfl
end Go.Proofs
set_option linter.unusedVariables false
set_option linter.unusedSimpArgs false
namespace Go.Proofs
open Go.Ax
end Go.Proofs
set_option linter.unusedVariables false
namespace Go.Proofs
open Go.Ax
/-- 2^e is at most n / d. -/
def ge2 (n d : Nat) (e : Int) : Prop := d * 2 ^ e.toNat ≤ n * 2 ^ (-e).toNat
instance (n d : Nat) (e : Int) : Decidable (ge2 n d e) := by unfold ge2; infer_instance
end Go.Proofs
set_option linter.unusedVariables false
namespace Go.Proofs
open Go.Ax
structure FV where
  kind : Nat
  neg : Bool
  exp : Int
  mag : Nat
/-- Does what is too great become the greatest number? -/
def grtF (r : Nat) (neg : Bool) : Bool := decide (r = 2) || (decide (r = 3) && neg) || (decide (r = 4) && !neg)
def de (d : Nat) (s : Int) : Nat := d * 2 ^ s.toNat
theorem moreF_zero (r : Nat) (neg odd : Bool) : moreF r neg odd 0 = false := by
  unfold moreF
  split
  · simp
  · split
    · simp
    · split
      · rfl
      · split <;> simp
theorem bl_ge {n k : Nat} (h : 2 ^ k ≤ n) : k + 1 ≤ bl n := by
  have h0 : n ≠ 0 := by have := Nat.two_pow_pos k; omega
  have := (bl_spec h0).2.1
  rcases Nat.lt_or_ge (bl n) (k + 1) with h1 | h1
  · have h3 : 2 ^ bl n ≤ 2 ^ k := Nat.pow_le_pow_right (by decide) (by omega)
    omega
  · exact h1
end Go.Proofs
set_option linter.unusedVariables false
namespace Go.Proofs
open Go.Ax
theorem quoN_exact (r : Nat) (neg : Bool) (q d : Nat) (hd : 0 < d) : quoN r neg (q * d) d = q := by
  unfold quoN restC
  rw [Nat.mul_mod_left, if_pos rfl, moreF_zero, Nat.mul_div_cancel _ hd, if_neg (by decide), Nat.add_zero]
end Go.Proofs
set_option linter.unusedVariables false
namespace Go.Proofs
open Go.Ax
theorem bl_lt (n : Nat) : n < 2 ^ bl n := by
  by_cases h : n = 0
  · subst h; decide
  · exact (bl_spec h).2.1
end Go.Proofs
set_option linter.unusedVariables false
namespace Go.Proofs
open Go.Ax
theorem quoN_le (r : Nat) (neg : Bool) (n d M : Nat) (hd : 0 < d) (h : n ≤ M * d) : quoN r neg n d ≤ M := by
  by_cases he : n = M * d
  · subst he; rw [quoN_exact r neg M d hd]; exact Nat.le_refl _
  · have h1 : n / d < M := (Nat.div_lt_iff_lt_mul hd).2 (by omega)
    unfold quoN
    split <;> omega
end Go.Proofs
set_option linter.unusedVariables false
namespace Go.Proofs
open Go.Ax
end Go.Proofs
set_option linter.unusedVariables false
namespace Go.Proofs
open Go.Ax
def ds (a b : Nat) : Nat := (a - b) + (b - a)
end Go.Proofs
set_option linter.unusedVariables false
set_option linter.unusedSimpArgs false
namespace Go.Proofs
open Go.Ax
end Go.Proofs
set_option linter.unusedVariables false
set_option linter.unusedSimpArgs false
namespace Go.Proofs
open Go.Ax
theorem bl_len (n : Nat) : bl n ≤ 64 * (words n).length := by
  have h := lt_pow_of_length (Nat.le_refl (words n).length)
  rw [Bpow] at h
  exact bl_le h
theorem le_pow_words {m p k : Nat} (hm : m ≤ 2 ^ p) (h : p < 64 * k) : (words m).length ≤ k := length_le (by
  rw [Bpow]
  exact Nat.lt_of_le_of_lt hm (Nat.pow_lt_pow_right (by decide) h))
theorem tz_le_bl (n : Nat) : tz n ≤ bl n := by
  by_cases h : n = 0
  · subst h; decide
  · obtain ⟨m, hm⟩ := tz_spec h
    have h1 : 2 ^ tz n ≤ n := by
      conv => rhs; rw [hm]
      exact Nat.le_mul_of_pos_right _ (by omega)
    have := bl_ge h1
    omega
theorem ret_greatest (r : Nat) (hr : r ≤ 4) (neg : Bool) : Ret Tryd.prog GEs 183 [i64 r, .bool neg] (.bool (grtF r neg)) := by
  have h1 : r = 0 ∨ r = 1 ∨ r = 2 ∨ r = 3 ∨ r = 4 := by omega
  rcases h1 with rfl | rfl | rfl | rfl | rfl <;> cases neg <;> exact ran (n := 20) (by kernel_rfl)
end Go.Proofs
set_option linter.unusedVariables false
set_option linter.unusedSimpArgs false
namespace Go.Proofs
open Go.Ax
end Go.Proofs
set_option linter.unusedVariables false
set_option linter.unusedSimpArgs false
namespace Go.Proofs
open Go.Ax
end Go.Proofs
set_option linter.unusedVariables false
set_option linter.unusedSimpArgs false
namespace Go.Proofs
open Go.Ax
theorem length_bl {n k : Nat} (h : bl n ≤ 64 * k) : (words n).length ≤ k := length_le (by
  rw [Bpow]
  exact Nat.lt_of_lt_of_le (bl_lt n) (Nat.pow_le_pow_right (by decide) h))
end Go.Proofs
set_option linter.unusedVariables false
namespace Go.Proofs
open Go.Ax
def dg (n : Nat) : Nat := if h : n = 0 then 0 else dg (n / 10) + 1
decreasing_by omega
/-- How many zeros there are at the end. -/
def st (n : Nat) : Nat := if h : n ≠ 0 ∧ n % 10 = 0 then st (n / 10) + 1 else 0
decreasing_by omega
theorem ten_pos (k : Nat) : 0 < 10 ^ k := Nat.pow_pos (by decide)
theorem dg_zero : dg 0 = 0 := by unfold dg; rfl
theorem dg_spec (n : Nat) : n ≠ 0 → 10 ^ (dg n - 1) ≤ n ∧ n < 10 ^ dg n ∧ 1 ≤ dg n := by
  induction n using Nat.strongRecOn with
  | _ n ih =>
    intro h
    unfold dg
    rw [dif_neg h, Nat.add_sub_cancel]
    by_cases h0 : n / 10 = 0
    · rw [h0, dg_zero]; exact ⟨by omega, by omega, by omega⟩
    · obtain ⟨h1, h2, h3⟩ := ih (n / 10) (by omega) h0
      obtain ⟨k, hk⟩ : ∃ k, dg (n / 10) = k + 1 := ⟨dg (n / 10) - 1, by omega⟩
      rw [hk] at h1 h2 ⊢
      rw [Nat.add_sub_cancel] at h1
      have e1 := Nat.pow_succ 10 k
      have e2 := Nat.pow_succ 10 (k + 1)
      omega
theorem dg_lt (n : Nat) : n < 10 ^ dg n := by
  by_cases h : n = 0
  · subst h; exact ten_pos _
  · exact (dg_spec n h).2.1
theorem ten_mono {a b : Nat} (h : a ≤ b) : 10 ^ a ≤ 10 ^ b := Nat.pow_le_pow_right (by decide) h
theorem dg_le {n k : Nat} (h : n < 10 ^ k) : dg n ≤ k := by
  by_cases h0 : n = 0
  · subst h0; rw [dg_zero]; omega
  · obtain ⟨h1, h2, h3⟩ := dg_spec n h0
    rcases Nat.lt_or_ge k (dg n) with hk | hk
    · have := ten_mono (show k ≤ dg n - 1 by omega); omega
    · exact hk
theorem dg_ge {n k : Nat} (h : 10 ^ k ≤ n) : k + 1 ≤ dg n := by
  have := dg_lt n
  rcases Nat.lt_or_ge (dg n) (k + 1) with hk | hk
  · have := ten_mono (show dg n ≤ k by omega); omega
  · exact hk
theorem dg_eq {n k : Nat} (h1 : 10 ^ k ≤ n) (h2 : n < 10 ^ (k + 1)) : dg n = k + 1 := Nat.le_antisymm (dg_le h2) (dg_ge h1)
theorem dg_mul (n k : Nat) (h : n ≠ 0) : dg (n * 10 ^ k) = dg n + k := by
  obtain ⟨h1, h2, h3⟩ := dg_spec n h
  have := dg_eq (n := n * 10 ^ k) (k := dg n - 1 + k) (by rw [Nat.pow_add]; exact Nat.mul_le_mul_right _ h1) (by
    rw [show dg n - 1 + k + 1 = dg n + k by omega, Nat.pow_add]; exact Nat.mul_lt_mul_of_pos_right h2 (ten_pos k))
  omega
theorem dg_pow (k : Nat) : dg (10 ^ k) = k + 1 := dg_eq (Nat.le_refl _) (Nat.pow_lt_pow_right (by decide) (by omega))
theorem st_spec (n : Nat) : n ≠ 0 → ∃ m, n = m * 10 ^ st n ∧ m % 10 ≠ 0 := by
  induction n using Nat.strongRecOn with
  | _ n ih =>
    intro h
    unfold st
    by_cases h0 : n % 10 = 0
    · rw [dif_pos ⟨h, h0⟩]
      obtain ⟨m, h1, h2⟩ := ih (n / 10) (by omega) (by omega)
      refine ⟨m, ?_, h2⟩
      rw [Nat.pow_succ, ← Nat.mul_assoc, ← h1]
      omega
    · rw [dif_neg (by omega)]
      exact ⟨n, by simp, h0⟩
theorem st_of (m k : Nat) (h : m % 10 ≠ 0) : st (m * 10 ^ k) = k := by
  induction k with
  | zero =>
    rw [Nat.pow_zero, Nat.mul_one]
    unfold st
    rw [dif_neg (by omega)]
  | succ k ih =>
    have hp := ten_pos k
    have h0 : 0 < m * 10 ^ k := Nat.mul_pos (by omega) hp
    unfold st
    rw [Nat.pow_succ, ← Nat.mul_assoc, dif_pos ⟨by omega, by omega⟩, Nat.mul_div_cancel _ (by decide), ih]
/-- The part of a number that has no zero at the end. -/
def sm (n : Nat) : Nat := n / 10 ^ st n
theorem sm_mul {n : Nat} (h : n ≠ 0) : n = sm n * 10 ^ st n ∧ sm n % 10 ≠ 0 := by
  obtain ⟨m, h1, h2⟩ := st_spec n h
  have : sm n = m := by
    unfold sm
    conv => lhs; arg 1; rw [h1]
    exact Nat.mul_div_cancel _ (ten_pos _)
  rw [this]
  exact ⟨h1, h2⟩
structure DV where
  kind : Nat
  neg : Bool
  coef : Nat
  exp : Int
def overD (p : Nat) (g : Int) (r : Nat) (neg : Bool) : DV := if grtF r neg = true then ⟨0, neg, 10 ^ p - 1, g - p + 1⟩ else ⟨1, neg, 0, 0⟩
/-- The exponent of the step. -/
def stpD (p : Nat) (g a : Int) : Int := max (a - p + 1) (1 - g - (p - 1))
/-- What is not exact. -/
def ineD (p : Nat) (g : Int) (r : Nat) (neg : Bool) (a s : Int) (N : Nat) : DV × Nat :=
  if N = 10 ^ p then (if g < s + 1 + p - 1 then (overD p g r neg, 5) else (⟨0, neg, 10 ^ (p - 1), s + 1⟩, if a < 1 - g then 3 else 1))
  else if N ≠ 0 ∧ g < s + dg N - 1 then (overD p g r neg, 5) else (⟨0, neg, N, s⟩, if a < 1 - g then 3 else 1)
def finD (p : Nat) (g : Int) (r : Nat) (neg : Bool) (mag : Nat) (exp ideal : Int) : DV × Nat :=
  let a := exp + dg mag - 1
  let s := stpD p g a
  let t := exp + st mag
  if g < a then (overD p g r neg, 5)
  else if s ≤ t then (⟨0, neg, sm mag * 10 ^ (t - min t (max ideal s)).toNat, min t (max ideal s)⟩, 0)
  else ineD p g r neg a s (quoN r neg mag (10 ^ (s - exp).toNat))
/-- Does the program's test for an exact result hold? -/
theorem fits_iff (p : Nat) (g : Int) (mag : Nat) (exp : Int) (h : mag ≠ 0) :
    (¬ ((p : Int) < dg (sm mag) ∨ exp + st mag < 1 - g - (p - 1) ∨ g < exp + st mag + dg (sm mag) - 1)) ↔ (¬ g < exp + dg mag - 1 ∧ stpD p g (exp + dg mag - 1) ≤ exp + st mag) := by
  obtain ⟨h1, h2⟩ := sm_mul h
  have hd : dg mag = dg (sm mag) + st mag := by
    conv => lhs; rw [h1]
    exact dg_mul _ _ (by omega)
  unfold stpD
  omega
/-- The program's exponent. -/
theorem fits_at (p : Nat) (g : Int) (mag : Nat) (exp ideal : Int) (h : mag ≠ 0) :
    min (exp + st mag) (max (max ideal (1 - g - (p - 1))) (exp + st mag - (p - dg (sm mag)))) = min (exp + st mag) (max ideal (stpD p g (exp + dg mag - 1))) := by
  obtain ⟨h1, h2⟩ := sm_mul h
  have hd : dg mag = dg (sm mag) + st mag := by
    conv => lhs; rw [h1]
    exact dg_mul _ _ (by omega)
  unfold stpD
  omega
/-- The rest is less than a tenth. -/
theorem tiny_quo (mag k : Nat) (h : dg mag + 1 < k) (hm : mag ≠ 0) : mag / 10 ^ k = 0 ∧ restC (mag % 10 ^ k) (10 ^ k) = 1 := by
  have h1 := dg_lt mag
  have h2 := ten_mono (show dg mag + 2 ≤ k by omega)
  have e1 := Nat.pow_succ 10 (dg mag)
  have e2 : 10 ^ (dg mag + 2) = 10 ^ (dg mag + 1) * 10 := Nat.pow_succ 10 (dg mag + 1)
  have hlt : mag < 10 ^ k := by omega
  refine ⟨Nat.div_eq_of_lt hlt, ?_⟩
  rw [Nat.mod_eq_of_lt hlt]
  unfold restC
  rw [if_neg hm, if_pos (by omega)]
/-- The rounded number has at most one digit more than the precision. -/
theorem quoD_le (p : Nat) (g : Int) (r : Nat) (neg : Bool) (mag : Nat) (exp s : Int) (hs : s = stpD p g (exp + dg mag - 1)) (he : exp < s) : quoN r neg mag (10 ^ (s - exp).toNat) ≤ 10 ^ p := by
  refine quoN_le r neg mag _ _ (ten_pos _) ?_
  rw [← Nat.pow_add]
  refine Nat.le_trans (Nat.le_of_lt (dg_lt mag)) (ten_mono ?_)
  unfold stpD at hs
  omega
end Go.Proofs
set_option linter.unusedVariables false
namespace Go.Proofs
open Go.Ax
theorem ten643 : ∃ K, K = 2136 ∧ 10 ^ 643 ≤ 2 ^ K := ⟨2136, rfl, by decide +kernel⟩
theorem ten_small : (List.range 643).all (fun b => decide (10 ^ b ≤ 10 * 2 ^ ((100000 * b + 26350) / 30103))) = true := by decide +kernel
/-- Where the digits are first guessed. -/
theorem ten_guess (k : Nat) (h : k < 1000000) : 10 ^ (k * 30103 / 100000) ≤ 10 * 2 ^ k := by
  generalize hn : k * 30103 / 100000 = n
  have h1 : n = 643 * (n / 643) + n % 643 := (Nat.div_add_mod n 643).symm
  have hb := Nat.mod_lt n (show 0 < 643 by decide)
  generalize n / 643 = a at *
  generalize n % 643 = b at *
  have h2 := List.all_eq_true.1 ten_small b (List.mem_range.2 hb)
  have h3 : 10 ^ b ≤ 10 * 2 ^ ((100000 * b + 26350) / 30103) := of_decide_eq_true h2
  obtain ⟨K, hK, h643⟩ := ten643
  have h4 : 2136 * a + (100000 * b + 26350) / 30103 ≤ k := by omega
  rw [← hK] at h4
  calc 10 ^ n = (10 ^ 643) ^ a * 10 ^ b := by rw [h1, Nat.pow_add, Nat.pow_mul]
    _ ≤ (2 ^ K) ^ a * (10 * 2 ^ ((100000 * b + 26350) / 30103)) := Nat.mul_le_mul (Nat.pow_le_pow_left h643 a) h3
    _ = 10 * 2 ^ (K * a + (100000 * b + 26350) / 30103) := by rw [← Nat.pow_mul, Nat.mul_left_comm, ← Nat.pow_add]
    _ ≤ 10 * 2 ^ k := Nat.mul_le_mul_left _ (Nat.pow_le_pow_right (by decide) h4)
theorem dg_guess (x : Nat) (h0 : x ≠ 0) (h : bl x ≤ 1000000) : (bl x - 1) * 30103 / 100000 ≤ dg x := by
  obtain ⟨h1, h2, h3⟩ := bl_spec h0
  have h4 := ten_guess (bl x - 1) (by omega)
  generalize (bl x - 1) * 30103 / 100000 = n at *
  rcases Nat.eq_zero_or_pos n with hn | hn
  · omega
  · obtain ⟨m, rfl⟩ : ∃ m, n = m + 1 := ⟨n - 1, by omega⟩
    refine dg_ge ?_
    rw [Nat.pow_succ] at h4
    omega
theorem ten_eq (k : Nat) : 5 ^ k * 2 ^ k = 10 ^ k := by rw [← Nat.mul_pow]
end Go.Proofs
set_option linter.unusedVariables false
namespace Go.Proofs
open Go.Ax
theorem strip_done {n x k : Nat} (h : x * 10 ^ k = n) (hx : x % 10 ≠ 0) : sm n = x ∧ st n = k := by
  have h1 : st n = k := by rw [← h]; exact st_of x k hx
  refine ⟨?_, h1⟩
  unfold sm
  rw [h1, ← h]
  exact Nat.mul_div_cancel _ (ten_pos _)
theorem sm_le (n : Nat) : sm n ≤ n := Nat.div_le_self _ _
theorem sm_ne {n : Nat} (h : n ≠ 0) : sm n ≠ 0 := fun h0 => by have := (sm_mul h).2; rw [h0] at this; exact this rfl
theorem dg_sm {n : Nat} (h : n ≠ 0) : dg n = dg (sm n) + st n := by
  have h1 := (sm_mul h).1
  conv => lhs; rw [h1]
  exact dg_mul _ _ (sm_ne h)
theorem dg_one : dg 1 = 1 := by have := dg_pow 0; simpa using this
theorem five_le (k : Nat) : 5 ^ k ≤ 2 ^ (3 * k) := by rw [Nat.pow_mul]; exact Nat.pow_le_pow_left (by decide) k
theorem ten_le (k : Nat) : 10 ^ k ≤ 2 ^ (4 * k) := by rw [Nat.pow_mul]; exact Nat.pow_le_pow_left (by decide) k
theorem dg_le_bl (n : Nat) : dg n ≤ bl n := by
  refine dg_le (Nat.lt_of_lt_of_le (bl_lt n) ?_)
  exact Nat.pow_le_pow_left (by decide) _
theorem bl_le_dg (n : Nat) : bl n ≤ 4 * dg n := bl_le (Nat.lt_of_lt_of_le (dg_lt n) (ten_le _))
/-- The exponent and the number of what is exact. -/
def exE (p : Nat) (g : Int) (mag : Nat) (exp ideal : Int) : Int := min (exp + st mag) (max ideal (stpD p g (exp + dg mag - 1)))
def exN (p : Nat) (g : Int) (mag : Nat) (exp ideal : Int) : Nat := sm mag * 10 ^ (exp + st mag - exE p g mag exp ideal).toNat
theorem finD_over (p : Nat) (g : Int) (r : Nat) (neg : Bool) (mag : Nat) (exp ideal : Int) (h : g < exp + dg mag - 1) : finD p g r neg mag exp ideal = (overD p g r neg, 5) := by
  unfold finD; simp only; rw [if_pos h]
theorem finD_exact (p : Nat) (g : Int) (r : Nat) (neg : Bool) (mag : Nat) (exp ideal : Int) (h : ¬ g < exp + dg mag - 1) (h2 : stpD p g (exp + dg mag - 1) ≤ exp + st mag) : finD p g r neg mag exp ideal = (⟨0, neg, exN p g mag exp ideal, exE p g mag exp ideal⟩, 0) := by
  unfold finD; simp only; rw [if_neg h, if_pos h2]; rfl
theorem finD_ine (p : Nat) (g : Int) (r : Nat) (neg : Bool) (mag : Nat) (exp ideal : Int) (h : ¬ g < exp + dg mag - 1) (h2 : ¬ stpD p g (exp + dg mag - 1) ≤ exp + st mag) :
    finD p g r neg mag exp ideal = ineD p g r neg (exp + dg mag - 1) (stpD p g (exp + dg mag - 1)) (quoN r neg mag (10 ^ (stpD p g (exp + dg mag - 1) - exp).toNat)) := by
  unfold finD; simp only; rw [if_neg h, if_neg h2]
/-- What is exact is of the context. -/
theorem exact_facts (p : Nat) (g : Int) (mag : Nat) (exp ideal : Int) (hm : mag ≠ 0) (h : ¬ g < exp + dg mag - 1) (h2 : stpD p g (exp + dg mag - 1) ≤ exp + st mag) :
    stpD p g (exp + dg mag - 1) ≤ exE p g mag exp ideal ∧ exE p g mag exp ideal ≤ exp + st mag ∧ exN p g mag exp ideal ≠ 0 ∧ dg (exN p g mag exp ideal) + exE p g mag exp ideal = dg mag + exp ∧ dg (exN p g mag exp ideal) ≤ p := by
  have e0 := dg_sm hm
  have e1 := dg_mul (sm mag) (exp + st mag - exE p g mag exp ideal).toNat (sm_ne hm)
  have hle : exE p g mag exp ideal ≤ exp + st mag := Int.min_le_left _ _
  have hge : stpD p g (exp + dg mag - 1) ≤ exE p g mag exp ideal := by unfold exE; omega
  have hs : (exp + dg mag - 1) - p + 1 ≤ stpD p g (exp + dg mag - 1) := by unfold stpD; omega
  have e2 : dg (exN p g mag exp ideal) + exE p g mag exp ideal = dg mag + exp := by unfold exN; omega
  refine ⟨hge, hle, Nat.mul_ne_zero (sm_ne hm) (Nat.ne_of_gt (ten_pos _)), e2, by omega⟩
/-- One zero less. -/
theorem ten_step (m k : Nat) (h : m % 10 ≠ 0) : (m * 10 ^ k % 10 = 0 ↔ 0 < k) ∧ (0 < k → m * 10 ^ k / 10 = m * 10 ^ (k - 1)) := by
  cases k with
  | zero => rw [Nat.pow_zero, Nat.mul_one]; exact ⟨by omega, by omega⟩
  | succ k =>
    rw [Nat.pow_succ, ← Nat.mul_assoc, Nat.mul_mod_left, Nat.mul_div_cancel _ (by decide)]
    exact ⟨by omega, fun _ => rfl⟩
end Go.Proofs
