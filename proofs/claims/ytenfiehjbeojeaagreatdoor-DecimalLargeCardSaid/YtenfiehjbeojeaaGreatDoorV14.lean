/-
  Contracts of functions of the program, each proved by a walk.
-/
import Derived.Test.YtenfiehjbeojeaaGreatDoorV13
import Derived.Test.YtenfiehjbeojeaaGreatDoorV8
set_option maxRecDepth 100000
set_option linter.unusedVariables false
set_option linter.unusedSimpArgs false
namespace Go.Proofs
open Go.Ax
theorem divw_step {w R D Q a : Nat} (hw : 0 < w) (hq : Q = D / w) (hr : R = D % w) :
    (R * 18446744073709551616 + a) / w + 18446744073709551616 * Q = (a + 18446744073709551616 * D) / w ∧ (R * 18446744073709551616 + a) % w = (a + 18446744073709551616 * D) % w := by
  have h := Nat.div_add_mod D w
  have e : a + 18446744073709551616 * D = (R * 18446744073709551616 + a) + w * (18446744073709551616 * Q) := by
    conv => lhs; rw [← h]
    rw [Nat.mul_add, hq, hr, Nat.mul_left_comm]
    omega
  rw [e]
  exact ⟨by rw [Nat.add_mul_div_left _ _ hw], by rw [Nat.add_mul_mod_self_left]⟩
theorem divw_lt {w R a : Nat} (hR : R < w) (ha : a < 18446744073709551616) : (R * 18446744073709551616 + a) / w < 18446744073709551616 := by
  refine (Nat.div_lt_iff_lt_mul (by omega)).2 ?_
  have := Nat.mul_le_mul_right 18446744073709551616 (show R + 1 ≤ w from hR)
  rw [Nat.mul_comm 18446744073709551616 w]
  omega
theorem val_drop_set (os : List Nat) (n v : Nat) (h : n < os.length) : val ((os.set n v).drop n) = v + 18446744073709551616 * val (os.drop (n + 1)) := by
  rw [val_drop _ n (by simpa using h), List.getD_eq_getElem?_getD, List.getElem?_set_self h, List.drop_set_of_lt (Nat.lt_succ_self n)]
  rfl
set_option maxRecDepth 100000 in
theorem ret_divWord (xs : List Nat) (w : Nat) (hx : Wd xs) (hw : w < 18446744073709551616) (h0 : 0 < w) (hl : xs.length ≤ 1099511627775) : Ret Tryz.prog GEs 83 [ws xs, u w] (.tup [nat (val xs / w), u (val xs % w)]) := by
  refine RetN_start Tryz.func83 (by kernel_rfl) rfl fun Q hQ hQ2 => ?_; rw [Tryz.ntmps83]; simp only [u, i64, Nat.reduceSub, Nat.reduceAdd, bm]
  (refine gO ?_)
  refine AWp_loop (fun i : Nat × List Nat × Nat => mk 35 [(0, ws xs), (1, u w), (6, .own 0 0 0 xs.length 1), (7, u i.2.2), (8, i64 ((i.1 : Int) - 1))] [⟨0, true, us i.2.1⟩])
    (fun i => i.1 ≤ xs.length ∧ i.2.1.length = xs.length ∧ Wd i.2.1 ∧ val (i.2.1.drop i.1) = val (xs.drop i.1) / w ∧ i.2.2 = val (xs.drop i.1) % w) (fun i => i.1) (xs.length, List.replicate xs.length 0, 0) ?_ ⟨Nat.le_refl _, by simp, Wd_replicate _ (by decide), by simp [val], by simp [val]⟩ ?_
  · simp only [u, i64, Nat.reduceSub, Nat.reduceAdd, bm]
  rintro ⟨n, os, r⟩ ⟨h1, h2, h3, h4, h5⟩
  simp only at h1 h2 h3 h4 h5
  simp only [u, i64, Nat.reduceSub, Nat.reduceAdd, bm]
  by_cases hn : 1 ≤ n
  · obtain ⟨m, rfl⟩ : ∃ m, n = m + 1 := ⟨n - 1, by omega⟩
    have ha := hx.getD m
    have hr : r < w := by rw [h5]; exact Nat.mod_lt _ h0
    have hst := divw_step (a := xs.getD m 0) h0 h4 h5
    have hq := divw_lt hr ha
    have hv := val_drop xs m (by omega)
    rw [← hv] at hst
    have hr2 : (r * 18446744073709551616 + xs.getD m 0) % w < w := Nat.mod_lt _ h0
    have hs := val_drop_set os m ((r * 18446744073709551616 + xs.getD m 0) / w) (by omega)
    rw [hst.1] at hs
    simp only [Int.natCast_add, Int.natCast_one, Int.add_sub_cancel]
    repeat (first | (refine gC ?_; first | refine aA ?_ | (refine cR (ret_Div64 r (xs.getD m 0) w ha hw hr) ?_; refine sX ?_; try refine aA ?_)) | (refine cR (ret_Div64 r (xs.getD m 0) w ha hw hr) ?_; refine sX ?_; try refine aA ?_) | refine gS ?_)
    refine ⟨(m, os.set m ((r * 18446744073709551616 + xs.getD m 0) / w), (r * 18446744073709551616 + xs.getD m 0) % w), ?_, ⟨by simp only; omega, by simpa using h2, h3.set m hq, hs, hst.2⟩, by simp only; omega⟩
    simp only [u, i64, Nat.reduceSub, Nat.reduceAdd, bm]
  · have hn0 : n = 0 := by omega
    subst hn0
    simp only [List.drop_zero] at h4 h5
    (refine gO ?_)
    refine G_cool0 ?_
    (refine gC ?_)
    (refine cR (ret_Trim os h3 (by omega)) ?_; refine sX ?_; try refine aA ?_)
    rw [h4]
    (refine gO ?_)
    (refine FinQ hQ (congrArg Array.toList Tryz.results83) _ _ ?_); simp (disch := omega) only [u, i64, ax, if_true, forall_const, reduceCtorEq, implies_true, tvs, bf, h5]
theorem guess_test {q r v w c N V2 U3 : Nat} (hN : q * v + r = N) (hV : V2 = v * 18446744073709551616 + w) (hU : U3 = N * 18446744073709551616 + c) : q * V2 ≤ U3 ↔ q * w ≤ r * 18446744073709551616 + c := by
  have e : q * V2 = q * v * 18446744073709551616 + q * w := by rw [hV, Nat.mul_add, Nat.mul_assoc]
  rw [e, hU, ← hN, Nat.add_mul]; omega
theorem guess_over {q r v w c N V2 U3 : Nat} (hN : q * v + r = N) (hV : V2 = v * 18446744073709551616 + w) (hU : U3 = N * 18446744073709551616 + c) (hq : q < 18446744073709551616) (hw : w < 18446744073709551616) (hr : 18446744073709551616 ≤ r) : q * V2 ≤ U3 := by
  refine (guess_test hN hV hU).2 ?_
  have h1 : q * w ≤ 18446744073709551616 * 18446744073709551616 := Nat.mul_le_mul (by omega) (by omega)
  omega
theorem guess_less {q r v N : Nat} (hN : q * v + r = N) (h : 1 ≤ q) : (q - 1) * v + (r + v) = N := by
  obtain ⟨k, rfl⟩ : ∃ k, q = k + 1 := ⟨q - 1, by omega⟩
  rw [Nat.add_mul] at hN
  simp only [Nat.add_sub_cancel]
  omega
set_option maxRecDepth 100000 in
set_option maxHeartbeats 4000000 in
theorem ret_guess (a b c v w : Nat) (ha : a < 18446744073709551616) (hb : b < 18446744073709551616) (hc : c < 18446744073709551616) (hv : v < 18446744073709551616) (hw : w < 18446744073709551616) (hv0 : 0 < v) :
    Ret Tryz.prog GEs 86 [u a, u b, u c, u v, u w] (u (min 18446744073709551615 (((a * 18446744073709551616 + b) * 18446744073709551616 + c) / (v * 18446744073709551616 + w)))) := by
  obtain ⟨N, hN⟩ : ∃ N, a * 18446744073709551616 + b = N := ⟨_, rfl⟩
  obtain ⟨V2, hV2⟩ : ∃ V, v * 18446744073709551616 + w = V := ⟨_, rfl⟩
  obtain ⟨U3, hU3⟩ : ∃ U, N * 18446744073709551616 + c = U := ⟨_, rfl⟩
  rw [hN, hU3, hV2]
  have hV0 : 0 < V2 := by omega
  obtain ⟨T, hT⟩ : ∃ T, min 18446744073709551615 (U3 / V2) = T := ⟨_, rfl⟩
  have hT1 : T ≤ 18446744073709551615 := hT ▸ Nat.min_le_left _ _
  have hT2 : T * V2 ≤ U3 := (Nat.le_div_iff_mul_le hV0).1 (hT ▸ Nat.min_le_right _ _)
  have hT3 : ∀ q, q ≤ 18446744073709551615 → q * V2 ≤ U3 → q ≤ T := fun q h1 h2 => hT ▸ Nat.le_min.2 ⟨h1, (Nat.le_div_iff_mul_le hV0).2 h2⟩
  rw [hT]
  clear hT
  refine RetN_start Tryz.func86 (by kernel_rfl) rfl fun Q hQ hQ2 => ?_; rw [Tryz.ntmps86]; simp only [u, i64, Nat.reduceSub, Nat.reduceAdd, bm]
  by_cases hav : v < a
  · have h1 := hT3 18446744073709551615 (Nat.le_refl _) (by omega)
    have e : T = 18446744073709551615 := by omega
    clear hT3 hT2 hT1
    (refine gO ?_)
    (refine FinQ hQ (congrArg Array.toList Tryz.results86) _ _ ?_); simp (disch := omega) only [u, i64, ax, if_true, forall_const, reduceCtorEq, implies_true, tvs, bf, e]
    rfl
  by_cases heq : a = v
  · obtain ⟨i0, hi0⟩ : ∃ i : Nat × Nat × Bool, i = (18446744073709551615, (b + v) % 18446744073709551616, decide ((b + v) / 18446744073709551616 = 1)) := ⟨_, rfl⟩
    have hI0 : T ≤ i0.1 ∧ i0.1 < 18446744073709551616 ∧ i0.2.1 < 18446744073709551616 ∧ (i0.2.2 = false → i0.1 * v + i0.2.1 = N) ∧ (i0.2.2 = true → i0.1 * V2 ≤ U3) := by
      rw [hi0]
      simp only
      refine ⟨hT1, by omega, by omega, fun h => ?_, fun h => ?_⟩
      · have := of_decide_eq_false h
        omega
      · have := of_decide_eq_true h
        exact guess_over (r := b + v) (N := N) (v := v) (w := w) (c := c) (by omega) hV2.symm hU3.symm (by omega) hw (by omega)
    (refine gO ?_)
    (refine gC ?_)
    (refine callK_ext (retx_Add64 b v 0 (by decide)) rfl (by (simp (disch := omega) only [if_true, forall_const, reduceCtorEq, implies_true, bz]) <;> rfl) ?_; refine sX ?_; try refine aA ?_)
    (refine gO ?_)
    refine G_cutB (mk 71 [(11, u T)] []) ?_ ?_
    · simp only [u, i64, Nat.reduceSub, Nat.reduceAdd, bm]
      (refine gO ?_)
      (refine FinQ hQ (congrArg Array.toList Tryz.results86) _ _ ?_); simp (disch := omega) only [u, i64, ax, if_true, forall_const, reduceCtorEq, implies_true, tvs, bf]
    refine AWp_loop (fun i : Nat × Nat × Bool => mk 71 [(0, u a), (1, u b), (2, u c), (3, u v), (4, u w), (11, u i.1), (12, u i.2.1), (13, .bool i.2.2)] [])
      (fun i => T ≤ i.1 ∧ i.1 < 18446744073709551616 ∧ i.2.1 < 18446744073709551616 ∧ (i.2.2 = false → i.1 * v + i.2.1 = N) ∧ (i.2.2 = true → i.1 * V2 ≤ U3)) (fun i => i.1) i0 ?_ hI0 ?_
    · subst hi0
      dsimp only
      simp only [u, i64, Nat.reduceSub, Nat.reduceAdd, bm]
      try simp only [Int.cast_ofNat_Int, leT_same, leT_any, leT_nil, and_self]
    clear hi0 hI0 i0
    rintro ⟨q, r, o⟩ ⟨g1, g2, g3, g4, g5⟩
    simp only at g1 g2 g3 g4 g5
    simp only [u, i64, Nat.reduceSub, Nat.reduceAdd, bm]
    cases o with
    | true =>
      have e := hT3 q (by omega) (g5 rfl)
      have e : q = T := by omega
      (refine gO ?_)
      refine ⟨rfl, ?_⟩
      rw [e]
      simp only [u, i64, Nat.reduceSub, Nat.reduceAdd, bm]
    | false =>
      have hN1 := g4 rfl
      have htest := guess_test hN1 hV2.symm hU3.symm
      have hp : q * w < 18446744073709551616 * 18446744073709551616 := by
        have := Nat.mul_le_mul (show q ≤ 18446744073709551615 by omega) (show w ≤ 18446744073709551615 by omega)
        omega
      have hsp := Nat.div_add_mod (q * w) 18446744073709551616
      have hlo : q * w % 18446744073709551616 < 18446744073709551616 := Nat.mod_lt _ (by decide)
      have hhi : q * w / 18446744073709551616 < 18446744073709551616 := Nat.div_lt_of_lt_mul hp
      by_cases ht : q * w ≤ r * 18446744073709551616 + c
      · have e := hT3 q (by omega) (htest.2 ht)
        have e : q = T := by omega
        clear htest hp g4 g5 hN1
        by_cases h1 : q * w / 18446744073709551616 < r
        · (refine gO ?_)
          (refine gC ?_)
          (refine callK_mem (ret_Mul64 q w g2 hw) rfl (by (simp (disch := omega) only [if_true, forall_const, reduceCtorEq, implies_true, bz]) <;> rfl) ?_; refine sX ?_; try refine aA ?_)
          (refine gO ?_)
          refine ⟨rfl, ?_⟩
          rw [e]
          simp only [u, i64, Nat.reduceSub, Nat.reduceAdd, bm]
        · have h2 : q * w / 18446744073709551616 = r := by omega
          have h3 : q * w % 18446744073709551616 ≤ c := by omega
          (refine gO ?_)
          (refine gC ?_)
          (refine callK_mem (ret_Mul64 q w g2 hw) rfl (by (simp (disch := omega) only [if_true, forall_const, reduceCtorEq, implies_true, bz]) <;> rfl) ?_; refine sX ?_; try refine aA ?_)
          (refine gO ?_)
          refine ⟨rfl, ?_⟩
          rw [e]
          simp only [u, i64, Nat.reduceSub, Nat.reduceAdd, bm]
      · have hlt : T < q := by
          rcases Nat.lt_or_ge T q with h | h
          · exact h
          · have e : q = T := by omega
            rw [← e] at hT2
            exact absurd (htest.1 hT2) ht
        have hnew := guess_less hN1 (by omega)
        have hov := fun h => guess_over hnew hV2.symm hU3.symm (by omega) hw h
        have hI1 : T ≤ q - 1 ∧ q - 1 < 18446744073709551616 ∧ (r + v) % 18446744073709551616 < 18446744073709551616 ∧ (decide ((r + v) / 18446744073709551616 = 1) = false → (q - 1) * v + (r + v) % 18446744073709551616 = N) ∧ (decide ((r + v) / 18446744073709551616 = 1) = true → (q - 1) * V2 ≤ U3) :=
          ⟨by omega, by omega, by omega, fun h => by rw [Nat.mod_eq_of_lt (by have := of_decide_eq_false h; omega)]; exact hnew, fun h => hov (by have := of_decide_eq_true h; omega)⟩
        clear htest hp g4 g5 hN1 hnew hov
        by_cases h2 : q * w / 18446744073709551616 = r
        · have h3 : ¬ q * w % 18446744073709551616 ≤ c := by omega
          have h1 : ¬ q * w / 18446744073709551616 < r := by omega
          (refine gO ?_)
          (refine gC ?_)
          (refine callK_mem (ret_Mul64 q w g2 hw) rfl (by (simp (disch := omega) only [if_true, forall_const, reduceCtorEq, implies_true, bz]) <;> rfl) ?_; refine sX ?_; try refine aA ?_)
          (refine gO ?_)
          (refine gC ?_)
          (refine callK_ext (retx_Add64 r v 0 (by decide)) rfl (by (simp (disch := omega) only [if_true, forall_const, reduceCtorEq, implies_true, bz]) <;> rfl) ?_; refine sX ?_; try refine aA ?_)
          (refine gO ?_)
          refine ⟨(q - 1, (r + v) % 18446744073709551616, decide ((r + v) / 18446744073709551616 = 1)), ?_, hI1, by simp only; omega⟩
          simp only [u, i64, Nat.reduceSub, Nat.reduceAdd, bm]
        · have h1 : ¬ q * w / 18446744073709551616 < r := by omega
          (refine gO ?_)
          (refine gC ?_)
          (refine callK_mem (ret_Mul64 q w g2 hw) rfl (by (simp (disch := omega) only [if_true, forall_const, reduceCtorEq, implies_true, bz]) <;> rfl) ?_; refine sX ?_; try refine aA ?_)
          (refine gO ?_)
          (refine gC ?_)
          (refine callK_ext (retx_Add64 r v 0 (by decide)) rfl (by (simp (disch := omega) only [if_true, forall_const, reduceCtorEq, implies_true, bz]) <;> rfl) ?_; refine sX ?_; try refine aA ?_)
          (refine gO ?_)
          refine ⟨(q - 1, (r + v) % 18446744073709551616, decide ((r + v) / 18446744073709551616 = 1)), ?_, hI1, by simp only; omega⟩
          simp only [u, i64, Nat.reduceSub, Nat.reduceAdd, bm]
  · have hlt : a < v := by omega
    have hNv : N < v * 18446744073709551616 := by omega
    have hq := (Nat.div_lt_iff_lt_mul hv0).2 (show N < 18446744073709551616 * v by omega)
    have hr := Nat.mod_lt N hv0
    obtain ⟨i0, hi0⟩ : ∃ i : Nat × Nat × Bool, i = (N / v, N % v, false) := ⟨_, rfl⟩
    have hI0 : T ≤ i0.1 ∧ i0.1 < 18446744073709551616 ∧ i0.2.1 < 18446744073709551616 ∧ (i0.2.2 = false → i0.1 * v + i0.2.1 = N) ∧ (i0.2.2 = true → i0.1 * V2 ≤ U3) := by
      rw [hi0]
      simp only
      refine ⟨(Nat.le_div_iff_mul_le hv0).2 (knuth_le hV2.symm hU3.symm hc hT2), hq, by omega, fun _ => by rw [Nat.mul_comm]; exact Nat.div_add_mod N v, fun h => by cases h⟩
    (refine gO ?_)
    (refine gC ?_)
    (refine cR (ret_Div64 a b v hb hv hlt) ?_; refine sX ?_; try refine aA ?_)
    rw [hN]
    (refine gO ?_)
    clear hT1
    refine G_cutB (mk 71 [(11, u T)] []) ?_ ?_
    · simp only [u, i64, Nat.reduceSub, Nat.reduceAdd, bm]
      (refine gO ?_)
      (refine FinQ hQ (congrArg Array.toList Tryz.results86) _ _ ?_); simp (disch := omega) only [u, i64, ax, if_true, forall_const, reduceCtorEq, implies_true, tvs, bf]
    refine AWp_loop (fun i : Nat × Nat × Bool => mk 71 [(0, u a), (1, u b), (2, u c), (3, u v), (4, u w), (11, u i.1), (12, u i.2.1), (13, .bool i.2.2)] [])
      (fun i => T ≤ i.1 ∧ i.1 < 18446744073709551616 ∧ i.2.1 < 18446744073709551616 ∧ (i.2.2 = false → i.1 * v + i.2.1 = N) ∧ (i.2.2 = true → i.1 * V2 ≤ U3)) (fun i => i.1) i0 ?_ hI0 ?_
    · subst hi0
      dsimp only
      simp only [u, i64, Nat.reduceSub, Nat.reduceAdd, bm]
      try simp only [Int.cast_ofNat_Int, leT_same, leT_any, leT_nil, and_self]
    clear hi0 hI0 i0
    rintro ⟨q, r, o⟩ ⟨g1, g2, g3, g4, g5⟩
    simp only at g1 g2 g3 g4 g5
    simp only [u, i64, Nat.reduceSub, Nat.reduceAdd, bm]
    cases o with
    | true =>
      have e := hT3 q (by omega) (g5 rfl)
      have e : q = T := by omega
      (refine gO ?_)
      refine ⟨rfl, ?_⟩
      rw [e]
      simp only [u, i64, Nat.reduceSub, Nat.reduceAdd, bm]
    | false =>
      have hN1 := g4 rfl
      have htest := guess_test hN1 hV2.symm hU3.symm
      have hp : q * w < 18446744073709551616 * 18446744073709551616 := by
        have := Nat.mul_le_mul (show q ≤ 18446744073709551615 by omega) (show w ≤ 18446744073709551615 by omega)
        omega
      have hsp := Nat.div_add_mod (q * w) 18446744073709551616
      have hlo : q * w % 18446744073709551616 < 18446744073709551616 := Nat.mod_lt _ (by decide)
      have hhi : q * w / 18446744073709551616 < 18446744073709551616 := Nat.div_lt_of_lt_mul hp
      by_cases ht : q * w ≤ r * 18446744073709551616 + c
      · have e := hT3 q (by omega) (htest.2 ht)
        have e : q = T := by omega
        clear htest hp g4 g5 hN1
        by_cases h1 : q * w / 18446744073709551616 < r
        · (refine gO ?_)
          (refine gC ?_)
          (refine callK_mem (ret_Mul64 q w g2 hw) rfl (by (simp (disch := omega) only [if_true, forall_const, reduceCtorEq, implies_true, bz]) <;> rfl) ?_; refine sX ?_; try refine aA ?_)
          (refine gO ?_)
          refine ⟨rfl, ?_⟩
          rw [e]
          simp only [u, i64, Nat.reduceSub, Nat.reduceAdd, bm]
        · have h2 : q * w / 18446744073709551616 = r := by omega
          have h3 : q * w % 18446744073709551616 ≤ c := by omega
          (refine gO ?_)
          (refine gC ?_)
          (refine callK_mem (ret_Mul64 q w g2 hw) rfl (by (simp (disch := omega) only [if_true, forall_const, reduceCtorEq, implies_true, bz]) <;> rfl) ?_; refine sX ?_; try refine aA ?_)
          (refine gO ?_)
          refine ⟨rfl, ?_⟩
          rw [e]
          simp only [u, i64, Nat.reduceSub, Nat.reduceAdd, bm]
      · have hlt : T < q := by
          rcases Nat.lt_or_ge T q with h | h
          · exact h
          · have e : q = T := by omega
            rw [← e] at hT2
            exact absurd (htest.1 hT2) ht
        have hnew := guess_less hN1 (by omega)
        have hov := fun h => guess_over hnew hV2.symm hU3.symm (by omega) hw h
        have hI1 : T ≤ q - 1 ∧ q - 1 < 18446744073709551616 ∧ (r + v) % 18446744073709551616 < 18446744073709551616 ∧ (decide ((r + v) / 18446744073709551616 = 1) = false → (q - 1) * v + (r + v) % 18446744073709551616 = N) ∧ (decide ((r + v) / 18446744073709551616 = 1) = true → (q - 1) * V2 ≤ U3) :=
          ⟨by omega, by omega, by omega, fun h => by rw [Nat.mod_eq_of_lt (by have := of_decide_eq_false h; omega)]; exact hnew, fun h => hov (by have := of_decide_eq_true h; omega)⟩
        clear htest hp g4 g5 hN1 hnew hov
        by_cases h2 : q * w / 18446744073709551616 = r
        · have h3 : ¬ q * w % 18446744073709551616 ≤ c := by omega
          have h1 : ¬ q * w / 18446744073709551616 < r := by omega
          (refine gO ?_)
          (refine gC ?_)
          (refine callK_mem (ret_Mul64 q w g2 hw) rfl (by (simp (disch := omega) only [if_true, forall_const, reduceCtorEq, implies_true, bz]) <;> rfl) ?_; refine sX ?_; try refine aA ?_)
          (refine gO ?_)
          (refine gC ?_)
          (refine callK_ext (retx_Add64 r v 0 (by decide)) rfl (by (simp (disch := omega) only [if_true, forall_const, reduceCtorEq, implies_true, bz]) <;> rfl) ?_; refine sX ?_; try refine aA ?_)
          (refine gO ?_)
          refine ⟨(q - 1, (r + v) % 18446744073709551616, decide ((r + v) / 18446744073709551616 = 1)), ?_, hI1, by simp only; omega⟩
          simp only [u, i64, Nat.reduceSub, Nat.reduceAdd, bm]
        · have h1 : ¬ q * w / 18446744073709551616 < r := by omega
          (refine gO ?_)
          (refine gC ?_)
          (refine callK_mem (ret_Mul64 q w g2 hw) rfl (by (simp (disch := omega) only [if_true, forall_const, reduceCtorEq, implies_true, bz]) <;> rfl) ?_; refine sX ?_; try refine aA ?_)
          (refine gO ?_)
          (refine gC ?_)
          (refine callK_ext (retx_Add64 r v 0 (by decide)) rfl (by (simp (disch := omega) only [if_true, forall_const, reduceCtorEq, implies_true, bz]) <;> rfl) ?_; refine sX ?_; try refine aA ?_)
          (refine gO ?_)
          refine ⟨(q - 1, (r + v) % 18446744073709551616, decide ((r + v) / 18446744073709551616 = 1)), ?_, hI1, by simp only; omega⟩
          simp only [u, i64, Nat.reduceSub, Nat.reduceAdd, bm]
end Go.Proofs
