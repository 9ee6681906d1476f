/-
  Contracts of functions of the program, each proved by a walk.
-/
import Derived.Test.YtenfiehjbeojeaaGreatDoorV12
set_option maxRecDepth 100000
set_option linter.unusedVariables false
set_option linter.unusedSimpArgs false
namespace Go.Proofs
open Go.Ax
/-- A loop in a block, cut off from what follows: the state behind it is said to be F. -/
theorem G_cutB {P : Program} {GE : Nat → Option (List AV)} {c y : Code} {id : Nat} {st : St} {Q Q2 : Exit → St → Prop} (F : St) (h2 : AWp P GE y Q F) (h1 : AWp P GE c (blockA id (fun e s => e = .normal ∧ leS s F)) st) :
    AWp P GE c (blockA id (thenA (AWp P GE y Q) Q2)) st := AWp_mono h1 fun e s hs => by
  cases e with
  | exit k =>
    simp only [blockA] at hs ⊢
    by_cases hk : k = id
    · rw [if_pos hk] at hs ⊢; exact AWp_le hs.2 h2
    · rw [if_neg hk] at hs; cases hs.1
  | normal => exact AWp_le hs.2 h2
  | _ => cases hs.1
section half
variable {K D v1 v0 x a Q R : Nat}
theorem half_lt (hx : x < D) (ha : a < K) : (x * K + a) / D < K := by
  rw [Nat.div_lt_iff_lt_mul (by omega)]
  have := Nat.mul_le_mul_right K (show x + 1 ≤ D from hx)
  rw [Nat.mul_comm K D]
  rw [Nat.add_mul] at this
  omega
theorem half_eq (hD : D = v1 * K + v0) (h : Q * v1 + R = x) : Q * D + R * K = x * K + Q * v0 := by
  rw [hD, Nat.mul_add Q (v1 * K) v0, ← Nat.mul_assoc Q v1, ← h, Nat.add_mul (Q * v1) R]; omega
theorem half_more (hD : D = v1 * K + v0) (hD0 : 0 < D) (h : Q * v1 + R = x) (hc : K * R + a < Q * v0) : (x * K + a) / D < Q := by
  have := half_eq hD h
  rw [Nat.mul_comm K R] at hc
  refine (Nat.div_lt_iff_lt_mul hD0).2 ?_
  omega
theorem half_less (hD : D = v1 * K + v0) (hD0 : 0 < D) (h : Q * v1 + R = x) (hc : Q * v0 ≤ K * R + a) : Q ≤ (x * K + a) / D := by
  have := half_eq hD h
  rw [Nat.mul_comm K R] at hc
  refine (Nat.le_div_iff_mul_le hD0).2 ?_
  omega
theorem half_start (hD : D = v1 * K + v0) (h0 : v0 < K) (h1 : K ≤ 2 * v1) (hx : x < D) (ha : a < K) :
    (x * K + a) / D ≤ x / v1 ∧ x / v1 * v1 + x % v1 = x ∧ x % v1 < v1 ∧ x / v1 ≤ K + 1 := by
  refine ⟨?_, by rw [Nat.mul_comm]; exact Nat.div_add_mod x v1, Nat.mod_lt _ (by omega), ?_⟩
  · refine (Nat.le_div_iff_mul_le (by omega)).2 ?_
    have h := Nat.div_mul_le_self (x * K + a) D
    generalize (x * K + a) / D = q at *
    have e : q * D = q * v1 * K + q * v0 := by rw [hD, Nat.mul_add, Nat.mul_assoc]
    rcases Nat.lt_or_ge x (q * v1) with hlt | hge
    · have := Nat.mul_le_mul_right K (show x + 1 ≤ q * v1 from hlt)
      rw [Nat.add_mul] at this
      omega
    · exact hge
  · have h : x / v1 * v1 ≤ x := Nat.div_mul_le_self x v1
    rcases Nat.lt_or_ge (x / v1) (K + 2) with hq | hq
    · omega
    · have := Nat.mul_le_mul_right v1 hq
      rw [Nat.add_mul, Nat.mul_comm K v1] at this
      omega
theorem half_small (hD : D = v1 * K + v0) (h0 : v0 < K) (hx : x < D) (h : Q * v1 + R = x) (hR : K ≤ R) : Q < K := by
  rcases Nat.lt_or_ge Q K with hq | hq
  · exact hq
  · have := Nat.mul_le_mul_right v1 hq
    rw [Nat.mul_comm K v1] at this
    omega
theorem half_break (h0 : v0 < K) (hQ : Q < K) (hR : K ≤ R) : Q * v0 ≤ K * R + a := by
  have h1 : Q * v0 ≤ K * K := Nat.mul_le_mul (by omega) (by omega)
  have h2 := Nat.mul_le_mul_left K hR
  omega
theorem half_bound (hQ : Q ≤ 4294967297) (h0 : v0 < 4294967296) : Q * v0 < 18446744073709551616 := by
  have : Q * v0 ≤ 4294967297 * 4294967295 := Nat.mul_le_mul hQ (by omega)
  omega
theorem half_rem0 {q r : Nat} (h : r + q * D = x * 4294967296 + a) (hr : r < D) (hDB : D < 18446744073709551616) : (x * 4294967296 % 18446744073709551616 + a + 18446744073709551616 - q * D % 18446744073709551616) % 18446744073709551616 = r := by omega
theorem half_rem (hx : x < D) (hDB : D < 18446744073709551616) (ha : a < 4294967296) :
    (x * 4294967296 % 18446744073709551616 + a + 18446744073709551616 - (x * 4294967296 + a) / D * D % 18446744073709551616) % 18446744073709551616 = (x * 4294967296 + a) % D :=
  half_rem0 (by have := Nat.div_add_mod (x * 4294967296 + a) D; rw [Nat.mul_comm D] at this; rw [Nat.add_comm]; exact this) (Nat.mod_lt _ (by omega)) hDB
end half
theorem div_join0 {D U N q r b : Nat} (hD : 0 < D) (hN : D * q + r = N) (hU : U = N * 4294967296 + b) : U / D = q * 4294967296 + (r * 4294967296 + b) / D ∧ U % D = (r * 4294967296 + b) % D := by
  have : U = (r * 4294967296 + b) + D * (q * 4294967296) := by rw [hU, ← hN, Nat.add_mul (D * q) r, Nat.mul_assoc D q]; omega
  rw [this]
  exact ⟨by rw [Nat.add_mul_div_left _ _ hD, Nat.add_comm], by rw [Nat.add_mul_mod_self_left]⟩
theorem div_join {D U x a b : Nat} (hD : 0 < D) (hU : U = (x * 4294967296 + a) * 4294967296 + b) :
    U / D = (x * 4294967296 + a) / D * 4294967296 + ((x * 4294967296 + a) % D * 4294967296 + b) / D ∧ U % D = ((x * 4294967296 + a) % D * 4294967296 + b) % D :=
  div_join0 hD (Nat.div_add_mod _ D) hU
set_option maxRecDepth 100000 in
theorem ret_LeadingZeros64 (x : Nat) (hx : x < 18446744073709551616) : Ret Tryz.prog GEs 85 [u x] (i64 ((64 - bl x : Nat) : Int)) := by
  have hb := bl_le (n := x) (k := 64) hx
  refine RetN_start Tryz.func85 (by kernel_rfl) rfl fun Q hQ hQ2 => ?_; rw [Tryz.ntmps85]; simp only [u, i64, Nat.reduceSub, Nat.reduceAdd, bm]
  (refine gO ?_)
  (refine gC ?_)
  (refine callK_mem (ret_Len64b x hx) rfl (by (simp (disch := omega) only [if_true, forall_const, reduceCtorEq, implies_true, bz]) <;> rfl) ?_; refine sX ?_; try refine aA ?_)
  (refine gO ?_)
  (refine FinQ hQ (congrArg Array.toList Tryz.results85) _ _ ?_); simp (disch := omega) only [u, i64, ax, if_true, forall_const, reduceCtorEq, implies_true, tvs, bf]
set_option maxRecDepth 100000 in
set_option maxHeartbeats 4000000 in
theorem ret_Div64 (hi lo y : Nat) (hlo : lo < 18446744073709551616) (hy : y < 18446744073709551616) (hh : hi < y) : Ret Tryz.prog GEs 115 [u hi, u lo, u y] (.tup [u ((hi * 18446744073709551616 + lo) / y), u ((hi * 18446744073709551616 + lo) % y)]) := by
  refine RetN_start Tryz.func115 (by kernel_rfl) rfl fun Q hQ hQ2 => ?_; rw [Tryz.ntmps115]; simp only [u, i64, Nat.reduceSub, Nat.reduceAdd, bm]
  by_cases h0 : hi = 0
  · have hq : lo / y < 18446744073709551616 := Nat.lt_of_le_of_lt (Nat.div_le_self _ _) hlo
    (refine gO ?_)
    (refine FinQ hQ (congrArg Array.toList Tryz.results115) _ _ ?_); simp (disch := omega) only [u, i64, ax, if_true, forall_const, reduceCtorEq, implies_true, tvs, bf, h0, Nat.zero_mul, Nat.zero_add]
  have hb := bl_le (n := y) (k := 64) hy
  obtain ⟨hb1, hb2, hb3⟩ := bl_spec (n := y) (by omega)
  (refine gO ?_)
  (refine gC ?_)
  (refine callK_mem (ret_LeadingZeros64 y hy) rfl (by (simp (disch := omega) only [if_true, forall_const, reduceCtorEq, implies_true, bz]) <;> rfl) ?_; refine sX ?_; try refine aA ?_)
  obtain ⟨s, hs⟩ : ∃ s, 64 - bl y = s := ⟨_, rfl⟩
  have hs64 : s < 64 := by omega
  have hp : 2 ^ bl y * 2 ^ s = 18446744073709551616 := by rw [← Nat.pow_add, show bl y + s = 64 by omega]
  have hDB : y * 2 ^ s < 18446744073709551616 := by rw [← hp]; exact Nat.mul_lt_mul_of_pos_right hb2 (Nat.two_pow_pos s)
  have hD63 : 9223372036854775808 ≤ y * 2 ^ s := by
    have e : 2 ^ (bl y - 1) * 2 ^ s = 9223372036854775808 := by rw [← Nat.pow_add, show bl y - 1 + s = 63 by omega]
    rw [← e]; exact Nat.mul_le_mul_right _ hb1
  have hhD : (hi + 1) * 2 ^ s ≤ y * 2 ^ s := Nat.mul_le_mul_right _ hh
  rw [Nat.add_mul, Nat.one_mul] at hhD
  have hps := Nat.two_pow_pos s
  have hlo1 : lo / 2 ^ (64 - s) = lo * 2 ^ s / 18446744073709551616 := by
    rw [show 18446744073709551616 = 2 ^ (64 - s) * 2 ^ s by rw [← Nat.pow_add, show 64 - s + s = 64 by omega], Nat.mul_div_mul_right _ _ hps]
  have hlo2 : lo * 2 ^ s / 18446744073709551616 < 2 ^ s := div_lt_two lo s hlo
  have hor : hi * 2 ^ s ||| lo / 2 ^ (64 - s) = hi * 2 ^ s + lo * 2 ^ s / 18446744073709551616 := by
    rw [hlo1, Nat.mul_comm hi, ← Nat.two_pow_add_eq_or_of_lt hlo2]
  have hlo3 : lo / 2 ^ (64 - s) < 18446744073709551616 := Nat.lt_of_le_of_lt (Nat.div_le_self _ _) hlo
  have hxB : hi * 2 ^ s ||| lo / 2 ^ (64 - s) < 18446744073709551616 := by rw [hor]; omega
  have hv1 : 0 < y * 2 ^ s / 4294967296 := by omega
  have hstart := half_start (K := 4294967296) (D := y * 2 ^ s) (v1 := y * 2 ^ s / 4294967296) (v0 := y * 2 ^ s % 4294967296) (x := hi * 2 ^ s ||| lo / 2 ^ (64 - s)) (a := lo * 2 ^ s % 18446744073709551616 / 4294967296) (by omega) (by omega) (by omega) (by rw [hor]; omega) (by omega)
  simp only [hs]
  (refine gO ?_)
  generalize hxd : (hi * 2 ^ s ||| lo / 2 ^ (64 - s)) = x at *
  generalize hDd : y * 2 ^ s = D at *
  generalize hld : lo * 2 ^ s % 18446744073709551616 = l at *
  have hlB : l < 18446744073709551616 := by rw [← hld]; exact Nat.mod_lt _ (by decide)
  have hDv : D = D / 4294967296 * 4294967296 + D % 4294967296 := by omega
  have hv0 : D % 4294967296 < 4294967296 := Nat.mod_lt _ (by decide)
  have hv1B : D / 4294967296 < 4294967296 := by omega
  generalize D / 4294967296 = v1 at *
  generalize D % 4294967296 = v0 at *
  have ha : l / 4294967296 < 4294967296 := by omega
  have hb : l % 4294967296 < 4294967296 := Nat.mod_lt _ (by decide)
  generalize had : l / 4294967296 = a at *
  generalize hbd : l % 4294967296 = b at *
  have hxD : x < D := by rw [hor]; omega
  have hD0 : 0 < D := by omega
  have hq1 := half_lt hxD ha
  obtain ⟨q1, hq1d⟩ : ∃ q, (x * 4294967296 + a) / D = q := ⟨_, rfl⟩
  refine G_cutB (mk 135 [(2, u D), (8, u s), (9, u v1), (10, u v0), (11, u x), (13, u a), (14, u b), (15, u q1)] []) ?_ ?_
  · simp only [u, i64, Nat.reduceSub, Nat.reduceAdd, bm]
    have hrem := half_rem hxD hDB ha
    have hrD := Nat.mod_lt (x * 4294967296 + a) hD0
    have hU : (hi * 18446744073709551616 + lo) * 2 ^ s = (x * 4294967296 + a) * 4294967296 + b := by
      have h1 : lo * 2 ^ s = lo * 2 ^ s / 18446744073709551616 * 18446744073709551616 + l := by rw [← hld]; omega
      rw [Nat.add_mul, Nat.mul_right_comm, h1, hor]
      omega
    obtain ⟨hj1, hj2⟩ := div_join hD0 hU
    have hdiv : (hi * 18446744073709551616 + lo) / y = (x * 4294967296 + a) / D * 4294967296 + ((x * 4294967296 + a) % D * 4294967296 + b) / D := by
      rw [← hj1, ← hDd, Nat.mul_div_mul_right _ _ hps]
    have hmod : (hi * 18446744073709551616 + lo) % y = ((x * 4294967296 + a) % D * 4294967296 + b) % D / 2 ^ s := by
      rw [← hj2, ← hDd, Nat.mul_mod_mul_right, Nat.mul_div_cancel _ hps]
    obtain ⟨r1, hr1d⟩ : ∃ r, (x * 4294967296 + a) % D = r := ⟨_, rfl⟩
    rw [hq1d, hr1d] at hdiv
    rw [hr1d] at hmod hrD
    rw [hq1d, hr1d] at hrem
    rw [hdiv, hmod] at hQ
    rw [hq1d] at hq1
    clear hdiv hmod hj1 hj2 hU hor hlo1 hlo2 hlo3 hxB hxd hDd hld hstart had hbd hhD hp hlB
    refine G_sreg mixed (by first | rfl | kernel_rfl) ?_
    simp (disch := omega) only [u, i64, ax, eq_self, if_true, if_false, Nat.reduceAdd, Int.reduceToNat, Int.reduceAdd, tvs, bs, hrem]
    refine aft_any ?_
    have hrem2 := half_rem hrD hDB hb
    have hq2 := half_lt hrD hb
    have hstart2 := half_start (K := 4294967296) (a := b) hDv hv0 (by omega) hrD hb
    clear hrem ha
    (refine gO ?_)
    refine G_cutB (mk 135 [(2, u D), (8, u s), (14, u b), (15, u q1), (17, u r1), (18, u ((r1 * 4294967296 + b) / D))] []) ?_ ?_
    · simp only [u, i64, Nat.reduceSub, Nat.reduceAdd, bm]
      (refine gO ?_)
      (refine FinQ hQ (congrArg Array.toList Tryz.results115) _ _ ?_); simp (disch := omega) only [u, i64, ax, if_true, forall_const, reduceCtorEq, implies_true, tvs, bf, hrem2, Nat.mod_eq_of_lt (show q1 * 4294967296 < 18446744073709551616 by omega)]
    · refine AWp_loop (fun i : Nat × Nat => mk 135 [(2, u D), (8, u s), (9, u v1), (10, u v0), (14, u b), (15, u q1), (17, u r1), (18, u i.1), (16, u i.2)] [])
        (fun i => i.1 * v1 + i.2 = r1 ∧ (r1 * 4294967296 + b) / D ≤ i.1 ∧ i.2 < 4294967296 ∧ i.1 ≤ 4294967297) (fun i => i.1) (r1 / v1, r1 - r1 / v1 * v1) ?_ ⟨by simp only; omega, hstart2.1, by simp only; omega, hstart2.2.2.2⟩ ?_
      · simp only [u, i64, Nat.reduceSub, Nat.reduceAdd, bm]
      rintro ⟨Q1, R1⟩ ⟨g1, g2, g3, g4⟩
      simp only at g1 g2 g3 g4
      simp only [u, i64, Nat.reduceSub, Nat.reduceAdd, bm]
      have hbd2 := half_bound g4 hv0
      by_cases hc1 : 4294967296 ≤ Q1
      · have hlt : (r1 * 4294967296 + b) / D < Q1 := by omega
        have hpos : 1 ≤ Q1 := Nat.lt_of_le_of_lt (Nat.zero_le _) hlt
        have hnew : (Q1 - 1) * v1 + (R1 + v1) = r1 := by
          have : (Q1 - 1) * v1 + v1 = Q1 * v1 := by rw [← Nat.succ_mul, show (Q1 - 1).succ = Q1 by omega]
          omega
        by_cases h3 : 4294967296 ≤ R1 + v1
        · have hsm := half_small hDv hv0 hrD hnew h3
          have he := half_less (a := b) hDv hD0 hnew (half_break hv0 hsm h3)
          have e : Q1 - 1 = (r1 * 4294967296 + b) / D := by omega
          (refine gO ?_)
          refine ⟨rfl, ?_⟩
          rw [e]
          simp only [u, i64, Nat.reduceSub, Nat.reduceAdd, bm]
        · (refine gO ?_)
          refine ⟨(Q1 - 1, R1 + v1), ?_, ⟨hnew, Nat.le_sub_one_of_lt hlt, by simp only; omega, by simp only; omega⟩, by simp only; omega⟩
          simp only [u, i64, Nat.reduceSub, Nat.reduceAdd, bm]
      by_cases hc2 : 4294967296 * R1 + b < Q1 * v0
      · have hlt : (r1 * 4294967296 + b) / D < Q1 := half_more hDv hD0 g1 hc2
        have hpos : 1 ≤ Q1 := Nat.lt_of_le_of_lt (Nat.zero_le _) hlt
        have hnew : (Q1 - 1) * v1 + (R1 + v1) = r1 := by
          have : (Q1 - 1) * v1 + v1 = Q1 * v1 := by rw [← Nat.succ_mul, show (Q1 - 1).succ = Q1 by omega]
          omega
        by_cases h3 : 4294967296 ≤ R1 + v1
        · have hsm := half_small hDv hv0 hrD hnew h3
          have he := half_less (a := b) hDv hD0 hnew (half_break hv0 hsm h3)
          have e : Q1 - 1 = (r1 * 4294967296 + b) / D := by omega
          (refine gO ?_)
          refine ⟨rfl, ?_⟩
          rw [e]
          simp only [u, i64, Nat.reduceSub, Nat.reduceAdd, bm]
        · (refine gO ?_)
          refine ⟨(Q1 - 1, R1 + v1), ?_, ⟨hnew, Nat.le_sub_one_of_lt hlt, by simp only; omega, by simp only; omega⟩, by simp only; omega⟩
          simp only [u, i64, Nat.reduceSub, Nat.reduceAdd, bm]
      · have he := half_less (a := b) hDv hD0 g1 (by omega)
        have e : Q1 = (r1 * 4294967296 + b) / D := by omega
        (refine gO ?_)
        refine ⟨rfl, ?_⟩
        rw [e]
        simp only [u, i64, Nat.reduceSub, Nat.reduceAdd, bm]
  · refine AWp_loop (fun i : Nat × Nat => mk 135 [(2, u D), (8, u s), (9, u v1), (10, u v0), (11, u x), (13, u a), (14, u b), (15, u i.1), (16, u i.2)] [])
      (fun i => i.1 * v1 + i.2 = x ∧ (x * 4294967296 + a) / D ≤ i.1 ∧ i.2 < 4294967296 ∧ i.1 ≤ 4294967297) (fun i => i.1) (x / v1, x - x / v1 * v1) ?_ ⟨by simp only; omega, hstart.1, by simp only; omega, hstart.2.2.2⟩ ?_
    · simp only [u, i64, Nat.reduceSub, Nat.reduceAdd, bm]
    rintro ⟨Q1, R1⟩ ⟨g1, g2, g3, g4⟩
    simp only at g1 g2 g3 g4
    simp only [u, i64, Nat.reduceSub, Nat.reduceAdd, bm]
    have hbd2 := half_bound g4 hv0
    by_cases hc1 : 4294967296 ≤ Q1
    · have hlt : (x * 4294967296 + a) / D < Q1 := by omega
      have hpos : 1 ≤ Q1 := Nat.lt_of_le_of_lt (Nat.zero_le _) hlt
      have hnew : (Q1 - 1) * v1 + (R1 + v1) = x := by
        have : (Q1 - 1) * v1 + v1 = Q1 * v1 := by rw [← Nat.succ_mul, show (Q1 - 1).succ = Q1 by omega]
        omega
      by_cases h3 : 4294967296 ≤ R1 + v1
      · have hsm := half_small hDv hv0 hxD hnew h3
        have he := half_less (a := a) hDv hD0 hnew (half_break hv0 hsm h3)
        have e : Q1 - 1 = (x * 4294967296 + a) / D := by omega
        (refine gO ?_)
        refine ⟨rfl, ?_⟩
        rw [e, hq1d]
        simp only [u, i64, Nat.reduceSub, Nat.reduceAdd, bm]
      · (refine gO ?_)
        refine ⟨(Q1 - 1, R1 + v1), ?_, ⟨hnew, Nat.le_sub_one_of_lt hlt, by simp only; omega, by simp only; omega⟩, by simp only; omega⟩
        simp only [u, i64, Nat.reduceSub, Nat.reduceAdd, bm]
    by_cases hc2 : 4294967296 * R1 + a < Q1 * v0
    · have hlt : (x * 4294967296 + a) / D < Q1 := half_more hDv hD0 g1 hc2
      have hpos : 1 ≤ Q1 := Nat.lt_of_le_of_lt (Nat.zero_le _) hlt
      have hnew : (Q1 - 1) * v1 + (R1 + v1) = x := by
        have : (Q1 - 1) * v1 + v1 = Q1 * v1 := by rw [← Nat.succ_mul, show (Q1 - 1).succ = Q1 by omega]
        omega
      by_cases h3 : 4294967296 ≤ R1 + v1
      · have hsm := half_small hDv hv0 hxD hnew h3
        have he := half_less (a := a) hDv hD0 hnew (half_break hv0 hsm h3)
        have e : Q1 - 1 = (x * 4294967296 + a) / D := by omega
        (refine gO ?_)
        refine ⟨rfl, ?_⟩
        rw [e, hq1d]
        simp only [u, i64, Nat.reduceSub, Nat.reduceAdd, bm]
      · (refine gO ?_)
        refine ⟨(Q1 - 1, R1 + v1), ?_, ⟨hnew, Nat.le_sub_one_of_lt hlt, by simp only; omega, by simp only; omega⟩, by simp only; omega⟩
        simp only [u, i64, Nat.reduceSub, Nat.reduceAdd, bm]
    · have he := half_less (a := a) hDv hD0 g1 (by omega)
      have e : Q1 = (x * 4294967296 + a) / D := by omega
      (refine gO ?_)
      refine ⟨rfl, ?_⟩
      rw [e, hq1d]
      simp only [u, i64, Nat.reduceSub, Nat.reduceAdd, bm]
end Go.Proofs
