/-
  Contracts of functions of the program, each proved by a walk.
-/
import Derived.Test.YtpnljnmpocobjaaGreatDoorV29
set_option maxRecDepth 100000
set_option linter.unusedVariables false
set_option linter.unusedSimpArgs false
set_option maxHeartbeats 4000000
namespace Go.Proofs
open Go.Ax
def sgnI (z : Int) : Int := if z < 0 then -1 else if 0 < z then 1 else 0
/-- z / d is M times 10^E. -/
def val10 (z : Int) (d : Nat) (M E : Int) : Prop := z * ((10 ^ (-E).toNat : Nat) : Int) = M * ((10 ^ E.toNat : Nat) : Int) * d
theorem icancel {a b : Int} {k : Nat} (hk : 0 < k) (h : a * (k : Int) = b * k) : a = b := Int.eq_of_mul_eq_mul_right (by omega) h
theorem val10_iff {z : Int} {d : Nat} {M E : Int} (K : Nat) (h : 0 ≤ E + K) : val10 z d M E ↔ z * ((10 ^ K : Nat) : Int) = M * ((10 ^ (E + K).toNat : Nat) : Int) * d := by
  unfold val10
  obtain ⟨j, rfl⟩ : ∃ j, K = (-E).toNat + j := ⟨K - (-E).toNat, by omega⟩
  have e1 : (E + (((-E).toNat + j : Nat) : Int)).toNat = E.toNat + j := by omega
  have hp := ten_pos j
  rw [e1, Nat.pow_add, Nat.pow_add]
  generalize 10 ^ (-E).toNat = A at *
  generalize 10 ^ E.toNat = B at *
  generalize 10 ^ j = J at *
  rw [Int.natCast_mul, Int.natCast_mul, ← Int.mul_assoc, ← Int.mul_assoc, Int.mul_right_comm (M * (B : Int)) (J : Int)]
  exact ⟨fun h => by rw [h], fun h => icancel hp h⟩
theorem val10_low {z0 z : Int} {d0 d g : Nat} {M E : Int} (h : val10 z0 d0 M E) (hg : 0 < g) (h1 : z0 = z * g) (h2 : d0 = d * g) : val10 z d M E := by
  unfold val10 at *
  subst h1 h2
  rw [Int.natCast_mul, Int.mul_right_comm, ← Int.mul_assoc] at h
  exact icancel hg h
theorem val10_up {z : Int} {d : Nat} {M E : Int} (E' : Int) (h : E' ≤ E) : val10 z d M E ↔ val10 z d (M * ((10 ^ (E - E').toNat : Nat) : Int)) E' := by
  obtain ⟨K, hK⟩ : ∃ K : Nat, 0 ≤ E' + K := ⟨(-E').toNat, by omega⟩
  rw [val10_iff K (by omega), val10_iff K hK]
  rw [show (E + K).toNat = (E - E').toNat + (E' + K).toNat by omega, Nat.pow_add, Int.natCast_mul, ← Int.mul_assoc]
theorem val10_add {z1 z2 : Int} {d1 d2 : Nat} {M1 M2 E1 E2 : Int} (h1 : val10 z1 d1 M1 E1) (h2 : val10 z2 d2 M2 E2) (E : Int) (l1 : E ≤ E1) (l2 : E ≤ E2) :
    val10 (z1 * d2 + z2 * d1) (d1 * d2) (M1 * ((10 ^ (E1 - E).toNat : Nat) : Int) + M2 * ((10 ^ (E2 - E).toNat : Nat) : Int)) E := by
  rw [val10_up E l1] at h1
  rw [val10_up E l2] at h2
  generalize M1 * ((10 ^ (E1 - E).toNat : Nat) : Int) = A at *
  generalize M2 * ((10 ^ (E2 - E).toNat : Nat) : Int) = B at *
  unfold val10 at *
  generalize ((10 ^ (-E).toNat : Nat) : Int) = P at *
  generalize ((10 ^ E.toNat : Nat) : Int) = T at *
  rw [Int.add_mul, Int.add_mul, Int.add_mul, Int.natCast_mul, Int.mul_right_comm z1, h1, Int.mul_right_comm z2, h2]
  simp only [Int.mul_assoc, Int.mul_comm, Int.mul_left_comm]
theorem val10_mul {z1 z2 : Int} {d1 d2 : Nat} {M1 M2 E1 E2 : Int} (h1 : val10 z1 d1 M1 E1) (h2 : val10 z2 d2 M2 E2) : val10 (z1 * z2) (d1 * d2) (M1 * M2) (E1 + E2) := by
  rw [val10_iff (-E1).toNat (by omega)] at h1
  rw [val10_iff (-E2).toNat (by omega)] at h2
  rw [val10_iff ((-E1).toNat + (-E2).toNat) (by omega)]
  have e : (E1 + E2 + (((-E1).toNat + (-E2).toNat : Nat) : Int)).toNat = (E1 + ((-E1).toNat : Int)).toNat + (E2 + ((-E2).toNat : Int)).toNat := by omega
  rw [e, Nat.pow_add, Nat.pow_add, Int.natCast_mul, Int.natCast_mul, Int.natCast_mul]
  generalize ((10 ^ (-E1).toNat : Nat) : Int) = P1 at *
  generalize ((10 ^ (-E2).toNat : Nat) : Int) = P2 at *
  generalize ((10 ^ (E1 + ((-E1).toNat : Int)).toNat : Nat) : Int) = T1 at *
  generalize ((10 ^ (E2 + ((-E2).toNat : Int)).toNat : Nat) : Int) = T2 at *
  calc z1 * z2 * (P1 * P2) = (z1 * P1) * (z2 * P2) := by simp only [Int.mul_assoc, Int.mul_comm, Int.mul_left_comm]
    _ = (M1 * T1 * d1) * (M2 * T2 * d2) := by rw [h1, h2]
    _ = _ := by simp only [Int.mul_assoc, Int.mul_comm, Int.mul_left_comm]
theorem val10_cmp {z1 z2 : Int} {d1 d2 : Nat} {M E : Int} (h1 : val10 z1 d1 M E) (h2 : val10 z2 d2 M E) : z1 * d2 - z2 * d1 = 0 := by
  unfold val10 at *
  have hp := ten_pos (-E).toNat
  have : z1 * d2 = z2 * d1 := by
    refine icancel hp ?_
    rw [Int.mul_right_comm, h1, Int.mul_right_comm z2, h2]
    simp only [Int.mul_assoc, Int.mul_comm, Int.mul_left_comm]
  omega
theorem val10_zero {z : Int} {d : Nat} {M E : Int} (hd : d ≠ 0) (h : val10 z d M E) : z = 0 ↔ M = 0 := by
  unfold val10 at h
  have hp := ten_pos (-E).toNat
  have hq := ten_pos E.toNat
  constructor
  · intro h0
    rw [h0, Int.zero_mul] at h
    rcases Int.mul_eq_zero.1 h.symm with h | h
    · rcases Int.mul_eq_zero.1 h with h | h
      · exact h
      · omega
    · omega
  · intro h0
    rw [h0, Int.zero_mul, Int.zero_mul] at h
    rcases Int.mul_eq_zero.1 h with h | h
    · exact h
    · omega
theorem val10_abs {z : Int} {d : Nat} {M E : Int} (h : val10 z d M E) : z.natAbs * 10 ^ (-E).toNat = M.natAbs * 10 ^ E.toNat * d := by
  unfold val10 at h
  have := congrArg Int.natAbs h
  rwa [Int.natAbs_mul, Int.natAbs_mul, Int.natAbs_mul, Int.natAbs_natCast, Int.natAbs_natCast, Int.natAbs_natCast] at this
/-- 10^L is at most n / d. -/
def tle (n d : Nat) (L : Int) : Prop := d * 10 ^ L.toNat ≤ n * 10 ^ (-L).toNat
theorem tle_num (m : Nat) (e L : Int) (hm : m ≠ 0) : tle (m * 10 ^ e.toNat) (10 ^ (-e).toNat) L ↔ L ≤ e + dg m - 1 := by
  unfold tle
  rw [Nat.mul_assoc, ← Nat.pow_add, ← Nat.pow_add]
  have hd := (dg_spec m hm).2.2
  by_cases h : L ≤ e
  · obtain ⟨j, hj⟩ : ∃ j, e.toNat + (-L).toNat = (-e).toNat + L.toNat + j := ⟨e.toNat + (-L).toNat - ((-e).toNat + L.toNat), by omega⟩
    rw [hj, Nat.pow_add _ _ j, Nat.mul_left_comm]
    refine ⟨fun _ => by omega, fun _ => Nat.le_mul_of_pos_right _ (Nat.mul_pos (by omega) (ten_pos _))⟩
  · obtain ⟨j, hj⟩ : ∃ j, (-e).toNat + L.toNat = j + (e.toNat + (-L).toNat) := ⟨(L - e).toNat, by omega⟩
    rw [hj, Nat.pow_add 10 j]
    have hc : 10 ^ j * 10 ^ (e.toNat + (-L).toNat) ≤ m * 10 ^ (e.toNat + (-L).toNat) ↔ 10 ^ j ≤ m := Nat.mul_le_mul_right_iff (ten_pos _)
    rw [hc]
    constructor
    · intro h1
      have := dg_ge h1
      omega
    · intro h1
      refine Classical.byContradiction fun h2 => ?_
      have := dg_le (n := m) (k := j) (by omega)
      omega
theorem tle_eq {n d n' d' : Nat} (h : n * d' = n' * d) (hd : 0 < d) (hd' : 0 < d') (L : Int) : tle n d L ↔ tle n' d' L := by
  unfold tle
  generalize 10 ^ L.toNat = X
  generalize 10 ^ (-L).toNat = Y
  have e1 : n * Y * d' = n' * Y * d := by rw [Nat.mul_right_comm, h, Nat.mul_right_comm]
  have e2 : d * X * d' = d' * X * d := by rw [Nat.mul_right_comm, Nat.mul_comm d d', Nat.mul_right_comm]
  constructor
  · intro h1
    have := Nat.mul_le_mul_right d' h1
    rw [e1, e2] at this
    exact Nat.le_of_mul_le_mul_right this hd
  · intro h1
    have := Nat.mul_le_mul_right d h1
    rw [← e1, ← e2] at this
    exact Nat.le_of_mul_le_mul_right this hd'
theorem tle_dg1 {n d : Nat} (hn : n ≠ 0) (hd : d ≠ 0) : ¬ tle n d ((dg n : Int) - dg d + 1) := by
  unfold tle
  obtain ⟨a1, a2, a3⟩ := dg_spec n hn
  obtain ⟨b1, b2, b3⟩ := dg_spec d hd
  generalize hL : (dg n : Int) - dg d + 1 = L
  have h1 : 10 ^ (dg d - 1) * 10 ^ L.toNat ≤ d * 10 ^ L.toNat := Nat.mul_le_mul_right _ b1
  have h2 : n * 10 ^ (-L).toNat < 10 ^ dg n * 10 ^ (-L).toNat := Nat.mul_lt_mul_of_pos_right a2 (ten_pos _)
  rw [← Nat.pow_add] at h1 h2
  rw [show dg d - 1 + L.toNat = dg n + (-L).toNat by omega] at h1
  omega
theorem tle_dg0 {n d : Nat} (hn : n ≠ 0) (hd : d ≠ 0) : tle n d ((dg n : Int) - dg d - 1) := by
  unfold tle
  obtain ⟨a1, a2, a3⟩ := dg_spec n hn
  obtain ⟨b1, b2, b3⟩ := dg_spec d hd
  generalize hL : (dg n : Int) - dg d - 1 = L
  have h1 : d * 10 ^ L.toNat ≤ 10 ^ dg d * 10 ^ L.toNat := Nat.mul_le_mul_right _ (Nat.le_of_lt b2)
  have h2 : 10 ^ (dg n - 1) * 10 ^ (-L).toNat ≤ n * 10 ^ (-L).toNat := Nat.mul_le_mul_right _ a1
  rw [← Nat.pow_add] at h1 h2
  rw [show dg d + L.toNat = dg n - 1 + (-L).toNat by omega] at h1
  exact Nat.le_trans h1 h2
/-- What the reference finds as the logarithm. -/
theorem log_val {n d m : Nat} {e : Int} (hn : n ≠ 0) (hd : d ≠ 0) (hm : m ≠ 0) (h : n * 10 ^ (-e).toNat = m * 10 ^ e.toNat * d) :
    (tle n d ((dg n : Int) - dg d) → e + dg m - 1 = (dg n : Int) - dg d) ∧ (¬ tle n d ((dg n : Int) - dg d) → e + dg m - 1 = (dg n : Int) - dg d - 1) := by
  have key : ∀ L, tle n d L ↔ L ≤ e + dg m - 1 := fun L => (tle_eq h (by omega) (ten_pos _) L).trans (tle_num m e L hm)
  have h1 := tle_dg1 hn hd
  have h0 := tle_dg0 hn hd
  rw [key] at h1 h0
  constructor
  · intro h; rw [key] at h; omega
  · intro h; rw [key] at h; omega
/-- What is exact is a whole number of steps. -/
theorem whole_val {n d m : Nat} {e s : Int} (hd : d ≠ 0) (hm : m ≠ 0) (h : n * 10 ^ (-e).toNat = m * 10 ^ e.toNat * d) (hs : e < s) (hx : d * 10 ^ s.toNat ∣ n * 10 ^ (-s).toNat) : s ≤ e + st m := by
  obtain ⟨w, hw⟩ := hx
  have e1 : d * (w * 10 ^ (s.toNat + (-e).toNat)) = d * (m * 10 ^ (e.toNat + (-s).toNat)) := by
    have : n * 10 ^ (-s).toNat * 10 ^ (-e).toNat = d * 10 ^ s.toNat * w * 10 ^ (-e).toNat := by rw [hw]
    rw [Nat.mul_right_comm, h] at this
    rw [Nat.pow_add, Nat.pow_add]
    generalize 10 ^ s.toNat = A at *
    generalize 10 ^ (-s).toNat = B at *
    generalize 10 ^ e.toNat = C at *
    generalize 10 ^ (-e).toNat = D at *
    calc d * (w * (A * D)) = d * A * w * D := by simp only [Nat.mul_assoc, Nat.mul_comm, Nat.mul_left_comm]
      _ = m * C * d * B := this.symm
      _ = _ := by simp only [Nat.mul_assoc, Nat.mul_comm, Nat.mul_left_comm]
  have e2 := Nat.eq_of_mul_eq_mul_left (by omega) e1
  rw [show s.toNat + (-e).toNat = (s - e).toNat + (e.toNat + (-s).toNat) by omega, Nat.pow_add, ← Nat.mul_assoc] at e2
  have e3 := Nat.eq_of_mul_eq_mul_right (ten_pos _) e2
  have : m % 10 ^ (s - e).toNat = 0 := by rw [← e3]; exact Nat.mul_mod_left _ _
  rw [st_dvd hm] at this
  omega
set_option maxRecDepth 100000 in
theorem ret_Sign12 (neg : Bool) (xs ds : List Nat) (hx : Wd xs) (hl : xs.length ≤ 34359738368) : Ret Tryz.prog GEs 78 [.agg [.bool neg, ws xs, ws ds]] (i64 (sgn neg (val xs))) := by
  refine RetN_start Tryz.func78 (by kernel_rfl) rfl fun Q hQ hQ2 => ?_; rw [Tryz.ntmps78]; simp only [u, i64, Nat.reduceSub, Nat.reduceAdd, bm]
  repeat (first | (refine gC ?_; first | refine aA ?_ | (refine cR (ret_Sign11 neg xs hx hl) ?_; refine sX ?_; try refine aA ?_)) | (refine cR (ret_Sign11 neg xs hx hl) ?_; refine sX ?_; try refine aA ?_) | refine gS ?_)
  (refine FinQ hQ (congrArg Array.toList Tryz.results78) _ _ ?_); simp (disch := omega) only [u, i64, ax, if_true, forall_const, reduceCtorEq, implies_true, tvs, bf]
theorem ret_Make11z (neg : Bool) (xs : List Nat) (hx : Wd xs) (hl : xs.length ≤ 34359738368) : Ret Tryz.prog GEs 84 [.bool neg, ws xs] (zv (sg neg (val xs))) := mk_zv neg (val xs) ▸ ret_Make11 neg xs hx hl
theorem sg_mul (a b : Bool) (x y : Nat) : sg (a != b) (x * y) = sg a x * sg b y := by
  unfold sg
  cases a <;> cases b <;> simp [Int.neg_mul, Int.mul_neg]
theorem ret_Mul03 (a b : Bool) (xs ys : List Nat) (hx : Wd xs) (hy : Wd ys) (hl : xs.length ≤ 1000000) (hl2 : ys.length ≤ 1000000) : Ret Tryz.prog GEs 172 [.agg [.bool a, ws xs], .agg [.bool b, ws ys]] (zv (sg a (val xs) * sg b (val ys))) := by
  have hM := ret_rMul xs ys hx hy (by omega) (by omega)
  have h1 := length_words_val_le hx
  have h2 := length_words_val_le hy
  have h3 := length_mul (val xs) (val ys)
  have hK := ret_Make03 (a != b) (words (val xs * val ys)) (Wd_words _) (by omega)
  rw [val_words, sg_mul] at hK
  generalize sg a (val xs) * sg b (val ys) = z at *
  unfold zv at *
  refine RetN_start Tryz.func172 (by kernel_rfl) rfl fun Q hQ hQ2 => ?_; rw [Tryz.ntmps172]; simp only [u, i64, Nat.reduceSub, Nat.reduceAdd, bm]
  repeat (first | (refine gC ?_; first | refine aA ?_ | ((first | refine cR hM ?_ | refine cR hK ?_); refine sX ?_; try refine aA ?_)) | ((first | refine cR hM ?_ | refine cR hK ?_); refine sX ?_; try refine aA ?_) | refine gS ?_)
  (refine FinQ hQ (congrArg Array.toList Tryz.results172) _ _ ?_); simp (disch := omega) only [u, i64, ax, if_true, forall_const, reduceCtorEq, implies_true, tvs, bf]
theorem ret_Mul11 (a b : Bool) (xs ys : List Nat) (hx : Wd xs) (hy : Wd ys) (hl : xs.length ≤ 1000000) (hl2 : ys.length ≤ 1000000) : Ret Tryz.prog GEs 83 [.agg [.bool a, ws xs], .agg [.bool b, ws ys]] (zv (sg a (val xs) * sg b (val ys))) := by
  have hK := ret_Mul03 a b xs ys hx hy hl hl2
  generalize sg a (val xs) * sg b (val ys) = z at *
  unfold zv at *
  refine RetN_start Tryz.func83 (by kernel_rfl) rfl fun Q hQ hQ2 => ?_; rw [Tryz.ntmps83]; simp only [u, i64, Nat.reduceSub, Nat.reduceAdd, bm]
  repeat (first | (refine gC ?_; first | refine aA ?_ | (refine cR hK ?_; refine sX ?_; try refine aA ?_)) | (refine cR hK ?_; refine sX ?_; try refine aA ?_) | refine gS ?_)
  (refine FinQ hQ (congrArg Array.toList Tryz.results83) _ _ ?_); simp (disch := omega) only [u, i64, ax, if_true, forall_const, reduceCtorEq, implies_true, tvs, bf]
theorem sg_not (b : Bool) (y : Nat) : sg (!b) y = -sg b y := by unfold sg; cases b <;> simp
theorem ret_Neg03 (b : Bool) (ys : List Nat) (hy : Wd ys) (hl : ys.length ≤ 1000000) : Ret Tryz.prog GEs 241 [.agg [.bool b, ws ys]] (zv (-sg b (val ys))) := by
  have hK := ret_Make03 (!b) ys hy (by omega)
  rw [sg_not] at hK
  generalize -sg b (val ys) = z at *
  unfold zv at *
  refine RetN_start Tryz.func241 (by kernel_rfl) rfl fun Q hQ hQ2 => ?_; rw [Tryz.ntmps241]; simp only [u, i64, Nat.reduceSub, Nat.reduceAdd, bm]
  repeat (first | (refine gC ?_; first | refine aA ?_ | (refine cR hK ?_; refine sX ?_; try refine aA ?_)) | (refine cR hK ?_; refine sX ?_; try refine aA ?_) | refine gS ?_)
  (refine FinQ hQ (congrArg Array.toList Tryz.results241) _ _ ?_); simp (disch := omega) only [u, i64, ax, if_true, forall_const, reduceCtorEq, implies_true, tvs, bf]
theorem ret_Sub03 (a b : Bool) (xs ys : List Nat) (hx : Wd xs) (hy : Wd ys) (hl : xs.length ≤ 10000) (hl2 : ys.length ≤ 10000) : Ret Tryz.prog GEs 233 [.agg [.bool a, ws xs], .agg [.bool b, ws ys]] (zv (sg a (val xs) - sg b (val ys))) := by
  have hN := ret_Neg03 b ys hy (by omega)
  have h2 := length_words_val_le hy
  have hab : (-sg b (val ys)).natAbs = val ys := by unfold sg; split <;> omega
  have hA := ret_Add03 a (decide (-sg b (val ys) < 0)) xs (words (-sg b (val ys)).natAbs) hx (Wd_words _) hl (by rw [hab]; omega)
  rw [val_words, sg_zv, ← Int.sub_eq_add_neg] at hA
  generalize sg a (val xs) - sg b (val ys) = w at *
  generalize -sg b (val ys) = v at *
  unfold zv at *
  refine RetN_start Tryz.func233 (by kernel_rfl) rfl fun Q hQ hQ2 => ?_; rw [Tryz.ntmps233]; simp only [u, i64, Nat.reduceSub, Nat.reduceAdd, bm]
  repeat (first | (refine gC ?_; first | refine aA ?_ | ((first | refine cR hN ?_ | refine cR hA ?_); refine sX ?_; try refine aA ?_)) | ((first | refine cR hN ?_ | refine cR hA ?_); refine sX ?_; try refine aA ?_) | refine gS ?_)
  (refine FinQ hQ (congrArg Array.toList Tryz.results233) _ _ ?_); simp (disch := omega) only [u, i64, ax, if_true, forall_const, reduceCtorEq, implies_true, tvs, bf]
theorem ret_Sub11 (a b : Bool) (xs ys : List Nat) (hx : Wd xs) (hy : Wd ys) (hl : xs.length ≤ 10000) (hl2 : ys.length ≤ 10000) : Ret Tryz.prog GEs 171 [.agg [.bool a, ws xs], .agg [.bool b, ws ys]] (zv (sg a (val xs) - sg b (val ys))) := by
  have hA := ret_Sub03 a b xs ys hx hy hl hl2
  generalize sg a (val xs) - sg b (val ys) = w at *
  unfold zv at *
  refine RetN_start Tryz.func171 (by kernel_rfl) rfl fun Q hQ hQ2 => ?_; rw [Tryz.ntmps171]; simp only [u, i64, Nat.reduceSub, Nat.reduceAdd, bm]
  repeat (first | (refine gC ?_; first | refine aA ?_ | (refine cR hA ?_; refine sX ?_; try refine aA ?_)) | (refine cR hA ?_; refine sX ?_; try refine aA ?_) | refine gS ?_)
  (refine FinQ hQ (congrArg Array.toList Tryz.results171) _ _ ?_); simp (disch := omega) only [u, i64, ax, if_true, forall_const, reduceCtorEq, implies_true, tvs, bf]
theorem sgn_zv (z : Int) : sgn (decide (z < 0)) z.natAbs = sgnI z := by
  unfold sgn sgnI
  by_cases h0 : z = 0
  · subst h0; rfl
  · rw [if_neg (by omega)]
    by_cases h : z < 0
    · rw [decT h, if_pos rfl, if_pos h]
    · rw [decF h, if_neg (by decide), if_neg h, if_pos (by omega)]
theorem ret_Cmp11 (a b : Bool) (xs ys : List Nat) (hx : Wd xs) (hy : Wd ys) (hl : xs.length ≤ 10000) (hl2 : ys.length ≤ 10000) : Ret Tryz.prog GEs 82 [.agg [.bool a, ws xs], .agg [.bool b, ws ys]] (i64 (sgnI (sg a (val xs) - sg b (val ys)))) := by
  have hS := ret_Sub11 a b xs ys hx hy hl hl2
  have h1 := length_words_val_le hx
  have h2 := length_words_val_le hy
  have hlen : (words (sg a (val xs) - sg b (val ys)).natAbs).length ≤ 20002 := by
    have h3 : (sg a (val xs) - sg b (val ys)).natAbs ≤ val xs + val ys := by unfold sg; split <;> split <;> omega
    have := length_mono h3
    have := length_add (val xs) (val ys)
    omega
  have hG := ret_Sign11 (decide (sg a (val xs) - sg b (val ys) < 0)) (words (sg a (val xs) - sg b (val ys)).natAbs) (Wd_words _) (by omega)
  rw [val_words, sgn_zv] at hG
  generalize sg a (val xs) - sg b (val ys) = w at *
  unfold zv at *
  refine RetN_start Tryz.func82 (by kernel_rfl) rfl fun Q hQ hQ2 => ?_; rw [Tryz.ntmps82]; simp only [u, i64, Nat.reduceSub, Nat.reduceAdd, bm]
  repeat (first | (refine gC ?_; first | refine aA ?_ | ((first | refine cR hS ?_ | refine cR hG ?_); refine sX ?_; try refine aA ?_)) | ((first | refine cR hS ?_ | refine cR hG ?_); refine sX ?_; try refine aA ?_) | refine gS ?_)
  (refine FinQ hQ (congrArg Array.toList Tryz.results82) _ _ ?_); simp (disch := omega) only [u, i64, ax, if_true, forall_const, reduceCtorEq, implies_true, tvs, bf]
/-- The reference compares two fractions. -/
def cpQ (a : Bool) (n d : Nat) (b : Bool) (n' d' : Nat) : Int := sgnI (sg a n * d' - sg b n' * d)
theorem sg_false (n : Nat) : sg false n = n := rfl
theorem ret_Cmp12 (a b : Bool) (ns dn ms en : List Nat) (hn : Wd ns) (hd : Wd dn) (hm : Wd ms) (he : Wd en) (l1 : ns.length ≤ 2000) (l2 : dn.length ≤ 2000) (l3 : ms.length ≤ 2000) (l4 : en.length ≤ 2000) :
    Ret Tryz.prog GEs 24 [.agg [.bool a, ws ns, ws dn], .agg [.bool b, ws ms, ws en]] (i64 (cpQ a (val ns) (val dn) b (val ms) (val en))) := by
  have v1 := length_words_val_le hn
  have v2 := length_words_val_le hd
  have v3 := length_words_val_le hm
  have v4 := length_words_val_le he
  have hM1 := ret_Make11z false en he (by omega)
  have hM2 := ret_Make11z false dn hd (by omega)
  rw [sg_false] at hM1 hM2
  have hX1 := ret_Mul11 a false ns (words (val en)) hn (Wd_words _) (by omega) (by omega)
  have hX2 := ret_Mul11 b false ms (words (val dn)) hm (Wd_words _) (by omega) (by omega)
  rw [val_words, sg_false] at hX1 hX2
  have ab : ∀ (c : Bool) (x y : Nat), (sg c x * (y : Int)).natAbs = x * y := fun c x y => by
    rw [Int.natAbs_mul, Int.natAbs_natCast]
    congr 1
    unfold sg; split <;> omega
  have m1 := length_mul (val ns) (val en)
  have m2 := length_mul (val ms) (val dn)
  have hC := ret_Cmp11 (decide (sg a (val ns) * (val en : Int) < 0)) (decide (sg b (val ms) * (val dn : Int) < 0)) (words (sg a (val ns) * (val en : Int)).natAbs) (words (sg b (val ms) * (val dn : Int)).natAbs) (Wd_words _) (Wd_words _) (by rw [ab]; omega) (by rw [ab]; omega)
  rw [val_words, val_words, sg_zv, sg_zv] at hC
  unfold cpQ
  have z1 : zv (val en : Int) = .agg [.bool false, nat (val en)] := by unfold zv; rw [decF (show ¬ (val en : Int) < 0 by omega), Int.natAbs_natCast]
  have z2 : zv (val dn : Int) = .agg [.bool false, nat (val dn)] := by unfold zv; rw [decF (show ¬ (val dn : Int) < 0 by omega), Int.natAbs_natCast]
  rw [z1] at hM1
  rw [z2] at hM2
  generalize sg a (val ns) * (val en : Int) = P at *
  generalize sg b (val ms) * (val dn : Int) = R at *
  unfold zv at *
  refine RetN_start Tryz.func24 (by kernel_rfl) rfl fun Q hQ hQ2 => ?_; rw [Tryz.ntmps24]; simp only [u, i64, Nat.reduceSub, Nat.reduceAdd, bm]
  repeat (first | (refine gC ?_; first | refine aA ?_ | ((first | refine cR hM1 ?_ | refine cR hX1 ?_ | refine cR hM2 ?_ | refine cR hX2 ?_ | refine cR hC ?_); refine sX ?_; try refine aA ?_)) | ((first | refine cR hM1 ?_ | refine cR hX1 ?_ | refine cR hM2 ?_ | refine cR hX2 ?_ | refine cR hC ?_); refine sX ?_; try refine aA ?_) | refine gS ?_)
  (refine FinQ hQ (congrArg Array.toList Tryz.results24) _ _ ?_); simp (disch := omega) only [u, i64, ax, if_true, forall_const, reduceCtorEq, implies_true, tvs, bf]
def qz (z : Int) (d : Nat) : AV := .agg [.bool (decide (z < 0)), nat z.natAbs, nat d]
theorem sg_mulr (neg : Bool) (n k : Nat) : sg neg (n * k) = sg neg n * k := by
  unfold sg
  cases neg <;> simp [Int.neg_mul]
theorem Low.absle {z0 : Int} {d0 : Nat} {z : Int} {d g : Nat} (h : Low z0 d0 z d g) : z.natAbs ≤ z0.natAbs ∧ d ≤ d0 := by
  have h0 := h.g0
  rw [h.num, h.den, Int.natAbs_mul, Int.natAbs_natCast]
  exact ⟨Nat.le_mul_of_pos_right _ h0, Nat.le_mul_of_pos_right _ h0⟩
theorem ret_NormZ (neg : Bool) (ns ds : List Nat) (hn : Wd ns) (hd : Wd ds) (hln : ns.length ≤ 100000) (hld : ds.length ≤ 100000) (h0 : val ds ≠ 0) :
    ∃ z d g, Low (sg neg (val ns)) (val ds) z d g ∧ Ret Tryz.prog GEs 94 [.agg [.bool neg, ws ns, ws ds]] (qz z d) := by
  have h := ret_Norm neg ns ds hn hd (by omega) (by omega) h0
  have hg : 0 < Nat.gcd (val ns) (val ds) := Nat.pos_of_ne_zero fun h => h0 (Nat.eq_zero_of_gcd_eq_zero_right h)
  have e1 := Nat.div_mul_cancel (Nat.gcd_dvd_left (val ns) (val ds))
  have e2 := Nat.div_mul_cancel (Nat.gcd_dvd_right (val ns) (val ds))
  generalize Nat.gcd (val ns) (val ds) = g at *
  obtain ⟨b1, b2⟩ := sg_lt neg (val ns / g)
  refine ⟨sg neg (val ns / g), val ds / g, g, ⟨hg, fun h => h0 (by rw [← e2, h, Nat.zero_mul]), by rw [← sg_mulr, e1], e2.symm⟩, ?_⟩
  unfold qz
  rw [b2, ← b1]
  exact h
theorem ret_Make12z (neg : Bool) (ns ds : List Nat) (hn : Wd ns) (hd : Wd ds) (hln : ns.length ≤ 100000) (hld : ds.length ≤ 100000) (h0 : val ds ≠ 0) :
    ∃ z d g, Low (sg neg (val ns)) (val ds) z d g ∧ Ret Tryz.prog GEs 97 [.agg [.bool neg, ws ns], ws ds] (qz z d) := by
  obtain ⟨z, d, g, h, hN⟩ := ret_NormZ neg ns ds hn hd hln hld h0
  refine ⟨z, d, g, h, ?_⟩
  unfold qz at *
  refine RetN_start Tryz.func97 (by kernel_rfl) rfl fun Q hQ hQ2 => ?_; rw [Tryz.ntmps97]; simp only [u, i64, Nat.reduceSub, Nat.reduceAdd, bm]
  repeat (first | (refine gC ?_; first | refine aA ?_ | (refine cR hN ?_; refine sX ?_; try refine aA ?_)) | (refine cR hN ?_; refine sX ?_; try refine aA ?_) | refine gS ?_)
  (refine FinQ hQ (congrArg Array.toList Tryz.results97) _ _ ?_); simp (disch := omega) only [u, i64, ax, if_true, forall_const, reduceCtorEq, implies_true, tvs, bf]
set_option maxRecDepth 100000 in
theorem ret_Add12 (a b : Bool) (ns dn ms en : List Nat) (hn : Wd ns) (hd : Wd dn) (hm : Wd ms) (he : Wd en) (l1 : ns.length ≤ 2000) (l2 : dn.length ≤ 2000) (l3 : ms.length ≤ 2000) (l4 : en.length ≤ 2000) (h1 : val dn ≠ 0) (h2 : val en ≠ 0) :
    ∃ z d g, Low (sg a (val ns) * (val en : Int) + sg b (val ms) * (val dn : Int)) (val dn * val en) z d g ∧ Ret Tryz.prog GEs 64 [.agg [.bool a, ws ns, ws dn], .agg [.bool b, ws ms, ws en]] (qz z d) := by
  have v1 := length_words_val_le hn
  have v2 := length_words_val_le hd
  have v3 := length_words_val_le hm
  have v4 := length_words_val_le he
  have hM1 := ret_Make11z false en he (by omega)
  have hM2 := ret_Make11z false dn hd (by omega)
  rw [sg_false] at hM1 hM2
  have hX1 := ret_Mul11 a false ns (words (val en)) hn (Wd_words _) (by omega) (by omega)
  have hX2 := ret_Mul11 b false ms (words (val dn)) hm (Wd_words _) (by omega) (by omega)
  rw [val_words, sg_false] at hX1 hX2
  have ab : ∀ (c : Bool) (x y : Nat), (sg c x * (y : Int)).natAbs = x * y := fun c x y => by
    rw [Int.natAbs_mul, Int.natAbs_natCast, sg_abs]
  have m1 := length_mul (val ns) (val en)
  have m2 := length_mul (val ms) (val dn)
  have m3 := length_mul (val dn) (val en)
  have hA := ret_Add11 (decide (sg a (val ns) * (val en : Int) < 0)) (decide (sg b (val ms) * (val dn : Int) < 0)) (words (sg a (val ns) * (val en : Int)).natAbs) (words (sg b (val ms) * (val dn : Int)).natAbs) (Wd_words _) (Wd_words _) (by rw [ab]; omega) (by rw [ab]; omega)
  rw [val_words, val_words, sg_zv, sg_zv] at hA
  have hP := ret_rMul dn en hd he (by omega) (by omega)
  have sl := length_add (val ns * val en) (val ms * val dn)
  have hsl : (words (sg a (val ns) * (val en : Int) + sg b (val ms) * (val dn : Int)).natAbs).length ≤ 10000 := by
    have h3 : (sg a (val ns) * (val en : Int) + sg b (val ms) * (val dn : Int)).natAbs ≤ val ns * val en + val ms * val dn := by
      have := Int.natAbs_add_le (sg a (val ns) * (val en : Int)) (sg b (val ms) * (val dn : Int))
      rw [ab, ab] at this
      exact this
    have := length_mono h3
    omega
  obtain ⟨z, d, g, h, hK⟩ := ret_Make12z (decide (sg a (val ns) * (val en : Int) + sg b (val ms) * (val dn : Int) < 0)) (words (sg a (val ns) * (val en : Int) + sg b (val ms) * (val dn : Int)).natAbs) (words (val dn * val en)) (Wd_words _) (Wd_words _) (by omega) (by omega) (by rw [val_words]; exact Nat.mul_ne_zero h1 h2)
  rw [val_words, val_words, sg_zv] at h
  refine ⟨z, d, g, h, ?_⟩
  have z1 : zv (val en : Int) = .agg [.bool false, nat (val en)] := by unfold zv; rw [decF (show ¬ (val en : Int) < 0 by omega), Int.natAbs_natCast]
  have z2 : zv (val dn : Int) = .agg [.bool false, nat (val dn)] := by unfold zv; rw [decF (show ¬ (val dn : Int) < 0 by omega), Int.natAbs_natCast]
  rw [z1] at hM1
  rw [z2] at hM2
  generalize sg a (val ns) * (val en : Int) = P at *
  generalize sg b (val ms) * (val dn : Int) = R at *
  generalize P + R = S at *
  generalize val dn * val en = D at *
  unfold zv qz at *
  refine RetN_start Tryz.func64 (by kernel_rfl) rfl fun Q hQ hQ2 => ?_; rw [Tryz.ntmps64]; simp only [u, i64, Nat.reduceSub, Nat.reduceAdd, bm]
  (refine gO ?_)
  (first | refine G_stree (.step 0 (.step 1 (.step 2 (.step 3 (.step 4 (.step 5 (.step 6 (.step 7 (.step 8 (.step 9 (.step 10 (.step 11 (.alt 12 (.step 13 (.step 14 (.step 15 .done))) (.alt 13 (.step 12 (.step 14 (.step 15 .done))) .stop)))))))))))))) mixed (by kernel_rfl) ?_ | refine G_tree (.step 0 (.step 1 (.step 2 (.step 3 (.step 4 (.step 5 (.step 6 (.step 7 (.step 8 (.step 9 (.step 10 (.step 11 (.alt 12 (.step 13 (.step 14 (.step 15 .done))) (.alt 13 (.step 12 (.step 14 (.step 15 .done))) .stop)))))))))))))) mixed (by kernel_rfl) ?_); simp (disch := omega) only [u, i64, ax, eq_self, if_true, if_false, Nat.reduceAdd, Int.reduceToNat, Int.reduceAdd, tvs, bs, x_done, x_step, x_alt, x_stop, lk_0, lk_S, mpD_nil, mpD_cons]
  refine callK_ret (hM1) (by (simp (disch := omega) only [if_true, forall_const, reduceCtorEq, implies_true, bz]) <;> rfl) ?_; simp (disch := omega) only [u, i64, ax, eq_self, if_true, if_false, Nat.reduceAdd, Int.reduceToNat, Int.reduceAdd, tvs, bs, x_done, x_step, x_alt, x_stop, lk_0, lk_S, mpD_nil, mpD_cons]
  refine callK_ret (hX1) (by (simp (disch := omega) only [if_true, forall_const, reduceCtorEq, implies_true, bz]) <;> rfl) ?_; simp (disch := omega) only [u, i64, ax, eq_self, if_true, if_false, Nat.reduceAdd, Int.reduceToNat, Int.reduceAdd, tvs, bs, x_done, x_step, x_alt, x_stop, lk_0, lk_S, mpD_nil, mpD_cons]
  refine callK_ret (hM2) (by (simp (disch := omega) only [if_true, forall_const, reduceCtorEq, implies_true, bz]) <;> rfl) ?_; simp (disch := omega) only [u, i64, ax, eq_self, if_true, if_false, Nat.reduceAdd, Int.reduceToNat, Int.reduceAdd, tvs, bs, x_done, x_step, x_alt, x_stop, lk_0, lk_S, mpD_nil, mpD_cons]
  refine callK_ret (hX2) (by (simp (disch := omega) only [if_true, forall_const, reduceCtorEq, implies_true, bz]) <;> rfl) ?_; simp (disch := omega) only [u, i64, ax, eq_self, if_true, if_false, Nat.reduceAdd, Int.reduceToNat, Int.reduceAdd, tvs, bs, x_done, x_step, x_alt, x_stop, lk_0, lk_S, mpD_nil, mpD_cons]
  repeat' apply And.intro
  all_goals
    refine aft_any ?_
    repeat (first | (refine gC ?_; first | refine aA ?_ | ((first | refine cR hA ?_ | refine cR hP ?_ | refine cR hK ?_); refine sX ?_; try refine aA ?_)) | ((first | refine cR hA ?_ | refine cR hP ?_ | refine cR hK ?_); refine sX ?_; try refine aA ?_) | refine gS ?_)
    (refine FinQ hQ (congrArg Array.toList Tryz.results64) _ _ ?_); simp (disch := omega) only [u, i64, ax, if_true, forall_const, reduceCtorEq, implies_true, tvs, bf]
theorem ret_Cmp12z (z : Int) (d : Nat) (z' : Int) (d' : Nat) (l1 : (words z.natAbs).length ≤ 2000) (l2 : (words d).length ≤ 2000) (l3 : (words z'.natAbs).length ≤ 2000) (l4 : (words d').length ≤ 2000) :
    Ret Tryz.prog GEs 24 [qz z d, qz z' d'] (i64 (sgnI (z * d' - z' * d))) := by
  have h := ret_Cmp12 (decide (z < 0)) (decide (z' < 0)) (words z.natAbs) (words d) (words z'.natAbs) (words d') (Wd_words _) (Wd_words _) (Wd_words _) (Wd_words _) l1 l2 l3 l4
  unfold cpQ at h
  rw [val_words, val_words, val_words, val_words, sg_zv, sg_zv] at h
  exact h
def rq22 (neg : Bool) (n d : Nat) : AV := .agg [.bool neg, nat n, nat d, i64 0, i64 1]
theorem ret_OfRat22 (z : Int) (d : Nat) (lz : (words z.natAbs).length ≤ 100000) (ld : (words d).length ≤ 100000) : Ret Tryz.prog GEs 147 [qz z d] (rq22 (decide (z < 0)) z.natAbs d) := by
  have hS := ret_Sign12 (decide (z < 0)) (words z.natAbs) (words d) (Wd_words _) (by omega)
  have hT := ret_rTrim (words z.natAbs) (Wd_words _) (by omega)
  have hT2 := ret_rTrim (words d) (Wd_words _) (by omega)
  rw [val_words] at hS hT hT2
  have hs : sgn (decide (z < 0)) z.natAbs = if z < 0 then -1 else if z = 0 then 0 else 1 := by
    unfold sgn
    by_cases h : z < 0
    · rw [if_neg (by omega), decT h, if_pos rfl, if_pos h]
    · by_cases h0 : z = 0
      · rw [if_pos (by omega), if_neg h, if_pos h0]
      · rw [if_neg (by omega), decF h, if_neg (by decide), if_neg h, if_neg h0]
  rw [hs] at hS
  unfold qz rq22
  generalize z.natAbs = n at *
  by_cases h : z < 0
  · rw [if_pos h] at hS
    rw [decT h] at hS ⊢
    refine RetN_start Tryz.func147 (by kernel_rfl) rfl fun Q hQ hQ2 => ?_; rw [Tryz.ntmps147]; simp only [u, i64, Nat.reduceSub, Nat.reduceAdd, bm]
    (refine gO ?_)
    (refine gC ?_)
    (refine cR hS ?_; refine sX ?_; try refine aA ?_)
    skip
    (refine cR hT ?_; refine sX ?_; try refine aA ?_)
    skip
    repeat (first | (refine gC ?_; first | refine aA ?_ | (refine cR hT2 ?_; refine sX ?_; try refine aA ?_)) | (refine cR hT2 ?_; refine sX ?_; try refine aA ?_) | refine gS ?_)
    (refine FinQ hQ (congrArg Array.toList Tryz.results147) _ _ ?_); simp (disch := omega) only [u, i64, ax, if_true, forall_const, reduceCtorEq, implies_true, tvs, bf]
  · rw [decF h] at hS ⊢
    by_cases h0 : z = 0
    · rw [if_neg h, if_pos h0] at hS
      refine RetN_start Tryz.func147 (by kernel_rfl) rfl fun Q hQ hQ2 => ?_; rw [Tryz.ntmps147]; simp only [u, i64, Nat.reduceSub, Nat.reduceAdd, bm]
      (refine gO ?_)
      (refine gC ?_)
      (refine cR hS ?_; refine sX ?_; try refine aA ?_)
      skip
      (refine cR hT ?_; refine sX ?_; try refine aA ?_)
      skip
      repeat (first | (refine gC ?_; first | refine aA ?_ | (refine cR hT2 ?_; refine sX ?_; try refine aA ?_)) | (refine cR hT2 ?_; refine sX ?_; try refine aA ?_) | refine gS ?_)
      (refine FinQ hQ (congrArg Array.toList Tryz.results147) _ _ ?_); simp (disch := omega) only [u, i64, ax, if_true, forall_const, reduceCtorEq, implies_true, tvs, bf]
    · rw [if_neg h, if_neg h0] at hS
      refine RetN_start Tryz.func147 (by kernel_rfl) rfl fun Q hQ hQ2 => ?_; rw [Tryz.ntmps147]; simp only [u, i64, Nat.reduceSub, Nat.reduceAdd, bm]
      (refine gO ?_)
      (refine gC ?_)
      (refine cR hS ?_; refine sX ?_; try refine aA ?_)
      skip
      (refine cR hT ?_; refine sX ?_; try refine aA ?_)
      skip
      repeat (first | (refine gC ?_; first | refine aA ?_ | (refine cR hT2 ?_; refine sX ?_; try refine aA ?_)) | (refine cR hT2 ?_; refine sX ?_; try refine aA ?_) | refine gS ?_)
      (refine FinQ hQ (congrArg Array.toList Tryz.results147) _ _ ?_); simp (disch := omega) only [u, i64, ax, if_true, forall_const, reduceCtorEq, implies_true, tvs, bf]
set_option maxHeartbeats 4000000 in
theorem ret_Log22q (neg : Bool) (n d m : Nat) (e : Int) (hn : n ≠ 0) (hd : d ≠ 0) (hm : m ≠ 0) (h : n * 10 ^ (-e).toNat = m * 10 ^ e.toNat * d) (ln : (words n).length ≤ 2000) (ld : (words d).length ≤ 2000) :
    Ret Tryz.prog GEs 148 [rq22 neg n d] (i64 (e + dg m - 1)) := by
  obtain ⟨k1, k2⟩ := log_val hn hd hm h
  have hDn := ret_rDigits n hn (by omega)
  have hDd := ret_rDigits d hd (by omega)
  have bn := bl_len n
  have bd := bl_len d
  have gn := dg_le_bl n
  have gd := dg_le_bl d
  have tl : ∀ k, k ≤ 200000 → (words (10 ^ k)).length ≤ 63000 := fun k hk => ten_len (by omega)
  unfold tle at k1 k2
  have hL : ∀ L : Int, -200000 ≤ L ∧ L ≤ 200000 → Ret Tryz.prog GEs 218 [i64 L, i64 1] (i64 L) := fun L hL => ret_floor22 L (by omega) (by omega)
  generalize hD : (dg n : Int) - dg d = D at *
  have hDb : -200000 ≤ D ∧ D ≤ 200000 := by omega
  generalize e + (dg m : Int) - 1 = R at *
  unfold rq22
  by_cases hp : 0 < D
  · obtain ⟨j, rfl⟩ := Int.eq_ofNat_of_zero_le (show 0 ≤ D by omega)
    have e1 : ((j : Int)).toNat = j := rfl
    have e2 : (-(j : Int)).toNat = 0 := by omega
    rw [e1, e2, Nat.pow_zero, Nat.mul_one] at k1 k2
    have hT := ret_rTen j (by omega)
    have htl := tl j (by omega)
    have hM := ret_rMul (words d) (words (10 ^ j)) (Wd_words _) (Wd_words _) (by omega) (by omega)
    rw [val_words, val_words] at hM
    have hml := length_mul d (10 ^ j)
    have hC := ret_rCmp (words n) (words (d * 10 ^ j)) (Wd_words _) (Wd_words _) (by omega) (by omega)
    rw [val_words, val_words] at hC
    have hs := cmpI_sign n (d * 10 ^ j)
    generalize d * 10 ^ j = X at *
    generalize 10 ^ j = T at *
    generalize cmpI n X = c at *
    by_cases hx : X ≤ n
    · rw [k1 hx] at *
      have hF := hL j hDb
      have c1 := hs.1.2 hx
      clear k1 k2 hs hL tl h
      generalize dg n = A at *
      generalize dg d = B at *
      have hDn2 : A - B = j := by omega
      refine RetN_start Tryz.func148 (by kernel_rfl) rfl fun Q hQ hQ2 => ?_; rw [Tryz.ntmps148]; simp only [u, i64, Nat.reduceSub, Nat.reduceAdd, bm]
      (refine gO ?_)
      (refine gC ?_)
      (refine cR hDn ?_; refine sX ?_; try refine aA ?_)
      skip
      repeat (first | (refine gC ?_; first | refine aA ?_ | (refine cR hDd ?_; refine sX ?_; try refine aA ?_)) | (refine cR hDd ?_; refine sX ?_; try refine aA ?_) | refine gS ?_)
      rw [hDn2]
      repeat (first | (refine gC ?_; first | refine aA ?_ | ((first | refine cR hT ?_ | refine cR hM ?_ | refine cR hC ?_ | refine cR hF ?_); refine sX ?_; try refine aA ?_)) | ((first | refine cR hT ?_ | refine cR hM ?_ | refine cR hC ?_ | refine cR hF ?_); refine sX ?_; try refine aA ?_) | refine gS ?_)
      (refine FinQ hQ (congrArg Array.toList Tryz.results148) _ _ ?_); simp (disch := omega) only [u, i64, ax, if_true, forall_const, reduceCtorEq, implies_true, tvs, bf]
    · rw [k2 hx] at *
      have hF := hL ((j - 1 : Nat) : Int) (by omega)
      rw [show (j : Int) - 1 = ((j - 1 : Nat) : Int) by omega]
      have c1 := hs.2.1.2 (by omega)
      clear k1 k2 hs hL tl h
      generalize dg n = A at *
      generalize dg d = B at *
      have hDn2 : A - B = j := by omega
      refine RetN_start Tryz.func148 (by kernel_rfl) rfl fun Q hQ hQ2 => ?_; rw [Tryz.ntmps148]; simp only [u, i64, Nat.reduceSub, Nat.reduceAdd, bm]
      (refine gO ?_)
      (refine gC ?_)
      (refine cR hDn ?_; refine sX ?_; try refine aA ?_)
      skip
      repeat (first | (refine gC ?_; first | refine aA ?_ | (refine cR hDd ?_; refine sX ?_; try refine aA ?_)) | (refine cR hDd ?_; refine sX ?_; try refine aA ?_) | refine gS ?_)
      rw [hDn2]
      repeat (first | (refine gC ?_; first | refine aA ?_ | ((first | refine cR hT ?_ | refine cR hM ?_ | refine cR hC ?_ | refine cR hF ?_); refine sX ?_; try refine aA ?_)) | ((first | refine cR hT ?_ | refine cR hM ?_ | refine cR hC ?_ | refine cR hF ?_); refine sX ?_; try refine aA ?_) | refine gS ?_)
      (refine FinQ hQ (congrArg Array.toList Tryz.results148) _ _ ?_); simp (disch := omega) only [u, i64, ax, if_true, forall_const, reduceCtorEq, implies_true, tvs, bf]
  · obtain ⟨j, hj⟩ : ∃ j : Nat, -D = j := ⟨(-D).toNat, by omega⟩
    have e1 : D.toNat = 0 := by omega
    have e2 : (-D).toNat = j := by omega
    have hj2 : (0 : Int) - D = j := by omega
    rw [e1, e2, Nat.pow_zero, Nat.mul_one] at k1 k2
    have hT := ret_rTen j (by omega)
    have htl := tl j (by omega)
    have hM := ret_rMul (words n) (words (10 ^ j)) (Wd_words _) (Wd_words _) (by omega) (by omega)
    rw [val_words, val_words] at hM
    have hml := length_mul n (10 ^ j)
    have hC := ret_rCmp (words (n * 10 ^ j)) (words d) (Wd_words _) (Wd_words _) (by omega) (by omega)
    rw [val_words, val_words] at hC
    have hs := cmpI_sign (n * 10 ^ j) d
    generalize n * 10 ^ j = X at *
    generalize 10 ^ j = T at *
    generalize cmpI X d = c at *
    by_cases hx : d ≤ X
    · rw [k1 hx] at *
      have hF := hL D hDb
      have c1 := hs.1.2 hx
      clear k1 k2 hs hL tl h
      generalize dg n = A at *
      generalize dg d = B at *
      refine RetN_start Tryz.func148 (by kernel_rfl) rfl fun Q hQ hQ2 => ?_; rw [Tryz.ntmps148]; simp only [u, i64, Nat.reduceSub, Nat.reduceAdd, bm]
      (refine gO ?_)
      (refine gC ?_)
      (refine cR hDn ?_; refine sX ?_; try refine aA ?_)
      skip
      repeat (first | (refine gC ?_; first | refine aA ?_ | (refine cR hDd ?_; refine sX ?_; try refine aA ?_)) | (refine cR hDd ?_; refine sX ?_; try refine aA ?_) | refine gS ?_)
      rw [hD]
      (refine gO ?_)
      (refine gC ?_)
      rw [hj2]
      repeat (first | (refine gC ?_; first | refine aA ?_ | ((first | refine cR hT ?_ | refine cR hM ?_ | refine cR hC ?_); refine sX ?_; try refine aA ?_)) | ((first | refine cR hT ?_ | refine cR hM ?_ | refine cR hC ?_); refine sX ?_; try refine aA ?_) | refine gS ?_)
      (refine gC ?_)
      rw [Int.add_zero]
      repeat (first | (refine gC ?_; first | refine aA ?_ | (refine cR hF ?_; refine sX ?_; try refine aA ?_)) | (refine cR hF ?_; refine sX ?_; try refine aA ?_) | refine gS ?_)
      (refine FinQ hQ (congrArg Array.toList Tryz.results148) _ _ ?_); simp (disch := omega) only [u, i64, ax, if_true, forall_const, reduceCtorEq, implies_true, tvs, bf]
    · rw [k2 hx] at *
      have hF := hL (D - 1) (by omega)
      have c1 := hs.2.1.2 (by omega)
      clear k1 k2 hs hL tl h
      generalize dg n = A at *
      generalize dg d = B at *
      refine RetN_start Tryz.func148 (by kernel_rfl) rfl fun Q hQ hQ2 => ?_; rw [Tryz.ntmps148]; simp only [u, i64, Nat.reduceSub, Nat.reduceAdd, bm]
      (refine gO ?_)
      (refine gC ?_)
      (refine cR hDn ?_; refine sX ?_; try refine aA ?_)
      skip
      repeat (first | (refine gC ?_; first | refine aA ?_ | (refine cR hDd ?_; refine sX ?_; try refine aA ?_)) | (refine cR hDd ?_; refine sX ?_; try refine aA ?_) | refine gS ?_)
      rw [hD]
      (refine gO ?_)
      (refine gC ?_)
      rw [hj2]
      repeat (first | (refine gC ?_; first | refine aA ?_ | ((first | refine cR hT ?_ | refine cR hM ?_ | refine cR hC ?_); refine sX ?_; try refine aA ?_)) | ((first | refine cR hT ?_ | refine cR hM ?_ | refine cR hC ?_); refine sX ?_; try refine aA ?_) | refine gS ?_)
      (refine gC ?_)
      rw [Int.add_zero]
      repeat (first | (refine gC ?_; first | refine aA ?_ | (refine cR hF ?_; refine sX ?_; try refine aA ?_)) | (refine cR hF ?_; refine sX ?_; try refine aA ?_) | refine gS ?_)
      (refine FinQ hQ (congrArg Array.toList Tryz.results148) _ _ ?_); simp (disch := omega) only [u, i64, ax, if_true, forall_const, reduceCtorEq, implies_true, tvs, bf]
/-- Is something left of a half step? -/
theorem half_rest {n d : Nat} (hd : d ≠ 0) (h : ¬ (d ∣ n)) : (decide (2 * n / d % 2 = 1) || decide (2 * n % d ≠ 0)) = true := by
  by_cases h1 : 2 * n % d = 0
  · by_cases h2 : 2 * n / d % 2 = 1
    · rw [decT h2]; rfl
    · exfalso
      apply h
      refine ⟨2 * n / d / 2, ?_⟩
      have e1 := Nat.div_add_mod (2 * n) d
      have e2 := Nat.div_add_mod (2 * n / d) 2
      have e3 : 2 * n / d % 2 = 0 := by omega
      rw [h1, Nat.add_zero] at e1
      rw [e3, Nat.add_zero] at e2
      rw [← e2, Nat.mul_left_comm] at e1
      omega
  · rw [decT h1, Bool.or_true]
set_option maxHeartbeats 8000000 in
theorem ret_Steps22q (neg : Bool) (n d : Nat) (s : Int) (hn : n ≠ 0) (hd : d ≠ 0) (ln : (words n).length ≤ 2000) (ld : (words d).length ≤ 2000) (hs : -60000 ≤ s ∧ s ≤ 60000) :
    ∃ (N : Nat) (a b : Bool), (¬ d * 10 ^ s.toNat ∣ n * 10 ^ (-s).toNat → (a || b) = true) ∧ Ret Tryz.prog GEs 127 [rq22 neg n d, i64 s] (.agg [nat N, .bool a, .bool b]) := by
  have hL := ret_rLeft (words n) 1 (Wd_words _) (by omega) (by decide)
  rw [val_words, Nat.pow_one, Nat.mul_comm] at hL
  have h2l : (words (2 * n)).length ≤ 2001 := by
    have := length_mul 2 n
    have h2 : (words 2).length ≤ 1 := length_le (by decide)
    omega
  have tl : ∀ k, k ≤ 60000 → (words (10 ^ k)).length ≤ 3751 := fun k hk => le_pow_words (ten_le k) (by omega)
  have hDv := fun (N D : Nat) (hN : (words N).length ≤ 100000) (hD : (words D).length ≤ 100000) (hz : D ≠ 0) => ret_rDivMod (words N) (words D) (Wd_words _) (Wd_words _) (by rw [val_words]; exact hz) (by omega) (by omega)
  have hZv := fun (m : Nat) (hm : (words m).length ≤ 100000) => ret_rIsZero (words m) (Wd_words _) (by omega)
  have hBv := fun (m : Nat) (hm : (words m).length ≤ 100000) => ret_rBit (words m) 0 (Wd_words _) (by omega) (by omega)
  have hRv := fun (m : Nat) (hm : (words m).length ≤ 100000) => ret_rRight (words m) 1 (Wd_words _) (by omega) (by omega)
  simp only [val_words, Nat.pow_zero, Nat.div_one, Nat.pow_one] at hDv hZv hBv hRv
  by_cases h0 : s ≤ 0
  · have e1 : s.toNat = 0 := by omega
    rw [e1, Nat.pow_zero, Nat.mul_one]
    have hA : 0 - 1 * s = (((-s).toNat : Nat) : Int) := by omega
    have ht : (-s).toNat ≤ 60000 := by omega
    generalize (-s).toNat = t at *
    have hT := ret_rTen t (by omega)
    have htl := tl t ht
    have hM := ret_rMul (words (2 * n)) (words (10 ^ t)) (Wd_words _) (Wd_words _) (by omega) (by omega)
    rw [val_words, val_words] at hM
    have hNl := length_mul (2 * n) (10 ^ t)
    have hhr := fun hx => half_rest (n := n * 10 ^ t) hd hx
    rw [← Nat.mul_assoc] at hhr
    have hD := hDv (2 * n * 10 ^ t) d (by omega) (by omega) hd
    have hql := length_mono (Nat.div_le_self (2 * n * 10 ^ t) d)
    have hrl := length_mono (Nat.mod_le (2 * n * 10 ^ t) d)
    have hZ := hZv (2 * n * 10 ^ t % d) (by omega)
    have hB := hBv (2 * n * 10 ^ t / d) (by omega)
    have hR := hRv (2 * n * 10 ^ t / d) (by omega)
    refine ⟨2 * n * 10 ^ t / d / 2, decide (2 * n * 10 ^ t / d % 2 = 1), decide (2 * n * 10 ^ t % d ≠ 0), hhr, ?_⟩
    clear hDv hZv hBv hRv tl hhr
    generalize 2 * n * 10 ^ t % d = w at *
    generalize 2 * n * 10 ^ t / d = q at *
    generalize 2 * n * 10 ^ t = P at *
    generalize 10 ^ t = T at *
    generalize 2 * n = M at *
    unfold rq22
    by_cases hw : w = 0
    · rw [decT hw] at hZ
      rw [decF (show ¬ w ≠ 0 from fun h => h hw)]
      refine RetN_start Tryz.func127 (by kernel_rfl) rfl fun Q hQ hQ2 => ?_; rw [Tryz.ntmps127]; simp only [u, i64, Nat.reduceSub, Nat.reduceAdd, bm]
      repeat (first | (refine gC ?_; first | refine aA ?_ | (refine cR hL ?_; refine sX ?_; try refine aA ?_)) | (refine cR hL ?_; refine sX ?_; try refine aA ?_) | refine gS ?_)
      (refine gC ?_)
      rw [hA]
      repeat (first | (refine gC ?_; first | refine aA ?_ | ((first | refine cR hT ?_ | refine cR hM ?_ | refine cR hD ?_ | refine cR hZ ?_ | refine cR hR ?_ | refine cR hB ?_); refine sX ?_; try refine aA ?_)) | ((first | refine cR hT ?_ | refine cR hM ?_ | refine cR hD ?_ | refine cR hZ ?_ | refine cR hR ?_ | refine cR hB ?_); refine sX ?_; try refine aA ?_) | refine gS ?_)
      (refine FinQ hQ (congrArg Array.toList Tryz.results127) _ _ ?_); simp (disch := omega) only [u, i64, ax, if_true, forall_const, reduceCtorEq, implies_true, tvs, bf]
      all_goals rfl
    · rw [decF hw] at hZ
      rw [decT hw]
      refine RetN_start Tryz.func127 (by kernel_rfl) rfl fun Q hQ hQ2 => ?_; rw [Tryz.ntmps127]; simp only [u, i64, Nat.reduceSub, Nat.reduceAdd, bm]
      repeat (first | (refine gC ?_; first | refine aA ?_ | (refine cR hL ?_; refine sX ?_; try refine aA ?_)) | (refine cR hL ?_; refine sX ?_; try refine aA ?_) | refine gS ?_)
      (refine gC ?_)
      rw [hA]
      repeat (first | (refine gC ?_; first | refine aA ?_ | ((first | refine cR hT ?_ | refine cR hM ?_ | refine cR hD ?_ | refine cR hZ ?_ | refine cR hR ?_ | refine cR hB ?_); refine sX ?_; try refine aA ?_)) | ((first | refine cR hT ?_ | refine cR hM ?_ | refine cR hD ?_ | refine cR hZ ?_ | refine cR hR ?_ | refine cR hB ?_); refine sX ?_; try refine aA ?_) | refine gS ?_)
      (refine FinQ hQ (congrArg Array.toList Tryz.results127) _ _ ?_); simp (disch := omega) only [u, i64, ax, if_true, forall_const, reduceCtorEq, implies_true, tvs, bf]
      all_goals rfl
  · have e1 : (-s).toNat = 0 := by omega
    rw [e1, Nat.pow_zero, Nat.mul_one]
    have hDn := ret_rDigits (2 * n) (by omega) (by omega)
    have hDd := ret_rDigits d hd (by omega)
    have bn := bl_len (2 * n)
    have bd := bl_len d
    have gn := dg_le_bl (2 * n)
    have gd := dg_le_bl d
    by_cases h1 : (dg (2 * n) : Int) < dg d - (0 - 1 * s) - 1
    · refine ⟨0, false, true, fun _ => rfl, ?_⟩
      clear hDv hZv hBv hRv tl
      generalize dg (2 * n) = A at *
      generalize dg d = B at *
      generalize 2 * n = M at *
      unfold rq22
      show Ret Tryz.prog GEs 127 [.agg [.bool neg, nat n, nat d, i64 0, i64 1], i64 s] (.agg [ws [], .bool false, .bool true])
      refine RetN_start Tryz.func127 (by kernel_rfl) rfl fun Q hQ hQ2 => ?_; rw [Tryz.ntmps127]; simp only [u, i64, Nat.reduceSub, Nat.reduceAdd, bm]
      repeat (first | (refine gC ?_; first | refine aA ?_ | (refine cR hL ?_; refine sX ?_; try refine aA ?_)) | (refine cR hL ?_; refine sX ?_; try refine aA ?_) | refine gS ?_)
      (refine gC ?_)
      (refine cR hDn ?_; refine sX ?_; try refine aA ?_)
      skip
      repeat (first | (refine gC ?_; first | refine aA ?_ | (refine cR hDd ?_; refine sX ?_; try refine aA ?_)) | (refine cR hDd ?_; refine sX ?_; try refine aA ?_) | refine gS ?_)
      (refine FinQ hQ (congrArg Array.toList Tryz.results127) _ _ ?_); simp (disch := omega) only [u, i64, ax, if_true, forall_const, reduceCtorEq, implies_true, tvs, bf]
      all_goals rfl
    · have hA : (0 : Int) - (0 - 1 * s) = ((s.toNat : Nat) : Int) := by omega
      have ht : s.toNat ≤ 60000 := by omega
      generalize s.toNat = t at *
      have hT := ret_rTen t (by omega)
      have htl := tl t ht
      have hM := ret_rMul (words d) (words (10 ^ t)) (Wd_words _) (Wd_words _) (by omega) (by omega)
      rw [val_words, val_words] at hM
      have hNl := length_mul d (10 ^ t)
      have hd0 : d * 10 ^ t ≠ 0 := Nat.mul_ne_zero hd (Nat.ne_of_gt (ten_pos t))
      have hhr := fun hx => half_rest (n := n) hd0 hx
      have hD := hDv (2 * n) (d * 10 ^ t) (by omega) (by omega) hd0
      have hql := length_mono (Nat.div_le_self (2 * n) (d * 10 ^ t))
      have hrl := length_mono (Nat.mod_le (2 * n) (d * 10 ^ t))
      have hZ := hZv (2 * n % (d * 10 ^ t)) (by omega)
      have hB := hBv (2 * n / (d * 10 ^ t)) (by omega)
      have hR := hRv (2 * n / (d * 10 ^ t)) (by omega)
      refine ⟨2 * n / (d * 10 ^ t) / 2, decide (2 * n / (d * 10 ^ t) % 2 = 1), decide (2 * n % (d * 10 ^ t) ≠ 0), hhr, ?_⟩
      clear hDv hZv hBv hRv tl hhr hd0
      generalize 2 * n % (d * 10 ^ t) = w at *
      generalize 2 * n / (d * 10 ^ t) = q at *
      generalize d * 10 ^ t = P at *
      generalize 10 ^ t = T at *
      generalize dg (2 * n) = A at *
      generalize dg d = B at *
      generalize 2 * n = M at *
      unfold rq22
      by_cases hw : w = 0
      · rw [decT hw] at hZ
        rw [decF (show ¬ w ≠ 0 from fun h => h hw)]
        refine RetN_start Tryz.func127 (by kernel_rfl) rfl fun Q hQ hQ2 => ?_; rw [Tryz.ntmps127]; simp only [u, i64, Nat.reduceSub, Nat.reduceAdd, bm]
        repeat (first | (refine gC ?_; first | refine aA ?_ | (refine cR hL ?_; refine sX ?_; try refine aA ?_)) | (refine cR hL ?_; refine sX ?_; try refine aA ?_) | refine gS ?_)
        (refine gC ?_)
        (refine cR hDn ?_; refine sX ?_; try refine aA ?_)
        skip
        repeat (first | (refine gC ?_; first | refine aA ?_ | (refine cR hDd ?_; refine sX ?_; try refine aA ?_)) | (refine cR hDd ?_; refine sX ?_; try refine aA ?_) | refine gS ?_)
        (refine gC ?_)
        rw [hA]
        repeat (first | (refine gC ?_; first | refine aA ?_ | ((first | refine cR hT ?_ | refine cR hM ?_ | refine cR hD ?_ | refine cR hZ ?_ | refine cR hR ?_ | refine cR hB ?_); refine sX ?_; try refine aA ?_)) | ((first | refine cR hT ?_ | refine cR hM ?_ | refine cR hD ?_ | refine cR hZ ?_ | refine cR hR ?_ | refine cR hB ?_); refine sX ?_; try refine aA ?_) | refine gS ?_)
        (refine FinQ hQ (congrArg Array.toList Tryz.results127) _ _ ?_); simp (disch := omega) only [u, i64, ax, if_true, forall_const, reduceCtorEq, implies_true, tvs, bf]
        all_goals rfl
      · rw [decF hw] at hZ
        rw [decT hw]
        refine RetN_start Tryz.func127 (by kernel_rfl) rfl fun Q hQ hQ2 => ?_; rw [Tryz.ntmps127]; simp only [u, i64, Nat.reduceSub, Nat.reduceAdd, bm]
        repeat (first | (refine gC ?_; first | refine aA ?_ | (refine cR hL ?_; refine sX ?_; try refine aA ?_)) | (refine cR hL ?_; refine sX ?_; try refine aA ?_) | refine gS ?_)
        (refine gC ?_)
        (refine cR hDn ?_; refine sX ?_; try refine aA ?_)
        skip
        repeat (first | (refine gC ?_; first | refine aA ?_ | (refine cR hDd ?_; refine sX ?_; try refine aA ?_)) | (refine cR hDd ?_; refine sX ?_; try refine aA ?_) | refine gS ?_)
        (refine gC ?_)
        rw [hA]
        repeat (first | (refine gC ?_; first | refine aA ?_ | ((first | refine cR hT ?_ | refine cR hM ?_ | refine cR hD ?_ | refine cR hZ ?_ | refine cR hR ?_ | refine cR hB ?_); refine sX ?_; try refine aA ?_)) | ((first | refine cR hT ?_ | refine cR hM ?_ | refine cR hD ?_ | refine cR hZ ?_ | refine cR hR ?_ | refine cR hB ?_); refine sX ?_; try refine aA ?_) | refine gS ?_)
        (refine FinQ hQ (congrArg Array.toList Tryz.results127) _ _ ?_); simp (disch := omega) only [u, i64, ax, if_true, forall_const, reduceCtorEq, implies_true, tvs, bf]
        all_goals rfl
def nearP (d : DI) : Prop := d.k = 0 ∧ -2000 ≤ d.e ∧ d.e ≤ 2000
instance (d : DI) : Decidable (nearP d) := by unfold nearP; infer_instance
set_option maxHeartbeats 16000000 in
theorem ret_near3 (d c b : DI) : Ret Tryz.prog GEs 61 [.lst 3 [i64 d.k, .bool d.neg, ws d.cs, i64 d.e, i64 c.k, .bool c.neg, ws c.cs, i64 c.e, i64 b.k, .bool b.neg, ws b.cs, i64 b.e]] (.bool (decide (nearP d ∧ nearP c ∧ nearP b))) := by
  by_cases k1 : d.k = 0
  · skip
    by_cases l1 : -2000 ≤ d.e
    · skip
      by_cases u1 : d.e ≤ 2000
      · skip
        by_cases k2 : c.k = 0
        · skip
          by_cases l2 : -2000 ≤ c.e
          · skip
            by_cases u2 : c.e ≤ 2000
            · skip
              by_cases k3 : b.k = 0
              · skip
                by_cases l3 : -2000 ≤ b.e
                · skip
                  by_cases u3 : b.e ≤ 2000
                  · skip
                    rw [decT (show nearP d ∧ nearP c ∧ nearP b from ⟨⟨k1, l1, u1⟩, ⟨k2, l2, u2⟩, ⟨k3, l3, u3⟩⟩)]
                    refine RetN_start Tryz.func61 (by kernel_rfl) rfl fun Q hQ hQ2 => ?_; rw [Tryz.ntmps61]; simp only [u, i64, Nat.reduceSub, Nat.reduceAdd, bm]
                    (refine gO ?_)
                    refine G_loop ?_
                    refine G_round ?_
                    (refine gO ?_)
                    refine G_round ?_
                    (refine gO ?_)
                    refine G_round ?_
                    (refine gO ?_)
                    refine G_round ?_
                    (refine gO ?_)
                    (refine FinQ hQ (congrArg Array.toList Tryz.results61) _ _ ?_); simp (disch := omega) only [u, i64, ax, if_true, forall_const, reduceCtorEq, implies_true, tvs, bf]
                  · skip
                    rw [decF (show ¬ (nearP d ∧ nearP c ∧ nearP b) from fun h => u3 h.2.2.2.2)]
                    refine RetN_start Tryz.func61 (by kernel_rfl) rfl fun Q hQ hQ2 => ?_; rw [Tryz.ntmps61]; simp only [u, i64, Nat.reduceSub, Nat.reduceAdd, bm]
                    (refine gO ?_)
                    refine G_loop ?_
                    refine G_round ?_
                    (refine gO ?_)
                    refine G_round ?_
                    (refine gO ?_)
                    refine G_round ?_
                    (refine gO ?_)
                    (refine FinQ hQ (congrArg Array.toList Tryz.results61) _ _ ?_); simp (disch := omega) only [u, i64, ax, if_true, forall_const, reduceCtorEq, implies_true, tvs, bf]
                · skip
                  rw [decF (show ¬ (nearP d ∧ nearP c ∧ nearP b) from fun h => l3 h.2.2.2.1)]
                  refine RetN_start Tryz.func61 (by kernel_rfl) rfl fun Q hQ hQ2 => ?_; rw [Tryz.ntmps61]; simp only [u, i64, Nat.reduceSub, Nat.reduceAdd, bm]
                  (refine gO ?_)
                  refine G_loop ?_
                  refine G_round ?_
                  (refine gO ?_)
                  refine G_round ?_
                  (refine gO ?_)
                  refine G_round ?_
                  (refine gO ?_)
                  (refine FinQ hQ (congrArg Array.toList Tryz.results61) _ _ ?_); simp (disch := omega) only [u, i64, ax, if_true, forall_const, reduceCtorEq, implies_true, tvs, bf]
              · skip
                rw [decF (show ¬ (nearP d ∧ nearP c ∧ nearP b) from fun h => k3 h.2.2.1)]
                refine RetN_start Tryz.func61 (by kernel_rfl) rfl fun Q hQ hQ2 => ?_; rw [Tryz.ntmps61]; simp only [u, i64, Nat.reduceSub, Nat.reduceAdd, bm]
                (refine gO ?_)
                refine G_loop ?_
                refine G_round ?_
                (refine gO ?_)
                refine G_round ?_
                (refine gO ?_)
                refine G_round ?_
                (refine gO ?_)
                (refine FinQ hQ (congrArg Array.toList Tryz.results61) _ _ ?_); simp (disch := omega) only [u, i64, ax, if_true, forall_const, reduceCtorEq, implies_true, tvs, bf]
            · skip
              rw [decF (show ¬ (nearP d ∧ nearP c ∧ nearP b) from fun h => u2 h.2.1.2.2)]
              refine RetN_start Tryz.func61 (by kernel_rfl) rfl fun Q hQ hQ2 => ?_; rw [Tryz.ntmps61]; simp only [u, i64, Nat.reduceSub, Nat.reduceAdd, bm]
              (refine gO ?_)
              refine G_loop ?_
              refine G_round ?_
              (refine gO ?_)
              refine G_round ?_
              (refine gO ?_)
              (refine FinQ hQ (congrArg Array.toList Tryz.results61) _ _ ?_); simp (disch := omega) only [u, i64, ax, if_true, forall_const, reduceCtorEq, implies_true, tvs, bf]
          · skip
            rw [decF (show ¬ (nearP d ∧ nearP c ∧ nearP b) from fun h => l2 h.2.1.2.1)]
            refine RetN_start Tryz.func61 (by kernel_rfl) rfl fun Q hQ hQ2 => ?_; rw [Tryz.ntmps61]; simp only [u, i64, Nat.reduceSub, Nat.reduceAdd, bm]
            (refine gO ?_)
            refine G_loop ?_
            refine G_round ?_
            (refine gO ?_)
            refine G_round ?_
            (refine gO ?_)
            (refine FinQ hQ (congrArg Array.toList Tryz.results61) _ _ ?_); simp (disch := omega) only [u, i64, ax, if_true, forall_const, reduceCtorEq, implies_true, tvs, bf]
        · skip
          rw [decF (show ¬ (nearP d ∧ nearP c ∧ nearP b) from fun h => k2 h.2.1.1)]
          refine RetN_start Tryz.func61 (by kernel_rfl) rfl fun Q hQ hQ2 => ?_; rw [Tryz.ntmps61]; simp only [u, i64, Nat.reduceSub, Nat.reduceAdd, bm]
          (refine gO ?_)
          refine G_loop ?_
          refine G_round ?_
          (refine gO ?_)
          refine G_round ?_
          (refine gO ?_)
          (refine FinQ hQ (congrArg Array.toList Tryz.results61) _ _ ?_); simp (disch := omega) only [u, i64, ax, if_true, forall_const, reduceCtorEq, implies_true, tvs, bf]
      · skip
        rw [decF (show ¬ (nearP d ∧ nearP c ∧ nearP b) from fun h => u1 h.1.2.2)]
        refine RetN_start Tryz.func61 (by kernel_rfl) rfl fun Q hQ hQ2 => ?_; rw [Tryz.ntmps61]; simp only [u, i64, Nat.reduceSub, Nat.reduceAdd, bm]
        (refine gO ?_)
        refine G_loop ?_
        refine G_round ?_
        (refine gO ?_)
        (refine FinQ hQ (congrArg Array.toList Tryz.results61) _ _ ?_); simp (disch := omega) only [u, i64, ax, if_true, forall_const, reduceCtorEq, implies_true, tvs, bf]
    · skip
      rw [decF (show ¬ (nearP d ∧ nearP c ∧ nearP b) from fun h => l1 h.1.2.1)]
      refine RetN_start Tryz.func61 (by kernel_rfl) rfl fun Q hQ hQ2 => ?_; rw [Tryz.ntmps61]; simp only [u, i64, Nat.reduceSub, Nat.reduceAdd, bm]
      (refine gO ?_)
      refine G_loop ?_
      refine G_round ?_
      (refine gO ?_)
      (refine FinQ hQ (congrArg Array.toList Tryz.results61) _ _ ?_); simp (disch := omega) only [u, i64, ax, if_true, forall_const, reduceCtorEq, implies_true, tvs, bf]
  · skip
    rw [decF (show ¬ (nearP d ∧ nearP c ∧ nearP b) from fun h => k1 h.1.1)]
    refine RetN_start Tryz.func61 (by kernel_rfl) rfl fun Q hQ hQ2 => ?_; rw [Tryz.ntmps61]; simp only [u, i64, Nat.reduceSub, Nat.reduceAdd, bm]
    (refine gO ?_)
    refine G_loop ?_
    refine G_round ?_
    (refine gO ?_)
    (refine FinQ hQ (congrArg Array.toList Tryz.results61) _ _ ?_); simp (disch := omega) only [u, i64, ax, if_true, forall_const, reduceCtorEq, implies_true, tvs, bf]
theorem val10_null {z : Int} {d : Nat} {E : Int} : val10 z d 0 E ↔ z = 0 := by
  unfold val10
  have hp := ten_pos (-E).toNat
  rw [Int.zero_mul, Int.zero_mul]
  constructor
  · intro h
    rcases Int.mul_eq_zero.1 h with h | h
    · exact h
    · omega
  · intro h; rw [h, Int.zero_mul]
theorem sg_null (neg : Bool) : sg neg 0 = 0 := by unfold sg; cases neg <;> rfl
theorem fin_same (p : Nat) (g : Int) (r : Nat) (neg : Bool) (mag : Nat) (exp ideal : Int) (h : (finD0 p g r neg mag exp ideal).2 = 0) :
    (finD0 p g r neg mag exp ideal).1.kind = 0 ∧ ∀ z d, val10 z d (sg neg mag) exp → val10 z d (sg (finD0 p g r neg mag exp ideal).1.neg (finD0 p g r neg mag exp ideal).1.coef) (finD0 p g r neg mag exp ideal).1.exp := by
  revert h
  unfold finD0
  by_cases hm : mag = 0
  · rw [if_pos hm]
    intro _
    refine ⟨rfl, fun z d hv => ?_⟩
    rw [hm, sg_null, val10_null] at hv
    show val10 z d (sg neg 0) _
    rw [sg_null, val10_null]
    exact hv
  · rw [if_neg hm]
    by_cases h1 : g < exp + dg mag - 1
    · rw [finD_over p g r neg mag exp ideal h1]
      intro h; cases h
    · by_cases h2 : stpD p g (exp + dg mag - 1) ≤ exp + st mag
      · rw [finD_exact p g r neg mag exp ideal h1 h2]
        intro _
        refine ⟨rfl, fun z d hv => ?_⟩
        show val10 z d (sg neg (exN p g mag exp ideal)) (exE p g mag exp ideal)
        have hle : exE p g mag exp ideal ≤ exp + st mag := Int.min_le_left _ _
        unfold exN
        generalize exE p g mag exp ideal = E at *
        rw [sg_mulr, ← val10_up E hle]
        rw [(sm_mul hm).1, sg_mulr] at hv
        rw [val10_up exp (show exp ≤ exp + (st mag : Int) by omega), show (exp + (st mag : Int) - exp).toNat = st mag by omega]
        exact hv
      · rw [finD_ine p g r neg mag exp ideal h1 h2]
        intro h
        exfalso
        revert h
        unfold ineD
        split
        · split
          · intro h; cases h
          · show (if exp + dg mag - 1 < 1 - g then 3 else 1) = 0 → False
            split <;> (intro h; cases h)
        · split
          · intro h; cases h
          · show (if exp + dg mag - 1 < 1 - g then 3 else 1) = 0 → False
            split <;> (intro h; cases h)
theorem fin_flag (p : Nat) (g : Int) (r : Nat) (neg : Bool) (mag : Nat) (exp ideal : Int) (h : (finD0 p g r neg mag exp ideal).2 ≠ 0) :
    mag ≠ 0 ∧ (¬ g < exp + dg mag - 1 → ¬ stpD p g (exp + dg mag - 1) ≤ exp + st mag) := by
  unfold finD0 at h
  by_cases hm : mag = 0
  · rw [if_pos hm] at h; exact absurd rfl h
  · refine ⟨hm, fun h1 h2 => ?_⟩
    rw [if_neg hm, finD_exact p g r neg mag exp ideal h1 h2] at h
    exact h rfl
/-- The value of a finite number, as a fraction. -/
theorem ret_ValueQ (k e : Int) (neg : Bool) (cs : List Nat) (hk : k = 0) (hc : Wd cs) (hl : cs.length ≤ 40) (he : -20000 < e ∧ e < 20000) :
    ∃ z d, Ret Tryz.prog GEs 62 [.agg [i64 k, .bool neg, ws cs, i64 e]] (qz z d) ∧ val10 z d (sg neg (val cs)) e ∧ d ≠ 0 ∧ (words z.natAbs).length ≤ 40 + (words (10 ^ e.toNat)).length ∧ (words d).length ≤ max 1 (words (10 ^ (-e).toNat)).length := by
  by_cases h0 : val cs = 0
  · refine ⟨0, 1, ret_Value22z k e neg cs hk hc hl h0, ?_, by decide, ?_, ?_⟩
    · rw [h0, sg_null, val10_null]
    · exact Nat.le_trans (show (words (0 : Int).natAbs).length ≤ 0 by decide) (Nat.zero_le _)
    · exact Nat.le_trans (length_le (k := 1) (by decide)) (Nat.le_max_left _ _)
  · obtain ⟨p1, p2, p3, p4⟩ := parts_spec e h0
    have hv := length_words_val_le hc
    obtain ⟨b1, b2⟩ := sg_lt neg (prN (val cs) e)
    refine ⟨sg neg (prN (val cs) e), prD (val cs) e, ?_, ?_, p4, ?_, ?_⟩
    · have := ret_Value22 k e neg cs hk hc hl h0 he
      unfold qz
      rw [b2, ← b1, decT p3, Bool.and_true]
      exact this
    · unfold val10
      rw [← sg_mulr, ← sg_mulr, ← sg_mulr, p1]
    · rw [b2]
      have h1 : prN (val cs) e ∣ val cs * 10 ^ e.toNat := by
        refine Nat.Coprime.dvd_of_dvd_mul_right p2 ?_
        exact ⟨10 ^ (-e).toNat, p1.symm⟩
      have h2 := length_mono (Nat.le_of_dvd (Nat.mul_pos (Nat.pos_of_ne_zero h0) (ten_pos _)) h1)
      have h3 := length_mul (val cs) (10 ^ e.toNat)
      omega
    · have h1 : prD (val cs) e ∣ 10 ^ (-e).toNat := by
        have : prD (val cs) e ∣ prN (val cs) e * 10 ^ (-e).toNat := ⟨val cs * 10 ^ e.toNat, by rw [p1, Nat.mul_comm]⟩
        exact Nat.Coprime.dvd_of_dvd_mul_left (Nat.Coprime.symm p2) this
      have h2 := length_mono (Nat.le_of_dvd (ten_pos _) h1)
      omega
theorem in_len40 {p : Nat} {g : Int} {x : DV} (hp : p ≤ 400) (hr : rightD x) (h : inD p g x) : (words x.coef).length ≤ 40 := by
  have hb := bl_le_dg x.coef
  rcases h with h | h | h
  · have h0 : x.coef = 0 := by
      rcases hr with hr | hr | hr
      · exact absurd hr.1 h
      · exact hr.2.2
      · exact hr.2.2.2
    rw [h0]; decide
  · rw [h.1]; decide
  · exact Nat.le_trans (length_bl (k := 25) (by omega)) (by decide)
set_option maxHeartbeats 16000000 in
/-- A result is right for its exact value. -/
theorem ret_fine (p : Nat) (g : Int) (r : Nat) (hp : 1 ≤ p ∧ p ≤ 400) (hg : 1 ≤ g ∧ g ≤ 6000) (hr : r ≤ 4) (neg : Bool) (mag : Nat) (exp ideal : Int) (he : -13000 ≤ exp ∧ exp ≤ 13000) (hl : (words mag).length ≤ 600)
    (z : Int) (d : Nat) (hv : val10 z d (sg neg mag) exp) (hd : d ≠ 0) (lz : (words z.natAbs).length ≤ 1500) (ld : (words d).length ≤ 1500) :
    Ret Tryz.prog GEs 63 [cx p g r, dv (finD0 p g r neg mag exp ideal).1, i64 (finD0 p g r neg mag exp ideal).2, i64 0, qz z d] (.bool true) := by
  obtain ⟨i1, i2⟩ := finD0_in p g r neg mag exp ideal hp.1 hp.2 hg.1 hg.2
  have hsm := fin_same p g r neg mag exp ideal
  have hfl := fin_flag p g r neg mag exp ideal
  generalize finD0 p g r neg mag exp ideal = y at *
  obtain ⟨⟨k1, n1, c1, e1⟩, fl⟩ := y
  simp only at *
  have hl40 : (words c1).length ≤ 40 := in_len40 hp.2 i1 i2
  have hT := ret_TheirD (k1 : Int) e1 n1 (words c1)
  have eb : -9223372036854775808 ≤ e1 ∧ e1 < 9223372036854775808 ∧ k1 ≤ 2 := by unfold rightD at i1; simp only at i1; omega
  have hG := ret_Good22 (k1 : Int) e1 n1 (words c1) (by omega) (by omega) eb.1 eb.2.1 (Wd_words _) (by omega)
  have hgd : goodD (k1 : Int) n1 (val (words c1)) e1 := by
    rw [val_words]
    unfold rightD at i1
    simp only at i1
    unfold goodD
    rcases i1 with i | i | i
    · exact .inl ⟨by omega, i.2⟩
    · exact .inr (.inl ⟨by omega, i.2⟩)
    · exact .inr (.inr ⟨by omega, i.2⟩)
  rw [decT hgd] at hG
  by_cases hf : fl = 0
  · obtain ⟨k0, hval⟩ := hsm hf
    have hv2 := hval z d hv
    subst k0 hf
    have e3 := (inD_exp hp.1 i1 i2).1 rfl
    simp only at e3
    obtain ⟨z', d', hV, v', d0', l1, l2⟩ := ret_ValueQ ((0 : Nat) : Int) e1 n1 (words c1) rfl (Wd_words _) hl40 (by omega)
    rw [val_words] at v'
    have tl : ∀ k : Nat, k ≤ 7000 → (words (10 ^ k)).length ≤ 438 := fun k hk => le_pow_words (ten_le k) (by omega)
    have t1 := tl e1.toNat (by omega)
    have t2 := tl (-e1).toNat (by omega)
    have hC := ret_Cmp12z z' d' z d (by omega) (by omega) (by omega) (by omega)
    rw [val10_cmp v' hv2, show sgnI 0 = 0 from rfl] at hC
    clear hgd hsm hfl hval hv hv2 v' i1 i2 eb l1 l2 t1 t2 tl
    unfold dv cx qz at *
    simp only at *
    refine RetN_start Tryz.func63 (by kernel_rfl) rfl fun Q hQ hQ2 => ?_; rw [Tryz.ntmps63]; simp only [u, i64, Nat.reduceSub, Nat.reduceAdd, bm]
    repeat (first | (refine gC ?_; first | refine aA ?_ | ((first | refine cR hT ?_ | refine cR hG ?_ | refine cR hV ?_ | refine cR hC ?_); refine sX ?_; try refine aA ?_)) | ((first | refine cR hT ?_ | refine cR hG ?_ | refine cR hV ?_ | refine cR hC ?_); refine sX ?_; try refine aA ?_) | refine gS ?_)
    (refine FinQ hQ (congrArg Array.toList Tryz.results63) _ _ ?_); simp (disch := omega) only [u, i64, ax, if_true, forall_const, reduceCtorEq, implies_true, tvs, bf]
  · obtain ⟨hm, hst⟩ := hfl hf
    have hz0 : z ≠ 0 := fun h => by
      have := (val10_zero hd hv).1 h
      have h2 := sg_abs neg mag
      rw [this] at h2
      exact hm h2.symm
    have hab := val10_abs hv
    rw [sg_abs] at hab
    have hn : z.natAbs ≠ 0 := by omega
    have hO := ret_OfRat22 z d (by omega) (by omega)
    have hL := ret_Log22q (decide (z < 0)) z.natAbs d mag exp hn hd hm hab (by omega) (by omega)
    have hX := ret_Ctx p g r
    have hTi := ret_Tiny22 p g r (by omega) hg
    have hSg := ret_Sign12 (decide (z < 0)) (words z.natAbs) (words d) (Wd_words _) (by omega)
    rw [val_words] at hSg
    have hsn : ¬ sgn (decide (z < 0)) z.natAbs = 0 := by unfold sgn; rw [if_neg hn]; split <;> decide
    have hbm := bl_len mag
    have hdm := dg_le_bl mag
    have hd1 := (dg_spec mag hm).2.2
    have hs1 : stpD p g (exp + dg mag - 1) = max (exp + dg mag - 1 - p + 1) (1 - g - ((p : Int) - 1)) := rfl
    rw [show ((p : Int) - 1) = ((p - 1 : Nat) : Int) by omega] at hs1
    generalize hs : stpD p g (exp + dg mag - 1) = s at *
    obtain ⟨N, a, b, hab2, hSt⟩ := ret_Steps22q (decide (z < 0)) z.natAbs d s hn hd (by omega) (by omega) (by omega)
    have hor : ¬ g < exp + dg mag - 1 → (a || b) = true := fun h1 => hab2 fun hdv => by
      have h2 := hst h1
      exact h2 (whole_val hd hm hab (by omega) hdv)
    clear hab2 hst hgd hsm hv i1 i2 hab hfl hs
    unfold dv cx qz rq22 at *
    simp only at *
    generalize sgn (decide (z < 0)) z.natAbs = sg1 at *
    generalize decide (z < 0) = nz at *
    generalize z.natAbs = nn at *
    generalize dg mag = D at *
    by_cases h1 : g < exp + D - 1
    · clear hor
      refine RetN_start Tryz.func63 (by kernel_rfl) rfl fun Q hQ hQ2 => ?_; rw [Tryz.ntmps63]; simp only [u, i64, Nat.reduceSub, Nat.reduceAdd, bm]
      repeat (first | (refine gC ?_; first | refine aA ?_ | ((first | refine cR hT ?_ | refine cR hG ?_ | refine cR hSg ?_ | refine cR hO ?_ | refine cR hL ?_ | refine cR hX ?_ | refine cR hTi ?_); refine sX ?_; try refine aA ?_)) | ((first | refine cR hT ?_ | refine cR hG ?_ | refine cR hSg ?_ | refine cR hO ?_ | refine cR hL ?_ | refine cR hX ?_ | refine cR hTi ?_); refine sX ?_; try refine aA ?_) | refine gS ?_)
      rw [← hs1]
      repeat (first | (refine gC ?_; first | refine aA ?_ | ((first | refine cR hSt ?_ | refine cR hL ?_); refine sX ?_; try refine aA ?_)) | ((first | refine cR hSt ?_ | refine cR hL ?_); refine sX ?_; try refine aA ?_) | refine gS ?_)
      (refine FinQ hQ (congrArg Array.toList Tryz.results63) _ _ ?_); simp (disch := omega) only [u, i64, ax, if_true, forall_const, reduceCtorEq, implies_true, tvs, bf]
      all_goals rfl
    · have hor := hor h1
      cases a with
      | true =>
        clear hor
        refine RetN_start Tryz.func63 (by kernel_rfl) rfl fun Q hQ hQ2 => ?_; rw [Tryz.ntmps63]; simp only [u, i64, Nat.reduceSub, Nat.reduceAdd, bm]
        repeat (first | (refine gC ?_; first | refine aA ?_ | ((first | refine cR hT ?_ | refine cR hG ?_ | refine cR hSg ?_ | refine cR hO ?_ | refine cR hL ?_ | refine cR hX ?_ | refine cR hTi ?_); refine sX ?_; try refine aA ?_)) | ((first | refine cR hT ?_ | refine cR hG ?_ | refine cR hSg ?_ | refine cR hO ?_ | refine cR hL ?_ | refine cR hX ?_ | refine cR hTi ?_); refine sX ?_; try refine aA ?_) | refine gS ?_)
        rw [← hs1]
        repeat (first | (refine gC ?_; first | refine aA ?_ | ((first | refine cR hSt ?_ | refine cR hL ?_); refine sX ?_; try refine aA ?_)) | ((first | refine cR hSt ?_ | refine cR hL ?_); refine sX ?_; try refine aA ?_) | refine gS ?_)
        (refine FinQ hQ (congrArg Array.toList Tryz.results63) _ _ ?_); simp (disch := omega) only [u, i64, ax, if_true, forall_const, reduceCtorEq, implies_true, tvs, bf]
        all_goals rfl
      | false =>
        have hbt : b = true := by simpa using hor
        subst hbt
        clear hor
        refine RetN_start Tryz.func63 (by kernel_rfl) rfl fun Q hQ hQ2 => ?_; rw [Tryz.ntmps63]; simp only [u, i64, Nat.reduceSub, Nat.reduceAdd, bm]
        repeat (first | (refine gC ?_; first | refine aA ?_ | ((first | refine cR hT ?_ | refine cR hG ?_ | refine cR hSg ?_ | refine cR hO ?_ | refine cR hL ?_ | refine cR hX ?_ | refine cR hTi ?_); refine sX ?_; try refine aA ?_)) | ((first | refine cR hT ?_ | refine cR hG ?_ | refine cR hSg ?_ | refine cR hO ?_ | refine cR hL ?_ | refine cR hX ?_ | refine cR hTi ?_); refine sX ?_; try refine aA ?_) | refine gS ?_)
        rw [← hs1]
        repeat (first | (refine gC ?_; first | refine aA ?_ | ((first | refine cR hSt ?_ | refine cR hL ?_); refine sX ?_; try refine aA ?_)) | ((first | refine cR hSt ?_ | refine cR hL ?_); refine sX ?_; try refine aA ?_) | refine gS ?_)
        (refine FinQ hQ (congrArg Array.toList Tryz.results63) _ _ ?_); simp (disch := omega) only [u, i64, ax, if_true, forall_const, reduceCtorEq, implies_true, tvs, bf]
        all_goals rfl
theorem ret_Mul12 (z1 : Int) (d1 : Nat) (z2 : Int) (d2 : Nat) (l1 : (words z1.natAbs).length ≤ 2000) (l2 : (words d1).length ≤ 2000) (l3 : (words z2.natAbs).length ≤ 2000) (l4 : (words d2).length ≤ 2000) (h1 : d1 ≠ 0) (h2 : d2 ≠ 0) :
    ∃ z d g, Low (z1 * z2) (d1 * d2) z d g ∧ Ret Tryz.prog GEs 65 [qz z1 d1, qz z2 d2] (qz z d) := by
  have hX := ret_Mul11 (decide (z1 < 0)) (decide (z2 < 0)) (words z1.natAbs) (words z2.natAbs) (Wd_words _) (Wd_words _) (by omega) (by omega)
  rw [val_words, val_words, sg_zv, sg_zv] at hX
  have hP := ret_rMul (words d1) (words d2) (Wd_words _) (Wd_words _) (by omega) (by omega)
  rw [val_words, val_words] at hP
  have m1 := length_mul z1.natAbs z2.natAbs
  rw [← Int.natAbs_mul] at m1
  have m2 := length_mul d1 d2
  obtain ⟨z, d, g, h, hK⟩ := ret_Make12z (decide (z1 * z2 < 0)) (words (z1 * z2).natAbs) (words (d1 * d2)) (Wd_words _) (Wd_words _) (by omega) (by omega) (by rw [val_words]; exact Nat.mul_ne_zero h1 h2)
  rw [val_words, val_words, sg_zv] at h
  refine ⟨z, d, g, h, ?_⟩
  have e1 : AV.agg [.bool (decide (z1 * z2 < 0)), ws (words (z1 * z2).natAbs)] = zv (z1 * z2) := rfl
  rw [e1] at hK
  generalize z1 * z2 = S at *
  generalize d1 * d2 = D at *
  unfold zv qz at *
  refine RetN_start Tryz.func65 (by kernel_rfl) rfl fun Q hQ hQ2 => ?_; rw [Tryz.ntmps65]; simp only [u, i64, Nat.reduceSub, Nat.reduceAdd, bm]
  repeat (first | (refine gC ?_; first | refine aA ?_ | ((first | refine cR hX ?_ | refine cR hP ?_ | refine cR hK ?_); refine sX ?_; try refine aA ?_)) | ((first | refine cR hX ?_ | refine cR hP ?_ | refine cR hK ?_); refine sX ?_; try refine aA ?_) | refine gS ?_)
  (refine FinQ hQ (congrArg Array.toList Tryz.results65) _ _ ?_); simp (disch := omega) only [u, i64, ax, if_true, forall_const, reduceCtorEq, implies_true, tvs, bf]
theorem ret_Add12z (z1 : Int) (d1 : Nat) (z2 : Int) (d2 : Nat) (l1 : (words z1.natAbs).length ≤ 2000) (l2 : (words d1).length ≤ 2000) (l3 : (words z2.natAbs).length ≤ 2000) (l4 : (words d2).length ≤ 2000) (h1 : d1 ≠ 0) (h2 : d2 ≠ 0) :
    ∃ z d g, Low (z1 * d2 + z2 * d1) (d1 * d2) z d g ∧ Ret Tryz.prog GEs 64 [qz z1 d1, qz z2 d2] (qz z d) := by
  obtain ⟨z, d, g, h, hA⟩ := ret_Add12 (decide (z1 < 0)) (decide (z2 < 0)) (words z1.natAbs) (words d1) (words z2.natAbs) (words d2) (Wd_words _) (Wd_words _) (Wd_words _) (Wd_words _) l1 l2 l3 l4 (by rw [val_words]; exact h1) (by rw [val_words]; exact h2)
  simp only [val_words, sg_zv] at h
  exact ⟨z, d, g, h, hA⟩
theorem sg_sum (r : Nat) (na : Bool) (a : Nat) (nb : Bool) (b : Nat) : sg (sumN r na a nb b) (sumM na a nb b) = sg na a + sg nb b := by
  obtain ⟨s1, s2, s3⟩ := sum_ref r na a nb b
  change (sg na a + sg nb b).natAbs = _ at s1
  change (sg na a + sg nb b) ≠ 0 → decide (sg na a + sg nb b < 0) = _ at s2
  change (sg na a + sg nb b) = 0 → _ at s3
  by_cases hz : sg na a + sg nb b = 0
  · rw [(s3 hz).1, hz, sg_null]
  · rw [← s2 hz, ← s1, sg_zv]
theorem sumM_len (na : Bool) (a : Nat) (nb : Bool) (b : Nat) : (words (sumM na a nb b)).length ≤ max (words a).length (words b).length + 1 := by
  have h : sumM na a nb b ≤ a + b := by unfold sumM; split <;> (try split) <;> omega
  exact Nat.le_trans (length_mono h) (length_add a b)
/-- The value of a sum. -/
theorem sum_val {z1 z2 : Int} {d1 d2 : Nat} {n1 n2 : Bool} {c1 c2 : Nat} {e1 e2 : Int} (r : Nat) (v1 : val10 z1 d1 (sg n1 c1) e1) (v2 : val10 z2 d2 (sg n2 c2) e2) {z d : _} {g : Nat} (h : Low (z1 * d2 + z2 * d1) (d1 * d2) z d g) :
    val10 z d (sg (sumN r n1 (c1 * 10 ^ (e1 - min e1 e2).toNat) n2 (c2 * 10 ^ (e2 - min e1 e2).toNat)) (sumM n1 (c1 * 10 ^ (e1 - min e1 e2).toNat) n2 (c2 * 10 ^ (e2 - min e1 e2).toNat))) (min e1 e2) := by
  rw [sg_sum, sg_mulr, sg_mulr]
  exact val10_low (val10_add v1 v2 (min e1 e2) (by omega) (by omega)) h.g0 h.num h.den
theorem low_len {z0 z : Int} {d0 d g : Nat} (h : Low z0 d0 z d g) {L : Nat} (l1 : (words z0.natAbs).length ≤ L) (l2 : (words d0).length ≤ L) : (words z.natAbs).length ≤ L ∧ (words d).length ≤ L := by
  obtain ⟨h1, h2⟩ := h.absle
  exact ⟨Nat.le_trans (length_mono h1) l1, Nat.le_trans (length_mono h2) l2⟩
theorem add_len (z1 z2 : Int) (d1 d2 : Nat) {L : Nat} (l1 : (words z1.natAbs).length ≤ L) (l2 : (words d1).length ≤ L) (l3 : (words z2.natAbs).length ≤ L) (l4 : (words d2).length ≤ L) : (words (z1 * d2 + z2 * d1).natAbs).length ≤ 2 * L + 1 ∧ (words (d1 * d2)).length ≤ 2 * L + 1 := by
  have h1 : (z1 * (d2 : Int) + z2 * d1).natAbs ≤ z1.natAbs * d2 + z2.natAbs * d1 := by
    have := Int.natAbs_add_le (z1 * (d2 : Int)) (z2 * d1)
    rw [Int.natAbs_mul, Int.natAbs_mul, Int.natAbs_natCast, Int.natAbs_natCast] at this
    exact this
  have h2 := length_mono h1
  have h3 := length_add (z1.natAbs * d2) (z2.natAbs * d1)
  have h4 := length_mul z1.natAbs d2
  have h5 := length_mul z2.natAbs d1
  have h6 := length_mul d1 d2
  omega
end Go.Proofs
