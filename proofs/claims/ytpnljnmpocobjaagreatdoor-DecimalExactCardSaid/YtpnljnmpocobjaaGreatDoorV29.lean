/-
  Contracts of functions of the program, each proved by a walk.
-/
import Derived.Test.YtpnljnmpocobjaaGreatDoorV28
set_option maxRecDepth 100000
set_option linter.unusedVariables false
set_option linter.unusedSimpArgs false
set_option maxHeartbeats 4000000
namespace Go.Proofs
open Go.Ax
/-- How many factors 5 a number has. -/
def fvn (n : Nat) : Nat := if h : n ≠ 0 ∧ n % 5 = 0 then fvn (n / 5) + 1 else 0
decreasing_by omega
theorem fvn_spec (n : Nat) : n ≠ 0 → ∃ m, n = m * 5 ^ fvn n ∧ m % 5 ≠ 0 := by
  induction n using Nat.strongRecOn with
  | _ n ih =>
    intro h
    unfold fvn
    by_cases h0 : n % 5 = 0
    · rw [dif_pos ⟨h, h0⟩]
      obtain ⟨m, h1, h2⟩ := ih (n / 5) (by omega) (by omega)
      refine ⟨m, ?_, h2⟩
      rw [Nat.pow_succ, ← Nat.mul_assoc, ← h1]
      omega
    · rw [dif_neg (by omega)]
      exact ⟨n, by simp, h0⟩
/-- What is left of the two factors. -/
def tw (m k : Nat) : Nat := min (tz m) k
def fi (m k : Nat) : Nat := min (fvn (m / 2 ^ tw m k)) k
def prN (c : Nat) (e : Int) : Nat := if 0 ≤ e + st c then sm c * 10 ^ (e + st c).toNat else sm c / 2 ^ tw (sm c) (-(e + st c)).toNat / 5 ^ fi (sm c) (-(e + st c)).toNat
def prD (c : Nat) (e : Int) : Nat := if 0 ≤ e + st c then 1 else 5 ^ ((-(e + st c)).toNat - fi (sm c) (-(e + st c)).toNat) * 2 ^ ((-(e + st c)).toNat - tw (sm c) (-(e + st c)).toNat)
theorem tw_spec {m : Nat} (k : Nat) (h : m ≠ 0) : m = m / 2 ^ tw m k * 2 ^ tw m k ∧ (tw m k = k ∨ m / 2 ^ tw m k % 2 = 1) ∧ tw m k ≤ k := by
  obtain ⟨j, hj⟩ := tz_spec h
  have hle : tw m k ≤ tz m := Nat.min_le_left _ _
  have hdvd : 2 ^ tw m k ∣ m := Nat.dvd_trans (Nat.pow_dvd_pow 2 hle) ⟨2 * j + 1, hj⟩
  refine ⟨(Nat.div_mul_cancel hdvd).symm, ?_, Nat.min_le_right _ _⟩
  by_cases hk : tz m ≤ k
  · right
    have e : tw m k = tz m := Nat.min_eq_left hk
    rw [e]
    have : m / 2 ^ tz m = 2 * j + 1 := by
      conv => lhs; arg 1; rw [hj]
      exact Nat.mul_div_cancel_left _ (Nat.two_pow_pos _)
    omega
  · left
    exact Nat.min_eq_right (by omega)
theorem fi_spec {m : Nat} (k : Nat) (h : m / 2 ^ tw m k ≠ 0) : m / 2 ^ tw m k = m / 2 ^ tw m k / 5 ^ fi m k * 5 ^ fi m k ∧ (fi m k = k ∨ m / 2 ^ tw m k / 5 ^ fi m k % 5 ≠ 0) ∧ fi m k ≤ k := by
  unfold fi
  generalize m / 2 ^ tw m k = n at *
  obtain ⟨j, hj, hj2⟩ := fvn_spec n h
  have hle : min (fvn n) k ≤ fvn n := Nat.min_le_left _ _
  have hdvd : 5 ^ min (fvn n) k ∣ n := by
    conv => rhs; rw [hj]
    exact Nat.dvd_trans (Nat.pow_dvd_pow 5 hle) (Nat.dvd_mul_left _ _)
  refine ⟨(Nat.div_mul_cancel hdvd).symm, ?_, Nat.min_le_right _ _⟩
  by_cases hk : fvn n ≤ k
  · right
    rw [Nat.min_eq_left hk]
    have : n / 5 ^ fvn n = j := by
      conv => lhs; arg 1; rw [hj]
      exact Nat.mul_div_cancel _ (Nat.pow_pos (by decide))
    rw [this]
    exact hj2
  · left
    exact Nat.min_eq_right (by omega)
theorem cop_two {n : Nat} (h : n % 2 = 1) (j : Nat) : Nat.Coprime n (2 ^ j) := by
  refine Nat.Coprime.pow_right j ?_
  unfold Nat.Coprime
  rw [Nat.gcd_comm, Nat.gcd_rec, h]
  decide
theorem cop_five {n : Nat} (h : n % 5 ≠ 0) (j : Nat) : Nat.Coprime n (5 ^ j) := by
  refine Nat.Coprime.pow_right j ?_
  unfold Nat.Coprime
  rw [Nat.gcd_comm, Nat.gcd_rec]
  have : n % 5 = 1 ∨ n % 5 = 2 ∨ n % 5 = 3 ∨ n % 5 = 4 := by omega
  rcases this with h | h | h | h <;> rw [h] <;> decide
theorem odd_of_mul {a b : Nat} (h : a * b % 2 = 1) : a % 2 = 1 := by
  rcases Nat.mod_two_eq_zero_or_one a with h0 | h1
  · rw [Nat.mul_mod, h0, Nat.zero_mul] at h; cases h
  · exact h1
/-- The parts are in lowest terms, and have the value. -/
theorem parts_spec {c : Nat} (e : Int) (hc : c ≠ 0) : prN c e * 10 ^ (-e).toNat = c * 10 ^ e.toNat * prD c e ∧ Nat.gcd (prN c e) (prD c e) = 1 ∧ prN c e ≠ 0 ∧ prD c e ≠ 0 := by
  obtain ⟨m1, m2⟩ := sm_mul hc
  have m0 := sm_ne hc
  unfold prN prD
  by_cases h : 0 ≤ e + st c
  · rw [if_pos h, if_pos h]
    refine ⟨?_, Nat.gcd_one_right _, Nat.mul_ne_zero m0 (Nat.ne_of_gt (ten_pos _)), by decide⟩
    rw [Nat.mul_one]
    conv => rhs; arg 1; rw [m1]
    rw [Nat.mul_assoc, Nat.mul_assoc, ← Nat.pow_add, ← Nat.pow_add]
    congr 2
    omega
  · rw [if_neg h, if_neg h]
    generalize hk : (-(e + (st c : Int))).toNat = k
    obtain ⟨a1, a2, a3⟩ := tw_spec k m0
    have n0 : sm c / 2 ^ tw (sm c) k ≠ 0 := fun h0 => by rw [h0, Nat.zero_mul] at a1; exact m0 a1
    obtain ⟨b1, b2, b3⟩ := fi_spec k n0
    generalize tw (sm c) k = t at *
    generalize fi (sm c) k = f at *
    generalize sm c / 2 ^ t = m1' at *
    generalize m1' / 5 ^ f = m2' at *
    have p5 : 0 < 5 ^ (k - f) := Nat.pow_pos (by decide)
    have p2 : 0 < 2 ^ (k - t) := Nat.pow_pos (by decide)
    have hten : 10 ^ k = 5 ^ (k - f) * 2 ^ (k - t) * (5 ^ f * 2 ^ t) := by
      calc 10 ^ k = 5 ^ k * 2 ^ k := (ten_eq k).symm
        _ = 5 ^ (k - f + f) * 2 ^ (k - t + t) := by rw [Nat.sub_add_cancel b3, Nat.sub_add_cancel a3]
        _ = _ := by rw [Nat.pow_add, Nat.pow_add]; simp only [Nat.mul_assoc, Nat.mul_comm, Nat.mul_left_comm]
    have hsm : sm c = m2' * (5 ^ f * 2 ^ t) := by rw [a1, b1, Nat.mul_assoc]
    refine ⟨?_, ?_, ?_, Nat.ne_of_gt (Nat.mul_pos p5 p2)⟩
    · have e0 : e.toNat = 0 := by omega
      have e1 : (-e).toNat = k + st c := by omega
      rw [e0, e1, Nat.pow_zero, Nat.mul_one, Nat.pow_add, hten]
      conv => rhs; arg 1; rw [m1, hsm]
      simp only [Nat.mul_assoc, Nat.mul_comm, Nat.mul_left_comm]
    · refine Nat.Coprime.mul_right ?_ ?_
      · rcases b2 with b2 | b2
        · rw [b2, Nat.sub_self, Nat.pow_zero]; exact Nat.gcd_one_right _
        · exact cop_five b2 _
      · rcases a2 with a2 | a2
        · rw [a2, Nat.sub_self, Nat.pow_zero]; exact Nat.gcd_one_right _
        · rw [b1] at a2
          exact cop_two (odd_of_mul a2) _
    · intro h0
      rw [h0, Nat.zero_mul] at b1
      exact n0 b1
/-- Fractions in lowest terms are what they are. -/
theorem low_uniq {a b n d : Nat} (hb : b ≠ 0) (h : a * d = n * b) (hc : Nat.gcd n d = 1) (hn : n ≠ 0) : a / Nat.gcd a b = n ∧ b / Nat.gcd a b = d := by
  have h1 : n ∣ a := by
    have : n ∣ a * d := ⟨b, h⟩
    exact Nat.Coprime.dvd_of_dvd_mul_right hc this
  obtain ⟨w, rfl⟩ := h1
  have h2 : b = d * w := by
    have : n * (w * d) = n * b := by rw [← Nat.mul_assoc]; exact h
    rw [← Nat.eq_of_mul_eq_mul_left (by omega) this, Nat.mul_comm]
  subst h2
  have hw : 0 < w := Nat.pos_of_ne_zero fun h0 => hb (by rw [h0, Nat.mul_zero])
  rw [Nat.gcd_mul_right, hc, Nat.one_mul]
  exact ⟨Nat.mul_div_cancel _ hw, Nat.mul_div_cancel _ hw⟩
set_option maxRecDepth 100000 in
theorem ret_rDiv (xs ys : List Nat) (hx : Wd xs) (hy : Wd ys) (hne : val ys ≠ 0) (hlx : xs.length ≤ 34359738368) (hly : ys.length ≤ 34359738368) : Ret Tryz.prog GEs 179 [ws xs, ws ys] (nat (val xs / val ys)) := by
  refine RetN_start Tryz.func179 (by kernel_rfl) rfl fun Q hQ hQ2 => ?_; rw [Tryz.ntmps179]; simp only [u, i64, Nat.reduceSub, Nat.reduceAdd, bm]
  repeat (first | (refine gC ?_; first | refine aA ?_ | (refine cR (ret_rDivMod xs ys hx hy hne hlx hly) ?_; refine sX ?_; try refine aA ?_)) | (refine cR (ret_rDivMod xs ys hx hy hne hlx hly) ?_; refine sX ?_; try refine aA ?_) | refine gS ?_)
  (refine FinQ hQ (congrArg Array.toList Tryz.results179) _ _ ?_); simp (disch := omega) only [u, i64, ax, if_true, forall_const, reduceCtorEq, implies_true, tvs, bf]
set_option maxRecDepth 100000 in
theorem ret_rMod (xs ys : List Nat) (hx : Wd xs) (hy : Wd ys) (hne : val ys ≠ 0) (hlx : xs.length ≤ 34359738368) (hly : ys.length ≤ 34359738368) : Ret Tryz.prog GEs 236 [ws xs, ws ys] (nat (val xs % val ys)) := by
  refine RetN_start Tryz.func236 (by kernel_rfl) rfl fun Q hQ hQ2 => ?_; rw [Tryz.ntmps236]; simp only [u, i64, Nat.reduceSub, Nat.reduceAdd, bm]
  repeat (first | (refine gC ?_; first | refine aA ?_ | (refine cR (ret_rDivMod xs ys hx hy hne hlx hly) ?_; refine sX ?_; try refine aA ?_)) | (refine cR (ret_rDivMod xs ys hx hy hne hlx hly) ?_; refine sX ?_; try refine aA ?_) | refine gS ?_)
  (refine FinQ hQ (congrArg Array.toList Tryz.results236) _ _ ?_); simp (disch := omega) only [u, i64, ax, if_true, forall_const, reduceCtorEq, implies_true, tvs, bf]
set_option maxRecDepth 100000 in
theorem ret_Gcd (xs ys : List Nat) (hx : Wd xs) (hy : Wd ys) (hlx : xs.length ≤ 34359738368) (hly : ys.length ≤ 34359738368) : Ret Tryz.prog GEs 178 [ws xs, ws ys] (nat (Nat.gcd (val xs) (val ys))) := by
  have hxl := length_words_val_le hx
  refine RetN_start Tryz.func178 (by kernel_rfl) rfl fun Q hQ hQ2 => ?_; rw [Tryz.ntmps178]; simp only [u, i64, Nat.reduceSub, Nat.reduceAdd, bm]
  repeat (first | (refine gC ?_; first | refine aA ?_ | (refine cR (ret_rTrim xs hx hlx) ?_; refine sX ?_; try refine aA ?_)) | (refine cR (ret_rTrim xs hx hlx) ?_; refine sX ?_; try refine aA ?_) | refine gS ?_)
  refine AWp_loop (fun i : Nat × List Nat => mk 16 [(0, nat i.1), (1, ws i.2)] []) (fun i => Wd i.2 ∧ i.2.length ≤ 34359738368 ∧ (words i.1).length ≤ 34359738368 ∧ Nat.gcd i.1 (val i.2) = Nat.gcd (val xs) (val ys)) (fun i => val i.2) (val xs, ys) ?_ ⟨hy, hly, by simp only; omega, rfl⟩ ?_
  · simp only [u, i64, Nat.reduceSub, Nat.reduceAdd, bm]
  rintro ⟨X, Y⟩ ⟨g1, g2, g3, g4⟩
  simp only at g1 g2 g3 g4
  simp only [u, i64, Nat.reduceSub, Nat.reduceAdd, bm]
  (refine gO ?_)
  (refine gC ?_)
  (refine cR (ret_rIsZero Y g1 g2) ?_; refine sX ?_; try refine aA ?_)
  have hYl := length_words_val_le g1
  by_cases h0 : val Y = 0
  · rw [decT h0]
    rw [h0, Nat.gcd_zero_right] at g4
    rw [← g4] at hQ
    (refine gO ?_)
    (refine FinQ hQ (congrArg Array.toList Tryz.results178) _ _ ?_); simp (disch := omega) only [u, i64, ax, if_true, forall_const, reduceCtorEq, implies_true, tvs, bf]
  · rw [decF h0]
    have hm := Nat.mod_lt X (Nat.pos_of_ne_zero h0)
    have hml := length_mono (Nat.le_of_lt hm)
    (refine gO ?_)
    (refine gC ?_)
    (refine cR (ret_rTrim Y g1 g2) ?_; refine sX ?_; try refine aA ?_)
    (refine cR (ret_rMod (words X) Y (Wd_words X) g1 h0 g3 g2) ?_; refine sX ?_; try refine aA ?_)
    rw [val_words]
    (refine gO ?_)
    refine ⟨(val Y, words (X % val Y)), ?_, ⟨Wd_words _, by simp only; omega, by simp only; omega, ?_⟩, ?_⟩
    · simp only [u, i64, Nat.reduceSub, Nat.reduceAdd, bm]
    · simp only
      rw [val_words, ← g4]
      exact (Nat.gcd_comm _ _).trans ((Nat.gcd_rec (val Y) X).symm.trans (Nat.gcd_comm _ _))
    · simp only; rw [val_words]; exact hm
theorem gcd_len (a b n : Nat) (h : b ≠ 0) (hb : (words b).length ≤ n) : (words (Nat.gcd a b)).length ≤ n :=
  Nat.le_trans (length_mono (Nat.gcd_le_right a (Nat.pos_of_ne_zero h))) hb
set_option maxRecDepth 100000 in
theorem ret_Norm (neg : Bool) (ns ds : List Nat) (hn : Wd ns) (hd : Wd ds) (hln : ns.length ≤ 8589934592) (hld : ds.length ≤ 8589934592) (h0 : val ds ≠ 0) :
    Ret Tryz.prog GEs 94 [.agg [.bool neg, ws ns, ws ds]] (.agg [.bool (neg && decide (val ns / Nat.gcd (val ns) (val ds) ≠ 0)), nat (val ns / Nat.gcd (val ns) (val ds)), nat (val ds / Nat.gcd (val ns) (val ds))]) := by
  have hnl := length_words_val_le hn
  have hdl := length_words_val_le hd
  have hg0 : Nat.gcd (val ns) (val ds) ≠ 0 := fun h => h0 (Nat.eq_zero_of_gcd_eq_zero_right h)
  have hgl := gcd_len (val ns) (val ds) 8589934592 h0 (by omega)
  have hq1 := length_mono (Nat.div_le_self (val ns) (Nat.gcd (val ns) (val ds)))
  have hG := ret_Gcd ns ds hn hd (by omega) (by omega)
  have hD1 := ret_rDiv ns (words (Nat.gcd (val ns) (val ds))) hn (Wd_words _) (by rw [val_words]; exact hg0) (by omega) (by omega)
  have hD2 := ret_rDiv ds (words (Nat.gcd (val ns) (val ds))) hd (Wd_words _) (by rw [val_words]; exact hg0) (by omega) (by omega)
  rw [val_words] at hD1 hD2
  generalize Nat.gcd (val ns) (val ds) = g at *
  have hM := ret_Make11 neg (words (val ns / g)) (Wd_words _) (by omega)
  rw [val_words] at hM
  refine RetN_start Tryz.func94 (by kernel_rfl) rfl fun Q hQ hQ2 => ?_; rw [Tryz.ntmps94]; simp only [u, i64, Nat.reduceSub, Nat.reduceAdd, bm]
  repeat (first | (refine gC ?_; first | refine aA ?_ | ((first | refine cR hG ?_ | refine cR hD1 ?_ | refine cR hM ?_ | refine cR hD2 ?_); refine sX ?_; try refine aA ?_)) | ((first | refine cR hG ?_ | refine cR hD1 ?_ | refine cR hM ?_ | refine cR hD2 ?_); refine sX ?_; try refine aA ?_) | refine gS ?_)
  (refine FinQ hQ (congrArg Array.toList Tryz.results94) _ _ ?_); simp (disch := omega) only [u, i64, ax, if_true, forall_const, reduceCtorEq, implies_true, tvs, bf]
theorem ret_Make12n (neg : Bool) (n d : Nat) (ln : (words n).length ≤ 10000) (ld : (words d).length ≤ 10000) (hd : d ≠ 0) : Ret Tryz.prog GEs 97 [.agg [.bool neg, nat n], nat d] (.agg [.bool (neg && decide (n / Nat.gcd n d ≠ 0)), nat (n / Nat.gcd n d), nat (d / Nat.gcd n d)]) := by
  have hN := ret_Norm neg (words n) (words d) (Wd_words _) (Wd_words _) (by omega) (by omega) (by rw [val_words]; exact hd)
  rw [val_words, val_words] at hN
  generalize n / Nat.gcd n d = N at *
  generalize d / Nat.gcd n d = D at *
  refine RetN_start Tryz.func97 (by kernel_rfl) rfl fun Q hQ hQ2 => ?_; rw [Tryz.ntmps97]; simp only [u, i64, Nat.reduceSub, Nat.reduceAdd, bm]
  repeat (first | (refine gC ?_; first | refine aA ?_ | (refine cR hN ?_; refine sX ?_; try refine aA ?_)) | (refine cR hN ?_; refine sX ?_; try refine aA ?_) | refine gS ?_)
  (refine FinQ hQ (congrArg Array.toList Tryz.results97) _ _ ?_); simp (disch := omega) only [u, i64, ax, if_true, forall_const, reduceCtorEq, implies_true, tvs, bf]
theorem ret_Trim11v (neg : Bool) (xs : List Nat) (hx : Wd xs) (hl : xs.length ≤ 34359738368) : Ret Tryz.prog GEs 194 [.agg [.bool neg, ws xs]] (.agg [.bool (neg && decide (val xs ≠ 0)), nat (val xs)]) := by
  have hT := ret_Trim03 neg xs hx hl
  refine RetN_start Tryz.func194 (by kernel_rfl) rfl fun Q hQ hQ2 => ?_; rw [Tryz.ntmps194]; simp only [u, i64, Nat.reduceSub, Nat.reduceAdd, bm]
  repeat (first | (refine gC ?_; first | refine aA ?_ | (refine cR hT ?_; refine sX ?_; try refine aA ?_)) | (refine cR hT ?_; refine sX ?_; try refine aA ?_) | refine gS ?_)
  (refine FinQ hQ (congrArg Array.toList Tryz.results194) _ _ ?_); simp (disch := omega) only [u, i64, ax, if_true, forall_const, reduceCtorEq, implies_true, tvs, bf]
theorem ret_Whole12v (neg : Bool) (m : Nat) (hl : (words m).length ≤ 100000) : Ret Tryz.prog GEs 111 [.agg [.bool neg, nat m]] (.agg [.bool (neg && decide (m ≠ 0)), nat m, nat 1]) := by
  have hT := ret_Trim11v neg (words m) (Wd_words _) (by omega)
  rw [val_words] at hT
  have hF := ret_rFromWord 1 (by decide)
  refine RetN_start Tryz.func111 (by kernel_rfl) rfl fun Q hQ hQ2 => ?_; rw [Tryz.ntmps111]; simp only [u, i64, Nat.reduceSub, Nat.reduceAdd, bm]
  repeat (first | (refine gC ?_; first | refine aA ?_ | ((first | refine cR hT ?_ | refine cR hF ?_); refine sX ?_; try refine aA ?_)) | ((first | refine cR hT ?_ | refine cR hF ?_); refine sX ?_; try refine aA ?_) | refine gS ?_)
  (refine FinQ hQ (congrArg Array.toList Tryz.results111) _ _ ?_); simp (disch := omega) only [u, i64, ax, if_true, forall_const, reduceCtorEq, implies_true, tvs, bf]
theorem ret_From12z : Ret Tryz.prog GEs 33 [i64 0, i64 1] (.agg [.bool false, nat 0, nat 1]) := by
  have hF := ret_From0
  have hW := ret_rFromWord 1 (by decide)
  have hM := ret_Make12n false 0 1 (by decide) (Nat.le_trans (length_le (k := 1) (by decide)) (by decide)) (by decide)
  rw [show Nat.gcd 0 1 = 1 from rfl, Nat.div_one, Nat.div_one, Bool.false_and] at hM
  refine RetN_start Tryz.func33 (by kernel_rfl) rfl fun Q hQ hQ2 => ?_; rw [Tryz.ntmps33]; simp only [u, i64, Nat.reduceSub, Nat.reduceAdd, bm]
  repeat (first | (refine gC ?_; first | refine aA ?_ | ((first | refine cR hF ?_ | refine cR hW ?_ | refine cR hM ?_); refine sX ?_; try refine aA ?_)) | ((first | refine cR hF ?_ | refine cR hW ?_ | refine cR hM ?_); refine sX ?_; try refine aA ?_) | refine gS ?_)
  (refine FinQ hQ (congrArg Array.toList Tryz.results33) _ _ ?_); simp (disch := omega) only [u, i64, ax, if_true, forall_const, reduceCtorEq, implies_true, tvs, bf]
set_option maxHeartbeats 8000000 in
theorem ret_Value22 (k e : Int) (neg : Bool) (cs : List Nat) (hk : k = 0) (hc : Wd cs) (hl : cs.length ≤ 40) (h0 : val cs ≠ 0) (he : -20000 < e ∧ e < 20000) :
    Ret Tryz.prog GEs 62 [.agg [i64 k, .bool neg, ws cs, i64 e]] (.agg [.bool neg, nat (prN (val cs) e), nat (prD (val cs) e)]) := by
  have hZ := ret_Zero22 k e neg cs hc (by omega)
  rw [decF (show ¬ (k = 0 ∧ val cs = 0) from fun h => h0 h.2)] at hZ
  have hM := ret_Make11 neg cs hc (by omega)
  rw [decT h0, Bool.and_true] at hM
  have hvl := length_words_val_le hc
  obtain ⟨p1, p2, p3, p4⟩ := parts_spec e h0
  have tl : ∀ k : Nat, k ≤ 20000 → (words (10 ^ k)).length ≤ 1251 := fun k hk => le_pow_words (ten_le k) (by omega)
  subst hk
  by_cases h : e < 0
  · have e0 : e.toNat = 0 := by omega
    have hE : (0 : Int) - e = (((-e).toNat : Nat) : Int) := by omega
    rw [e0, Nat.pow_zero, Nat.mul_one] at p1
    obtain ⟨u1, u2⟩ := low_uniq (Nat.ne_of_gt (ten_pos (-e).toNat)) p1.symm p2 p3
    have hb : (-e).toNat ≤ 20000 := by omega
    generalize (-e).toNat = j at *
    have hT := ret_rTen j (by omega)
    have hK := ret_Make12n neg (val cs) (10 ^ j) (by omega) (by have := tl j hb; omega) (Nat.ne_of_gt (ten_pos j))
    rw [u1, u2, decT p3, Bool.and_true] at hK
    clear u1 u2 p1 p2 p3 p4 tl h0 hvl
    generalize prN (val cs) e = N at *
    generalize prD (val cs) e = D at *
    generalize 10 ^ j = P at *
    generalize val cs = v at *
    refine RetN_start Tryz.func62 (by kernel_rfl) rfl fun Q hQ hQ2 => ?_; rw [Tryz.ntmps62]; simp only [u, i64, Nat.reduceSub, Nat.reduceAdd, bm]
    repeat (first | (refine gC ?_; first | refine aA ?_ | ((first | refine cR hM ?_ | refine cR hZ ?_); refine sX ?_; try refine aA ?_)) | ((first | refine cR hM ?_ | refine cR hZ ?_); refine sX ?_; try refine aA ?_) | refine gS ?_)
    (refine gC ?_)
    rw [hE]
    repeat (first | (refine gC ?_; first | refine aA ?_ | ((first | refine cR hT ?_ | refine cR hK ?_); refine sX ?_; try refine aA ?_)) | ((first | refine cR hT ?_ | refine cR hK ?_); refine sX ?_; try refine aA ?_) | refine gS ?_)
    (refine FinQ hQ (congrArg Array.toList Tryz.results62) _ _ ?_); simp (disch := omega) only [u, i64, ax, if_true, forall_const, reduceCtorEq, implies_true, tvs, bf]
  · have e0 : (-e).toNat = 0 := by omega
    have hE : e = ((e.toNat : Nat) : Int) := by omega
    rw [e0, Nat.pow_zero, Nat.mul_one] at p1
    have q1 : prD (val cs) e = 1 := by unfold prD; rw [if_pos (by omega)]
    rw [q1, Nat.mul_one] at p1
    rw [q1, p1]
    have hb : e.toNat ≤ 20000 := by omega
    have hT := ret_rTen e.toNat (by omega)
    have htl := tl e.toNat hb
    have hMu := ret_rMul cs (words (10 ^ e.toNat)) hc (Wd_words _) (by omega) (by omega)
    rw [val_words] at hMu
    have hml := length_mul (val cs) (10 ^ e.toNat)
    have hne : val cs * 10 ^ e.toNat ≠ 0 := Nat.mul_ne_zero h0 (Nat.ne_of_gt (ten_pos _))
    have hK := ret_Make11 neg (words (val cs * 10 ^ e.toNat)) (Wd_words _) (by omega)
    rw [val_words, decT hne, Bool.and_true] at hK
    have hW := ret_Whole12v neg (val cs * 10 ^ e.toNat) (by omega)
    rw [decT hne, Bool.and_true] at hW
    clear p1 p2 p3 p4 q1 tl h0 hvl hne hml
    generalize val cs * 10 ^ e.toNat = N at *
    generalize 10 ^ e.toNat = P at *
    generalize val cs = v at *
    generalize hj : e.toNat = j at *
    have hnn : ¬ (j : Int) < 0 := by omega
    subst hE
    refine RetN_start Tryz.func62 (by kernel_rfl) rfl fun Q hQ hQ2 => ?_; rw [Tryz.ntmps62]; simp only [u, i64, Nat.reduceSub, Nat.reduceAdd, bm]
    (refine gO ?_)
    (refine gC ?_)
    (refine cR hM ?_; refine sX ?_; try refine aA ?_)
    skip
    repeat (first | (refine gC ?_; first | refine aA ?_ | ((first | refine cR hZ ?_ | refine cR hT ?_ | refine cR hMu ?_ | refine cR hK ?_ | refine cR hW ?_); refine sX ?_; try refine aA ?_)) | ((first | refine cR hZ ?_ | refine cR hT ?_ | refine cR hMu ?_ | refine cR hK ?_ | refine cR hW ?_); refine sX ?_; try refine aA ?_) | refine gS ?_)
    (refine FinQ hQ (congrArg Array.toList Tryz.results62) _ _ ?_); simp (disch := omega) only [u, i64, ax, if_true, forall_const, reduceCtorEq, implies_true, tvs, bf]
theorem ret_Value22z (k e : Int) (neg : Bool) (cs : List Nat) (hk : k = 0) (hc : Wd cs) (hl : cs.length ≤ 40) (h0 : val cs = 0) :
    Ret Tryz.prog GEs 62 [.agg [i64 k, .bool neg, ws cs, i64 e]] (.agg [.bool false, nat 0, nat 1]) := by
  have hZ := ret_Zero22 k e neg cs hc (by omega)
  rw [decT (show k = 0 ∧ val cs = 0 from ⟨hk, h0⟩)] at hZ
  have hM := ret_Make11 neg cs hc (by omega)
  have hF := ret_From12z
  generalize val cs = v at *
  refine RetN_start Tryz.func62 (by kernel_rfl) rfl fun Q hQ hQ2 => ?_; rw [Tryz.ntmps62]; simp only [u, i64, Nat.reduceSub, Nat.reduceAdd, bm]
  repeat (first | (refine gC ?_; first | refine aA ?_ | ((first | refine cR hM ?_ | refine cR hZ ?_ | refine cR hF ?_); refine sX ?_; try refine aA ?_)) | ((first | refine cR hM ?_ | refine cR hZ ?_ | refine cR hF ?_); refine sX ?_; try refine aA ?_) | refine gS ?_)
  (refine FinQ hQ (congrArg Array.toList Tryz.results62) _ _ ?_); simp (disch := omega) only [u, i64, ax, if_true, forall_const, reduceCtorEq, implies_true, tvs, bf]
end Go.Proofs
