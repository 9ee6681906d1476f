/-
  Plain lemmas, with no program in sight.
-/
import Derived.Test.YtpnljnmpocobjaaDoorX10
import Derived.Test.YtpnljnmpocobjaaDoorX11
import Derived.Test.YtpnljnmpocobjaaDoorX8
set_option linter.unusedVariables false
namespace Go.Proofs
open Go.Ax
/-! Powers of 2 with whole exponents, and the logarithm of a fraction. -/
/-- 2^e is at most n / d. -/
def ge2 (n d : Nat) (e : Int) : Prop := d * 2 ^ e.toNat ≤ n * 2 ^ (-e).toNat
instance (n d : Nat) (e : Int) : Decidable (ge2 n d e) := by unfold ge2; infer_instance
theorem pow_le_iff (a b k : Nat) : a * 2 ^ k ≤ b * 2 ^ k ↔ a ≤ b := Nat.mul_le_mul_right_iff (Nat.two_pow_pos k)
theorem ge2_iff {n d : Nat} {e : Int} (K : Nat) (h : 0 ≤ e + K) : ge2 n d e ↔ d * 2 ^ (e + K).toNat ≤ n * 2 ^ K := by
  unfold ge2
  rw [← pow_le_iff _ _ (K - (-e).toNat), Nat.mul_assoc, Nat.mul_assoc, ← Nat.pow_add, ← Nat.pow_add, show e.toNat + (K - (-e).toNat) = (e + K).toNat by omega, show (-e).toNat + (K - (-e).toNat) = K by omega]
theorem ge2_mono {n d : Nat} {e f : Int} (hef : e ≤ f) (h : ge2 n d f) : ge2 n d e := by
  obtain ⟨K, hK⟩ : ∃ K : Nat, 0 ≤ e + K := ⟨(-e).toNat, by omega⟩
  rw [ge2_iff K hK]
  rw [ge2_iff K (by omega)] at h
  exact Nat.le_trans (Nat.mul_le_mul_left _ (Nat.pow_le_pow_right (by decide) (by omega))) h
theorem ge2_next {n d : Nat} {e : Int} : n * 2 ^ (-e).toNat < 2 * (d * 2 ^ e.toNat) ↔ ¬ ge2 n d (e + 1) := by
  obtain ⟨K, hK⟩ : ∃ K : Nat, 0 ≤ e + K := ⟨(-e).toNat, by omega⟩
  rw [ge2_iff K (by omega), Nat.not_le, show (e + 1 + K).toNat = (e + K).toNat + 1 by omega, Nat.pow_succ]
  have h1 : d * 2 ^ (e + K).toNat = d * 2 ^ e.toNat * 2 ^ (K - (-e).toNat) := by rw [Nat.mul_assoc, ← Nat.pow_add]; congr 2; omega
  have h2 : n * 2 ^ K = n * 2 ^ (-e).toNat * 2 ^ (K - (-e).toNat) := by rw [Nat.mul_assoc, ← Nat.pow_add]; congr 2; omega
  have h3 := pow_le_iff (2 * (d * 2 ^ e.toNat)) (n * 2 ^ (-e).toNat) (K - (-e).toNat)
  rw [Nat.mul_assoc 2] at h3
  rw [← Nat.mul_assoc d, h1, h2]
  omega
/-- The e with 2^e <= n / d < 2^(e+1). -/
def lg (n d : Nat) : Int := if n * 2 ^ (-((bl n : Int) - bl d)).toNat < d * 2 ^ ((bl n : Int) - bl d).toNat then (bl n : Int) - bl d - 1 else (bl n : Int) - bl d
theorem lg_spec {n d : Nat} (hn : n ≠ 0) (hd : d ≠ 0) : ge2 n d (lg n d) ∧ ¬ ge2 n d (lg n d + 1) := by
  obtain ⟨n1, n2, n3⟩ := bl_spec hn
  obtain ⟨d1, d2, d3⟩ := bl_spec hd
  have a1 : ge2 n d ((bl n : Int) - bl d - 1) := by
    rw [ge2_iff (bl d + 1) (by omega), show ((bl n : Int) - bl d - 1 + (bl d + 1 : Nat)).toNat = bl n - 1 + 1 by omega]
    rw [Nat.pow_succ, Nat.pow_succ, ← Nat.mul_assoc, ← Nat.mul_assoc, Nat.mul_comm n, Nat.mul_comm d]
    refine Nat.mul_le_mul_right _ ?_
    rw [Nat.mul_comm]
    exact Nat.mul_le_mul (Nat.le_of_lt d2) n1
  have a2 : ¬ ge2 n d ((bl n : Int) - bl d + 1) := by
    rw [ge2_iff (bl d) (by omega), show ((bl n : Int) - bl d + 1 + (bl d : Nat)).toNat = bl n + 1 by omega, Nat.not_le]
    calc n * 2 ^ bl d < 2 ^ bl n * 2 ^ bl d := Nat.mul_lt_mul_of_pos_right n2 (Nat.two_pow_pos _)
      _ = 2 ^ (bl d - 1) * 2 ^ (bl n + 1) := by rw [← Nat.pow_add, ← Nat.pow_add]; congr 1; omega
      _ ≤ d * 2 ^ (bl n + 1) := Nat.mul_le_mul_right _ d1
  unfold lg
  split
  · rename_i h
    refine ⟨a1, ?_⟩
    rw [Int.sub_add_cancel]
    unfold ge2
    omega
  · rename_i h
    exact ⟨by unfold ge2; omega, a2⟩
theorem lg_uniq {n d : Nat} {e : Int} (hn : n ≠ 0) (hd : d ≠ 0) (h1 : ge2 n d e) (h2 : ¬ ge2 n d (e + 1)) : lg n d = e := by
  obtain ⟨a1, a2⟩ := lg_spec hn hd
  rcases Int.lt_trichotomy (lg n d) e with h | h | h
  · exact absurd (ge2_mono (by omega) h1) a2
  · exact h
  · exact absurd (ge2_mono (by omega) a1) h2
/-- The logarithm of a quotient of what is multiplied first. -/
theorem lg_quo {n d : Nat} (s : Nat) (hn : n ≠ 0) (hd : d ≠ 0) (h : d ≤ n * 2 ^ s) : lg n d = (bl (n * 2 ^ s / d) : Int) - 1 - s := by
  have hd' := Nat.pos_of_ne_zero hd
  have hq : n * 2 ^ s / d ≠ 0 := by
    have := Nat.div_pos h hd'
    omega
  obtain ⟨q1, q2, q3⟩ := bl_spec hq
  refine lg_uniq hn hd ?_ ?_
  · rw [ge2_iff s (by omega), show ((bl (n * 2 ^ s / d) : Int) - 1 - s + s).toNat = bl (n * 2 ^ s / d) - 1 by omega]
    rw [Nat.le_div_iff_mul_le hd'] at q1
    rwa [Nat.mul_comm]
  · rw [ge2_iff s (by omega), show ((bl (n * 2 ^ s / d) : Int) - 1 - s + 1 + s).toNat = bl (n * 2 ^ s / d) by omega]
    rw [Nat.div_lt_iff_lt_mul hd'] at q2
    rw [Nat.mul_comm]
    omega
/-! What is cut off. -/
def cutC (q t : Nat) (sticky : Bool) : Nat :=
  if q / 2 ^ (t - 1) % 2 = 1 then (if (sticky || decide (q % 2 ^ (t - 1) ≠ 0)) = true then 3 else 2) else (if (sticky || decide (q % 2 ^ (t - 1) ≠ 0)) = true then 1 else 0)
theorem cut_eq (n d t : Nat) (hd : 0 < d) (ht : 0 < t) : cutC (n / d) t (decide (n % d ≠ 0)) = restC (n % (d * 2 ^ t)) (d * 2 ^ t) ∧ n / d / 2 ^ t = n / (d * 2 ^ t) := by
  refine ⟨?_, Nat.div_div_eq_div_mul _ _ _⟩
  obtain ⟨s, rfl⟩ : ∃ s, t = s + 1 := ⟨t - 1, by omega⟩
  have hx : n % (d * 2 ^ (s + 1)) = n % d + d * (n / d % 2 ^ (s + 1)) := Nat.mod_mul
  have hy : n / d % (2 ^ (s + 1)) = n / d % 2 ^ s + 2 ^ s * (n / d / 2 ^ s % 2) := by rw [Nat.pow_succ]; exact Nat.mod_mul
  have hl := Nat.mod_lt (n / d) (Nat.two_pow_pos s)
  have hr := Nat.mod_lt n hd
  unfold cutC
  rw [Nat.add_sub_cancel, hx, hy]
  have hp := Nat.two_pow_pos s
  have hb : n / d / 2 ^ s % 2 = 0 ∨ n / d / 2 ^ s % 2 = 1 := by omega
  rw [Nat.pow_succ]
  generalize n / d / 2 ^ s % 2 = b at *
  generalize n / d % 2 ^ s = l at *
  generalize n % d = r at *
  generalize 2 ^ s = h at *
  have h1 : d * l + d ≤ d * h := by rw [← Nat.mul_succ]; exact Nat.mul_le_mul_left _ hl
  have h2 : d * l = 0 ↔ l = 0 := by rw [Nat.mul_eq_zero]; omega
  have h3 : d * (h * 2) = 2 * (d * h) := by rw [← Nat.mul_assoc, Nat.mul_comm]
  unfold restC
  rcases hb with rfl | rfl
  · rw [Nat.mul_zero, Nat.add_zero, if_neg (by decide), h3]
    by_cases h0 : r = 0 ∧ l = 0
    · obtain ⟨rfl, rfl⟩ := h0
      simp
    · rw [if_pos, if_neg (by omega), if_pos (by omega)]
      by_cases hr0 : r = 0
      · rw [Bool.or_eq_true]; right; exact decT (by omega)
      · rw [Bool.or_eq_true]; left; exact decT hr0
  · rw [Nat.mul_one, if_pos rfl, h3, Nat.mul_add]
    have h4 : 0 < d * h := Nat.mul_pos hd hp
    by_cases h0 : r = 0 ∧ l = 0
    · obtain ⟨rfl, rfl⟩ := h0
      rw [if_neg (by simp), if_neg (by simp; omega), if_neg (by simp), if_pos (by simp)]
    · rw [if_pos, if_neg (by omega), if_neg (by omega), if_neg (by omega)]
      by_cases hr0 : r = 0
      · rw [Bool.or_eq_true]; right; exact decT (by omega)
      · rw [Bool.or_eq_true]; left; exact decT hr0
end Go.Proofs
set_option linter.unusedVariables false
namespace Go.Proofs
open Go.Ax
/-! A float, and a rational number rounded to one. -/
structure FV where
  kind : Nat
  neg : Bool
  exp : Int
  mag : Nat
/-- The value mag 2^exp as a canonical float. -/
def mkF (neg : Bool) (N : Nat) (s : Int) : FV := if N = 0 then ⟨0, neg, 0, 0⟩ else ⟨1, neg, s + tz N, N / 2 ^ tz N⟩
def topF (p : Nat) (G : Int) (neg : Bool) : FV := ⟨1, neg, G - p + 1, 2 ^ p - 1⟩
def infF (neg : Bool) : FV := ⟨2, neg, 0, 0⟩
/-- Does what is too great become the greatest number? -/
def grtF (r : Nat) (neg : Bool) : Bool := decide (r = 2) || (decide (r = 3) && neg) || (decide (r = 4) && !neg)
def overF (p : Nat) (G : Int) (r : Nat) (neg : Bool) : FV := if grtF r neg = true then topF p G neg else infF neg
/-- The step at numbers from 2^e on. -/
def stpF (p : Nat) (G e : Int) : Int := if e < 1 - G then 1 - G - (p - 1) else e - p + 1
theorem stpF_max (p : Nat) (G e : Int) : stpF p G e = max e (1 - G) - p + 1 := by unfold stpF; split <;> omega
def nu (n : Nat) (s : Int) : Nat := n * 2 ^ (-s).toNat
def de (d : Nat) (s : Int) : Nat := d * 2 ^ s.toNat
/-- A positive fraction with a sign, rounded. -/
def rndF (p : Nat) (G : Int) (r : Nat) (neg : Bool) (n d : Nat) : FV × Nat :=
  if G < bl (quoN r neg (nu n (stpF p G (lg n d))) (de d (stpF p G (lg n d)))) + stpF p G (lg n d) - 1 then (overF p G r neg, 5)
  else (mkF neg (quoN r neg (nu n (stpF p G (lg n d))) (de d (stpF p G (lg n d)))) (stpF p G (lg n d)),
    if nu n (stpF p G (lg n d)) % de d (stpF p G (lg n d)) = 0 then 0 else if lg n d < 1 - G then 3 else 1)
theorem nu_scale (n d : Nat) (s : Int) (K : Nat) (h : 0 ≤ s + K) : nu n s * 2 ^ (K - (-s).toNat) = n * 2 ^ K ∧ de d s * 2 ^ (K - (-s).toNat) = d * 2 ^ (s + K).toNat := by
  unfold nu de
  rw [Nat.mul_assoc, Nat.mul_assoc, ← Nat.pow_add, ← Nat.pow_add]
  exact ⟨by congr 2; omega, by congr 2; omega⟩
theorem quo_nu (r : Nat) (neg : Bool) (n d : Nat) (s : Int) (K : Nat) (h : 0 ≤ s + K) : quoN r neg (n * 2 ^ K) (d * 2 ^ (s + K).toNat) = quoN r neg (nu n s) (de d s) ∧ decide (n * 2 ^ K % (d * 2 ^ (s + K).toNat) = 0) = decide (nu n s % de d s = 0) := by
  obtain ⟨h1, h2⟩ := nu_scale n d s K h
  rw [← h1, ← h2, Nat.mul_comm (nu n s), Nat.mul_comm (de d s)]
  exact quoN_scale r neg _ _ _ (Nat.two_pow_pos _)
theorem moreF_zero (r : Nat) (neg odd : Bool) : moreF r neg odd 0 = false := by
  unfold moreF
  split
  · simp
  · split
    · simp
    · split
      · rfl
      · split <;> simp
/-- What the program does after its division. -/
def finF (p : Nat) (G : Int) (r : Nat) (neg : Bool) (q : Nat) (exp : Int) (sticky : Bool) : FV × Nat :=
  let e := exp + bl q - 1
  let u := stpF p G e
  let t := (u - exp).toNat
  let x := cutC q t sticky
  let N := q / 2 ^ t + if moreF r neg (decide (q / 2 ^ t % 2 = 1)) x = true then 1 else 0
  if G < u + bl N - 1 then (overF p G r neg, 5) else (mkF neg N u, if x = 0 then 0 else if e < 1 - G then 3 else 1)
/-- The shift ahead of the division. -/
def preS (p n d : Nat) : Nat := ((p : Int) + 3 - bl n + bl d).toNat
theorem preS_facts (p n d : Nat) (hn : n ≠ 0) (hd : d ≠ 0) : d ≤ n * 2 ^ preS p n d ∧ p + 3 ≤ bl (n * 2 ^ preS p n d / d) := by
  obtain ⟨n1, n2, n3⟩ := bl_spec hn
  obtain ⟨d1, d2, d3⟩ := bl_spec hd
  have key : d * 2 ^ (p + 2) ≤ n * 2 ^ preS p n d := by
    calc d * 2 ^ (p + 2) ≤ 2 ^ bl d * 2 ^ (p + 2) := Nat.mul_le_mul_right _ (Nat.le_of_lt d2)
      _ = 2 ^ (bl d + (p + 2)) := (Nat.pow_add ..).symm
      _ ≤ 2 ^ (bl n - 1 + preS p n d) := Nat.pow_le_pow_right (by decide) (by unfold preS; omega)
      _ = 2 ^ (bl n - 1) * 2 ^ preS p n d := Nat.pow_add ..
      _ ≤ n * 2 ^ preS p n d := Nat.mul_le_mul_right _ n1
  have hd' := Nat.pos_of_ne_zero hd
  refine ⟨Nat.le_trans (Nat.le_mul_of_pos_right _ (Nat.two_pow_pos _)) key, ?_⟩
  have h2 : 2 ^ (p + 2) ≤ n * 2 ^ preS p n d / d := (Nat.le_div_iff_mul_le hd').2 (by rw [Nat.mul_comm]; exact key)
  rcases Nat.lt_or_ge (bl (n * 2 ^ preS p n d / d)) (p + 3) with h | h
  · have h0 : n * 2 ^ preS p n d / d ≠ 0 := by
      have := Nat.two_pow_pos (p + 2)
      omega
    have := (bl_spec h0).2.1
    have h3 : 2 ^ bl (n * 2 ^ preS p n d / d) ≤ 2 ^ (p + 2) := Nat.pow_le_pow_right (by decide) (by omega)
    omega
  · exact h
theorem finF_eq (p : Nat) (G : Int) (r : Nat) (neg : Bool) (n d : Nat) (hp : 2 ≤ p) (hn : n ≠ 0) (hd : d ≠ 0) :
    finF p G r neg (n * 2 ^ preS p n d / d) (-(preS p n d : Int)) (decide (n * 2 ^ preS p n d % d ≠ 0)) = rndF p G r neg n d := by
  obtain ⟨h1, h2⟩ := preS_facts p n d hn hd
  have hl := lg_quo (preS p n d) hn hd h1
  have he : -(preS p n d : Int) + bl (n * 2 ^ preS p n d / d) - 1 = lg n d := by omega
  unfold finF rndF
  simp only [he]
  have hu : lg n d - p + 1 ≤ stpF p G (lg n d) := by rw [stpF_max]; omega
  have hK : 0 ≤ stpF p G (lg n d) + (preS p n d : Nat) := by omega
  have ht : (stpF p G (lg n d) - -(preS p n d : Int)).toNat = (stpF p G (lg n d) + (preS p n d : Nat)).toNat := by omega
  rw [ht]
  obtain ⟨c1, c2⟩ := cut_eq (n * 2 ^ preS p n d) d (stpF p G (lg n d) + (preS p n d : Nat)).toNat (Nat.pos_of_ne_zero hd) (by omega)
  obtain ⟨q1, q2⟩ := quo_nu r neg n d (stpF p G (lg n d)) (preS p n d) hK
  rw [c1, c2]
  have hN : (n * 2 ^ preS p n d / (d * 2 ^ (stpF p G (lg n d) + (preS p n d : Nat)).toNat) + if moreF r neg (decide (n * 2 ^ preS p n d / (d * 2 ^ (stpF p G (lg n d) + (preS p n d : Nat)).toNat) % 2 = 1)) (restC (n * 2 ^ preS p n d % (d * 2 ^ (stpF p G (lg n d) + (preS p n d : Nat)).toNat)) (d * 2 ^ (stpF p G (lg n d) + (preS p n d : Nat)).toNat)) = true then 1 else 0) = quoN r neg (nu n (stpF p G (lg n d))) (de d (stpF p G (lg n d))) := q1
  rw [hN]
  have hx : restC (n * 2 ^ preS p n d % (d * 2 ^ (stpF p G (lg n d) + (preS p n d : Nat)).toNat)) (d * 2 ^ (stpF p G (lg n d) + (preS p n d : Nat)).toNat) = 0 ↔ nu n (stpF p G (lg n d)) % de d (stpF p G (lg n d)) = 0 := by
    have h3 := decide_eq_decide.1 q2
    rw [← h3]
    unfold restC
    constructor
    · intro h
      split at h
      · assumption
      · split at h
        · cases h
        · split at h <;> cases h
    · intro h; rw [if_pos h]
  simp only [hx]
  rw [Int.add_comm (stpF p G (lg n d)) (bl _ : Int)]
/-! The reference. -/
/-- Twice a number, divided by 2^s: the quotient rounded down, and whether that is it. -/
def stepsQ (n d : Nat) (s : Int) : Nat := if 0 ≤ 1 - s then n * 2 ^ (1 - s).toNat / d else n / d / 2 ^ (s - 1).toNat
def stepsX (n d : Nat) (s : Int) : Bool := if 0 ≤ 1 - s then decide (n * 2 ^ (1 - s).toNat % d = 0) else decide (n % d = 0) && decide (n / d % 2 ^ (s - 1).toNat = 0)
theorem steps_eq (n d : Nat) (s : Int) (hd : 0 < d) : stepsQ n d s = 2 * nu n s / de d s ∧ stepsX n d s = decide (2 * nu n s % de d s = 0) := by
  unfold stepsQ stepsX nu de
  by_cases h : s ≤ 0
  · rw [if_pos (by omega), if_pos (by omega), show s.toNat = 0 by omega, show (1 - s).toNat = (-s).toNat + 1 by omega, Nat.pow_zero, Nat.mul_one, Nat.pow_succ, ← Nat.mul_assoc, Nat.mul_comm _ 2]
    exact ⟨rfl, rfl⟩
  · rw [show (-s).toNat = 0 by omega, Nat.pow_zero, Nat.mul_one]
    obtain ⟨k, rfl⟩ : ∃ k : Nat, s = k + 1 := ⟨(s - 1).toNat, by omega⟩
    have e1 : ((k : Int) + 1).toNat = k + 1 := by omega
    have e2 : ((k : Int) + 1 - 1).toNat = k := by omega
    rw [e1, e2, Nat.pow_succ, ← Nat.mul_assoc d, Nat.mul_comm _ 2, Nat.mul_div_mul_left _ _ (by decide), Nat.mul_mod_mul_left]
    by_cases h1 : k = 0
    · subst h1
      rw [if_pos (by omega), if_pos (by omega), show (1 - ((0 : Nat) + 1) : Int).toNat = 0 by decide, Nat.pow_zero, Nat.mul_one, Nat.mul_one]
      exact ⟨rfl, by congr 1; exact propext (by omega)⟩
    · rw [if_neg (by omega), if_neg (by omega), Nat.div_div_eq_div_mul]
      refine ⟨rfl, ?_⟩
      rw [Nat.mod_mul, ← Bool.decide_and]
      congr 1
      have : d * (n / d % 2 ^ k) = 0 ↔ n / d % 2 ^ k = 0 := by rw [Nat.mul_eq_zero]; omega
      exact propext (by omega)
/-- What the reference does. -/
def refF (p : Nat) (G : Int) (r : Nat) (neg : Bool) (n d : Nat) : FV × Nat :=
  let e := lg n d
  let s := max e (1 - G) - p + 1
  let N := rndR r neg (stepsQ n d s / 2) (decide (stepsQ n d s % 2 = 1)) (!stepsX n d s)
  let x := !(decide (stepsQ n d s % 2 = 1)) && !(!stepsX n d s)
  if G < e then (overF p G r neg, 5)
  else if G + 1 < bl N + s then (overF p G r neg, 5)
  else if N = 0 then (⟨0, neg, 0, 0⟩, 3)
  else if x = true then (mkF neg N s, 0) else if e < 1 - G then (mkF neg N s, 3) else (mkF neg N s, 1)
theorem quoN_ge (r : Nat) (neg : Bool) (n d : Nat) : n / d ≤ quoN r neg n d := Nat.le_add_right _ _
theorem de_pos {d : Nat} (s : Int) (hd : 0 < d) : 0 < de d s := Nat.mul_pos hd (Nat.two_pow_pos _)
/-- Where the exponent of the step is that of the precision, the quotient has as many digits. -/
theorem rnd_big (r : Nat) (neg : Bool) (n d : Nat) (hn : n ≠ 0) (hd : d ≠ 0) (k : Nat) (s : Int) (hs : s + k = lg n d) : 2 ^ k ≤ nu n s / de d s := by
  have hd' := Nat.pos_of_ne_zero hd
  obtain ⟨h1, _⟩ := lg_spec hn hd
  rw [Nat.le_div_iff_mul_le (de_pos _ hd')]
  obtain ⟨K, hK⟩ : ∃ K : Nat, 0 ≤ s + K := ⟨(-s).toNat, by omega⟩
  obtain ⟨n1, n2⟩ := nu_scale n d s K hK
  rw [ge2_iff K (by omega)] at h1
  rw [← pow_le_iff _ _ (K - (-s).toNat), Nat.mul_assoc, n1, n2]
  refine Nat.le_trans (Nat.le_of_eq ?_) h1
  rw [Nat.mul_left_comm, ← Nat.pow_add]
  congr 2
  omega
theorem bl_ge {n k : Nat} (h : 2 ^ k ≤ n) : k + 1 ≤ bl n := by
  have h0 : n ≠ 0 := by have := Nat.two_pow_pos k; omega
  have := (bl_spec h0).2.1
  rcases Nat.lt_or_ge (bl n) (k + 1) with h1 | h1
  · have h3 : 2 ^ bl n ≤ 2 ^ k := Nat.pow_le_pow_right (by decide) (by omega)
    omega
  · exact h1
theorem refF_eq (p : Nat) (G : Int) (r : Nat) (hr : r ≤ 4) (neg : Bool) (n d : Nat) (hp : 2 ≤ p) (hG : 1 ≤ G) (hn : n ≠ 0) (hd : d ≠ 0) : refF p G r neg n d = rndF p G r neg n d := by
  have hd' := Nat.pos_of_ne_zero hd
  unfold refF rndF
  simp only [← stpF_max]
  obtain ⟨s1, s2⟩ := steps_eq n d (stpF p G (lg n d)) hd'
  obtain ⟨r1, r2⟩ := rndR_eq r hr neg (nu n (stpF p G (lg n d))) (de d (stpF p G (lg n d))) (de_pos _ hd')
  have hx : (!stepsX n d (stpF p G (lg n d))) = decide (2 * nu n (stpF p G (lg n d)) % de d (stpF p G (lg n d)) ≠ 0) := by rw [s2]; simp
  rw [hx, s1, r1, r2]
  have hbig : 1 - G ≤ lg n d → 2 ^ (p - 1) ≤ quoN r neg (nu n (stpF p G (lg n d))) (de d (stpF p G (lg n d))) := fun h =>
    Nat.le_trans (rnd_big r neg n d hn hd (p - 1) _ (by rw [stpF_max]; omega)) (quoN_ge _ _ _ _)
  have hsm := stpF_max p G (lg n d)
  have hz : quoN r neg (nu n (stpF p G (lg n d))) (de d (stpF p G (lg n d))) = 0 → nu n (stpF p G (lg n d)) % de d (stpF p G (lg n d)) ≠ 0 := fun h0 hm => by
    have h1 := quoN_ge r neg (nu n (stpF p G (lg n d))) (de d (stpF p G (lg n d)))
    have h2 := Nat.div_add_mod (nu n (stpF p G (lg n d))) (de d (stpF p G (lg n d)))
    have h3 : nu n (stpF p G (lg n d)) / de d (stpF p G (lg n d)) = 0 := Nat.le_zero.1 (h0 ▸ h1)
    rw [h3, hm] at h2
    have h4 : nu n (stpF p G (lg n d)) ≠ 0 := Nat.mul_ne_zero hn (Nat.ne_of_gt (Nat.two_pow_pos _))
    omega
  generalize quoN r neg (nu n (stpF p G (lg n d))) (de d (stpF p G (lg n d))) = N at *
  generalize nu n (stpF p G (lg n d)) % de d (stpF p G (lg n d)) = m at *
  have h1p := Nat.two_pow_pos (p - 1)
  by_cases hover : G < lg n d
  · have := bl_ge (hbig (by omega))
    rw [if_pos hover, if_pos (show G < (bl N : Int) + stpF p G (lg n d) - 1 by omega)]
  · rw [if_neg hover]
    by_cases h2 : G + 1 < bl N + stpF p G (lg n d)
    · rw [if_pos h2, if_pos (by omega)]
    · rw [if_neg h2, if_neg (show ¬ G < (bl N : Int) + stpF p G (lg n d) - 1 by omega)]
      by_cases h0 : N = 0
      · rw [if_pos h0, if_neg (hz h0), if_pos (by
          rcases Int.lt_or_le (lg n d) (1 - G) with h | h
          · exact h
          · have := hbig h; omega)]
        unfold mkF
        rw [if_pos h0]
      · rw [if_neg h0]
        by_cases h3 : m = 0
        · rw [if_pos (by rw [decT h3]), if_pos h3]
        · rw [if_neg (by rw [decF h3]; decide), if_neg h3]
          split <;> rfl
end Go.Proofs
set_option linter.unusedVariables false
namespace Go.Proofs
open Go.Ax
/-! The other sign. -/
def swR (r : Nat) : Nat := if r = 3 then 4 else if r = 4 then 3 else r
def FV.flip (x : FV) : FV := ⟨x.kind, !x.neg, x.exp, x.mag⟩
theorem moreF_flip (r : Nat) (hr : r ≤ 4) (neg odd : Bool) (x : Nat) : moreF (swR r) (!neg) odd x = moreF r neg odd x := by
  have h1 : r = 0 ∨ r = 1 ∨ r = 2 ∨ r = 3 ∨ r = 4 := by omega
  rcases h1 with rfl | rfl | rfl | rfl | rfl <;> simp [swR, moreF]
theorem grtF_flip (r : Nat) (hr : r ≤ 4) (neg : Bool) : grtF (swR r) (!neg) = grtF r neg := by
  have h1 : r = 0 ∨ r = 1 ∨ r = 2 ∨ r = 3 ∨ r = 4 := by omega
  rcases h1 with rfl | rfl | rfl | rfl | rfl <;> cases neg <;> rfl
theorem quoN_flip (r : Nat) (hr : r ≤ 4) (neg : Bool) (n d : Nat) : quoN (swR r) (!neg) n d = quoN r neg n d := by
  unfold quoN
  rw [moreF_flip r hr]
theorem mkF_flip (neg : Bool) (N : Nat) (s : Int) : mkF (!neg) N s = (mkF neg N s).flip := by
  unfold mkF
  split <;> rfl
theorem overF_flip (p : Nat) (G : Int) (r : Nat) (hr : r ≤ 4) (neg : Bool) : overF p G (swR r) (!neg) = (overF p G r neg).flip := by
  unfold overF
  rw [grtF_flip r hr]
  split <;> rfl
theorem rndF_flip (p : Nat) (G : Int) (r : Nat) (hr : r ≤ 4) (neg : Bool) (n d : Nat) : rndF p G (swR r) (!neg) n d = ((rndF p G r neg n d).1.flip, (rndF p G r neg n d).2) := by
  unfold rndF
  rw [quoN_flip r hr, mkF_flip, overF_flip p G r hr]
  split <;> rfl
/-! What is a float already. -/
/-- n / d is m 2^e. -/
def veq (n d m : Nat) (e : Int) : Prop := n * 2 ^ (-e).toNat = m * (d * 2 ^ e.toNat)
theorem veq_iff {n d m : Nat} {e : Int} (K : Nat) (h : 0 ≤ e + K) : veq n d m e ↔ n * 2 ^ K = m * (d * 2 ^ (e + K).toNat) := by
  obtain ⟨h1, h2⟩ := nu_scale n d e K h
  unfold nu at h1
  unfold de at h2
  unfold veq
  rw [← h1, ← h2, ← Nat.mul_assoc m (d * 2 ^ e.toNat)]
  exact (Nat.mul_left_inj (Nat.ne_of_gt (Nat.two_pow_pos _))).symm
theorem bl_mul (m k : Nat) (h : m ≠ 0) : bl (m * 2 ^ k) = bl m + k := by
  obtain ⟨h1, h2, h3⟩ := bl_spec h
  have := bl_eq (n := m * 2 ^ k) (k := bl m - 1 + k) (by rw [Nat.pow_add]; exact Nat.mul_le_mul_right _ h1) (by
    rw [show bl m - 1 + k + 1 = bl m + k by omega, Nat.pow_add]; exact Nat.mul_lt_mul_of_pos_right h2 (Nat.two_pow_pos k))
  omega
theorem tz_mul (m k : Nat) : tz ((2 * m + 1) * 2 ^ k) = k := by rw [Nat.mul_comm]; exact tz_of k m
theorem veq_lg {n d m : Nat} {e : Int} (hn : n ≠ 0) (hd : d ≠ 0) (hm : m ≠ 0) (h : veq n d m e) : lg n d = e + bl m - 1 := by
  obtain ⟨h1, h2, h3⟩ := bl_spec hm
  have hd' := Nat.pos_of_ne_zero hd
  obtain ⟨K, hK⟩ : ∃ K : Nat, 0 ≤ e + K := ⟨(-e).toNat, by omega⟩
  rw [veq_iff K hK] at h
  refine lg_uniq hn hd ?_ ?_
  · rw [ge2_iff K (by omega), h, show (e + bl m - 1 + K).toNat = (bl m - 1) + (e + K).toNat by omega, Nat.pow_add, Nat.mul_left_comm]
    exact Nat.mul_le_mul_right _ h1
  · rw [ge2_iff K (by omega), h, show (e + bl m - 1 + 1 + K).toNat = (bl m) + (e + K).toNat by omega, Nat.pow_add, Nat.mul_left_comm, Nat.not_le]
    exact Nat.mul_lt_mul_of_pos_right h2 (Nat.mul_pos hd' (Nat.two_pow_pos _))
theorem veq_nu {n d m : Nat} {e s : Int} (hse : s ≤ e) (h : veq n d m e) : nu n s = m * 2 ^ (e - s).toNat * de d s := by
  obtain ⟨K, hK⟩ : ∃ K : Nat, 0 ≤ s + K := ⟨(-s).toNat, by omega⟩
  rw [veq_iff K (by omega)] at h
  obtain ⟨h1, h2⟩ := nu_scale n d s K hK
  have h3 : nu n s * 2 ^ (K - (-s).toNat) = m * 2 ^ (e - s).toNat * de d s * 2 ^ (K - (-s).toNat) := by
    rw [h1, h, Nat.mul_assoc _ (de d s), h2, Nat.mul_assoc m, Nat.mul_left_comm (2 ^ (e - s).toNat), ← Nat.pow_add]
    congr 3
    omega
  exact Nat.eq_of_mul_eq_mul_right (Nat.two_pow_pos _) h3
theorem mkF_odd (neg : Bool) (k j : Nat) (s : Int) : mkF neg ((2 * k + 1) * 2 ^ j) s = ⟨1, neg, s + j, 2 * k + 1⟩ := by
  unfold mkF
  rw [if_neg (Nat.ne_of_gt (Nat.mul_pos (by omega) (Nat.two_pow_pos j))), tz_mul, Nat.mul_div_cancel _ (Nat.two_pow_pos j)]
theorem quoN_exact (r : Nat) (neg : Bool) (q d : Nat) (hd : 0 < d) : quoN r neg (q * d) d = q := by
  unfold quoN restC
  rw [Nat.mul_mod_left, if_pos rfl, moreF_zero, Nat.mul_div_cancel _ hd, if_neg (by decide), Nat.add_zero]
/-- A float is rounded to itself. -/
theorem rndF_in (p : Nat) (G : Int) (r : Nat) (neg : Bool) (n d k : Nat) (e : Int) (hp : 2 ≤ p) (hn : n ≠ 0) (hd : d ≠ 0) (h : veq n d (2 * k + 1) e) (h1 : bl (2 * k + 1) ≤ p) (h2 : 1 - G - (p - 1) ≤ e) (h3 : bl (2 * k + 1) + e ≤ G + 1) :
    rndF p G r neg n d = (⟨1, neg, e, 2 * k + 1⟩, 0) := by
  have hl := veq_lg hn hd (by omega) h
  have hs := stpF_max p G (lg n d)
  have hse : stpF p G (lg n d) ≤ e := by omega
  have hnu := veq_nu hse h
  have hdp := de_pos (stpF p G (lg n d)) (Nat.pos_of_ne_zero hd)
  unfold rndF
  rw [hnu, quoN_exact _ _ _ _ hdp, bl_mul _ _ (by omega), Nat.mul_mod_left, if_pos rfl, if_neg (by omega), mkF_odd]
  congr 2
  omega
/-- What is rounded without flags is a float. -/
theorem rndF_out (p : Nat) (G : Int) (r : Nat) (neg : Bool) (n d : Nat) (hp : 2 ≤ p) (hn : n ≠ 0) (hd : d ≠ 0) (h : (rndF p G r neg n d).2 = 0) :
    ∃ k e, veq n d (2 * k + 1) e ∧ bl (2 * k + 1) ≤ p ∧ 1 - G - (p - 1) ≤ e ∧ bl (2 * k + 1) + e ≤ G + 1 := by
  have hs := stpF_max p G (lg n d)
  have hdp := de_pos (stpF p G (lg n d)) (Nat.pos_of_ne_zero hd)
  unfold rndF at h
  generalize stpF p G (lg n d) = s at *
  split at h
  · cases h
  rename_i hov
  simp only at h
  have hm : nu n s % de d s = 0 := by
    split at h
    · assumption
    · split at h <;> cases h
  have hnu : nu n s = nu n s / de d s * de d s := by have := Nat.div_add_mod (nu n s) (de d s); rw [hm, Nat.mul_comm] at this; omega
  have hN0 : nu n s / de d s ≠ 0 := fun h0 => by
    rw [h0, Nat.zero_mul] at hnu
    exact Nat.mul_ne_zero hn (Nat.ne_of_gt (Nat.two_pow_pos _)) hnu
  rw [hnu, quoN_exact _ _ _ _ hdp] at hov
  obtain ⟨N, hN⟩ : ∃ N, nu n s / de d s = N := ⟨_, rfl⟩
  rw [hN] at hnu hN0 hov
  obtain ⟨k, hk⟩ := tz_spec hN0
  have hv0 : veq n d N s := hnu
  have hl := veq_lg hn hd hN0 hv0
  have hb : bl N = bl (2 * k + 1) + tz N := by
    rw [Nat.mul_comm] at hk
    conv => lhs; rw [hk]
    exact bl_mul _ _ (by omega)
  refine ⟨k, s + tz N, ?_, by omega, by omega, by omega⟩
  obtain ⟨K, hK⟩ : ∃ K : Nat, 0 ≤ s + K := ⟨(-s).toNat, by omega⟩
  rw [veq_iff K hK] at hv0
  rw [veq_iff K (by omega), hv0]
  conv => lhs; rw [hk]
  rw [show (s + tz N + K).toNat = tz N + (s + K).toNat by omega, Nat.pow_add]
  rw [Nat.mul_comm (2 ^ tz N) (2 * k + 1), Nat.mul_assoc, Nat.mul_left_comm d]
theorem odd_pow_uniq {k k' i j : Nat} (h : (2 * k + 1) * 2 ^ i = (2 * k' + 1) * 2 ^ j) : k = k' ∧ i = j := by
  have e : i = j := by rw [← tz_mul k i, h, tz_mul]
  subst e
  have := Nat.eq_of_mul_eq_mul_right (Nat.two_pow_pos i) h
  omega
theorem veq_uniq {n d k k' : Nat} {e e' : Int} (hd : d ≠ 0) (h : veq n d (2 * k + 1) e) (h' : veq n d (2 * k' + 1) e') : k = k' ∧ e = e' := by
  obtain ⟨K, hK⟩ : ∃ K : Nat, 0 ≤ e + K ∧ 0 ≤ e' + K := ⟨(-e).toNat + (-e').toNat, by omega⟩
  rw [veq_iff K (by omega)] at h h'
  rw [h, Nat.mul_left_comm, Nat.mul_left_comm _ d] at h'
  obtain ⟨h1, h2⟩ := odd_pow_uniq (Nat.eq_of_mul_eq_mul_left (Nat.pos_of_ne_zero hd) h')
  exact ⟨h1, by omega⟩
theorem pow2_of_dvd {x j : Nat} (h : x ∣ 2 ^ j) : x = 2 ^ tz x := by
  have h0 : x ≠ 0 := fun h0 => by
    subst h0
    have := Nat.two_pow_pos j
    have := Nat.eq_zero_of_zero_dvd h
    omega
  obtain ⟨m, hm⟩ := tz_spec h0
  have h1 : (2 * m + 1) ∣ 2 ^ j := Nat.dvd_trans ⟨2 ^ tz x, by rw [Nat.mul_comm]; exact hm⟩ h
  have h2 : Nat.Coprime (2 * m + 1) (2 ^ j) := by
    refine Nat.Coprime.pow_right j ?_
    unfold Nat.Coprime
    rw [Nat.gcd_comm, Nat.gcd_rec, show (2 * m + 1) % 2 = 1 by omega]
    rfl
  have h3 : 2 * m + 1 = 1 := Nat.Coprime.eq_one_of_dvd h2 h1
  rw [h3, Nat.mul_one] at hm
  exact hm
/-- A fraction in lowest terms that is m 2^e has a power of 2 below. -/
theorem veq_den {n d m : Nat} {e : Int} (hc : Nat.Coprime n d) (h : veq n d m e) : d = 2 ^ tz d := by
  unfold veq at h
  have h1 : d ∣ n * 2 ^ (-e).toNat := ⟨m * 2 ^ e.toNat, by rw [h, Nat.mul_left_comm]⟩
  exact pow2_of_dvd ((Nat.Coprime.symm hc).dvd_of_dvd_mul_left h1)
/-- A fraction with a power of 2 below. -/
theorem veq_pow (n t : Nat) (hn : n ≠ 0) : ∃ k, n / 2 ^ tz n = 2 * k + 1 ∧ veq n (2 ^ t) (2 * k + 1) ((tz n : Int) - t) := by
  obtain ⟨k, hk⟩ := tz_spec hn
  refine ⟨k, ?_, ?_⟩
  · conv => lhs; arg 1; rw [hk]
    exact Nat.mul_div_cancel_left _ (Nat.two_pow_pos _)
  · rw [veq_iff t (by omega)]
    conv => lhs; rw [hk]
    rw [show ((tz n : Int) - t + t).toNat = tz n by omega, Nat.mul_comm (2 ^ tz n), Nat.mul_assoc, Nat.mul_comm (2 ^ tz n)]
theorem veq_scale {g n d m : Nat} {e : Int} (hg : 0 < g) : veq (g * n) (g * d) m e ↔ veq n d m e := by
  unfold veq
  rw [Nat.mul_assoc, Nat.mul_assoc g, Nat.mul_left_comm m]
  exact Nat.mul_right_inj (by omega)
end Go.Proofs
set_option linter.unusedVariables false
namespace Go.Proofs
open Go.Ax
/-! How many bits are 1. -/
def popF : Nat → Nat → Nat
  | 0, _ => 0
  | f + 1, n => n % 2 + popF f (n / 2)
def pop (n : Nat) : Nat := popF (bl n) n
theorem popF_zero : ∀ (f n : Nat), n < 2 ^ f → popF f n = 0 → n = 0
  | 0, n, h, _ => by simpa using h
  | f + 1, n, h, h0 => by
    unfold popF at h0
    have := popF_zero f (n / 2) (by rw [Nat.pow_succ] at h; omega) (by omega)
    omega
theorem popF_of0 : ∀ (f : Nat), popF f 0 = 0
  | 0 => rfl
  | f + 1 => by unfold popF; rw [popF_of0 f]
theorem popF_pow : ∀ (f k : Nat), 2 ^ k < 2 ^ f → popF f (2 ^ k) = 1
  | 0, k, h => by have := Nat.two_pow_pos k; omega
  | f + 1, 0, h => by unfold popF; rw [show 2 ^ 0 / 2 = 0 by decide, popF_of0]
  | f + 1, k + 1, h => by
    unfold popF
    rw [show 2 ^ (k + 1) / 2 = 2 ^ k by omega, popF_pow f k (by rw [Nat.pow_succ, Nat.pow_succ] at h; exact Nat.lt_of_mul_lt_mul_right h)]
    rw [Nat.pow_succ]
    omega
theorem popF_one : ∀ (f n : Nat), n < 2 ^ f → popF f n = 1 → ∃ k, n = 2 ^ k
  | 0, n, h, h1 => by cases h1
  | f + 1, n, h, h1 => by
    unfold popF at h1
    have hn : n / 2 < 2 ^ f := by rw [Nat.pow_succ] at h; omega
    by_cases ho : n % 2 = 1
    · have := popF_zero f (n / 2) hn (by omega)
      exact ⟨0, by omega⟩
    · obtain ⟨k, hk⟩ := popF_one f (n / 2) hn (by omega)
      exact ⟨k + 1, by rw [Nat.pow_succ]; omega⟩
theorem bl_lt (n : Nat) : n < 2 ^ bl n := by
  by_cases h : n = 0
  · subst h; decide
  · exact (bl_spec h).2.1
theorem tz_pow (k : Nat) : tz (2 ^ k) = k := by
  have := tz_of k 0
  rwa [Nat.mul_zero, Nat.zero_add, Nat.mul_one] at this
/-- One bit alone is 1: a power of 2. -/
theorem pop_one (n : Nat) : pop n = 1 ↔ n = 2 ^ tz n := by
  constructor
  · intro h
    obtain ⟨k, hk⟩ := popF_one _ n (bl_lt n) h
    rw [hk, tz_pow]
  · intro h
    unfold pop
    have := bl_lt n
    rw [h] at this ⊢
    generalize tz n = k at *
    exact popF_pow _ _ this
theorem tz_step (n : Nat) : (if n = 0 then 0 else tz n) = if n % 2 = 1 then 0 else (if n / 2 = 0 then 0 else 1 + tz (n / 2)) := by
  by_cases h : n = 0
  · subst h; rfl
  · rw [if_neg h]
    by_cases ho : n % 2 = 1
    · rw [if_pos ho]
      have := tz_of 0 (n / 2)
      rw [show 2 ^ 0 * (2 * (n / 2) + 1) = n by omega] at this
      exact this
    · rw [if_neg ho, if_neg (by omega)]
      obtain ⟨m, hm⟩ := tz_spec (n := n / 2) (by omega)
      generalize tz (n / 2) = k at *
      have := tz_of (k + 1) m
      rw [Nat.pow_succ, Nat.mul_comm (2 ^ k) 2, Nat.mul_assoc, ← hm, show 2 * (n / 2) = n by omega] at this
      omega
/-- The bits from i on: the lowest one that is 1, and how many are. -/
def bitsI (n L i : Nat) : Nat × Nat := (if n / 2 ^ i = 0 then 0 else i + tz (n / 2 ^ i), popF (L - i) (n / 2 ^ i))
theorem bitsI_top (n : Nat) : bitsI n (bl n) (bl n) = (0, 0) := by
  unfold bitsI
  rw [Nat.div_eq_of_lt (bl_lt n), Nat.sub_self]
  rfl
theorem bitsI_step (n L i : Nat) (h : i < L) : bitsI n L i = if n / 2 ^ i % 2 = 1 then (i, (bitsI n L (i + 1)).2 + 1) else bitsI n L (i + 1) := by
  have e : n / 2 ^ i / 2 = n / 2 ^ (i + 1) := by rw [Nat.div_div_eq_div_mul, Nat.pow_succ]
  have hs := tz_step (n / 2 ^ i)
  unfold bitsI
  rw [show L - i = L - (i + 1) + 1 by omega]
  simp only [popF, ← e]
  by_cases ho : n / 2 ^ i % 2 = 1
  · rw [if_pos ho] at hs ⊢
    rw [if_neg (by omega)] at hs ⊢
    rw [hs, ho, Nat.add_comm 1]
    rfl
  · rw [if_neg ho] at hs ⊢
    rw [show n / 2 ^ i % 2 = 0 by omega, Nat.zero_add]
    congr 1
    by_cases h0 : n / 2 ^ i = 0
    · rw [h0]; rfl
    · rw [if_neg h0] at hs ⊢
      rw [if_neg (by omega)] at hs ⊢
      omega
theorem bitsI_zero (n : Nat) (h : n ≠ 0) : bitsI n (bl n) 0 = (tz n, pop n) := by
  unfold bitsI
  rw [Nat.pow_zero, Nat.div_one, if_neg h, Nat.zero_add]
  rfl
end Go.Proofs
set_option linter.unusedVariables false
namespace Go.Proofs
open Go.Ax
/-! Rounding does not turn the order of two numbers. -/
/-- a 2^i is at most b 2^j. -/
def le2 (a : Nat) (i : Int) (b : Nat) (j : Int) : Prop := a * 2 ^ (i - j).toNat ≤ b * 2 ^ (j - i).toNat
theorem le2_iff {a b : Nat} {i j : Int} (K : Nat) (h1 : 0 ≤ i + K) (h2 : 0 ≤ j + K) : le2 a i b j ↔ a * 2 ^ (i + K).toNat ≤ b * 2 ^ (j + K).toNat := by
  unfold le2
  rw [← pow_le_iff _ _ (min (i + K) (j + K)).toNat, Nat.mul_assoc, Nat.mul_assoc, ← Nat.pow_add, ← Nat.pow_add, show (i - j).toNat + (min (i + K) (j + K)).toNat = (i + K).toNat by omega, show (j - i).toNat + (min (i + K) (j + K)).toNat = (j + K).toNat by omega]
theorem le2_trans {a b c : Nat} {i j k : Int} (h : le2 a i b j) (h' : le2 b j c k) : le2 a i c k := by
  obtain ⟨K, h1, h2, h3⟩ : ∃ K : Nat, 0 ≤ i + K ∧ 0 ≤ j + K ∧ 0 ≤ k + K := ⟨(-i).toNat + (-j).toNat + (-k).toNat, by omega⟩
  rw [le2_iff K h1 h2] at h
  rw [le2_iff K h2 h3] at h'
  rw [le2_iff K h1 h3]
  exact Nat.le_trans h h'
theorem le2_self (a : Nat) (i : Int) : le2 a i a i := Nat.le_refl _
theorem le2_pow {i j : Int} (h : i ≤ j) : le2 1 i 1 j := by
  unfold le2
  rw [show (i - j).toNat = 0 by omega, Nat.pow_zero, Nat.one_mul, Nat.one_mul]
  exact Nat.two_pow_pos _
/-- One number is n 2^j, the other one 2^i. -/
theorem le2_shift (a k : Nat) (i : Int) : le2 (a * 2 ^ k) i a (i + k) ∧ le2 a (i + k) (a * 2 ^ k) i := by
  unfold le2
  rw [show (i - (i + k)).toNat = 0 by omega, show (i + k - i).toNat = k by omega, Nat.pow_zero, Nat.mul_one]
  exact ⟨Nat.le_refl _, Nat.le_refl _⟩
theorem le2_mul {a b : Nat} (h : a ≤ b) (i : Int) : le2 a i b i := by unfold le2; rw [Int.sub_self]; exact Nat.mul_le_mul_right _ h
theorem quoN_le (r : Nat) (neg : Bool) (n d M : Nat) (hd : 0 < d) (h : n ≤ M * d) : quoN r neg n d ≤ M := by
  by_cases he : n = M * d
  · subst he; rw [quoN_exact r neg M d hd]; exact Nat.le_refl _
  · have h1 : n / d < M := (Nat.div_lt_iff_lt_mul hd).2 (by omega)
    unfold quoN
    split <;> omega
theorem restC_mono {x d x' d' : Nat} (hd : 0 < d) (hd' : 0 < d') (h : x * d' ≤ x' * d) : restC x d ≤ restC x' d' := by
  have k1 : x' = 0 → x = 0 := fun h0 => by
    subst h0
    rw [Nat.zero_mul, Nat.le_zero, Nat.mul_eq_zero] at h
    omega
  have k2 : 2 * x' < d' → 2 * x < d := fun h0 => by
    have h1 : 2 * x * d' ≤ 2 * x' * d := by rw [Nat.mul_assoc, Nat.mul_assoc]; omega
    have h2 : 2 * x' * d < d' * d := Nat.mul_lt_mul_of_pos_right h0 hd
    rw [Nat.mul_comm d' d] at h2
    exact Nat.lt_of_mul_lt_mul_right (Nat.lt_of_le_of_lt h1 h2)
  have k3 : 2 * x' = d' → 2 * x ≤ d := fun h0 => by
    have h1 : 2 * x * d' ≤ 2 * x' * d := by rw [Nat.mul_assoc, Nat.mul_assoc]; omega
    rw [h0, Nat.mul_comm d' d] at h1
    exact Nat.le_of_mul_le_mul_right h1 hd'
  unfold restC
  repeat' split
  all_goals omega
theorem moreF_mono (r : Nat) (neg odd : Bool) {x x' : Nat} (h : x ≤ x') (hx : x' ≤ 3) (hm : moreF r neg odd x = true) : moreF r neg odd x' = true := by
  have h1 : (x = 0 ∨ x = 1 ∨ x = 2 ∨ x = 3) ∧ (x' = 0 ∨ x' = 1 ∨ x' = 2 ∨ x' = 3) := by omega
  unfold moreF at hm ⊢
  by_cases r0 : r = 0
  · subst r0
    obtain ⟨rfl | rfl | rfl | rfl, rfl | rfl | rfl | rfl⟩ := h1 <;> simp_all
  · rw [if_neg r0] at hm ⊢
    by_cases r1 : r = 1
    · subst r1; simp at hm ⊢; omega
    · rw [if_neg r1] at hm ⊢
      by_cases r2 : r = 2
      · subst r2; simp at hm
      · rw [if_neg r2] at hm ⊢
        by_cases r3 : r = 3
        · subst r3; simp at hm ⊢; exact ⟨by omega, hm.2⟩
        · rw [if_neg r3] at hm ⊢; simp at hm ⊢; exact ⟨by omega, hm.2⟩
theorem restC_le3 (x d : Nat) : restC x d ≤ 3 := by unfold restC; split <;> (try split) <;> (try split) <;> omega
theorem quoN_mono (r : Nat) (neg : Bool) {n d n' d' : Nat} (hd : 0 < d) (hd' : 0 < d') (h : n * d' ≤ n' * d) : quoN r neg n d ≤ quoN r neg n' d' := by
  have hq : n / d ≤ n' / d' := by
    rw [Nat.le_div_iff_mul_le hd']
    have h1 : n / d * d' * d ≤ n' * d := Nat.le_trans (by
      rw [Nat.mul_right_comm]
      exact Nat.mul_le_mul_right _ (Nat.div_mul_le_self n d)) h
    exact Nat.le_of_mul_le_mul_right h1 hd
  rcases Nat.lt_or_ge (n / d) (n' / d') with h1 | h1
  · refine Nat.le_trans ?_ (quoN_ge r neg n' d')
    unfold quoN
    split <;> omega
  · have he : n / d = n' / d' := Nat.le_antisymm hq h1
    have e1 := Nat.div_add_mod n d
    have e2 := Nat.div_add_mod n' d'
    rw [← he] at e2
    have hx : n % d * d' ≤ n' % d' * d := by
      generalize n % d = x at *
      generalize n' % d' = x' at *
      rw [← e1, ← e2, Nat.add_mul, Nat.add_mul, Nat.mul_right_comm d, Nat.mul_right_comm d', Nat.mul_comm d' d] at h
      omega
    unfold quoN
    rw [← he]
    by_cases hm : moreF r neg (decide (n / d % 2 = 1)) (restC (n % d) d) = true
    · rw [if_pos hm, if_pos (moreF_mono r neg _ (restC_mono hd hd' hx) (restC_le3 _ _) hm)]; exact Nat.le_refl _
    · rw [if_neg hm]; omega
theorem lg_mono {n d n' d' : Nat} (hn : n ≠ 0) (hd : d ≠ 0) (hn' : n' ≠ 0) (hd' : d' ≠ 0) (h : n * d' ≤ n' * d) : lg n d ≤ lg n' d' := by
  obtain ⟨a1, a2⟩ := lg_spec hn hd
  obtain ⟨b1, b2⟩ := lg_spec hn' hd'
  rcases Int.lt_or_le (lg n' d') (lg n d) with hl | hl
  · exfalso
    have a3 := ge2_mono (f := lg n d) (e := lg n' d' + 1) (by omega) a1
    obtain ⟨K, hK⟩ : ∃ K : Nat, 0 ≤ lg n' d' + 1 + K := ⟨(-(lg n' d' + 1)).toNat, by omega⟩
    rw [ge2_iff K hK] at a3 b2
    apply b2
    have h1 : d' * 2 ^ (lg n' d' + 1 + K).toNat * d ≤ n' * 2 ^ K * d := by
      calc d' * 2 ^ (lg n' d' + 1 + K).toNat * d = d * 2 ^ (lg n' d' + 1 + K).toNat * d' := by rw [Nat.mul_right_comm, Nat.mul_comm d' d, Nat.mul_right_comm]
        _ ≤ n * 2 ^ K * d' := Nat.mul_le_mul_right _ a3
        _ = n * d' * 2 ^ K := Nat.mul_right_comm ..
        _ ≤ n' * d * 2 ^ K := Nat.mul_le_mul_right _ h
        _ = n' * 2 ^ K * d := Nat.mul_right_comm ..
    exact Nat.le_of_mul_le_mul_right h1 (Nat.pos_of_ne_zero hd)
  · exact hl
/-- The rounded number is at most the power of 2 above the number. -/
theorem rnd_top (r : Nat) (neg : Bool) (n d : Nat) (hn : n ≠ 0) (hd : d ≠ 0) (k : Nat) (s : Int) (hs : lg n d + 1 ≤ s + k) : quoN r neg (nu n s) (de d s) ≤ 2 ^ k := by
  have hd' := Nat.pos_of_ne_zero hd
  obtain ⟨_, h2⟩ := lg_spec hn hd
  have h2 : ¬ ge2 n d (s + k) := fun h => h2 (ge2_mono hs h)
  refine quoN_le r neg _ _ _ (de_pos _ hd') ?_
  obtain ⟨K, hK⟩ : ∃ K : Nat, 0 ≤ s + K := ⟨(-s).toNat, by omega⟩
  obtain ⟨n1, n2⟩ := nu_scale n d s K hK
  rw [ge2_iff K (by omega), Nat.not_le] at h2
  rw [← pow_le_iff _ _ (K - (-s).toNat), Nat.mul_assoc, n1, n2]
  refine Nat.le_trans (Nat.le_of_lt h2) (Nat.le_of_eq ?_)
  rw [Nat.mul_left_comm, ← Nat.pow_add]
  congr 2
  omega
theorem nu_mono {n d n' d' : Nat} (s : Int) (h : n * d' ≤ n' * d) : nu n s * de d' s ≤ nu n' s * de d s := by
  unfold nu de
  rw [show n * 2 ^ (-s).toNat * (d' * 2 ^ s.toNat) = n * d' * (2 ^ (-s).toNat * 2 ^ s.toNat) by rw [Nat.mul_mul_mul_comm], show n' * 2 ^ (-s).toNat * (d * 2 ^ s.toNat) = n' * d * (2 ^ (-s).toNat * 2 ^ s.toNat) by rw [Nat.mul_mul_mul_comm]]
  exact Nat.mul_le_mul_right _ h
/-- The rounded number itself. -/
abbrev rN (p : Nat) (G : Int) (r : Nat) (neg : Bool) (n d : Nat) : Nat := quoN r neg (nu n (stpF p G (lg n d))) (de d (stpF p G (lg n d)))
abbrev rS (p : Nat) (G : Int) (n d : Nat) : Int := stpF p G (lg n d)
theorem rnd_mono (p : Nat) (G : Int) (r : Nat) (neg : Bool) {n d n' d' : Nat} (hp : 2 ≤ p) (hn : n ≠ 0) (hd : d ≠ 0) (hn' : n' ≠ 0) (hd' : d' ≠ 0) (h : n * d' ≤ n' * d) :
    le2 (rN p G r neg n d) (rS p G n d) (rN p G r neg n' d') (rS p G n' d') := by
  have hl := lg_mono hn hd hn' hd' h
  have s1 := stpF_max p G (lg n d)
  have s2 := stpF_max p G (lg n' d')
  have pd := Nat.pos_of_ne_zero hd
  have pd' := Nat.pos_of_ne_zero hd'
  unfold rN rS
  by_cases he : stpF p G (lg n d) = stpF p G (lg n' d')
  · rw [← he]
    exact le2_mul (quoN_mono r neg (de_pos _ pd) (de_pos _ pd') (nu_mono _ h)) _
  · have hlo : le2 1 (lg n' d') (quoN r neg (nu n' (stpF p G (lg n' d'))) (de d' (stpF p G (lg n' d')))) (stpF p G (lg n' d')) := by
      have h1 := Nat.le_trans (rnd_big r neg n' d' hn' hd' (p - 1) (stpF p G (lg n' d')) (by omega)) (quoN_ge r neg _ _)
      have h2 := le2_mul h1 (stpF p G (lg n' d'))
      have h3 := (le2_shift 1 (p - 1) (stpF p G (lg n' d'))).2
      rw [Nat.one_mul, show stpF p G (lg n' d') + (p - 1 : Nat) = lg n' d' by omega] at h3
      exact le2_trans h3 h2
    refine le2_trans ?_ hlo
    rcases Int.lt_or_le (lg n d + 1) (stpF p G (lg n d)) with hc | hc
    · have h1 := rnd_top r neg n d hn hd 0 (stpF p G (lg n d)) (by omega)
      exact le2_trans (le2_mul h1 _) (le2_pow (by omega))
    · obtain ⟨k, hk⟩ : ∃ k : Nat, stpF p G (lg n d) + k = lg n d + 1 := ⟨(lg n d + 1 - stpF p G (lg n d)).toNat, by omega⟩
      have h1 := rnd_top r neg n d hn hd k (stpF p G (lg n d)) (by omega)
      have h3 := (le2_shift 1 k (stpF p G (lg n d))).1
      rw [Nat.one_mul, hk] at h3
      exact le2_trans (le2_trans (le2_mul h1 _) h3) (le2_pow (by omega))
end Go.Proofs
set_option linter.unusedVariables false
namespace Go.Proofs
open Go.Ax
/-! The reference's order of floats. -/
def sgnI (z : Int) : Int := if z < 0 then -1 else if 0 < z then 1 else 0
def rkF (x : FV) : Int := if x.neg = true then -(if x.kind = 2 then 2 else if x.kind = 1 then 1 else 0) else (if x.kind = 2 then 2 else if x.kind = 1 then 1 else 0)
/-- The sizes of two finite floats. -/
def szF (m : Nat) (e : Int) (m' : Nat) (e' : Int) : Int :=
  if (bl m : Int) - 1 + e ≠ (bl m' : Int) - 1 + e' then sgnI ((bl m : Int) - 1 + e - ((bl m' : Int) - 1 + e'))
  else if e' ≤ e then cmpI (m * 2 ^ (e - e').toNat) m' else cmpI m (m' * 2 ^ (e' - e).toNat)
def cpF (x y : FV) : Int :=
  if rkF x ≠ rkF y ∨ (rkF x ≠ 1 ∧ rkF x ≠ -1) then sgnI (rkF x - rkF y)
  else if rkF x < 0 then -szF x.mag x.exp y.mag y.exp else szF x.mag x.exp y.mag y.exp
theorem le2_bl {a b : Nat} {i j : Int} (ha : a ≠ 0) (h : le2 a i b j) : (bl a : Int) + i ≤ bl b + j ∧ b ≠ 0 := by
  obtain ⟨K, h1, h2⟩ : ∃ K : Nat, 0 ≤ i + K ∧ 0 ≤ j + K := ⟨(-i).toNat + (-j).toNat, by omega⟩
  rw [le2_iff K h1 h2] at h
  have hb : b ≠ 0 := fun h0 => by
    rw [h0, Nat.zero_mul, Nat.le_zero, Nat.mul_eq_zero] at h
    have := Nat.two_pow_pos (i + K).toNat
    omega
  refine ⟨?_, hb⟩
  have e1 := bl_mul a (i + K).toNat ha
  have e2 := bl_mul b (j + K).toNat hb
  have h0 : a * 2 ^ (i + K).toNat ≠ 0 := Nat.mul_ne_zero ha (Nat.ne_of_gt (Nat.two_pow_pos _))
  have h3 : bl (a * 2 ^ (i + K).toNat) ≤ bl (b * 2 ^ (j + K).toNat) := bl_le (Nat.lt_of_le_of_lt h (bl_lt _))
  omega
theorem cmpI_le {a b : Nat} : cmpI a b ≤ 0 ↔ a ≤ b := by unfold cmpI; split <;> (try split) <;> omega
theorem cmpI_neg (a b : Nat) : cmpI b a = -cmpI a b := by unfold cmpI; split <;> (try split) <;> (try split) <;> omega
theorem sgnI_le {z : Int} : sgnI z ≤ 0 ↔ z ≤ 0 := by unfold sgnI; split <;> (try split) <;> omega
theorem sgnI_neg (z : Int) : sgnI (-z) = -sgnI z := by unfold sgnI; split <;> (try split) <;> (try split) <;> omega
theorem szF_neg (m : Nat) (e : Int) (m' : Nat) (e' : Int) : szF m' e' m e = -szF m e m' e' := by
  unfold szF
  by_cases h : (bl m : Int) - 1 + e = (bl m' : Int) - 1 + e'
  · rw [if_neg (not_not_intro h.symm), if_neg (not_not_intro h)]
    by_cases h1 : e = e'
    · subst h1
      rw [if_pos (Int.le_refl _), if_pos (Int.le_refl _), Int.sub_self]
      simp only [Int.toNat_zero, Nat.pow_zero, Nat.mul_one]
      exact cmpI_neg _ _
    · by_cases h2 : e' ≤ e
      · rw [if_neg (show ¬ e ≤ e' by omega), if_pos h2]; exact cmpI_neg _ _
      · rw [if_pos (show e ≤ e' by omega), if_neg h2]; exact cmpI_neg _ _
  · rw [if_pos (fun h0 => h h0.symm), if_pos h, ← sgnI_neg]
    congr 1
    omega
theorem szF_le {m m' : Nat} {e e' : Int} (hm : m ≠ 0) (hm' : m' ≠ 0) : szF m e m' e' ≤ 0 ↔ le2 m e m' e' := by
  have hbl : ∀ {a b : Nat} {i j : Int}, a ≠ 0 → b ≠ 0 → (bl a : Int) + i < bl b + j → le2 a i b j := fun {a b i j} ha hb hlt => by
    obtain ⟨a1, a2, a3⟩ := bl_spec ha
    obtain ⟨b1, b2, b3⟩ := bl_spec hb
    have h1 := le2_mul (Nat.le_of_lt a2) i
    have h2 := (le2_shift 1 (bl a) i).1
    have h3 := (le2_shift 1 (bl b - 1) j).2
    have h4 := le2_mul b1 j
    rw [Nat.one_mul] at h2 h3
    exact le2_trans h1 (le2_trans h2 (le2_trans (le2_pow (by omega)) (le2_trans h3 h4)))
  unfold szF
  by_cases h : (bl m : Int) - 1 + e = (bl m' : Int) - 1 + e'
  · rw [if_neg (by omega)]
    by_cases h2 : e' ≤ e
    · rw [if_pos h2, cmpI_le]
      unfold le2
      rw [show (e' - e).toNat = 0 by omega, Nat.pow_zero, Nat.mul_one]
    · rw [if_neg h2, cmpI_le]
      unfold le2
      rw [show (e - e').toNat = 0 by omega, Nat.pow_zero, Nat.mul_one]
  · rw [if_pos (by omega), sgnI_le]
    constructor
    · intro h0; exact hbl hm hm' (by omega)
    · intro h0; have := (le2_bl hm h0).1; omega
theorem cpF_neg (x y : FV) : cpF y x = -cpF x y := by
  unfold cpF
  by_cases h : rkF x = rkF y
  · rw [h]
    by_cases h1 : rkF y = 1 ∨ rkF y = -1
    · have h2 : ¬ (rkF y ≠ rkF y ∨ (rkF y ≠ 1 ∧ rkF y ≠ -1)) := by omega
      rw [if_neg h2, if_neg h2]
      split
      · rw [szF_neg]
      · rw [szF_neg]
    · have h2 : (rkF y ≠ rkF y ∨ (rkF y ≠ 1 ∧ rkF y ≠ -1)) := by omega
      rw [if_pos h2, if_pos h2, Int.sub_self]; rfl
  · rw [if_pos (.inl (fun h0 => h h0.symm)), if_pos (.inl h), ← sgnI_neg]
    congr 1
    omega
/-- The size of the one is at most that of the other one. -/
def leM (x y : FV) : Prop := x.kind = 0 ∨ y.kind = 2 ∨ (x.kind = 1 ∧ y.kind = 1 ∧ le2 x.mag x.exp y.mag y.exp)
def fineF (x : FV) : Prop := x.kind ≤ 2 ∧ (x.kind = 1 → x.mag ≠ 0)
theorem cpF_pos {x y : FV} (hx : fineF x) (hy : fineF y) (h1 : x.neg = false) (h2 : y.neg = false) (h : leM x y) : cpF x y ≤ 0 := by
  unfold cpF rkF
  rw [h1, h2]
  simp only [Bool.false_eq_true, if_false]
  obtain ⟨x1, x2⟩ := hx
  obtain ⟨y1, y2⟩ := hy
  have kx : x.kind = 0 ∨ x.kind = 1 ∨ x.kind = 2 := by omega
  have ky : y.kind = 0 ∨ y.kind = 1 ∨ y.kind = 2 := by omega
  unfold leM at h
  rcases kx with kx | kx | kx <;> rcases ky with ky | ky | ky <;> simp [kx, ky, sgnI] at h ⊢
  exact (szF_le (x2 kx) (y2 ky)).2 h
theorem cpF_negs {x y : FV} (hx : fineF x) (hy : fineF y) (h1 : x.neg = true) (h2 : y.neg = true) (h : leM x y) : cpF y x ≤ 0 := by
  unfold cpF rkF
  rw [h1, h2]
  simp only [if_true]
  obtain ⟨x1, x2⟩ := hx
  obtain ⟨y1, y2⟩ := hy
  have kx : x.kind = 0 ∨ x.kind = 1 ∨ x.kind = 2 := by omega
  have ky : y.kind = 0 ∨ y.kind = 1 ∨ y.kind = 2 := by omega
  unfold leM at h
  rcases kx with kx | kx | kx <;> rcases ky with ky | ky | ky <;> simp [kx, ky, sgnI] at h ⊢
  have := (szF_le (e := x.exp) (e' := y.exp) (x2 kx) (y2 ky)).2 h
  rw [szF_neg]
  omega
theorem cpF_mixed {x y : FV} (hx : fineF x) (hy : fineF y) (h1 : x.neg = true) (h2 : y.neg = false) : cpF x y ≤ 0 := by
  unfold cpF rkF
  rw [h1, h2]
  simp only [if_true, Bool.false_eq_true, if_false]
  obtain ⟨x1, x2⟩ := hx
  obtain ⟨y1, y2⟩ := hy
  have kx : x.kind = 0 ∨ x.kind = 1 ∨ x.kind = 2 := by omega
  have ky : y.kind = 0 ∨ y.kind = 1 ∨ y.kind = 2 := by omega
  rcases kx with kx | kx | kx <;> rcases ky with ky | ky | ky <;> simp [kx, ky, sgnI]
/-! The order of rounded numbers. -/
theorem mkF_val (neg : Bool) (N : Nat) (s : Int) (h : N ≠ 0) : (mkF neg N s).kind = 1 ∧ (mkF neg N s).neg = neg ∧ (mkF neg N s).mag ≠ 0 ∧ le2 N s (mkF neg N s).mag (mkF neg N s).exp ∧ le2 (mkF neg N s).mag (mkF neg N s).exp N s := by
  obtain ⟨m, hm⟩ := tz_spec h
  have e : mkF neg N s = ⟨1, neg, s + tz N, 2 * m + 1⟩ := by
    conv => lhs; rw [hm, Nat.mul_comm]
    exact mkF_odd neg m _ s
  rw [e]
  have h2 := le2_shift (2 * m + 1) (tz N) s
  have h3 : (2 * m + 1) * 2 ^ tz N = N := by rw [Nat.mul_comm]; exact hm.symm
  rw [h3] at h2
  exact ⟨rfl, rfl, Nat.succ_ne_zero _, h2.1, h2.2⟩
theorem rnd_le (p : Nat) (G : Int) (r : Nat) (neg : Bool) {n d : Nat} (hn : n ≠ 0) (hd : d ≠ 0) : rN p G r neg n d ≤ 2 ^ p := by
  refine rnd_top r neg n d hn hd p _ ?_
  have := stpF_max p G (lg n d)
  omega
/-- What is not too great is at most the greatest number. -/
theorem rnd_leTop (p : Nat) (G : Int) (r : Nat) (neg : Bool) {n d : Nat} (hp : 2 ≤ p) (hG : 1 ≤ G) (hn : n ≠ 0) (hd : d ≠ 0) (h : ¬ G < bl (rN p G r neg n d) + rS p G n d - 1) : le2 (rN p G r neg n d) (rS p G n d) (2 ^ p - 1) (G - p + 1) := by
  have h1 := rnd_le p G r neg hn hd
  have h2 := stpF_max p G (lg n d)
  have h4 : 1 - G ≤ lg n d → 2 ^ (p - 1) ≤ rN p G r neg n d := fun hh => Nat.le_trans (rnd_big r neg n d hn hd (p - 1) _ (by omega)) (quoN_ge r neg _ _)
  have hpp := Nat.two_pow_pos p
  have hs : rS p G n d = stpF p G (lg n d) := rfl
  generalize rN p G r neg n d = N at *
  rw [hs] at h ⊢
  by_cases hN : N = 2 ^ p
  · have hb : bl N = p + 1 := by rw [hN]; exact bl_eq (Nat.le_refl _) (Nat.pow_lt_pow_right (by decide) (by omega))
    rw [hb] at h
    have e1 := (le2_shift (2 ^ (p - 1)) 1 (stpF p G (lg n d))).1
    have e0 : 2 ^ (p - 1) * 2 ^ 1 = N := by rw [hN, ← Nat.pow_add]; congr 1; omega
    rw [e0] at e1
    refine le2_trans e1 ?_
    unfold le2
    rw [show (stpF p G (lg n d) + (1 : Nat) - (G - p + 1)).toNat = 0 by omega, Nat.pow_zero, Nat.mul_one]
    have h5 : 2 ^ p = 2 ^ (p - 1) * 2 := by rw [← Nat.pow_succ]; congr 1; omega
    have h6 : 2 ^ 1 ≤ 2 ^ (p - 1) := Nat.pow_le_pow_right (by decide) (by omega)
    exact Nat.le_trans (show 2 ^ (p - 1) ≤ 2 ^ p - 1 by omega) (Nat.le_mul_of_pos_right _ (Nat.two_pow_pos _))
  · have hs2 : stpF p G (lg n d) ≤ G - p + 1 := by
      by_cases hh : 1 - G ≤ lg n d
      · have := bl_ge (h4 hh); omega
      · omega
    refine le2_trans (le2_mul (show N ≤ 2 ^ p - 1 by omega) _) ?_
    unfold le2
    rw [show (stpF p G (lg n d) - (G - p + 1)).toNat = 0 by omega, Nat.pow_zero, Nat.mul_one]
    exact Nat.le_mul_of_pos_right _ (Nat.two_pow_pos _)
theorem rndF_fine (p : Nat) (G : Int) (r : Nat) (neg : Bool) (n d : Nat) (hp : 2 ≤ p) : fineF (rndF p G r neg n d).1 ∧ (rndF p G r neg n d).1.neg = neg := by
  have hpp : 2 ^ 1 ≤ 2 ^ p := Nat.pow_le_pow_right (by decide) (by omega)
  unfold rndF
  split
  · unfold overF
    split
    · exact ⟨⟨by show 1 ≤ 2; decide, fun _ => by show 2 ^ p - 1 ≠ 0; omega⟩, rfl⟩
    · exact ⟨⟨by show 2 ≤ 2; decide, fun h => by cases h⟩, rfl⟩
  · generalize quoN r neg (nu n (stpF p G (lg n d))) (de d (stpF p G (lg n d))) = N
    simp only
    by_cases h0 : N = 0
    · unfold mkF; rw [if_pos h0]; exact ⟨⟨by show 0 ≤ 2; decide, fun h => by cases h⟩, rfl⟩
    · obtain ⟨k1, k2, k3, _⟩ := mkF_val neg N (stpF p G (lg n d)) h0
      exact ⟨⟨by omega, fun _ => k3⟩, k2⟩
theorem rnd_over0 (p : Nat) (G : Int) (r : Nat) (neg : Bool) {n d : Nat} (hp : 2 ≤ p) (hG : 1 ≤ G) (hn : n ≠ 0) (hd : d ≠ 0) (h : rN p G r neg n d = 0) : ¬ G < (bl 0 : Int) + rS p G n d - 1 := by
  have h2 := stpF_max p G (lg n d)
  have hpp := Nat.two_pow_pos (p - 1)
  have h4 : 1 - G ≤ lg n d → 2 ^ (p - 1) ≤ rN p G r neg n d := fun hh => Nat.le_trans (rnd_big r neg n d hn hd (p - 1) _ (by omega)) (quoN_ge r neg _ _)
  have hs : rS p G n d = stpF p G (lg n d) := rfl
  rw [h] at h4
  have : bl 0 = 0 := by decide
  rw [hs, this]
  by_cases hh : 1 - G ≤ lg n d
  · have := h4 hh; omega
  · omega
theorem overF_kind (p : Nat) (G : Int) (r : Nat) (neg : Bool) : (overF p G r neg).kind = 2 ∨ (overF p G r neg).kind = 1 ∧ (overF p G r neg).mag = 2 ^ p - 1 ∧ (overF p G r neg).exp = G - p + 1 := by
  unfold overF
  split
  · exact .inr ⟨rfl, rfl, rfl⟩
  · exact .inl rfl
theorem rndF_leM (p : Nat) (G : Int) (r : Nat) (neg : Bool) {n d n' d' : Nat} (hp : 2 ≤ p) (hG : 1 ≤ G) (hn : n ≠ 0) (hd : d ≠ 0) (hn' : n' ≠ 0) (hd' : d' ≠ 0) (h : n * d' ≤ n' * d) : leM (rndF p G r neg n d).1 (rndF p G r neg n' d').1 := by
  have hm := rnd_mono p G r neg hp hn hd hn' hd' h
  have ht := rnd_leTop p G r neg hp hG hn hd
  have hz := rnd_over0 p G r neg hp hG hn hd
  have ko := overF_kind p G r neg
  have e1 : rndF p G r neg n d = if G < bl (rN p G r neg n d) + rS p G n d - 1 then (overF p G r neg, 5) else (mkF neg (rN p G r neg n d) (rS p G n d), if nu n (rS p G n d) % de d (rS p G n d) = 0 then 0 else if lg n d < 1 - G then 3 else 1) := rfl
  have e2 : rndF p G r neg n' d' = if G < bl (rN p G r neg n' d') + rS p G n' d' - 1 then (overF p G r neg, 5) else (mkF neg (rN p G r neg n' d') (rS p G n' d'), if nu n' (rS p G n' d') % de d' (rS p G n' d') = 0 then 0 else if lg n' d' < 1 - G then 3 else 1) := rfl
  rw [e1, e2]
  generalize rN p G r neg n d = N at *
  generalize rS p G n d = s at *
  generalize rN p G r neg n' d' = N' at *
  generalize rS p G n' d' = s' at *
  by_cases h0 : N = 0
  · subst h0
    rw [if_neg (hz rfl)]; left; unfold mkF; rw [if_pos rfl]
  · obtain ⟨hb, hN'⟩ := le2_bl h0 hm
    by_cases ho : G < (bl N : Int) + s - 1
    · rw [if_pos ho, if_pos (show G < (bl N' : Int) + s' - 1 by omega)]
      rcases ko with ko | ⟨k1, k2, k3⟩
      · exact .inr (.inl ko)
      · exact .inr (.inr ⟨k1, k1, le2_self _ _⟩)
    · rw [if_neg ho]
      obtain ⟨k1, k2, k3, k4, k5⟩ := mkF_val neg N s h0
      by_cases ho' : G < (bl N' : Int) + s' - 1
      · rw [if_pos ho']
        rcases ko with ko | ⟨j1, j2, j3⟩
        · exact .inr (.inl ko)
        · refine .inr (.inr ⟨k1, j1, ?_⟩)
          rw [j2, j3]
          exact le2_trans k5 (ht ho)
      · rw [if_neg ho']
        obtain ⟨j1, j2, j3, j4, j5⟩ := mkF_val neg N' s' hN'
        exact .inr (.inr ⟨k1, j1, le2_trans k5 (le2_trans hm j4)⟩)
end Go.Proofs
set_option linter.unusedVariables false
namespace Go.Proofs
open Go.Ax
/-! The nearest float; the floats on either side. -/
def ds (a b : Nat) : Nat := (a - b) + (b - a)
theorem quoN_near (r : Nat) (hr : r ≤ 1) (neg : Bool) (n d : Nat) (hd : 0 < d) (j : Nat) : ds (quoN r neg n d * d) n ≤ ds (j * d) n := by
  have h1 := Nat.div_add_mod n d
  have h2 := Nat.mod_lt n hd
  rw [Nat.mul_comm] at h1
  have hN : quoN r neg n d = n / d ∧ 2 * (n % d) ≤ d ∨ quoN r neg n d = n / d + 1 ∧ d ≤ 2 * (n % d) := by
    unfold quoN moreF restC
    have h3 : r = 0 ∨ r = 1 := by omega
    by_cases hx0 : n % d = 0
    · left; refine ⟨?_, by omega⟩
      rcases h3 with rfl | rfl <;> simp [hx0]
    · by_cases hx1 : 2 * (n % d) < d
      · left; refine ⟨?_, by omega⟩
        rcases h3 with rfl | rfl <;> simp [hx0, hx1]
      · by_cases hx2 : 2 * (n % d) = d
        · rcases h3 with rfl | rfl
          · by_cases ho : n / d % 2 = 1
            · right; exact ⟨by simp [hx0, hx2, ho], by omega⟩
            · left; exact ⟨by simp [hx0, hx2, ho], by omega⟩
          · right; exact ⟨by simp [hx0, hx2], by omega⟩
        · right; refine ⟨?_, by omega⟩
          rcases h3 with rfl | rfl <;> simp [hx0, hx1, hx2]
  generalize n / d = q at *
  generalize n % d = x at *
  have hj : j ≤ q ∨ q + 1 ≤ j := by omega
  have e0 : (q + 1) * d = q * d + d := Nat.succ_mul _ _
  have hjd : j * d ≤ q * d ∨ (q + 1) * d ≤ j * d := by
    rcases hj with hj | hj
    · exact .inl (Nat.mul_le_mul_right _ hj)
    · exact .inr (Nat.mul_le_mul_right _ hj)
  unfold ds
  rcases hN with ⟨hN, hx⟩ | ⟨hN, hx⟩
  · rw [hN]; omega
  · rw [hN, e0]; omega
theorem nu_de (n d : Nat) (s : Int) (K : Nat) (h : 0 ≤ s + K) (r : Nat) (neg : Bool) : quoN r neg (nu n s) (de d s) = quoN r neg (n * 2 ^ K) (d * 2 ^ (s + K).toNat) := (quo_nu r neg n d s K h).1.symm
/-- A finite number of the format. -/
def inF (p : Nat) (G : Int) (M : Nat) (E : Int) : Prop := bl M ≤ p ∧ 1 - G - (p - 1) ≤ E ∧ bl M + E ≤ G + 1
/-- What is finer than the step is less than the number. -/
theorem fine_lt (p : Nat) (G : Int) {n d M : Nat} {E : Int} (hp : 2 ≤ p) (hn : n ≠ 0) (hd : d ≠ 0) (h : inF p G M E) (hE : E < rS p G n d) (K : Nat) (hK : 0 ≤ E + K) :
    M * 2 ^ (E + K).toNat * d ≤ 2 ^ (p - 1) * (d * 2 ^ (rS p G n d + K).toNat) ∧ 2 ^ (p - 1) * (d * 2 ^ (rS p G n d + K).toNat) ≤ n * 2 ^ K := by
  obtain ⟨h1, h2, h3⟩ := h
  have hs := stpF_max p G (lg n d)
  have hrs : rS p G n d = stpF p G (lg n d) := rfl
  rw [hrs] at hE ⊢
  constructor
  · rw [Nat.mul_comm d, ← Nat.mul_assoc]
    refine Nat.mul_le_mul_right _ ?_
    calc M * 2 ^ (E + K).toNat ≤ 2 ^ p * 2 ^ (E + K).toNat := Nat.mul_le_mul_right _ (Nat.le_trans (Nat.le_of_lt (bl_lt M)) (Nat.pow_le_pow_right (by decide) h1))
      _ = 2 ^ (p + (E + K).toNat) := (Nat.pow_add ..).symm
      _ ≤ 2 ^ (p - 1 + (stpF p G (lg n d) + K).toNat) := Nat.pow_le_pow_right (by decide) (by omega)
      _ = 2 ^ (p - 1) * 2 ^ (stpF p G (lg n d) + K).toNat := Nat.pow_add ..
  · have hg := (lg_spec hn hd).1
    rw [ge2_iff K (by omega)] at hg
    refine Nat.le_trans (Nat.le_of_eq ?_) hg
    rw [Nat.mul_left_comm, ← Nat.pow_add]
    congr 2
    omega
theorem near_same (p : Nat) (G : Int) (r : Nat) (hr : r ≤ 1) (neg : Bool) {n d M : Nat} {E : Int} (hp : 2 ≤ p) (hn : n ≠ 0) (hd : d ≠ 0) (h : inF p G M E) (K : Nat) (hK : 0 ≤ E + K) (hK2 : 0 ≤ rS p G n d + K) :
    ds (rN p G r neg n d * (d * 2 ^ (rS p G n d + K).toNat)) (n * 2 ^ K) ≤ ds (M * 2 ^ (E + K).toNat * d) (n * 2 ^ K) ∧ ds (rN p G r neg n d * (d * 2 ^ (rS p G n d + K).toNat)) (n * 2 ^ K) ≤ n * 2 ^ K := by
  have hpos : 0 < d * 2 ^ (rS p G n d + K).toNat := Nat.mul_pos (Nat.pos_of_ne_zero hd) (Nat.two_pow_pos _)
  have hq : rN p G r neg n d = quoN r neg (n * 2 ^ K) (d * 2 ^ (rS p G n d + K).toNat) := nu_de n d _ K hK2 r neg
  rw [hq]
  have key := fun j => quoN_near r hr neg (n * 2 ^ K) (d * 2 ^ (rS p G n d + K).toNat) hpos j
  constructor
  · rcases Int.lt_or_le E (rS p G n d) with hE | hE
    · obtain ⟨a1, a2⟩ := fine_lt p G hp hn hd h hE K hK
      refine Nat.le_trans (key (2 ^ (p - 1))) ?_
      unfold ds
      omega
    · have := key (M * 2 ^ (E - rS p G n d).toNat)
      have e : M * 2 ^ (E - rS p G n d).toNat * (d * 2 ^ (rS p G n d + K).toNat) = M * 2 ^ (E + K).toNat * d := by
        rw [show (E + K).toNat = (E - rS p G n d).toNat + (rS p G n d + K).toNat by omega, Nat.pow_add, Nat.mul_comm d, ← Nat.mul_assoc, ← Nat.mul_assoc]
      rwa [e] at this
  · have := key 0
    unfold ds at this ⊢
    omega
/-- No float lies between a number, rounded down and rounded up (in size). -/
theorem between (p : Nat) (G : Int) (r r' : Nat) (neg : Bool) {n d M : Nat} {E : Int} (hp : 2 ≤ p) (hG : 1 ≤ G) (hn : n ≠ 0) (hd : d ≠ 0) (h : inF p G M E) (h0 : M ≠ 0)
    (hlo : rN p G r neg n d = nu n (rS p G n d) / de d (rS p G n d)) : le2 M E (rN p G r neg n d) (rS p G n d) ∨ (rN p G r' neg n d ≤ rN p G r neg n d + 1 ∧ le2 (rN p G r neg n d + 1) (rS p G n d) M E) := by
  obtain ⟨K, k1, k2⟩ : ∃ K : Nat, 0 ≤ E + K ∧ 0 ≤ rS p G n d + K := ⟨(-E).toNat + (-rS p G n d).toNat, by omega⟩
  have hd' := Nat.pos_of_ne_zero hd
  rcases Int.lt_or_le E (rS p G n d) with hE | hE
  · left
    obtain ⟨h1, h2, h3⟩ := h
    have hs := stpF_max p G (lg n d)
    have hrs : rS p G n d = stpF p G (lg n d) := rfl
    have hbig : 2 ^ (p - 1) ≤ rN p G r neg n d := Nat.le_trans (rnd_big r neg n d hn hd (p - 1) _ (by omega)) (quoN_ge r neg _ _)
    rw [le2_iff K k1 k2]
    calc M * 2 ^ (E + K).toNat ≤ 2 ^ p * 2 ^ (E + K).toNat := Nat.mul_le_mul_right _ (Nat.le_trans (Nat.le_of_lt (bl_lt M)) (Nat.pow_le_pow_right (by decide) h1))
      _ = 2 ^ (p + (E + K).toNat) := (Nat.pow_add ..).symm
      _ ≤ 2 ^ (p - 1 + (rS p G n d + K).toNat) := Nat.pow_le_pow_right (by decide) (by omega)
      _ = 2 ^ (p - 1) * 2 ^ (rS p G n d + K).toNat := Nat.pow_add ..
      _ ≤ rN p G r neg n d * 2 ^ (rS p G n d + K).toNat := Nat.mul_le_mul_right _ hbig
  · obtain ⟨j, hj⟩ : ∃ j, M * 2 ^ (E - rS p G n d).toNat = j := ⟨_, rfl⟩
    have hM := le2_shift M (E - rS p G n d).toNat (rS p G n d)
    rw [hj, show rS p G n d + (E - rS p G n d).toNat = E by omega] at hM
    rcases Nat.lt_or_ge (rN p G r neg n d) j with hlt | hge
    · right
      refine ⟨?_, le2_trans (le2_mul hlt _) hM.1⟩
      rw [hlo]
      show quoN r' neg (nu n (rS p G n d)) (de d (rS p G n d)) ≤ _
      unfold quoN
      split <;> omega
    · left
      exact le2_trans hM.2 (le2_mul hge _)
end Go.Proofs
set_option linter.unusedVariables false
set_option linter.unusedSimpArgs false
namespace Go.Proofs
open Go.Ax
/-! Formats. -/
abbrev okFm (k p : Int) : Prop := (2 ≤ k ∧ k ≤ 15) ∧ 2 ≤ p ∧ p ≤ 256
/-- The greatest exponent of a format. -/
def gF (k : Nat) : Int := ((2 ^ (k - 1) : Nat) : Int) - 1
theorem gF_le {k : Nat} (h1 : 2 ≤ k) (h2 : k ≤ 15) : 1 ≤ gF k ∧ gF k ≤ 16383 := by
  unfold gF
  have h3 : 2 ^ 1 ≤ 2 ^ (k - 1) := Nat.pow_le_pow_right (by decide) (by omega)
  have h4 : 2 ^ (k - 1) ≤ 2 ^ 14 := Nat.pow_le_pow_right (by decide) (by omega)
  omega
theorem shlG {k : Nat} (h1 : 2 ≤ k) (h2 : k ≤ 15) : ((1 * 2 ^ min (k - 1) IntKind.i64.bits : Nat) : Int) = gF k + 1 := by
  unfold gF
  rw [show min (k - 1) IntKind.i64.bits = k - 1 from Nat.min_eq_left (by show k - 1 ≤ 64; omega)]
  omega
set_option maxRecDepth 100000 in
set_option maxHeartbeats 4000000 in
theorem ret_fCheck (k p : Int) : Ret Tryd.prog GEs 82 [.agg [i64 k, i64 p]] (i64 (if okFm k p then 0 else 150)) := by
  by_cases a1 : k < 2
  · rw [if_neg (show ¬ okFm k p by omega)]
    refine RetN_start Tryd.func82 (by kernel_rfl) rfl fun Q hQ hQ2 => ?_; rw [Tryd.ntmps82]; simp only [u, i64, Nat.reduceSub, Nat.reduceAdd, bm]
    repeat (first | ((first | refine Gs ?_ | refine Gr ?_); simp (disch := omega) only [u, i64, ax, eq_self, if_true, if_false, Nat.reduceAdd, Int.reduceToNat, Int.reduceAdd, tvs, bs]; refine aA ?_) | refine G_seq ?_ | refine G_block ?_ | refine G_condT rfl ?_ | refine G_condF rfl ?_ | refine G_skip ?_ | refine G_ret ?_ | refine G_exit ?_ | refine q_tn ?_ | refine q_tr ?_ | refine q_tx ?_ | refine q_bn ?_ | refine q_br ?_ | refine q_bx ?_ | refine q_by (by decide) ?_)
    (refine FinQ hQ (congrArg Array.toList Tryd.results82) _ _ ?_); simp (disch := omega) only [u, i64, ax, if_true, forall_const, reduceCtorEq, implies_true, tvs, bf]
  by_cases a2 : 15 < k
  · rw [if_neg (show ¬ okFm k p by omega)]
    refine RetN_start Tryd.func82 (by kernel_rfl) rfl fun Q hQ hQ2 => ?_; rw [Tryd.ntmps82]; simp only [u, i64, Nat.reduceSub, Nat.reduceAdd, bm]
    repeat (first | ((first | refine Gs ?_ | refine Gr ?_); simp (disch := omega) only [u, i64, ax, eq_self, if_true, if_false, Nat.reduceAdd, Int.reduceToNat, Int.reduceAdd, tvs, bs]; refine aA ?_) | refine G_seq ?_ | refine G_block ?_ | refine G_condT rfl ?_ | refine G_condF rfl ?_ | refine G_skip ?_ | refine G_ret ?_ | refine G_exit ?_ | refine q_tn ?_ | refine q_tr ?_ | refine q_tx ?_ | refine q_bn ?_ | refine q_br ?_ | refine q_bx ?_ | refine q_by (by decide) ?_)
    (refine FinQ hQ (congrArg Array.toList Tryd.results82) _ _ ?_); simp (disch := omega) only [u, i64, ax, if_true, forall_const, reduceCtorEq, implies_true, tvs, bf]
  by_cases a3 : p < 2
  · rw [if_neg (show ¬ okFm k p by omega)]
    refine RetN_start Tryd.func82 (by kernel_rfl) rfl fun Q hQ hQ2 => ?_; rw [Tryd.ntmps82]; simp only [u, i64, Nat.reduceSub, Nat.reduceAdd, bm]
    repeat (first | ((first | refine Gs ?_ | refine Gr ?_); simp (disch := omega) only [u, i64, ax, eq_self, if_true, if_false, Nat.reduceAdd, Int.reduceToNat, Int.reduceAdd, tvs, bs]; refine aA ?_) | refine G_seq ?_ | refine G_block ?_ | refine G_condT rfl ?_ | refine G_condF rfl ?_ | refine G_skip ?_ | refine G_ret ?_ | refine G_exit ?_ | refine q_tn ?_ | refine q_tr ?_ | refine q_tx ?_ | refine q_bn ?_ | refine q_br ?_ | refine q_bx ?_ | refine q_by (by decide) ?_)
    (refine FinQ hQ (congrArg Array.toList Tryd.results82) _ _ ?_); simp (disch := omega) only [u, i64, ax, if_true, forall_const, reduceCtorEq, implies_true, tvs, bf]
  by_cases a4 : 256 < p
  · rw [if_neg (show ¬ okFm k p by omega)]
    refine RetN_start Tryd.func82 (by kernel_rfl) rfl fun Q hQ hQ2 => ?_; rw [Tryd.ntmps82]; simp only [u, i64, Nat.reduceSub, Nat.reduceAdd, bm]
    repeat (first | ((first | refine Gs ?_ | refine Gr ?_); simp (disch := omega) only [u, i64, ax, eq_self, if_true, if_false, Nat.reduceAdd, Int.reduceToNat, Int.reduceAdd, tvs, bs]; refine aA ?_) | refine G_seq ?_ | refine G_block ?_ | refine G_condT rfl ?_ | refine G_condF rfl ?_ | refine G_skip ?_ | refine G_ret ?_ | refine G_exit ?_ | refine q_tn ?_ | refine q_tr ?_ | refine q_tx ?_ | refine q_bn ?_ | refine q_br ?_ | refine q_bx ?_ | refine q_by (by decide) ?_)
    (refine FinQ hQ (congrArg Array.toList Tryd.results82) _ _ ?_); simp (disch := omega) only [u, i64, ax, if_true, forall_const, reduceCtorEq, implies_true, tvs, bf]
  rw [if_pos (show okFm k p by omega)]
  refine RetN_start Tryd.func82 (by kernel_rfl) rfl fun Q hQ hQ2 => ?_; rw [Tryd.ntmps82]; simp only [u, i64, Nat.reduceSub, Nat.reduceAdd, bm]
  repeat (first | ((first | refine Gs ?_ | refine Gr ?_); simp (disch := omega) only [u, i64, ax, eq_self, if_true, if_false, Nat.reduceAdd, Int.reduceToNat, Int.reduceAdd, tvs, bs]; refine aA ?_) | refine G_seq ?_ | refine G_block ?_ | refine G_condT rfl ?_ | refine G_condF rfl ?_ | refine G_skip ?_ | refine G_ret ?_ | refine G_exit ?_ | refine q_tn ?_ | refine q_tr ?_ | refine q_tx ?_ | refine q_bn ?_ | refine q_br ?_ | refine q_bx ?_ | refine q_by (by decide) ?_)
  (refine FinQ hQ (congrArg Array.toList Tryd.results82) _ _ ?_); simp (disch := omega) only [u, i64, ax, if_true, forall_const, reduceCtorEq, implies_true, tvs, bf]
set_option maxRecDepth 100000 in
set_option maxHeartbeats 1000000 in
theorem ret_fRange (k p : Nat) (h : okFm k p) : Ret Tryd.prog GEs 87 [.agg [i64 k, i64 p]] (.tup [i64 (1 - gF k), i64 (gF k), i64 (1 - gF k - ((p - 1 : Nat) : Int)), i64 0]) := by
  have hC := ret_fCheck k p
  rw [if_pos h] at hC
  have hk : 2 ≤ k ∧ k ≤ 15 := by omega
  have hg := gF_le (k := k) (by omega) (by omega)
  refine RetN_start Tryd.func87 (by kernel_rfl) rfl fun Q hQ hQ2 => ?_; rw [Tryd.ntmps87]; simp only [u, i64, Nat.reduceSub, Nat.reduceAdd, bm]
  repeat (first | ((first | refine Gs ?_ | refine Gr ?_); simp (disch := omega) only [u, i64, ax, eq_self, if_true, if_false, Nat.reduceAdd, Int.reduceToNat, Int.reduceAdd, tvs, bs]; refine aA ?_) | refine G_seq ?_ | refine G_block ?_ | refine G_condT rfl ?_ | refine G_condF rfl ?_ | refine G_skip ?_ | refine G_ret ?_ | refine G_exit ?_ | refine q_tn ?_ | refine q_tr ?_ | refine q_tx ?_ | refine q_bn ?_ | refine q_br ?_ | refine q_bx ?_ | refine q_by (by decide) ?_)
  ((first | refine Gs ?_ | refine Gr ?_); simp (disch := omega) only [u, i64, ax, eq_self, if_true, if_false, Nat.reduceAdd, Int.reduceToNat, Int.reduceAdd, tvs, bs])
  (refine cR hC ?_; simp (disch := omega) only [u, i64, ax, eq_self, if_true, if_false, Nat.reduceAdd, Int.reduceToNat, Int.reduceAdd, tvs, bs]; try refine aA ?_)
  repeat (first | ((first | refine Gs ?_ | refine Gr ?_); simp (disch := omega) only [u, i64, ax, eq_self, if_true, if_false, Nat.reduceAdd, Int.reduceToNat, Int.reduceAdd, tvs, bs]; refine aA ?_) | refine G_seq ?_ | refine G_block ?_ | refine G_condT rfl ?_ | refine G_condF rfl ?_ | refine G_skip ?_ | refine G_ret ?_ | refine G_exit ?_ | refine q_tn ?_ | refine q_tr ?_ | refine q_tx ?_ | refine q_bn ?_ | refine q_br ?_ | refine q_bx ?_ | refine q_by (by decide) ?_)
  (refine FinQ hQ (congrArg Array.toList Tryd.results87) _ _ ?_); simp (disch := omega) only [u, i64, ax, if_true, forall_const, reduceCtorEq, implies_true, tvs, bf]
  rw [shlG hk.1 hk.2, wrapI (gF k + 1) (by omega) (by omega), Int.add_sub_cancel, wrapI (gF k) (by omega) (by omega), wrapI (1 - gF k) (by omega) (by omega), wrapI (1 - gF k - ((p - 1 : Nat) : Int)) (by omega) (by omega)]
end Go.Proofs
set_option linter.unusedVariables false
set_option linter.unusedSimpArgs false
namespace Go.Proofs
open Go.Ax
/-- A float. -/
def flv (x : FV) : AV := .agg [i64 x.kind, .bool x.neg, i64 x.exp, nat x.mag]
theorem bl_len (n : Nat) : bl n ≤ 64 * (words n).length := by
  have h := lt_pow_of_length (Nat.le_refl (words n).length)
  rw [Bpow] at h
  exact bl_le h
theorem le_pow_words {m p k : Nat} (hm : m ≤ 2 ^ p) (h : p < 64 * k) : (words m).length ≤ k := length_le (by
  rw [Bpow]
  exact Nat.lt_of_le_of_lt hm (Nat.pow_lt_pow_right (by decide) h))
theorem tz_le_bl (n : Nat) : tz n ≤ bl n := by
  by_cases h : n = 0
  · subst h; decide
  · obtain ⟨m, hm⟩ := tz_spec h
    have h1 : 2 ^ tz n ≤ n := by
      conv => rhs; rw [hm]
      exact Nat.le_mul_of_pos_right _ (by omega)
    have := bl_ge h1
    omega
theorem stpF_le (p k : Nat) (e : Int) (h : okFm k p) (h1 : -4611686018427387904 ≤ e) (h2 : e ≤ 4611686018427387904) : -4611686018427404544 ≤ stpF p (gF k) e ∧ stpF p (gF k) e ≤ 4611686018427387904 := by
  have hg := gF_le (k := k) (by omega) (by omega)
  unfold stpF
  split <;> omega
set_option maxRecDepth 100000 in
set_option maxHeartbeats 1000000 in
theorem ret_finStep (k p : Nat) (h : okFm k p) (e : Int) (h1 : -4611686018427387904 ≤ e) (h2 : e ≤ 4611686018427387904) : Ret Tryd.prog GEs 181 [.agg [i64 k, i64 p], i64 e] (i64 (stpF p (gF k) e)) := by
  have hR := ret_fRange k p h
  have hg := gF_le (k := k) (by omega) (by omega)
  generalize gF k = G at *
  unfold stpF
  rw [show ((p : Int) - 1) = ((p - 1 : Nat) : Int) by omega]
  by_cases he : e < 1 - G
  · rw [if_pos he]
    refine RetN_start Tryd.func181 (by kernel_rfl) rfl fun Q hQ hQ2 => ?_; rw [Tryd.ntmps181]; simp only [u, i64, Nat.reduceSub, Nat.reduceAdd, bm]
    repeat (first | ((first | refine Gs ?_ | refine Gr ?_); simp (disch := omega) only [u, i64, ax, eq_self, if_true, if_false, Nat.reduceAdd, Int.reduceToNat, Int.reduceAdd, tvs, bs]; refine aA ?_) | refine G_seq ?_ | refine G_block ?_ | refine G_condT rfl ?_ | refine G_condF rfl ?_ | refine G_skip ?_ | refine G_ret ?_ | refine G_exit ?_ | refine q_tn ?_ | refine q_tr ?_ | refine q_tx ?_ | refine q_bn ?_ | refine q_br ?_ | refine q_bx ?_ | refine q_by (by decide) ?_)
    ((first | refine Gs ?_ | refine Gr ?_); simp (disch := omega) only [u, i64, ax, eq_self, if_true, if_false, Nat.reduceAdd, Int.reduceToNat, Int.reduceAdd, tvs, bs])
    (refine cR hR ?_; simp (disch := omega) only [u, i64, ax, eq_self, if_true, if_false, Nat.reduceAdd, Int.reduceToNat, Int.reduceAdd, tvs, bs]; try refine aA ?_)
    repeat (first | ((first | refine Gs ?_ | refine Gr ?_); simp (disch := omega) only [u, i64, ax, eq_self, if_true, if_false, Nat.reduceAdd, Int.reduceToNat, Int.reduceAdd, tvs, bs]; refine aA ?_) | refine G_seq ?_ | refine G_block ?_ | refine G_condT rfl ?_ | refine G_condF rfl ?_ | refine G_skip ?_ | refine G_ret ?_ | refine G_exit ?_ | refine q_tn ?_ | refine q_tr ?_ | refine q_tx ?_ | refine q_bn ?_ | refine q_br ?_ | refine q_bx ?_ | refine q_by (by decide) ?_)
    (refine FinQ hQ (congrArg Array.toList Tryd.results181) _ _ ?_); simp (disch := omega) only [u, i64, ax, if_true, forall_const, reduceCtorEq, implies_true, tvs, bf]
  · rw [if_neg he]
    refine RetN_start Tryd.func181 (by kernel_rfl) rfl fun Q hQ hQ2 => ?_; rw [Tryd.ntmps181]; simp only [u, i64, Nat.reduceSub, Nat.reduceAdd, bm]
    repeat (first | ((first | refine Gs ?_ | refine Gr ?_); simp (disch := omega) only [u, i64, ax, eq_self, if_true, if_false, Nat.reduceAdd, Int.reduceToNat, Int.reduceAdd, tvs, bs]; refine aA ?_) | refine G_seq ?_ | refine G_block ?_ | refine G_condT rfl ?_ | refine G_condF rfl ?_ | refine G_skip ?_ | refine G_ret ?_ | refine G_exit ?_ | refine q_tn ?_ | refine q_tr ?_ | refine q_tx ?_ | refine q_bn ?_ | refine q_br ?_ | refine q_bx ?_ | refine q_by (by decide) ?_)
    ((first | refine Gs ?_ | refine Gr ?_); simp (disch := omega) only [u, i64, ax, eq_self, if_true, if_false, Nat.reduceAdd, Int.reduceToNat, Int.reduceAdd, tvs, bs])
    (refine cR hR ?_; simp (disch := omega) only [u, i64, ax, eq_self, if_true, if_false, Nat.reduceAdd, Int.reduceToNat, Int.reduceAdd, tvs, bs]; try refine aA ?_)
    repeat (first | ((first | refine Gs ?_ | refine Gr ?_); simp (disch := omega) only [u, i64, ax, eq_self, if_true, if_false, Nat.reduceAdd, Int.reduceToNat, Int.reduceAdd, tvs, bs]; refine aA ?_) | refine G_seq ?_ | refine G_block ?_ | refine G_condT rfl ?_ | refine G_condF rfl ?_ | refine G_skip ?_ | refine G_ret ?_ | refine G_exit ?_ | refine q_tn ?_ | refine q_tr ?_ | refine q_tx ?_ | refine q_bn ?_ | refine q_br ?_ | refine q_bx ?_ | refine q_by (by decide) ?_)
    (refine FinQ hQ (congrArg Array.toList Tryd.results181) _ _ ?_); simp (disch := omega) only [u, i64, ax, if_true, forall_const, reduceCtorEq, implies_true, tvs, bf]
theorem ret_greatest (r : Nat) (hr : r ≤ 4) (neg : Bool) : Ret Tryd.prog GEs 183 [i64 r, .bool neg] (.bool (grtF r neg)) := by
  have h1 : r = 0 ∨ r = 1 ∨ r = 2 ∨ r = 3 ∨ r = 4 := by omega
  rcases h1 with rfl | rfl | rfl | rfl | rfl <;> cases neg <;> exact ran (n := 20) (by kernel_rfl)
set_option maxRecDepth 100000 in
set_option maxHeartbeats 1000000 in
theorem ret_finMake (neg : Bool) (N : Nat) (s : Int) (hN : (words N).length ≤ 4294967296) (h1 : -4611686018427387904 ≤ s) (h2 : s ≤ 4611686018427387904) : Ret Tryd.prog GEs 185 [.bool neg, nat N, i64 s] (flv (mkF neg N s)) := by
  have hZ := ret_Zero (words N) (Wd_words _) (by omega)
  rw [val_words] at hZ
  have hT := ret_Trailing (words N) (Wd_words _) (by omega)
  rw [val_words] at hT
  have hb := bl_len N
  have ht := tz_le_bl N
  have hS := ret_Shr (words N) (tz N) (Wd_words _) (by omega) (by omega)
  rw [val_words] at hS
  unfold mkF flv
  by_cases h0 : N = 0
  · rw [if_pos h0]
    rw [decT h0] at hZ
    refine RetN_start Tryd.func185 (by kernel_rfl) rfl fun Q hQ hQ2 => ?_; rw [Tryd.ntmps185]; simp only [u, i64, Nat.reduceSub, Nat.reduceAdd, bm]
    repeat (first | ((first | refine Gs ?_ | refine Gr ?_); simp (disch := omega) only [u, i64, ax, eq_self, if_true, if_false, Nat.reduceAdd, Int.reduceToNat, Int.reduceAdd, tvs, bs]; refine aA ?_) | refine G_seq ?_ | refine G_block ?_ | refine G_condT rfl ?_ | refine G_condF rfl ?_ | refine G_skip ?_ | refine G_ret ?_ | refine G_exit ?_ | refine q_tn ?_ | refine q_tr ?_ | refine q_tx ?_ | refine q_bn ?_ | refine q_br ?_ | refine q_bx ?_ | refine q_by (by decide) ?_)
    ((first | refine Gs ?_ | refine Gr ?_); simp (disch := omega) only [u, i64, ax, eq_self, if_true, if_false, Nat.reduceAdd, Int.reduceToNat, Int.reduceAdd, tvs, bs])
    (refine cR hZ ?_; simp (disch := omega) only [u, i64, ax, eq_self, if_true, if_false, Nat.reduceAdd, Int.reduceToNat, Int.reduceAdd, tvs, bs]; try refine aA ?_)
    repeat (first | ((first | refine Gs ?_ | refine Gr ?_); simp (disch := omega) only [u, i64, ax, eq_self, if_true, if_false, Nat.reduceAdd, Int.reduceToNat, Int.reduceAdd, tvs, bs]; refine aA ?_) | refine G_seq ?_ | refine G_block ?_ | refine G_condT rfl ?_ | refine G_condF rfl ?_ | refine G_skip ?_ | refine G_ret ?_ | refine G_exit ?_ | refine q_tn ?_ | refine q_tr ?_ | refine q_tx ?_ | refine q_bn ?_ | refine q_br ?_ | refine q_bx ?_ | refine q_by (by decide) ?_)
    (refine FinQ hQ (congrArg Array.toList Tryd.results185) _ _ ?_); simp (disch := omega) only [u, i64, ax, if_true, forall_const, reduceCtorEq, implies_true, tvs, bf]
    rfl
  · rw [if_neg h0]
    rw [decF h0] at hZ
    refine RetN_start Tryd.func185 (by kernel_rfl) rfl fun Q hQ hQ2 => ?_; rw [Tryd.ntmps185]; simp only [u, i64, Nat.reduceSub, Nat.reduceAdd, bm]
    repeat (first | ((first | refine Gs ?_ | refine Gr ?_); simp (disch := omega) only [u, i64, ax, eq_self, if_true, if_false, Nat.reduceAdd, Int.reduceToNat, Int.reduceAdd, tvs, bs]; refine aA ?_) | refine G_seq ?_ | refine G_block ?_ | refine G_condT rfl ?_ | refine G_condF rfl ?_ | refine G_skip ?_ | refine G_ret ?_ | refine G_exit ?_ | refine q_tn ?_ | refine q_tr ?_ | refine q_tx ?_ | refine q_bn ?_ | refine q_br ?_ | refine q_bx ?_ | refine q_by (by decide) ?_)
    ((first | refine Gs ?_ | refine Gr ?_); simp (disch := omega) only [u, i64, ax, eq_self, if_true, if_false, Nat.reduceAdd, Int.reduceToNat, Int.reduceAdd, tvs, bs])
    (refine cR hZ ?_; simp (disch := omega) only [u, i64, ax, eq_self, if_true, if_false, Nat.reduceAdd, Int.reduceToNat, Int.reduceAdd, tvs, bs]; try refine aA ?_)
    repeat (first | ((first | refine Gs ?_ | refine Gr ?_); simp (disch := omega) only [u, i64, ax, eq_self, if_true, if_false, Nat.reduceAdd, Int.reduceToNat, Int.reduceAdd, tvs, bs]; refine aA ?_) | refine G_seq ?_ | refine G_block ?_ | refine G_condT rfl ?_ | refine G_condF rfl ?_ | refine G_skip ?_ | refine G_ret ?_ | refine G_exit ?_ | refine q_tn ?_ | refine q_tr ?_ | refine q_tx ?_ | refine q_bn ?_ | refine q_br ?_ | refine q_bx ?_ | refine q_by (by decide) ?_)
    ((first | refine Gs ?_ | refine Gr ?_); simp (disch := omega) only [u, i64, ax, eq_self, if_true, if_false, Nat.reduceAdd, Int.reduceToNat, Int.reduceAdd, tvs, bs])
    (refine cR hT ?_; simp (disch := omega) only [u, i64, ax, eq_self, if_true, if_false, Nat.reduceAdd, Int.reduceToNat, Int.reduceAdd, tvs, bs]; try refine aA ?_)
    ((first | refine Gs ?_ | refine Gr ?_); simp (disch := omega) only [u, i64, ax, eq_self, if_true, if_false, Nat.reduceAdd, Int.reduceToNat, Int.reduceAdd, tvs, bs])
    (refine cR hS ?_; simp (disch := omega) only [u, i64, ax, eq_self, if_true, if_false, Nat.reduceAdd, Int.reduceToNat, Int.reduceAdd, tvs, bs]; try refine aA ?_)
    repeat (first | ((first | refine Gs ?_ | refine Gr ?_); simp (disch := omega) only [u, i64, ax, eq_self, if_true, if_false, Nat.reduceAdd, Int.reduceToNat, Int.reduceAdd, tvs, bs]; refine aA ?_) | refine G_seq ?_ | refine G_block ?_ | refine G_condT rfl ?_ | refine G_condF rfl ?_ | refine G_skip ?_ | refine G_ret ?_ | refine G_exit ?_ | refine q_tn ?_ | refine q_tr ?_ | refine q_tx ?_ | refine q_bn ?_ | refine q_br ?_ | refine q_bx ?_ | refine q_by (by decide) ?_)
    (refine FinQ hQ (congrArg Array.toList Tryd.results185) _ _ ?_); simp (disch := omega) only [u, i64, ax, if_true, forall_const, reduceCtorEq, implies_true, tvs, bf]
    rfl
set_option maxRecDepth 100000 in
set_option maxHeartbeats 1000000 in
theorem ret_cut (q t : Nat) (ht : 1 ≤ t) (ht2 : t ≤ 1099511627776) (hq : (words q).length ≤ 274877906944) (sticky : Bool) : Ret Tryd.prog GEs 182 [nat q, i64 t, .bool sticky] (.tup [nat (q / 2 ^ t), i64 (cutC q t sticky)]) := by
  have hB := ret_Bit (words q) (t - 1) (Wd_words _) (by omega) (by omega)
  rw [val_words] at hB
  have hL := ret_Below (words q) (t - 1) (Wd_words _) (by omega) (by omega)
  rw [val_words] at hL
  have hS := ret_Shr (words q) t (Wd_words _) (by omega) (by omega)
  rw [val_words] at hS
  unfold cutC
  cases sticky with
  | true =>
    by_cases hb : q / 2 ^ (t - 1) % 2 = 1
    · rw [decT hb] at hB
      rw [if_pos hb, Bool.true_or, if_pos rfl]
      refine RetN_start Tryd.func182 (by kernel_rfl) rfl fun Q hQ hQ2 => ?_; rw [Tryd.ntmps182]; simp only [u, i64, Nat.reduceSub, Nat.reduceAdd, bm]
      repeat (first | ((first | refine Gs ?_ | refine Gr ?_); simp (disch := omega) only [u, i64, ax, eq_self, if_true, if_false, Nat.reduceAdd, Int.reduceToNat, Int.reduceAdd, tvs, bs]; refine aA ?_) | refine G_seq ?_ | refine G_block ?_ | refine G_condT rfl ?_ | refine G_condF rfl ?_ | refine G_skip ?_ | refine G_ret ?_ | refine G_exit ?_ | refine q_tn ?_ | refine q_tr ?_ | refine q_tx ?_ | refine q_bn ?_ | refine q_br ?_ | refine q_bx ?_ | refine q_by (by decide) ?_)
      ((first | refine Gs ?_ | refine Gr ?_); simp (disch := omega) only [u, i64, ax, eq_self, if_true, if_false, Nat.reduceAdd, Int.reduceToNat, Int.reduceAdd, tvs, bs])
      (refine cR hB ?_; simp (disch := omega) only [u, i64, ax, eq_self, if_true, if_false, Nat.reduceAdd, Int.reduceToNat, Int.reduceAdd, tvs, bs]; try refine aA ?_)
      repeat (first | ((first | refine Gs ?_ | refine Gr ?_); simp (disch := omega) only [u, i64, ax, eq_self, if_true, if_false, Nat.reduceAdd, Int.reduceToNat, Int.reduceAdd, tvs, bs]; refine aA ?_) | refine G_seq ?_ | refine G_block ?_ | refine G_condT rfl ?_ | refine G_condF rfl ?_ | refine G_skip ?_ | refine G_ret ?_ | refine G_exit ?_ | refine q_tn ?_ | refine q_tr ?_ | refine q_tx ?_ | refine q_bn ?_ | refine q_br ?_ | refine q_bx ?_ | refine q_by (by decide) ?_)
      ((first | refine Gs ?_ | refine Gr ?_); simp (disch := omega) only [u, i64, ax, eq_self, if_true, if_false, Nat.reduceAdd, Int.reduceToNat, Int.reduceAdd, tvs, bs])
      (refine cR hS ?_; simp (disch := omega) only [u, i64, ax, eq_self, if_true, if_false, Nat.reduceAdd, Int.reduceToNat, Int.reduceAdd, tvs, bs]; try refine aA ?_)
      repeat (first | ((first | refine Gs ?_ | refine Gr ?_); simp (disch := omega) only [u, i64, ax, eq_self, if_true, if_false, Nat.reduceAdd, Int.reduceToNat, Int.reduceAdd, tvs, bs]; refine aA ?_) | refine G_seq ?_ | refine G_block ?_ | refine G_condT rfl ?_ | refine G_condF rfl ?_ | refine G_skip ?_ | refine G_ret ?_ | refine G_exit ?_ | refine q_tn ?_ | refine q_tr ?_ | refine q_tx ?_ | refine q_bn ?_ | refine q_br ?_ | refine q_bx ?_ | refine q_by (by decide) ?_)
      (refine FinQ hQ (congrArg Array.toList Tryd.results182) _ _ ?_); simp (disch := omega) only [u, i64, ax, if_true, forall_const, reduceCtorEq, implies_true, tvs, bf]
      rfl
    · rw [decF hb] at hB
      rw [if_neg hb, Bool.true_or, if_pos rfl]
      refine RetN_start Tryd.func182 (by kernel_rfl) rfl fun Q hQ hQ2 => ?_; rw [Tryd.ntmps182]; simp only [u, i64, Nat.reduceSub, Nat.reduceAdd, bm]
      repeat (first | ((first | refine Gs ?_ | refine Gr ?_); simp (disch := omega) only [u, i64, ax, eq_self, if_true, if_false, Nat.reduceAdd, Int.reduceToNat, Int.reduceAdd, tvs, bs]; refine aA ?_) | refine G_seq ?_ | refine G_block ?_ | refine G_condT rfl ?_ | refine G_condF rfl ?_ | refine G_skip ?_ | refine G_ret ?_ | refine G_exit ?_ | refine q_tn ?_ | refine q_tr ?_ | refine q_tx ?_ | refine q_bn ?_ | refine q_br ?_ | refine q_bx ?_ | refine q_by (by decide) ?_)
      ((first | refine Gs ?_ | refine Gr ?_); simp (disch := omega) only [u, i64, ax, eq_self, if_true, if_false, Nat.reduceAdd, Int.reduceToNat, Int.reduceAdd, tvs, bs])
      (refine cR hB ?_; simp (disch := omega) only [u, i64, ax, eq_self, if_true, if_false, Nat.reduceAdd, Int.reduceToNat, Int.reduceAdd, tvs, bs]; try refine aA ?_)
      repeat (first | ((first | refine Gs ?_ | refine Gr ?_); simp (disch := omega) only [u, i64, ax, eq_self, if_true, if_false, Nat.reduceAdd, Int.reduceToNat, Int.reduceAdd, tvs, bs]; refine aA ?_) | refine G_seq ?_ | refine G_block ?_ | refine G_condT rfl ?_ | refine G_condF rfl ?_ | refine G_skip ?_ | refine G_ret ?_ | refine G_exit ?_ | refine q_tn ?_ | refine q_tr ?_ | refine q_tx ?_ | refine q_bn ?_ | refine q_br ?_ | refine q_bx ?_ | refine q_by (by decide) ?_)
      ((first | refine Gs ?_ | refine Gr ?_); simp (disch := omega) only [u, i64, ax, eq_self, if_true, if_false, Nat.reduceAdd, Int.reduceToNat, Int.reduceAdd, tvs, bs])
      (refine cR hS ?_; simp (disch := omega) only [u, i64, ax, eq_self, if_true, if_false, Nat.reduceAdd, Int.reduceToNat, Int.reduceAdd, tvs, bs]; try refine aA ?_)
      repeat (first | ((first | refine Gs ?_ | refine Gr ?_); simp (disch := omega) only [u, i64, ax, eq_self, if_true, if_false, Nat.reduceAdd, Int.reduceToNat, Int.reduceAdd, tvs, bs]; refine aA ?_) | refine G_seq ?_ | refine G_block ?_ | refine G_condT rfl ?_ | refine G_condF rfl ?_ | refine G_skip ?_ | refine G_ret ?_ | refine G_exit ?_ | refine q_tn ?_ | refine q_tr ?_ | refine q_tx ?_ | refine q_bn ?_ | refine q_br ?_ | refine q_bx ?_ | refine q_by (by decide) ?_)
      (refine FinQ hQ (congrArg Array.toList Tryd.results182) _ _ ?_); simp (disch := omega) only [u, i64, ax, if_true, forall_const, reduceCtorEq, implies_true, tvs, bf]
      rfl
  | false =>
    by_cases hb : q / 2 ^ (t - 1) % 2 = 1
    · rw [decT hb] at hB
      rw [if_pos hb, Bool.false_or]
      by_cases hl : q % 2 ^ (t - 1) ≠ 0
      · rw [decT hl] at hL ⊢
        rw [if_pos rfl]
        refine RetN_start Tryd.func182 (by kernel_rfl) rfl fun Q hQ hQ2 => ?_; rw [Tryd.ntmps182]; simp only [u, i64, Nat.reduceSub, Nat.reduceAdd, bm]
        repeat (first | ((first | refine Gs ?_ | refine Gr ?_); simp (disch := omega) only [u, i64, ax, eq_self, if_true, if_false, Nat.reduceAdd, Int.reduceToNat, Int.reduceAdd, tvs, bs]; refine aA ?_) | refine G_seq ?_ | refine G_block ?_ | refine G_condT rfl ?_ | refine G_condF rfl ?_ | refine G_skip ?_ | refine G_ret ?_ | refine G_exit ?_ | refine q_tn ?_ | refine q_tr ?_ | refine q_tx ?_ | refine q_bn ?_ | refine q_br ?_ | refine q_bx ?_ | refine q_by (by decide) ?_)
        ((first | refine Gs ?_ | refine Gr ?_); simp (disch := omega) only [u, i64, ax, eq_self, if_true, if_false, Nat.reduceAdd, Int.reduceToNat, Int.reduceAdd, tvs, bs])
        (refine cR hB ?_; simp (disch := omega) only [u, i64, ax, eq_self, if_true, if_false, Nat.reduceAdd, Int.reduceToNat, Int.reduceAdd, tvs, bs]; try refine aA ?_)
        (refine cR hL ?_; simp (disch := omega) only [u, i64, ax, eq_self, if_true, if_false, Nat.reduceAdd, Int.reduceToNat, Int.reduceAdd, tvs, bs]; try refine aA ?_)
        repeat (first | ((first | refine Gs ?_ | refine Gr ?_); simp (disch := omega) only [u, i64, ax, eq_self, if_true, if_false, Nat.reduceAdd, Int.reduceToNat, Int.reduceAdd, tvs, bs]; refine aA ?_) | refine G_seq ?_ | refine G_block ?_ | refine G_condT rfl ?_ | refine G_condF rfl ?_ | refine G_skip ?_ | refine G_ret ?_ | refine G_exit ?_ | refine q_tn ?_ | refine q_tr ?_ | refine q_tx ?_ | refine q_bn ?_ | refine q_br ?_ | refine q_bx ?_ | refine q_by (by decide) ?_)
        ((first | refine Gs ?_ | refine Gr ?_); simp (disch := omega) only [u, i64, ax, eq_self, if_true, if_false, Nat.reduceAdd, Int.reduceToNat, Int.reduceAdd, tvs, bs])
        (refine cR hS ?_; simp (disch := omega) only [u, i64, ax, eq_self, if_true, if_false, Nat.reduceAdd, Int.reduceToNat, Int.reduceAdd, tvs, bs]; try refine aA ?_)
        repeat (first | ((first | refine Gs ?_ | refine Gr ?_); simp (disch := omega) only [u, i64, ax, eq_self, if_true, if_false, Nat.reduceAdd, Int.reduceToNat, Int.reduceAdd, tvs, bs]; refine aA ?_) | refine G_seq ?_ | refine G_block ?_ | refine G_condT rfl ?_ | refine G_condF rfl ?_ | refine G_skip ?_ | refine G_ret ?_ | refine G_exit ?_ | refine q_tn ?_ | refine q_tr ?_ | refine q_tx ?_ | refine q_bn ?_ | refine q_br ?_ | refine q_bx ?_ | refine q_by (by decide) ?_)
        (refine FinQ hQ (congrArg Array.toList Tryd.results182) _ _ ?_); simp (disch := omega) only [u, i64, ax, if_true, forall_const, reduceCtorEq, implies_true, tvs, bf]
        rfl
      · rw [decF hl] at hL ⊢
        rw [if_neg (by decide)]
        refine RetN_start Tryd.func182 (by kernel_rfl) rfl fun Q hQ hQ2 => ?_; rw [Tryd.ntmps182]; simp only [u, i64, Nat.reduceSub, Nat.reduceAdd, bm]
        repeat (first | ((first | refine Gs ?_ | refine Gr ?_); simp (disch := omega) only [u, i64, ax, eq_self, if_true, if_false, Nat.reduceAdd, Int.reduceToNat, Int.reduceAdd, tvs, bs]; refine aA ?_) | refine G_seq ?_ | refine G_block ?_ | refine G_condT rfl ?_ | refine G_condF rfl ?_ | refine G_skip ?_ | refine G_ret ?_ | refine G_exit ?_ | refine q_tn ?_ | refine q_tr ?_ | refine q_tx ?_ | refine q_bn ?_ | refine q_br ?_ | refine q_bx ?_ | refine q_by (by decide) ?_)
        ((first | refine Gs ?_ | refine Gr ?_); simp (disch := omega) only [u, i64, ax, eq_self, if_true, if_false, Nat.reduceAdd, Int.reduceToNat, Int.reduceAdd, tvs, bs])
        (refine cR hB ?_; simp (disch := omega) only [u, i64, ax, eq_self, if_true, if_false, Nat.reduceAdd, Int.reduceToNat, Int.reduceAdd, tvs, bs]; try refine aA ?_)
        (refine cR hL ?_; simp (disch := omega) only [u, i64, ax, eq_self, if_true, if_false, Nat.reduceAdd, Int.reduceToNat, Int.reduceAdd, tvs, bs]; try refine aA ?_)
        repeat (first | ((first | refine Gs ?_ | refine Gr ?_); simp (disch := omega) only [u, i64, ax, eq_self, if_true, if_false, Nat.reduceAdd, Int.reduceToNat, Int.reduceAdd, tvs, bs]; refine aA ?_) | refine G_seq ?_ | refine G_block ?_ | refine G_condT rfl ?_ | refine G_condF rfl ?_ | refine G_skip ?_ | refine G_ret ?_ | refine G_exit ?_ | refine q_tn ?_ | refine q_tr ?_ | refine q_tx ?_ | refine q_bn ?_ | refine q_br ?_ | refine q_bx ?_ | refine q_by (by decide) ?_)
        ((first | refine Gs ?_ | refine Gr ?_); simp (disch := omega) only [u, i64, ax, eq_self, if_true, if_false, Nat.reduceAdd, Int.reduceToNat, Int.reduceAdd, tvs, bs])
        (refine cR hS ?_; simp (disch := omega) only [u, i64, ax, eq_self, if_true, if_false, Nat.reduceAdd, Int.reduceToNat, Int.reduceAdd, tvs, bs]; try refine aA ?_)
        repeat (first | ((first | refine Gs ?_ | refine Gr ?_); simp (disch := omega) only [u, i64, ax, eq_self, if_true, if_false, Nat.reduceAdd, Int.reduceToNat, Int.reduceAdd, tvs, bs]; refine aA ?_) | refine G_seq ?_ | refine G_block ?_ | refine G_condT rfl ?_ | refine G_condF rfl ?_ | refine G_skip ?_ | refine G_ret ?_ | refine G_exit ?_ | refine q_tn ?_ | refine q_tr ?_ | refine q_tx ?_ | refine q_bn ?_ | refine q_br ?_ | refine q_bx ?_ | refine q_by (by decide) ?_)
        (refine FinQ hQ (congrArg Array.toList Tryd.results182) _ _ ?_); simp (disch := omega) only [u, i64, ax, if_true, forall_const, reduceCtorEq, implies_true, tvs, bf]
        rfl
    · rw [decF hb] at hB
      rw [if_neg hb, Bool.false_or]
      by_cases hl : q % 2 ^ (t - 1) ≠ 0
      · rw [decT hl] at hL ⊢
        rw [if_pos rfl]
        refine RetN_start Tryd.func182 (by kernel_rfl) rfl fun Q hQ hQ2 => ?_; rw [Tryd.ntmps182]; simp only [u, i64, Nat.reduceSub, Nat.reduceAdd, bm]
        repeat (first | ((first | refine Gs ?_ | refine Gr ?_); simp (disch := omega) only [u, i64, ax, eq_self, if_true, if_false, Nat.reduceAdd, Int.reduceToNat, Int.reduceAdd, tvs, bs]; refine aA ?_) | refine G_seq ?_ | refine G_block ?_ | refine G_condT rfl ?_ | refine G_condF rfl ?_ | refine G_skip ?_ | refine G_ret ?_ | refine G_exit ?_ | refine q_tn ?_ | refine q_tr ?_ | refine q_tx ?_ | refine q_bn ?_ | refine q_br ?_ | refine q_bx ?_ | refine q_by (by decide) ?_)
        ((first | refine Gs ?_ | refine Gr ?_); simp (disch := omega) only [u, i64, ax, eq_self, if_true, if_false, Nat.reduceAdd, Int.reduceToNat, Int.reduceAdd, tvs, bs])
        (refine cR hB ?_; simp (disch := omega) only [u, i64, ax, eq_self, if_true, if_false, Nat.reduceAdd, Int.reduceToNat, Int.reduceAdd, tvs, bs]; try refine aA ?_)
        (refine cR hL ?_; simp (disch := omega) only [u, i64, ax, eq_self, if_true, if_false, Nat.reduceAdd, Int.reduceToNat, Int.reduceAdd, tvs, bs]; try refine aA ?_)
        repeat (first | ((first | refine Gs ?_ | refine Gr ?_); simp (disch := omega) only [u, i64, ax, eq_self, if_true, if_false, Nat.reduceAdd, Int.reduceToNat, Int.reduceAdd, tvs, bs]; refine aA ?_) | refine G_seq ?_ | refine G_block ?_ | refine G_condT rfl ?_ | refine G_condF rfl ?_ | refine G_skip ?_ | refine G_ret ?_ | refine G_exit ?_ | refine q_tn ?_ | refine q_tr ?_ | refine q_tx ?_ | refine q_bn ?_ | refine q_br ?_ | refine q_bx ?_ | refine q_by (by decide) ?_)
        ((first | refine Gs ?_ | refine Gr ?_); simp (disch := omega) only [u, i64, ax, eq_self, if_true, if_false, Nat.reduceAdd, Int.reduceToNat, Int.reduceAdd, tvs, bs])
        (refine cR hS ?_; simp (disch := omega) only [u, i64, ax, eq_self, if_true, if_false, Nat.reduceAdd, Int.reduceToNat, Int.reduceAdd, tvs, bs]; try refine aA ?_)
        repeat (first | ((first | refine Gs ?_ | refine Gr ?_); simp (disch := omega) only [u, i64, ax, eq_self, if_true, if_false, Nat.reduceAdd, Int.reduceToNat, Int.reduceAdd, tvs, bs]; refine aA ?_) | refine G_seq ?_ | refine G_block ?_ | refine G_condT rfl ?_ | refine G_condF rfl ?_ | refine G_skip ?_ | refine G_ret ?_ | refine G_exit ?_ | refine q_tn ?_ | refine q_tr ?_ | refine q_tx ?_ | refine q_bn ?_ | refine q_br ?_ | refine q_bx ?_ | refine q_by (by decide) ?_)
        (refine FinQ hQ (congrArg Array.toList Tryd.results182) _ _ ?_); simp (disch := omega) only [u, i64, ax, if_true, forall_const, reduceCtorEq, implies_true, tvs, bf]
        rfl
      · rw [decF hl] at hL ⊢
        rw [if_neg (by decide)]
        refine RetN_start Tryd.func182 (by kernel_rfl) rfl fun Q hQ hQ2 => ?_; rw [Tryd.ntmps182]; simp only [u, i64, Nat.reduceSub, Nat.reduceAdd, bm]
        repeat (first | ((first | refine Gs ?_ | refine Gr ?_); simp (disch := omega) only [u, i64, ax, eq_self, if_true, if_false, Nat.reduceAdd, Int.reduceToNat, Int.reduceAdd, tvs, bs]; refine aA ?_) | refine G_seq ?_ | refine G_block ?_ | refine G_condT rfl ?_ | refine G_condF rfl ?_ | refine G_skip ?_ | refine G_ret ?_ | refine G_exit ?_ | refine q_tn ?_ | refine q_tr ?_ | refine q_tx ?_ | refine q_bn ?_ | refine q_br ?_ | refine q_bx ?_ | refine q_by (by decide) ?_)
        ((first | refine Gs ?_ | refine Gr ?_); simp (disch := omega) only [u, i64, ax, eq_self, if_true, if_false, Nat.reduceAdd, Int.reduceToNat, Int.reduceAdd, tvs, bs])
        (refine cR hB ?_; simp (disch := omega) only [u, i64, ax, eq_self, if_true, if_false, Nat.reduceAdd, Int.reduceToNat, Int.reduceAdd, tvs, bs]; try refine aA ?_)
        (refine cR hL ?_; simp (disch := omega) only [u, i64, ax, eq_self, if_true, if_false, Nat.reduceAdd, Int.reduceToNat, Int.reduceAdd, tvs, bs]; try refine aA ?_)
        repeat (first | ((first | refine Gs ?_ | refine Gr ?_); simp (disch := omega) only [u, i64, ax, eq_self, if_true, if_false, Nat.reduceAdd, Int.reduceToNat, Int.reduceAdd, tvs, bs]; refine aA ?_) | refine G_seq ?_ | refine G_block ?_ | refine G_condT rfl ?_ | refine G_condF rfl ?_ | refine G_skip ?_ | refine G_ret ?_ | refine G_exit ?_ | refine q_tn ?_ | refine q_tr ?_ | refine q_tx ?_ | refine q_bn ?_ | refine q_br ?_ | refine q_bx ?_ | refine q_by (by decide) ?_)
        ((first | refine Gs ?_ | refine Gr ?_); simp (disch := omega) only [u, i64, ax, eq_self, if_true, if_false, Nat.reduceAdd, Int.reduceToNat, Int.reduceAdd, tvs, bs])
        (refine cR hS ?_; simp (disch := omega) only [u, i64, ax, eq_self, if_true, if_false, Nat.reduceAdd, Int.reduceToNat, Int.reduceAdd, tvs, bs]; try refine aA ?_)
        repeat (first | ((first | refine Gs ?_ | refine Gr ?_); simp (disch := omega) only [u, i64, ax, eq_self, if_true, if_false, Nat.reduceAdd, Int.reduceToNat, Int.reduceAdd, tvs, bs]; refine aA ?_) | refine G_seq ?_ | refine G_block ?_ | refine G_condT rfl ?_ | refine G_condF rfl ?_ | refine G_skip ?_ | refine G_ret ?_ | refine G_exit ?_ | refine q_tn ?_ | refine q_tr ?_ | refine q_tx ?_ | refine q_bn ?_ | refine q_br ?_ | refine q_bx ?_ | refine q_by (by decide) ?_)
        (refine FinQ hQ (congrArg Array.toList Tryd.results182) _ _ ?_); simp (disch := omega) only [u, i64, ax, if_true, forall_const, reduceCtorEq, implies_true, tvs, bf]
        rfl
end Go.Proofs
set_option linter.unusedVariables false
set_option linter.unusedSimpArgs false
namespace Go.Proofs
open Go.Ax
theorem ret_power (e : Int) : Ret Tryd.prog GEs 197 [i64 e] (.agg [i64 1, .bool false, i64 e, ws [1]]) := by
  refine RetN_start Tryd.func197 (by kernel_rfl) rfl fun Q hQ hQ2 => ?_; rw [Tryd.ntmps197]; simp only [u, i64, Nat.reduceSub, Nat.reduceAdd, bm]
  repeat (first | ((first | refine Gs ?_ | refine Gr ?_); simp (disch := omega) only [u, i64, ax, eq_self, if_true, if_false, Nat.reduceAdd, Int.reduceToNat, Int.reduceAdd, tvs, bs]; refine aA ?_) | refine G_seq ?_ | refine G_block ?_ | refine G_condT rfl ?_ | refine G_condF rfl ?_ | refine G_skip ?_ | refine G_ret ?_ | refine G_exit ?_ | refine q_tn ?_ | refine q_tr ?_ | refine q_tx ?_ | refine q_bn ?_ | refine q_br ?_ | refine q_bx ?_ | refine q_by (by decide) ?_)
  (refine FinQ hQ (congrArg Array.toList Tryd.results197) _ _ ?_); simp (disch := omega) only [u, i64, ax, if_true, forall_const, reduceCtorEq, implies_true, tvs, bf]
  rfl
set_option maxRecDepth 100000 in
set_option maxHeartbeats 1000000 in
theorem ret_Limits (k p : Nat) (h : okFm k p) : Ret Tryd.prog GEs 184 [.agg [i64 k, i64 p]]
    (.tup [flv (topF p (gF k) false), .agg [i64 1, .bool false, i64 (1 - gF k), ws [1]], .agg [i64 1, .bool false, i64 (1 - gF k - ((p - 1 : Nat) : Int)), ws [1]], i64 0]) := by
  have hR := ret_fRange k p h
  have hg := gF_le (k := k) (by omega) (by omega)
  have hS := ret_Shl [1] p (fun x hx => by simp at hx; subst hx; decide) (by decide) (by omega)
  rw [show val [1] = 1 from rfl, Nat.one_mul] at hS
  have hl : (words (2 ^ p)).length ≤ 5 := le_pow_words (Nat.le_refl _) (by omega)
  have hp1 := Nat.two_pow_pos p
  have hB := ret_Sub (words (2 ^ p)) [1] (Wd_words _) (fun x hx => by simp at hx; subst hx; decide) (by omega) (by decide) (by rw [val_words]; exact hp1)
  rw [val_words, show val [1] = 1 from rfl] at hB
  unfold flv topF
  generalize gF k = G at *
  refine RetN_start Tryd.func184 (by kernel_rfl) rfl fun Q hQ hQ2 => ?_; rw [Tryd.ntmps184]; simp only [u, i64, Nat.reduceSub, Nat.reduceAdd, bm]
  repeat (first | ((first | refine Gs ?_ | refine Gr ?_); simp (disch := omega) only [u, i64, ax, eq_self, if_true, if_false, Nat.reduceAdd, Int.reduceToNat, Int.reduceAdd, tvs, bs]; refine aA ?_) | refine G_seq ?_ | refine G_block ?_ | refine G_condT rfl ?_ | refine G_condF rfl ?_ | refine G_skip ?_ | refine G_ret ?_ | refine G_exit ?_ | refine q_tn ?_ | refine q_tr ?_ | refine q_tx ?_ | refine q_bn ?_ | refine q_br ?_ | refine q_bx ?_ | refine q_by (by decide) ?_)
  ((first | refine Gs ?_ | refine Gr ?_); simp (disch := omega) only [u, i64, ax, eq_self, if_true, if_false, Nat.reduceAdd, Int.reduceToNat, Int.reduceAdd, tvs, bs])
  (refine cR hR ?_; simp (disch := omega) only [u, i64, ax, eq_self, if_true, if_false, Nat.reduceAdd, Int.reduceToNat, Int.reduceAdd, tvs, bs]; try refine aA ?_)
  repeat (first | ((first | refine Gs ?_ | refine Gr ?_); simp (disch := omega) only [u, i64, ax, eq_self, if_true, if_false, Nat.reduceAdd, Int.reduceToNat, Int.reduceAdd, tvs, bs]; refine aA ?_) | refine G_seq ?_ | refine G_block ?_ | refine G_condT rfl ?_ | refine G_condF rfl ?_ | refine G_skip ?_ | refine G_ret ?_ | refine G_exit ?_ | refine q_tn ?_ | refine q_tr ?_ | refine q_tx ?_ | refine q_bn ?_ | refine q_br ?_ | refine q_bx ?_ | refine q_by (by decide) ?_)
  ((first | refine Gs ?_ | refine Gr ?_); simp (disch := omega) only [u, i64, ax, eq_self, if_true, if_false, Nat.reduceAdd, Int.reduceToNat, Int.reduceAdd, tvs, bs])
  (refine cR hS ?_; simp (disch := omega) only [u, i64, ax, eq_self, if_true, if_false, Nat.reduceAdd, Int.reduceToNat, Int.reduceAdd, tvs, bs]; try refine aA ?_)
  (refine cR hB ?_; simp (disch := omega) only [u, i64, ax, eq_self, if_true, if_false, Nat.reduceAdd, Int.reduceToNat, Int.reduceAdd, tvs, bs]; try refine aA ?_)
  repeat (first | ((first | refine Gs ?_ | refine Gr ?_); simp (disch := omega) only [u, i64, ax, eq_self, if_true, if_false, Nat.reduceAdd, Int.reduceToNat, Int.reduceAdd, tvs, bs]; refine aA ?_) | refine G_seq ?_ | refine G_block ?_ | refine G_condT rfl ?_ | refine G_condF rfl ?_ | refine G_skip ?_ | refine G_ret ?_ | refine G_exit ?_ | refine q_tn ?_ | refine q_tr ?_ | refine q_tx ?_ | refine q_bn ?_ | refine q_br ?_ | refine q_bx ?_ | refine q_by (by decide) ?_)
  ((first | refine Gs ?_ | refine Gr ?_); simp (disch := omega) only [u, i64, ax, eq_self, if_true, if_false, Nat.reduceAdd, Int.reduceToNat, Int.reduceAdd, tvs, bs])
  (refine cR (ret_power (1 - G)) ?_; simp (disch := omega) only [u, i64, ax, eq_self, if_true, if_false, Nat.reduceAdd, Int.reduceToNat, Int.reduceAdd, tvs, bs]; try refine aA ?_)
  (refine cR (ret_power (1 - G - ((p - 1 : Nat) : Int))) ?_; simp (disch := omega) only [u, i64, ax, eq_self, if_true, if_false, Nat.reduceAdd, Int.reduceToNat, Int.reduceAdd, tvs, bs]; try refine aA ?_)
  repeat (first | ((first | refine Gs ?_ | refine Gr ?_); simp (disch := omega) only [u, i64, ax, eq_self, if_true, if_false, Nat.reduceAdd, Int.reduceToNat, Int.reduceAdd, tvs, bs]; refine aA ?_) | refine G_seq ?_ | refine G_block ?_ | refine G_condT rfl ?_ | refine G_condF rfl ?_ | refine G_skip ?_ | refine G_ret ?_ | refine G_exit ?_ | refine q_tn ?_ | refine q_tr ?_ | refine q_tx ?_ | refine q_bn ?_ | refine q_br ?_ | refine q_bx ?_ | refine q_by (by decide) ?_)
  (refine FinQ hQ (congrArg Array.toList Tryd.results184) _ _ ?_); simp (disch := omega) only [u, i64, ax, if_true, forall_const, reduceCtorEq, implies_true, tvs, bf]
  rfl
end Go.Proofs
set_option linter.unusedVariables false
set_option linter.unusedSimpArgs false
namespace Go.Proofs
open Go.Ax
theorem mkF_small (neg : Bool) (N : Nat) (s : Int) : True := trivial
set_option maxRecDepth 100000 in
set_option maxHeartbeats 2000000 in
theorem ret_Float (k p : Nat) (h : okFm k p) (r : Nat) (hr : r ≤ 4) (neg : Bool) (q : Nat) (exp : Int) (sticky : Bool) (hq : (words q).length ≤ 100000) (h1 : -1099511627776 ≤ exp) (h2 : exp ≤ 1099511627776)
    (hu : 1 ≤ stpF p (gF k) (exp + bl q - 1) - exp) :
    Ret Tryd.prog GEs 146 [.agg [i64 k, i64 p], i64 r, .bool neg, nat q, i64 exp, .bool sticky] (.tup [flv (finF p (gF k) r neg q exp sticky).1, i64 (finF p (gF k) r neg q exp sticky).2]) := by
  have hR := ret_fRange k p h
  have hLm : Ret Tryd.prog GEs 184 [.agg [i64 k, i64 p]] (.tup [.agg [i64 1, .bool false, i64 (gF k - p + 1), nat (2 ^ p - 1)], .agg [i64 1, .bool false, i64 (1 - gF k), ws [1]], .agg [i64 1, .bool false, i64 (1 - gF k - ((p - 1 : Nat) : Int)), ws [1]], i64 0]) := ret_Limits k p h
  have hg := gF_le (k := k) (by omega) (by omega)
  have hL := ret_Len (words q) (Wd_words _) (by omega)
  rw [val_words] at hL
  have hb := bl_len q
  have hSt := ret_finStep k p h (exp + bl q - 1) (by omega) (by omega)
  have hsm := stpF_max p (gF k) (exp + bl q - 1)
  unfold finF
  simp only
  generalize he : exp + bl q - 1 = e at *
  generalize gF k = G at *
  generalize stpF p G e = U at *
  have hsub : U - exp = (((U - exp).toNat : Nat) : Int) := by omega
  have ht1 : 1 ≤ (U - exp).toNat := by omega
  have ht2 : (U - exp).toNat ≤ 4398046511104 := by omega
  generalize (U - exp).toNat = t at *
  have hC := ret_cut q t ht1 (by omega) (by omega) sticky
  have hx : cutC q t sticky ≤ 3 := by unfold cutC; split <;> split <;> omega
  generalize cutC q t sticky = x at *
  have hql : (words (q / 2 ^ t)).length ≤ 100000 := Nat.le_trans (length_mono (Nat.div_le_self _ _)) hq
  have hU := ret_up r hr neg (q / 2 ^ t) (by omega) x hx
  have hNl := length_add (q / 2 ^ t) (if moreF r neg (decide (q / 2 ^ t % 2 = 1)) x = true then 1 else 0)
  have hNl2 : (words (if moreF r neg (decide (q / 2 ^ t % 2 = 1)) x = true then 1 else 0)).length ≤ 1 := length_le (by split <;> decide)
  generalize (q / 2 ^ t + if moreF r neg (decide (q / 2 ^ t % 2 = 1)) x = true then 1 else 0) = N at *
  have hLN := ret_Len (words N) (Wd_words _) (by omega)
  rw [val_words] at hLN
  have hbN := bl_len N
  by_cases hov : G < U + bl N - 1
  · rw [if_pos hov]
    have hGr := ret_greatest r hr neg
    unfold overF
    by_cases hgr : grtF r neg = true
    · rw [hgr] at hGr
      rw [if_pos hgr]
      refine RetN_start Tryd.func146 (by kernel_rfl) rfl fun Q hQ hQ2 => ?_; rw [Tryd.ntmps146]; simp only [u, i64, Nat.reduceSub, Nat.reduceAdd, bm]
      repeat (first | ((first | refine Gs ?_ | refine Gr ?_); simp (disch := omega) only [u, i64, ax, eq_self, if_true, if_false, Nat.reduceAdd, Int.reduceToNat, Int.reduceAdd, tvs, bs]; refine aA ?_) | refine G_seq ?_ | refine G_block ?_ | refine G_condT rfl ?_ | refine G_condF rfl ?_ | refine G_skip ?_ | refine G_ret ?_ | refine G_exit ?_ | refine q_tn ?_ | refine q_tr ?_ | refine q_tx ?_ | refine q_bn ?_ | refine q_br ?_ | refine q_bx ?_ | refine q_by (by decide) ?_)
      ((first | refine Gs ?_ | refine Gr ?_); simp (disch := omega) only [u, i64, ax, eq_self, if_true, if_false, Nat.reduceAdd, Int.reduceToNat, Int.reduceAdd, tvs, bs])
      (refine cR hR ?_; simp (disch := omega) only [u, i64, ax, eq_self, if_true, if_false, Nat.reduceAdd, Int.reduceToNat, Int.reduceAdd, tvs, bs]; try refine aA ?_)
      repeat (first | ((first | refine Gs ?_ | refine Gr ?_); simp (disch := omega) only [u, i64, ax, eq_self, if_true, if_false, Nat.reduceAdd, Int.reduceToNat, Int.reduceAdd, tvs, bs]; refine aA ?_) | refine G_seq ?_ | refine G_block ?_ | refine G_condT rfl ?_ | refine G_condF rfl ?_ | refine G_skip ?_ | refine G_ret ?_ | refine G_exit ?_ | refine q_tn ?_ | refine q_tr ?_ | refine q_tx ?_ | refine q_bn ?_ | refine q_br ?_ | refine q_bx ?_ | refine q_by (by decide) ?_)
      ((first | refine Gs ?_ | refine Gr ?_); simp (disch := omega) only [u, i64, ax, eq_self, if_true, if_false, Nat.reduceAdd, Int.reduceToNat, Int.reduceAdd, tvs, bs])
      (refine cR hL ?_; simp (disch := omega) only [u, i64, ax, eq_self, if_true, if_false, Nat.reduceAdd, Int.reduceToNat, Int.reduceAdd, tvs, bs]; try refine aA ?_)
      repeat (first | ((first | refine Gs ?_ | refine Gr ?_); simp (disch := omega) only [u, i64, ax, eq_self, if_true, if_false, Nat.reduceAdd, Int.reduceToNat, Int.reduceAdd, tvs, bs]; refine aA ?_) | refine G_seq ?_ | refine G_block ?_ | refine G_condT rfl ?_ | refine G_condF rfl ?_ | refine G_skip ?_ | refine G_ret ?_ | refine G_exit ?_ | refine q_tn ?_ | refine q_tr ?_ | refine q_tx ?_ | refine q_bn ?_ | refine q_br ?_ | refine q_bx ?_ | refine q_by (by decide) ?_)
      ((first | refine Gs ?_ | refine Gr ?_); simp (disch := omega) only [u, i64, ax, eq_self, if_true, if_false, Nat.reduceAdd, Int.reduceToNat, Int.reduceAdd, tvs, bs])
      rw [he]
      (refine cR hSt ?_; simp (disch := omega) only [u, i64, ax, eq_self, if_true, if_false, Nat.reduceAdd, Int.reduceToNat, Int.reduceAdd, tvs, bs]; try refine aA ?_)
      repeat (first | ((first | refine Gs ?_ | refine Gr ?_); simp (disch := omega) only [u, i64, ax, eq_self, if_true, if_false, Nat.reduceAdd, Int.reduceToNat, Int.reduceAdd, tvs, bs]; refine aA ?_) | refine G_seq ?_ | refine G_block ?_ | refine G_condT rfl ?_ | refine G_condF rfl ?_ | refine G_skip ?_ | refine G_ret ?_ | refine G_exit ?_ | refine q_tn ?_ | refine q_tr ?_ | refine q_tx ?_ | refine q_bn ?_ | refine q_br ?_ | refine q_bx ?_ | refine q_by (by decide) ?_)
      ((first | refine Gs ?_ | refine Gr ?_); simp (disch := omega) only [u, i64, ax, eq_self, if_true, if_false, Nat.reduceAdd, Int.reduceToNat, Int.reduceAdd, tvs, bs])
      rw [hsub]
      (refine cR hC ?_; simp (disch := omega) only [u, i64, ax, eq_self, if_true, if_false, Nat.reduceAdd, Int.reduceToNat, Int.reduceAdd, tvs, bs]; try refine aA ?_)
      repeat (first | ((first | refine Gs ?_ | refine Gr ?_); simp (disch := omega) only [u, i64, ax, eq_self, if_true, if_false, Nat.reduceAdd, Int.reduceToNat, Int.reduceAdd, tvs, bs]; refine aA ?_) | refine G_seq ?_ | refine G_block ?_ | refine G_condT rfl ?_ | refine G_condF rfl ?_ | refine G_skip ?_ | refine G_ret ?_ | refine G_exit ?_ | refine q_tn ?_ | refine q_tr ?_ | refine q_tx ?_ | refine q_bn ?_ | refine q_br ?_ | refine q_bx ?_ | refine q_by (by decide) ?_)
      ((first | refine Gs ?_ | refine Gr ?_); simp (disch := omega) only [u, i64, ax, eq_self, if_true, if_false, Nat.reduceAdd, Int.reduceToNat, Int.reduceAdd, tvs, bs])
      (refine cR hU ?_; simp (disch := omega) only [u, i64, ax, eq_self, if_true, if_false, Nat.reduceAdd, Int.reduceToNat, Int.reduceAdd, tvs, bs]; try refine aA ?_)
      repeat (first | ((first | refine Gs ?_ | refine Gr ?_); simp (disch := omega) only [u, i64, ax, eq_self, if_true, if_false, Nat.reduceAdd, Int.reduceToNat, Int.reduceAdd, tvs, bs]; refine aA ?_) | refine G_seq ?_ | refine G_block ?_ | refine G_condT rfl ?_ | refine G_condF rfl ?_ | refine G_skip ?_ | refine G_ret ?_ | refine G_exit ?_ | refine q_tn ?_ | refine q_tr ?_ | refine q_tx ?_ | refine q_bn ?_ | refine q_br ?_ | refine q_bx ?_ | refine q_by (by decide) ?_)
      ((first | refine Gs ?_ | refine Gr ?_); simp (disch := omega) only [u, i64, ax, eq_self, if_true, if_false, Nat.reduceAdd, Int.reduceToNat, Int.reduceAdd, tvs, bs])
      (refine cR hLN ?_; simp (disch := omega) only [u, i64, ax, eq_self, if_true, if_false, Nat.reduceAdd, Int.reduceToNat, Int.reduceAdd, tvs, bs]; try refine aA ?_)
      repeat (first | ((first | refine Gs ?_ | refine Gr ?_); simp (disch := omega) only [u, i64, ax, eq_self, if_true, if_false, Nat.reduceAdd, Int.reduceToNat, Int.reduceAdd, tvs, bs]; refine aA ?_) | refine G_seq ?_ | refine G_block ?_ | refine G_condT rfl ?_ | refine G_condF rfl ?_ | refine G_skip ?_ | refine G_ret ?_ | refine G_exit ?_ | refine q_tn ?_ | refine q_tr ?_ | refine q_tx ?_ | refine q_bn ?_ | refine q_br ?_ | refine q_bx ?_ | refine q_by (by decide) ?_)
      ((first | refine Gs ?_ | refine Gr ?_); simp (disch := omega) only [u, i64, ax, eq_self, if_true, if_false, Nat.reduceAdd, Int.reduceToNat, Int.reduceAdd, tvs, bs])
      (refine cR hGr ?_; simp (disch := omega) only [u, i64, ax, eq_self, if_true, if_false, Nat.reduceAdd, Int.reduceToNat, Int.reduceAdd, tvs, bs]; try refine aA ?_)
      repeat (first | ((first | refine Gs ?_ | refine Gr ?_); simp (disch := omega) only [u, i64, ax, eq_self, if_true, if_false, Nat.reduceAdd, Int.reduceToNat, Int.reduceAdd, tvs, bs]; refine aA ?_) | refine G_seq ?_ | refine G_block ?_ | refine G_condT rfl ?_ | refine G_condF rfl ?_ | refine G_skip ?_ | refine G_ret ?_ | refine G_exit ?_ | refine q_tn ?_ | refine q_tr ?_ | refine q_tx ?_ | refine q_bn ?_ | refine q_br ?_ | refine q_bx ?_ | refine q_by (by decide) ?_)
      ((first | refine Gs ?_ | refine Gr ?_); simp (disch := omega) only [u, i64, ax, eq_self, if_true, if_false, Nat.reduceAdd, Int.reduceToNat, Int.reduceAdd, tvs, bs])
      (refine cR hLm ?_; simp (disch := omega) only [u, i64, ax, eq_self, if_true, if_false, Nat.reduceAdd, Int.reduceToNat, Int.reduceAdd, tvs, bs]; try refine aA ?_)
      repeat (first | ((first | refine Gs ?_ | refine Gr ?_); simp (disch := omega) only [u, i64, ax, eq_self, if_true, if_false, Nat.reduceAdd, Int.reduceToNat, Int.reduceAdd, tvs, bs]; refine aA ?_) | refine G_seq ?_ | refine G_block ?_ | refine G_condT rfl ?_ | refine G_condF rfl ?_ | refine G_skip ?_ | refine G_ret ?_ | refine G_exit ?_ | refine q_tn ?_ | refine q_tr ?_ | refine q_tx ?_ | refine q_bn ?_ | refine q_br ?_ | refine q_bx ?_ | refine q_by (by decide) ?_)
      (refine FinQ hQ (congrArg Array.toList Tryd.results146) _ _ ?_); simp (disch := omega) only [u, i64, ax, if_true, forall_const, reduceCtorEq, implies_true, tvs, bf]
      all_goals rfl
    · rw [Bool.not_eq_true] at hgr
      rw [hgr] at hGr
      rw [if_neg (by rw [hgr]; decide)]
      refine RetN_start Tryd.func146 (by kernel_rfl) rfl fun Q hQ hQ2 => ?_; rw [Tryd.ntmps146]; simp only [u, i64, Nat.reduceSub, Nat.reduceAdd, bm]
      repeat (first | ((first | refine Gs ?_ | refine Gr ?_); simp (disch := omega) only [u, i64, ax, eq_self, if_true, if_false, Nat.reduceAdd, Int.reduceToNat, Int.reduceAdd, tvs, bs]; refine aA ?_) | refine G_seq ?_ | refine G_block ?_ | refine G_condT rfl ?_ | refine G_condF rfl ?_ | refine G_skip ?_ | refine G_ret ?_ | refine G_exit ?_ | refine q_tn ?_ | refine q_tr ?_ | refine q_tx ?_ | refine q_bn ?_ | refine q_br ?_ | refine q_bx ?_ | refine q_by (by decide) ?_)
      ((first | refine Gs ?_ | refine Gr ?_); simp (disch := omega) only [u, i64, ax, eq_self, if_true, if_false, Nat.reduceAdd, Int.reduceToNat, Int.reduceAdd, tvs, bs])
      (refine cR hR ?_; simp (disch := omega) only [u, i64, ax, eq_self, if_true, if_false, Nat.reduceAdd, Int.reduceToNat, Int.reduceAdd, tvs, bs]; try refine aA ?_)
      repeat (first | ((first | refine Gs ?_ | refine Gr ?_); simp (disch := omega) only [u, i64, ax, eq_self, if_true, if_false, Nat.reduceAdd, Int.reduceToNat, Int.reduceAdd, tvs, bs]; refine aA ?_) | refine G_seq ?_ | refine G_block ?_ | refine G_condT rfl ?_ | refine G_condF rfl ?_ | refine G_skip ?_ | refine G_ret ?_ | refine G_exit ?_ | refine q_tn ?_ | refine q_tr ?_ | refine q_tx ?_ | refine q_bn ?_ | refine q_br ?_ | refine q_bx ?_ | refine q_by (by decide) ?_)
      ((first | refine Gs ?_ | refine Gr ?_); simp (disch := omega) only [u, i64, ax, eq_self, if_true, if_false, Nat.reduceAdd, Int.reduceToNat, Int.reduceAdd, tvs, bs])
      (refine cR hL ?_; simp (disch := omega) only [u, i64, ax, eq_self, if_true, if_false, Nat.reduceAdd, Int.reduceToNat, Int.reduceAdd, tvs, bs]; try refine aA ?_)
      repeat (first | ((first | refine Gs ?_ | refine Gr ?_); simp (disch := omega) only [u, i64, ax, eq_self, if_true, if_false, Nat.reduceAdd, Int.reduceToNat, Int.reduceAdd, tvs, bs]; refine aA ?_) | refine G_seq ?_ | refine G_block ?_ | refine G_condT rfl ?_ | refine G_condF rfl ?_ | refine G_skip ?_ | refine G_ret ?_ | refine G_exit ?_ | refine q_tn ?_ | refine q_tr ?_ | refine q_tx ?_ | refine q_bn ?_ | refine q_br ?_ | refine q_bx ?_ | refine q_by (by decide) ?_)
      ((first | refine Gs ?_ | refine Gr ?_); simp (disch := omega) only [u, i64, ax, eq_self, if_true, if_false, Nat.reduceAdd, Int.reduceToNat, Int.reduceAdd, tvs, bs])
      rw [he]
      (refine cR hSt ?_; simp (disch := omega) only [u, i64, ax, eq_self, if_true, if_false, Nat.reduceAdd, Int.reduceToNat, Int.reduceAdd, tvs, bs]; try refine aA ?_)
      repeat (first | ((first | refine Gs ?_ | refine Gr ?_); simp (disch := omega) only [u, i64, ax, eq_self, if_true, if_false, Nat.reduceAdd, Int.reduceToNat, Int.reduceAdd, tvs, bs]; refine aA ?_) | refine G_seq ?_ | refine G_block ?_ | refine G_condT rfl ?_ | refine G_condF rfl ?_ | refine G_skip ?_ | refine G_ret ?_ | refine G_exit ?_ | refine q_tn ?_ | refine q_tr ?_ | refine q_tx ?_ | refine q_bn ?_ | refine q_br ?_ | refine q_bx ?_ | refine q_by (by decide) ?_)
      ((first | refine Gs ?_ | refine Gr ?_); simp (disch := omega) only [u, i64, ax, eq_self, if_true, if_false, Nat.reduceAdd, Int.reduceToNat, Int.reduceAdd, tvs, bs])
      rw [hsub]
      (refine cR hC ?_; simp (disch := omega) only [u, i64, ax, eq_self, if_true, if_false, Nat.reduceAdd, Int.reduceToNat, Int.reduceAdd, tvs, bs]; try refine aA ?_)
      repeat (first | ((first | refine Gs ?_ | refine Gr ?_); simp (disch := omega) only [u, i64, ax, eq_self, if_true, if_false, Nat.reduceAdd, Int.reduceToNat, Int.reduceAdd, tvs, bs]; refine aA ?_) | refine G_seq ?_ | refine G_block ?_ | refine G_condT rfl ?_ | refine G_condF rfl ?_ | refine G_skip ?_ | refine G_ret ?_ | refine G_exit ?_ | refine q_tn ?_ | refine q_tr ?_ | refine q_tx ?_ | refine q_bn ?_ | refine q_br ?_ | refine q_bx ?_ | refine q_by (by decide) ?_)
      ((first | refine Gs ?_ | refine Gr ?_); simp (disch := omega) only [u, i64, ax, eq_self, if_true, if_false, Nat.reduceAdd, Int.reduceToNat, Int.reduceAdd, tvs, bs])
      (refine cR hU ?_; simp (disch := omega) only [u, i64, ax, eq_self, if_true, if_false, Nat.reduceAdd, Int.reduceToNat, Int.reduceAdd, tvs, bs]; try refine aA ?_)
      repeat (first | ((first | refine Gs ?_ | refine Gr ?_); simp (disch := omega) only [u, i64, ax, eq_self, if_true, if_false, Nat.reduceAdd, Int.reduceToNat, Int.reduceAdd, tvs, bs]; refine aA ?_) | refine G_seq ?_ | refine G_block ?_ | refine G_condT rfl ?_ | refine G_condF rfl ?_ | refine G_skip ?_ | refine G_ret ?_ | refine G_exit ?_ | refine q_tn ?_ | refine q_tr ?_ | refine q_tx ?_ | refine q_bn ?_ | refine q_br ?_ | refine q_bx ?_ | refine q_by (by decide) ?_)
      ((first | refine Gs ?_ | refine Gr ?_); simp (disch := omega) only [u, i64, ax, eq_self, if_true, if_false, Nat.reduceAdd, Int.reduceToNat, Int.reduceAdd, tvs, bs])
      (refine cR hLN ?_; simp (disch := omega) only [u, i64, ax, eq_self, if_true, if_false, Nat.reduceAdd, Int.reduceToNat, Int.reduceAdd, tvs, bs]; try refine aA ?_)
      repeat (first | ((first | refine Gs ?_ | refine Gr ?_); simp (disch := omega) only [u, i64, ax, eq_self, if_true, if_false, Nat.reduceAdd, Int.reduceToNat, Int.reduceAdd, tvs, bs]; refine aA ?_) | refine G_seq ?_ | refine G_block ?_ | refine G_condT rfl ?_ | refine G_condF rfl ?_ | refine G_skip ?_ | refine G_ret ?_ | refine G_exit ?_ | refine q_tn ?_ | refine q_tr ?_ | refine q_tx ?_ | refine q_bn ?_ | refine q_br ?_ | refine q_bx ?_ | refine q_by (by decide) ?_)
      ((first | refine Gs ?_ | refine Gr ?_); simp (disch := omega) only [u, i64, ax, eq_self, if_true, if_false, Nat.reduceAdd, Int.reduceToNat, Int.reduceAdd, tvs, bs])
      (refine cR hGr ?_; simp (disch := omega) only [u, i64, ax, eq_self, if_true, if_false, Nat.reduceAdd, Int.reduceToNat, Int.reduceAdd, tvs, bs]; try refine aA ?_)
      repeat (first | ((first | refine Gs ?_ | refine Gr ?_); simp (disch := omega) only [u, i64, ax, eq_self, if_true, if_false, Nat.reduceAdd, Int.reduceToNat, Int.reduceAdd, tvs, bs]; refine aA ?_) | refine G_seq ?_ | refine G_block ?_ | refine G_condT rfl ?_ | refine G_condF rfl ?_ | refine G_skip ?_ | refine G_ret ?_ | refine G_exit ?_ | refine q_tn ?_ | refine q_tr ?_ | refine q_tx ?_ | refine q_bn ?_ | refine q_br ?_ | refine q_bx ?_ | refine q_by (by decide) ?_)
      (refine FinQ hQ (congrArg Array.toList Tryd.results146) _ _ ?_); simp (disch := omega) only [u, i64, ax, if_true, forall_const, reduceCtorEq, implies_true, tvs, bf]
      all_goals rfl
  · rw [if_neg hov]
    have hM := ret_finMake neg N U (by omega) (by omega) (by omega)
    generalize mkF neg N U = y at *
    unfold flv at hM ⊢
    by_cases hx0 : x = 0
    · subst hx0
      rw [if_pos rfl]
      refine RetN_start Tryd.func146 (by kernel_rfl) rfl fun Q hQ hQ2 => ?_; rw [Tryd.ntmps146]; simp only [u, i64, Nat.reduceSub, Nat.reduceAdd, bm]
      repeat (first | ((first | refine Gs ?_ | refine Gr ?_); simp (disch := omega) only [u, i64, ax, eq_self, if_true, if_false, Nat.reduceAdd, Int.reduceToNat, Int.reduceAdd, tvs, bs]; refine aA ?_) | refine G_seq ?_ | refine G_block ?_ | refine G_condT rfl ?_ | refine G_condF rfl ?_ | refine G_skip ?_ | refine G_ret ?_ | refine G_exit ?_ | refine q_tn ?_ | refine q_tr ?_ | refine q_tx ?_ | refine q_bn ?_ | refine q_br ?_ | refine q_bx ?_ | refine q_by (by decide) ?_)
      ((first | refine Gs ?_ | refine Gr ?_); simp (disch := omega) only [u, i64, ax, eq_self, if_true, if_false, Nat.reduceAdd, Int.reduceToNat, Int.reduceAdd, tvs, bs])
      (refine cR hR ?_; simp (disch := omega) only [u, i64, ax, eq_self, if_true, if_false, Nat.reduceAdd, Int.reduceToNat, Int.reduceAdd, tvs, bs]; try refine aA ?_)
      repeat (first | ((first | refine Gs ?_ | refine Gr ?_); simp (disch := omega) only [u, i64, ax, eq_self, if_true, if_false, Nat.reduceAdd, Int.reduceToNat, Int.reduceAdd, tvs, bs]; refine aA ?_) | refine G_seq ?_ | refine G_block ?_ | refine G_condT rfl ?_ | refine G_condF rfl ?_ | refine G_skip ?_ | refine G_ret ?_ | refine G_exit ?_ | refine q_tn ?_ | refine q_tr ?_ | refine q_tx ?_ | refine q_bn ?_ | refine q_br ?_ | refine q_bx ?_ | refine q_by (by decide) ?_)
      ((first | refine Gs ?_ | refine Gr ?_); simp (disch := omega) only [u, i64, ax, eq_self, if_true, if_false, Nat.reduceAdd, Int.reduceToNat, Int.reduceAdd, tvs, bs])
      (refine cR hL ?_; simp (disch := omega) only [u, i64, ax, eq_self, if_true, if_false, Nat.reduceAdd, Int.reduceToNat, Int.reduceAdd, tvs, bs]; try refine aA ?_)
      repeat (first | ((first | refine Gs ?_ | refine Gr ?_); simp (disch := omega) only [u, i64, ax, eq_self, if_true, if_false, Nat.reduceAdd, Int.reduceToNat, Int.reduceAdd, tvs, bs]; refine aA ?_) | refine G_seq ?_ | refine G_block ?_ | refine G_condT rfl ?_ | refine G_condF rfl ?_ | refine G_skip ?_ | refine G_ret ?_ | refine G_exit ?_ | refine q_tn ?_ | refine q_tr ?_ | refine q_tx ?_ | refine q_bn ?_ | refine q_br ?_ | refine q_bx ?_ | refine q_by (by decide) ?_)
      ((first | refine Gs ?_ | refine Gr ?_); simp (disch := omega) only [u, i64, ax, eq_self, if_true, if_false, Nat.reduceAdd, Int.reduceToNat, Int.reduceAdd, tvs, bs])
      rw [he]
      (refine cR hSt ?_; simp (disch := omega) only [u, i64, ax, eq_self, if_true, if_false, Nat.reduceAdd, Int.reduceToNat, Int.reduceAdd, tvs, bs]; try refine aA ?_)
      repeat (first | ((first | refine Gs ?_ | refine Gr ?_); simp (disch := omega) only [u, i64, ax, eq_self, if_true, if_false, Nat.reduceAdd, Int.reduceToNat, Int.reduceAdd, tvs, bs]; refine aA ?_) | refine G_seq ?_ | refine G_block ?_ | refine G_condT rfl ?_ | refine G_condF rfl ?_ | refine G_skip ?_ | refine G_ret ?_ | refine G_exit ?_ | refine q_tn ?_ | refine q_tr ?_ | refine q_tx ?_ | refine q_bn ?_ | refine q_br ?_ | refine q_bx ?_ | refine q_by (by decide) ?_)
      ((first | refine Gs ?_ | refine Gr ?_); simp (disch := omega) only [u, i64, ax, eq_self, if_true, if_false, Nat.reduceAdd, Int.reduceToNat, Int.reduceAdd, tvs, bs])
      rw [hsub]
      (refine cR hC ?_; simp (disch := omega) only [u, i64, ax, eq_self, if_true, if_false, Nat.reduceAdd, Int.reduceToNat, Int.reduceAdd, tvs, bs]; try refine aA ?_)
      repeat (first | ((first | refine Gs ?_ | refine Gr ?_); simp (disch := omega) only [u, i64, ax, eq_self, if_true, if_false, Nat.reduceAdd, Int.reduceToNat, Int.reduceAdd, tvs, bs]; refine aA ?_) | refine G_seq ?_ | refine G_block ?_ | refine G_condT rfl ?_ | refine G_condF rfl ?_ | refine G_skip ?_ | refine G_ret ?_ | refine G_exit ?_ | refine q_tn ?_ | refine q_tr ?_ | refine q_tx ?_ | refine q_bn ?_ | refine q_br ?_ | refine q_bx ?_ | refine q_by (by decide) ?_)
      ((first | refine Gs ?_ | refine Gr ?_); simp (disch := omega) only [u, i64, ax, eq_self, if_true, if_false, Nat.reduceAdd, Int.reduceToNat, Int.reduceAdd, tvs, bs])
      (refine cR hU ?_; simp (disch := omega) only [u, i64, ax, eq_self, if_true, if_false, Nat.reduceAdd, Int.reduceToNat, Int.reduceAdd, tvs, bs]; try refine aA ?_)
      repeat (first | ((first | refine Gs ?_ | refine Gr ?_); simp (disch := omega) only [u, i64, ax, eq_self, if_true, if_false, Nat.reduceAdd, Int.reduceToNat, Int.reduceAdd, tvs, bs]; refine aA ?_) | refine G_seq ?_ | refine G_block ?_ | refine G_condT rfl ?_ | refine G_condF rfl ?_ | refine G_skip ?_ | refine G_ret ?_ | refine G_exit ?_ | refine q_tn ?_ | refine q_tr ?_ | refine q_tx ?_ | refine q_bn ?_ | refine q_br ?_ | refine q_bx ?_ | refine q_by (by decide) ?_)
      ((first | refine Gs ?_ | refine Gr ?_); simp (disch := omega) only [u, i64, ax, eq_self, if_true, if_false, Nat.reduceAdd, Int.reduceToNat, Int.reduceAdd, tvs, bs])
      (refine cR hLN ?_; simp (disch := omega) only [u, i64, ax, eq_self, if_true, if_false, Nat.reduceAdd, Int.reduceToNat, Int.reduceAdd, tvs, bs]; try refine aA ?_)
      repeat (first | ((first | refine Gs ?_ | refine Gr ?_); simp (disch := omega) only [u, i64, ax, eq_self, if_true, if_false, Nat.reduceAdd, Int.reduceToNat, Int.reduceAdd, tvs, bs]; refine aA ?_) | refine G_seq ?_ | refine G_block ?_ | refine G_condT rfl ?_ | refine G_condF rfl ?_ | refine G_skip ?_ | refine G_ret ?_ | refine G_exit ?_ | refine q_tn ?_ | refine q_tr ?_ | refine q_tx ?_ | refine q_bn ?_ | refine q_br ?_ | refine q_bx ?_ | refine q_by (by decide) ?_)
      ((first | refine Gs ?_ | refine Gr ?_); simp (disch := omega) only [u, i64, ax, eq_self, if_true, if_false, Nat.reduceAdd, Int.reduceToNat, Int.reduceAdd, tvs, bs])
      (refine cR hM ?_; simp (disch := omega) only [u, i64, ax, eq_self, if_true, if_false, Nat.reduceAdd, Int.reduceToNat, Int.reduceAdd, tvs, bs]; try refine aA ?_)
      repeat (first | ((first | refine Gs ?_ | refine Gr ?_); simp (disch := omega) only [u, i64, ax, eq_self, if_true, if_false, Nat.reduceAdd, Int.reduceToNat, Int.reduceAdd, tvs, bs]; refine aA ?_) | refine G_seq ?_ | refine G_block ?_ | refine G_condT rfl ?_ | refine G_condF rfl ?_ | refine G_skip ?_ | refine G_ret ?_ | refine G_exit ?_ | refine q_tn ?_ | refine q_tr ?_ | refine q_tx ?_ | refine q_bn ?_ | refine q_br ?_ | refine q_bx ?_ | refine q_by (by decide) ?_)
      (refine FinQ hQ (congrArg Array.toList Tryd.results146) _ _ ?_); simp (disch := omega) only [u, i64, ax, if_true, forall_const, reduceCtorEq, implies_true, tvs, bf]
      all_goals rfl
    · rw [if_neg hx0]
      by_cases hle : e < 1 - G
      · rw [if_pos hle]
        refine RetN_start Tryd.func146 (by kernel_rfl) rfl fun Q hQ hQ2 => ?_; rw [Tryd.ntmps146]; simp only [u, i64, Nat.reduceSub, Nat.reduceAdd, bm]
        repeat (first | ((first | refine Gs ?_ | refine Gr ?_); simp (disch := omega) only [u, i64, ax, eq_self, if_true, if_false, Nat.reduceAdd, Int.reduceToNat, Int.reduceAdd, tvs, bs]; refine aA ?_) | refine G_seq ?_ | refine G_block ?_ | refine G_condT rfl ?_ | refine G_condF rfl ?_ | refine G_skip ?_ | refine G_ret ?_ | refine G_exit ?_ | refine q_tn ?_ | refine q_tr ?_ | refine q_tx ?_ | refine q_bn ?_ | refine q_br ?_ | refine q_bx ?_ | refine q_by (by decide) ?_)
        ((first | refine Gs ?_ | refine Gr ?_); simp (disch := omega) only [u, i64, ax, eq_self, if_true, if_false, Nat.reduceAdd, Int.reduceToNat, Int.reduceAdd, tvs, bs])
        (refine cR hR ?_; simp (disch := omega) only [u, i64, ax, eq_self, if_true, if_false, Nat.reduceAdd, Int.reduceToNat, Int.reduceAdd, tvs, bs]; try refine aA ?_)
        repeat (first | ((first | refine Gs ?_ | refine Gr ?_); simp (disch := omega) only [u, i64, ax, eq_self, if_true, if_false, Nat.reduceAdd, Int.reduceToNat, Int.reduceAdd, tvs, bs]; refine aA ?_) | refine G_seq ?_ | refine G_block ?_ | refine G_condT rfl ?_ | refine G_condF rfl ?_ | refine G_skip ?_ | refine G_ret ?_ | refine G_exit ?_ | refine q_tn ?_ | refine q_tr ?_ | refine q_tx ?_ | refine q_bn ?_ | refine q_br ?_ | refine q_bx ?_ | refine q_by (by decide) ?_)
        ((first | refine Gs ?_ | refine Gr ?_); simp (disch := omega) only [u, i64, ax, eq_self, if_true, if_false, Nat.reduceAdd, Int.reduceToNat, Int.reduceAdd, tvs, bs])
        (refine cR hL ?_; simp (disch := omega) only [u, i64, ax, eq_self, if_true, if_false, Nat.reduceAdd, Int.reduceToNat, Int.reduceAdd, tvs, bs]; try refine aA ?_)
        repeat (first | ((first | refine Gs ?_ | refine Gr ?_); simp (disch := omega) only [u, i64, ax, eq_self, if_true, if_false, Nat.reduceAdd, Int.reduceToNat, Int.reduceAdd, tvs, bs]; refine aA ?_) | refine G_seq ?_ | refine G_block ?_ | refine G_condT rfl ?_ | refine G_condF rfl ?_ | refine G_skip ?_ | refine G_ret ?_ | refine G_exit ?_ | refine q_tn ?_ | refine q_tr ?_ | refine q_tx ?_ | refine q_bn ?_ | refine q_br ?_ | refine q_bx ?_ | refine q_by (by decide) ?_)
        ((first | refine Gs ?_ | refine Gr ?_); simp (disch := omega) only [u, i64, ax, eq_self, if_true, if_false, Nat.reduceAdd, Int.reduceToNat, Int.reduceAdd, tvs, bs])
        rw [he]
        (refine cR hSt ?_; simp (disch := omega) only [u, i64, ax, eq_self, if_true, if_false, Nat.reduceAdd, Int.reduceToNat, Int.reduceAdd, tvs, bs]; try refine aA ?_)
        repeat (first | ((first | refine Gs ?_ | refine Gr ?_); simp (disch := omega) only [u, i64, ax, eq_self, if_true, if_false, Nat.reduceAdd, Int.reduceToNat, Int.reduceAdd, tvs, bs]; refine aA ?_) | refine G_seq ?_ | refine G_block ?_ | refine G_condT rfl ?_ | refine G_condF rfl ?_ | refine G_skip ?_ | refine G_ret ?_ | refine G_exit ?_ | refine q_tn ?_ | refine q_tr ?_ | refine q_tx ?_ | refine q_bn ?_ | refine q_br ?_ | refine q_bx ?_ | refine q_by (by decide) ?_)
        ((first | refine Gs ?_ | refine Gr ?_); simp (disch := omega) only [u, i64, ax, eq_self, if_true, if_false, Nat.reduceAdd, Int.reduceToNat, Int.reduceAdd, tvs, bs])
        rw [hsub]
        (refine cR hC ?_; simp (disch := omega) only [u, i64, ax, eq_self, if_true, if_false, Nat.reduceAdd, Int.reduceToNat, Int.reduceAdd, tvs, bs]; try refine aA ?_)
        repeat (first | ((first | refine Gs ?_ | refine Gr ?_); simp (disch := omega) only [u, i64, ax, eq_self, if_true, if_false, Nat.reduceAdd, Int.reduceToNat, Int.reduceAdd, tvs, bs]; refine aA ?_) | refine G_seq ?_ | refine G_block ?_ | refine G_condT rfl ?_ | refine G_condF rfl ?_ | refine G_skip ?_ | refine G_ret ?_ | refine G_exit ?_ | refine q_tn ?_ | refine q_tr ?_ | refine q_tx ?_ | refine q_bn ?_ | refine q_br ?_ | refine q_bx ?_ | refine q_by (by decide) ?_)
        ((first | refine Gs ?_ | refine Gr ?_); simp (disch := omega) only [u, i64, ax, eq_self, if_true, if_false, Nat.reduceAdd, Int.reduceToNat, Int.reduceAdd, tvs, bs])
        (refine cR hU ?_; simp (disch := omega) only [u, i64, ax, eq_self, if_true, if_false, Nat.reduceAdd, Int.reduceToNat, Int.reduceAdd, tvs, bs]; try refine aA ?_)
        repeat (first | ((first | refine Gs ?_ | refine Gr ?_); simp (disch := omega) only [u, i64, ax, eq_self, if_true, if_false, Nat.reduceAdd, Int.reduceToNat, Int.reduceAdd, tvs, bs]; refine aA ?_) | refine G_seq ?_ | refine G_block ?_ | refine G_condT rfl ?_ | refine G_condF rfl ?_ | refine G_skip ?_ | refine G_ret ?_ | refine G_exit ?_ | refine q_tn ?_ | refine q_tr ?_ | refine q_tx ?_ | refine q_bn ?_ | refine q_br ?_ | refine q_bx ?_ | refine q_by (by decide) ?_)
        ((first | refine Gs ?_ | refine Gr ?_); simp (disch := omega) only [u, i64, ax, eq_self, if_true, if_false, Nat.reduceAdd, Int.reduceToNat, Int.reduceAdd, tvs, bs])
        (refine cR hLN ?_; simp (disch := omega) only [u, i64, ax, eq_self, if_true, if_false, Nat.reduceAdd, Int.reduceToNat, Int.reduceAdd, tvs, bs]; try refine aA ?_)
        repeat (first | ((first | refine Gs ?_ | refine Gr ?_); simp (disch := omega) only [u, i64, ax, eq_self, if_true, if_false, Nat.reduceAdd, Int.reduceToNat, Int.reduceAdd, tvs, bs]; refine aA ?_) | refine G_seq ?_ | refine G_block ?_ | refine G_condT rfl ?_ | refine G_condF rfl ?_ | refine G_skip ?_ | refine G_ret ?_ | refine G_exit ?_ | refine q_tn ?_ | refine q_tr ?_ | refine q_tx ?_ | refine q_bn ?_ | refine q_br ?_ | refine q_bx ?_ | refine q_by (by decide) ?_)
        ((first | refine Gs ?_ | refine Gr ?_); simp (disch := omega) only [u, i64, ax, eq_self, if_true, if_false, Nat.reduceAdd, Int.reduceToNat, Int.reduceAdd, tvs, bs])
        (refine cR hM ?_; simp (disch := omega) only [u, i64, ax, eq_self, if_true, if_false, Nat.reduceAdd, Int.reduceToNat, Int.reduceAdd, tvs, bs]; try refine aA ?_)
        repeat (first | ((first | refine Gs ?_ | refine Gr ?_); simp (disch := omega) only [u, i64, ax, eq_self, if_true, if_false, Nat.reduceAdd, Int.reduceToNat, Int.reduceAdd, tvs, bs]; refine aA ?_) | refine G_seq ?_ | refine G_block ?_ | refine G_condT rfl ?_ | refine G_condF rfl ?_ | refine G_skip ?_ | refine G_ret ?_ | refine G_exit ?_ | refine q_tn ?_ | refine q_tr ?_ | refine q_tx ?_ | refine q_bn ?_ | refine q_br ?_ | refine q_bx ?_ | refine q_by (by decide) ?_)
        (refine FinQ hQ (congrArg Array.toList Tryd.results146) _ _ ?_); simp (disch := omega) only [u, i64, ax, if_true, forall_const, reduceCtorEq, implies_true, tvs, bf]
        all_goals rfl
      · rw [if_neg hle]
        refine RetN_start Tryd.func146 (by kernel_rfl) rfl fun Q hQ hQ2 => ?_; rw [Tryd.ntmps146]; simp only [u, i64, Nat.reduceSub, Nat.reduceAdd, bm]
        repeat (first | ((first | refine Gs ?_ | refine Gr ?_); simp (disch := omega) only [u, i64, ax, eq_self, if_true, if_false, Nat.reduceAdd, Int.reduceToNat, Int.reduceAdd, tvs, bs]; refine aA ?_) | refine G_seq ?_ | refine G_block ?_ | refine G_condT rfl ?_ | refine G_condF rfl ?_ | refine G_skip ?_ | refine G_ret ?_ | refine G_exit ?_ | refine q_tn ?_ | refine q_tr ?_ | refine q_tx ?_ | refine q_bn ?_ | refine q_br ?_ | refine q_bx ?_ | refine q_by (by decide) ?_)
        ((first | refine Gs ?_ | refine Gr ?_); simp (disch := omega) only [u, i64, ax, eq_self, if_true, if_false, Nat.reduceAdd, Int.reduceToNat, Int.reduceAdd, tvs, bs])
        (refine cR hR ?_; simp (disch := omega) only [u, i64, ax, eq_self, if_true, if_false, Nat.reduceAdd, Int.reduceToNat, Int.reduceAdd, tvs, bs]; try refine aA ?_)
        repeat (first | ((first | refine Gs ?_ | refine Gr ?_); simp (disch := omega) only [u, i64, ax, eq_self, if_true, if_false, Nat.reduceAdd, Int.reduceToNat, Int.reduceAdd, tvs, bs]; refine aA ?_) | refine G_seq ?_ | refine G_block ?_ | refine G_condT rfl ?_ | refine G_condF rfl ?_ | refine G_skip ?_ | refine G_ret ?_ | refine G_exit ?_ | refine q_tn ?_ | refine q_tr ?_ | refine q_tx ?_ | refine q_bn ?_ | refine q_br ?_ | refine q_bx ?_ | refine q_by (by decide) ?_)
        ((first | refine Gs ?_ | refine Gr ?_); simp (disch := omega) only [u, i64, ax, eq_self, if_true, if_false, Nat.reduceAdd, Int.reduceToNat, Int.reduceAdd, tvs, bs])
        (refine cR hL ?_; simp (disch := omega) only [u, i64, ax, eq_self, if_true, if_false, Nat.reduceAdd, Int.reduceToNat, Int.reduceAdd, tvs, bs]; try refine aA ?_)
        repeat (first | ((first | refine Gs ?_ | refine Gr ?_); simp (disch := omega) only [u, i64, ax, eq_self, if_true, if_false, Nat.reduceAdd, Int.reduceToNat, Int.reduceAdd, tvs, bs]; refine aA ?_) | refine G_seq ?_ | refine G_block ?_ | refine G_condT rfl ?_ | refine G_condF rfl ?_ | refine G_skip ?_ | refine G_ret ?_ | refine G_exit ?_ | refine q_tn ?_ | refine q_tr ?_ | refine q_tx ?_ | refine q_bn ?_ | refine q_br ?_ | refine q_bx ?_ | refine q_by (by decide) ?_)
        ((first | refine Gs ?_ | refine Gr ?_); simp (disch := omega) only [u, i64, ax, eq_self, if_true, if_false, Nat.reduceAdd, Int.reduceToNat, Int.reduceAdd, tvs, bs])
        rw [he]
        (refine cR hSt ?_; simp (disch := omega) only [u, i64, ax, eq_self, if_true, if_false, Nat.reduceAdd, Int.reduceToNat, Int.reduceAdd, tvs, bs]; try refine aA ?_)
        repeat (first | ((first | refine Gs ?_ | refine Gr ?_); simp (disch := omega) only [u, i64, ax, eq_self, if_true, if_false, Nat.reduceAdd, Int.reduceToNat, Int.reduceAdd, tvs, bs]; refine aA ?_) | refine G_seq ?_ | refine G_block ?_ | refine G_condT rfl ?_ | refine G_condF rfl ?_ | refine G_skip ?_ | refine G_ret ?_ | refine G_exit ?_ | refine q_tn ?_ | refine q_tr ?_ | refine q_tx ?_ | refine q_bn ?_ | refine q_br ?_ | refine q_bx ?_ | refine q_by (by decide) ?_)
        ((first | refine Gs ?_ | refine Gr ?_); simp (disch := omega) only [u, i64, ax, eq_self, if_true, if_false, Nat.reduceAdd, Int.reduceToNat, Int.reduceAdd, tvs, bs])
        rw [hsub]
        (refine cR hC ?_; simp (disch := omega) only [u, i64, ax, eq_self, if_true, if_false, Nat.reduceAdd, Int.reduceToNat, Int.reduceAdd, tvs, bs]; try refine aA ?_)
        repeat (first | ((first | refine Gs ?_ | refine Gr ?_); simp (disch := omega) only [u, i64, ax, eq_self, if_true, if_false, Nat.reduceAdd, Int.reduceToNat, Int.reduceAdd, tvs, bs]; refine aA ?_) | refine G_seq ?_ | refine G_block ?_ | refine G_condT rfl ?_ | refine G_condF rfl ?_ | refine G_skip ?_ | refine G_ret ?_ | refine G_exit ?_ | refine q_tn ?_ | refine q_tr ?_ | refine q_tx ?_ | refine q_bn ?_ | refine q_br ?_ | refine q_bx ?_ | refine q_by (by decide) ?_)
        ((first | refine Gs ?_ | refine Gr ?_); simp (disch := omega) only [u, i64, ax, eq_self, if_true, if_false, Nat.reduceAdd, Int.reduceToNat, Int.reduceAdd, tvs, bs])
        (refine cR hU ?_; simp (disch := omega) only [u, i64, ax, eq_self, if_true, if_false, Nat.reduceAdd, Int.reduceToNat, Int.reduceAdd, tvs, bs]; try refine aA ?_)
        repeat (first | ((first | refine Gs ?_ | refine Gr ?_); simp (disch := omega) only [u, i64, ax, eq_self, if_true, if_false, Nat.reduceAdd, Int.reduceToNat, Int.reduceAdd, tvs, bs]; refine aA ?_) | refine G_seq ?_ | refine G_block ?_ | refine G_condT rfl ?_ | refine G_condF rfl ?_ | refine G_skip ?_ | refine G_ret ?_ | refine G_exit ?_ | refine q_tn ?_ | refine q_tr ?_ | refine q_tx ?_ | refine q_bn ?_ | refine q_br ?_ | refine q_bx ?_ | refine q_by (by decide) ?_)
        ((first | refine Gs ?_ | refine Gr ?_); simp (disch := omega) only [u, i64, ax, eq_self, if_true, if_false, Nat.reduceAdd, Int.reduceToNat, Int.reduceAdd, tvs, bs])
        (refine cR hLN ?_; simp (disch := omega) only [u, i64, ax, eq_self, if_true, if_false, Nat.reduceAdd, Int.reduceToNat, Int.reduceAdd, tvs, bs]; try refine aA ?_)
        repeat (first | ((first | refine Gs ?_ | refine Gr ?_); simp (disch := omega) only [u, i64, ax, eq_self, if_true, if_false, Nat.reduceAdd, Int.reduceToNat, Int.reduceAdd, tvs, bs]; refine aA ?_) | refine G_seq ?_ | refine G_block ?_ | refine G_condT rfl ?_ | refine G_condF rfl ?_ | refine G_skip ?_ | refine G_ret ?_ | refine G_exit ?_ | refine q_tn ?_ | refine q_tr ?_ | refine q_tx ?_ | refine q_bn ?_ | refine q_br ?_ | refine q_bx ?_ | refine q_by (by decide) ?_)
        ((first | refine Gs ?_ | refine Gr ?_); simp (disch := omega) only [u, i64, ax, eq_self, if_true, if_false, Nat.reduceAdd, Int.reduceToNat, Int.reduceAdd, tvs, bs])
        (refine cR hM ?_; simp (disch := omega) only [u, i64, ax, eq_self, if_true, if_false, Nat.reduceAdd, Int.reduceToNat, Int.reduceAdd, tvs, bs]; try refine aA ?_)
        repeat (first | ((first | refine Gs ?_ | refine Gr ?_); simp (disch := omega) only [u, i64, ax, eq_self, if_true, if_false, Nat.reduceAdd, Int.reduceToNat, Int.reduceAdd, tvs, bs]; refine aA ?_) | refine G_seq ?_ | refine G_block ?_ | refine G_condT rfl ?_ | refine G_condF rfl ?_ | refine G_skip ?_ | refine G_ret ?_ | refine G_exit ?_ | refine q_tn ?_ | refine q_tr ?_ | refine q_tx ?_ | refine q_bn ?_ | refine q_br ?_ | refine q_bx ?_ | refine q_by (by decide) ?_)
        (refine FinQ hQ (congrArg Array.toList Tryd.results146) _ _ ?_); simp (disch := omega) only [u, i64, ax, if_true, forall_const, reduceCtorEq, implies_true, tvs, bf]
        all_goals rfl
end Go.Proofs
