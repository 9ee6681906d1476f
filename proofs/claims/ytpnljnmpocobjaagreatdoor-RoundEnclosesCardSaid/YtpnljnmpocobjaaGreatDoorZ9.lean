/-
  Plain lemmas, with no program in sight.
-/
import Derived.Test.YtpnljnmpocobjaaGreatDoorX6
import Derived.Shelf.Spec.TrailingZeros
import Derived.Test.YtpnljnmpocobjaaGreatDoorX8
set_option linter.unusedVariables false
set_option linter.unusedSimpArgs false
namespace Go.Proofs
open Go.Ax
/-- Which of two numbers is greater, as an int. -/
def cmpI (a b : Nat) : Int := if a < b then -1 else if b < a then 1 else 0
/-- The length in bits. -/
def bl (n : Nat) : Nat := if n = 0 then 0 else n.log2 + 1
/-- How many bits at the low end are 0. -/
def tz (n : Nat) : Nat := if n = 0 then 0 else Lib.ctzFrom (n.log2 + 1) n
theorem bl_eq {n k : Nat} (h1 : 2 ^ k ≤ n) (h2 : n < 2 ^ (k + 1)) : bl n = k + 1 := by
  have hp : 0 < 2 ^ k := Nat.two_pow_pos k
  unfold bl
  rw [if_neg (by omega), (Nat.log2_eq_iff (by omega)).2 ⟨h1, h2⟩]
theorem bl_spec {n : Nat} (h : n ≠ 0) : 2 ^ (bl n - 1) ≤ n ∧ n < 2 ^ bl n ∧ 1 ≤ bl n := by
  unfold bl
  rw [if_neg h]
  exact ⟨by simpa using Nat.log2_self_le h, Nat.lt_log2_self, by omega⟩
theorem bl_le {n k : Nat} (h : n < 2 ^ k) : bl n ≤ k := by
  by_cases h0 : n = 0
  · subst h0; simp [bl]
  · have := (bl_spec h0).1
    rcases Nat.lt_or_ge k (bl n) with hk | hk
    · have h3 : 2 ^ k ≤ 2 ^ (bl n - 1) := Nat.pow_le_pow_right (by decide) (by omega)
      omega
    · exact hk
theorem ctzFrom_of : ∀ (k f m : Nat), k < f → Lib.ctzFrom f (2 ^ k * (2 * m + 1)) = k
  | 0, 0, m, h => by omega
  | 0, f + 1, m, h => by unfold Lib.ctzFrom; rw [if_pos (by omega)]
  | k + 1, 0, m, h => by omega
  | k + 1, f + 1, m, h => by
    unfold Lib.ctzFrom
    have e : 2 ^ (k + 1) * (2 * m + 1) = 2 * (2 ^ k * (2 * m + 1)) := by rw [Nat.pow_succ, Nat.mul_comm (2 ^ k) 2, Nat.mul_assoc]
    rw [if_neg (by omega), e, Nat.mul_div_cancel_left _ (by decide), ctzFrom_of k f m (by omega), Nat.add_comm]
theorem tz_of (k m : Nat) : tz (2 ^ k * (2 * m + 1)) = k := by
  have hp : 0 < 2 ^ k * (2 * m + 1) := Nat.mul_pos (Nat.two_pow_pos k) (by omega)
  unfold tz
  rw [if_neg (by omega)]
  refine ctzFrom_of k _ m ?_
  have : k ≤ (2 ^ k * (2 * m + 1)).log2 := (Nat.le_log2 (by omega)).2 (Nat.le_mul_of_pos_right _ (by omega))
  omega
theorem tz_spec {n : Nat} (h : n ≠ 0) : ∃ m, n = 2 ^ tz n * (2 * m + 1) := by
  obtain ⟨m, h1, _⟩ := Lib.ctzFrom_spec (n.log2 + 1) n (by omega) Nat.lt_log2_self
  refine ⟨m, ?_⟩
  unfold tz
  rw [if_neg h]; exact h1
/-- What a remainder is: nothing, less than a half, a half, more. -/
def restC (x d : Nat) : Nat := if x = 0 then 0 else if 2 * x < d then 1 else if 2 * x = d then 2 else 3
/-- Does the last digit become greater by 1? -/
def moreF (r : Nat) (neg odd : Bool) (x : Nat) : Bool :=
  if r = 0 then decide (x = 3) || (decide (x = 2) && odd) else if r = 1 then decide (2 ≤ x) else if r = 2 then false else if r = 3 then decide (0 < x) && !neg else decide (0 < x) && neg
/-- A quotient, rounded to an integer. -/
def quoN (r : Nat) (neg : Bool) (n d : Nat) : Nat := n / d + if moreF r neg (decide (n / d % 2 = 1)) (restC (n % d) d) = true then 1 else 0
theorem quoN_scale (r : Nat) (neg : Bool) (g n d : Nat) (hg : 0 < g) : quoN r neg (g * n) (g * d) = quoN r neg n d ∧ decide (g * n % (g * d) = 0) = decide (n % d = 0) := by
  have e1 : g * n / (g * d) = n / d := Nat.mul_div_mul_left n d hg
  have e2 : g * n % (g * d) = g * (n % d) := Nat.mul_mod_mul_left g n d
  have e3 : restC (g * (n % d)) (g * d) = restC (n % d) d := by
    unfold restC
    rw [Nat.mul_left_comm 2]
    have h1 : g * (n % d) = 0 ↔ n % d = 0 := by rw [Nat.mul_eq_zero]; omega
    have h2 : g * (2 * (n % d)) < g * d ↔ 2 * (n % d) < d := Nat.mul_lt_mul_left hg
    have h3 : g * (2 * (n % d)) = g * d ↔ 2 * (n % d) = d := Nat.mul_right_inj (by omega)
    simp only [h1, h2, h3]
  unfold quoN
  rw [e1, e2, e3]
  refine ⟨rfl, ?_⟩
  congr 1
  exact propext (by rw [Nat.mul_eq_zero]; omega)
end Go.Proofs
set_option linter.unusedVariables false
namespace Go.Proofs
open Go.Ax
/-- 2^e is at most n / d. -/
def ge2 (n d : Nat) (e : Int) : Prop := d * 2 ^ e.toNat ≤ n * 2 ^ (-e).toNat
instance (n d : Nat) (e : Int) : Decidable (ge2 n d e) := by unfold ge2; infer_instance
theorem pow_le_iff (a b k : Nat) : a * 2 ^ k ≤ b * 2 ^ k ↔ a ≤ b := Nat.mul_le_mul_right_iff (Nat.two_pow_pos k)
theorem ge2_iff {n d : Nat} {e : Int} (K : Nat) (h : 0 ≤ e + K) : ge2 n d e ↔ d * 2 ^ (e + K).toNat ≤ n * 2 ^ K := by
  unfold ge2
  rw [← pow_le_iff _ _ (K - (-e).toNat), Nat.mul_assoc, Nat.mul_assoc, ← Nat.pow_add, ← Nat.pow_add, show e.toNat + (K - (-e).toNat) = (e + K).toNat by omega, show (-e).toNat + (K - (-e).toNat) = K by omega]
theorem ge2_mono {n d : Nat} {e f : Int} (hef : e ≤ f) (h : ge2 n d f) : ge2 n d e := by
  obtain ⟨K, hK⟩ : ∃ K : Nat, 0 ≤ e + K := ⟨(-e).toNat, by omega⟩
  rw [ge2_iff K hK]
  rw [ge2_iff K (by omega)] at h
  exact Nat.le_trans (Nat.mul_le_mul_left _ (Nat.pow_le_pow_right (by decide) (by omega))) h
/-- The e with 2^e <= n / d < 2^(e+1). -/
def lg (n d : Nat) : Int := if n * 2 ^ (-((bl n : Int) - bl d)).toNat < d * 2 ^ ((bl n : Int) - bl d).toNat then (bl n : Int) - bl d - 1 else (bl n : Int) - bl d
theorem lg_spec {n d : Nat} (hn : n ≠ 0) (hd : d ≠ 0) : ge2 n d (lg n d) ∧ ¬ ge2 n d (lg n d + 1) := by
  obtain ⟨n1, n2, n3⟩ := bl_spec hn
  obtain ⟨d1, d2, d3⟩ := bl_spec hd
  have a1 : ge2 n d ((bl n : Int) - bl d - 1) := by
    rw [ge2_iff (bl d + 1) (by omega), show ((bl n : Int) - bl d - 1 + (bl d + 1 : Nat)).toNat = bl n - 1 + 1 by omega]
    rw [Nat.pow_succ, Nat.pow_succ, ← Nat.mul_assoc, ← Nat.mul_assoc, Nat.mul_comm n, Nat.mul_comm d]
    refine Nat.mul_le_mul_right _ ?_
    rw [Nat.mul_comm]
    exact Nat.mul_le_mul (Nat.le_of_lt d2) n1
  have a2 : ¬ ge2 n d ((bl n : Int) - bl d + 1) := by
    rw [ge2_iff (bl d) (by omega), show ((bl n : Int) - bl d + 1 + (bl d : Nat)).toNat = bl n + 1 by omega, Nat.not_le]
    calc n * 2 ^ bl d < 2 ^ bl n * 2 ^ bl d := Nat.mul_lt_mul_of_pos_right n2 (Nat.two_pow_pos _)
      _ = 2 ^ (bl d - 1) * 2 ^ (bl n + 1) := by rw [← Nat.pow_add, ← Nat.pow_add]; congr 1; omega
      _ ≤ d * 2 ^ (bl n + 1) := Nat.mul_le_mul_right _ d1
  unfold lg
  split
  · rename_i h
    refine ⟨a1, ?_⟩
    rw [Int.sub_add_cancel]
    unfold ge2
    omega
  · rename_i h
    exact ⟨by unfold ge2; omega, a2⟩
theorem lg_uniq {n d : Nat} {e : Int} (hn : n ≠ 0) (hd : d ≠ 0) (h1 : ge2 n d e) (h2 : ¬ ge2 n d (e + 1)) : lg n d = e := by
  obtain ⟨a1, a2⟩ := lg_spec hn hd
  rcases Int.lt_trichotomy (lg n d) e with h | h | h
  · exact absurd (ge2_mono (by omega) h1) a2
  · exact h
  · exact absurd (ge2_mono (by omega) a1) h2
/-- The logarithm of a quotient of what is multiplied first. -/
theorem lg_quo {n d : Nat} (s : Nat) (hn : n ≠ 0) (hd : d ≠ 0) (h : d ≤ n * 2 ^ s) : lg n d = (bl (n * 2 ^ s / d) : Int) - 1 - s := by
  have hd' := Nat.pos_of_ne_zero hd
  have hq : n * 2 ^ s / d ≠ 0 := by
    have := Nat.div_pos h hd'
    omega
  obtain ⟨q1, q2, q3⟩ := bl_spec hq
  refine lg_uniq hn hd ?_ ?_
  · rw [ge2_iff s (by omega), show ((bl (n * 2 ^ s / d) : Int) - 1 - s + s).toNat = bl (n * 2 ^ s / d) - 1 by omega]
    rw [Nat.le_div_iff_mul_le hd'] at q1
    rwa [Nat.mul_comm]
  · rw [ge2_iff s (by omega), show ((bl (n * 2 ^ s / d) : Int) - 1 - s + 1 + s).toNat = bl (n * 2 ^ s / d) by omega]
    rw [Nat.div_lt_iff_lt_mul hd'] at q2
    rw [Nat.mul_comm]
    omega
def cutC (q t : Nat) (sticky : Bool) : Nat :=
  if q / 2 ^ (t - 1) % 2 = 1 then (if (sticky || decide (q % 2 ^ (t - 1) ≠ 0)) = true then 3 else 2) else (if (sticky || decide (q % 2 ^ (t - 1) ≠ 0)) = true then 1 else 0)
theorem cut_eq (n d t : Nat) (hd : 0 < d) (ht : 0 < t) : cutC (n / d) t (decide (n % d ≠ 0)) = restC (n % (d * 2 ^ t)) (d * 2 ^ t) ∧ n / d / 2 ^ t = n / (d * 2 ^ t) := by
  refine ⟨?_, Nat.div_div_eq_div_mul _ _ _⟩
  obtain ⟨s, rfl⟩ : ∃ s, t = s + 1 := ⟨t - 1, by omega⟩
  have hx : n % (d * 2 ^ (s + 1)) = n % d + d * (n / d % 2 ^ (s + 1)) := Nat.mod_mul
  have hy : n / d % (2 ^ (s + 1)) = n / d % 2 ^ s + 2 ^ s * (n / d / 2 ^ s % 2) := by rw [Nat.pow_succ]; exact Nat.mod_mul
  have hl := Nat.mod_lt (n / d) (Nat.two_pow_pos s)
  have hr := Nat.mod_lt n hd
  unfold cutC
  rw [Nat.add_sub_cancel, hx, hy]
  have hp := Nat.two_pow_pos s
  have hb : n / d / 2 ^ s % 2 = 0 ∨ n / d / 2 ^ s % 2 = 1 := by omega
  rw [Nat.pow_succ]
  generalize n / d / 2 ^ s % 2 = b at *
  generalize n / d % 2 ^ s = l at *
  generalize n % d = r at *
  generalize 2 ^ s = h at *
  have h1 : d * l + d ≤ d * h := by rw [← Nat.mul_succ]; exact Nat.mul_le_mul_left _ hl
  have h2 : d * l = 0 ↔ l = 0 := by rw [Nat.mul_eq_zero]; omega
  have h3 : d * (h * 2) = 2 * (d * h) := by rw [← Nat.mul_assoc, Nat.mul_comm]
  unfold restC
  rcases hb with rfl | rfl
  · rw [Nat.mul_zero, Nat.add_zero, if_neg (by decide), h3]
    by_cases h0 : r = 0 ∧ l = 0
    · obtain ⟨rfl, rfl⟩ := h0
      simp
    · rw [if_pos, if_neg (by omega), if_pos (by omega)]
      by_cases hr0 : r = 0
      · rw [Bool.or_eq_true]; right; exact decT (by omega)
      · rw [Bool.or_eq_true]; left; exact decT hr0
  · rw [Nat.mul_one, if_pos rfl, h3, Nat.mul_add]
    have h4 : 0 < d * h := Nat.mul_pos hd hp
    by_cases h0 : r = 0 ∧ l = 0
    · obtain ⟨rfl, rfl⟩ := h0
      rw [if_neg (by simp), if_neg (by simp; omega), if_neg (by simp), if_pos (by simp)]
    · rw [if_pos, if_neg (by omega), if_neg (by omega), if_neg (by omega)]
      by_cases hr0 : r = 0
      · rw [Bool.or_eq_true]; right; exact decT (by omega)
      · rw [Bool.or_eq_true]; left; exact decT hr0
end Go.Proofs
set_option linter.unusedVariables false
namespace Go.Proofs
open Go.Ax
structure FV where
  kind : Nat
  neg : Bool
  exp : Int
  mag : Nat
/-- The value mag 2^exp as a canonical float. -/
def mkF (neg : Bool) (N : Nat) (s : Int) : FV := if N = 0 then ⟨0, neg, 0, 0⟩ else ⟨1, neg, s + tz N, N / 2 ^ tz N⟩
def topF (p : Nat) (G : Int) (neg : Bool) : FV := ⟨1, neg, G - p + 1, 2 ^ p - 1⟩
def infF (neg : Bool) : FV := ⟨2, neg, 0, 0⟩
/-- Does what is too great become the greatest number? -/
def grtF (r : Nat) (neg : Bool) : Bool := decide (r = 2) || (decide (r = 3) && neg) || (decide (r = 4) && !neg)
def overF (p : Nat) (G : Int) (r : Nat) (neg : Bool) : FV := if grtF r neg = true then topF p G neg else infF neg
/-- The step at numbers from 2^e on. -/
def stpF (p : Nat) (G e : Int) : Int := if e < 1 - G then 1 - G - (p - 1) else e - p + 1
theorem stpF_max (p : Nat) (G e : Int) : stpF p G e = max e (1 - G) - p + 1 := by unfold stpF; split <;> omega
def nu (n : Nat) (s : Int) : Nat := n * 2 ^ (-s).toNat
def de (d : Nat) (s : Int) : Nat := d * 2 ^ s.toNat
/-- A positive fraction with a sign, rounded. -/
def rndF (p : Nat) (G : Int) (r : Nat) (neg : Bool) (n d : Nat) : FV × Nat :=
  if G < bl (quoN r neg (nu n (stpF p G (lg n d))) (de d (stpF p G (lg n d)))) + stpF p G (lg n d) - 1 then (overF p G r neg, 5)
  else (mkF neg (quoN r neg (nu n (stpF p G (lg n d))) (de d (stpF p G (lg n d)))) (stpF p G (lg n d)),
    if nu n (stpF p G (lg n d)) % de d (stpF p G (lg n d)) = 0 then 0 else if lg n d < 1 - G then 3 else 1)
theorem nu_scale (n d : Nat) (s : Int) (K : Nat) (h : 0 ≤ s + K) : nu n s * 2 ^ (K - (-s).toNat) = n * 2 ^ K ∧ de d s * 2 ^ (K - (-s).toNat) = d * 2 ^ (s + K).toNat := by
  unfold nu de
  rw [Nat.mul_assoc, Nat.mul_assoc, ← Nat.pow_add, ← Nat.pow_add]
  exact ⟨by congr 2; omega, by congr 2; omega⟩
theorem quo_nu (r : Nat) (neg : Bool) (n d : Nat) (s : Int) (K : Nat) (h : 0 ≤ s + K) : quoN r neg (n * 2 ^ K) (d * 2 ^ (s + K).toNat) = quoN r neg (nu n s) (de d s) ∧ decide (n * 2 ^ K % (d * 2 ^ (s + K).toNat) = 0) = decide (nu n s % de d s = 0) := by
  obtain ⟨h1, h2⟩ := nu_scale n d s K h
  rw [← h1, ← h2, Nat.mul_comm (nu n s), Nat.mul_comm (de d s)]
  exact quoN_scale r neg _ _ _ (Nat.two_pow_pos _)
theorem moreF_zero (r : Nat) (neg odd : Bool) : moreF r neg odd 0 = false := by
  unfold moreF
  split
  · simp
  · split
    · simp
    · split
      · rfl
      · split <;> simp
/-- What the program does after its division. -/
def finF (p : Nat) (G : Int) (r : Nat) (neg : Bool) (q : Nat) (exp : Int) (sticky : Bool) : FV × Nat :=
  let e := exp + bl q - 1
  let u := stpF p G e
  let t := (u - exp).toNat
  let x := cutC q t sticky
  let N := q / 2 ^ t + if moreF r neg (decide (q / 2 ^ t % 2 = 1)) x = true then 1 else 0
  if G < u + bl N - 1 then (overF p G r neg, 5) else (mkF neg N u, if x = 0 then 0 else if e < 1 - G then 3 else 1)
/-- The shift ahead of the division. -/
def preS (p n d : Nat) : Nat := ((p : Int) + 3 - bl n + bl d).toNat
theorem preS_facts (p n d : Nat) (hn : n ≠ 0) (hd : d ≠ 0) : d ≤ n * 2 ^ preS p n d ∧ p + 3 ≤ bl (n * 2 ^ preS p n d / d) := by
  obtain ⟨n1, n2, n3⟩ := bl_spec hn
  obtain ⟨d1, d2, d3⟩ := bl_spec hd
  have key : d * 2 ^ (p + 2) ≤ n * 2 ^ preS p n d := by
    calc d * 2 ^ (p + 2) ≤ 2 ^ bl d * 2 ^ (p + 2) := Nat.mul_le_mul_right _ (Nat.le_of_lt d2)
      _ = 2 ^ (bl d + (p + 2)) := (Nat.pow_add ..).symm
      _ ≤ 2 ^ (bl n - 1 + preS p n d) := Nat.pow_le_pow_right (by decide) (by unfold preS; omega)
      _ = 2 ^ (bl n - 1) * 2 ^ preS p n d := Nat.pow_add ..
      _ ≤ n * 2 ^ preS p n d := Nat.mul_le_mul_right _ n1
  have hd' := Nat.pos_of_ne_zero hd
  refine ⟨Nat.le_trans (Nat.le_mul_of_pos_right _ (Nat.two_pow_pos _)) key, ?_⟩
  have h2 : 2 ^ (p + 2) ≤ n * 2 ^ preS p n d / d := (Nat.le_div_iff_mul_le hd').2 (by rw [Nat.mul_comm]; exact key)
  rcases Nat.lt_or_ge (bl (n * 2 ^ preS p n d / d)) (p + 3) with h | h
  · have h0 : n * 2 ^ preS p n d / d ≠ 0 := by
      have := Nat.two_pow_pos (p + 2)
      omega
    have := (bl_spec h0).2.1
    have h3 : 2 ^ bl (n * 2 ^ preS p n d / d) ≤ 2 ^ (p + 2) := Nat.pow_le_pow_right (by decide) (by omega)
    omega
  · exact h
theorem finF_eq (p : Nat) (G : Int) (r : Nat) (neg : Bool) (n d : Nat) (hp : 2 ≤ p) (hn : n ≠ 0) (hd : d ≠ 0) :
    finF p G r neg (n * 2 ^ preS p n d / d) (-(preS p n d : Int)) (decide (n * 2 ^ preS p n d % d ≠ 0)) = rndF p G r neg n d := by
  obtain ⟨h1, h2⟩ := preS_facts p n d hn hd
  have hl := lg_quo (preS p n d) hn hd h1
  have he : -(preS p n d : Int) + bl (n * 2 ^ preS p n d / d) - 1 = lg n d := by omega
  unfold finF rndF
  simp only [he]
  have hu : lg n d - p + 1 ≤ stpF p G (lg n d) := by rw [stpF_max]; omega
  have hK : 0 ≤ stpF p G (lg n d) + (preS p n d : Nat) := by omega
  have ht : (stpF p G (lg n d) - -(preS p n d : Int)).toNat = (stpF p G (lg n d) + (preS p n d : Nat)).toNat := by omega
  rw [ht]
  obtain ⟨c1, c2⟩ := cut_eq (n * 2 ^ preS p n d) d (stpF p G (lg n d) + (preS p n d : Nat)).toNat (Nat.pos_of_ne_zero hd) (by omega)
  obtain ⟨q1, q2⟩ := quo_nu r neg n d (stpF p G (lg n d)) (preS p n d) hK
  rw [c1, c2]
  have hN : (n * 2 ^ preS p n d / (d * 2 ^ (stpF p G (lg n d) + (preS p n d : Nat)).toNat) + if moreF r neg (decide (n * 2 ^ preS p n d / (d * 2 ^ (stpF p G (lg n d) + (preS p n d : Nat)).toNat) % 2 = 1)) (restC (n * 2 ^ preS p n d % (d * 2 ^ (stpF p G (lg n d) + (preS p n d : Nat)).toNat)) (d * 2 ^ (stpF p G (lg n d) + (preS p n d : Nat)).toNat)) = true then 1 else 0) = quoN r neg (nu n (stpF p G (lg n d))) (de d (stpF p G (lg n d))) := q1
  rw [hN]
  have hx : restC (n * 2 ^ preS p n d % (d * 2 ^ (stpF p G (lg n d) + (preS p n d : Nat)).toNat)) (d * 2 ^ (stpF p G (lg n d) + (preS p n d : Nat)).toNat) = 0 ↔ nu n (stpF p G (lg n d)) % de d (stpF p G (lg n d)) = 0 := by
    have h3 := decide_eq_decide.1 q2
    rw [← h3]
    unfold restC
    constructor
    · intro h
      split at h
      · assumption
      · split at h
        · cases h
        · split at h <;> cases h
    · intro h; rw [if_pos h]
  simp only [hx]
  rw [Int.add_comm (stpF p G (lg n d)) (bl _ : Int)]
theorem quoN_ge (r : Nat) (neg : Bool) (n d : Nat) : n / d ≤ quoN r neg n d := Nat.le_add_right _ _
theorem de_pos {d : Nat} (s : Int) (hd : 0 < d) : 0 < de d s := Nat.mul_pos hd (Nat.two_pow_pos _)
/-- Where the exponent of the step is that of the precision, the quotient has as many digits. -/
theorem rnd_big (r : Nat) (neg : Bool) (n d : Nat) (hn : n ≠ 0) (hd : d ≠ 0) (k : Nat) (s : Int) (hs : s + k = lg n d) : 2 ^ k ≤ nu n s / de d s := by
  have hd' := Nat.pos_of_ne_zero hd
  obtain ⟨h1, _⟩ := lg_spec hn hd
  rw [Nat.le_div_iff_mul_le (de_pos _ hd')]
  obtain ⟨K, hK⟩ : ∃ K : Nat, 0 ≤ s + K := ⟨(-s).toNat, by omega⟩
  obtain ⟨n1, n2⟩ := nu_scale n d s K hK
  rw [ge2_iff K (by omega)] at h1
  rw [← pow_le_iff _ _ (K - (-s).toNat), Nat.mul_assoc, n1, n2]
  refine Nat.le_trans (Nat.le_of_eq ?_) h1
  rw [Nat.mul_left_comm, ← Nat.pow_add]
  congr 2
  omega
theorem bl_ge {n k : Nat} (h : 2 ^ k ≤ n) : k + 1 ≤ bl n := by
  have h0 : n ≠ 0 := by have := Nat.two_pow_pos k; omega
  have := (bl_spec h0).2.1
  rcases Nat.lt_or_ge (bl n) (k + 1) with h1 | h1
  · have h3 : 2 ^ bl n ≤ 2 ^ k := Nat.pow_le_pow_right (by decide) (by omega)
    omega
  · exact h1
end Go.Proofs
set_option linter.unusedVariables false
namespace Go.Proofs
open Go.Ax
theorem bl_mul (m k : Nat) (h : m ≠ 0) : bl (m * 2 ^ k) = bl m + k := by
  obtain ⟨h1, h2, h3⟩ := bl_spec h
  have := bl_eq (n := m * 2 ^ k) (k := bl m - 1 + k) (by rw [Nat.pow_add]; exact Nat.mul_le_mul_right _ h1) (by
    rw [show bl m - 1 + k + 1 = bl m + k by omega, Nat.pow_add]; exact Nat.mul_lt_mul_of_pos_right h2 (Nat.two_pow_pos k))
  omega
theorem tz_mul (m k : Nat) : tz ((2 * m + 1) * 2 ^ k) = k := by rw [Nat.mul_comm]; exact tz_of k m
theorem mkF_odd (neg : Bool) (k j : Nat) (s : Int) : mkF neg ((2 * k + 1) * 2 ^ j) s = ⟨1, neg, s + j, 2 * k + 1⟩ := by
  unfold mkF
  rw [if_neg (Nat.ne_of_gt (Nat.mul_pos (by omega) (Nat.two_pow_pos j))), tz_mul, Nat.mul_div_cancel _ (Nat.two_pow_pos j)]
theorem quoN_exact (r : Nat) (neg : Bool) (q d : Nat) (hd : 0 < d) : quoN r neg (q * d) d = q := by
  unfold quoN restC
  rw [Nat.mul_mod_left, if_pos rfl, moreF_zero, Nat.mul_div_cancel _ hd, if_neg (by decide), Nat.add_zero]
end Go.Proofs
set_option linter.unusedVariables false
namespace Go.Proofs
open Go.Ax
def popF : Nat → Nat → Nat
  | 0, _ => 0
  | f + 1, n => n % 2 + popF f (n / 2)
def pop (n : Nat) : Nat := popF (bl n) n
theorem bl_lt (n : Nat) : n < 2 ^ bl n := by
  by_cases h : n = 0
  · subst h; decide
  · exact (bl_spec h).2.1
theorem tz_step (n : Nat) : (if n = 0 then 0 else tz n) = if n % 2 = 1 then 0 else (if n / 2 = 0 then 0 else 1 + tz (n / 2)) := by
  by_cases h : n = 0
  · subst h; rfl
  · rw [if_neg h]
    by_cases ho : n % 2 = 1
    · rw [if_pos ho]
      have := tz_of 0 (n / 2)
      rw [show 2 ^ 0 * (2 * (n / 2) + 1) = n by omega] at this
      exact this
    · rw [if_neg ho, if_neg (by omega)]
      obtain ⟨m, hm⟩ := tz_spec (n := n / 2) (by omega)
      generalize tz (n / 2) = k at *
      have := tz_of (k + 1) m
      rw [Nat.pow_succ, Nat.mul_comm (2 ^ k) 2, Nat.mul_assoc, ← hm, show 2 * (n / 2) = n by omega] at this
      omega
/-- The bits from i on: the lowest one that is 1, and how many are. -/
def bitsI (n L i : Nat) : Nat × Nat := (if n / 2 ^ i = 0 then 0 else i + tz (n / 2 ^ i), popF (L - i) (n / 2 ^ i))
theorem bitsI_top (n : Nat) : bitsI n (bl n) (bl n) = (0, 0) := by
  unfold bitsI
  rw [Nat.div_eq_of_lt (bl_lt n), Nat.sub_self]
  rfl
theorem bitsI_step (n L i : Nat) (h : i < L) : bitsI n L i = if n / 2 ^ i % 2 = 1 then (i, (bitsI n L (i + 1)).2 + 1) else bitsI n L (i + 1) := by
  have e : n / 2 ^ i / 2 = n / 2 ^ (i + 1) := by rw [Nat.div_div_eq_div_mul, Nat.pow_succ]
  have hs := tz_step (n / 2 ^ i)
  unfold bitsI
  rw [show L - i = L - (i + 1) + 1 by omega]
  simp only [popF, ← e]
  by_cases ho : n / 2 ^ i % 2 = 1
  · rw [if_pos ho] at hs ⊢
    rw [if_neg (by omega)] at hs ⊢
    rw [hs, ho, Nat.add_comm 1]
    rfl
  · rw [if_neg ho] at hs ⊢
    rw [show n / 2 ^ i % 2 = 0 by omega, Nat.zero_add]
    congr 1
    by_cases h0 : n / 2 ^ i = 0
    · rw [h0]; rfl
    · rw [if_neg h0] at hs ⊢
      rw [if_neg (by omega)] at hs ⊢
      omega
theorem bitsI_zero (n : Nat) (h : n ≠ 0) : bitsI n (bl n) 0 = (tz n, pop n) := by
  unfold bitsI
  rw [Nat.pow_zero, Nat.div_one, if_neg h, Nat.zero_add]
  rfl
end Go.Proofs
set_option linter.unusedVariables false
namespace Go.Proofs
open Go.Ax
/-- a 2^i is at most b 2^j. -/
def le2 (a : Nat) (i : Int) (b : Nat) (j : Int) : Prop := a * 2 ^ (i - j).toNat ≤ b * 2 ^ (j - i).toNat
theorem le2_iff {a b : Nat} {i j : Int} (K : Nat) (h1 : 0 ≤ i + K) (h2 : 0 ≤ j + K) : le2 a i b j ↔ a * 2 ^ (i + K).toNat ≤ b * 2 ^ (j + K).toNat := by
  unfold le2
  rw [← pow_le_iff _ _ (min (i + K) (j + K)).toNat, Nat.mul_assoc, Nat.mul_assoc, ← Nat.pow_add, ← Nat.pow_add, show (i - j).toNat + (min (i + K) (j + K)).toNat = (i + K).toNat by omega, show (j - i).toNat + (min (i + K) (j + K)).toNat = (j + K).toNat by omega]
theorem le2_trans {a b c : Nat} {i j k : Int} (h : le2 a i b j) (h' : le2 b j c k) : le2 a i c k := by
  obtain ⟨K, h1, h2, h3⟩ : ∃ K : Nat, 0 ≤ i + K ∧ 0 ≤ j + K ∧ 0 ≤ k + K := ⟨(-i).toNat + (-j).toNat + (-k).toNat, by omega⟩
  rw [le2_iff K h1 h2] at h
  rw [le2_iff K h2 h3] at h'
  rw [le2_iff K h1 h3]
  exact Nat.le_trans h h'
theorem le2_pow {i j : Int} (h : i ≤ j) : le2 1 i 1 j := by
  unfold le2
  rw [show (i - j).toNat = 0 by omega, Nat.pow_zero, Nat.one_mul, Nat.one_mul]
  exact Nat.two_pow_pos _
/-- One number is n 2^j, the other one 2^i. -/
theorem le2_shift (a k : Nat) (i : Int) : le2 (a * 2 ^ k) i a (i + k) ∧ le2 a (i + k) (a * 2 ^ k) i := by
  unfold le2
  rw [show (i - (i + k)).toNat = 0 by omega, show (i + k - i).toNat = k by omega, Nat.pow_zero, Nat.mul_one]
  exact ⟨Nat.le_refl _, Nat.le_refl _⟩
theorem le2_mul {a b : Nat} (h : a ≤ b) (i : Int) : le2 a i b i := by unfold le2; rw [Int.sub_self]; exact Nat.mul_le_mul_right _ h
theorem quoN_le (r : Nat) (neg : Bool) (n d M : Nat) (hd : 0 < d) (h : n ≤ M * d) : quoN r neg n d ≤ M := by
  by_cases he : n = M * d
  · subst he; rw [quoN_exact r neg M d hd]; exact Nat.le_refl _
  · have h1 : n / d < M := (Nat.div_lt_iff_lt_mul hd).2 (by omega)
    unfold quoN
    split <;> omega
/-- The rounded number is at most the power of 2 above the number. -/
theorem rnd_top (r : Nat) (neg : Bool) (n d : Nat) (hn : n ≠ 0) (hd : d ≠ 0) (k : Nat) (s : Int) (hs : lg n d + 1 ≤ s + k) : quoN r neg (nu n s) (de d s) ≤ 2 ^ k := by
  have hd' := Nat.pos_of_ne_zero hd
  obtain ⟨_, h2⟩ := lg_spec hn hd
  have h2 : ¬ ge2 n d (s + k) := fun h => h2 (ge2_mono hs h)
  refine quoN_le r neg _ _ _ (de_pos _ hd') ?_
  obtain ⟨K, hK⟩ : ∃ K : Nat, 0 ≤ s + K := ⟨(-s).toNat, by omega⟩
  obtain ⟨n1, n2⟩ := nu_scale n d s K hK
  rw [ge2_iff K (by omega), Nat.not_le] at h2
  rw [← pow_le_iff _ _ (K - (-s).toNat), Nat.mul_assoc, n1, n2]
  refine Nat.le_trans (Nat.le_of_lt h2) (Nat.le_of_eq ?_)
  rw [Nat.mul_left_comm, ← Nat.pow_add]
  congr 2
  omega
/-- The rounded number itself. -/
abbrev rN (p : Nat) (G : Int) (r : Nat) (neg : Bool) (n d : Nat) : Nat := quoN r neg (nu n (stpF p G (lg n d))) (de d (stpF p G (lg n d)))
abbrev rS (p : Nat) (G : Int) (n d : Nat) : Int := stpF p G (lg n d)
end Go.Proofs
set_option linter.unusedVariables false
namespace Go.Proofs
open Go.Ax
def sgnI (z : Int) : Int := if z < 0 then -1 else if 0 < z then 1 else 0
def rkF (x : FV) : Int := if x.neg = true then -(if x.kind = 2 then 2 else if x.kind = 1 then 1 else 0) else (if x.kind = 2 then 2 else if x.kind = 1 then 1 else 0)
/-- The sizes of two finite floats. -/
def szF (m : Nat) (e : Int) (m' : Nat) (e' : Int) : Int :=
  if (bl m : Int) - 1 + e ≠ (bl m' : Int) - 1 + e' then sgnI ((bl m : Int) - 1 + e - ((bl m' : Int) - 1 + e'))
  else if e' ≤ e then cmpI (m * 2 ^ (e - e').toNat) m' else cmpI m (m' * 2 ^ (e' - e).toNat)
def cpF (x y : FV) : Int :=
  if rkF x ≠ rkF y ∨ (rkF x ≠ 1 ∧ rkF x ≠ -1) then sgnI (rkF x - rkF y)
  else if rkF x < 0 then -szF x.mag x.exp y.mag y.exp else szF x.mag x.exp y.mag y.exp
theorem le2_bl {a b : Nat} {i j : Int} (ha : a ≠ 0) (h : le2 a i b j) : (bl a : Int) + i ≤ bl b + j ∧ b ≠ 0 := by
  obtain ⟨K, h1, h2⟩ : ∃ K : Nat, 0 ≤ i + K ∧ 0 ≤ j + K := ⟨(-i).toNat + (-j).toNat, by omega⟩
  rw [le2_iff K h1 h2] at h
  have hb : b ≠ 0 := fun h0 => by
    rw [h0, Nat.zero_mul, Nat.le_zero, Nat.mul_eq_zero] at h
    have := Nat.two_pow_pos (i + K).toNat
    omega
  refine ⟨?_, hb⟩
  have e1 := bl_mul a (i + K).toNat ha
  have e2 := bl_mul b (j + K).toNat hb
  have h0 : a * 2 ^ (i + K).toNat ≠ 0 := Nat.mul_ne_zero ha (Nat.ne_of_gt (Nat.two_pow_pos _))
  have h3 : bl (a * 2 ^ (i + K).toNat) ≤ bl (b * 2 ^ (j + K).toNat) := bl_le (Nat.lt_of_le_of_lt h (bl_lt _))
  omega
theorem cmpI_le {a b : Nat} : cmpI a b ≤ 0 ↔ a ≤ b := by unfold cmpI; split <;> (try split) <;> omega
theorem cmpI_neg (a b : Nat) : cmpI b a = -cmpI a b := by unfold cmpI; split <;> (try split) <;> (try split) <;> omega
theorem sgnI_le {z : Int} : sgnI z ≤ 0 ↔ z ≤ 0 := by unfold sgnI; split <;> (try split) <;> omega
theorem sgnI_neg (z : Int) : sgnI (-z) = -sgnI z := by unfold sgnI; split <;> (try split) <;> (try split) <;> omega
theorem szF_neg (m : Nat) (e : Int) (m' : Nat) (e' : Int) : szF m' e' m e = -szF m e m' e' := by
  unfold szF
  by_cases h : (bl m : Int) - 1 + e = (bl m' : Int) - 1 + e'
  · rw [if_neg (not_not_intro h.symm), if_neg (not_not_intro h)]
    by_cases h1 : e = e'
    · subst h1
      rw [if_pos (Int.le_refl _), if_pos (Int.le_refl _), Int.sub_self]
      simp only [Int.toNat_zero, Nat.pow_zero, Nat.mul_one]
      exact cmpI_neg _ _
    · by_cases h2 : e' ≤ e
      · rw [if_neg (show ¬ e ≤ e' by omega), if_pos h2]; exact cmpI_neg _ _
      · rw [if_pos (show e ≤ e' by omega), if_neg h2]; exact cmpI_neg _ _
  · rw [if_pos (fun h0 => h h0.symm), if_pos h, ← sgnI_neg]
    congr 1
    omega
theorem szF_le {m m' : Nat} {e e' : Int} (hm : m ≠ 0) (hm' : m' ≠ 0) : szF m e m' e' ≤ 0 ↔ le2 m e m' e' := by
  have hbl : ∀ {a b : Nat} {i j : Int}, a ≠ 0 → b ≠ 0 → (bl a : Int) + i < bl b + j → le2 a i b j := fun {a b i j} ha hb hlt => by
    obtain ⟨a1, a2, a3⟩ := bl_spec ha
    obtain ⟨b1, b2, b3⟩ := bl_spec hb
    have h1 := le2_mul (Nat.le_of_lt a2) i
    have h2 := (le2_shift 1 (bl a) i).1
    have h3 := (le2_shift 1 (bl b - 1) j).2
    have h4 := le2_mul b1 j
    rw [Nat.one_mul] at h2 h3
    exact le2_trans h1 (le2_trans h2 (le2_trans (le2_pow (by omega)) (le2_trans h3 h4)))
  unfold szF
  by_cases h : (bl m : Int) - 1 + e = (bl m' : Int) - 1 + e'
  · rw [if_neg (by omega)]
    by_cases h2 : e' ≤ e
    · rw [if_pos h2, cmpI_le]
      unfold le2
      rw [show (e' - e).toNat = 0 by omega, Nat.pow_zero, Nat.mul_one]
    · rw [if_neg h2, cmpI_le]
      unfold le2
      rw [show (e - e').toNat = 0 by omega, Nat.pow_zero, Nat.mul_one]
  · rw [if_pos (by omega), sgnI_le]
    constructor
    · intro h0; exact hbl hm hm' (by omega)
    · intro h0; have := (le2_bl hm h0).1; omega
theorem cpF_neg (x y : FV) : cpF y x = -cpF x y := by
  unfold cpF
  by_cases h : rkF x = rkF y
  · rw [h]
    by_cases h1 : rkF y = 1 ∨ rkF y = -1
    · have h2 : ¬ (rkF y ≠ rkF y ∨ (rkF y ≠ 1 ∧ rkF y ≠ -1)) := by omega
      rw [if_neg h2, if_neg h2]
      split
      · rw [szF_neg]
      · rw [szF_neg]
    · have h2 : (rkF y ≠ rkF y ∨ (rkF y ≠ 1 ∧ rkF y ≠ -1)) := by omega
      rw [if_pos h2, if_pos h2, Int.sub_self]; rfl
  · rw [if_pos (.inl (fun h0 => h h0.symm)), if_pos (.inl h), ← sgnI_neg]
    congr 1
    omega
/-- The size of the one is at most that of the other one. -/
def leM (x y : FV) : Prop := x.kind = 0 ∨ y.kind = 2 ∨ (x.kind = 1 ∧ y.kind = 1 ∧ le2 x.mag x.exp y.mag y.exp)
def fineF (x : FV) : Prop := x.kind ≤ 2 ∧ (x.kind = 1 → x.mag ≠ 0)
theorem cpF_pos {x y : FV} (hx : fineF x) (hy : fineF y) (h1 : x.neg = false) (h2 : y.neg = false) (h : leM x y) : cpF x y ≤ 0 := by
  unfold cpF rkF
  rw [h1, h2]
  simp only [Bool.false_eq_true, if_false]
  obtain ⟨x1, x2⟩ := hx
  obtain ⟨y1, y2⟩ := hy
  have kx : x.kind = 0 ∨ x.kind = 1 ∨ x.kind = 2 := by omega
  have ky : y.kind = 0 ∨ y.kind = 1 ∨ y.kind = 2 := by omega
  unfold leM at h
  rcases kx with kx | kx | kx <;> rcases ky with ky | ky | ky <;> simp [kx, ky, sgnI] at h ⊢
  exact (szF_le (x2 kx) (y2 ky)).2 h
theorem cpF_negs {x y : FV} (hx : fineF x) (hy : fineF y) (h1 : x.neg = true) (h2 : y.neg = true) (h : leM x y) : cpF y x ≤ 0 := by
  unfold cpF rkF
  rw [h1, h2]
  simp only [if_true]
  obtain ⟨x1, x2⟩ := hx
  obtain ⟨y1, y2⟩ := hy
  have kx : x.kind = 0 ∨ x.kind = 1 ∨ x.kind = 2 := by omega
  have ky : y.kind = 0 ∨ y.kind = 1 ∨ y.kind = 2 := by omega
  unfold leM at h
  rcases kx with kx | kx | kx <;> rcases ky with ky | ky | ky <;> simp [kx, ky, sgnI] at h ⊢
  have := (szF_le (e := x.exp) (e' := y.exp) (x2 kx) (y2 ky)).2 h
  rw [szF_neg]
  omega
theorem cpF_mixed {x y : FV} (hx : fineF x) (hy : fineF y) (h1 : x.neg = true) (h2 : y.neg = false) : cpF x y ≤ 0 := by
  unfold cpF rkF
  rw [h1, h2]
  simp only [if_true, Bool.false_eq_true, if_false]
  obtain ⟨x1, x2⟩ := hx
  obtain ⟨y1, y2⟩ := hy
  have kx : x.kind = 0 ∨ x.kind = 1 ∨ x.kind = 2 := by omega
  have ky : y.kind = 0 ∨ y.kind = 1 ∨ y.kind = 2 := by omega
  rcases kx with kx | kx | kx <;> rcases ky with ky | ky | ky <;> simp [kx, ky, sgnI]
theorem mkF_val (neg : Bool) (N : Nat) (s : Int) (h : N ≠ 0) : (mkF neg N s).kind = 1 ∧ (mkF neg N s).neg = neg ∧ (mkF neg N s).mag ≠ 0 ∧ le2 N s (mkF neg N s).mag (mkF neg N s).exp ∧ le2 (mkF neg N s).mag (mkF neg N s).exp N s := by
  obtain ⟨m, hm⟩ := tz_spec h
  have e : mkF neg N s = ⟨1, neg, s + tz N, 2 * m + 1⟩ := by
    conv => lhs; rw [hm, Nat.mul_comm]
    exact mkF_odd neg m _ s
  rw [e]
  have h2 := le2_shift (2 * m + 1) (tz N) s
  have h3 : (2 * m + 1) * 2 ^ tz N = N := by rw [Nat.mul_comm]; exact hm.symm
  rw [h3] at h2
  exact ⟨rfl, rfl, Nat.succ_ne_zero _, h2.1, h2.2⟩
theorem rnd_le (p : Nat) (G : Int) (r : Nat) (neg : Bool) {n d : Nat} (hn : n ≠ 0) (hd : d ≠ 0) : rN p G r neg n d ≤ 2 ^ p := by
  refine rnd_top r neg n d hn hd p _ ?_
  have := stpF_max p G (lg n d)
  omega
/-- What is not too great is at most the greatest number. -/
theorem rnd_leTop (p : Nat) (G : Int) (r : Nat) (neg : Bool) {n d : Nat} (hp : 2 ≤ p) (hG : 1 ≤ G) (hn : n ≠ 0) (hd : d ≠ 0) (h : ¬ G < bl (rN p G r neg n d) + rS p G n d - 1) : le2 (rN p G r neg n d) (rS p G n d) (2 ^ p - 1) (G - p + 1) := by
  have h1 := rnd_le p G r neg hn hd
  have h2 := stpF_max p G (lg n d)
  have h4 : 1 - G ≤ lg n d → 2 ^ (p - 1) ≤ rN p G r neg n d := fun hh => Nat.le_trans (rnd_big r neg n d hn hd (p - 1) _ (by omega)) (quoN_ge r neg _ _)
  have hpp := Nat.two_pow_pos p
  have hs : rS p G n d = stpF p G (lg n d) := rfl
  generalize rN p G r neg n d = N at *
  rw [hs] at h ⊢
  by_cases hN : N = 2 ^ p
  · have hb : bl N = p + 1 := by rw [hN]; exact bl_eq (Nat.le_refl _) (Nat.pow_lt_pow_right (by decide) (by omega))
    rw [hb] at h
    have e1 := (le2_shift (2 ^ (p - 1)) 1 (stpF p G (lg n d))).1
    have e0 : 2 ^ (p - 1) * 2 ^ 1 = N := by rw [hN, ← Nat.pow_add]; congr 1; omega
    rw [e0] at e1
    refine le2_trans e1 ?_
    unfold le2
    rw [show (stpF p G (lg n d) + (1 : Nat) - (G - p + 1)).toNat = 0 by omega, Nat.pow_zero, Nat.mul_one]
    have h5 : 2 ^ p = 2 ^ (p - 1) * 2 := by rw [← Nat.pow_succ]; congr 1; omega
    have h6 : 2 ^ 1 ≤ 2 ^ (p - 1) := Nat.pow_le_pow_right (by decide) (by omega)
    exact Nat.le_trans (show 2 ^ (p - 1) ≤ 2 ^ p - 1 by omega) (Nat.le_mul_of_pos_right _ (Nat.two_pow_pos _))
  · have hs2 : stpF p G (lg n d) ≤ G - p + 1 := by
      by_cases hh : 1 - G ≤ lg n d
      · have := bl_ge (h4 hh); omega
      · omega
    refine le2_trans (le2_mul (show N ≤ 2 ^ p - 1 by omega) _) ?_
    unfold le2
    rw [show (stpF p G (lg n d) - (G - p + 1)).toNat = 0 by omega, Nat.pow_zero, Nat.mul_one]
    exact Nat.le_mul_of_pos_right _ (Nat.two_pow_pos _)
theorem rndF_fine (p : Nat) (G : Int) (r : Nat) (neg : Bool) (n d : Nat) (hp : 2 ≤ p) : fineF (rndF p G r neg n d).1 ∧ (rndF p G r neg n d).1.neg = neg := by
  have hpp : 2 ^ 1 ≤ 2 ^ p := Nat.pow_le_pow_right (by decide) (by omega)
  unfold rndF
  split
  · unfold overF
    split
    · exact ⟨⟨by show 1 ≤ 2; decide, fun _ => by show 2 ^ p - 1 ≠ 0; omega⟩, rfl⟩
    · exact ⟨⟨by show 2 ≤ 2; decide, fun h => by cases h⟩, rfl⟩
  · generalize quoN r neg (nu n (stpF p G (lg n d))) (de d (stpF p G (lg n d))) = N
    simp only
    by_cases h0 : N = 0
    · unfold mkF; rw [if_pos h0]; exact ⟨⟨by show 0 ≤ 2; decide, fun h => by cases h⟩, rfl⟩
    · obtain ⟨k1, k2, k3, _⟩ := mkF_val neg N (stpF p G (lg n d)) h0
      exact ⟨⟨by omega, fun _ => k3⟩, k2⟩
theorem rnd_over0 (p : Nat) (G : Int) (r : Nat) (neg : Bool) {n d : Nat} (hp : 2 ≤ p) (hG : 1 ≤ G) (hn : n ≠ 0) (hd : d ≠ 0) (h : rN p G r neg n d = 0) : ¬ G < (bl 0 : Int) + rS p G n d - 1 := by
  have h2 := stpF_max p G (lg n d)
  have hpp := Nat.two_pow_pos (p - 1)
  have h4 : 1 - G ≤ lg n d → 2 ^ (p - 1) ≤ rN p G r neg n d := fun hh => Nat.le_trans (rnd_big r neg n d hn hd (p - 1) _ (by omega)) (quoN_ge r neg _ _)
  have hs : rS p G n d = stpF p G (lg n d) := rfl
  rw [h] at h4
  have : bl 0 = 0 := by decide
  rw [hs, this]
  by_cases hh : 1 - G ≤ lg n d
  · have := h4 hh; omega
  · omega
theorem overF_kind (p : Nat) (G : Int) (r : Nat) (neg : Bool) : (overF p G r neg).kind = 2 ∨ (overF p G r neg).kind = 1 ∧ (overF p G r neg).mag = 2 ^ p - 1 ∧ (overF p G r neg).exp = G - p + 1 := by
  unfold overF
  split
  · exact .inr ⟨rfl, rfl, rfl⟩
  · exact .inl rfl
end Go.Proofs
set_option linter.unusedVariables false
namespace Go.Proofs
open Go.Ax
def ds (a b : Nat) : Nat := (a - b) + (b - a)
theorem quoN_near (r : Nat) (hr : r ≤ 1) (neg : Bool) (n d : Nat) (hd : 0 < d) (j : Nat) : ds (quoN r neg n d * d) n ≤ ds (j * d) n := by
  have h1 := Nat.div_add_mod n d
  have h2 := Nat.mod_lt n hd
  rw [Nat.mul_comm] at h1
  have hN : quoN r neg n d = n / d ∧ 2 * (n % d) ≤ d ∨ quoN r neg n d = n / d + 1 ∧ d ≤ 2 * (n % d) := by
    unfold quoN moreF restC
    have h3 : r = 0 ∨ r = 1 := by omega
    by_cases hx0 : n % d = 0
    · left; refine ⟨?_, by omega⟩
      rcases h3 with rfl | rfl <;> simp [hx0]
    · by_cases hx1 : 2 * (n % d) < d
      · left; refine ⟨?_, by omega⟩
        rcases h3 with rfl | rfl <;> simp [hx0, hx1]
      · by_cases hx2 : 2 * (n % d) = d
        · rcases h3 with rfl | rfl
          · by_cases ho : n / d % 2 = 1
            · right; exact ⟨by simp [hx0, hx2, ho], by omega⟩
            · left; exact ⟨by simp [hx0, hx2, ho], by omega⟩
          · right; exact ⟨by simp [hx0, hx2], by omega⟩
        · right; refine ⟨?_, by omega⟩
          rcases h3 with rfl | rfl <;> simp [hx0, hx1, hx2]
  generalize n / d = q at *
  generalize n % d = x at *
  have hj : j ≤ q ∨ q + 1 ≤ j := by omega
  have e0 : (q + 1) * d = q * d + d := Nat.succ_mul _ _
  have hjd : j * d ≤ q * d ∨ (q + 1) * d ≤ j * d := by
    rcases hj with hj | hj
    · exact .inl (Nat.mul_le_mul_right _ hj)
    · exact .inr (Nat.mul_le_mul_right _ hj)
  unfold ds
  rcases hN with ⟨hN, hx⟩ | ⟨hN, hx⟩
  · rw [hN]; omega
  · rw [hN, e0]; omega
theorem nu_de (n d : Nat) (s : Int) (K : Nat) (h : 0 ≤ s + K) (r : Nat) (neg : Bool) : quoN r neg (nu n s) (de d s) = quoN r neg (n * 2 ^ K) (d * 2 ^ (s + K).toNat) := (quo_nu r neg n d s K h).1.symm
/-- A finite number of the format. -/
def inF (p : Nat) (G : Int) (M : Nat) (E : Int) : Prop := bl M ≤ p ∧ 1 - G - (p - 1) ≤ E ∧ bl M + E ≤ G + 1
/-- What is finer than the step is less than the number. -/
theorem fine_lt (p : Nat) (G : Int) {n d M : Nat} {E : Int} (hp : 2 ≤ p) (hn : n ≠ 0) (hd : d ≠ 0) (h : inF p G M E) (hE : E < rS p G n d) (K : Nat) (hK : 0 ≤ E + K) :
    M * 2 ^ (E + K).toNat * d ≤ 2 ^ (p - 1) * (d * 2 ^ (rS p G n d + K).toNat) ∧ 2 ^ (p - 1) * (d * 2 ^ (rS p G n d + K).toNat) ≤ n * 2 ^ K := by
  obtain ⟨h1, h2, h3⟩ := h
  have hs := stpF_max p G (lg n d)
  have hrs : rS p G n d = stpF p G (lg n d) := rfl
  rw [hrs] at hE ⊢
  constructor
  · rw [Nat.mul_comm d, ← Nat.mul_assoc]
    refine Nat.mul_le_mul_right _ ?_
    calc M * 2 ^ (E + K).toNat ≤ 2 ^ p * 2 ^ (E + K).toNat := Nat.mul_le_mul_right _ (Nat.le_trans (Nat.le_of_lt (bl_lt M)) (Nat.pow_le_pow_right (by decide) h1))
      _ = 2 ^ (p + (E + K).toNat) := (Nat.pow_add ..).symm
      _ ≤ 2 ^ (p - 1 + (stpF p G (lg n d) + K).toNat) := Nat.pow_le_pow_right (by decide) (by omega)
      _ = 2 ^ (p - 1) * 2 ^ (stpF p G (lg n d) + K).toNat := Nat.pow_add ..
  · have hg := (lg_spec hn hd).1
    rw [ge2_iff K (by omega)] at hg
    refine Nat.le_trans (Nat.le_of_eq ?_) hg
    rw [Nat.mul_left_comm, ← Nat.pow_add]
    congr 2
    omega
theorem near_same (p : Nat) (G : Int) (r : Nat) (hr : r ≤ 1) (neg : Bool) {n d M : Nat} {E : Int} (hp : 2 ≤ p) (hn : n ≠ 0) (hd : d ≠ 0) (h : inF p G M E) (K : Nat) (hK : 0 ≤ E + K) (hK2 : 0 ≤ rS p G n d + K) :
    ds (rN p G r neg n d * (d * 2 ^ (rS p G n d + K).toNat)) (n * 2 ^ K) ≤ ds (M * 2 ^ (E + K).toNat * d) (n * 2 ^ K) ∧ ds (rN p G r neg n d * (d * 2 ^ (rS p G n d + K).toNat)) (n * 2 ^ K) ≤ n * 2 ^ K := by
  have hpos : 0 < d * 2 ^ (rS p G n d + K).toNat := Nat.mul_pos (Nat.pos_of_ne_zero hd) (Nat.two_pow_pos _)
  have hq : rN p G r neg n d = quoN r neg (n * 2 ^ K) (d * 2 ^ (rS p G n d + K).toNat) := nu_de n d _ K hK2 r neg
  rw [hq]
  have key := fun j => quoN_near r hr neg (n * 2 ^ K) (d * 2 ^ (rS p G n d + K).toNat) hpos j
  constructor
  · rcases Int.lt_or_le E (rS p G n d) with hE | hE
    · obtain ⟨a1, a2⟩ := fine_lt p G hp hn hd h hE K hK
      refine Nat.le_trans (key (2 ^ (p - 1))) ?_
      unfold ds
      omega
    · have := key (M * 2 ^ (E - rS p G n d).toNat)
      have e : M * 2 ^ (E - rS p G n d).toNat * (d * 2 ^ (rS p G n d + K).toNat) = M * 2 ^ (E + K).toNat * d := by
        rw [show (E + K).toNat = (E - rS p G n d).toNat + (rS p G n d + K).toNat by omega, Nat.pow_add, Nat.mul_comm d, ← Nat.mul_assoc, ← Nat.mul_assoc]
      rwa [e] at this
  · have := key 0
    unfold ds at this ⊢
    omega
/-- No float lies between a number, rounded down and rounded up (in size). -/
theorem between (p : Nat) (G : Int) (r r' : Nat) (neg : Bool) {n d M : Nat} {E : Int} (hp : 2 ≤ p) (hG : 1 ≤ G) (hn : n ≠ 0) (hd : d ≠ 0) (h : inF p G M E) (h0 : M ≠ 0)
    (hlo : rN p G r neg n d = nu n (rS p G n d) / de d (rS p G n d)) : le2 M E (rN p G r neg n d) (rS p G n d) ∨ (rN p G r' neg n d ≤ rN p G r neg n d + 1 ∧ le2 (rN p G r neg n d + 1) (rS p G n d) M E) := by
  obtain ⟨K, k1, k2⟩ : ∃ K : Nat, 0 ≤ E + K ∧ 0 ≤ rS p G n d + K := ⟨(-E).toNat + (-rS p G n d).toNat, by omega⟩
  have hd' := Nat.pos_of_ne_zero hd
  rcases Int.lt_or_le E (rS p G n d) with hE | hE
  · left
    obtain ⟨h1, h2, h3⟩ := h
    have hs := stpF_max p G (lg n d)
    have hrs : rS p G n d = stpF p G (lg n d) := rfl
    have hbig : 2 ^ (p - 1) ≤ rN p G r neg n d := Nat.le_trans (rnd_big r neg n d hn hd (p - 1) _ (by omega)) (quoN_ge r neg _ _)
    rw [le2_iff K k1 k2]
    calc M * 2 ^ (E + K).toNat ≤ 2 ^ p * 2 ^ (E + K).toNat := Nat.mul_le_mul_right _ (Nat.le_trans (Nat.le_of_lt (bl_lt M)) (Nat.pow_le_pow_right (by decide) h1))
      _ = 2 ^ (p + (E + K).toNat) := (Nat.pow_add ..).symm
      _ ≤ 2 ^ (p - 1 + (rS p G n d + K).toNat) := Nat.pow_le_pow_right (by decide) (by omega)
      _ = 2 ^ (p - 1) * 2 ^ (rS p G n d + K).toNat := Nat.pow_add ..
      _ ≤ rN p G r neg n d * 2 ^ (rS p G n d + K).toNat := Nat.mul_le_mul_right _ hbig
  · obtain ⟨j, hj⟩ : ∃ j, M * 2 ^ (E - rS p G n d).toNat = j := ⟨_, rfl⟩
    have hM := le2_shift M (E - rS p G n d).toNat (rS p G n d)
    rw [hj, show rS p G n d + (E - rS p G n d).toNat = E by omega] at hM
    rcases Nat.lt_or_ge (rN p G r neg n d) j with hlt | hge
    · right
      refine ⟨?_, le2_trans (le2_mul hlt _) hM.1⟩
      rw [hlo]
      show quoN r' neg (nu n (rS p G n d)) (de d (rS p G n d)) ≤ _
      unfold quoN
      split <;> omega
    · left
      exact le2_trans hM.2 (le2_mul hge _)
end Go.Proofs
set_option linter.unusedVariables false
namespace Go.Proofs
open Go.Ax
def digs : List Nat → List Nat
  | [] => []
  | x :: xs => x % 4294967296 :: x / 4294967296 :: digs xs
theorem digs_length : ∀ xs : List Nat, (digs xs).length = 2 * xs.length
  | [] => rfl
  | x :: xs => by simp only [digs, List.length_cons, digs_length xs]; omega
theorem digs_Ds : ∀ {xs : List Nat}, Wd xs → Ds 4294967296 (digs xs)
  | [], _ => Ds_nil
  | x :: xs, h => Ds_cons (Nat.mod_lt _ (by decide)) (Ds_cons (by have := h.head; omega) (digs_Ds h.tail))
theorem digs_val : ∀ (xs : List Nat), vb 4294967296 (digs xs) = val xs
  | [] => rfl
  | x :: xs => by
    simp only [digs, vb, val, digs_val xs]
    omega
theorem digs_snoc : ∀ (xs : List Nat) (x : Nat), digs (xs ++ [x]) = digs xs ++ [x % 4294967296, x / 4294967296]
  | [], x => rfl
  | y :: xs, x => by simp only [List.cons_append, digs, digs_snoc xs x]
theorem digs_take (xs : List Nat) (n : Nat) (h : n < xs.length) : digs (xs.take (n + 1)) = digs (xs.take n) ++ [xs.getD n 0 % 4294967296, xs.getD n 0 / 4294967296] := by
  rw [List.take_succ_eq_append_getElem h, digs_snoc, List.getD_eq_getElem?_getD, List.getElem?_eq_getElem h]; rfl
/-- Halves put together. -/
def joined : List Nat → List Nat
  | a :: b :: ds => (a + b * 4294967296) :: joined ds
  | _ => []
theorem joined_length : ∀ (ds : List Nat), (joined ds).length = ds.length / 2
  | [] => rfl
  | [_] => by simp [joined]
  | a :: b :: ds => by simp only [joined, List.length_cons, joined_length ds]; omega
theorem joined_Wd : ∀ {ds : List Nat}, Ds 4294967296 ds → Wd (joined ds)
  | [], _ => Wd_nil
  | [_], _ => Wd_nil
  | a :: b :: ds, h => by
    have h1 := h.head
    have h2 := h.tail.head
    exact Wd_cons (by omega) (joined_Wd h.tail.tail)
theorem joined_val : ∀ (ds : List Nat), ds.length % 2 = 0 → val (joined ds) = vb 4294967296 ds
  | [], _ => rfl
  | [_], h => by simp at h
  | a :: b :: ds, h => by
    have ih := joined_val ds (by simpa [Nat.add_assoc, Nat.add_mod_right] using h)
    simp only [joined, val, vb, ih]
    omega
theorem joined_snoc : ∀ (ds : List Nat) (a b : Nat), ds.length % 2 = 0 → joined (ds ++ [a, b]) = joined ds ++ [a + b * 4294967296]
  | [], a, b, _ => rfl
  | [_], _, _, h => by simp at h
  | x :: y :: ds, a, b, h => by
    have ih := joined_snoc ds a b (by simpa [Nat.add_assoc, Nat.add_mod_right] using h)
    simp only [List.cons_append, joined, ih]
theorem take_two (ds : List Nat) (n : Nat) (h : n + 1 < ds.length) : ds.take (n + 2) = ds.take n ++ [ds.getD n 0, ds.getD (n + 1) 0] := by
  rw [List.take_succ_eq_append_getElem h, List.take_succ_eq_append_getElem (by omega), List.append_assoc]
  simp [List.getD_eq_getElem?_getD, List.getElem?_eq_getElem h, List.getElem?_eq_getElem (show n < ds.length by omega)]
theorem joined_take (ds : List Nat) (i : Nat) (h : 2 * i + 1 < ds.length) : joined (ds.take (2 * (i + 1))) = joined (ds.take (2 * i)) ++ [ds.getD (2 * i) 0 + ds.getD (2 * i + 1) 0 * 4294967296] := by
  rw [show 2 * (i + 1) = 2 * i + 2 by omega, take_two ds (2 * i) h, joined_snoc]
  rw [List.length_take, Nat.min_eq_left (by omega)]; omega
theorem pow_half (n : Nat) : (4294967296 : Nat) ^ (2 * n) = 18446744073709551616 ^ n := by rw [Nat.pow_mul]
/-- Words that have no fewer words in canonical form. -/
theorem canon_of_ge {xs : List Nat} (hw : Wd xs) (h : 18446744073709551616 ^ (xs.length - 1) ≤ val xs) : Canon xs := fun hne h0 => by
  have e := List.dropLast_concat_getLast hne
  rw [h0] at e
  have hv : val xs = val xs.dropLast := by
    conv => lhs; rw [← e]
    rw [val_append]; simp [val]
  have hd : Wd xs.dropLast := fun y hy => hw y ((List.dropLast_sublist _).subset hy)
  have := val_lt hd
  rw [List.length_dropLast] at this
  omega
theorem words_of_ge {xs : List Nat} (hw : Wd xs) (h : 18446744073709551616 ^ (xs.length - 1) ≤ val xs) : xs = words (val xs) := (words_val hw (canon_of_ge hw h)).symm
end Go.Proofs
set_option linter.unusedVariables false
namespace Go.Proofs
open Go.Ax
section
variable {K : Nat}
theorem vtake_zero_rest (hK : 0 < K) {xs : List Nat} {n : Nat} (h : vb K xs < K ^ n) : vb K (xs.take n) = vb K xs ∧ (n ≤ xs.length → vb K (xs.drop n) = 0) := by
  rcases Nat.lt_or_ge n xs.length with hn | hn
  · have e := vb_drop (K := K) xs n (by omega)
    rcases Nat.eq_zero_or_pos (vb K (xs.drop n)) with h0 | h0
    · rw [h0, Nat.mul_zero, Nat.add_zero] at e; exact ⟨e.symm, fun _ => h0⟩
    · have := Nat.mul_le_mul_left (K ^ n) (show 1 ≤ vb K (xs.drop n) from h0)
      omega
  · rw [List.take_of_length_le hn]
    exact ⟨rfl, fun _ => by rw [List.drop_of_length_le hn]; rfl⟩
/-- A row in which a piece is put in the place of another one. -/
def put (U R : List Nat) (j : Nat) : List Nat := U.take j ++ (R ++ U.drop (j + R.length))
theorem put_step (U R : List Nat) (j k : Nat) (hk : k < R.length) (hj : j + k < U.length) :
    (U.take j ++ (R.take k ++ U.drop (j + k))).set (j + k) (R.getD k 0) = U.take j ++ (R.take (k + 1) ++ U.drop (j + (k + 1))) := by
  have h1 : (U.take j).length = j := by rw [List.length_take]; omega
  have h2 : (R.take k).length = k := by rw [List.length_take]; omega
  rw [List.set_append_right _ _ (by omega), List.set_append_right _ _ (by omega), h1, h2, show j + k - j - k = 0 by omega, List.drop_eq_getElem_cons hj, List.set_cons_zero, List.take_succ_eq_append_getElem hk, List.append_assoc, List.getD_eq_getElem?_getD, List.getElem?_eq_getElem hk]
  rfl
theorem put_facts (hK : 0 < K) {U : List Nat} {j n X V : Nat} (hU : Ds K U) (hlen : j + n ≤ U.length) (hX : X = vb K (U.drop j)) (hlt : X < K ^ n) (hV : 0 < V) :
    (put U (wfb K n (X % V)) j).length = U.length ∧ Ds K (put U (wfb K n (X % V)) j) ∧ vb K ((put U (wfb K n (X % V)) j).drop j) = X % V ∧
    vb K (put U (wfb K n (X % V)) j) + V * (K ^ j * (X / V)) = vb K U := by
  have hd : (U.take j).length = j := by rw [List.length_take]; omega
  have hr0 : vb K (U.drop (j + n)) = 0 := by
    have := (vtake_zero_rest hK (xs := U.drop j) (n := n) (by rw [← hX]; exact hlt)).2 (by rw [List.length_drop]; omega)
    rwa [List.drop_drop] at this
  have hmod : X % V < K ^ n := Nat.lt_of_le_of_lt (Nat.mod_le _ _) hlt
  have hp : put U (wfb K n (X % V)) j = U.take j ++ (wfb K n (X % V) ++ U.drop (j + n)) := by unfold put; rw [wfb_length]
  have hdr : (put U (wfb K n (X % V)) j).drop j = wfb K n (X % V) ++ U.drop (j + n) := by
    rw [hp, List.drop_append_of_le_length (by omega), List.drop_of_length_le (by omega), List.nil_append]
  have hv : vb K ((put U (wfb K n (X % V)) j).drop j) = X % V := by
    rw [hdr, vb_append, hr0, Nat.mul_zero, Nat.add_zero, vb_wfb hK _ _ hmod]
  have hl : (put U (wfb K n (X % V)) j).length = U.length := by
    rw [hp, List.length_append, List.length_append, wfb_length, hd, List.length_drop]; omega
  refine ⟨hl, by rw [hp]; exact (hU.take j).append ((wfb_Ds hK _ _).append (hU.drop _)), hv, ?_⟩
  have e1 := vb_drop (K := K) (put U (wfb K n (X % V)) j) j (by omega)
  have e2 := vb_drop (K := K) U j (by omega)
  have e3 : (put U (wfb K n (X % V)) j).take j = U.take j := by
    rw [hp, List.take_append_of_le_length (by omega), List.take_of_length_le (by omega)]
  rw [e3, hv] at e1
  rw [e1, e2, ← hX]
  conv => rhs; rw [← Nat.div_add_mod X V]
  rw [Nat.mul_add, Nat.mul_left_comm V]
  omega
/-- The first guess is not too small. -/
theorem guess1 (hK : 0 < K) {U V : List Nat} {j : Nat} (hU : Ds K U) (hV : Ds K V) (h1 : 1 ≤ V.length) (hlen : j + (V.length + 1) ≤ U.length) (hlt : vb K (U.drop (j + 1)) < vb K V) (htop : 0 < V.getD (V.length - 1) 0) :
    vb K (U.drop j) < K ^ (V.length + 1) ∧ vb K (U.drop j) / vb K V ≤ min ((U.getD (j + V.length) 0 * K + U.getD (j + V.length - 1) 0) / V.getD (V.length - 1) 0) (K - 1) := by
  obtain ⟨m, hm⟩ : ∃ m, V.length = m + 1 := ⟨V.length - 1, by omega⟩
  have hd := vb_drop_one (K := K) U j (by omega)
  have hx := hU.getD hK j
  have hVl := vb_lt hV
  have hB : vb K (U.drop j) < K * vb K V := by
    rw [hd]
    have := Nat.mul_le_mul_left K (show vb K (U.drop (j + 1)) + 1 ≤ vb K V from hlt)
    rw [Nat.mul_add, Nat.mul_one] at this
    omega
  have hsm : vb K (U.drop j) < K ^ (V.length + 1) := by
    rw [Nat.pow_succ, Nat.mul_comm]
    exact Nat.lt_trans hB ((Nat.mul_lt_mul_left hK).2 hVl)
  refine ⟨hsm, ?_⟩
  have hV0 : 0 < vb K V := by omega
  have hQ : vb K (U.drop j) / vb K V < K := (Nat.div_lt_iff_lt_mul hV0).2 hB
  refine Nat.le_min.2 ⟨?_, by omega⟩
  have et := (vtake_zero_rest hK hsm).1
  rw [hm] at et htop ⊢
  simp only [Nat.add_sub_cancel, show j + (m + 1) - 1 = j + m by omega] at htop ⊢
  have eV : vb K V = vb K (V.take (m + 1)) := by rw [List.take_of_length_le (by omega)]
  rw [vb_take_getD V m] at eV
  have eU := et.symm
  rw [vb_take_getD (U.drop j) (m + 1), vb_take_getD (U.drop j) m] at eU
  have hg : ∀ i, (U.drop j).getD i 0 = U.getD (j + i) 0 := fun i => by simp [List.getD_eq_getElem?_getD, List.getElem?_drop]
  rw [hg, hg] at eU
  have hlU := vb_lt ((hU.drop j).take m)
  rw [List.length_take, List.length_drop, Nat.min_eq_left (by omega)] at hlU
  refine (Nat.le_div_iff_mul_le htop).2 (knuth_le (P := K ^ m) (Vl := vb K (V.take m)) (Ul := vb K ((U.drop j).take m)) (V := vb K V) (U := vb K (U.drop j)) ?_ ?_ hlU (Nat.div_mul_le_self _ _))
  · rw [eV, Nat.mul_comm (K ^ m)]; omega
  · rw [eU, Nat.pow_succ, Nat.add_mul, Nat.mul_comm (K ^ m) (U.getD (j + m) 0), Nat.mul_comm (K ^ m * K), Nat.mul_assoc, Nat.mul_comm (K ^ m) K, ← Nat.mul_assoc]; omega
/-- The digits that are there at first. -/
theorem row_top1 (hK : 0 < K) {X V : List Nat} {n : Nat} (hX : Ds K X) (hn : 1 ≤ n) (hV : K ^ (n - 1) ≤ vb K V) : vb K ((X ++ [0]).drop (X.length + 1 - n)) < vb K V := by
  have h0 : vb K (X ++ [0]) = vb K X := by rw [vb_append]; simp [vb]
  have hlt := vb_lt hX
  rcases Nat.lt_or_ge (vb K ((X ++ [0]).drop (X.length + 1 - n))) (vb K V) with h | h
  · exact h
  · have e := vb_drop (K := K) (X ++ [0]) (X.length + 1 - n) (by simp)
    rw [h0] at e
    have h1 := Nat.mul_le_mul_left (K ^ (X.length + 1 - n)) (Nat.le_trans hV h)
    rw [← Nat.pow_add] at h1
    have h2 : K ^ X.length ≤ K ^ (X.length + 1 - n + (n - 1)) := Nat.pow_le_pow_right hK (by omega)
    omega
end
end Go.Proofs
set_option linter.unusedVariables false
namespace Go.Proofs
open Go.Ax
theorem tz_odd (k : Nat) : tz (2 * k + 1) = 0 := by
  have := tz_of 0 k
  rwa [Nat.pow_zero, Nat.one_mul] at this
theorem mkF_oddS (neg : Bool) (k : Nat) (e : Int) : mkF neg (2 * k + 1) e = ⟨1, neg, e, 2 * k + 1⟩ := by
  have := mkF_odd neg k 0 e
  rwa [Nat.pow_zero, Nat.mul_one, Int.natCast_zero, Int.add_zero] at this
end Go.Proofs
set_option linter.unusedVariables false
namespace Go.Proofs
open Go.Ax
/-- What a number is rounded to. -/
def rvF (p : Nat) (G : Int) (r : Nat) (neg : Bool) (n d : Nat) : FV := if n = 0 then ⟨0, false, 0, 0⟩ else (rndF p G r neg n d).1
end Go.Proofs
set_option linter.unusedVariables false
namespace Go.Proofs
open Go.Ax
def vn (x : FV) : Nat := x.mag * 2 ^ x.exp.toNat
def vd (x : FV) : Nat := 2 ^ (-x.exp).toNat
theorem vd_pos (x : FV) : 0 < vd x := Nat.two_pow_pos _
theorem vn_scale (x : FV) (K : Nat) (h : 0 ≤ x.exp + K) : vn x * 2 ^ K = x.mag * 2 ^ (x.exp + K).toNat * vd x := by
  unfold vn vd
  rw [Nat.mul_assoc, Nat.mul_assoc, ← Nat.pow_add, ← Nat.pow_add]
  congr 2
  omega
theorem vn_mk (neg : Bool) (N : Nat) (s : Int) (K : Nat) (h : 0 ≤ s + K) : vn (mkF neg N s) * 2 ^ K = N * 2 ^ (s + K).toNat * vd (mkF neg N s) := by
  by_cases h0 : N = 0
  · subst h0
    unfold mkF vn
    rw [if_pos rfl]
    simp
  · obtain ⟨m, hm⟩ := tz_spec h0
    have e : mkF neg N s = ⟨1, neg, s + tz N, 2 * m + 1⟩ := by
      conv => lhs; rw [hm, Nat.mul_comm]
      exact mkF_odd neg m _ s
    rw [e, vn_scale _ K (by show 0 ≤ s + tz N + K; omega)]
    congr 1
    show (2 * m + 1) * 2 ^ (s + tz N + K).toNat = N * 2 ^ (s + K).toNat
    generalize tz N = t at *
    rw [hm, Nat.mul_comm (2 ^ t), Nat.mul_assoc, ← Nat.pow_add]
    congr 2
    omega
theorem ds_mul (a b k : Nat) : ds (a * k) (b * k) = ds a b * k := by
  unfold ds
  rw [← Nat.sub_mul, ← Nat.sub_mul, ← Nat.add_mul]
theorem abs_sub (a b : Bool) (x d y e : Nat) : ((if a = true then -(x : Int) else x) * d - (if b = true then -(y : Int) else y) * e).natAbs = if a = b then ds (x * d) (y * e) else x * d + y * e := by
  have h1 : ((if a = true then -(x : Int) else x) * d) = if a = true then -((x * d : Nat) : Int) else ((x * d : Nat) : Int) := by
    rw [Int.natCast_mul]; cases a <;> simp [Int.neg_mul]
  have h2 : ((if b = true then -(y : Int) else y) * e) = if b = true then -((y * e : Nat) : Int) else ((y * e : Nat) : Int) := by
    rw [Int.natCast_mul]; cases b <;> simp [Int.neg_mul]
  rw [h1, h2]
  generalize x * d = u
  generalize y * e = v
  unfold ds
  cases a <;> cases b <;> simp <;> omega
theorem rndF_eq (p : Nat) (G : Int) (r : Nat) (neg : Bool) (n d : Nat) : rndF p G r neg n d = if G < bl (rN p G r neg n d) + rS p G n d - 1 then (overF p G r neg, 5) else (mkF neg (rN p G r neg n d) (rS p G n d), if nu n (rS p G n d) % de d (rS p G n d) = 0 then 0 else if lg n d < 1 - G then 3 else 1) := rfl
/-- No float is nearer. -/
theorem nearest (p : Nat) (G : Int) (r : Nat) (hr : r ≤ 1) (neg : Bool) (n d : Nat) (hp : 2 ≤ p) (hG : 1 ≤ G) (hn : n ≠ 0) (hd : d ≠ 0) (y : FV) (hy : y.mag = 0 ∧ y.exp = 0 ∨ inF p G y.mag y.exp) (hk : (rndF p G r neg n d).1.kind ≠ 2) :
    ((if neg = true then -(vn (rndF p G r neg n d).1 : Int) else vn (rndF p G r neg n d).1) * d - (if neg = true then -(n : Int) else n) * vd (rndF p G r neg n d).1).natAbs * vd y ≤
    ((if y.neg = true then -(vn y : Int) else vn y) * d - (if neg = true then -(n : Int) else n) * vd y).natAbs * vd (rndF p G r neg n d).1 := by
  rw [rndF_eq] at hk ⊢
  by_cases ho : G < bl (rN p G r neg n d) + rS p G n d - 1
  · exfalso
    rw [if_pos ho] at hk
    apply hk
    unfold overF grtF
    rw [if_neg (by rw [decF (show ¬ r = 2 by omega), decF (show ¬ r = 3 by omega), decF (show ¬ r = 4 by omega)]; cases neg <;> decide)]
    rfl
  rw [if_neg ho] at hk ⊢
  simp only
  rw [abs_sub, abs_sub, if_pos rfl]
  obtain ⟨K, k1, k2⟩ : ∃ K : Nat, 0 ≤ y.exp + K ∧ 0 ≤ rS p G n d + K := ⟨(-y.exp).toNat + (-rS p G n d).toNat, by omega⟩
  have dx : ds (vn (mkF neg (rN p G r neg n d) (rS p G n d)) * d) (n * vd (mkF neg (rN p G r neg n d) (rS p G n d))) * 2 ^ K = ds (rN p G r neg n d * (d * 2 ^ (rS p G n d + K).toNat)) (n * 2 ^ K) * vd (mkF neg (rN p G r neg n d) (rS p G n d)) := by
    rw [← ds_mul, ← ds_mul, Nat.mul_right_comm, vn_mk neg _ _ K k2]
    congr 1
    · rw [Nat.mul_comm d, ← Nat.mul_assoc]
      exact Nat.mul_right_comm _ _ _
    · exact Nat.mul_right_comm _ _ _
  have dy : ds (vn y * d) (n * vd y) * 2 ^ K = ds (y.mag * 2 ^ (y.exp + K).toNat * d) (n * 2 ^ K) * vd y := by
    rw [← ds_mul, ← ds_mul, Nat.mul_right_comm, vn_scale y K k1]
    congr 1
    · exact Nat.mul_right_comm _ _ _
    · exact Nat.mul_right_comm _ _ _
  have hle : ds (rN p G r neg n d * (d * 2 ^ (rS p G n d + K).toNat)) (n * 2 ^ K) ≤ n * 2 ^ K := by
    have hin : inF p G 0 (1 - G - (p - 1)) := ⟨by show bl 0 ≤ p; rw [show bl 0 = 0 by decide]; omega, by omega, by rw [show bl 0 = 0 by decide]; omega⟩
    obtain ⟨K', h1, h2⟩ : ∃ K' : Nat, 0 ≤ 1 - G - (p - 1) + (K' : Int) ∧ K ≤ K' := ⟨(-(1 - G - (p - 1)) : Int).toNat + K, by omega, by omega⟩
    have h := (near_same p G r hr neg hp hn hd hin K' h1 (by omega)).2
    have e1 : d * 2 ^ (rS p G n d + K').toNat = d * 2 ^ (rS p G n d + K).toNat * 2 ^ (K' - K) := by rw [Nat.mul_assoc, ← Nat.pow_add]; congr 2; omega
    have e2 : n * 2 ^ K' = n * 2 ^ K * 2 ^ (K' - K) := by rw [Nat.mul_assoc, ← Nat.pow_add]; congr 2; omega
    rw [e1, e2, ← Nat.mul_assoc, ds_mul] at h
    exact Nat.le_of_mul_le_mul_right h (Nat.two_pow_pos _)
  refine Nat.le_of_mul_le_mul_right ?_ (Nat.two_pow_pos K)
  rw [Nat.mul_right_comm, dx, Nat.mul_right_comm]
  generalize hA : ds (rN p G r neg n d * (d * 2 ^ (rS p G n d + K).toNat)) (n * 2 ^ K) = A at *
  have key : A * vd y ≤ (if y.neg = neg then ds (vn y * d) (n * vd y) else vn y * d + n * vd y) * 2 ^ K → A * vd (mkF neg (rN p G r neg n d) (rS p G n d)) * vd y ≤ (if y.neg = neg then ds (vn y * d) (n * vd y) else vn y * d + n * vd y) * vd (mkF neg (rN p G r neg n d) (rS p G n d)) * 2 ^ K := fun h => by
    rw [Nat.mul_right_comm A, Nat.mul_right_comm _ (vd _) (2 ^ K)]
    exact Nat.mul_le_mul_right _ h
  rw [Nat.mul_right_comm A]
  refine key ?_
  by_cases hs : y.neg = neg
  · rw [if_pos hs, dy]
    refine Nat.mul_le_mul_right _ ?_
    rcases hy with ⟨h0, _⟩ | hy
    · rw [h0, Nat.zero_mul, Nat.zero_mul]
      unfold ds
      omega
    · rw [← hA]; exact (near_same p G r hr neg hp hn hd hy K k1 k2).1
  · rw [if_neg hs, Nat.add_mul]
    refine Nat.le_trans (Nat.le_trans (Nat.mul_le_mul_right _ hle) (Nat.le_of_eq ?_)) (Nat.le_add_left _ _)
    exact Nat.mul_right_comm _ _ _
/-- The greatest float. -/
theorem inF_top {p : Nat} {G : Int} {M : Nat} {E : Int} (h : inF p G M E) : le2 M E (2 ^ p - 1) (G - p + 1) := by
  obtain ⟨h1, h2, h3⟩ := h
  have hpp := Nat.two_pow_pos p
  by_cases hE : E ≤ G - p + 1
  · have h4 : M ≤ 2 ^ p - 1 := by
      have := bl_lt M
      have := Nat.pow_le_pow_right (show 0 < 2 by decide) h1
      omega
    refine le2_trans (le2_mul h4 E) ?_
    unfold le2
    rw [show (E - (G - p + 1)).toNat = 0 by omega, Nat.pow_zero, Nat.mul_one]
    exact Nat.le_mul_of_pos_right _ (Nat.two_pow_pos _)
  · unfold le2
    rw [show (G - p + 1 - E).toNat = 0 by omega, Nat.pow_zero, Nat.mul_one]
    by_cases h0 : M = 0
    · rw [h0, Nat.zero_mul]; exact Nat.zero_le _
    · have e := bl_mul M (E - (G - p + 1)).toNat h0
      have h5 := bl_lt (M * 2 ^ (E - (G - p + 1)).toNat)
      have := Nat.pow_le_pow_right (show 0 < 2 by decide) (show bl (M * 2 ^ (E - (G - p + 1)).toNat) ≤ p by omega)
      omega
theorem quoN_floor (r : Nat) (neg : Bool) (n d : Nat) (h : ∀ o x, moreF r neg o x = false) : quoN r neg n d = n / d := by
  unfold quoN
  rw [h, if_neg (by decide), Nat.add_zero]
theorem quoN_ceil (r : Nat) (neg : Bool) (n d : Nat) (hd : 0 < d) (h : ∀ o x, moreF r neg o x = decide (0 < x)) : n ≤ quoN r neg n d * d := by
  have h1 := Nat.div_add_mod n d
  have h2 := Nat.mod_lt n hd
  rw [Nat.mul_comm] at h1
  unfold quoN
  rw [h]
  by_cases h0 : n % d = 0
  · rw [Nat.add_mul]; omega
  · have h3 : 0 < restC (n % d) d := by unfold restC; rw [if_neg h0]; split <;> (try split) <;> decide
    rw [if_pos (decT h3), Nat.add_mul, Nat.one_mul]
    omega
/-- The value of a made float against a fraction. -/
theorem vn_le (neg : Bool) (N : Nat) (s : Int) (n d : Nat) : (N * de d s ≤ nu n s → vn (mkF neg N s) * d ≤ n * vd (mkF neg N s)) ∧ (nu n s ≤ N * de d s → n * vd (mkF neg N s) ≤ vn (mkF neg N s) * d) := by
  obtain ⟨K, hK⟩ : ∃ K : Nat, 0 ≤ s + K := ⟨(-s).toNat, by omega⟩
  have hv := vn_mk neg N s K hK
  obtain ⟨e1, e2⟩ := nu_scale n d s K hK
  have ea : vn (mkF neg N s) * d * 2 ^ K = N * (d * 2 ^ (s + K).toNat) * vd (mkF neg N s) := by
    rw [Nat.mul_right_comm, hv, Nat.mul_comm d, ← Nat.mul_assoc]
    exact Nat.mul_right_comm _ _ _
  have eb : n * vd (mkF neg N s) * 2 ^ K = n * 2 ^ K * vd (mkF neg N s) := Nat.mul_right_comm _ _ _
  constructor
  · intro h
    refine Nat.le_of_mul_le_mul_right ?_ (Nat.two_pow_pos K)
    rw [ea, eb, ← e1, ← e2, ← Nat.mul_assoc]
    exact Nat.mul_le_mul_right _ (Nat.mul_le_mul_right _ h)
  · intro h
    refine Nat.le_of_mul_le_mul_right ?_ (Nat.two_pow_pos K)
    rw [ea, eb, ← e1, ← e2, ← Nat.mul_assoc]
    exact Nat.mul_le_mul_right _ (Nat.mul_le_mul_right _ h)
theorem leM_val {x y : FV} {n d : Nat} (hx : x.kind = 1) (hy : y.kind = 1) (h : le2 x.mag x.exp y.mag y.exp) (hv : vn y * d ≤ n * vd y) : vn x * d ≤ n * vd x := by
  obtain ⟨K, k1, k2⟩ : ∃ K : Nat, 0 ≤ x.exp + K ∧ 0 ≤ y.exp + K := ⟨(-x.exp).toNat + (-y.exp).toNat, by omega⟩
  rw [le2_iff K k1 k2] at h
  have e1 := vn_scale x K k1
  have e2 := vn_scale y K k2
  generalize x.mag * 2 ^ (x.exp + K).toNat = A at *
  generalize y.mag * 2 ^ (y.exp + K).toNat = B at *
  have h1 : B * d ≤ n * 2 ^ K := by
    refine Nat.le_of_mul_le_mul_right ?_ (vd_pos y)
    rw [Nat.mul_right_comm, ← e2, Nat.mul_right_comm, Nat.mul_right_comm n]
    exact Nat.mul_le_mul_right _ hv
  refine Nat.le_of_mul_le_mul_right ?_ (Nat.two_pow_pos K)
  rw [Nat.mul_right_comm, e1, Nat.mul_right_comm, Nat.mul_right_comm n]
  exact Nat.mul_le_mul_right _ (Nat.le_trans (Nat.mul_le_mul_right _ h) h1)
/-- A number lies between its two neighbours, and no other float does. -/
theorem enclosed (p : Nat) (G : Int) (rl rh : Nat) (neg : Bool) {n d : Nat} (hp : 2 ≤ p) (hG : 1 ≤ G) (hn : n ≠ 0) (hd : d ≠ 0) (hl : grtF rl neg = true) (hll : ∀ o x, moreF rl neg o x = false) (hh : grtF rh neg = false) (hhh : ∀ o x, moreF rh neg o x = decide (0 < x)) :
    (rndF p G rl neg n d).1.kind ≤ 1 ∧ vn (rndF p G rl neg n d).1 * d ≤ n * vd (rndF p G rl neg n d).1 ∧
    ((rndF p G rh neg n d).1.kind = 2 ∨ (rndF p G rh neg n d).1.kind ≤ 1 ∧ n * vd (rndF p G rh neg n d).1 ≤ vn (rndF p G rh neg n d).1 * d) ∧
    ∀ z : FV, z.kind = 1 → z.mag ≠ 0 → inF p G z.mag z.exp → leM z (rndF p G rl neg n d).1 ∨ leM (rndF p G rh neg n d).1 z := by
  have hd' := Nat.pos_of_ne_zero hd
  have hlo : rN p G rl neg n d = nu n (rS p G n d) / de d (rS p G n d) := quoN_floor rl neg _ _ hll
  have hhi : nu n (rS p G n d) ≤ rN p G rh neg n d * de d (rS p G n d) := quoN_ceil rh neg _ _ (de_pos _ hd') hhh
  have hlo2 : rN p G rl neg n d * de d (rS p G n d) ≤ nu n (rS p G n d) := by rw [hlo]; exact Nat.div_mul_le_self _ _
  have hover : overF p G rl neg = topF p G neg := by unfold overF; rw [if_pos hl]
  have hoverh : overF p G rh neg = infF neg := by unfold overF; rw [if_neg (by rw [hh]; decide)]
  have hz0 := rnd_over0 p G rl neg hp hG hn hd
  have hz0h := rnd_over0 p G rh neg hp hG hn hd
  have htop := rnd_leTop p G rl neg hp hG hn hd
  have hbt := fun (M : Nat) (E : Int) => between p G rl rh neg (M := M) (E := E) hp hG hn hd
  rw [rndF_eq, rndF_eq]
  have hval := vn_le neg (rN p G rl neg n d) (rS p G n d) n d
  have hvalh := vn_le neg (rN p G rh neg n d) (rS p G n d) n d
  have hpp : 2 ^ 1 ≤ 2 ^ p := Nat.pow_le_pow_right (by decide) (by omega)
  -- what is too great
  have hbig : ∀ N : Nat, G < (bl N : Int) + rS p G n d - 1 → N ≠ 0 → ∀ M E, le2 N (rS p G n d) M E → ¬ le2 M E (2 ^ p - 1) (G - p + 1) := fun N h h0 M E h1 h2 => by
    have h3 := (le2_bl h0 (le2_trans h1 h2)).1
    have : bl (2 ^ p - 1) ≤ p := bl_le (by omega)
    omega
  have hmk := fun (N : Nat) (h0 : N ≠ 0) => mkF_val neg N (rS p G n d) h0
  generalize rN p G rl neg n d = N at *
  generalize rN p G rh neg n d = N' at *
  have kmk : ∀ N : Nat, (mkF neg N (rS p G n d)).kind ≤ 1 := fun N => by
    unfold mkF; split
    · exact Nat.zero_le _
    · exact Nat.le_refl _
  refine ⟨?_, ?_, ?_, ?_⟩
  · split
    · rw [hover]; exact Nat.le_refl _
    · exact kmk N
  · split
    · rename_i ho
      rw [hover]
      have h0 : N ≠ 0 := fun h0 => by subst h0; exact hz0 rfl ho
      obtain ⟨m1, m2, m3, m4, m5⟩ := hmk N h0
      have hle : le2 (topF p G neg).mag (topF p G neg).exp (mkF neg N (rS p G n d)).mag (mkF neg N (rS p G n d)).exp := by
        refine le2_trans ?_ m4
        refine (szF_le (show 2 ^ p - 1 ≠ 0 by omega) h0).1 ?_
        unfold szF topF
        have : bl (2 ^ p - 1) ≤ p := bl_le (by omega)
        simp only
        rw [if_pos (by omega), sgnI_le]
        omega
      exact leM_val rfl m1 hle (hval.1 hlo2)
    · exact hval.1 hlo2
  · split
    · left; rw [hoverh]; rfl
    · exact .inr ⟨kmk N', hvalh.2 hhi⟩
  · intro z z1 z2 z3
    have zt := inF_top z3
    by_cases ho : G < (bl N : Int) + rS p G n d - 1
    · rw [if_pos ho, hover]
      exact .inl (.inr (.inr ⟨z1, rfl, zt⟩))
    · rw [if_neg ho]
      rcases hbt z.mag z.exp z3 z2 hlo with h | ⟨h1, h2⟩
      · left
        have h0 := (le2_bl z2 h).2
        obtain ⟨m1, m2, m3, m4, m5⟩ := hmk N h0
        exact .inr (.inr ⟨z1, m1, le2_trans h m4⟩)
      · right
        have h3 := le2_trans (le2_mul h1 (rS p G n d)) h2
        by_cases h0 : N' = 0
        · subst h0
          rw [if_neg (hz0h rfl)]
          left
          unfold mkF
          rw [if_pos rfl]
        · rw [if_neg (fun ho' => hbig N' ho' h0 _ _ h3 zt)]
          obtain ⟨m1, m2, m3, m4, m5⟩ := hmk N' h0
          exact .inr (.inr ⟨m1, z1, le2_trans m5 h3⟩)
/-- The numbers of a rounded float are small. -/
theorem rndF_small (p : Nat) (G : Int) (r : Nat) (neg : Bool) {n d : Nat} (hp : 2 ≤ p) (hG : 1 ≤ G) (hn : n ≠ 0) (hd : d ≠ 0) (hk : (rndF p G r neg n d).1.kind = 1) : bl (rndF p G r neg n d).1.mag ≤ p + 1 ∧ -G - p ≤ (rndF p G r neg n d).1.exp ∧ (rndF p G r neg n d).1.exp ≤ G + 1 ∧ ∃ j, (rndF p G r neg n d).1.mag = 2 * j + 1 := by
  have h1 := rnd_le p G r neg hn hd
  have h2 := stpF_max p G (lg n d)
  have hs : rS p G n d = stpF p G (lg n d) := rfl
  have ht : ∃ j, 2 ^ p - 1 = 2 * j + 1 := by
    have : 2 ^ p = 2 * (2 * 2 ^ (p - 2)) := by rw [← Nat.pow_succ', ← Nat.pow_succ']; congr 1; omega
    have := Nat.two_pow_pos (p - 2)
    exact ⟨2 * 2 ^ (p - 2) - 1, by omega⟩
  rw [rndF_eq] at hk ⊢
  generalize rN p G r neg n d = N at *
  generalize rS p G n d = s at *
  by_cases ho : G < (bl N : Int) + s - 1
  · rw [if_pos ho] at hk ⊢
    unfold overF at hk ⊢
    split
    · have : bl (2 ^ p - 1) ≤ p := bl_le (by have := Nat.two_pow_pos p; omega)
      exact ⟨by show bl (2 ^ p - 1) ≤ p + 1; omega, by show -G - p ≤ G - p + 1; omega, by show G - p + 1 ≤ G + 1; omega, ht⟩
    · rename_i hg
      rw [if_neg hg] at hk
      cases hk
  · rw [if_neg ho] at hk ⊢
    simp only at hk ⊢
    by_cases h0 : N = 0
    · subst h0; unfold mkF at hk; rw [if_pos rfl] at hk; cases hk
    · obtain ⟨m, hm⟩ := tz_spec h0
      have e : mkF neg N s = ⟨1, neg, s + tz N, 2 * m + 1⟩ := by
        conv => lhs; rw [hm, Nat.mul_comm]
        exact mkF_odd neg m _ s
      have e2 : bl N = bl (2 * m + 1) + tz N := by
        conv => lhs; rw [hm, Nat.mul_comm]
        exact bl_mul _ _ (by omega)
      have hb : bl N ≤ p + 1 := bl_le (Nat.lt_of_le_of_lt h1 (Nat.pow_lt_pow_right (by decide) (by omega)))
      rw [e]
      have := (bl_spec (n := 2 * m + 1) (by omega)).2.2
      exact ⟨by show bl (2 * m + 1) ≤ p + 1; omega, by show -G - p ≤ s + tz N; omega, by show s + tz N ≤ G + 1; omega, m, rfl⟩
theorem enc_facts (p : Nat) (G : Int) (neg : Bool) {n d : Nat} (hp : 2 ≤ p) (hG : 1 ≤ G) (hn : n ≠ 0) (hd : d ≠ 0) (x y : FV) (hx : x = (rndF p G 4 neg n d).1) (hy : y = (rndF p G 3 neg n d).1) :
    (x.kind = 2 → x.neg = true) ∧ (y.kind = 2 → y.neg = false) ∧
    (x.kind ≤ 1 → (if x.neg = true then -(vn x : Int) else vn x) * d ≤ (if neg = true then -(n : Int) else n) * vd x) ∧
    (y.kind ≤ 1 → (if neg = true then -(n : Int) else n) * vd y ≤ (if y.neg = true then -(vn y : Int) else vn y) * d) ∧
    ∀ z : FV, (z.kind = 0 ∨ z.kind = 2 ∨ z.kind = 1 ∧ z.mag ≠ 0 ∧ inF p G z.mag z.exp) → cpF z x ≤ 0 ∨ 0 ≤ cpF z y := by
  obtain ⟨f1, f2⟩ := rndF_fine p G 4 neg n d hp
  obtain ⟨g1, g2⟩ := rndF_fine p G 3 neg n d hp
  have zfine : ∀ z : FV, (z.kind = 0 ∨ z.kind = 2 ∨ z.kind = 1 ∧ z.mag ≠ 0 ∧ inF p G z.mag z.exp) → fineF z := fun z h => ⟨by omega, fun h1 => by
    rcases h with h | h | h
    · omega
    · omega
    · exact h.2.1⟩
  have zle : ∀ X Y : FV, (∀ z : FV, z.kind = 1 → z.mag ≠ 0 → inF p G z.mag z.exp → leM z X ∨ leM Y z) → ∀ z : FV, (z.kind = 0 ∨ z.kind = 2 ∨ z.kind = 1 ∧ z.mag ≠ 0 ∧ inF p G z.mag z.exp) → leM z X ∨ leM Y z := fun X Y h z hz => by
    rcases hz with hz | hz | hz
    · exact .inl (.inl hz)
    · exact .inr (.inr (.inl hz))
    · exact h z hz.1 hz.2.1 hz.2.2
  cases neg with
  | false =>
    obtain ⟨a1, a2, a3, a4⟩ := enclosed p G 4 3 false hp hG hn hd rfl (fun o x => by unfold moreF; simp) rfl (fun o x => by unfold moreF; simp)
    rw [← hx] at f1 f2 a1 a2 a4
    rw [← hy] at g1 g2 a3 a4
    refine ⟨fun h => by omega, fun _ => g2, fun _ => ?_, fun h => ?_, fun z hz => ?_⟩
    · rw [f2, if_neg (by decide), if_neg (by decide), ← Int.natCast_mul, ← Int.natCast_mul]
      exact Int.ofNat_le.2 a2
    · rw [g2, if_neg (by decide), if_neg (by decide), ← Int.natCast_mul, ← Int.natCast_mul]
      rcases a3 with a3 | a3
      · omega
      · exact Int.ofNat_le.2 a3.2
    · have hzf := zfine z hz
      cases hzn : z.neg with
      | true => exact .inl (cpF_mixed hzf f1 hzn f2)
      | false =>
        rcases zle x y a4 z hz with h | h
        · exact .inl (cpF_pos hzf f1 hzn f2 h)
        · right
          have := cpF_pos g1 hzf g2 hzn h
          rw [cpF_neg]
          omega
  | true =>
    obtain ⟨a1, a2, a3, a4⟩ := enclosed p G 3 4 true hp hG hn hd rfl (fun o x => by unfold moreF; simp) rfl (fun o x => by unfold moreF; simp)
    rw [← hx] at f1 f2 a3 a4
    rw [← hy] at g1 g2 a1 a2 a4
    refine ⟨fun _ => f2, fun h => by omega, fun h => ?_, fun _ => ?_, fun z hz => ?_⟩
    · rw [f2, if_pos rfl, if_pos rfl, Int.neg_mul, Int.neg_mul, ← Int.natCast_mul, ← Int.natCast_mul]
      rcases a3 with a3 | a3
      · omega
      · have := a3.2; omega
    · rw [g2, if_pos rfl, if_pos rfl, Int.neg_mul, Int.neg_mul, ← Int.natCast_mul, ← Int.natCast_mul]
      omega
    · have hzf := zfine z hz
      cases hzn : z.neg with
      | false =>
        right
        have := cpF_mixed g1 hzf g2 hzn
        rw [cpF_neg]
        omega
      | true =>
        rcases zle y x a4 z hz with h | h
        · right
          have := cpF_negs hzf g1 hzn g2 h
          rw [cpF_neg] at this
          omega
        · exact .inl (cpF_negs f1 hzf f2 hzn h)
end Go.Proofs
