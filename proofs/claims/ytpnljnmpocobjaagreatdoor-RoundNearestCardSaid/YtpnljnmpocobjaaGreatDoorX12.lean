/-
  Plain lemmas, with no program in sight.
-/
import Derived.Test.YtpnljnmpocobjaaGreatDoorX11
import Derived.Test.YtpnljnmpocobjaaGreatDoorX8
import Derived.Test.YtpnljnmpocobjaaGreatDoorX7
import Derived.Test.YtpnljnmpocobjaaGreatDoorX10
import Derived.Test.YtpnljnmpocobjaaGreatDoorX6
set_option maxRecDepth 100000
set_option linter.unusedVariables false
namespace Go.Proofs
open Go.Ax
def sgnI (z : Int) : Int := if z < 0 then -1 else if 0 < z then 1 else 0
def rkF (x : FV) : Int := if x.neg = true then -(if x.kind = 2 then 2 else if x.kind = 1 then 1 else 0) else (if x.kind = 2 then 2 else if x.kind = 1 then 1 else 0)
/-- The sizes of two finite floats. -/
def szF (m : Nat) (e : Int) (m' : Nat) (e' : Int) : Int :=
  if (bl m : Int) - 1 + e ≠ (bl m' : Int) - 1 + e' then sgnI ((bl m : Int) - 1 + e - ((bl m' : Int) - 1 + e'))
  else if e' ≤ e then cmpI (m * 2 ^ (e - e').toNat) m' else cmpI m (m' * 2 ^ (e' - e).toNat)
def cpF (x y : FV) : Int :=
  if rkF x ≠ rkF y ∨ (rkF x ≠ 1 ∧ rkF x ≠ -1) then sgnI (rkF x - rkF y)
  else if rkF x < 0 then -szF x.mag x.exp y.mag y.exp else szF x.mag x.exp y.mag y.exp
theorem le2_bl {a b : Nat} {i j : Int} (ha : a ≠ 0) (h : le2 a i b j) : (bl a : Int) + i ≤ bl b + j ∧ b ≠ 0 := by
  obtain ⟨K, h1, h2⟩ : ∃ K : Nat, 0 ≤ i + K ∧ 0 ≤ j + K := ⟨(-i).toNat + (-j).toNat, by omega⟩
  rw [le2_iff K h1 h2] at h
  have hb : b ≠ 0 := fun h0 => by
    rw [h0, Nat.zero_mul, Nat.le_zero, Nat.mul_eq_zero] at h
    have := Nat.two_pow_pos (i + K).toNat
    omega
  refine ⟨?_, hb⟩
  have e1 := bl_mul a (i + K).toNat ha
  have e2 := bl_mul b (j + K).toNat hb
  have h0 : a * 2 ^ (i + K).toNat ≠ 0 := Nat.mul_ne_zero ha (Nat.ne_of_gt (Nat.two_pow_pos _))
  have h3 : bl (a * 2 ^ (i + K).toNat) ≤ bl (b * 2 ^ (j + K).toNat) := bl_le (Nat.lt_of_le_of_lt h (bl_lt _))
  omega
theorem cmpI_le {a b : Nat} : cmpI a b ≤ 0 ↔ a ≤ b := by unfold cmpI; split <;> (try split) <;> omega
theorem cmpI_neg (a b : Nat) : cmpI b a = -cmpI a b := by unfold cmpI; split <;> (try split) <;> (try split) <;> omega
theorem sgnI_le {z : Int} : sgnI z ≤ 0 ↔ z ≤ 0 := by unfold sgnI; split <;> (try split) <;> omega
theorem sgnI_neg (z : Int) : sgnI (-z) = -sgnI z := by unfold sgnI; split <;> (try split) <;> (try split) <;> omega
theorem szF_neg (m : Nat) (e : Int) (m' : Nat) (e' : Int) : szF m' e' m e = -szF m e m' e' := by
  unfold szF
  by_cases h : (bl m : Int) - 1 + e = (bl m' : Int) - 1 + e'
  · rw [if_neg (not_not_intro h.symm), if_neg (not_not_intro h)]
    by_cases h1 : e = e'
    · subst h1
      rw [if_pos (Int.le_refl _), if_pos (Int.le_refl _), Int.sub_self]
      simp only [Int.toNat_zero, Nat.pow_zero, Nat.mul_one]
      exact cmpI_neg _ _
    · by_cases h2 : e' ≤ e
      · rw [if_neg (show ¬ e ≤ e' by omega), if_pos h2]; exact cmpI_neg _ _
      · rw [if_pos (show e ≤ e' by omega), if_neg h2]; exact cmpI_neg _ _
  · rw [if_pos (fun h0 => h h0.symm), if_pos h, ← sgnI_neg]
    congr 1
    omega
theorem szF_le {m m' : Nat} {e e' : Int} (hm : m ≠ 0) (hm' : m' ≠ 0) : szF m e m' e' ≤ 0 ↔ le2 m e m' e' := by
  have hbl : ∀ {a b : Nat} {i j : Int}, a ≠ 0 → b ≠ 0 → (bl a : Int) + i < bl b + j → le2 a i b j := fun {a b i j} ha hb hlt => by
    obtain ⟨a1, a2, a3⟩ := bl_spec ha
    obtain ⟨b1, b2, b3⟩ := bl_spec hb
    have h1 := le2_mul (Nat.le_of_lt a2) i
    have h2 := (le2_shift 1 (bl a) i).1
    have h3 := (le2_shift 1 (bl b - 1) j).2
    have h4 := le2_mul b1 j
    rw [Nat.one_mul] at h2 h3
    exact le2_trans h1 (le2_trans h2 (le2_trans (le2_pow (by omega)) (le2_trans h3 h4)))
  unfold szF
  by_cases h : (bl m : Int) - 1 + e = (bl m' : Int) - 1 + e'
  · rw [if_neg (by omega)]
    by_cases h2 : e' ≤ e
    · rw [if_pos h2, cmpI_le]
      unfold le2
      rw [show (e' - e).toNat = 0 by omega, Nat.pow_zero, Nat.mul_one]
    · rw [if_neg h2, cmpI_le]
      unfold le2
      rw [show (e - e').toNat = 0 by omega, Nat.pow_zero, Nat.mul_one]
  · rw [if_pos (by omega), sgnI_le]
    constructor
    · intro h0; exact hbl hm hm' (by omega)
    · intro h0; have := (le2_bl hm h0).1; omega
theorem cpF_neg (x y : FV) : cpF y x = -cpF x y := by
  unfold cpF
  by_cases h : rkF x = rkF y
  · rw [h]
    by_cases h1 : rkF y = 1 ∨ rkF y = -1
    · have h2 : ¬ (rkF y ≠ rkF y ∨ (rkF y ≠ 1 ∧ rkF y ≠ -1)) := by omega
      rw [if_neg h2, if_neg h2]
      split
      · rw [szF_neg]
      · rw [szF_neg]
    · have h2 : (rkF y ≠ rkF y ∨ (rkF y ≠ 1 ∧ rkF y ≠ -1)) := by omega
      rw [if_pos h2, if_pos h2, Int.sub_self]; rfl
  · rw [if_pos (.inl (fun h0 => h h0.symm)), if_pos (.inl h), ← sgnI_neg]
    congr 1
    omega
/-- The size of the one is at most that of the other one. -/
def leM (x y : FV) : Prop := x.kind = 0 ∨ y.kind = 2 ∨ (x.kind = 1 ∧ y.kind = 1 ∧ le2 x.mag x.exp y.mag y.exp)
def fineF (x : FV) : Prop := x.kind ≤ 2 ∧ (x.kind = 1 → x.mag ≠ 0)
theorem cpF_pos {x y : FV} (hx : fineF x) (hy : fineF y) (h1 : x.neg = false) (h2 : y.neg = false) (h : leM x y) : cpF x y ≤ 0 := by
  unfold cpF rkF
  rw [h1, h2]
  simp only [Bool.false_eq_true, if_false]
  obtain ⟨x1, x2⟩ := hx
  obtain ⟨y1, y2⟩ := hy
  have kx : x.kind = 0 ∨ x.kind = 1 ∨ x.kind = 2 := by omega
  have ky : y.kind = 0 ∨ y.kind = 1 ∨ y.kind = 2 := by omega
  unfold leM at h
  rcases kx with kx | kx | kx <;> rcases ky with ky | ky | ky <;> simp [kx, ky, sgnI] at h ⊢
  exact (szF_le (x2 kx) (y2 ky)).2 h
theorem cpF_negs {x y : FV} (hx : fineF x) (hy : fineF y) (h1 : x.neg = true) (h2 : y.neg = true) (h : leM x y) : cpF y x ≤ 0 := by
  unfold cpF rkF
  rw [h1, h2]
  simp only [if_true]
  obtain ⟨x1, x2⟩ := hx
  obtain ⟨y1, y2⟩ := hy
  have kx : x.kind = 0 ∨ x.kind = 1 ∨ x.kind = 2 := by omega
  have ky : y.kind = 0 ∨ y.kind = 1 ∨ y.kind = 2 := by omega
  unfold leM at h
  rcases kx with kx | kx | kx <;> rcases ky with ky | ky | ky <;> simp [kx, ky, sgnI] at h ⊢
  have := (szF_le (e := x.exp) (e' := y.exp) (x2 kx) (y2 ky)).2 h
  rw [szF_neg]
  omega
theorem cpF_mixed {x y : FV} (hx : fineF x) (hy : fineF y) (h1 : x.neg = true) (h2 : y.neg = false) : cpF x y ≤ 0 := by
  unfold cpF rkF
  rw [h1, h2]
  simp only [if_true, Bool.false_eq_true, if_false]
  obtain ⟨x1, x2⟩ := hx
  obtain ⟨y1, y2⟩ := hy
  have kx : x.kind = 0 ∨ x.kind = 1 ∨ x.kind = 2 := by omega
  have ky : y.kind = 0 ∨ y.kind = 1 ∨ y.kind = 2 := by omega
  rcases kx with kx | kx | kx <;> rcases ky with ky | ky | ky <;> simp [kx, ky, sgnI]
theorem mkF_val (neg : Bool) (N : Nat) (s : Int) (h : N ≠ 0) : (mkF neg N s).kind = 1 ∧ (mkF neg N s).neg = neg ∧ (mkF neg N s).mag ≠ 0 ∧ le2 N s (mkF neg N s).mag (mkF neg N s).exp ∧ le2 (mkF neg N s).mag (mkF neg N s).exp N s := by
  obtain ⟨m, hm⟩ := tz_spec h
  have e : mkF neg N s = ⟨1, neg, s + tz N, 2 * m + 1⟩ := by
    conv => lhs; rw [hm, Nat.mul_comm]
    exact mkF_odd neg m _ s
  rw [e]
  have h2 := le2_shift (2 * m + 1) (tz N) s
  have h3 : (2 * m + 1) * 2 ^ tz N = N := by rw [Nat.mul_comm]; exact hm.symm
  rw [h3] at h2
  exact ⟨rfl, rfl, Nat.succ_ne_zero _, h2.1, h2.2⟩
theorem rnd_le (p : Nat) (G : Int) (r : Nat) (neg : Bool) {n d : Nat} (hn : n ≠ 0) (hd : d ≠ 0) : rN p G r neg n d ≤ 2 ^ p := by
  refine rnd_top r neg n d hn hd p _ ?_
  have := stpF_max p G (lg n d)
  omega
/-- What is not too great is at most the greatest number. -/
theorem rnd_leTop (p : Nat) (G : Int) (r : Nat) (neg : Bool) {n d : Nat} (hp : 2 ≤ p) (hG : 1 ≤ G) (hn : n ≠ 0) (hd : d ≠ 0) (h : ¬ G < bl (rN p G r neg n d) + rS p G n d - 1) : le2 (rN p G r neg n d) (rS p G n d) (2 ^ p - 1) (G - p + 1) := by
  have h1 := rnd_le p G r neg hn hd
  have h2 := stpF_max p G (lg n d)
  have h4 : 1 - G ≤ lg n d → 2 ^ (p - 1) ≤ rN p G r neg n d := fun hh => Nat.le_trans (rnd_big r neg n d hn hd (p - 1) _ (by omega)) (quoN_ge r neg _ _)
  have hpp := Nat.two_pow_pos p
  have hs : rS p G n d = stpF p G (lg n d) := rfl
  generalize rN p G r neg n d = N at *
  rw [hs] at h ⊢
  by_cases hN : N = 2 ^ p
  · have hb : bl N = p + 1 := by rw [hN]; exact bl_eq (Nat.le_refl _) (Nat.pow_lt_pow_right (by decide) (by omega))
    rw [hb] at h
    have e1 := (le2_shift (2 ^ (p - 1)) 1 (stpF p G (lg n d))).1
    have e0 : 2 ^ (p - 1) * 2 ^ 1 = N := by rw [hN, ← Nat.pow_add]; congr 1; omega
    rw [e0] at e1
    refine le2_trans e1 ?_
    unfold le2
    rw [show (stpF p G (lg n d) + (1 : Nat) - (G - p + 1)).toNat = 0 by omega, Nat.pow_zero, Nat.mul_one]
    have h5 : 2 ^ p = 2 ^ (p - 1) * 2 := by rw [← Nat.pow_succ]; congr 1; omega
    have h6 : 2 ^ 1 ≤ 2 ^ (p - 1) := Nat.pow_le_pow_right (by decide) (by omega)
    exact Nat.le_trans (show 2 ^ (p - 1) ≤ 2 ^ p - 1 by omega) (Nat.le_mul_of_pos_right _ (Nat.two_pow_pos _))
  · have hs2 : stpF p G (lg n d) ≤ G - p + 1 := by
      by_cases hh : 1 - G ≤ lg n d
      · have := bl_ge (h4 hh); omega
      · omega
    refine le2_trans (le2_mul (show N ≤ 2 ^ p - 1 by omega) _) ?_
    unfold le2
    rw [show (stpF p G (lg n d) - (G - p + 1)).toNat = 0 by omega, Nat.pow_zero, Nat.mul_one]
    exact Nat.le_mul_of_pos_right _ (Nat.two_pow_pos _)
theorem rndF_fine (p : Nat) (G : Int) (r : Nat) (neg : Bool) (n d : Nat) (hp : 2 ≤ p) : fineF (rndF p G r neg n d).1 ∧ (rndF p G r neg n d).1.neg = neg := by
  have hpp : 2 ^ 1 ≤ 2 ^ p := Nat.pow_le_pow_right (by decide) (by omega)
  unfold rndF
  split
  · unfold overF
    split
    · exact ⟨⟨by show 1 ≤ 2; decide, fun _ => by show 2 ^ p - 1 ≠ 0; omega⟩, rfl⟩
    · exact ⟨⟨by show 2 ≤ 2; decide, fun h => by cases h⟩, rfl⟩
  · generalize quoN r neg (nu n (stpF p G (lg n d))) (de d (stpF p G (lg n d))) = N
    simp only
    by_cases h0 : N = 0
    · unfold mkF; rw [if_pos h0]; exact ⟨⟨by show 0 ≤ 2; decide, fun h => by cases h⟩, rfl⟩
    · obtain ⟨k1, k2, k3, _⟩ := mkF_val neg N (stpF p G (lg n d)) h0
      exact ⟨⟨by omega, fun _ => k3⟩, k2⟩
theorem rnd_over0 (p : Nat) (G : Int) (r : Nat) (neg : Bool) {n d : Nat} (hp : 2 ≤ p) (hG : 1 ≤ G) (hn : n ≠ 0) (hd : d ≠ 0) (h : rN p G r neg n d = 0) : ¬ G < (bl 0 : Int) + rS p G n d - 1 := by
  have h2 := stpF_max p G (lg n d)
  have hpp := Nat.two_pow_pos (p - 1)
  have h4 : 1 - G ≤ lg n d → 2 ^ (p - 1) ≤ rN p G r neg n d := fun hh => Nat.le_trans (rnd_big r neg n d hn hd (p - 1) _ (by omega)) (quoN_ge r neg _ _)
  have hs : rS p G n d = stpF p G (lg n d) := rfl
  rw [h] at h4
  have : bl 0 = 0 := by decide
  rw [hs, this]
  by_cases hh : 1 - G ≤ lg n d
  · have := h4 hh; omega
  · omega
theorem overF_kind (p : Nat) (G : Int) (r : Nat) (neg : Bool) : (overF p G r neg).kind = 2 ∨ (overF p G r neg).kind = 1 ∧ (overF p G r neg).mag = 2 ^ p - 1 ∧ (overF p G r neg).exp = G - p + 1 := by
  unfold overF
  split
  · exact .inr ⟨rfl, rfl, rfl⟩
  · exact .inl rfl
end Go.Proofs
set_option linter.unusedVariables false
namespace Go.Proofs
open Go.Ax
def ds (a b : Nat) : Nat := (a - b) + (b - a)
theorem quoN_near (r : Nat) (hr : r ≤ 1) (neg : Bool) (n d : Nat) (hd : 0 < d) (j : Nat) : ds (quoN r neg n d * d) n ≤ ds (j * d) n := by
  have h1 := Nat.div_add_mod n d
  have h2 := Nat.mod_lt n hd
  rw [Nat.mul_comm] at h1
  have hN : quoN r neg n d = n / d ∧ 2 * (n % d) ≤ d ∨ quoN r neg n d = n / d + 1 ∧ d ≤ 2 * (n % d) := by
    unfold quoN moreF restC
    have h3 : r = 0 ∨ r = 1 := by omega
    by_cases hx0 : n % d = 0
    · left; refine ⟨?_, by omega⟩
      rcases h3 with rfl | rfl <;> simp [hx0]
    · by_cases hx1 : 2 * (n % d) < d
      · left; refine ⟨?_, by omega⟩
        rcases h3 with rfl | rfl <;> simp [hx0, hx1]
      · by_cases hx2 : 2 * (n % d) = d
        · rcases h3 with rfl | rfl
          · by_cases ho : n / d % 2 = 1
            · right; exact ⟨by simp [hx0, hx2, ho], by omega⟩
            · left; exact ⟨by simp [hx0, hx2, ho], by omega⟩
          · right; exact ⟨by simp [hx0, hx2], by omega⟩
        · right; refine ⟨?_, by omega⟩
          rcases h3 with rfl | rfl <;> simp [hx0, hx1, hx2]
  generalize n / d = q at *
  generalize n % d = x at *
  have hj : j ≤ q ∨ q + 1 ≤ j := by omega
  have e0 : (q + 1) * d = q * d + d := Nat.succ_mul _ _
  have hjd : j * d ≤ q * d ∨ (q + 1) * d ≤ j * d := by
    rcases hj with hj | hj
    · exact .inl (Nat.mul_le_mul_right _ hj)
    · exact .inr (Nat.mul_le_mul_right _ hj)
  unfold ds
  rcases hN with ⟨hN, hx⟩ | ⟨hN, hx⟩
  · rw [hN]; omega
  · rw [hN, e0]; omega
theorem nu_de (n d : Nat) (s : Int) (K : Nat) (h : 0 ≤ s + K) (r : Nat) (neg : Bool) : quoN r neg (nu n s) (de d s) = quoN r neg (n * 2 ^ K) (d * 2 ^ (s + K).toNat) := (quo_nu r neg n d s K h).1.symm
/-- A finite number of the format. -/
def inF (p : Nat) (G : Int) (M : Nat) (E : Int) : Prop := bl M ≤ p ∧ 1 - G - (p - 1) ≤ E ∧ bl M + E ≤ G + 1
/-- What is finer than the step is less than the number. -/
theorem fine_lt (p : Nat) (G : Int) {n d M : Nat} {E : Int} (hp : 2 ≤ p) (hn : n ≠ 0) (hd : d ≠ 0) (h : inF p G M E) (hE : E < rS p G n d) (K : Nat) (hK : 0 ≤ E + K) :
    M * 2 ^ (E + K).toNat * d ≤ 2 ^ (p - 1) * (d * 2 ^ (rS p G n d + K).toNat) ∧ 2 ^ (p - 1) * (d * 2 ^ (rS p G n d + K).toNat) ≤ n * 2 ^ K := by
  obtain ⟨h1, h2, h3⟩ := h
  have hs := stpF_max p G (lg n d)
  have hrs : rS p G n d = stpF p G (lg n d) := rfl
  rw [hrs] at hE ⊢
  constructor
  · rw [Nat.mul_comm d, ← Nat.mul_assoc]
    refine Nat.mul_le_mul_right _ ?_
    calc M * 2 ^ (E + K).toNat ≤ 2 ^ p * 2 ^ (E + K).toNat := Nat.mul_le_mul_right _ (Nat.le_trans (Nat.le_of_lt (bl_lt M)) (Nat.pow_le_pow_right (by decide) h1))
      _ = 2 ^ (p + (E + K).toNat) := (Nat.pow_add ..).symm
      _ ≤ 2 ^ (p - 1 + (stpF p G (lg n d) + K).toNat) := Nat.pow_le_pow_right (by decide) (by omega)
      _ = 2 ^ (p - 1) * 2 ^ (stpF p G (lg n d) + K).toNat := Nat.pow_add ..
  · have hg := (lg_spec hn hd).1
    rw [ge2_iff K (by omega)] at hg
    refine Nat.le_trans (Nat.le_of_eq ?_) hg
    rw [Nat.mul_left_comm, ← Nat.pow_add]
    congr 2
    omega
theorem near_same (p : Nat) (G : Int) (r : Nat) (hr : r ≤ 1) (neg : Bool) {n d M : Nat} {E : Int} (hp : 2 ≤ p) (hn : n ≠ 0) (hd : d ≠ 0) (h : inF p G M E) (K : Nat) (hK : 0 ≤ E + K) (hK2 : 0 ≤ rS p G n d + K) :
    ds (rN p G r neg n d * (d * 2 ^ (rS p G n d + K).toNat)) (n * 2 ^ K) ≤ ds (M * 2 ^ (E + K).toNat * d) (n * 2 ^ K) ∧ ds (rN p G r neg n d * (d * 2 ^ (rS p G n d + K).toNat)) (n * 2 ^ K) ≤ n * 2 ^ K := by
  have hpos : 0 < d * 2 ^ (rS p G n d + K).toNat := Nat.mul_pos (Nat.pos_of_ne_zero hd) (Nat.two_pow_pos _)
  have hq : rN p G r neg n d = quoN r neg (n * 2 ^ K) (d * 2 ^ (rS p G n d + K).toNat) := nu_de n d _ K hK2 r neg
  rw [hq]
  have key := fun j => quoN_near r hr neg (n * 2 ^ K) (d * 2 ^ (rS p G n d + K).toNat) hpos j
  constructor
  · rcases Int.lt_or_le E (rS p G n d) with hE | hE
    · obtain ⟨a1, a2⟩ := fine_lt p G hp hn hd h hE K hK
      refine Nat.le_trans (key (2 ^ (p - 1))) ?_
      unfold ds
      omega
    · have := key (M * 2 ^ (E - rS p G n d).toNat)
      have e : M * 2 ^ (E - rS p G n d).toNat * (d * 2 ^ (rS p G n d + K).toNat) = M * 2 ^ (E + K).toNat * d := by
        rw [show (E + K).toNat = (E - rS p G n d).toNat + (rS p G n d + K).toNat by omega, Nat.pow_add, Nat.mul_comm d, ← Nat.mul_assoc, ← Nat.mul_assoc]
      rwa [e] at this
  · have := key 0
    unfold ds at this ⊢
    omega
/-- No float lies between a number, rounded down and rounded up (in size). -/
theorem between (p : Nat) (G : Int) (r r' : Nat) (neg : Bool) {n d M : Nat} {E : Int} (hp : 2 ≤ p) (hG : 1 ≤ G) (hn : n ≠ 0) (hd : d ≠ 0) (h : inF p G M E) (h0 : M ≠ 0)
    (hlo : rN p G r neg n d = nu n (rS p G n d) / de d (rS p G n d)) : le2 M E (rN p G r neg n d) (rS p G n d) ∨ (rN p G r' neg n d ≤ rN p G r neg n d + 1 ∧ le2 (rN p G r neg n d + 1) (rS p G n d) M E) := by
  obtain ⟨K, k1, k2⟩ : ∃ K : Nat, 0 ≤ E + K ∧ 0 ≤ rS p G n d + K := ⟨(-E).toNat + (-rS p G n d).toNat, by omega⟩
  have hd' := Nat.pos_of_ne_zero hd
  rcases Int.lt_or_le E (rS p G n d) with hE | hE
  · left
    obtain ⟨h1, h2, h3⟩ := h
    have hs := stpF_max p G (lg n d)
    have hrs : rS p G n d = stpF p G (lg n d) := rfl
    have hbig : 2 ^ (p - 1) ≤ rN p G r neg n d := Nat.le_trans (rnd_big r neg n d hn hd (p - 1) _ (by omega)) (quoN_ge r neg _ _)
    rw [le2_iff K k1 k2]
    calc M * 2 ^ (E + K).toNat ≤ 2 ^ p * 2 ^ (E + K).toNat := Nat.mul_le_mul_right _ (Nat.le_trans (Nat.le_of_lt (bl_lt M)) (Nat.pow_le_pow_right (by decide) h1))
      _ = 2 ^ (p + (E + K).toNat) := (Nat.pow_add ..).symm
      _ ≤ 2 ^ (p - 1 + (rS p G n d + K).toNat) := Nat.pow_le_pow_right (by decide) (by omega)
      _ = 2 ^ (p - 1) * 2 ^ (rS p G n d + K).toNat := Nat.pow_add ..
      _ ≤ rN p G r neg n d * 2 ^ (rS p G n d + K).toNat := Nat.mul_le_mul_right _ hbig
  · obtain ⟨j, hj⟩ : ∃ j, M * 2 ^ (E - rS p G n d).toNat = j := ⟨_, rfl⟩
    have hM := le2_shift M (E - rS p G n d).toNat (rS p G n d)
    rw [hj, show rS p G n d + (E - rS p G n d).toNat = E by omega] at hM
    rcases Nat.lt_or_ge (rN p G r neg n d) j with hlt | hge
    · right
      refine ⟨?_, le2_trans (le2_mul hlt _) hM.1⟩
      rw [hlo]
      show quoN r' neg (nu n (rS p G n d)) (de d (rS p G n d)) ≤ _
      unfold quoN
      split <;> omega
    · left
      exact le2_trans hM.2 (le2_mul hge _)
end Go.Proofs
set_option linter.unusedVariables false
set_option linter.unusedSimpArgs false
namespace Go.Proofs
open Go.Ax
abbrev okFm (k p : Int) : Prop := (2 ≤ k ∧ k ≤ 15) ∧ 2 ≤ p ∧ p ≤ 256
/-- The greatest exponent of a format. -/
def gF (k : Nat) : Int := ((2 ^ (k - 1) : Nat) : Int) - 1
theorem gF_le {k : Nat} (h1 : 2 ≤ k) (h2 : k ≤ 15) : 1 ≤ gF k ∧ gF k ≤ 16383 := by
  unfold gF
  have h3 : 2 ^ 1 ≤ 2 ^ (k - 1) := Nat.pow_le_pow_right (by decide) (by omega)
  have h4 : 2 ^ (k - 1) ≤ 2 ^ 14 := Nat.pow_le_pow_right (by decide) (by omega)
  omega
theorem shlG {k : Nat} (h1 : 2 ≤ k) (h2 : k ≤ 15) : ((1 * 2 ^ min (k - 1) IntKind.i64.bits : Nat) : Int) = gF k + 1 := by
  unfold gF
  rw [show min (k - 1) IntKind.i64.bits = k - 1 from Nat.min_eq_left (by show k - 1 ≤ 64; omega)]
  omega
set_option maxRecDepth 100000 in
set_option maxHeartbeats 4000000 in
theorem ret_fCheck (k p : Int) : Ret Tryz.prog GEs 73 [.agg [i64 k, i64 p]] (i64 (if okFm k p then 0 else 150)) := by
  by_cases a1 : k < 2
  · rw [if_neg (show ¬ okFm k p by omega)]
    refine RetN_start Tryz.func73 (by kernel_rfl) rfl fun Q hQ hQ2 => ?_; rw [Tryz.ntmps73]; simp only [u, i64, Nat.reduceSub, Nat.reduceAdd, bm]
    repeat (first | ((first | refine Gs ?_ | refine Gr ?_); simp (disch := omega) only [u, i64, ax, eq_self, if_true, if_false, Nat.reduceAdd, Int.reduceToNat, Int.reduceAdd, tvs, bs]; refine aA ?_) | refine G_seq ?_ | refine G_block ?_ | refine G_condT rfl ?_ | refine G_condF rfl ?_ | refine G_skip ?_ | refine G_ret ?_ | refine G_exit ?_ | refine q_tn ?_ | refine q_tr ?_ | refine q_tx ?_ | refine q_bn ?_ | refine q_br ?_ | refine q_bx ?_ | refine q_by (by decide) ?_)
    (refine FinQ hQ (congrArg Array.toList Tryz.results73) _ _ ?_); simp (disch := omega) only [u, i64, ax, if_true, forall_const, reduceCtorEq, implies_true, tvs, bf]
  by_cases a2 : 15 < k
  · rw [if_neg (show ¬ okFm k p by omega)]
    refine RetN_start Tryz.func73 (by kernel_rfl) rfl fun Q hQ hQ2 => ?_; rw [Tryz.ntmps73]; simp only [u, i64, Nat.reduceSub, Nat.reduceAdd, bm]
    repeat (first | ((first | refine Gs ?_ | refine Gr ?_); simp (disch := omega) only [u, i64, ax, eq_self, if_true, if_false, Nat.reduceAdd, Int.reduceToNat, Int.reduceAdd, tvs, bs]; refine aA ?_) | refine G_seq ?_ | refine G_block ?_ | refine G_condT rfl ?_ | refine G_condF rfl ?_ | refine G_skip ?_ | refine G_ret ?_ | refine G_exit ?_ | refine q_tn ?_ | refine q_tr ?_ | refine q_tx ?_ | refine q_bn ?_ | refine q_br ?_ | refine q_bx ?_ | refine q_by (by decide) ?_)
    (refine FinQ hQ (congrArg Array.toList Tryz.results73) _ _ ?_); simp (disch := omega) only [u, i64, ax, if_true, forall_const, reduceCtorEq, implies_true, tvs, bf]
  by_cases a3 : p < 2
  · rw [if_neg (show ¬ okFm k p by omega)]
    refine RetN_start Tryz.func73 (by kernel_rfl) rfl fun Q hQ hQ2 => ?_; rw [Tryz.ntmps73]; simp only [u, i64, Nat.reduceSub, Nat.reduceAdd, bm]
    repeat (first | ((first | refine Gs ?_ | refine Gr ?_); simp (disch := omega) only [u, i64, ax, eq_self, if_true, if_false, Nat.reduceAdd, Int.reduceToNat, Int.reduceAdd, tvs, bs]; refine aA ?_) | refine G_seq ?_ | refine G_block ?_ | refine G_condT rfl ?_ | refine G_condF rfl ?_ | refine G_skip ?_ | refine G_ret ?_ | refine G_exit ?_ | refine q_tn ?_ | refine q_tr ?_ | refine q_tx ?_ | refine q_bn ?_ | refine q_br ?_ | refine q_bx ?_ | refine q_by (by decide) ?_)
    (refine FinQ hQ (congrArg Array.toList Tryz.results73) _ _ ?_); simp (disch := omega) only [u, i64, ax, if_true, forall_const, reduceCtorEq, implies_true, tvs, bf]
  by_cases a4 : 256 < p
  · rw [if_neg (show ¬ okFm k p by omega)]
    refine RetN_start Tryz.func73 (by kernel_rfl) rfl fun Q hQ hQ2 => ?_; rw [Tryz.ntmps73]; simp only [u, i64, Nat.reduceSub, Nat.reduceAdd, bm]
    repeat (first | ((first | refine Gs ?_ | refine Gr ?_); simp (disch := omega) only [u, i64, ax, eq_self, if_true, if_false, Nat.reduceAdd, Int.reduceToNat, Int.reduceAdd, tvs, bs]; refine aA ?_) | refine G_seq ?_ | refine G_block ?_ | refine G_condT rfl ?_ | refine G_condF rfl ?_ | refine G_skip ?_ | refine G_ret ?_ | refine G_exit ?_ | refine q_tn ?_ | refine q_tr ?_ | refine q_tx ?_ | refine q_bn ?_ | refine q_br ?_ | refine q_bx ?_ | refine q_by (by decide) ?_)
    (refine FinQ hQ (congrArg Array.toList Tryz.results73) _ _ ?_); simp (disch := omega) only [u, i64, ax, if_true, forall_const, reduceCtorEq, implies_true, tvs, bf]
  rw [if_pos (show okFm k p by omega)]
  refine RetN_start Tryz.func73 (by kernel_rfl) rfl fun Q hQ hQ2 => ?_; rw [Tryz.ntmps73]; simp only [u, i64, Nat.reduceSub, Nat.reduceAdd, bm]
  repeat (first | ((first | refine Gs ?_ | refine Gr ?_); simp (disch := omega) only [u, i64, ax, eq_self, if_true, if_false, Nat.reduceAdd, Int.reduceToNat, Int.reduceAdd, tvs, bs]; refine aA ?_) | refine G_seq ?_ | refine G_block ?_ | refine G_condT rfl ?_ | refine G_condF rfl ?_ | refine G_skip ?_ | refine G_ret ?_ | refine G_exit ?_ | refine q_tn ?_ | refine q_tr ?_ | refine q_tx ?_ | refine q_bn ?_ | refine q_br ?_ | refine q_bx ?_ | refine q_by (by decide) ?_)
  (refine FinQ hQ (congrArg Array.toList Tryz.results73) _ _ ?_); simp (disch := omega) only [u, i64, ax, if_true, forall_const, reduceCtorEq, implies_true, tvs, bf]
set_option maxRecDepth 100000 in
set_option maxHeartbeats 1000000 in
theorem ret_fRange (k p : Nat) (h : okFm k p) : Ret Tryz.prog GEs 89 [.agg [i64 k, i64 p]] (.tup [i64 (1 - gF k), i64 (gF k), i64 (1 - gF k - ((p - 1 : Nat) : Int)), i64 0]) := by
  have hC := ret_fCheck k p
  rw [if_pos h] at hC
  have hk : 2 ≤ k ∧ k ≤ 15 := by omega
  have hg := gF_le (k := k) (by omega) (by omega)
  refine RetN_start Tryz.func89 (by kernel_rfl) rfl fun Q hQ hQ2 => ?_; rw [Tryz.ntmps89]; simp only [u, i64, Nat.reduceSub, Nat.reduceAdd, bm]
  repeat (first | ((first | refine Gs ?_ | refine Gr ?_); simp (disch := omega) only [u, i64, ax, eq_self, if_true, if_false, Nat.reduceAdd, Int.reduceToNat, Int.reduceAdd, tvs, bs]; first | refine aA ?_ | (refine cR hC ?_; simp (disch := omega) only [u, i64, ax, eq_self, if_true, if_false, Nat.reduceAdd, Int.reduceToNat, Int.reduceAdd, tvs, bs]; try refine aA ?_)) | (refine cR hC ?_; simp (disch := omega) only [u, i64, ax, eq_self, if_true, if_false, Nat.reduceAdd, Int.reduceToNat, Int.reduceAdd, tvs, bs]; try refine aA ?_) | refine G_seq ?_ | refine G_block ?_ | refine G_condT rfl ?_ | refine G_condF rfl ?_ | refine G_skip ?_ | refine G_ret ?_ | refine G_exit ?_ | refine q_tn ?_ | refine q_tr ?_ | refine q_tx ?_ | refine q_bn ?_ | refine q_br ?_ | refine q_bx ?_ | refine q_by (by decide) ?_)
  (refine FinQ hQ (congrArg Array.toList Tryz.results89) _ _ ?_); simp (disch := omega) only [u, i64, ax, if_true, forall_const, reduceCtorEq, implies_true, tvs, bf]
  rw [shlG hk.1 hk.2, wrapI (gF k + 1) (by omega) (by omega), Int.add_sub_cancel, wrapI (gF k) (by omega) (by omega), wrapI (1 - gF k) (by omega) (by omega), wrapI (1 - gF k - ((p - 1 : Nat) : Int)) (by omega) (by omega)]
end Go.Proofs
set_option linter.unusedVariables false
set_option linter.unusedSimpArgs false
namespace Go.Proofs
open Go.Ax
/-- A float. -/
def flv (x : FV) : AV := .agg [i64 x.kind, .bool x.neg, i64 x.exp, nat x.mag]
theorem bl_len (n : Nat) : bl n ≤ 64 * (words n).length := by
  have h := lt_pow_of_length (Nat.le_refl (words n).length)
  rw [Bpow] at h
  exact bl_le h
theorem le_pow_words {m p k : Nat} (hm : m ≤ 2 ^ p) (h : p < 64 * k) : (words m).length ≤ k := length_le (by
  rw [Bpow]
  exact Nat.lt_of_le_of_lt hm (Nat.pow_lt_pow_right (by decide) h))
theorem tz_le_bl (n : Nat) : tz n ≤ bl n := by
  by_cases h : n = 0
  · subst h; decide
  · obtain ⟨m, hm⟩ := tz_spec h
    have h1 : 2 ^ tz n ≤ n := by
      conv => rhs; rw [hm]
      exact Nat.le_mul_of_pos_right _ (by omega)
    have := bl_ge h1
    omega
set_option maxRecDepth 100000 in
set_option maxHeartbeats 1000000 in
theorem ret_finStep (k p : Nat) (h : okFm k p) (e : Int) (h1 : -4611686018427387904 ≤ e) (h2 : e ≤ 4611686018427387904) : Ret Tryz.prog GEs 91 [.agg [i64 k, i64 p], i64 e] (i64 (stpF p (gF k) e)) := by
  have hR := ret_fRange k p h
  have hg := gF_le (k := k) (by omega) (by omega)
  generalize gF k = G at *
  unfold stpF
  rw [show ((p : Int) - 1) = ((p - 1 : Nat) : Int) by omega]
  by_cases he : e < 1 - G
  · rw [if_pos he]
    refine RetN_start Tryz.func91 (by kernel_rfl) rfl fun Q hQ hQ2 => ?_; rw [Tryz.ntmps91]; simp only [u, i64, Nat.reduceSub, Nat.reduceAdd, bm]
    repeat (first | ((first | refine Gs ?_ | refine Gr ?_); simp (disch := omega) only [u, i64, ax, eq_self, if_true, if_false, Nat.reduceAdd, Int.reduceToNat, Int.reduceAdd, tvs, bs]; first | refine aA ?_ | (refine cR hR ?_; simp (disch := omega) only [u, i64, ax, eq_self, if_true, if_false, Nat.reduceAdd, Int.reduceToNat, Int.reduceAdd, tvs, bs]; try refine aA ?_)) | (refine cR hR ?_; simp (disch := omega) only [u, i64, ax, eq_self, if_true, if_false, Nat.reduceAdd, Int.reduceToNat, Int.reduceAdd, tvs, bs]; try refine aA ?_) | refine G_seq ?_ | refine G_block ?_ | refine G_condT rfl ?_ | refine G_condF rfl ?_ | refine G_skip ?_ | refine G_ret ?_ | refine G_exit ?_ | refine q_tn ?_ | refine q_tr ?_ | refine q_tx ?_ | refine q_bn ?_ | refine q_br ?_ | refine q_bx ?_ | refine q_by (by decide) ?_)
    (refine FinQ hQ (congrArg Array.toList Tryz.results91) _ _ ?_); simp (disch := omega) only [u, i64, ax, if_true, forall_const, reduceCtorEq, implies_true, tvs, bf]
  · rw [if_neg he]
    refine RetN_start Tryz.func91 (by kernel_rfl) rfl fun Q hQ hQ2 => ?_; rw [Tryz.ntmps91]; simp only [u, i64, Nat.reduceSub, Nat.reduceAdd, bm]
    repeat (first | ((first | refine Gs ?_ | refine Gr ?_); simp (disch := omega) only [u, i64, ax, eq_self, if_true, if_false, Nat.reduceAdd, Int.reduceToNat, Int.reduceAdd, tvs, bs]; first | refine aA ?_ | (refine cR hR ?_; simp (disch := omega) only [u, i64, ax, eq_self, if_true, if_false, Nat.reduceAdd, Int.reduceToNat, Int.reduceAdd, tvs, bs]; try refine aA ?_)) | (refine cR hR ?_; simp (disch := omega) only [u, i64, ax, eq_self, if_true, if_false, Nat.reduceAdd, Int.reduceToNat, Int.reduceAdd, tvs, bs]; try refine aA ?_) | refine G_seq ?_ | refine G_block ?_ | refine G_condT rfl ?_ | refine G_condF rfl ?_ | refine G_skip ?_ | refine G_ret ?_ | refine G_exit ?_ | refine q_tn ?_ | refine q_tr ?_ | refine q_tx ?_ | refine q_bn ?_ | refine q_br ?_ | refine q_bx ?_ | refine q_by (by decide) ?_)
    (refine FinQ hQ (congrArg Array.toList Tryz.results91) _ _ ?_); simp (disch := omega) only [u, i64, ax, if_true, forall_const, reduceCtorEq, implies_true, tvs, bf]
theorem ret_greatest (r : Nat) (hr : r ≤ 4) (neg : Bool) : Ret Tryz.prog GEs 227 [i64 r, .bool neg] (.bool (grtF r neg)) := by
  have h1 : r = 0 ∨ r = 1 ∨ r = 2 ∨ r = 3 ∨ r = 4 := by omega
  rcases h1 with rfl | rfl | rfl | rfl | rfl <;> cases neg <;> exact ran (n := 20) (by kernel_rfl)
set_option maxRecDepth 100000 in
set_option maxHeartbeats 1000000 in
theorem ret_finMake (neg : Bool) (N : Nat) (s : Int) (hN : (words N).length ≤ 4294967296) (h1 : -4611686018427387904 ≤ s) (h2 : s ≤ 4611686018427387904) : Ret Tryz.prog GEs 229 [.bool neg, nat N, i64 s] (flv (mkF neg N s)) := by
  have hZ := ret_Zero (words N) (Wd_words _) (by omega)
  rw [val_words] at hZ
  have hT := ret_Trailing (words N) (Wd_words _) (by omega)
  rw [val_words] at hT
  have hb := bl_len N
  have ht := tz_le_bl N
  have hS := ret_Shr (words N) (tz N) (Wd_words _) (by omega) (by omega)
  rw [val_words] at hS
  unfold mkF flv
  by_cases h0 : N = 0
  · rw [if_pos h0]
    rw [decT h0] at hZ
    refine RetN_start Tryz.func229 (by kernel_rfl) rfl fun Q hQ hQ2 => ?_; rw [Tryz.ntmps229]; simp only [u, i64, Nat.reduceSub, Nat.reduceAdd, bm]
    repeat (first | ((first | refine Gs ?_ | refine Gr ?_); simp (disch := omega) only [u, i64, ax, eq_self, if_true, if_false, Nat.reduceAdd, Int.reduceToNat, Int.reduceAdd, tvs, bs]; first | refine aA ?_ | (refine cR hZ ?_; simp (disch := omega) only [u, i64, ax, eq_self, if_true, if_false, Nat.reduceAdd, Int.reduceToNat, Int.reduceAdd, tvs, bs]; try refine aA ?_)) | (refine cR hZ ?_; simp (disch := omega) only [u, i64, ax, eq_self, if_true, if_false, Nat.reduceAdd, Int.reduceToNat, Int.reduceAdd, tvs, bs]; try refine aA ?_) | refine G_seq ?_ | refine G_block ?_ | refine G_condT rfl ?_ | refine G_condF rfl ?_ | refine G_skip ?_ | refine G_ret ?_ | refine G_exit ?_ | refine q_tn ?_ | refine q_tr ?_ | refine q_tx ?_ | refine q_bn ?_ | refine q_br ?_ | refine q_bx ?_ | refine q_by (by decide) ?_)
    (refine FinQ hQ (congrArg Array.toList Tryz.results229) _ _ ?_); simp (disch := omega) only [u, i64, ax, if_true, forall_const, reduceCtorEq, implies_true, tvs, bf]
    rfl
  · rw [if_neg h0]
    rw [decF h0] at hZ
    refine RetN_start Tryz.func229 (by kernel_rfl) rfl fun Q hQ hQ2 => ?_; rw [Tryz.ntmps229]; simp only [u, i64, Nat.reduceSub, Nat.reduceAdd, bm]
    repeat (first | ((first | refine Gs ?_ | refine Gr ?_); simp (disch := omega) only [u, i64, ax, eq_self, if_true, if_false, Nat.reduceAdd, Int.reduceToNat, Int.reduceAdd, tvs, bs]; first | refine aA ?_ | ((first | refine cR hZ ?_ | refine cR hT ?_ | refine cR hS ?_); simp (disch := omega) only [u, i64, ax, eq_self, if_true, if_false, Nat.reduceAdd, Int.reduceToNat, Int.reduceAdd, tvs, bs]; try refine aA ?_)) | ((first | refine cR hZ ?_ | refine cR hT ?_ | refine cR hS ?_); simp (disch := omega) only [u, i64, ax, eq_self, if_true, if_false, Nat.reduceAdd, Int.reduceToNat, Int.reduceAdd, tvs, bs]; try refine aA ?_) | refine G_seq ?_ | refine G_block ?_ | refine G_condT rfl ?_ | refine G_condF rfl ?_ | refine G_skip ?_ | refine G_ret ?_ | refine G_exit ?_ | refine q_tn ?_ | refine q_tr ?_ | refine q_tx ?_ | refine q_bn ?_ | refine q_br ?_ | refine q_bx ?_ | refine q_by (by decide) ?_)
    (refine FinQ hQ (congrArg Array.toList Tryz.results229) _ _ ?_); simp (disch := omega) only [u, i64, ax, if_true, forall_const, reduceCtorEq, implies_true, tvs, bf]
    rfl
set_option maxRecDepth 100000 in
set_option maxHeartbeats 1000000 in
theorem ret_cut (q t : Nat) (ht : 1 ≤ t) (ht2 : t ≤ 1099511627776) (hq : (words q).length ≤ 274877906944) (sticky : Bool) : Ret Tryz.prog GEs 226 [nat q, i64 t, .bool sticky] (.tup [nat (q / 2 ^ t), i64 (cutC q t sticky)]) := by
  have hB := ret_Bit (words q) (t - 1) (Wd_words _) (by omega) (by omega)
  rw [val_words] at hB
  have hL := ret_Below (words q) (t - 1) (Wd_words _) (by omega) (by omega)
  rw [val_words] at hL
  have hS := ret_Shr (words q) t (Wd_words _) (by omega) (by omega)
  rw [val_words] at hS
  unfold cutC
  cases sticky with
  | true =>
    by_cases hb : q / 2 ^ (t - 1) % 2 = 1
    · rw [decT hb] at hB
      rw [if_pos hb, Bool.true_or, if_pos rfl]
      refine RetN_start Tryz.func226 (by kernel_rfl) rfl fun Q hQ hQ2 => ?_; rw [Tryz.ntmps226]; simp only [u, i64, Nat.reduceSub, Nat.reduceAdd, bm]
      repeat (first | ((first | refine Gs ?_ | refine Gr ?_); simp (disch := omega) only [u, i64, ax, eq_self, if_true, if_false, Nat.reduceAdd, Int.reduceToNat, Int.reduceAdd, tvs, bs]; first | refine aA ?_ | ((first | refine cR hB ?_ | refine cR hS ?_); simp (disch := omega) only [u, i64, ax, eq_self, if_true, if_false, Nat.reduceAdd, Int.reduceToNat, Int.reduceAdd, tvs, bs]; try refine aA ?_)) | ((first | refine cR hB ?_ | refine cR hS ?_); simp (disch := omega) only [u, i64, ax, eq_self, if_true, if_false, Nat.reduceAdd, Int.reduceToNat, Int.reduceAdd, tvs, bs]; try refine aA ?_) | refine G_seq ?_ | refine G_block ?_ | refine G_condT rfl ?_ | refine G_condF rfl ?_ | refine G_skip ?_ | refine G_ret ?_ | refine G_exit ?_ | refine q_tn ?_ | refine q_tr ?_ | refine q_tx ?_ | refine q_bn ?_ | refine q_br ?_ | refine q_bx ?_ | refine q_by (by decide) ?_)
      (refine FinQ hQ (congrArg Array.toList Tryz.results226) _ _ ?_); simp (disch := omega) only [u, i64, ax, if_true, forall_const, reduceCtorEq, implies_true, tvs, bf]
      rfl
    · rw [decF hb] at hB
      rw [if_neg hb, Bool.true_or, if_pos rfl]
      refine RetN_start Tryz.func226 (by kernel_rfl) rfl fun Q hQ hQ2 => ?_; rw [Tryz.ntmps226]; simp only [u, i64, Nat.reduceSub, Nat.reduceAdd, bm]
      repeat (first | ((first | refine Gs ?_ | refine Gr ?_); simp (disch := omega) only [u, i64, ax, eq_self, if_true, if_false, Nat.reduceAdd, Int.reduceToNat, Int.reduceAdd, tvs, bs]; first | refine aA ?_ | ((first | refine cR hB ?_ | refine cR hS ?_); simp (disch := omega) only [u, i64, ax, eq_self, if_true, if_false, Nat.reduceAdd, Int.reduceToNat, Int.reduceAdd, tvs, bs]; try refine aA ?_)) | ((first | refine cR hB ?_ | refine cR hS ?_); simp (disch := omega) only [u, i64, ax, eq_self, if_true, if_false, Nat.reduceAdd, Int.reduceToNat, Int.reduceAdd, tvs, bs]; try refine aA ?_) | refine G_seq ?_ | refine G_block ?_ | refine G_condT rfl ?_ | refine G_condF rfl ?_ | refine G_skip ?_ | refine G_ret ?_ | refine G_exit ?_ | refine q_tn ?_ | refine q_tr ?_ | refine q_tx ?_ | refine q_bn ?_ | refine q_br ?_ | refine q_bx ?_ | refine q_by (by decide) ?_)
      (refine FinQ hQ (congrArg Array.toList Tryz.results226) _ _ ?_); simp (disch := omega) only [u, i64, ax, if_true, forall_const, reduceCtorEq, implies_true, tvs, bf]
      rfl
  | false =>
    by_cases hb : q / 2 ^ (t - 1) % 2 = 1
    · rw [decT hb] at hB
      rw [if_pos hb, Bool.false_or]
      by_cases hl : q % 2 ^ (t - 1) ≠ 0
      · rw [decT hl] at hL ⊢
        rw [if_pos rfl]
        refine RetN_start Tryz.func226 (by kernel_rfl) rfl fun Q hQ hQ2 => ?_; rw [Tryz.ntmps226]; simp only [u, i64, Nat.reduceSub, Nat.reduceAdd, bm]
        repeat (first | ((first | refine Gs ?_ | refine Gr ?_); simp (disch := omega) only [u, i64, ax, eq_self, if_true, if_false, Nat.reduceAdd, Int.reduceToNat, Int.reduceAdd, tvs, bs]; first | refine aA ?_ | ((first | refine cR hB ?_ | refine cR hL ?_ | refine cR hS ?_); simp (disch := omega) only [u, i64, ax, eq_self, if_true, if_false, Nat.reduceAdd, Int.reduceToNat, Int.reduceAdd, tvs, bs]; try refine aA ?_)) | ((first | refine cR hB ?_ | refine cR hL ?_ | refine cR hS ?_); simp (disch := omega) only [u, i64, ax, eq_self, if_true, if_false, Nat.reduceAdd, Int.reduceToNat, Int.reduceAdd, tvs, bs]; try refine aA ?_) | refine G_seq ?_ | refine G_block ?_ | refine G_condT rfl ?_ | refine G_condF rfl ?_ | refine G_skip ?_ | refine G_ret ?_ | refine G_exit ?_ | refine q_tn ?_ | refine q_tr ?_ | refine q_tx ?_ | refine q_bn ?_ | refine q_br ?_ | refine q_bx ?_ | refine q_by (by decide) ?_)
        (refine FinQ hQ (congrArg Array.toList Tryz.results226) _ _ ?_); simp (disch := omega) only [u, i64, ax, if_true, forall_const, reduceCtorEq, implies_true, tvs, bf]
        rfl
      · rw [decF hl] at hL ⊢
        rw [if_neg (by decide)]
        refine RetN_start Tryz.func226 (by kernel_rfl) rfl fun Q hQ hQ2 => ?_; rw [Tryz.ntmps226]; simp only [u, i64, Nat.reduceSub, Nat.reduceAdd, bm]
        repeat (first | ((first | refine Gs ?_ | refine Gr ?_); simp (disch := omega) only [u, i64, ax, eq_self, if_true, if_false, Nat.reduceAdd, Int.reduceToNat, Int.reduceAdd, tvs, bs]; first | refine aA ?_ | ((first | refine cR hB ?_ | refine cR hL ?_ | refine cR hS ?_); simp (disch := omega) only [u, i64, ax, eq_self, if_true, if_false, Nat.reduceAdd, Int.reduceToNat, Int.reduceAdd, tvs, bs]; try refine aA ?_)) | ((first | refine cR hB ?_ | refine cR hL ?_ | refine cR hS ?_); simp (disch := omega) only [u, i64, ax, eq_self, if_true, if_false, Nat.reduceAdd, Int.reduceToNat, Int.reduceAdd, tvs, bs]; try refine aA ?_) | refine G_seq ?_ | refine G_block ?_ | refine G_condT rfl ?_ | refine G_condF rfl ?_ | refine G_skip ?_ | refine G_ret ?_ | refine G_exit ?_ | refine q_tn ?_ | refine q_tr ?_ | refine q_tx ?_ | refine q_bn ?_ | refine q_br ?_ | refine q_bx ?_ | refine q_by (by decide) ?_)
        (refine FinQ hQ (congrArg Array.toList Tryz.results226) _ _ ?_); simp (disch := omega) only [u, i64, ax, if_true, forall_const, reduceCtorEq, implies_true, tvs, bf]
        rfl
    · rw [decF hb] at hB
      rw [if_neg hb, Bool.false_or]
      by_cases hl : q % 2 ^ (t - 1) ≠ 0
      · rw [decT hl] at hL ⊢
        rw [if_pos rfl]
        refine RetN_start Tryz.func226 (by kernel_rfl) rfl fun Q hQ hQ2 => ?_; rw [Tryz.ntmps226]; simp only [u, i64, Nat.reduceSub, Nat.reduceAdd, bm]
        repeat (first | ((first | refine Gs ?_ | refine Gr ?_); simp (disch := omega) only [u, i64, ax, eq_self, if_true, if_false, Nat.reduceAdd, Int.reduceToNat, Int.reduceAdd, tvs, bs]; first | refine aA ?_ | ((first | refine cR hB ?_ | refine cR hL ?_ | refine cR hS ?_); simp (disch := omega) only [u, i64, ax, eq_self, if_true, if_false, Nat.reduceAdd, Int.reduceToNat, Int.reduceAdd, tvs, bs]; try refine aA ?_)) | ((first | refine cR hB ?_ | refine cR hL ?_ | refine cR hS ?_); simp (disch := omega) only [u, i64, ax, eq_self, if_true, if_false, Nat.reduceAdd, Int.reduceToNat, Int.reduceAdd, tvs, bs]; try refine aA ?_) | refine G_seq ?_ | refine G_block ?_ | refine G_condT rfl ?_ | refine G_condF rfl ?_ | refine G_skip ?_ | refine G_ret ?_ | refine G_exit ?_ | refine q_tn ?_ | refine q_tr ?_ | refine q_tx ?_ | refine q_bn ?_ | refine q_br ?_ | refine q_bx ?_ | refine q_by (by decide) ?_)
        (refine FinQ hQ (congrArg Array.toList Tryz.results226) _ _ ?_); simp (disch := omega) only [u, i64, ax, if_true, forall_const, reduceCtorEq, implies_true, tvs, bf]
        rfl
      · rw [decF hl] at hL ⊢
        rw [if_neg (by decide)]
        refine RetN_start Tryz.func226 (by kernel_rfl) rfl fun Q hQ hQ2 => ?_; rw [Tryz.ntmps226]; simp only [u, i64, Nat.reduceSub, Nat.reduceAdd, bm]
        repeat (first | ((first | refine Gs ?_ | refine Gr ?_); simp (disch := omega) only [u, i64, ax, eq_self, if_true, if_false, Nat.reduceAdd, Int.reduceToNat, Int.reduceAdd, tvs, bs]; first | refine aA ?_ | ((first | refine cR hB ?_ | refine cR hL ?_ | refine cR hS ?_); simp (disch := omega) only [u, i64, ax, eq_self, if_true, if_false, Nat.reduceAdd, Int.reduceToNat, Int.reduceAdd, tvs, bs]; try refine aA ?_)) | ((first | refine cR hB ?_ | refine cR hL ?_ | refine cR hS ?_); simp (disch := omega) only [u, i64, ax, eq_self, if_true, if_false, Nat.reduceAdd, Int.reduceToNat, Int.reduceAdd, tvs, bs]; try refine aA ?_) | refine G_seq ?_ | refine G_block ?_ | refine G_condT rfl ?_ | refine G_condF rfl ?_ | refine G_skip ?_ | refine G_ret ?_ | refine G_exit ?_ | refine q_tn ?_ | refine q_tr ?_ | refine q_tx ?_ | refine q_bn ?_ | refine q_br ?_ | refine q_bx ?_ | refine q_by (by decide) ?_)
        (refine FinQ hQ (congrArg Array.toList Tryz.results226) _ _ ?_); simp (disch := omega) only [u, i64, ax, if_true, forall_const, reduceCtorEq, implies_true, tvs, bf]
        rfl
end Go.Proofs
set_option linter.unusedVariables false
set_option linter.unusedSimpArgs false
namespace Go.Proofs
open Go.Ax
theorem ret_power (e : Int) : Ret Tryz.prog GEs 251 [i64 e] (.agg [i64 1, .bool false, i64 e, ws [1]]) := by
  refine RetN_start Tryz.func251 (by kernel_rfl) rfl fun Q hQ hQ2 => ?_; rw [Tryz.ntmps251]; simp only [u, i64, Nat.reduceSub, Nat.reduceAdd, bm]
  repeat (first | ((first | refine Gs ?_ | refine Gr ?_); simp (disch := omega) only [u, i64, ax, eq_self, if_true, if_false, Nat.reduceAdd, Int.reduceToNat, Int.reduceAdd, tvs, bs]; refine aA ?_) | refine G_seq ?_ | refine G_block ?_ | refine G_condT rfl ?_ | refine G_condF rfl ?_ | refine G_skip ?_ | refine G_ret ?_ | refine G_exit ?_ | refine q_tn ?_ | refine q_tr ?_ | refine q_tx ?_ | refine q_bn ?_ | refine q_br ?_ | refine q_bx ?_ | refine q_by (by decide) ?_)
  (refine FinQ hQ (congrArg Array.toList Tryz.results251) _ _ ?_); simp (disch := omega) only [u, i64, ax, if_true, forall_const, reduceCtorEq, implies_true, tvs, bf]
  rfl
set_option maxRecDepth 100000 in
set_option maxHeartbeats 1000000 in
theorem ret_Limits (k p : Nat) (h : okFm k p) : Ret Tryz.prog GEs 228 [.agg [i64 k, i64 p]]
    (.tup [flv (topF p (gF k) false), .agg [i64 1, .bool false, i64 (1 - gF k), ws [1]], .agg [i64 1, .bool false, i64 (1 - gF k - ((p - 1 : Nat) : Int)), ws [1]], i64 0]) := by
  have hR := ret_fRange k p h
  have hg := gF_le (k := k) (by omega) (by omega)
  have hS := ret_Shl [1] p (fun x hx => by simp at hx; subst hx; decide) (by decide) (by omega)
  rw [show val [1] = 1 from rfl, Nat.one_mul] at hS
  have hl : (words (2 ^ p)).length ≤ 5 := le_pow_words (Nat.le_refl _) (by omega)
  have hp1 := Nat.two_pow_pos p
  have hB := ret_Sub (words (2 ^ p)) [1] (Wd_words _) (fun x hx => by simp at hx; subst hx; decide) (by omega) (by decide) (by rw [val_words]; exact hp1)
  rw [val_words, show val [1] = 1 from rfl] at hB
  unfold flv topF
  generalize gF k = G at *
  refine RetN_start Tryz.func228 (by kernel_rfl) rfl fun Q hQ hQ2 => ?_; rw [Tryz.ntmps228]; simp only [u, i64, Nat.reduceSub, Nat.reduceAdd, bm]
  repeat (first | ((first | refine Gs ?_ | refine Gr ?_); simp (disch := omega) only [u, i64, ax, eq_self, if_true, if_false, Nat.reduceAdd, Int.reduceToNat, Int.reduceAdd, tvs, bs]; first | refine aA ?_ | ((first | refine cR hR ?_ | refine cR hS ?_ | refine cR hB ?_ | refine cR (ret_power (1 - G)) ?_ | refine cR (ret_power (1 - G - ((p - 1 : Nat) : Int))) ?_); simp (disch := omega) only [u, i64, ax, eq_self, if_true, if_false, Nat.reduceAdd, Int.reduceToNat, Int.reduceAdd, tvs, bs]; try refine aA ?_)) | ((first | refine cR hR ?_ | refine cR hS ?_ | refine cR hB ?_ | refine cR (ret_power (1 - G)) ?_ | refine cR (ret_power (1 - G - ((p - 1 : Nat) : Int))) ?_); simp (disch := omega) only [u, i64, ax, eq_self, if_true, if_false, Nat.reduceAdd, Int.reduceToNat, Int.reduceAdd, tvs, bs]; try refine aA ?_) | refine G_seq ?_ | refine G_block ?_ | refine G_condT rfl ?_ | refine G_condF rfl ?_ | refine G_skip ?_ | refine G_ret ?_ | refine G_exit ?_ | refine q_tn ?_ | refine q_tr ?_ | refine q_tx ?_ | refine q_bn ?_ | refine q_br ?_ | refine q_bx ?_ | refine q_by (by decide) ?_)
  (refine FinQ hQ (congrArg Array.toList Tryz.results228) _ _ ?_); simp (disch := omega) only [u, i64, ax, if_true, forall_const, reduceCtorEq, implies_true, tvs, bf]
  rfl
end Go.Proofs
set_option linter.unusedVariables false
set_option linter.unusedSimpArgs false
namespace Go.Proofs
open Go.Ax
set_option maxRecDepth 100000 in
set_option maxHeartbeats 2000000 in
theorem ret_Float (k p : Nat) (h : okFm k p) (r : Nat) (hr : r ≤ 4) (neg : Bool) (q : Nat) (exp : Int) (sticky : Bool) (hq : (words q).length ≤ 100000) (h1 : -1099511627776 ≤ exp) (h2 : exp ≤ 1099511627776)
    (hu : 1 ≤ stpF p (gF k) (exp + bl q - 1) - exp) :
    Ret Tryz.prog GEs 158 [.agg [i64 k, i64 p], i64 r, .bool neg, nat q, i64 exp, .bool sticky] (.tup [flv (finF p (gF k) r neg q exp sticky).1, i64 (finF p (gF k) r neg q exp sticky).2]) := by
  have hR := ret_fRange k p h
  have hLm : Ret Tryz.prog GEs 228 [.agg [i64 k, i64 p]] (.tup [.agg [i64 1, .bool false, i64 (gF k - p + 1), nat (2 ^ p - 1)], .agg [i64 1, .bool false, i64 (1 - gF k), ws [1]], .agg [i64 1, .bool false, i64 (1 - gF k - ((p - 1 : Nat) : Int)), ws [1]], i64 0]) := ret_Limits k p h
  have hg := gF_le (k := k) (by omega) (by omega)
  have hL := ret_Len (words q) (Wd_words _) (by omega)
  rw [val_words] at hL
  have hb := bl_len q
  have hSt := ret_finStep k p h (exp + bl q - 1) (by omega) (by omega)
  have hsm := stpF_max p (gF k) (exp + bl q - 1)
  unfold finF
  simp only
  generalize he : exp + bl q - 1 = e at *
  generalize gF k = G at *
  generalize stpF p G e = U at *
  have hsub : U - exp = (((U - exp).toNat : Nat) : Int) := by omega
  have ht1 : 1 ≤ (U - exp).toNat := by omega
  have ht2 : (U - exp).toNat ≤ 4398046511104 := by omega
  generalize (U - exp).toNat = t at *
  have hC := ret_cut q t ht1 (by omega) (by omega) sticky
  have hx : cutC q t sticky ≤ 3 := by unfold cutC; split <;> split <;> omega
  generalize cutC q t sticky = x at *
  have hql : (words (q / 2 ^ t)).length ≤ 100000 := Nat.le_trans (length_mono (Nat.div_le_self _ _)) hq
  have hU := ret_up r hr neg (q / 2 ^ t) (by omega) x hx
  have hNl := length_add (q / 2 ^ t) (if moreF r neg (decide (q / 2 ^ t % 2 = 1)) x = true then 1 else 0)
  have hNl2 : (words (if moreF r neg (decide (q / 2 ^ t % 2 = 1)) x = true then 1 else 0)).length ≤ 1 := length_le (by split <;> decide)
  generalize (q / 2 ^ t + if moreF r neg (decide (q / 2 ^ t % 2 = 1)) x = true then 1 else 0) = N at *
  have hLN := ret_Len (words N) (Wd_words _) (by omega)
  rw [val_words] at hLN
  have hbN := bl_len N
  by_cases hov : G < U + bl N - 1
  · rw [if_pos hov]
    have hGr := ret_greatest r hr neg
    unfold overF
    by_cases hgr : grtF r neg = true
    · rw [hgr] at hGr
      rw [if_pos hgr]
      refine RetN_start Tryz.func158 (by kernel_rfl) rfl fun Q hQ hQ2 => ?_; rw [Tryz.ntmps158]; simp only [u, i64, Nat.reduceSub, Nat.reduceAdd, bm]
      repeat (first | ((first | refine Gs ?_ | refine Gr ?_); simp (disch := omega) only [u, i64, ax, eq_self, if_true, if_false, Nat.reduceAdd, Int.reduceToNat, Int.reduceAdd, tvs, bs]; first | refine aA ?_ | ((first | refine cR hR ?_ | refine cR hL ?_); simp (disch := omega) only [u, i64, ax, eq_self, if_true, if_false, Nat.reduceAdd, Int.reduceToNat, Int.reduceAdd, tvs, bs]; try refine aA ?_)) | ((first | refine cR hR ?_ | refine cR hL ?_); simp (disch := omega) only [u, i64, ax, eq_self, if_true, if_false, Nat.reduceAdd, Int.reduceToNat, Int.reduceAdd, tvs, bs]; try refine aA ?_) | refine G_seq ?_ | refine G_block ?_ | refine G_condT rfl ?_ | refine G_condF rfl ?_ | refine G_skip ?_ | refine G_ret ?_ | refine G_exit ?_ | refine q_tn ?_ | refine q_tr ?_ | refine q_tx ?_ | refine q_bn ?_ | refine q_br ?_ | refine q_bx ?_ | refine q_by (by decide) ?_)
      ((first | refine Gs ?_ | refine Gr ?_); simp (disch := omega) only [u, i64, ax, eq_self, if_true, if_false, Nat.reduceAdd, Int.reduceToNat, Int.reduceAdd, tvs, bs])
      rw [he]
      repeat (first | ((first | refine Gs ?_ | refine Gr ?_); simp (disch := omega) only [u, i64, ax, eq_self, if_true, if_false, Nat.reduceAdd, Int.reduceToNat, Int.reduceAdd, tvs, bs]; first | refine aA ?_ | (refine cR hSt ?_; simp (disch := omega) only [u, i64, ax, eq_self, if_true, if_false, Nat.reduceAdd, Int.reduceToNat, Int.reduceAdd, tvs, bs]; try refine aA ?_)) | (refine cR hSt ?_; simp (disch := omega) only [u, i64, ax, eq_self, if_true, if_false, Nat.reduceAdd, Int.reduceToNat, Int.reduceAdd, tvs, bs]; try refine aA ?_) | refine G_seq ?_ | refine G_block ?_ | refine G_condT rfl ?_ | refine G_condF rfl ?_ | refine G_skip ?_ | refine G_ret ?_ | refine G_exit ?_ | refine q_tn ?_ | refine q_tr ?_ | refine q_tx ?_ | refine q_bn ?_ | refine q_br ?_ | refine q_bx ?_ | refine q_by (by decide) ?_)
      ((first | refine Gs ?_ | refine Gr ?_); simp (disch := omega) only [u, i64, ax, eq_self, if_true, if_false, Nat.reduceAdd, Int.reduceToNat, Int.reduceAdd, tvs, bs])
      rw [hsub]
      repeat (first | ((first | refine Gs ?_ | refine Gr ?_); simp (disch := omega) only [u, i64, ax, eq_self, if_true, if_false, Nat.reduceAdd, Int.reduceToNat, Int.reduceAdd, tvs, bs]; first | refine aA ?_ | ((first | refine cR hC ?_ | refine cR hU ?_ | refine cR hLN ?_ | refine cR hGr ?_ | refine cR hLm ?_); simp (disch := omega) only [u, i64, ax, eq_self, if_true, if_false, Nat.reduceAdd, Int.reduceToNat, Int.reduceAdd, tvs, bs]; try refine aA ?_)) | ((first | refine cR hC ?_ | refine cR hU ?_ | refine cR hLN ?_ | refine cR hGr ?_ | refine cR hLm ?_); simp (disch := omega) only [u, i64, ax, eq_self, if_true, if_false, Nat.reduceAdd, Int.reduceToNat, Int.reduceAdd, tvs, bs]; try refine aA ?_) | refine G_seq ?_ | refine G_block ?_ | refine G_condT rfl ?_ | refine G_condF rfl ?_ | refine G_skip ?_ | refine G_ret ?_ | refine G_exit ?_ | refine q_tn ?_ | refine q_tr ?_ | refine q_tx ?_ | refine q_bn ?_ | refine q_br ?_ | refine q_bx ?_ | refine q_by (by decide) ?_)
      (refine FinQ hQ (congrArg Array.toList Tryz.results158) _ _ ?_); simp (disch := omega) only [u, i64, ax, if_true, forall_const, reduceCtorEq, implies_true, tvs, bf]
      all_goals rfl
    · rw [Bool.not_eq_true] at hgr
      rw [hgr] at hGr
      rw [if_neg (by rw [hgr]; decide)]
      refine RetN_start Tryz.func158 (by kernel_rfl) rfl fun Q hQ hQ2 => ?_; rw [Tryz.ntmps158]; simp only [u, i64, Nat.reduceSub, Nat.reduceAdd, bm]
      repeat (first | ((first | refine Gs ?_ | refine Gr ?_); simp (disch := omega) only [u, i64, ax, eq_self, if_true, if_false, Nat.reduceAdd, Int.reduceToNat, Int.reduceAdd, tvs, bs]; first | refine aA ?_ | ((first | refine cR hR ?_ | refine cR hL ?_); simp (disch := omega) only [u, i64, ax, eq_self, if_true, if_false, Nat.reduceAdd, Int.reduceToNat, Int.reduceAdd, tvs, bs]; try refine aA ?_)) | ((first | refine cR hR ?_ | refine cR hL ?_); simp (disch := omega) only [u, i64, ax, eq_self, if_true, if_false, Nat.reduceAdd, Int.reduceToNat, Int.reduceAdd, tvs, bs]; try refine aA ?_) | refine G_seq ?_ | refine G_block ?_ | refine G_condT rfl ?_ | refine G_condF rfl ?_ | refine G_skip ?_ | refine G_ret ?_ | refine G_exit ?_ | refine q_tn ?_ | refine q_tr ?_ | refine q_tx ?_ | refine q_bn ?_ | refine q_br ?_ | refine q_bx ?_ | refine q_by (by decide) ?_)
      ((first | refine Gs ?_ | refine Gr ?_); simp (disch := omega) only [u, i64, ax, eq_self, if_true, if_false, Nat.reduceAdd, Int.reduceToNat, Int.reduceAdd, tvs, bs])
      rw [he]
      repeat (first | ((first | refine Gs ?_ | refine Gr ?_); simp (disch := omega) only [u, i64, ax, eq_self, if_true, if_false, Nat.reduceAdd, Int.reduceToNat, Int.reduceAdd, tvs, bs]; first | refine aA ?_ | (refine cR hSt ?_; simp (disch := omega) only [u, i64, ax, eq_self, if_true, if_false, Nat.reduceAdd, Int.reduceToNat, Int.reduceAdd, tvs, bs]; try refine aA ?_)) | (refine cR hSt ?_; simp (disch := omega) only [u, i64, ax, eq_self, if_true, if_false, Nat.reduceAdd, Int.reduceToNat, Int.reduceAdd, tvs, bs]; try refine aA ?_) | refine G_seq ?_ | refine G_block ?_ | refine G_condT rfl ?_ | refine G_condF rfl ?_ | refine G_skip ?_ | refine G_ret ?_ | refine G_exit ?_ | refine q_tn ?_ | refine q_tr ?_ | refine q_tx ?_ | refine q_bn ?_ | refine q_br ?_ | refine q_bx ?_ | refine q_by (by decide) ?_)
      ((first | refine Gs ?_ | refine Gr ?_); simp (disch := omega) only [u, i64, ax, eq_self, if_true, if_false, Nat.reduceAdd, Int.reduceToNat, Int.reduceAdd, tvs, bs])
      rw [hsub]
      repeat (first | ((first | refine Gs ?_ | refine Gr ?_); simp (disch := omega) only [u, i64, ax, eq_self, if_true, if_false, Nat.reduceAdd, Int.reduceToNat, Int.reduceAdd, tvs, bs]; first | refine aA ?_ | ((first | refine cR hC ?_ | refine cR hU ?_ | refine cR hLN ?_ | refine cR hGr ?_); simp (disch := omega) only [u, i64, ax, eq_self, if_true, if_false, Nat.reduceAdd, Int.reduceToNat, Int.reduceAdd, tvs, bs]; try refine aA ?_)) | ((first | refine cR hC ?_ | refine cR hU ?_ | refine cR hLN ?_ | refine cR hGr ?_); simp (disch := omega) only [u, i64, ax, eq_self, if_true, if_false, Nat.reduceAdd, Int.reduceToNat, Int.reduceAdd, tvs, bs]; try refine aA ?_) | refine G_seq ?_ | refine G_block ?_ | refine G_condT rfl ?_ | refine G_condF rfl ?_ | refine G_skip ?_ | refine G_ret ?_ | refine G_exit ?_ | refine q_tn ?_ | refine q_tr ?_ | refine q_tx ?_ | refine q_bn ?_ | refine q_br ?_ | refine q_bx ?_ | refine q_by (by decide) ?_)
      (refine FinQ hQ (congrArg Array.toList Tryz.results158) _ _ ?_); simp (disch := omega) only [u, i64, ax, if_true, forall_const, reduceCtorEq, implies_true, tvs, bf]
      all_goals rfl
  · rw [if_neg hov]
    have hM := ret_finMake neg N U (by omega) (by omega) (by omega)
    generalize mkF neg N U = y at *
    unfold flv at hM ⊢
    by_cases hx0 : x = 0
    · subst hx0
      rw [if_pos rfl]
      refine RetN_start Tryz.func158 (by kernel_rfl) rfl fun Q hQ hQ2 => ?_; rw [Tryz.ntmps158]; simp only [u, i64, Nat.reduceSub, Nat.reduceAdd, bm]
      repeat (first | ((first | refine Gs ?_ | refine Gr ?_); simp (disch := omega) only [u, i64, ax, eq_self, if_true, if_false, Nat.reduceAdd, Int.reduceToNat, Int.reduceAdd, tvs, bs]; first | refine aA ?_ | ((first | refine cR hR ?_ | refine cR hL ?_); simp (disch := omega) only [u, i64, ax, eq_self, if_true, if_false, Nat.reduceAdd, Int.reduceToNat, Int.reduceAdd, tvs, bs]; try refine aA ?_)) | ((first | refine cR hR ?_ | refine cR hL ?_); simp (disch := omega) only [u, i64, ax, eq_self, if_true, if_false, Nat.reduceAdd, Int.reduceToNat, Int.reduceAdd, tvs, bs]; try refine aA ?_) | refine G_seq ?_ | refine G_block ?_ | refine G_condT rfl ?_ | refine G_condF rfl ?_ | refine G_skip ?_ | refine G_ret ?_ | refine G_exit ?_ | refine q_tn ?_ | refine q_tr ?_ | refine q_tx ?_ | refine q_bn ?_ | refine q_br ?_ | refine q_bx ?_ | refine q_by (by decide) ?_)
      ((first | refine Gs ?_ | refine Gr ?_); simp (disch := omega) only [u, i64, ax, eq_self, if_true, if_false, Nat.reduceAdd, Int.reduceToNat, Int.reduceAdd, tvs, bs])
      rw [he]
      repeat (first | ((first | refine Gs ?_ | refine Gr ?_); simp (disch := omega) only [u, i64, ax, eq_self, if_true, if_false, Nat.reduceAdd, Int.reduceToNat, Int.reduceAdd, tvs, bs]; first | refine aA ?_ | (refine cR hSt ?_; simp (disch := omega) only [u, i64, ax, eq_self, if_true, if_false, Nat.reduceAdd, Int.reduceToNat, Int.reduceAdd, tvs, bs]; try refine aA ?_)) | (refine cR hSt ?_; simp (disch := omega) only [u, i64, ax, eq_self, if_true, if_false, Nat.reduceAdd, Int.reduceToNat, Int.reduceAdd, tvs, bs]; try refine aA ?_) | refine G_seq ?_ | refine G_block ?_ | refine G_condT rfl ?_ | refine G_condF rfl ?_ | refine G_skip ?_ | refine G_ret ?_ | refine G_exit ?_ | refine q_tn ?_ | refine q_tr ?_ | refine q_tx ?_ | refine q_bn ?_ | refine q_br ?_ | refine q_bx ?_ | refine q_by (by decide) ?_)
      ((first | refine Gs ?_ | refine Gr ?_); simp (disch := omega) only [u, i64, ax, eq_self, if_true, if_false, Nat.reduceAdd, Int.reduceToNat, Int.reduceAdd, tvs, bs])
      rw [hsub]
      repeat (first | ((first | refine Gs ?_ | refine Gr ?_); simp (disch := omega) only [u, i64, ax, eq_self, if_true, if_false, Nat.reduceAdd, Int.reduceToNat, Int.reduceAdd, tvs, bs]; first | refine aA ?_ | ((first | refine cR hC ?_ | refine cR hU ?_ | refine cR hLN ?_ | refine cR hM ?_); simp (disch := omega) only [u, i64, ax, eq_self, if_true, if_false, Nat.reduceAdd, Int.reduceToNat, Int.reduceAdd, tvs, bs]; try refine aA ?_)) | ((first | refine cR hC ?_ | refine cR hU ?_ | refine cR hLN ?_ | refine cR hM ?_); simp (disch := omega) only [u, i64, ax, eq_self, if_true, if_false, Nat.reduceAdd, Int.reduceToNat, Int.reduceAdd, tvs, bs]; try refine aA ?_) | refine G_seq ?_ | refine G_block ?_ | refine G_condT rfl ?_ | refine G_condF rfl ?_ | refine G_skip ?_ | refine G_ret ?_ | refine G_exit ?_ | refine q_tn ?_ | refine q_tr ?_ | refine q_tx ?_ | refine q_bn ?_ | refine q_br ?_ | refine q_bx ?_ | refine q_by (by decide) ?_)
      (refine FinQ hQ (congrArg Array.toList Tryz.results158) _ _ ?_); simp (disch := omega) only [u, i64, ax, if_true, forall_const, reduceCtorEq, implies_true, tvs, bf]
      all_goals rfl
    · rw [if_neg hx0]
      by_cases hle : e < 1 - G
      · rw [if_pos hle]
        refine RetN_start Tryz.func158 (by kernel_rfl) rfl fun Q hQ hQ2 => ?_; rw [Tryz.ntmps158]; simp only [u, i64, Nat.reduceSub, Nat.reduceAdd, bm]
        repeat (first | ((first | refine Gs ?_ | refine Gr ?_); simp (disch := omega) only [u, i64, ax, eq_self, if_true, if_false, Nat.reduceAdd, Int.reduceToNat, Int.reduceAdd, tvs, bs]; first | refine aA ?_ | ((first | refine cR hR ?_ | refine cR hL ?_); simp (disch := omega) only [u, i64, ax, eq_self, if_true, if_false, Nat.reduceAdd, Int.reduceToNat, Int.reduceAdd, tvs, bs]; try refine aA ?_)) | ((first | refine cR hR ?_ | refine cR hL ?_); simp (disch := omega) only [u, i64, ax, eq_self, if_true, if_false, Nat.reduceAdd, Int.reduceToNat, Int.reduceAdd, tvs, bs]; try refine aA ?_) | refine G_seq ?_ | refine G_block ?_ | refine G_condT rfl ?_ | refine G_condF rfl ?_ | refine G_skip ?_ | refine G_ret ?_ | refine G_exit ?_ | refine q_tn ?_ | refine q_tr ?_ | refine q_tx ?_ | refine q_bn ?_ | refine q_br ?_ | refine q_bx ?_ | refine q_by (by decide) ?_)
        ((first | refine Gs ?_ | refine Gr ?_); simp (disch := omega) only [u, i64, ax, eq_self, if_true, if_false, Nat.reduceAdd, Int.reduceToNat, Int.reduceAdd, tvs, bs])
        rw [he]
        repeat (first | ((first | refine Gs ?_ | refine Gr ?_); simp (disch := omega) only [u, i64, ax, eq_self, if_true, if_false, Nat.reduceAdd, Int.reduceToNat, Int.reduceAdd, tvs, bs]; first | refine aA ?_ | (refine cR hSt ?_; simp (disch := omega) only [u, i64, ax, eq_self, if_true, if_false, Nat.reduceAdd, Int.reduceToNat, Int.reduceAdd, tvs, bs]; try refine aA ?_)) | (refine cR hSt ?_; simp (disch := omega) only [u, i64, ax, eq_self, if_true, if_false, Nat.reduceAdd, Int.reduceToNat, Int.reduceAdd, tvs, bs]; try refine aA ?_) | refine G_seq ?_ | refine G_block ?_ | refine G_condT rfl ?_ | refine G_condF rfl ?_ | refine G_skip ?_ | refine G_ret ?_ | refine G_exit ?_ | refine q_tn ?_ | refine q_tr ?_ | refine q_tx ?_ | refine q_bn ?_ | refine q_br ?_ | refine q_bx ?_ | refine q_by (by decide) ?_)
        ((first | refine Gs ?_ | refine Gr ?_); simp (disch := omega) only [u, i64, ax, eq_self, if_true, if_false, Nat.reduceAdd, Int.reduceToNat, Int.reduceAdd, tvs, bs])
        rw [hsub]
        repeat (first | ((first | refine Gs ?_ | refine Gr ?_); simp (disch := omega) only [u, i64, ax, eq_self, if_true, if_false, Nat.reduceAdd, Int.reduceToNat, Int.reduceAdd, tvs, bs]; first | refine aA ?_ | ((first | refine cR hC ?_ | refine cR hU ?_ | refine cR hLN ?_ | refine cR hM ?_); simp (disch := omega) only [u, i64, ax, eq_self, if_true, if_false, Nat.reduceAdd, Int.reduceToNat, Int.reduceAdd, tvs, bs]; try refine aA ?_)) | ((first | refine cR hC ?_ | refine cR hU ?_ | refine cR hLN ?_ | refine cR hM ?_); simp (disch := omega) only [u, i64, ax, eq_self, if_true, if_false, Nat.reduceAdd, Int.reduceToNat, Int.reduceAdd, tvs, bs]; try refine aA ?_) | refine G_seq ?_ | refine G_block ?_ | refine G_condT rfl ?_ | refine G_condF rfl ?_ | refine G_skip ?_ | refine G_ret ?_ | refine G_exit ?_ | refine q_tn ?_ | refine q_tr ?_ | refine q_tx ?_ | refine q_bn ?_ | refine q_br ?_ | refine q_bx ?_ | refine q_by (by decide) ?_)
        (refine FinQ hQ (congrArg Array.toList Tryz.results158) _ _ ?_); simp (disch := omega) only [u, i64, ax, if_true, forall_const, reduceCtorEq, implies_true, tvs, bf]
        all_goals rfl
      · rw [if_neg hle]
        refine RetN_start Tryz.func158 (by kernel_rfl) rfl fun Q hQ hQ2 => ?_; rw [Tryz.ntmps158]; simp only [u, i64, Nat.reduceSub, Nat.reduceAdd, bm]
        repeat (first | ((first | refine Gs ?_ | refine Gr ?_); simp (disch := omega) only [u, i64, ax, eq_self, if_true, if_false, Nat.reduceAdd, Int.reduceToNat, Int.reduceAdd, tvs, bs]; first | refine aA ?_ | ((first | refine cR hR ?_ | refine cR hL ?_); simp (disch := omega) only [u, i64, ax, eq_self, if_true, if_false, Nat.reduceAdd, Int.reduceToNat, Int.reduceAdd, tvs, bs]; try refine aA ?_)) | ((first | refine cR hR ?_ | refine cR hL ?_); simp (disch := omega) only [u, i64, ax, eq_self, if_true, if_false, Nat.reduceAdd, Int.reduceToNat, Int.reduceAdd, tvs, bs]; try refine aA ?_) | refine G_seq ?_ | refine G_block ?_ | refine G_condT rfl ?_ | refine G_condF rfl ?_ | refine G_skip ?_ | refine G_ret ?_ | refine G_exit ?_ | refine q_tn ?_ | refine q_tr ?_ | refine q_tx ?_ | refine q_bn ?_ | refine q_br ?_ | refine q_bx ?_ | refine q_by (by decide) ?_)
        ((first | refine Gs ?_ | refine Gr ?_); simp (disch := omega) only [u, i64, ax, eq_self, if_true, if_false, Nat.reduceAdd, Int.reduceToNat, Int.reduceAdd, tvs, bs])
        rw [he]
        repeat (first | ((first | refine Gs ?_ | refine Gr ?_); simp (disch := omega) only [u, i64, ax, eq_self, if_true, if_false, Nat.reduceAdd, Int.reduceToNat, Int.reduceAdd, tvs, bs]; first | refine aA ?_ | (refine cR hSt ?_; simp (disch := omega) only [u, i64, ax, eq_self, if_true, if_false, Nat.reduceAdd, Int.reduceToNat, Int.reduceAdd, tvs, bs]; try refine aA ?_)) | (refine cR hSt ?_; simp (disch := omega) only [u, i64, ax, eq_self, if_true, if_false, Nat.reduceAdd, Int.reduceToNat, Int.reduceAdd, tvs, bs]; try refine aA ?_) | refine G_seq ?_ | refine G_block ?_ | refine G_condT rfl ?_ | refine G_condF rfl ?_ | refine G_skip ?_ | refine G_ret ?_ | refine G_exit ?_ | refine q_tn ?_ | refine q_tr ?_ | refine q_tx ?_ | refine q_bn ?_ | refine q_br ?_ | refine q_bx ?_ | refine q_by (by decide) ?_)
        ((first | refine Gs ?_ | refine Gr ?_); simp (disch := omega) only [u, i64, ax, eq_self, if_true, if_false, Nat.reduceAdd, Int.reduceToNat, Int.reduceAdd, tvs, bs])
        rw [hsub]
        repeat (first | ((first | refine Gs ?_ | refine Gr ?_); simp (disch := omega) only [u, i64, ax, eq_self, if_true, if_false, Nat.reduceAdd, Int.reduceToNat, Int.reduceAdd, tvs, bs]; first | refine aA ?_ | ((first | refine cR hC ?_ | refine cR hU ?_ | refine cR hLN ?_ | refine cR hM ?_); simp (disch := omega) only [u, i64, ax, eq_self, if_true, if_false, Nat.reduceAdd, Int.reduceToNat, Int.reduceAdd, tvs, bs]; try refine aA ?_)) | ((first | refine cR hC ?_ | refine cR hU ?_ | refine cR hLN ?_ | refine cR hM ?_); simp (disch := omega) only [u, i64, ax, eq_self, if_true, if_false, Nat.reduceAdd, Int.reduceToNat, Int.reduceAdd, tvs, bs]; try refine aA ?_) | refine G_seq ?_ | refine G_block ?_ | refine G_condT rfl ?_ | refine G_condF rfl ?_ | refine G_skip ?_ | refine G_ret ?_ | refine G_exit ?_ | refine q_tn ?_ | refine q_tr ?_ | refine q_tx ?_ | refine q_bn ?_ | refine q_br ?_ | refine q_bx ?_ | refine q_by (by decide) ?_)
        (refine FinQ hQ (congrArg Array.toList Tryz.results158) _ _ ?_); simp (disch := omega) only [u, i64, ax, if_true, forall_const, reduceCtorEq, implies_true, tvs, bf]
        all_goals rfl
end Go.Proofs
set_option linter.unusedVariables false
set_option linter.unusedSimpArgs false
namespace Go.Proofs
open Go.Ax
theorem length_bl {n k : Nat} (h : bl n ≤ 64 * k) : (words n).length ≤ k := length_le (by
  rw [Bpow]
  exact Nat.lt_of_lt_of_le (bl_lt n) (Nat.pow_le_pow_right (by decide) h))
theorem bl_valL {xs : List Nat} (h : Wd xs) : bl (val xs) ≤ 64 * xs.length := Nat.le_trans (bl_len _) (Nat.mul_le_mul_left _ (length_words_val_le h))
set_option maxRecDepth 100000 in
set_option maxHeartbeats 2000000 in
theorem ret_finRatio (k p : Nat) (h : okFm k p) (r : Nat) (hr : r ≤ 4) (neg : Bool) (ns dn : List Nat) (hn : Wd ns) (hd : Wd dn) (hln : ns.length ≤ 4096) (hld : dn.length ≤ 4096) (hn0 : val ns ≠ 0) (hd0 : val dn ≠ 0) :
    Ret Tryz.prog GEs 75 [.agg [i64 k, i64 p], i64 r, .bool neg, ws ns, ws dn, i64 0] (.tup [flv (rndF p (gF k) r neg (val ns) (val dn)).1, i64 (rndF p (gF k) r neg (val ns) (val dn)).2]) := by
  have hLn := ret_Len ns hn (by omega)
  have hLd := ret_Len dn hd (by omega)
  have hbn := bl_valL hn
  have hbd := bl_valL hd
  have hfe := finF_eq p (gF k) r neg (val ns) (val dn) (by omega) hn0 hd0
  obtain ⟨hf1, hf2⟩ := preS_facts p (val ns) (val dn) hn0 hd0
  have hps : preS p (val ns) (val dn) = ((p : Int) + 3 - bl (val ns) + bl (val dn)).toNat := rfl
  have hsm := stpF_max p (gF k) (-(preS p (val ns) (val dn) : Int) + bl (val ns * 2 ^ preS p (val ns) (val dn) / val dn) - 1)
  have hS := ret_Shl ns (preS p (val ns) (val dn)) hn (by omega) (by omega)
  have hnb : bl (val ns * 2 ^ preS p (val ns) (val dn)) = bl (val ns) + preS p (val ns) (val dn) := bl_mul _ _ hn0
  have hnl : (words (val ns * 2 ^ preS p (val ns) (val dn))).length ≤ 10000 := length_bl (by omega)
  have hql : (words (val ns * 2 ^ preS p (val ns) (val dn) / val dn)).length ≤ 10000 := Nat.le_trans (length_mono (Nat.div_le_self _ _)) hnl
  have hrl : (words (val ns * 2 ^ preS p (val ns) (val dn) % val dn)).length ≤ 10000 := Nat.le_trans (length_mono (Nat.mod_le _ _)) hnl
  have hF := ret_Float k p h r hr neg (val ns * 2 ^ preS p (val ns) (val dn) / val dn) (-(preS p (val ns) (val dn) : Int)) (decide (val ns * 2 ^ preS p (val ns) (val dn) % val dn ≠ 0)) (by omega) (by omega) (by omega) (by omega)
  rw [hfe] at hF
  have hZ := ret_Zero (words (val ns * 2 ^ preS p (val ns) (val dn) % val dn)) (Wd_words _) (by omega)
  rw [val_words] at hZ
  generalize rndF p (gF k) r neg (val ns) (val dn) = y at *
  obtain ⟨y, fl⟩ := y
  unfold flv at hF ⊢
  have hnot : (!decide (val ns * 2 ^ preS p (val ns) (val dn) % val dn = 0)) = decide (val ns * 2 ^ preS p (val ns) (val dn) % val dn ≠ 0) := by simp
  by_cases hs : 0 < (p : Int) + 3 - bl (val ns) + bl (val dn)
  · have hsn : ((p + 3 : Nat) : Int) - bl (val ns) + bl (val dn) = ((preS p (val ns) (val dn) : Nat) : Int) := by omega
    have hD := ret_DivMod (words (val ns * 2 ^ preS p (val ns) (val dn))) dn (Wd_words _) hd (by omega) (by omega) hd0
    rw [val_words] at hD
    generalize preS p (val ns) (val dn) = t at *
    refine RetN_start Tryz.func75 (by kernel_rfl) rfl fun Q hQ hQ2 => ?_; rw [Tryz.ntmps75]; simp only [u, i64, Nat.reduceSub, Nat.reduceAdd, bm]
    repeat (first | ((first | refine Gs ?_ | refine Gr ?_); simp (disch := omega) only [u, i64, ax, eq_self, if_true, if_false, Nat.reduceAdd, Int.reduceToNat, Int.reduceAdd, tvs, bs]; first | refine aA ?_ | ((first | refine cR hLn ?_ | refine cR hLd ?_); simp (disch := omega) only [u, i64, ax, eq_self, if_true, if_false, Nat.reduceAdd, Int.reduceToNat, Int.reduceAdd, tvs, bs]; try refine aA ?_)) | ((first | refine cR hLn ?_ | refine cR hLd ?_); simp (disch := omega) only [u, i64, ax, eq_self, if_true, if_false, Nat.reduceAdd, Int.reduceToNat, Int.reduceAdd, tvs, bs]; try refine aA ?_) | refine G_seq ?_ | refine G_block ?_ | refine G_condT rfl ?_ | refine G_condF rfl ?_ | refine G_skip ?_ | refine G_ret ?_ | refine G_exit ?_ | refine q_tn ?_ | refine q_tr ?_ | refine q_tx ?_ | refine q_bn ?_ | refine q_br ?_ | refine q_bx ?_ | refine q_by (by decide) ?_)
    ((first | refine Gs ?_ | refine Gr ?_); simp (disch := omega) only [u, i64, ax, eq_self, if_true, if_false, Nat.reduceAdd, Int.reduceToNat, Int.reduceAdd, tvs, bs])
    rw [hsn]
    repeat (first | ((first | refine Gs ?_ | refine Gr ?_); simp (disch := omega) only [u, i64, ax, eq_self, if_true, if_false, Nat.reduceAdd, Int.reduceToNat, Int.reduceAdd, tvs, bs]; first | refine aA ?_ | ((first | refine cR hS ?_ | refine cR hD ?_); simp (disch := omega) only [u, i64, ax, eq_self, if_true, if_false, Nat.reduceAdd, Int.reduceToNat, Int.reduceAdd, tvs, bs]; try refine aA ?_)) | ((first | refine cR hS ?_ | refine cR hD ?_); simp (disch := omega) only [u, i64, ax, eq_self, if_true, if_false, Nat.reduceAdd, Int.reduceToNat, Int.reduceAdd, tvs, bs]; try refine aA ?_) | refine G_seq ?_ | refine G_block ?_ | refine G_condT rfl ?_ | refine G_condF rfl ?_ | refine G_skip ?_ | refine G_ret ?_ | refine G_exit ?_ | refine q_tn ?_ | refine q_tr ?_ | refine q_tx ?_ | refine q_bn ?_ | refine q_br ?_ | refine q_bx ?_ | refine q_by (by decide) ?_)
    ((first | refine Gs ?_ | refine Gr ?_); simp (disch := omega) only [u, i64, ax, eq_self, if_true, if_false, Nat.reduceAdd, Int.reduceToNat, Int.reduceAdd, tvs, bs])
    (refine cR hZ ?_; simp (disch := omega) only [u, i64, ax, eq_self, if_true, if_false, Nat.reduceAdd, Int.reduceToNat, Int.reduceAdd, tvs, bs]; try refine aA ?_)
    rw [hnot, Int.zero_sub]
    repeat (first | ((first | refine Gs ?_ | refine Gr ?_); simp (disch := omega) only [u, i64, ax, eq_self, if_true, if_false, Nat.reduceAdd, Int.reduceToNat, Int.reduceAdd, tvs, bs]; first | refine aA ?_ | (refine cR hF ?_; simp (disch := omega) only [u, i64, ax, eq_self, if_true, if_false, Nat.reduceAdd, Int.reduceToNat, Int.reduceAdd, tvs, bs]; try refine aA ?_)) | (refine cR hF ?_; simp (disch := omega) only [u, i64, ax, eq_self, if_true, if_false, Nat.reduceAdd, Int.reduceToNat, Int.reduceAdd, tvs, bs]; try refine aA ?_) | refine G_seq ?_ | refine G_block ?_ | refine G_condT rfl ?_ | refine G_condF rfl ?_ | refine G_skip ?_ | refine G_ret ?_ | refine G_exit ?_ | refine q_tn ?_ | refine q_tr ?_ | refine q_tx ?_ | refine q_bn ?_ | refine q_br ?_ | refine q_bx ?_ | refine q_by (by decide) ?_)
    (refine FinQ hQ (congrArg Array.toList Tryz.results75) _ _ ?_); simp (disch := omega) only [u, i64, ax, if_true, forall_const, reduceCtorEq, implies_true, tvs, bf]
    all_goals rfl
  · have hsn : preS p (val ns) (val dn) = 0 := by omega
    rw [hsn, Nat.pow_zero, Nat.mul_one] at hF hZ hnot
    have hD := ret_DivMod ns dn hn hd (by omega) (by omega) hd0
    refine RetN_start Tryz.func75 (by kernel_rfl) rfl fun Q hQ hQ2 => ?_; rw [Tryz.ntmps75]; simp only [u, i64, Nat.reduceSub, Nat.reduceAdd, bm]
    repeat (first | ((first | refine Gs ?_ | refine Gr ?_); simp (disch := omega) only [u, i64, ax, eq_self, if_true, if_false, Nat.reduceAdd, Int.reduceToNat, Int.reduceAdd, tvs, bs]; first | refine aA ?_ | ((first | refine cR hLn ?_ | refine cR hLd ?_ | refine cR hD ?_); simp (disch := omega) only [u, i64, ax, eq_self, if_true, if_false, Nat.reduceAdd, Int.reduceToNat, Int.reduceAdd, tvs, bs]; try refine aA ?_)) | ((first | refine cR hLn ?_ | refine cR hLd ?_ | refine cR hD ?_); simp (disch := omega) only [u, i64, ax, eq_self, if_true, if_false, Nat.reduceAdd, Int.reduceToNat, Int.reduceAdd, tvs, bs]; try refine aA ?_) | refine G_seq ?_ | refine G_block ?_ | refine G_condT rfl ?_ | refine G_condF rfl ?_ | refine G_skip ?_ | refine G_ret ?_ | refine G_exit ?_ | refine q_tn ?_ | refine q_tr ?_ | refine q_tx ?_ | refine q_bn ?_ | refine q_br ?_ | refine q_bx ?_ | refine q_by (by decide) ?_)
    ((first | refine Gs ?_ | refine Gr ?_); simp (disch := omega) only [u, i64, ax, eq_self, if_true, if_false, Nat.reduceAdd, Int.reduceToNat, Int.reduceAdd, tvs, bs])
    (refine cR hZ ?_; simp (disch := omega) only [u, i64, ax, eq_self, if_true, if_false, Nat.reduceAdd, Int.reduceToNat, Int.reduceAdd, tvs, bs]; try refine aA ?_)
    rw [hnot]
    rw [show (0 : Int) - 0 = -((0 : Nat) : Int) from rfl]
    repeat (first | ((first | refine Gs ?_ | refine Gr ?_); simp (disch := omega) only [u, i64, ax, eq_self, if_true, if_false, Nat.reduceAdd, Int.reduceToNat, Int.reduceAdd, tvs, bs]; first | refine aA ?_ | (refine cR hF ?_; simp (disch := omega) only [u, i64, ax, eq_self, if_true, if_false, Nat.reduceAdd, Int.reduceToNat, Int.reduceAdd, tvs, bs]; try refine aA ?_)) | (refine cR hF ?_; simp (disch := omega) only [u, i64, ax, eq_self, if_true, if_false, Nat.reduceAdd, Int.reduceToNat, Int.reduceAdd, tvs, bs]; try refine aA ?_) | refine G_seq ?_ | refine G_block ?_ | refine G_condT rfl ?_ | refine G_condF rfl ?_ | refine G_skip ?_ | refine G_ret ?_ | refine G_exit ?_ | refine q_tn ?_ | refine q_tr ?_ | refine q_tx ?_ | refine q_bn ?_ | refine q_br ?_ | refine q_bx ?_ | refine q_by (by decide) ?_)
    (refine FinQ hQ (congrArg Array.toList Tryz.results75) _ _ ?_); simp (disch := omega) only [u, i64, ax, if_true, forall_const, reduceCtorEq, implies_true, tvs, bf]
    all_goals rfl
/-- The error of a format, a rounding and a number. -/
def errR (r k p : Int) (nl dl v : Nat) : Nat := if errQ r nl dl v ≠ 0 then errQ r nl dl v else if okFm k p then 0 else 150
abbrev flz : AV := .agg [i64 0, .bool false, i64 0, ws []]
set_option maxRecDepth 100000 in
set_option maxHeartbeats 2000000 in
theorem ret_Round_zero (r k p : Int) (h1 : -9223372036854775808 ≤ r) (h2 : r < 9223372036854775808) (neg : Bool) (ns dn : List Nat) (hn : Wd ns) (hd : Wd dn) (hln : ns.length ≤ 137438953472) (hld : dn.length ≤ 137438953472)
    (he : errR r k p ns.length dn.length (val dn) = 0) (hz : val ns = 0) : Ret Tryz.prog GEs 18 [.agg [i64 k, i64 p], i64 r, .agg [.bool neg, ws ns, ws dn]] (.tup [flz, i64 0, i64 0]) := by
  have hC := ret_check r h1 h2 neg ns dn hn hd hln hld
  have hK := ret_fCheck k p
  unfold errR at he
  split at he
  · rename_i h0; exact absurd he h0
  rename_i h0
  rw [Decidable.not_not] at h0
  split at he
  · rename_i hf
    rw [h0] at hC
    rw [if_pos hf] at hK
    have hZ := ret_Zero ns hn (by omega)
    rw [decT hz] at hZ
    refine RetN_start Tryz.func18 (by kernel_rfl) rfl fun Q hQ hQ2 => ?_; rw [Tryz.ntmps18]; simp only [u, i64, Nat.reduceSub, Nat.reduceAdd, bm]
    repeat (first | ((first | refine Gs ?_ | refine Gr ?_); simp (disch := omega) only [u, i64, ax, eq_self, if_true, if_false, Nat.reduceAdd, Int.reduceToNat, Int.reduceAdd, tvs, bs]; first | refine aA ?_ | ((first | refine cR hC ?_ | refine cR hK ?_ | refine cR hZ ?_); simp (disch := omega) only [u, i64, ax, eq_self, if_true, if_false, Nat.reduceAdd, Int.reduceToNat, Int.reduceAdd, tvs, bs]; try refine aA ?_)) | ((first | refine cR hC ?_ | refine cR hK ?_ | refine cR hZ ?_); simp (disch := omega) only [u, i64, ax, eq_self, if_true, if_false, Nat.reduceAdd, Int.reduceToNat, Int.reduceAdd, tvs, bs]; try refine aA ?_) | refine G_seq ?_ | refine G_block ?_ | refine G_condT rfl ?_ | refine G_condF rfl ?_ | refine G_skip ?_ | refine G_ret ?_ | refine G_exit ?_ | refine q_tn ?_ | refine q_tr ?_ | refine q_tx ?_ | refine q_bn ?_ | refine q_br ?_ | refine q_bx ?_ | refine q_by (by decide) ?_)
    (refine FinQ hQ (congrArg Array.toList Tryz.results18) _ _ ?_); simp (disch := omega) only [u, i64, ax, if_true, forall_const, reduceCtorEq, implies_true, tvs, bf]
    all_goals rfl
  · cases he
set_option maxRecDepth 100000 in
set_option maxHeartbeats 2000000 in
theorem ret_Round_ok (r k p : Nat) (hr : r ≤ 4) (hf : okFm k p) (neg : Bool) (ns dn : List Nat) (hn : Wd ns) (hd : Wd dn) (hln : ns.length ≤ 4096) (hld : dn.length ≤ 4096)
    (hn0 : val ns ≠ 0) (hd0 : val dn ≠ 0) : Ret Tryz.prog GEs 18 [.agg [i64 k, i64 p], i64 r, .agg [.bool neg, ws ns, ws dn]] (.tup [flv (rndF p (gF k) r neg (val ns) (val dn)).1, i64 (rndF p (gF k) r neg (val ns) (val dn)).2, i64 0]) := by
  have hC := ret_check r (by omega) (by omega) neg ns dn hn hd (by omega) (by omega)
  rw [errQ_ok (by omega) (by omega) hd0 (by omega)] at hC
  have hK := ret_fCheck k p
  rw [if_pos hf] at hK
  have hZ := ret_Zero ns hn (by omega)
  rw [decF hn0] at hZ
  have hR := ret_finRatio k p hf r hr neg ns dn hn hd hln hld hn0 hd0
  generalize rndF p (gF k) r neg (val ns) (val dn) = y at *
  obtain ⟨y, fl⟩ := y
  unfold flv at hR ⊢
  refine RetN_start Tryz.func18 (by kernel_rfl) rfl fun Q hQ hQ2 => ?_; rw [Tryz.ntmps18]; simp only [u, i64, Nat.reduceSub, Nat.reduceAdd, bm]
  repeat (first | ((first | refine Gs ?_ | refine Gr ?_); simp (disch := omega) only [u, i64, ax, eq_self, if_true, if_false, Nat.reduceAdd, Int.reduceToNat, Int.reduceAdd, tvs, bs]; first | refine aA ?_ | ((first | refine cR hC ?_ | refine cR hK ?_ | refine cR hZ ?_ | refine cR hR ?_); simp (disch := omega) only [u, i64, ax, eq_self, if_true, if_false, Nat.reduceAdd, Int.reduceToNat, Int.reduceAdd, tvs, bs]; try refine aA ?_)) | ((first | refine cR hC ?_ | refine cR hK ?_ | refine cR hZ ?_ | refine cR hR ?_); simp (disch := omega) only [u, i64, ax, eq_self, if_true, if_false, Nat.reduceAdd, Int.reduceToNat, Int.reduceAdd, tvs, bs]; try refine aA ?_) | refine G_seq ?_ | refine G_block ?_ | refine G_condT rfl ?_ | refine G_condF rfl ?_ | refine G_skip ?_ | refine G_ret ?_ | refine G_exit ?_ | refine q_tn ?_ | refine q_tr ?_ | refine q_tx ?_ | refine q_bn ?_ | refine q_br ?_ | refine q_bx ?_ | refine q_by (by decide) ?_)
  (refine FinQ hQ (congrArg Array.toList Tryz.results18) _ _ ?_); simp (disch := omega) only [u, i64, ax, if_true, forall_const, reduceCtorEq, implies_true, tvs, bf]
  all_goals rfl
end Go.Proofs
set_option linter.unusedVariables false
namespace Go.Proofs
open Go.Ax
def digs : List Nat → List Nat
  | [] => []
  | x :: xs => x % 4294967296 :: x / 4294967296 :: digs xs
theorem digs_length : ∀ xs : List Nat, (digs xs).length = 2 * xs.length
  | [] => rfl
  | x :: xs => by simp only [digs, List.length_cons, digs_length xs]; omega
theorem digs_Ds : ∀ {xs : List Nat}, Wd xs → Ds 4294967296 (digs xs)
  | [], _ => Ds_nil
  | x :: xs, h => Ds_cons (Nat.mod_lt _ (by decide)) (Ds_cons (by have := h.head; omega) (digs_Ds h.tail))
theorem digs_val : ∀ (xs : List Nat), vb 4294967296 (digs xs) = val xs
  | [] => rfl
  | x :: xs => by
    simp only [digs, vb, val, digs_val xs]
    omega
theorem digs_snoc : ∀ (xs : List Nat) (x : Nat), digs (xs ++ [x]) = digs xs ++ [x % 4294967296, x / 4294967296]
  | [], x => rfl
  | y :: xs, x => by simp only [List.cons_append, digs, digs_snoc xs x]
theorem digs_take (xs : List Nat) (n : Nat) (h : n < xs.length) : digs (xs.take (n + 1)) = digs (xs.take n) ++ [xs.getD n 0 % 4294967296, xs.getD n 0 / 4294967296] := by
  rw [List.take_succ_eq_append_getElem h, digs_snoc, List.getD_eq_getElem?_getD, List.getElem?_eq_getElem h]; rfl
/-- Halves put together. -/
def joined : List Nat → List Nat
  | a :: b :: ds => (a + b * 4294967296) :: joined ds
  | _ => []
theorem joined_length : ∀ (ds : List Nat), (joined ds).length = ds.length / 2
  | [] => rfl
  | [_] => by simp [joined]
  | a :: b :: ds => by simp only [joined, List.length_cons, joined_length ds]; omega
theorem joined_Wd : ∀ {ds : List Nat}, Ds 4294967296 ds → Wd (joined ds)
  | [], _ => Wd_nil
  | [_], _ => Wd_nil
  | a :: b :: ds, h => by
    have h1 := h.head
    have h2 := h.tail.head
    exact Wd_cons (by omega) (joined_Wd h.tail.tail)
theorem joined_val : ∀ (ds : List Nat), ds.length % 2 = 0 → val (joined ds) = vb 4294967296 ds
  | [], _ => rfl
  | [_], h => by simp at h
  | a :: b :: ds, h => by
    have ih := joined_val ds (by simpa [Nat.add_assoc, Nat.add_mod_right] using h)
    simp only [joined, val, vb, ih]
    omega
theorem joined_snoc : ∀ (ds : List Nat) (a b : Nat), ds.length % 2 = 0 → joined (ds ++ [a, b]) = joined ds ++ [a + b * 4294967296]
  | [], a, b, _ => rfl
  | [_], _, _, h => by simp at h
  | x :: y :: ds, a, b, h => by
    have ih := joined_snoc ds a b (by simpa [Nat.add_assoc, Nat.add_mod_right] using h)
    simp only [List.cons_append, joined, ih]
theorem take_two (ds : List Nat) (n : Nat) (h : n + 1 < ds.length) : ds.take (n + 2) = ds.take n ++ [ds.getD n 0, ds.getD (n + 1) 0] := by
  rw [List.take_succ_eq_append_getElem h, List.take_succ_eq_append_getElem (by omega), List.append_assoc]
  simp [List.getD_eq_getElem?_getD, List.getElem?_eq_getElem h, List.getElem?_eq_getElem (show n < ds.length by omega)]
theorem joined_take (ds : List Nat) (i : Nat) (h : 2 * i + 1 < ds.length) : joined (ds.take (2 * (i + 1))) = joined (ds.take (2 * i)) ++ [ds.getD (2 * i) 0 + ds.getD (2 * i + 1) 0 * 4294967296] := by
  rw [show 2 * (i + 1) = 2 * i + 2 by omega, take_two ds (2 * i) h, joined_snoc]
  rw [List.length_take, Nat.min_eq_left (by omega)]; omega
theorem pow_half (n : Nat) : (4294967296 : Nat) ^ (2 * n) = 18446744073709551616 ^ n := by rw [Nat.pow_mul]
/-- Words that have no fewer words in canonical form. -/
theorem canon_of_ge {xs : List Nat} (hw : Wd xs) (h : 18446744073709551616 ^ (xs.length - 1) ≤ val xs) : Canon xs := fun hne h0 => by
  have e := List.dropLast_concat_getLast hne
  rw [h0] at e
  have hv : val xs = val xs.dropLast := by
    conv => lhs; rw [← e]
    rw [val_append]; simp [val]
  have hd : Wd xs.dropLast := fun y hy => hw y ((List.dropLast_sublist _).subset hy)
  have := val_lt hd
  rw [List.length_dropLast] at this
  omega
theorem words_of_ge {xs : List Nat} (hw : Wd xs) (h : 18446744073709551616 ^ (xs.length - 1) ≤ val xs) : xs = words (val xs) := (words_val hw (canon_of_ge hw h)).symm
end Go.Proofs
set_option linter.unusedVariables false
set_option linter.unusedSimpArgs false
namespace Go.Proofs
open Go.Ax
set_option maxRecDepth 100000 in
theorem ret_Digits (xs : List Nat) (hx : Wd xs) (hl : xs.length ≤ 549755813888) : Ret Tryz.prog GEs 217 [ws xs] (ws (digs xs)) := by
  refine RetN_start Tryz.func217 (by kernel_rfl) rfl fun Q hQ hQ2 => ?_; rw [Tryz.ntmps217]; simp only [u, i64, Nat.reduceSub, Nat.reduceAdd, bm]
  repeat (first | ((first | refine Gs ?_ | refine Gr ?_); simp (disch := omega) only [u, i64, ax, eq_self, if_true, if_false, Nat.reduceAdd, Int.reduceToNat, Int.reduceAdd, tvs, bs]; refine aA ?_) | refine G_seq ?_ | refine G_block ?_ | refine G_condT rfl ?_ | refine G_condF rfl ?_ | refine G_skip ?_ | refine G_ret ?_ | refine G_exit ?_ | refine q_tn ?_ | refine q_tr ?_ | refine q_tx ?_ | refine q_bn ?_ | refine q_br ?_ | refine q_bx ?_ | refine q_by (by decide) ?_)
  refine AWp_loop (fun i : Nat × List Nat => mk 25 [(0, ws xs), (3, gA i.2 i.1), (4, i64 i.1)] (gR i.2 i.1)) (fun i => i.1 ≤ xs.length ∧ i.2 = digs (xs.take i.1)) (fun i => xs.length - i.1) (0, []) ?_ ⟨Nat.zero_le _, rfl⟩ ?_
  · simp only [u, i64, Nat.reduceSub, Nat.reduceAdd, bm]
  rintro ⟨k, ds⟩ ⟨hk, hds⟩
  simp only at hk hds
  have hlen : ds.length = 2 * k := by rw [hds, digs_length, List.length_take]; omega
  by_cases hn : k < xs.length
  · have hdt := digs_take xs k hn
    rw [← hds] at hdt
    have hw := hx.getD k
    cases k with
    | zero =>
      have h0 : ds = [] := hds
      subst h0
      simp only [u, i64, Nat.reduceSub, Nat.reduceAdd, bm]
      repeat (first | ((first | refine Gs ?_ | refine Gr ?_); simp (disch := omega) only [u, i64, ax, eq_self, if_true, if_false, Nat.reduceAdd, Int.reduceToNat, Int.reduceAdd, tvs, bs]; refine aA ?_) | refine G_seq ?_ | refine G_block ?_ | refine G_condT rfl ?_ | refine G_condF rfl ?_ | refine G_skip ?_ | refine G_ret ?_ | refine G_exit ?_ | refine q_tn ?_ | refine q_tr ?_ | refine q_tx ?_ | refine q_bn ?_ | refine q_br ?_ | refine q_bx ?_ | refine q_by (by decide) ?_)
      refine ⟨(1, [xs.getD 0 0 % 4294967296, xs.getD 0 0 / 4294967296]), ?_, ⟨hn, hdt.symm⟩, by simp only; omega⟩
      simp only [u, i64, Nat.reduceSub, Nat.reduceAdd, bm]
    | succ k =>
      simp only [u, i64, Nat.reduceSub, Nat.reduceAdd, bm]
      repeat (first | ((first | refine Gs ?_ | refine Gr ?_); simp (disch := omega) only [u, i64, ax, eq_self, if_true, if_false, Nat.reduceAdd, Int.reduceToNat, Int.reduceAdd, tvs, bs]; refine aA ?_) | refine G_seq ?_ | refine G_block ?_ | refine G_condT rfl ?_ | refine G_condF rfl ?_ | refine G_skip ?_ | refine G_ret ?_ | refine G_exit ?_ | refine q_tn ?_ | refine q_tr ?_ | refine q_tx ?_ | refine q_bn ?_ | refine q_br ?_ | refine q_bx ?_ | refine q_by (by decide) ?_)
      refine ⟨(k + 2, ds ++ [xs.getD (k + 1) 0 % 4294967296, xs.getD (k + 1) 0 / 4294967296]), ?_, ⟨hn, hdt.symm⟩, by simp only; omega⟩
      simp only [u, i64, Nat.reduceSub, Nat.reduceAdd, bm]
  · have hk0 : k = xs.length := by omega
    rw [hk0, List.take_length] at hds
    subst hds
    cases k with
    | zero =>
      have hx0 : xs = [] := List.eq_nil_of_length_eq_zero hk0.symm
      subst hx0
      simp only [u, i64, Nat.reduceSub, Nat.reduceAdd, bm]
      repeat (first | ((first | refine Gs ?_ | refine Gr ?_); simp (disch := omega) only [u, i64, ax, eq_self, if_true, if_false, Nat.reduceAdd, Int.reduceToNat, Int.reduceAdd, tvs, bs]; refine aA ?_) | refine G_seq ?_ | refine G_block ?_ | refine G_condT rfl ?_ | refine G_condF rfl ?_ | refine G_skip ?_ | refine G_ret ?_ | refine G_exit ?_ | refine q_tn ?_ | refine q_tr ?_ | refine q_tx ?_ | refine q_bn ?_ | refine q_br ?_ | refine q_bx ?_ | refine q_by (by decide) ?_)
      (refine FinQ hQ (congrArg Array.toList Tryz.results217) _ _ ?_); simp (disch := omega) only [u, i64, ax, if_true, forall_const, reduceCtorEq, implies_true, tvs, bf]
      rfl
    | succ k =>
      simp only [u, i64, Nat.reduceSub, Nat.reduceAdd, bm]
      repeat (first | ((first | refine Gs ?_ | refine Gr ?_); simp (disch := omega) only [u, i64, ax, eq_self, if_true, if_false, Nat.reduceAdd, Int.reduceToNat, Int.reduceAdd, tvs, bs]; refine aA ?_) | refine G_seq ?_ | refine G_block ?_ | refine G_condT rfl ?_ | refine G_condF rfl ?_ | refine G_skip ?_ | refine G_ret ?_ | refine G_exit ?_ | refine q_tn ?_ | refine q_tr ?_ | refine q_tx ?_ | refine q_bn ?_ | refine q_br ?_ | refine q_bx ?_ | refine q_by (by decide) ?_)
      (refine FinQ hQ (congrArg Array.toList Tryz.results217) _ _ ?_); simp (disch := omega) only [u, i64, ax, if_true, forall_const, reduceCtorEq, implies_true, tvs, bf]
set_option maxRecDepth 100000 in
theorem ret_Row (ds : List Nat) (hd : Ds 4294967296 ds) (he : ds.length % 2 = 0) (hl : ds.length ≤ 1099511627776) : Ret Tryz.prog GEs 253 [ws ds] (ws (joined ds)) := by
  refine RetN_start Tryz.func253 (by kernel_rfl) rfl fun Q hQ hQ2 => ?_; rw [Tryz.ntmps253]; simp only [u, i64, Nat.reduceSub, Nat.reduceAdd, bm]
  repeat (first | ((first | refine Gs ?_ | refine Gr ?_); simp (disch := omega) only [u, i64, ax, eq_self, if_true, if_false, Nat.reduceAdd, Int.reduceToNat, Int.reduceAdd, tvs, bs]; refine aA ?_) | refine G_seq ?_ | refine G_block ?_ | refine G_condT rfl ?_ | refine G_condF rfl ?_ | refine G_skip ?_ | refine G_ret ?_ | refine G_exit ?_ | refine q_tn ?_ | refine q_tr ?_ | refine q_tx ?_ | refine q_bn ?_ | refine q_br ?_ | refine q_bx ?_ | refine q_by (by decide) ?_)
  refine AWp_loop (fun i : Nat × Nat × List Nat => mk 27 [(0, ws ds), (3, gA i.2.2 i.1), (4, i64 i.2.1)] (gR i.2.2 i.1)) (fun i => i.2.1 = 2 * i.1 ∧ i.2.1 ≤ ds.length ∧ i.2.2 = joined (ds.take i.2.1)) (fun i => ds.length - i.2.1) (0, 0, []) ?_ ⟨rfl, Nat.zero_le _, rfl⟩ ?_
  · simp only [u, i64, Nat.reduceSub, Nat.reduceAdd, bm]
  rintro ⟨k, j, rs⟩ ⟨hj, hk, hrs⟩
  simp only at hj hk hrs
  by_cases hn : j + 1 < ds.length
  · have hdt := joined_take ds k (by omega)
    rw [show 2 * (k + 1) = j + 2 by omega, ← hj, ← hrs] at hdt
    have h1 := hd.getD (by decide) j
    have h2 := hd.getD (by decide) (j + 1)
    have hrl : rs.length ≤ ds.length := by rw [hrs, joined_length, List.length_take]; omega
    cases k with
    | zero =>
      have hj0 : j = 0 := by omega
      subst hj0
      have h0 : rs = [] := hrs
      subst h0
      simp only [Nat.zero_add] at h2
      simp only [u, i64, Nat.reduceSub, Nat.reduceAdd, bm]
      repeat (first | ((first | refine Gs ?_ | refine Gr ?_); simp (disch := omega) only [u, i64, ax, eq_self, if_true, if_false, Nat.reduceAdd, Int.reduceToNat, Int.reduceAdd, tvs, bs]; refine aA ?_) | refine G_seq ?_ | refine G_block ?_ | refine G_condT rfl ?_ | refine G_condF rfl ?_ | refine G_skip ?_ | refine G_ret ?_ | refine G_exit ?_ | refine q_tn ?_ | refine q_tr ?_ | refine q_tx ?_ | refine q_bn ?_ | refine q_br ?_ | refine q_bx ?_ | refine q_by (by decide) ?_)
      refine ⟨(1, 2, [ds.getD 0 0 + ds.getD 1 0 * 4294967296]), ?_, ⟨rfl, by simp only; omega, hdt.symm⟩, by simp only; omega⟩
      simp only [u, i64, Nat.reduceSub, Nat.reduceAdd, bm]
    | succ k =>
      simp only [u, i64, Nat.reduceSub, Nat.reduceAdd, bm]
      repeat (first | ((first | refine Gs ?_ | refine Gr ?_); simp (disch := omega) only [u, i64, ax, eq_self, if_true, if_false, Nat.reduceAdd, Int.reduceToNat, Int.reduceAdd, tvs, bs]; refine aA ?_) | refine G_seq ?_ | refine G_block ?_ | refine G_condT rfl ?_ | refine G_condF rfl ?_ | refine G_skip ?_ | refine G_ret ?_ | refine G_exit ?_ | refine q_tn ?_ | refine q_tr ?_ | refine q_tx ?_ | refine q_bn ?_ | refine q_br ?_ | refine q_bx ?_ | refine q_by (by decide) ?_)
      refine ⟨(k + 2, j + 2, rs ++ [ds.getD j 0 + ds.getD (j + 1) 0 * 4294967296]), ?_, ⟨by simp only; omega, by simp only; omega, hdt.symm⟩, by simp only; omega⟩
      simp only [u, i64, Nat.reduceSub, Nat.reduceAdd, bm]
  · have hk0 : j = ds.length := by omega
    rw [hk0, List.take_length] at hrs
    subst hrs
    cases k with
    | zero =>
      have hx0 : ds = [] := List.eq_nil_of_length_eq_zero (by omega)
      subst hx0
      have hj0 : j = 0 := hk0
      subst hj0
      simp only [u, i64, Nat.reduceSub, Nat.reduceAdd, bm]
      repeat (first | ((first | refine Gs ?_ | refine Gr ?_); simp (disch := omega) only [u, i64, ax, eq_self, if_true, if_false, Nat.reduceAdd, Int.reduceToNat, Int.reduceAdd, tvs, bs]; refine aA ?_) | refine G_seq ?_ | refine G_block ?_ | refine G_condT rfl ?_ | refine G_condF rfl ?_ | refine G_skip ?_ | refine G_ret ?_ | refine G_exit ?_ | refine q_tn ?_ | refine q_tr ?_ | refine q_tx ?_ | refine q_bn ?_ | refine q_br ?_ | refine q_bx ?_ | refine q_by (by decide) ?_)
      (refine FinQ hQ (congrArg Array.toList Tryz.results253) _ _ ?_); simp (disch := omega) only [u, i64, ax, if_true, forall_const, reduceCtorEq, implies_true, tvs, bf]
      rfl
    | succ k =>
      simp only [u, i64, Nat.reduceSub, Nat.reduceAdd, bm]
      repeat (first | ((first | refine Gs ?_ | refine Gr ?_); simp (disch := omega) only [u, i64, ax, eq_self, if_true, if_false, Nat.reduceAdd, Int.reduceToNat, Int.reduceAdd, tvs, bs]; refine aA ?_) | refine G_seq ?_ | refine G_block ?_ | refine G_condT rfl ?_ | refine G_condF rfl ?_ | refine G_skip ?_ | refine G_ret ?_ | refine G_exit ?_ | refine q_tn ?_ | refine q_tr ?_ | refine q_tx ?_ | refine q_bn ?_ | refine q_br ?_ | refine q_bx ?_ | refine q_by (by decide) ?_)
      (refine FinQ hQ (congrArg Array.toList Tryz.results253) _ _ ?_); simp (disch := omega) only [u, i64, ax, if_true, forall_const, reduceCtorEq, implies_true, tvs, bf]
set_option maxRecDepth 100000 in
theorem ret_Short (xs : List Nat) (hl : xs.length ≤ 1099511627776) : Ret Tryz.prog GEs 239 [ws xs] (ws (xs.take (top xs))) := by
  refine RetN_start Tryz.func239 (by kernel_rfl) rfl fun Q hQ hQ2 => ?_; rw [Tryz.ntmps239]; simp only [u, i64, Nat.reduceSub, Nat.reduceAdd, bm]
  repeat (first | ((first | refine Gs ?_ | refine Gr ?_); simp (disch := omega) only [u, i64, ax, eq_self, if_true, if_false, Nat.reduceAdd, Int.reduceToNat, Int.reduceAdd, tvs, bs]; refine aA ?_) | refine G_seq ?_ | refine G_block ?_ | refine G_condT rfl ?_ | refine G_condF rfl ?_ | refine G_skip ?_ | refine G_ret ?_ | refine G_exit ?_ | refine q_tn ?_ | refine q_tr ?_ | refine q_tx ?_ | refine q_bn ?_ | refine q_br ?_ | refine q_bx ?_ | refine q_by (by decide) ?_)
  refine AWp_loop (fun n : Nat => mk 21 [(0, ws xs), (3, i64 n)] []) (fun n => top xs ≤ n ∧ n ≤ xs.length) (fun n => n) xs.length ?_ ⟨top_le xs, Nat.le_refl _⟩ fun n hn => ?_
  · simp only [u, i64, Nat.reduceSub, Nat.reduceAdd, bm]
  simp only [u, i64, Nat.reduceSub, Nat.reduceAdd, bm]
  by_cases h : 0 < n
  · by_cases h0 : xs.getD (n - 1) 0 = 0
    · repeat (first | ((first | refine Gs ?_ | refine Gr ?_); simp (disch := omega) only [u, i64, ax, eq_self, if_true, if_false, Nat.reduceAdd, Int.reduceToNat, Int.reduceAdd, tvs, bs]; refine aA ?_) | refine G_seq ?_ | refine G_block ?_ | refine G_condT rfl ?_ | refine G_condF rfl ?_ | refine G_skip ?_ | refine G_ret ?_ | refine G_exit ?_ | refine q_tn ?_ | refine q_tr ?_ | refine q_tx ?_ | refine q_bn ?_ | refine q_br ?_ | refine q_bx ?_ | refine q_by (by decide) ?_)
      refine ⟨n - 1, ?_, ⟨top_zero xs n hn.1 hn.2 h h0, by omega⟩, by omega⟩
      simp only [u, i64, Nat.reduceSub, Nat.reduceAdd, bm]
    · have ht := top_last xs n hn.1 hn.2 h h0
      repeat (first | ((first | refine Gs ?_ | refine Gr ?_); simp (disch := omega) only [u, i64, ax, eq_self, if_true, if_false, Nat.reduceAdd, Int.reduceToNat, Int.reduceAdd, tvs, bs]; refine aA ?_) | refine G_seq ?_ | refine G_block ?_ | refine G_condT rfl ?_ | refine G_condF rfl ?_ | refine G_skip ?_ | refine G_ret ?_ | refine G_exit ?_ | refine q_tn ?_ | refine q_tr ?_ | refine q_tx ?_ | refine q_bn ?_ | refine q_br ?_ | refine q_bx ?_ | refine q_by (by decide) ?_)
      (refine FinQ hQ (congrArg Array.toList Tryz.results239) _ _ ?_); simp (disch := omega) only [u, i64, ax, if_true, forall_const, reduceCtorEq, implies_true, tvs, bf]
      simp [ht, Nat.min_eq_left hn.2]
  · have hn0 : n = 0 := by omega
    have ht : top xs = 0 := by omega
    repeat (first | ((first | refine Gs ?_ | refine Gr ?_); simp (disch := omega) only [u, i64, ax, eq_self, if_true, if_false, Nat.reduceAdd, Int.reduceToNat, Int.reduceAdd, tvs, bs]; refine aA ?_) | refine G_seq ?_ | refine G_block ?_ | refine G_condT rfl ?_ | refine G_condF rfl ?_ | refine G_skip ?_ | refine G_ret ?_ | refine G_exit ?_ | refine q_tn ?_ | refine q_tr ?_ | refine q_tx ?_ | refine q_bn ?_ | refine q_br ?_ | refine q_bx ?_ | refine q_by (by decide) ?_)
    (refine FinQ hQ (congrArg Array.toList Tryz.results239) _ _ ?_); simp (disch := omega) only [u, i64, ax, if_true, forall_const, reduceCtorEq, implies_true, tvs, bf]
    simp [ht, hn0]
set_option maxRecDepth 100000 in
theorem ret_digit (xs : List Nat) (i : Nat) (hl : xs.length ≤ 1099511627776) : Ret Tryz.prog GEs 252 [ws xs, i64 i] (u (xs.getD i 0)) := by
  refine RetN_start Tryz.func252 (by kernel_rfl) rfl fun Q hQ hQ2 => ?_; rw [Tryz.ntmps252]; simp only [u, i64, Nat.reduceSub, Nat.reduceAdd, bm]
  by_cases h : i < xs.length
  · repeat (first | ((first | refine Gs ?_ | refine Gr ?_); simp (disch := omega) only [u, i64, ax, eq_self, if_true, if_false, Nat.reduceAdd, Int.reduceToNat, Int.reduceAdd, tvs, bs]; refine aA ?_) | refine G_seq ?_ | refine G_block ?_ | refine G_condT rfl ?_ | refine G_condF rfl ?_ | refine G_skip ?_ | refine G_ret ?_ | refine G_exit ?_ | refine q_tn ?_ | refine q_tr ?_ | refine q_tx ?_ | refine q_bn ?_ | refine q_br ?_ | refine q_bx ?_ | refine q_by (by decide) ?_)
    (refine FinQ hQ (congrArg Array.toList Tryz.results252) _ _ ?_); simp (disch := omega) only [u, i64, ax, if_true, forall_const, reduceCtorEq, implies_true, tvs, bf]
  · repeat (first | ((first | refine Gs ?_ | refine Gr ?_); simp (disch := omega) only [u, i64, ax, eq_self, if_true, if_false, Nat.reduceAdd, Int.reduceToNat, Int.reduceAdd, tvs, bs]; refine aA ?_) | refine G_seq ?_ | refine G_block ?_ | refine G_condT rfl ?_ | refine G_condF rfl ?_ | refine G_skip ?_ | refine G_ret ?_ | refine G_exit ?_ | refine q_tn ?_ | refine q_tr ?_ | refine q_tx ?_ | refine q_bn ?_ | refine q_br ?_ | refine q_bx ?_ | refine q_by (by decide) ?_)
    (refine FinQ hQ (congrArg Array.toList Tryz.results252) _ _ ?_); simp (disch := omega) only [u, i64, ax, if_true, forall_const, reduceCtorEq, implies_true, tvs, bf, getD_over xs i (by omega)]
    rfl
end Go.Proofs
set_option linter.unusedVariables false
set_option linter.unusedSimpArgs false
namespace Go.Proofs
open Go.Ax
theorem pad_snoc (ds : List Nat) (z : Nat) : ds ++ List.replicate (z + 1) 0 = (ds ++ List.replicate z 0) ++ [0] := by
  rw [List.append_assoc, ← List.replicate_succ']
theorem vb_top {K : Nat} : ∀ xs, vb K (xs.take (top xs)) = vb K xs
  | [] => rfl
  | x :: xs => by
    have ih := vb_top (K := K) xs
    simp only [top]
    split
    · rename_i h0
      rw [h0] at ih
      simp only [List.take_zero, vb] at ih
      split
      · rename_i hx; simp [vb, hx, ← ih]
      · simp [vb, ← ih]
    · simp [vb, ih]
theorem vb_top_ge {K : Nat} : ∀ xs, 0 < top xs → K ^ (top xs - 1) ≤ vb K xs
  | [], h => by simp [top] at h
  | x :: xs, h => by
    simp only [top] at h ⊢
    by_cases h0 : top xs = 0
    · simp only [h0, if_true] at h ⊢
      by_cases hx : x = 0
      · simp [hx] at h
      · simp only [hx, if_false, Nat.sub_self, Nat.pow_zero, vb]; omega
    · have ih := vb_top_ge (K := K) xs (by omega)
      simp only [h0, if_false, Nat.add_sub_cancel, vb]
      obtain ⟨t, ht⟩ : ∃ t, top xs = t + 1 := ⟨top xs - 1, by omega⟩
      rw [ht, Nat.add_sub_cancel] at ih
      rw [ht, Nat.pow_succ, Nat.mul_comm]
      have := Nat.mul_le_mul_left K ih
      omega
set_option maxRecDepth 100000 in
set_option maxHeartbeats 1000000 in
theorem ret_Cut (ds : List Nat) (n : Nat) (hd : Ds 4294967296 ds) (hl : ds.length ≤ 1099511627776) (hn : n ≤ 274877906944) :
    Ret Tryz.prog GEs 238 [ws ds, i64 n] (.tup [ws (joined ((pad ds (2 * n + 2)).take (2 * n))), u ((pad ds (2 * n + 2)).getD (2 * n) 0 + (pad ds (2 * n + 2)).getD (2 * n + 1) 0 * 4294967296)]) := by
  refine RetN_start Tryz.func238 (by kernel_rfl) rfl fun Q hQ hQ2 => ?_; rw [Tryz.ntmps238]; simp only [u, i64, Nat.reduceSub, Nat.reduceAdd, bm]
  by_cases h0 : 0 < ds.length
  · obtain ⟨i0, hi0⟩ : ∃ i : Nat × Nat × List Nat, i = (1, 0, ds) := ⟨_, rfl⟩
    have hI0 : i0.2.2 = ds ++ List.replicate i0.2.1 0 ∧ i0.2.2.length ≤ max ds.length (2 * n + 2) ∧ (i0.1 = 0 → i0.2.2 = []) := by rw [hi0]; exact ⟨by simp, by simp only; omega, fun h => by simp at h⟩
    repeat (first | ((first | refine Gs ?_ | refine Gr ?_); simp (disch := omega) only [u, i64, ax, eq_self, if_true, if_false, Nat.reduceAdd, Int.reduceToNat, Int.reduceAdd, tvs, bs]; refine aA ?_) | refine G_seq ?_ | refine G_block ?_ | refine G_condT rfl ?_ | refine G_condF rfl ?_ | refine G_skip ?_ | refine G_ret ?_ | refine G_exit ?_ | refine q_tn ?_ | refine q_tr ?_ | refine q_tx ?_ | refine q_bn ?_ | refine q_br ?_ | refine q_bx ?_ | refine q_by (by decide) ?_)
    refine AWp_loop (fun i : Nat × Nat × List Nat => mk 37 [(0, ws ds), (1, i64 n), (6, gA i.2.2 i.1)] (gR i.2.2 i.1)) (fun i => i.2.2 = ds ++ List.replicate i.2.1 0 ∧ i.2.2.length ≤ max ds.length (2 * n + 2) ∧ (i.1 = 0 → i.2.2 = [])) (fun i => 2 * n + 2 - i.2.2.length) i0 ?_ hI0 ?_
    · subst hi0; dsimp only; simp only [u, i64, Nat.reduceSub, Nat.reduceAdd, bm]
    clear hi0 hI0 i0
    rintro ⟨k, z, all⟩ ⟨hall, hlen, hk⟩
    simp only at hall hlen hk
    by_cases hc : all.length < 2 * n + 2
    · cases k with
      | zero =>
        have h0 := hk rfl
        subst h0
        simp only [u, i64, Nat.reduceSub, Nat.reduceAdd, bm]
        simp only [List.length_nil] at hc
        repeat (first | ((first | refine Gs ?_ | refine Gr ?_); simp (disch := omega) only [u, i64, ax, eq_self, if_true, if_false, Nat.reduceAdd, Int.reduceToNat, Int.reduceAdd, tvs, bs]; refine aA ?_) | refine G_seq ?_ | refine G_block ?_ | refine G_condT rfl ?_ | refine G_condF rfl ?_ | refine G_skip ?_ | refine G_ret ?_ | refine G_exit ?_ | refine q_tn ?_ | refine q_tr ?_ | refine q_tx ?_ | refine q_bn ?_ | refine q_br ?_ | refine q_bx ?_ | refine q_by (by decide) ?_)
        refine ⟨(1, z + 1, [0]), ?_, ⟨by simp only; rw [pad_snoc, ← hall]; rfl, by simp only [List.length_append, List.length_cons, List.length_nil]; omega, fun h => by simp at h⟩, by simp only [List.length_append, List.length_cons, List.length_nil]; omega⟩
        simp only [u, i64, Nat.reduceSub, Nat.reduceAdd, bm]
      | succ k =>
        simp only [u, i64, Nat.reduceSub, Nat.reduceAdd, bm]
        repeat (first | ((first | refine Gs ?_ | refine Gr ?_); simp (disch := omega) only [u, i64, ax, eq_self, if_true, if_false, Nat.reduceAdd, Int.reduceToNat, Int.reduceAdd, tvs, bs]; refine aA ?_) | refine G_seq ?_ | refine G_block ?_ | refine G_condT rfl ?_ | refine G_condF rfl ?_ | refine G_skip ?_ | refine G_ret ?_ | refine G_exit ?_ | refine q_tn ?_ | refine q_tr ?_ | refine q_tx ?_ | refine q_bn ?_ | refine q_br ?_ | refine q_bx ?_ | refine q_by (by decide) ?_)
        refine ⟨(k + 2, z + 1, all ++ [0]), ?_, ⟨by simp only; rw [hall, pad_snoc], by simp only [List.length_append, List.length_cons, List.length_nil]; omega, fun h => by simp at h⟩, by simp only [List.length_append, List.length_cons, List.length_nil]; omega⟩
        simp only [u, i64, Nat.reduceSub, Nat.reduceAdd, bm]
    · have hp : (pad ds (2 * n + 2)).take (2 * n) = all.take (2 * n) ∧ (pad ds (2 * n + 2)).getD (2 * n) 0 = all.getD (2 * n) 0 ∧ (pad ds (2 * n + 2)).getD (2 * n + 1) 0 = all.getD (2 * n + 1) 0 := by
        have e : pad ds (2 * n + 2) = all := by
          unfold pad
          rw [hall]
          congr 2
          rw [hall, List.length_append, List.length_replicate] at hlen hc
          rcases Nat.lt_or_ge (2 * n + 2) ds.length with h | h <;> omega
        rw [e]
        exact ⟨rfl, rfl, rfl⟩
      obtain ⟨hp1, hp2, hp3⟩ := hp
      have hD : Ds 4294967296 all := by rw [hall]; exact hd.append (Ds_zeros (by decide) _)
      have hd1 := hD.getD (by decide) (2 * n)
      have hd2 := hD.getD (by decide) (2 * n + 1)
      cases k with
      | zero =>
        have h0 := hk rfl
        rw [h0] at hc
        simp at hc
      | succ k =>
        simp only [u, i64, Nat.reduceSub, Nat.reduceAdd, bm]
        repeat (first | ((first | refine Gs ?_ | refine Gr ?_); simp (disch := omega) only [u, i64, ax, eq_self, if_true, if_false, Nat.reduceAdd, Int.reduceToNat, Int.reduceAdd, tvs, bs]; refine aA ?_) | refine G_seq ?_ | refine G_block ?_ | refine G_condT rfl ?_ | refine G_condF rfl ?_ | refine G_skip ?_ | refine G_ret ?_ | refine G_exit ?_ | refine q_tn ?_ | refine q_tr ?_ | refine q_tx ?_ | refine q_bn ?_ | refine q_br ?_ | refine q_bx ?_ | refine q_by (by decide) ?_)
        refine G_cool0 ?_
        ((first | refine Gs ?_ | refine Gr ?_); simp (disch := omega) only [u, i64, ax, eq_self, if_true, if_false, Nat.reduceAdd, Int.reduceToNat, Int.reduceAdd, tvs, bs])
        refine callK_ret (ret_Row (all.take (2 * n)) (hD.take _) (by rw [List.length_take]; omega) (by rw [List.length_take]; omega)) (by rw [fzs_cons, fz_own, rget0, fzO_usT _ _ _ _ (by omega), fzs_nil, fzC_some]) ?_
        simp (disch := omega) only [u, i64, ax, eq_self, if_true, if_false, Nat.reduceAdd, Int.reduceToNat, Int.reduceAdd, tvs, bs]
        try refine aft_any ?_
        repeat (first | ((first | refine Gs ?_ | refine Gr ?_); simp (disch := omega) only [u, i64, ax, eq_self, if_true, if_false, Nat.reduceAdd, Int.reduceToNat, Int.reduceAdd, tvs, bs]; refine aA ?_) | refine G_seq ?_ | refine G_block ?_ | refine G_condT rfl ?_ | refine G_condF rfl ?_ | refine G_skip ?_ | refine G_ret ?_ | refine G_exit ?_ | refine q_tn ?_ | refine q_tr ?_ | refine q_tx ?_ | refine q_bn ?_ | refine q_br ?_ | refine q_bx ?_ | refine q_by (by decide) ?_)
        (refine FinQ hQ (congrArg Array.toList Tryz.results238) _ _ ?_); simp (disch := omega) only [u, i64, ax, if_true, forall_const, reduceCtorEq, implies_true, tvs, bf, hp1, hp2, hp3]
  · have hx : ds = [] := List.eq_nil_of_length_eq_zero (by omega)
    obtain ⟨i0, hi0⟩ : ∃ i : Nat × Nat × List Nat, i = (0, 0, []) := ⟨_, rfl⟩
    have hI0 : i0.2.2 = ds ++ List.replicate i0.2.1 0 ∧ i0.2.2.length ≤ max ds.length (2 * n + 2) ∧ (i0.1 = 0 → i0.2.2 = []) := by rw [hi0, hx]; exact ⟨by simp, by simp, fun h => rfl⟩
    repeat (first | ((first | refine Gs ?_ | refine Gr ?_); simp (disch := omega) only [u, i64, ax, eq_self, if_true, if_false, Nat.reduceAdd, Int.reduceToNat, Int.reduceAdd, tvs, bs]; refine aA ?_) | refine G_seq ?_ | refine G_block ?_ | refine G_condT rfl ?_ | refine G_condF rfl ?_ | refine G_skip ?_ | refine G_ret ?_ | refine G_exit ?_ | refine q_tn ?_ | refine q_tr ?_ | refine q_tx ?_ | refine q_bn ?_ | refine q_br ?_ | refine q_bx ?_ | refine q_by (by decide) ?_)
    refine AWp_loop (fun i : Nat × Nat × List Nat => mk 37 [(0, ws ds), (1, i64 n), (6, gA i.2.2 i.1)] (gR i.2.2 i.1)) (fun i => i.2.2 = ds ++ List.replicate i.2.1 0 ∧ i.2.2.length ≤ max ds.length (2 * n + 2) ∧ (i.1 = 0 → i.2.2 = [])) (fun i => 2 * n + 2 - i.2.2.length) i0 ?_ hI0 ?_
    · subst hi0; dsimp only; simp only [u, i64, Nat.reduceSub, Nat.reduceAdd, bm]
    clear hi0 hI0 i0
    rintro ⟨k, z, all⟩ ⟨hall, hlen, hk⟩
    simp only at hall hlen hk
    by_cases hc : all.length < 2 * n + 2
    · cases k with
      | zero =>
        have h0 := hk rfl
        subst h0
        simp only [u, i64, Nat.reduceSub, Nat.reduceAdd, bm]
        simp only [List.length_nil] at hc
        repeat (first | ((first | refine Gs ?_ | refine Gr ?_); simp (disch := omega) only [u, i64, ax, eq_self, if_true, if_false, Nat.reduceAdd, Int.reduceToNat, Int.reduceAdd, tvs, bs]; refine aA ?_) | refine G_seq ?_ | refine G_block ?_ | refine G_condT rfl ?_ | refine G_condF rfl ?_ | refine G_skip ?_ | refine G_ret ?_ | refine G_exit ?_ | refine q_tn ?_ | refine q_tr ?_ | refine q_tx ?_ | refine q_bn ?_ | refine q_br ?_ | refine q_bx ?_ | refine q_by (by decide) ?_)
        refine ⟨(1, z + 1, [0]), ?_, ⟨by simp only; rw [pad_snoc, ← hall]; rfl, by simp only [List.length_append, List.length_cons, List.length_nil]; omega, fun h => by simp at h⟩, by simp only [List.length_append, List.length_cons, List.length_nil]; omega⟩
        simp only [u, i64, Nat.reduceSub, Nat.reduceAdd, bm]
      | succ k =>
        simp only [u, i64, Nat.reduceSub, Nat.reduceAdd, bm]
        repeat (first | ((first | refine Gs ?_ | refine Gr ?_); simp (disch := omega) only [u, i64, ax, eq_self, if_true, if_false, Nat.reduceAdd, Int.reduceToNat, Int.reduceAdd, tvs, bs]; refine aA ?_) | refine G_seq ?_ | refine G_block ?_ | refine G_condT rfl ?_ | refine G_condF rfl ?_ | refine G_skip ?_ | refine G_ret ?_ | refine G_exit ?_ | refine q_tn ?_ | refine q_tr ?_ | refine q_tx ?_ | refine q_bn ?_ | refine q_br ?_ | refine q_bx ?_ | refine q_by (by decide) ?_)
        refine ⟨(k + 2, z + 1, all ++ [0]), ?_, ⟨by simp only; rw [hall, pad_snoc], by simp only [List.length_append, List.length_cons, List.length_nil]; omega, fun h => by simp at h⟩, by simp only [List.length_append, List.length_cons, List.length_nil]; omega⟩
        simp only [u, i64, Nat.reduceSub, Nat.reduceAdd, bm]
    · have hp : (pad ds (2 * n + 2)).take (2 * n) = all.take (2 * n) ∧ (pad ds (2 * n + 2)).getD (2 * n) 0 = all.getD (2 * n) 0 ∧ (pad ds (2 * n + 2)).getD (2 * n + 1) 0 = all.getD (2 * n + 1) 0 := by
        have e : pad ds (2 * n + 2) = all := by
          unfold pad
          rw [hall]
          congr 2
          rw [hall, List.length_append, List.length_replicate] at hlen hc
          rcases Nat.lt_or_ge (2 * n + 2) ds.length with h | h <;> omega
        rw [e]
        exact ⟨rfl, rfl, rfl⟩
      obtain ⟨hp1, hp2, hp3⟩ := hp
      have hD : Ds 4294967296 all := by rw [hall]; exact hd.append (Ds_zeros (by decide) _)
      have hd1 := hD.getD (by decide) (2 * n)
      have hd2 := hD.getD (by decide) (2 * n + 1)
      cases k with
      | zero =>
        have h0 := hk rfl
        rw [h0] at hc
        simp at hc
      | succ k =>
        simp only [u, i64, Nat.reduceSub, Nat.reduceAdd, bm]
        repeat (first | ((first | refine Gs ?_ | refine Gr ?_); simp (disch := omega) only [u, i64, ax, eq_self, if_true, if_false, Nat.reduceAdd, Int.reduceToNat, Int.reduceAdd, tvs, bs]; refine aA ?_) | refine G_seq ?_ | refine G_block ?_ | refine G_condT rfl ?_ | refine G_condF rfl ?_ | refine G_skip ?_ | refine G_ret ?_ | refine G_exit ?_ | refine q_tn ?_ | refine q_tr ?_ | refine q_tx ?_ | refine q_bn ?_ | refine q_br ?_ | refine q_bx ?_ | refine q_by (by decide) ?_)
        refine G_cool0 ?_
        ((first | refine Gs ?_ | refine Gr ?_); simp (disch := omega) only [u, i64, ax, eq_self, if_true, if_false, Nat.reduceAdd, Int.reduceToNat, Int.reduceAdd, tvs, bs])
        refine callK_ret (ret_Row (all.take (2 * n)) (hD.take _) (by rw [List.length_take]; omega) (by rw [List.length_take]; omega)) (by rw [fzs_cons, fz_own, rget0, fzO_usT _ _ _ _ (by omega), fzs_nil, fzC_some]) ?_
        simp (disch := omega) only [u, i64, ax, eq_self, if_true, if_false, Nat.reduceAdd, Int.reduceToNat, Int.reduceAdd, tvs, bs]
        try refine aft_any ?_
        repeat (first | ((first | refine Gs ?_ | refine Gr ?_); simp (disch := omega) only [u, i64, ax, eq_self, if_true, if_false, Nat.reduceAdd, Int.reduceToNat, Int.reduceAdd, tvs, bs]; refine aA ?_) | refine G_seq ?_ | refine G_block ?_ | refine G_condT rfl ?_ | refine G_condF rfl ?_ | refine G_skip ?_ | refine G_ret ?_ | refine G_exit ?_ | refine q_tn ?_ | refine q_tr ?_ | refine q_tx ?_ | refine q_bn ?_ | refine q_br ?_ | refine q_bx ?_ | refine q_by (by decide) ?_)
        (refine FinQ hQ (congrArg Array.toList Tryz.results238) _ _ ?_); simp (disch := omega) only [u, i64, ax, if_true, forall_const, reduceCtorEq, implies_true, tvs, bf, hp1, hp2, hp3]
theorem nat_row (ds : List Nat) (hd : Ds 4294967296 ds) : joined ((pad (ds.take (top ds)) (2 * (((ds.take (top ds)).length + 1) / 2) + 2)).take (2 * (((ds.take (top ds)).length + 1) / 2))) = words (vb 4294967296 ds) := by
  have htl := top_le ds
  have hlt : (ds.take (top ds)).length = top ds := by rw [List.length_take, Nat.min_eq_left htl]
  rw [hlt]
  have hv : vb 4294967296 (ds.take (top ds)) = vb 4294967296 ds := vb_top ds
  rcases Nat.eq_zero_or_pos (top ds) with h0 | h0
  · rw [h0] at hv ⊢
    simp only [List.take_zero, vb] at hv
    rw [← hv, words_zero]
    rfl
  rw [pad_take (by omega) (by omega)]
  have hpl : (pad (ds.take (top ds)) (2 * ((top ds + 1) / 2))).length = 2 * ((top ds + 1) / 2) := pad_length (by omega)
  have hev : val (joined (pad (ds.take (top ds)) (2 * ((top ds + 1) / 2)))) = vb 4294967296 ds := by
    rw [joined_val _ (by omega), pad_vb, hv]
  rw [← hev]
  refine words_of_ge (joined_Wd (pad_Ds (by decide) (hd.take _) _)) ?_
  rw [hev, joined_length, hpl, ← pow_half]
  exact Nat.le_trans (Nat.pow_le_pow_right (by decide) (by omega)) (vb_top_ge ds h0)
set_option maxRecDepth 100000 in
theorem ret_nat (ds : List Nat) (hd : Ds 4294967296 ds) (hl : ds.length ≤ 274877906944) : Ret Tryz.prog GEs 185 [ws ds] (nat (vb 4294967296 ds)) := by
  have htl : (ds.take (top ds)).length ≤ ds.length := by rw [List.length_take]; omega
  refine RetN_start Tryz.func185 (by kernel_rfl) rfl fun Q hQ hQ2 => ?_; rw [Tryz.ntmps185]; simp only [u, i64, Nat.reduceSub, Nat.reduceAdd, bm]
  repeat (first | ((first | refine Gs ?_ | refine Gr ?_); simp (disch := omega) only [u, i64, ax, eq_self, if_true, if_false, Nat.reduceAdd, Int.reduceToNat, Int.reduceAdd, tvs, bs]; first | refine aA ?_ | (refine cR (ret_Short ds (by omega)) ?_; simp (disch := omega) only [u, i64, ax, eq_self, if_true, if_false, Nat.reduceAdd, Int.reduceToNat, Int.reduceAdd, tvs, bs]; try refine aA ?_)) | (refine cR (ret_Short ds (by omega)) ?_; simp (disch := omega) only [u, i64, ax, eq_self, if_true, if_false, Nat.reduceAdd, Int.reduceToNat, Int.reduceAdd, tvs, bs]; try refine aA ?_) | refine G_seq ?_ | refine G_block ?_ | refine G_condT rfl ?_ | refine G_condF rfl ?_ | refine G_skip ?_ | refine G_ret ?_ | refine G_exit ?_ | refine q_tn ?_ | refine q_tr ?_ | refine q_tx ?_ | refine q_bn ?_ | refine q_br ?_ | refine q_bx ?_ | refine q_by (by decide) ?_)
  ((first | refine Gs ?_ | refine Gr ?_); simp (disch := omega) only [u, i64, ax, eq_self, if_true, if_false, Nat.reduceAdd, Int.reduceToNat, Int.reduceAdd, tvs, bs])
  (refine cR (ret_Cut (ds.take (top ds)) (((ds.take (top ds)).length + 1) / 2) (hd.take _) (by omega) (by omega)) ?_; simp (disch := omega) only [u, i64, ax, eq_self, if_true, if_false, Nat.reduceAdd, Int.reduceToNat, Int.reduceAdd, tvs, bs]; try refine aA ?_)
  rw [nat_row ds hd]
  repeat (first | ((first | refine Gs ?_ | refine Gr ?_); simp (disch := omega) only [u, i64, ax, eq_self, if_true, if_false, Nat.reduceAdd, Int.reduceToNat, Int.reduceAdd, tvs, bs]; refine aA ?_) | refine G_seq ?_ | refine G_block ?_ | refine G_condT rfl ?_ | refine G_condF rfl ?_ | refine G_skip ?_ | refine G_ret ?_ | refine G_exit ?_ | refine q_tn ?_ | refine q_tr ?_ | refine q_tx ?_ | refine q_bn ?_ | refine q_br ?_ | refine q_bx ?_ | refine q_by (by decide) ?_)
  (refine FinQ hQ (congrArg Array.toList Tryz.results185) _ _ ?_); simp (disch := omega) only [u, i64, ax, if_true, forall_const, reduceCtorEq, implies_true, tvs, bf]
end Go.Proofs
set_option linter.unusedVariables false
set_option linter.unusedSimpArgs false
namespace Go.Proofs
open Go.Ax
theorem dplus_step {K p s c a b x y : Nat} (h : s + c * p = a + b) : s + p * ((c + x + y) % K) + (c + x + y) / K * (p * K) = a + p * x + (b + p * y) := by
  have e : p * ((c + x + y) % K) + (c + x + y) / K * (p * K) = p * (c + x + y) := by
    rw [Nat.mul_comm ((c + x + y) / K), Nat.mul_assoc, ← Nat.mul_add, Nat.mod_add_div]
  rw [Nat.add_assoc, e, Nat.mul_add, Nat.mul_add, Nat.mul_comm p c]
  omega
theorem vb_snoc {K : Nat} (xs : List Nat) (x : Nat) : vb K (xs ++ [x]) = vb K xs + K ^ xs.length * x := by rw [vb_append]; simp [vb]
theorem Ds_snoc {K : Nat} {xs : List Nat} {x : Nat} (h : Ds K xs) (hx : x < K) : Ds K (xs ++ [x]) := h.append (Ds_cons hx Ds_nil)
set_option maxRecDepth 100000 in
set_option maxHeartbeats 1000000 in
theorem ret_Plus (a b : List Nat) (ha : Ds 4294967296 a) (hb : Ds 4294967296 b) (hla : a.length ≤ 1099511627775) (hlb : b.length ≤ 1099511627775) :
    Ret Tryz.prog GEs 242 [ws a, ws b] (ws (wfb 4294967296 (max a.length b.length + 1) (vb 4294967296 a + vb 4294967296 b))) := by
  refine RetN_start Tryz.func242 (by kernel_rfl) rfl fun Q hQ hQ2 => ?_; rw [Tryz.ntmps242]; simp only [u, i64, Nat.reduceSub, Nat.reduceAdd, bm]
  repeat (first | ((first | refine Gs ?_ | refine Gr ?_); simp (disch := omega) only [u, i64, ax, eq_self, if_true, if_false, Nat.reduceAdd, Int.reduceToNat, Int.reduceAdd, tvs, bs]; refine aA ?_) | refine G_seq ?_ | refine G_block ?_ | refine G_condT rfl ?_ | refine G_condF rfl ?_ | refine G_skip ?_ | refine G_ret ?_ | refine G_exit ?_ | refine q_tn ?_ | refine q_tr ?_ | refine q_tx ?_ | refine q_bn ?_ | refine q_br ?_ | refine q_bx ?_ | refine q_by (by decide) ?_)
  refine AWp_loop (fun i : Nat × List Nat × Nat => mk 40 [(0, ws a), (1, ws b), (5, gA i.2.1 i.1), (6, u i.2.2), (7, i64 i.1)] (gR i.2.1 i.1))
    (fun i => i.1 ≤ max a.length b.length ∧ i.2.1.length = i.1 ∧ Ds 4294967296 i.2.1 ∧ i.2.2 ≤ 1 ∧ vb 4294967296 i.2.1 + i.2.2 * 4294967296 ^ i.1 = vb 4294967296 (a.take i.1) + vb 4294967296 (b.take i.1)) (fun i => max a.length b.length - i.1) (0, [], 0) ?_
    ⟨Nat.zero_le _, rfl, Ds_nil, by simp, by simp [vb]⟩ ?_
  · simp only [u, i64, Nat.reduceSub, Nat.reduceAdd, bm]
  rintro ⟨k, os, c⟩ ⟨h1, h2, h3, h4, h5⟩
  simp only at h1 h2 h3 h4 h5
  have e1 := vb_take_getD (K := 4294967296) a k
  have e2 := vb_take_getD (K := 4294967296) b k
  have ga := ha.getD (by decide) k
  have gb := hb.getD (by decide) k
  have e3 := dplus_step (K := 4294967296) (x := a.getD k 0) (y := b.getD k 0) h5
  rw [← e1, ← e2, ← Nat.pow_succ] at e3
  by_cases hn : k < max a.length b.length
  · have hor : k < a.length ∨ k < b.length := by omega
    have hs := vb_snoc (K := 4294967296) os ((c + a.getD k 0 + b.getD k 0) % 4294967296)
    rw [h2] at hs
    rw [← hs] at e3
    have hI : k + 1 ≤ max a.length b.length ∧ (os ++ [(c + a.getD k 0 + b.getD k 0) % 4294967296]).length = k + 1 ∧ Ds 4294967296 (os ++ [(c + a.getD k 0 + b.getD k 0) % 4294967296]) ∧ (c + a.getD k 0 + b.getD k 0) / 4294967296 ≤ 1 ∧
        vb 4294967296 (os ++ [(c + a.getD k 0 + b.getD k 0) % 4294967296]) + (c + a.getD k 0 + b.getD k 0) / 4294967296 * 4294967296 ^ (k + 1) = vb 4294967296 (a.take (k + 1)) + vb 4294967296 (b.take (k + 1)) :=
      ⟨hn, by simp [h2], Ds_snoc h3 (Nat.mod_lt _ (by decide)), by omega, e3⟩
    clear e3 hs e1 e2
    by_cases hka : k < a.length
    · cases k with
      | zero =>
        have h0 : os = [] := List.eq_nil_of_length_eq_zero h2
        subst h0
        simp only [u, i64, Nat.reduceSub, Nat.reduceAdd, bm]
        repeat (first | ((first | refine Gs ?_ | refine Gr ?_); simp (disch := omega) only [u, i64, ax, eq_self, if_true, if_false, Nat.reduceAdd, Int.reduceToNat, Int.reduceAdd, tvs, bs]; first | refine aA ?_ | ((first | refine cR (ret_digit a 0 (by omega)) ?_ | refine cR (ret_digit b 0 (by omega)) ?_); simp (disch := omega) only [u, i64, ax, eq_self, if_true, if_false, Nat.reduceAdd, Int.reduceToNat, Int.reduceAdd, tvs, bs]; try refine aA ?_)) | ((first | refine cR (ret_digit a 0 (by omega)) ?_ | refine cR (ret_digit b 0 (by omega)) ?_); simp (disch := omega) only [u, i64, ax, eq_self, if_true, if_false, Nat.reduceAdd, Int.reduceToNat, Int.reduceAdd, tvs, bs]; try refine aA ?_) | refine G_seq ?_ | refine G_block ?_ | refine G_condT rfl ?_ | refine G_condF rfl ?_ | refine G_skip ?_ | refine G_ret ?_ | refine G_exit ?_ | refine q_tn ?_ | refine q_tr ?_ | refine q_tx ?_ | refine q_bn ?_ | refine q_br ?_ | refine q_bx ?_ | refine q_by (by decide) ?_)
        refine ⟨(1, [(c + a.getD 0 0 + b.getD 0 0) % 4294967296], (c + a.getD 0 0 + b.getD 0 0) / 4294967296), ?_, hI, by simp only; omega⟩
        simp only [u, i64, Nat.reduceSub, Nat.reduceAdd, bm]
      | succ k =>
        simp only [u, i64, Nat.reduceSub, Nat.reduceAdd, bm]
        repeat (first | ((first | refine Gs ?_ | refine Gr ?_); simp (disch := omega) only [u, i64, ax, eq_self, if_true, if_false, Nat.reduceAdd, Int.reduceToNat, Int.reduceAdd, tvs, bs]; first | refine aA ?_ | ((first | refine cR (ret_digit a (k + 1) (by omega)) ?_ | refine cR (ret_digit b (k + 1) (by omega)) ?_); simp (disch := omega) only [u, i64, ax, eq_self, if_true, if_false, Nat.reduceAdd, Int.reduceToNat, Int.reduceAdd, tvs, bs]; try refine aA ?_)) | ((first | refine cR (ret_digit a (k + 1) (by omega)) ?_ | refine cR (ret_digit b (k + 1) (by omega)) ?_); simp (disch := omega) only [u, i64, ax, eq_self, if_true, if_false, Nat.reduceAdd, Int.reduceToNat, Int.reduceAdd, tvs, bs]; try refine aA ?_) | refine G_seq ?_ | refine G_block ?_ | refine G_condT rfl ?_ | refine G_condF rfl ?_ | refine G_skip ?_ | refine G_ret ?_ | refine G_exit ?_ | refine q_tn ?_ | refine q_tr ?_ | refine q_tx ?_ | refine q_bn ?_ | refine q_br ?_ | refine q_bx ?_ | refine q_by (by decide) ?_)
        refine ⟨(k + 2, os ++ [(c + a.getD (k + 1) 0 + b.getD (k + 1) 0) % 4294967296], (c + a.getD (k + 1) 0 + b.getD (k + 1) 0) / 4294967296), ?_, hI, by simp only; omega⟩
        simp only [u, i64, Nat.reduceSub, Nat.reduceAdd, bm]
    · have hkb : k < b.length := by omega
      cases k with
      | zero =>
        have h0 : os = [] := List.eq_nil_of_length_eq_zero h2
        subst h0
        simp only [u, i64, Nat.reduceSub, Nat.reduceAdd, bm]
        repeat (first | ((first | refine Gs ?_ | refine Gr ?_); simp (disch := omega) only [u, i64, ax, eq_self, if_true, if_false, Nat.reduceAdd, Int.reduceToNat, Int.reduceAdd, tvs, bs]; first | refine aA ?_ | ((first | refine cR (ret_digit a 0 (by omega)) ?_ | refine cR (ret_digit b 0 (by omega)) ?_); simp (disch := omega) only [u, i64, ax, eq_self, if_true, if_false, Nat.reduceAdd, Int.reduceToNat, Int.reduceAdd, tvs, bs]; try refine aA ?_)) | ((first | refine cR (ret_digit a 0 (by omega)) ?_ | refine cR (ret_digit b 0 (by omega)) ?_); simp (disch := omega) only [u, i64, ax, eq_self, if_true, if_false, Nat.reduceAdd, Int.reduceToNat, Int.reduceAdd, tvs, bs]; try refine aA ?_) | refine G_seq ?_ | refine G_block ?_ | refine G_condT rfl ?_ | refine G_condF rfl ?_ | refine G_skip ?_ | refine G_ret ?_ | refine G_exit ?_ | refine q_tn ?_ | refine q_tr ?_ | refine q_tx ?_ | refine q_bn ?_ | refine q_br ?_ | refine q_bx ?_ | refine q_by (by decide) ?_)
        refine ⟨(1, [(c + a.getD 0 0 + b.getD 0 0) % 4294967296], (c + a.getD 0 0 + b.getD 0 0) / 4294967296), ?_, hI, by simp only; omega⟩
        simp only [u, i64, Nat.reduceSub, Nat.reduceAdd, bm]
      | succ k =>
        simp only [u, i64, Nat.reduceSub, Nat.reduceAdd, bm]
        repeat (first | ((first | refine Gs ?_ | refine Gr ?_); simp (disch := omega) only [u, i64, ax, eq_self, if_true, if_false, Nat.reduceAdd, Int.reduceToNat, Int.reduceAdd, tvs, bs]; first | refine aA ?_ | ((first | refine cR (ret_digit a (k + 1) (by omega)) ?_ | refine cR (ret_digit b (k + 1) (by omega)) ?_); simp (disch := omega) only [u, i64, ax, eq_self, if_true, if_false, Nat.reduceAdd, Int.reduceToNat, Int.reduceAdd, tvs, bs]; try refine aA ?_)) | ((first | refine cR (ret_digit a (k + 1) (by omega)) ?_ | refine cR (ret_digit b (k + 1) (by omega)) ?_); simp (disch := omega) only [u, i64, ax, eq_self, if_true, if_false, Nat.reduceAdd, Int.reduceToNat, Int.reduceAdd, tvs, bs]; try refine aA ?_) | refine G_seq ?_ | refine G_block ?_ | refine G_condT rfl ?_ | refine G_condF rfl ?_ | refine G_skip ?_ | refine G_ret ?_ | refine G_exit ?_ | refine q_tn ?_ | refine q_tr ?_ | refine q_tx ?_ | refine q_bn ?_ | refine q_br ?_ | refine q_bx ?_ | refine q_by (by decide) ?_)
        refine ⟨(k + 2, os ++ [(c + a.getD (k + 1) 0 + b.getD (k + 1) 0) % 4294967296], (c + a.getD (k + 1) 0 + b.getD (k + 1) 0) / 4294967296), ?_, hI, by simp only; omega⟩
        simp only [u, i64, Nat.reduceSub, Nat.reduceAdd, bm]
  · have hk0 : k = max a.length b.length := by omega
    rw [List.take_of_length_le (by omega), List.take_of_length_le (by omega)] at h5
    have hend : os ++ [c] = wfb 4294967296 (max a.length b.length + 1) (vb 4294967296 a + vb 4294967296 b) :=
      wfb_of (by decide) (Ds_snoc h3 (by omega)) (by simp [h2, hk0]) (by rw [vb_snoc, h2, Nat.mul_comm, h5])
    rw [← hend] at hQ
    have hna : ¬ k < a.length := by omega
    have hnb : ¬ k < b.length := by omega
    cases k with
    | zero =>
      have h0 : os = [] := List.eq_nil_of_length_eq_zero h2
      subst h0
      simp only [u, i64, Nat.reduceSub, Nat.reduceAdd, bm]
      repeat (first | ((first | refine Gs ?_ | refine Gr ?_); simp (disch := omega) only [u, i64, ax, eq_self, if_true, if_false, Nat.reduceAdd, Int.reduceToNat, Int.reduceAdd, tvs, bs]; refine aA ?_) | refine G_seq ?_ | refine G_block ?_ | refine G_condT rfl ?_ | refine G_condF rfl ?_ | refine G_skip ?_ | refine G_ret ?_ | refine G_exit ?_ | refine q_tn ?_ | refine q_tr ?_ | refine q_tx ?_ | refine q_bn ?_ | refine q_br ?_ | refine q_bx ?_ | refine q_by (by decide) ?_)
      (refine FinQ hQ (congrArg Array.toList Tryz.results242) _ _ ?_); simp (disch := omega) only [u, i64, ax, if_true, forall_const, reduceCtorEq, implies_true, tvs, bf]
      rfl
    | succ k =>
      simp only [u, i64, Nat.reduceSub, Nat.reduceAdd, bm]
      repeat (first | ((first | refine Gs ?_ | refine Gr ?_); simp (disch := omega) only [u, i64, ax, eq_self, if_true, if_false, Nat.reduceAdd, Int.reduceToNat, Int.reduceAdd, tvs, bs]; refine aA ?_) | refine G_seq ?_ | refine G_block ?_ | refine G_condT rfl ?_ | refine G_condF rfl ?_ | refine G_skip ?_ | refine G_ret ?_ | refine G_exit ?_ | refine q_tn ?_ | refine q_tr ?_ | refine q_tx ?_ | refine q_bn ?_ | refine q_br ?_ | refine q_bx ?_ | refine q_by (by decide) ?_)
      have hlen : (os ++ [c]).length = os.length + 1 := by simp
      rw [← us_snoc1 os c]
      (refine FinQ hQ (congrArg Array.toList Tryz.results242) _ _ ?_); simp (disch := omega) only [u, i64, ax, if_true, forall_const, reduceCtorEq, implies_true, tvs, bf]
/-- The difference of digits, as many as the first ones have. -/
theorem dminus_step {K p s c a b x y : Nat} (hc : c ≤ 1) (hx : x < K) (hy : y < K) (h : s + b = a + c * p) :
    s + p * ((x + K - y - c) % K) + (b + p * y) = a + p * x + (1 - (x + K - y - c) / K) * (p * K) ∧ 1 - (x + K - y - c) / K ≤ 1 := by
  have hlt : (x + K - y - c) / K ≤ 1 := by
    have : x + K - y - c < 2 * K := by omega
    exact Nat.le_of_lt_succ ((Nat.div_lt_iff_lt_mul (show 0 < K by omega)).2 this)
  refine ⟨?_, Nat.sub_le _ _⟩
  have e := Nat.div_add_mod (x + K - y - c) K
  generalize (x + K - y - c) / K = q at *
  generalize (x + K - y - c) % K = r at *
  have e2 : p * (r + y + c) = p * (x + (1 - q) * K) := by
    have : q = 0 ∨ q = 1 := by omega
    rcases this with rfl | rfl
    · simp at e ⊢; congr 1; omega
    · simp at e ⊢; congr 1; omega
  simp only [Nat.mul_add] at e2
  rw [Nat.mul_left_comm p, Nat.mul_comm p c] at e2
  omega
def mdiff (K n a b : Nat) : List Nat := wfb K n (if b ≤ a then a - b else a + K ^ n - b)
set_option maxRecDepth 100000 in
set_option maxHeartbeats 1000000 in
theorem retT_Minus (a b : List Nat) (ha : Ds 4294967296 a) (hb : Ds 4294967296 b) (h0 : a ≠ []) (hla : a.length ≤ 1099511627775) (hlb : b.length ≤ 1099511627775) :
    RetT Tryz.prog GEs 255 [ws a, ws b] (us (mdiff 4294967296 a.length (vb 4294967296 a) (vb 4294967296 (b.take a.length)))) [.bool (decide (vb 4294967296 a < vb 4294967296 (b.take a.length)))] := by
  refine RetT_start Tryz.func255 (by kernel_rfl) rfl fun Q hQ hQ2 => ?_; rw [Tryz.ntmps255]; simp only [u, i64, Nat.reduceSub, Nat.reduceAdd, bm]
  repeat (first | ((first | refine Gs ?_ | refine Gr ?_); simp (disch := omega) only [u, i64, ax, eq_self, if_true, if_false, Nat.reduceAdd, Int.reduceToNat, Int.reduceAdd, tvs, bs]; refine aA ?_) | refine G_seq ?_ | refine G_block ?_ | refine G_condT rfl ?_ | refine G_condF rfl ?_ | refine G_skip ?_ | refine G_ret ?_ | refine G_exit ?_ | refine q_tn ?_ | refine q_tr ?_ | refine q_tx ?_ | refine q_bn ?_ | refine q_br ?_ | refine q_bx ?_ | refine q_by (by decide) ?_)
  refine AWp_loop (fun i : Nat × List Nat × Nat => mk 38 [(0, ws a), (1, ws b), (6, gA i.2.1 i.1), (7, u i.2.2), (8, i64 i.1)] (gR i.2.1 i.1))
    (fun i => i.1 ≤ a.length ∧ i.2.1.length = i.1 ∧ Ds 4294967296 i.2.1 ∧ i.2.2 ≤ 1 ∧ vb 4294967296 i.2.1 + vb 4294967296 (b.take i.1) = vb 4294967296 (a.take i.1) + i.2.2 * 4294967296 ^ i.1) (fun i => a.length - i.1) (0, [], 0) ?_
    ⟨Nat.zero_le _, rfl, Ds_nil, by simp, by simp [vb]⟩ ?_
  · simp only [u, i64, Nat.reduceSub, Nat.reduceAdd, bm]
  rintro ⟨k, os, c⟩ ⟨h1, h2, h3, h4, h5⟩
  simp only at h1 h2 h3 h4 h5
  have e1 := vb_take_getD (K := 4294967296) a k
  have e2 := vb_take_getD (K := 4294967296) b k
  have ga := ha.getD (by decide) k
  have gb := hb.getD (by decide) k
  obtain ⟨e3, e4⟩ := dminus_step (K := 4294967296) h4 ga gb h5
  rw [← e1, ← e2, ← Nat.pow_succ] at e3
  by_cases hn : k < a.length
  · have hs := vb_snoc (K := 4294967296) os ((a.getD k 0 + 4294967296 - b.getD k 0 - c) % 4294967296)
    rw [h2] at hs
    rw [← hs] at e3
    have hI : k + 1 ≤ a.length ∧ (os ++ [(a.getD k 0 + 4294967296 - b.getD k 0 - c) % 4294967296]).length = k + 1 ∧ Ds 4294967296 (os ++ [(a.getD k 0 + 4294967296 - b.getD k 0 - c) % 4294967296]) ∧ 1 - (a.getD k 0 + 4294967296 - b.getD k 0 - c) / 4294967296 ≤ 1 ∧
        vb 4294967296 (os ++ [(a.getD k 0 + 4294967296 - b.getD k 0 - c) % 4294967296]) + vb 4294967296 (b.take (k + 1)) = vb 4294967296 (a.take (k + 1)) + (1 - (a.getD k 0 + 4294967296 - b.getD k 0 - c) / 4294967296) * 4294967296 ^ (k + 1) :=
      ⟨hn, by simp [h2], Ds_snoc h3 (Nat.mod_lt _ (by decide)), e4, e3⟩
    clear e3 hs e1 e2
    cases k with
    | zero =>
      have h0 : os = [] := List.eq_nil_of_length_eq_zero h2
      subst h0
      simp only [u, i64, Nat.reduceSub, Nat.reduceAdd, bm]
      repeat (first | ((first | refine Gs ?_ | refine Gr ?_); simp (disch := omega) only [u, i64, ax, eq_self, if_true, if_false, Nat.reduceAdd, Int.reduceToNat, Int.reduceAdd, tvs, bs]; first | refine aA ?_ | (refine cR (ret_digit b 0 (by omega)) ?_; simp (disch := omega) only [u, i64, ax, eq_self, if_true, if_false, Nat.reduceAdd, Int.reduceToNat, Int.reduceAdd, tvs, bs]; try refine aA ?_)) | (refine cR (ret_digit b 0 (by omega)) ?_; simp (disch := omega) only [u, i64, ax, eq_self, if_true, if_false, Nat.reduceAdd, Int.reduceToNat, Int.reduceAdd, tvs, bs]; try refine aA ?_) | refine G_seq ?_ | refine G_block ?_ | refine G_condT rfl ?_ | refine G_condF rfl ?_ | refine G_skip ?_ | refine G_ret ?_ | refine G_exit ?_ | refine q_tn ?_ | refine q_tr ?_ | refine q_tx ?_ | refine q_bn ?_ | refine q_br ?_ | refine q_bx ?_ | refine q_by (by decide) ?_)
      refine ⟨(1, [(a.getD 0 0 + 4294967296 - b.getD 0 0 - c) % 4294967296], 1 - (a.getD 0 0 + 4294967296 - b.getD 0 0 - c) / 4294967296), ?_, hI, by simp only; omega⟩
      simp only [u, i64, Nat.reduceSub, Nat.reduceAdd, bm]
    | succ k =>
      simp only [u, i64, Nat.reduceSub, Nat.reduceAdd, bm]
      repeat (first | ((first | refine Gs ?_ | refine Gr ?_); simp (disch := omega) only [u, i64, ax, eq_self, if_true, if_false, Nat.reduceAdd, Int.reduceToNat, Int.reduceAdd, tvs, bs]; first | refine aA ?_ | (refine cR (ret_digit b (k + 1) (by omega)) ?_; simp (disch := omega) only [u, i64, ax, eq_self, if_true, if_false, Nat.reduceAdd, Int.reduceToNat, Int.reduceAdd, tvs, bs]; try refine aA ?_)) | (refine cR (ret_digit b (k + 1) (by omega)) ?_; simp (disch := omega) only [u, i64, ax, eq_self, if_true, if_false, Nat.reduceAdd, Int.reduceToNat, Int.reduceAdd, tvs, bs]; try refine aA ?_) | refine G_seq ?_ | refine G_block ?_ | refine G_condT rfl ?_ | refine G_condF rfl ?_ | refine G_skip ?_ | refine G_ret ?_ | refine G_exit ?_ | refine q_tn ?_ | refine q_tr ?_ | refine q_tx ?_ | refine q_bn ?_ | refine q_br ?_ | refine q_bx ?_ | refine q_by (by decide) ?_)
      refine ⟨(k + 2, os ++ [(a.getD (k + 1) 0 + 4294967296 - b.getD (k + 1) 0 - c) % 4294967296], 1 - (a.getD (k + 1) 0 + 4294967296 - b.getD (k + 1) 0 - c) / 4294967296), ?_, hI, by simp only; omega⟩
      simp only [u, i64, Nat.reduceSub, Nat.reduceAdd, bm]
  · have hk0 : k = a.length := by omega
    rw [hk0, List.take_length] at h5
    have hlt := vb_lt h3
    have hlt2 := vb_lt ha
    have hlt3 := vb_lt (hb.take a.length)
    rw [List.length_take] at hlt3
    have hlt4 : 4294967296 ^ min a.length b.length ≤ 4294967296 ^ a.length := Nat.pow_le_pow_right (by decide) (Nat.min_le_left _ _)
    rw [h2, hk0] at hlt
    have hend : os = mdiff 4294967296 a.length (vb 4294967296 a) (vb 4294967296 (b.take a.length)) ∧ decide (c = 1) = decide (vb 4294967296 a < vb 4294967296 (b.take a.length)) := by
      have : c = 0 ∨ c = 1 := by omega
      rcases this with rfl | rfl
      · refine ⟨wfb_of (by decide) h3 (h2.trans hk0) ?_, ?_⟩
        · rw [if_pos (by omega)]; omega
        · rw [decF (by decide), decF (by omega)]
      · refine ⟨wfb_of (by decide) h3 (h2.trans hk0) ?_, ?_⟩
        · rw [if_neg (by omega)]; omega
        · rw [decT rfl, decT (by omega)]
    rw [← hend.1, ← hend.2] at hQ
    cases k with
    | zero => exact absurd (List.eq_nil_of_length_eq_zero hk0.symm) h0
    | succ k =>
      simp only [u, i64, Nat.reduceSub, Nat.reduceAdd, bm]
      repeat (first | ((first | refine Gs ?_ | refine Gr ?_); simp (disch := omega) only [u, i64, ax, eq_self, if_true, if_false, Nat.reduceAdd, Int.reduceToNat, Int.reduceAdd, tvs, bs]; refine aA ?_) | refine G_seq ?_ | refine G_block ?_ | refine G_condT rfl ?_ | refine G_condF rfl ?_ | refine G_skip ?_ | refine G_ret ?_ | refine G_exit ?_ | refine q_tn ?_ | refine q_tr ?_ | refine q_tx ?_ | refine q_bn ?_ | refine q_br ?_ | refine q_bx ?_ | refine q_by (by decide) ?_)
      refine FinQT hQ (congrArg Array.toList Tryz.results255) _ _ _ _ _ _ _ rfl rfl (by simp [us_length]) (by rw [List.take_of_length_le (by simp [us_length])]) (us_noMem _) rfl rfl
end Go.Proofs
set_option linter.unusedVariables false
set_option linter.unusedSimpArgs false
namespace Go.Proofs
open Go.Ax
theorem times_word {c o x y : Nat} (hc : c < 4294967296) (ho : o < 4294967296) (hx : x < 4294967296) (hy : y < 4294967296) : x * y < 18446744073709551616 ∧ c + o < 18446744073709551616 ∧ c + o + x * y < 18446744073709551616 ∧ (c + o + x * y) / 4294967296 < 4294967296 := by
  have h := Nat.mul_le_mul (show x ≤ 4294967295 by omega) (show y ≤ 4294967295 by omega)
  generalize x * y = p at *
  omega
theorem times_step {K P Q A S c o x y V M : Nat} (h : S + P * c = M + Q * x * V) (hP : P = Q * A) : (S + P * ((c + o + x * y) % K)) + P * K * ((c + o + x * y) / K) = (M + P * o) + Q * x * (V + A * y) := by
  have e := Nat.mod_add_div (c + o + x * y) K
  have e1 : P * ((c + o + x * y) % K) + P * K * ((c + o + x * y) / K) = P * (c + o + x * y) := by
    rw [Nat.mul_assoc P K, ← Nat.mul_add, e]
  have e2 : P * (x * y) = Q * x * (A * y) := by rw [hP, Nat.mul_assoc Q A, Nat.mul_left_comm A x, ← Nat.mul_assoc Q x]
  rw [Nat.mul_add, Nat.mul_add, e2] at e1
  rw [Nat.mul_add (Q * x)]
  omega
theorem getDs (os : List Nat) (i k v : Nat) : (os.set i v).getD k 0 = if i = k ∧ k < os.length then v else os.getD k 0 := by
  rw [List.getD_eq_getElem?_getD, List.getElem?_set]
  by_cases h : i = k
  · subst h
    by_cases h2 : i < os.length
    · simp [h2]
    · simp [h2, List.getD_eq_getElem?_getD, List.getElem?_eq_none (Nat.le_of_not_lt h2)]
  · simp [h, List.getD_eq_getElem?_getD]
set_option maxRecDepth 100000 in
set_option maxHeartbeats 1000000 in
theorem retF_Times (a b : List Nat) (ha : Ds 4294967296 a) (hb : Ds 4294967296 b) (hla : a.length ≤ 549755813888) (hlb : b.length ≤ 549755813888) :
    RetF Tryz.prog GEs 216 [ws a, ws b] (us (wfb 4294967296 (a.length + b.length) (vb 4294967296 a * vb 4294967296 b))) := by
  refine RetF_start Tryz.func216 (by kernel_rfl) rfl fun Q hQ hQ2 => ?_; rw [Tryz.ntmps216]; simp only [u, i64, Nat.reduceSub, Nat.reduceAdd, bm]
  repeat (first | ((first | refine Gs ?_ | refine Gr ?_); simp (disch := omega) only [u, i64, ax, eq_self, if_true, if_false, Nat.reduceAdd, Int.reduceToNat, Int.reduceAdd, tvs, bs]; refine aA ?_) | refine G_seq ?_ | refine G_block ?_ | refine G_condT rfl ?_ | refine G_condF rfl ?_ | refine G_skip ?_ | refine G_ret ?_ | refine G_exit ?_ | refine q_tn ?_ | refine q_tr ?_ | refine q_tx ?_ | refine q_bn ?_ | refine q_br ?_ | refine q_bx ?_ | refine q_by (by decide) ?_)
  refine AWp_loop (fun i : Nat × List Nat => mk 62 [(0, ws a), (1, ws b), (5, .own 0 0 0 (a.length + b.length) 1), (6, i64 i.1)] [⟨0, true, us i.2⟩])
    (fun i => i.1 ≤ a.length ∧ i.2.length = a.length + b.length ∧ Ds 4294967296 i.2 ∧ (∀ j, i.1 + b.length ≤ j → i.2.getD j 0 = 0) ∧ vb 4294967296 (i.2.take (i.1 + b.length)) = vb 4294967296 (a.take i.1) * vb 4294967296 b) (fun i => a.length - i.1) (0, List.replicate (a.length + b.length) 0) ?_
    ⟨Nat.zero_le _, by simp, Ds_zeros (by decide) _, fun j _ => getD_rep _ _, by simp [vb, List.take_replicate, vb_zeros]⟩ ?_
  · simp only [u, i64, Nat.reduceSub, Nat.reduceAdd, bm]
  rintro ⟨n, os⟩ ⟨h1, h2, h3, h4, h5⟩
  simp only at h1 h2 h3 h4 h5
  simp only [u, i64, Nat.reduceSub, Nat.reduceAdd, bm]
  by_cases hn : n < a.length
  · have hx := ha.getD (by decide) n
    have e1 := vb_take_getD (K := 4294967296) a n
    repeat (first | ((first | refine Gs ?_ | refine Gr ?_); simp (disch := omega) only [u, i64, ax, eq_self, if_true, if_false, Nat.reduceAdd, Int.reduceToNat, Int.reduceAdd, tvs, bs]; refine aA ?_) | refine G_seq ?_ | refine G_block ?_ | refine G_condT rfl ?_ | refine G_condF rfl ?_ | refine G_skip ?_ | refine G_ret ?_ | refine G_exit ?_ | refine q_tn ?_ | refine q_tr ?_ | refine q_tx ?_ | refine q_bn ?_ | refine q_br ?_ | refine q_bx ?_ | refine q_by (by decide) ?_)
    refine AWp_loop (fun i : Nat × List Nat × Nat => mk 62 [(0, ws a), (1, ws b), (5, .own 0 0 0 (a.length + b.length) 1), (6, i64 n), (7, u i.2.2), (8, i64 i.1)] [⟨0, true, us i.2.1⟩])
      (fun i => i.1 ≤ b.length ∧ i.2.1.length = a.length + b.length ∧ Ds 4294967296 i.2.1 ∧ i.2.2 < 4294967296 ∧ (∀ j, n + i.1 ≤ j → i.2.1.getD j 0 = os.getD j 0) ∧
        vb 4294967296 (i.2.1.take (n + i.1)) + 4294967296 ^ (n + i.1) * i.2.2 = vb 4294967296 (os.take (n + i.1)) + 4294967296 ^ n * a.getD n 0 * vb 4294967296 (b.take i.1)) (fun i => b.length - i.1) (0, os, 0) ?_
      ⟨Nat.zero_le _, h2, h3, by simp, fun j _ => rfl, by simp [vb]⟩ ?_
    · simp only [u, i64, Nat.reduceSub, Nat.reduceAdd, bm]
    rintro ⟨k, ps, c⟩ ⟨g1, g2, g3, g4, g5, g6⟩
    simp only at g1 g2 g3 g4 g5 g6
    simp only [u, i64, Nat.reduceSub, Nat.reduceAdd, bm]
    by_cases hk : k < b.length
    · have hy := hb.getD (by decide) k
      have ho := g3.getD (by decide) (n + k)
      have e2 := vb_take_getD (K := 4294967296) b k
      have e3 := vb_take_getD (K := 4294967296) os (n + k)
      rw [← g5 (n + k) (Nat.le_refl _)] at e3
      have hs := vb_set_take (K := 4294967296) ps (n + k) ((c + ps.getD (n + k) 0 + a.getD n 0 * b.getD k 0) % 4294967296) (by omega)
      have e4 := times_step (K := 4294967296) (o := ps.getD (n + k) 0) (y := b.getD k 0) g6 (Nat.pow_add _ _ _)
      rw [← hs, ← e3, ← e2, ← Nat.pow_succ] at e4
      obtain ⟨w1, w2, w3, w4⟩ := times_word g4 ho hx hy
      repeat (first | ((first | refine Gs ?_ | refine Gr ?_); simp (disch := omega) only [u, i64, ax, eq_self, if_true, if_false, Nat.reduceAdd, Int.reduceToNat, Int.reduceAdd, tvs, bs]; refine aA ?_) | refine G_seq ?_ | refine G_block ?_ | refine G_condT rfl ?_ | refine G_condF rfl ?_ | refine G_skip ?_ | refine G_ret ?_ | refine G_exit ?_ | refine q_tn ?_ | refine q_tr ?_ | refine q_tx ?_ | refine q_bn ?_ | refine q_br ?_ | refine q_bx ?_ | refine q_by (by decide) ?_)
      refine ⟨(k + 1, ps.set (n + k) ((c + ps.getD (n + k) 0 + a.getD n 0 * b.getD k 0) % 4294967296), (c + ps.getD (n + k) 0 + a.getD n 0 * b.getD k 0) / 4294967296), ?_,
        ⟨hk, by simpa using g2, g3.set _ (Nat.mod_lt _ (by decide)), w4, fun j hj => ?_, e4⟩, by simp only; omega⟩
      · simp only [u, i64, Nat.reduceSub, Nat.reduceAdd, bm]
      · simp only at hj ⊢
        rw [getDs, if_neg (by omega)]
        exact g5 j (by omega)
    · have hk0 : k = b.length := by omega
      subst hk0
      rw [List.take_of_length_le (Nat.le_refl _), h5] at g6
      have hs := vb_set_take (K := 4294967296) ps (n + b.length) c (by omega)
      have hfin : vb 4294967296 ((ps.set (n + b.length) c).take (n + 1 + b.length)) = vb 4294967296 (a.take (n + 1)) * vb 4294967296 b := by
        rw [show n + 1 + b.length = n + b.length + 1 by omega, hs, g6, e1, Nat.add_mul]
      repeat (first | ((first | refine Gs ?_ | refine Gr ?_); simp (disch := omega) only [u, i64, ax, eq_self, if_true, if_false, Nat.reduceAdd, Int.reduceToNat, Int.reduceAdd, tvs, bs]; refine aA ?_) | refine G_seq ?_ | refine G_block ?_ | refine G_condT rfl ?_ | refine G_condF rfl ?_ | refine G_skip ?_ | refine G_ret ?_ | refine G_exit ?_ | refine q_tn ?_ | refine q_tr ?_ | refine q_tx ?_ | refine q_bn ?_ | refine q_br ?_ | refine q_bx ?_ | refine q_by (by decide) ?_)
      refine ⟨(n + 1, ps.set (n + b.length) c), ?_, ⟨hn, by simpa using g2, g3.set _ g4, fun j hj => ?_, hfin⟩, by simp only; omega⟩
      · simp only [u, i64, Nat.reduceSub, Nat.reduceAdd, bm]
      · simp only at hj ⊢
        rw [getDs, if_neg (by omega), g5 j (by omega)]
        exact h4 j (by omega)
  · have hn0 : n = a.length := by omega
    subst hn0
    rw [List.take_of_length_le (by omega), List.take_length] at h5
    rw [← wfb_of (by decide) h3 h2 h5] at hQ
    repeat (first | ((first | refine Gs ?_ | refine Gr ?_); simp (disch := omega) only [u, i64, ax, eq_self, if_true, if_false, Nat.reduceAdd, Int.reduceToNat, Int.reduceAdd, tvs, bs]; refine aA ?_) | refine G_seq ?_ | refine G_block ?_ | refine G_condT rfl ?_ | refine G_condF rfl ?_ | refine G_skip ?_ | refine G_ret ?_ | refine G_exit ?_ | refine q_tn ?_ | refine q_tr ?_ | refine q_tx ?_ | refine q_bn ?_ | refine q_br ?_ | refine q_bx ?_ | refine q_by (by decide) ?_)
    refine FinQF hQ (congrArg Array.toList Tryz.results216) _ _ _ _ _ _ _ rfl rfl (by simp [us_length, h2]) (by rw [List.take_of_length_le (by simp [us_length]; omega)]) (us_noMem _)
theorem ret_Times (a b : List Nat) (ha : Ds 4294967296 a) (hb : Ds 4294967296 b) (hla : a.length ≤ 549755813888) (hlb : b.length ≤ 549755813888) :
    Ret Tryz.prog GEs 216 [ws a, ws b] (ws (wfb 4294967296 (a.length + b.length) (vb 4294967296 a * vb 4294967296 b))) := by
  have := (retF_Times a b ha hb hla hlb).ret
  rwa [us_length] at this
theorem ret_Minus (a b : List Nat) (ha : Ds 4294967296 a) (hb : Ds 4294967296 b) (h0 : a ≠ []) (hla : a.length ≤ 1099511627775) (hlb : b.length ≤ 1099511627775) :
    Ret Tryz.prog GEs 255 [ws a, ws b] (.tup [ws (mdiff 4294967296 a.length (vb 4294967296 a) (vb 4294967296 (b.take a.length))), .bool (decide (vb 4294967296 a < vb 4294967296 (b.take a.length)))]) := by
  have := (retT_Minus a b ha hb h0 hla hlb).ret
  rwa [us_length] at this
end Go.Proofs
set_option linter.unusedVariables false
set_option linter.unusedSimpArgs false
namespace Go.Proofs
open Go.Ax
theorem ddiv_step {K w R D Q a : Nat} (hw : 0 < w) (hq : Q = D / w) (hr : R = D % w) :
    (R * K + a) / w + K * Q = (a + K * D) / w ∧ (R * K + a) % w = (a + K * D) % w := by
  have h := Nat.div_add_mod D w
  have e : a + K * D = (R * K + a) + w * (K * Q) := by
    conv => lhs; rw [← h]
    rw [Nat.mul_add, hq, hr, Nat.mul_left_comm, Nat.mul_comm K (D % w)]
    omega
  rw [e]
  exact ⟨by rw [Nat.add_mul_div_left _ _ hw], by rw [Nat.add_mul_mod_self_left]⟩
theorem ddiv_lt {K w R a : Nat} (hR : R < w) (ha : a < K) : (R * K + a) / w < K := by
  refine (Nat.div_lt_iff_lt_mul (by omega)).2 ?_
  have := Nat.mul_le_mul_right K (show R + 1 ≤ w from hR)
  rw [Nat.add_mul] at this
  rw [Nat.mul_comm K w]
  omega
theorem vb_drop_set {K : Nat} (os : List Nat) (n v : Nat) (h : n < os.length) : vb K ((os.set n v).drop n) = v + K * vb K (os.drop (n + 1)) := by
  rw [vb_drop_one _ n (by simpa using h), List.getD_eq_getElem?_getD, List.getElem?_set_self h, List.drop_set_of_lt (Nat.lt_succ_self n)]
  rfl
set_option maxRecDepth 100000 in
theorem ret_one (xs : List Nat) (w : Nat) (hx : Ds 4294967296 xs) (hw : w < 4294967296) (h0 : 0 < w) (hl : xs.length ≤ 1099511627775) : Ret Tryz.prog GEs 254 [ws xs, u w] (.tup [ws (wfb 4294967296 xs.length (vb 4294967296 xs / w)), ws [vb 4294967296 xs % w]]) := by
  refine RetN_start Tryz.func254 (by kernel_rfl) rfl fun Q hQ hQ2 => ?_; rw [Tryz.ntmps254]; simp only [u, i64, Nat.reduceSub, Nat.reduceAdd, bm]
  repeat (first | ((first | refine Gs ?_ | refine Gr ?_); simp (disch := omega) only [u, i64, ax, eq_self, if_true, if_false, Nat.reduceAdd, Int.reduceToNat, Int.reduceAdd, tvs, bs]; refine aA ?_) | refine G_seq ?_ | refine G_block ?_ | refine G_condT rfl ?_ | refine G_condF rfl ?_ | refine G_skip ?_ | refine G_ret ?_ | refine G_exit ?_ | refine q_tn ?_ | refine q_tr ?_ | refine q_tx ?_ | refine q_bn ?_ | refine q_br ?_ | refine q_bx ?_ | refine q_by (by decide) ?_)
  refine AWp_loop (fun i : Nat × List Nat × Nat => mk 38 [(0, ws xs), (1, u w), (6, .own 0 0 0 xs.length 1), (7, u i.2.2), (8, i64 ((i.1 : Int) - 1))] [⟨0, true, us i.2.1⟩])
    (fun i => i.1 ≤ xs.length ∧ i.2.1.length = xs.length ∧ Ds 4294967296 i.2.1 ∧ vb 4294967296 (i.2.1.drop i.1) = vb 4294967296 (xs.drop i.1) / w ∧ i.2.2 = vb 4294967296 (xs.drop i.1) % w) (fun i => i.1) (xs.length, List.replicate xs.length 0, 0) ?_ ⟨Nat.le_refl _, by simp, Ds_zeros (by decide) _, by simp [vb], by simp [vb]⟩ ?_
  · simp only [u, i64, Nat.reduceSub, Nat.reduceAdd, bm]
  rintro ⟨n, os, r⟩ ⟨h1, h2, h3, h4, h5⟩
  simp only at h1 h2 h3 h4 h5
  simp only [u, i64, Nat.reduceSub, Nat.reduceAdd, bm]
  by_cases hn : 1 ≤ n
  · obtain ⟨m, rfl⟩ : ∃ m, n = m + 1 := ⟨n - 1, by omega⟩
    have ha := hx.getD (by decide) m
    have hr : r < w := by rw [h5]; exact Nat.mod_lt _ h0
    have hst := ddiv_step (K := 4294967296) (a := xs.getD m 0) h0 h4 h5
    have hq := ddiv_lt hr ha
    have hv := vb_drop_one (K := 4294967296) xs m (by omega)
    rw [← hv] at hst
    have hs := vb_drop_set (K := 4294967296) os m ((r * 4294967296 + xs.getD m 0) / w) (by omega)
    rw [hst.1] at hs
    have hqB : (r * 4294967296 + xs.getD m 0) / w < 18446744073709551616 := by omega
    simp only [Int.natCast_add, Int.natCast_one, Int.add_sub_cancel]
    repeat (first | ((first | refine Gs ?_ | refine Gr ?_); simp (disch := omega) only [u, i64, ax, eq_self, if_true, if_false, Nat.reduceAdd, Int.reduceToNat, Int.reduceAdd, tvs, bs]; refine aA ?_) | refine G_seq ?_ | refine G_block ?_ | refine G_condT rfl ?_ | refine G_condF rfl ?_ | refine G_skip ?_ | refine G_ret ?_ | refine G_exit ?_ | refine q_tn ?_ | refine q_tr ?_ | refine q_tx ?_ | refine q_bn ?_ | refine q_br ?_ | refine q_bx ?_ | refine q_by (by decide) ?_)
    refine ⟨(m, os.set m ((r * 4294967296 + xs.getD m 0) / w), (r * 4294967296 + xs.getD m 0) % w), ?_, ⟨by simp only; omega, by simpa using h2, h3.set m hq, hs, hst.2⟩, by simp only; omega⟩
    simp only [u, i64, Nat.reduceSub, Nat.reduceAdd, bm]
  · have hn0 : n = 0 := by omega
    subst hn0
    simp only [List.drop_zero] at h4 h5
    rw [← h5, ← wfb_of (by decide) h3 h2 h4] at hQ
    repeat (first | ((first | refine Gs ?_ | refine Gr ?_); simp (disch := omega) only [u, i64, ax, eq_self, if_true, if_false, Nat.reduceAdd, Int.reduceToNat, Int.reduceAdd, tvs, bs]; refine aA ?_) | refine G_seq ?_ | refine G_block ?_ | refine G_condT rfl ?_ | refine G_condF rfl ?_ | refine G_skip ?_ | refine G_ret ?_ | refine G_exit ?_ | refine q_tn ?_ | refine q_tr ?_ | refine q_tx ?_ | refine q_bn ?_ | refine q_br ?_ | refine q_bx ?_ | refine q_by (by decide) ?_)
    (refine FinQ hQ (congrArg Array.toList Tryz.results254) _ _ ?_); simp (disch := omega) only [u, i64, ax, if_true, forall_const, reduceCtorEq, implies_true, tvs, bf]
    rfl
end Go.Proofs
