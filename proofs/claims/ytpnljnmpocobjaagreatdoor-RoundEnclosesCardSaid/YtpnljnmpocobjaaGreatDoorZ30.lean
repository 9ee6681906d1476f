/-
  Contracts of functions of the program, each proved by a walk.
-/
import Derived.Test.YtpnljnmpocobjaaGreatDoorZ29
import Derived.Test.YtpnljnmpocobjaaGreatDoorZ24
import Derived.Test.YtpnljnmpocobjaaGreatDoorZ26
import Derived.Test.YtpnljnmpocobjaaGreatDoorZ9
set_option maxRecDepth 100000
set_option linter.unusedVariables false
set_option linter.unusedSimpArgs false
namespace Go.Proofs
open Go.Ax
theorem mod_bit (h i : Nat) : h % 2 ^ (i + 1) = h % 2 ^ i + 2 ^ i * (h / 2 ^ i % 2) := by rw [Nat.pow_succ]; exact Nat.mod_mul
theorem or_bit (h i : Nat) (ho : h / 2 ^ i % 2 = 1) : h % 2 ^ i ||| 2 ^ i = h % 2 ^ (i + 1) := by
  rw [mod_bit, ho, Nat.mul_one]
  have := Nat.two_pow_add_eq_or_of_lt (Nat.mod_lt h (Nat.two_pow_pos i)) 1
  rw [Nat.mul_one] at this
  rw [Nat.add_comm, this, Nat.or_comm]
/-- What is decoded is a canonical float of the format. -/
theorem decF_facts (k p n : Nat) (hk : 2 ≤ k) (hk2 : k ≤ 15) (hp : 2 ≤ p) (hp2 : p ≤ 256) : (∃ ng, dcdF k p n = ⟨0, ng, 0, 0⟩) ∨ (∃ ng, dcdF k p n = ⟨2, ng, 0, 0⟩) ∨ dcdF k p n = ⟨3, false, 0, 0⟩ ∨ ∃ ng j e, dcdF k p n = ⟨1, ng, e, 2 * j + 1⟩ ∧ inF p (gF k) (2 * j + 1) e := by
  have hg := gF_le hk hk2
  have key : ∀ (ng : Bool) (m : Nat) (e : Int), m ≠ 0 → bl m ≤ p → 1 - gF k - (p - 1) ≤ e → bl m + e ≤ gF k + 1 → ∃ ng' j e', mkF ng m e = ⟨1, ng', e', 2 * j + 1⟩ ∧ inF p (gF k) (2 * j + 1) e' := fun ng m e h0 h1 h2 h3 => by
    obtain ⟨j, hj⟩ := tz_spec h0
    have e1 : mkF ng m e = ⟨1, ng, e + tz m, 2 * j + 1⟩ := by
      conv => lhs; rw [hj, Nat.mul_comm]
      exact mkF_odd ng j _ _
    have e2 : bl m = bl (2 * j + 1) + tz m := by
      conv => lhs; rw [hj, Nat.mul_comm]
      exact bl_mul _ _ (by omega)
    exact ⟨ng, j, _, e1, by omega, by omega, by omega⟩
  have hlo := Nat.mod_lt n (Nat.two_pow_pos (p - 1))
  have hb := Nat.mod_lt (n / 2 ^ (p - 1)) (Nat.two_pow_pos k)
  have hgk : gF k + 1 = ((2 ^ (k - 1) : Nat) : Int) := by unfold gF; omega
  have h2k : 2 ^ k = 2 * 2 ^ (k - 1) := by rw [Nat.mul_comm, ← Nat.pow_succ]; congr 1; omega
  unfold dcdF
  generalize n / 2 ^ (p - 1) % 2 ^ k = b at *
  generalize n % 2 ^ (p - 1) = lo at *
  generalize decide (n / 2 ^ (k + p - 1) % 2 = 1) = ng
  have h2p := Nat.two_pow_pos (p - 1)
  have hpp : 2 ^ p = 2 ^ (p - 1) * 2 := by rw [← Nat.pow_succ]; congr 1; omega
  split
  · split
    · exact .inr (.inl ⟨_, rfl⟩)
    · exact .inr (.inr (.inl rfl))
  · rename_i hb1
    split
    · exact .inl ⟨_, rfl⟩
    · rename_i hb2
      split
      · rename_i hb3
        have hl0 : lo ≠ 0 := fun h => hb2 ⟨hb3, h⟩
        have := bl_le hlo
        exact .inr (.inr (.inr (key ng lo _ hl0 (by omega) (by omega) (by omega))))
      · rename_i hb3
        have e : bl (lo + 2 ^ (p - 1)) = p := by
          have := bl_eq (n := lo + 2 ^ (p - 1)) (k := p - 1) (by omega) (by rw [show p - 1 + 1 = p by omega]; omega)
          omega
        exact .inr (.inr (.inr (key ng (lo + 2 ^ (p - 1)) _ (by omega) (by omega) (by omega) (by omega))))
set_option maxRecDepth 100000 in
set_option maxHeartbeats 8000000 in
theorem ret_Decode (k p : Nat) (h : okFm k p) (xs : List Nat) (hx : Wd xs) (hl : xs.length ≤ 40) (hb : bl (val xs) ≤ k + p) : Ret Tryz.prog GEs 35 [.agg [i64 k, i64 p], ws xs] (.tup [flv (dcdF k p (val xs)), i64 0]) := by
  have hR := ret_fRange k p h
  have hg := gF_le (k := k) (by omega) (by omega)
  have hL := ret_Len xs hx (by omega)
  have hB := ret_Bit xs (k + p - 1) hx (by omega) (by omega)
  have hS := ret_Shr xs (p - 1) hx (by omega) (by omega)
  have hnl := length_words_val_le hx
  have hhl := Nat.le_trans (length_mono (Nat.div_le_self (val xs) (2 ^ (p - 1)))) hnl
  have hS2 := ret_Shl (words (val xs / 2 ^ (p - 1))) (p - 1) (Wd_words _) (by omega) (by omega)
  rw [val_words] at hS2
  have hmul : val xs / 2 ^ (p - 1) * 2 ^ (p - 1) ≤ val xs := Nat.div_mul_le_self _ _
  have hmul2 := length_mono hmul
  have hS3 := ret_Sub xs (words (val xs / 2 ^ (p - 1) * 2 ^ (p - 1))) hx (Wd_words _) (by omega) (by omega) (by rw [val_words]; exact hmul)
  rw [val_words] at hS3
  have hlo : val xs - val xs / 2 ^ (p - 1) * 2 ^ (p - 1) = val xs % 2 ^ (p - 1) := by
    have := Nat.div_add_mod (val xs) (2 ^ (p - 1))
    rw [Nat.mul_comm] at this
    omega
  rw [hlo] at hS3
  have hll := Nat.le_trans (length_mono (Nat.mod_le (val xs) (2 ^ (p - 1)))) hnl
  have hwf : ∀ (ng : Bool) (m : Nat) (e : Int), m ≠ 0 → (words m).length ≤ 50 → -100000 ≤ e → e ≤ 100000 → Ret Tryz.prog GEs 110 [.agg [i64 1, .bool ng, i64 e, nat m]] (.tup [flv (mkF ng m e), .bool true]) := fun ng m e h0 h1 h2 h3 =>
    ret_canonical ⟨1, ng, e, m⟩ (.inl ⟨rfl, h0, by show _ ≤ e; omega, by show e ≤ _; omega, by show (words m).length ≤ 5000; omega⟩)
  have hS1 := ret_Shl [1] (p - 1) (fun x hx => by simp at hx; subst hx; decide) (by decide) (by omega)
  rw [show val [1] = 1 from rfl, Nat.one_mul] at hS1
  have h2l : (words (2 ^ (p - 1))).length ≤ 5 := le_pow_words (Nat.le_refl _) (by omega)
  have hAd := ret_Add (words (val xs % 2 ^ (p - 1))) (words (2 ^ (p - 1))) (Wd_words _) (Wd_words _) (by omega) (by omega)
  rw [val_words, val_words] at hAd
  have hal := length_add (val xs % 2 ^ (p - 1)) (2 ^ (p - 1))
  have hZ := ret_Zero (words (val xs % 2 ^ (p - 1))) (Wd_words _) (by omega)
  rw [val_words] at hZ
  have h2p := Nat.two_pow_pos (p - 1)
  have hgk : gF k + 1 = ((2 ^ (k - 1) : Nat) : Int) := by unfold gF; omega
  unfold dcdF
  generalize val xs / 2 ^ (p - 1) * 2 ^ (p - 1) = mid at *
  generalize hhi : val xs / 2 ^ (p - 1) = hi at *
  generalize val xs % 2 ^ (p - 1) = lo at *
  generalize hng : decide (val xs / 2 ^ (k + p - 1) % 2 = 1) = ng at *
  generalize val xs = n at *
  generalize hG : gF k = G at *
  have hBt := fun i (hi' : i ≤ 15) => ret_Bit (words hi) i (Wd_words _) (by omega) (by omega)
  simp only [val_words] at hBt
  have h15 : 2 ^ k ≤ 2 ^ 15 := Nat.pow_le_pow_right (by decide) (by omega)
  have hor : ∀ i, i < 15 → hi / 2 ^ i % 2 = 1 → Go.Ax.bits .or .i64 ((hi % 2 ^ i : Nat) : Int) (IntKind.i64.wrap ((1 * 2 ^ min i IntKind.i64.bits : Nat) : Int)) = ((hi % 2 ^ (i + 1) : Nat) : Int) := fun i hi' ho => by
    have h1 : 2 ^ i ≤ 2 ^ 15 := Nat.pow_le_pow_right (by decide) (by omega)
    have h2 := Nat.mod_lt hi (Nat.two_pow_pos i)
    rw [Nat.one_mul, show min i IntKind.i64.bits = i from Nat.min_eq_left (by show i ≤ 64; omega), wrapI _ (by omega) (by omega), orI _ _ (by omega) (by omega), or_bit hi i ho]
  have hnor : ∀ i, ¬ hi / 2 ^ i % 2 = 1 → hi % 2 ^ (i + 1) = hi % 2 ^ i := fun i ho => by
    rw [mod_bit, show hi / 2 ^ i % 2 = 0 by omega, Nat.mul_zero, Nat.add_zero]
  have hsh : IntKind.i64.wrap ((1 * 2 ^ min k IntKind.i64.bits : Nat) : Int) = ((2 ^ k : Nat) : Int) := by
    rw [Nat.one_mul, show min k IntKind.i64.bits = k from Nat.min_eq_left (by show k ≤ 64; omega)]
    exact wrapI _ (Int.le_trans (by decide) (Int.natCast_nonneg _)) (by omega)
  have hbl := Nat.mod_lt hi (Nat.two_pow_pos k)
  generalize h2k : 2 ^ k = K2 at *
  have hbx : hi % K2 < 32768 := by omega
  have hK1 : ((K2 : Nat) : Int) - 1 = ((K2 - 1 : Nat) : Int) := by omega
  by_cases c1 : hi % K2 = K2 - 1
  · rw [if_pos c1]
    by_cases c2 : lo = 0
    · rw [if_pos c2]
      rw [decT c2] at hZ
      refine RetN_start Tryz.func35 (by kernel_rfl) rfl fun Q hQ hQ2 => ?_; rw [Tryz.ntmps35]; simp only [u, i64, Nat.reduceSub, Nat.reduceAdd, bm]
      repeat (first | (refine gC ?_; first | refine aA ?_ | ((first | refine cR hR ?_ | refine cR hL ?_ | refine cR hB ?_ | refine cR hS ?_ | refine cR hS2 ?_ | refine cR hS3 ?_); refine sX ?_; try refine aA ?_)) | ((first | refine cR hR ?_ | refine cR hL ?_ | refine cR hB ?_ | refine cR hS ?_ | refine cR hS2 ?_ | refine cR hS3 ?_); refine sX ?_; try refine aA ?_) | refine gS ?_)
      refine AWp_loop (fun i : Nat => mk 129 [(0, .agg [i64 k, i64 p]), (1, ws xs), (2, .ptr 0 0 0), (4, .ptr 1 0 0), (5, i64 0), (7, i64 G), (8, i64 (1 - G - ((p - 1 : Nat) : Int))), (10, i64 p), (11, .bool ng), (12, nat hi), (13, nat lo), (14, i64 (hi % 2 ^ i : Nat)), (60, i64 k), (61, i64 i)] [⟨0, true, [i64 k, i64 p]⟩, ⟨0, true, [i64 0, .bool false, i64 0, .emp]⟩]) (fun i => i ≤ k) (fun i => k - i) 0 ?_ (Nat.zero_le _) ?_
      · rw [show hi % 2 ^ 0 = 0 from Nat.mod_one _]
        simp only [u, i64, Nat.reduceSub, Nat.reduceAdd, bm]
      intro i hik
      simp only [u, i64, Nat.reduceSub, Nat.reduceAdd, bm]
      by_cases hlt : i < k
      · have hbt := hBt i (by omega)
        by_cases ho : hi / 2 ^ i % 2 = 1
        · rw [decT ho] at hbt
          repeat (first | (refine gC ?_; first | refine aA ?_ | (refine cR hbt ?_; refine sX ?_; try refine aA ?_)) | (refine cR hbt ?_; refine sX ?_; try refine aA ?_) | refine gS ?_)
          refine ⟨i + 1, ?_, by omega, by omega⟩
          rw [hor i (by omega) ho]
          simp only [u, i64, Nat.reduceSub, Nat.reduceAdd, bm]
        · rw [decF ho] at hbt
          repeat (first | (refine gC ?_; first | refine aA ?_ | (refine cR hbt ?_; refine sX ?_; try refine aA ?_)) | (refine cR hbt ?_; refine sX ?_; try refine aA ?_) | refine gS ?_)
          refine ⟨i + 1, ?_, by omega, by omega⟩
          rw [hnor i ho]
          simp only [u, i64, Nat.reduceSub, Nat.reduceAdd, bm]
      obtain rfl : i = k := by omega
      (refine gO ?_)
      rw [h2k]
      (refine gC ?_)
      rw [hsh]
      repeat (first | (refine gC ?_; first | refine aA ?_ | (refine cR hZ ?_; refine sX ?_; try refine aA ?_)) | (refine cR hZ ?_; refine sX ?_; try refine aA ?_) | refine gS ?_)
      (refine FinQ hQ (congrArg Array.toList Tryz.results35) _ _ ?_); simp (disch := omega) only [u, i64, ax, if_true, forall_const, reduceCtorEq, implies_true, tvs, bf]
      all_goals rfl
    · rw [if_neg c2]
      rw [decF c2] at hZ
      refine RetN_start Tryz.func35 (by kernel_rfl) rfl fun Q hQ hQ2 => ?_; rw [Tryz.ntmps35]; simp only [u, i64, Nat.reduceSub, Nat.reduceAdd, bm]
      repeat (first | (refine gC ?_; first | refine aA ?_ | ((first | refine cR hR ?_ | refine cR hL ?_ | refine cR hB ?_ | refine cR hS ?_ | refine cR hS2 ?_ | refine cR hS3 ?_); refine sX ?_; try refine aA ?_)) | ((first | refine cR hR ?_ | refine cR hL ?_ | refine cR hB ?_ | refine cR hS ?_ | refine cR hS2 ?_ | refine cR hS3 ?_); refine sX ?_; try refine aA ?_) | refine gS ?_)
      refine AWp_loop (fun i : Nat => mk 129 [(0, .agg [i64 k, i64 p]), (1, ws xs), (2, .ptr 0 0 0), (4, .ptr 1 0 0), (5, i64 0), (7, i64 G), (8, i64 (1 - G - ((p - 1 : Nat) : Int))), (10, i64 p), (11, .bool ng), (12, nat hi), (13, nat lo), (14, i64 (hi % 2 ^ i : Nat)), (60, i64 k), (61, i64 i)] [⟨0, true, [i64 k, i64 p]⟩, ⟨0, true, [i64 0, .bool false, i64 0, .emp]⟩]) (fun i => i ≤ k) (fun i => k - i) 0 ?_ (Nat.zero_le _) ?_
      · rw [show hi % 2 ^ 0 = 0 from Nat.mod_one _]
        simp only [u, i64, Nat.reduceSub, Nat.reduceAdd, bm]
      intro i hik
      simp only [u, i64, Nat.reduceSub, Nat.reduceAdd, bm]
      by_cases hlt : i < k
      · have hbt := hBt i (by omega)
        by_cases ho : hi / 2 ^ i % 2 = 1
        · rw [decT ho] at hbt
          repeat (first | (refine gC ?_; first | refine aA ?_ | (refine cR hbt ?_; refine sX ?_; try refine aA ?_)) | (refine cR hbt ?_; refine sX ?_; try refine aA ?_) | refine gS ?_)
          refine ⟨i + 1, ?_, by omega, by omega⟩
          rw [hor i (by omega) ho]
          simp only [u, i64, Nat.reduceSub, Nat.reduceAdd, bm]
        · rw [decF ho] at hbt
          repeat (first | (refine gC ?_; first | refine aA ?_ | (refine cR hbt ?_; refine sX ?_; try refine aA ?_)) | (refine cR hbt ?_; refine sX ?_; try refine aA ?_) | refine gS ?_)
          refine ⟨i + 1, ?_, by omega, by omega⟩
          rw [hnor i ho]
          simp only [u, i64, Nat.reduceSub, Nat.reduceAdd, bm]
      obtain rfl : i = k := by omega
      (refine gO ?_)
      rw [h2k]
      (refine gC ?_)
      rw [hsh]
      repeat (first | (refine gC ?_; first | refine aA ?_ | (refine cR hZ ?_; refine sX ?_; try refine aA ?_)) | (refine cR hZ ?_; refine sX ?_; try refine aA ?_) | refine gS ?_)
      (refine FinQ hQ (congrArg Array.toList Tryz.results35) _ _ ?_); simp (disch := omega) only [u, i64, ax, if_true, forall_const, reduceCtorEq, implies_true, tvs, bf]
      all_goals rfl
  · rw [if_neg c1]
    by_cases c3 : hi % K2 = 0
    · by_cases c2 : lo = 0
      · rw [if_pos ⟨c3, c2⟩]
        rw [decT c2] at hZ
        refine RetN_start Tryz.func35 (by kernel_rfl) rfl fun Q hQ hQ2 => ?_; rw [Tryz.ntmps35]; simp only [u, i64, Nat.reduceSub, Nat.reduceAdd, bm]
        repeat (first | (refine gC ?_; first | refine aA ?_ | ((first | refine cR hR ?_ | refine cR hL ?_ | refine cR hB ?_ | refine cR hS ?_ | refine cR hS2 ?_ | refine cR hS3 ?_); refine sX ?_; try refine aA ?_)) | ((first | refine cR hR ?_ | refine cR hL ?_ | refine cR hB ?_ | refine cR hS ?_ | refine cR hS2 ?_ | refine cR hS3 ?_); refine sX ?_; try refine aA ?_) | refine gS ?_)
        refine AWp_loop (fun i : Nat => mk 129 [(0, .agg [i64 k, i64 p]), (1, ws xs), (2, .ptr 0 0 0), (4, .ptr 1 0 0), (5, i64 0), (7, i64 G), (8, i64 (1 - G - ((p - 1 : Nat) : Int))), (10, i64 p), (11, .bool ng), (12, nat hi), (13, nat lo), (14, i64 (hi % 2 ^ i : Nat)), (60, i64 k), (61, i64 i)] [⟨0, true, [i64 k, i64 p]⟩, ⟨0, true, [i64 0, .bool false, i64 0, .emp]⟩]) (fun i => i ≤ k) (fun i => k - i) 0 ?_ (Nat.zero_le _) ?_
        · rw [show hi % 2 ^ 0 = 0 from Nat.mod_one _]
          simp only [u, i64, Nat.reduceSub, Nat.reduceAdd, bm]
        intro i hik
        simp only [u, i64, Nat.reduceSub, Nat.reduceAdd, bm]
        by_cases hlt : i < k
        · have hbt := hBt i (by omega)
          by_cases ho : hi / 2 ^ i % 2 = 1
          · rw [decT ho] at hbt
            repeat (first | (refine gC ?_; first | refine aA ?_ | (refine cR hbt ?_; refine sX ?_; try refine aA ?_)) | (refine cR hbt ?_; refine sX ?_; try refine aA ?_) | refine gS ?_)
            refine ⟨i + 1, ?_, by omega, by omega⟩
            rw [hor i (by omega) ho]
            simp only [u, i64, Nat.reduceSub, Nat.reduceAdd, bm]
          · rw [decF ho] at hbt
            repeat (first | (refine gC ?_; first | refine aA ?_ | (refine cR hbt ?_; refine sX ?_; try refine aA ?_)) | (refine cR hbt ?_; refine sX ?_; try refine aA ?_) | refine gS ?_)
            refine ⟨i + 1, ?_, by omega, by omega⟩
            rw [hnor i ho]
            simp only [u, i64, Nat.reduceSub, Nat.reduceAdd, bm]
        obtain rfl : i = k := by omega
        (refine gO ?_)
        rw [h2k]
        (refine gC ?_)
        rw [hsh]
        try simp (disch := omega) only [u, i64, ax, eq_self, if_true, if_false, Nat.reduceAdd, Int.reduceToNat, Int.reduceAdd, tvs, bs]
        try refine aft_any ?_
        repeat (first | (refine gC ?_; first | refine aA ?_ | (refine cR hZ ?_; refine sX ?_; try refine aA ?_)) | (refine cR hZ ?_; refine sX ?_; try refine aA ?_) | refine gS ?_)
        (refine FinQ hQ (congrArg Array.toList Tryz.results35) _ _ ?_); simp (disch := omega) only [u, i64, ax, if_true, forall_const, reduceCtorEq, implies_true, tvs, bf]
        all_goals rfl
      · rw [if_neg (fun h => c2 h.2), if_pos c3]
        rw [decF c2] at hZ
        have hC := hwf ng lo (1 - G - ((p - 1 : Nat) : Int)) c2 (by omega) (by omega) (by omega)
        rw [show (1 - G - ((p : Int) - 1)) = 1 - G - ((p - 1 : Nat) : Int) by omega]
        generalize mkF ng lo (1 - G - ((p - 1 : Nat) : Int)) = y at *
        unfold flv at hC ⊢
        refine RetN_start Tryz.func35 (by kernel_rfl) rfl fun Q hQ hQ2 => ?_; rw [Tryz.ntmps35]; simp only [u, i64, Nat.reduceSub, Nat.reduceAdd, bm]
        repeat (first | (refine gC ?_; first | refine aA ?_ | ((first | refine cR hR ?_ | refine cR hL ?_ | refine cR hB ?_ | refine cR hS ?_ | refine cR hS2 ?_ | refine cR hS3 ?_); refine sX ?_; try refine aA ?_)) | ((first | refine cR hR ?_ | refine cR hL ?_ | refine cR hB ?_ | refine cR hS ?_ | refine cR hS2 ?_ | refine cR hS3 ?_); refine sX ?_; try refine aA ?_) | refine gS ?_)
        refine AWp_loop (fun i : Nat => mk 129 [(0, .agg [i64 k, i64 p]), (1, ws xs), (2, .ptr 0 0 0), (4, .ptr 1 0 0), (5, i64 0), (7, i64 G), (8, i64 (1 - G - ((p - 1 : Nat) : Int))), (10, i64 p), (11, .bool ng), (12, nat hi), (13, nat lo), (14, i64 (hi % 2 ^ i : Nat)), (60, i64 k), (61, i64 i)] [⟨0, true, [i64 k, i64 p]⟩, ⟨0, true, [i64 0, .bool false, i64 0, .emp]⟩]) (fun i => i ≤ k) (fun i => k - i) 0 ?_ (Nat.zero_le _) ?_
        · rw [show hi % 2 ^ 0 = 0 from Nat.mod_one _]
          simp only [u, i64, Nat.reduceSub, Nat.reduceAdd, bm]
        intro i hik
        simp only [u, i64, Nat.reduceSub, Nat.reduceAdd, bm]
        by_cases hlt : i < k
        · have hbt := hBt i (by omega)
          by_cases ho : hi / 2 ^ i % 2 = 1
          · rw [decT ho] at hbt
            repeat (first | (refine gC ?_; first | refine aA ?_ | (refine cR hbt ?_; refine sX ?_; try refine aA ?_)) | (refine cR hbt ?_; refine sX ?_; try refine aA ?_) | refine gS ?_)
            refine ⟨i + 1, ?_, by omega, by omega⟩
            rw [hor i (by omega) ho]
            simp only [u, i64, Nat.reduceSub, Nat.reduceAdd, bm]
          · rw [decF ho] at hbt
            repeat (first | (refine gC ?_; first | refine aA ?_ | (refine cR hbt ?_; refine sX ?_; try refine aA ?_)) | (refine cR hbt ?_; refine sX ?_; try refine aA ?_) | refine gS ?_)
            refine ⟨i + 1, ?_, by omega, by omega⟩
            rw [hnor i ho]
            simp only [u, i64, Nat.reduceSub, Nat.reduceAdd, bm]
        obtain rfl : i = k := by omega
        (refine gO ?_)
        rw [h2k]
        (refine gC ?_)
        rw [hsh]
        try simp (disch := omega) only [u, i64, ax, eq_self, if_true, if_false, Nat.reduceAdd, Int.reduceToNat, Int.reduceAdd, tvs, bs]
        try refine aft_any ?_
        repeat (first | (refine gC ?_; first | refine aA ?_ | ((first | refine cR hZ ?_ | refine cR hC ?_); refine sX ?_; try refine aA ?_)) | ((first | refine cR hZ ?_ | refine cR hC ?_); refine sX ?_; try refine aA ?_) | refine gS ?_)
        (refine FinQ hQ (congrArg Array.toList Tryz.results35) _ _ ?_); simp (disch := omega) only [u, i64, ax, if_true, forall_const, reduceCtorEq, implies_true, tvs, bf]
        all_goals rfl
    · rw [if_neg (fun h => c3 h.1), if_neg c3]
      have hC := hwf ng (lo + 2 ^ (p - 1)) (((hi % K2 : Nat) : Int) - G - p + 1) (by omega) (by omega) (by omega) (by omega)
      generalize mkF ng (lo + 2 ^ (p - 1)) (((hi % K2 : Nat) : Int) - G - p + 1) = y at *
      unfold flv at hC ⊢
      refine RetN_start Tryz.func35 (by kernel_rfl) rfl fun Q hQ hQ2 => ?_; rw [Tryz.ntmps35]; simp only [u, i64, Nat.reduceSub, Nat.reduceAdd, bm]
      repeat (first | (refine gC ?_; first | refine aA ?_ | ((first | refine cR hR ?_ | refine cR hL ?_ | refine cR hB ?_ | refine cR hS ?_ | refine cR hS2 ?_ | refine cR hS3 ?_); refine sX ?_; try refine aA ?_)) | ((first | refine cR hR ?_ | refine cR hL ?_ | refine cR hB ?_ | refine cR hS ?_ | refine cR hS2 ?_ | refine cR hS3 ?_); refine sX ?_; try refine aA ?_) | refine gS ?_)
      refine AWp_loop (fun i : Nat => mk 129 [(0, .agg [i64 k, i64 p]), (1, ws xs), (2, .ptr 0 0 0), (4, .ptr 1 0 0), (5, i64 0), (7, i64 G), (8, i64 (1 - G - ((p - 1 : Nat) : Int))), (10, i64 p), (11, .bool ng), (12, nat hi), (13, nat lo), (14, i64 (hi % 2 ^ i : Nat)), (60, i64 k), (61, i64 i)] [⟨0, true, [i64 k, i64 p]⟩, ⟨0, true, [i64 0, .bool false, i64 0, .emp]⟩]) (fun i => i ≤ k) (fun i => k - i) 0 ?_ (Nat.zero_le _) ?_
      · rw [show hi % 2 ^ 0 = 0 from Nat.mod_one _]
        simp only [u, i64, Nat.reduceSub, Nat.reduceAdd, bm]
      intro i hik
      simp only [u, i64, Nat.reduceSub, Nat.reduceAdd, bm]
      by_cases hlt : i < k
      · have hbt := hBt i (by omega)
        by_cases ho : hi / 2 ^ i % 2 = 1
        · rw [decT ho] at hbt
          repeat (first | (refine gC ?_; first | refine aA ?_ | (refine cR hbt ?_; refine sX ?_; try refine aA ?_)) | (refine cR hbt ?_; refine sX ?_; try refine aA ?_) | refine gS ?_)
          refine ⟨i + 1, ?_, by omega, by omega⟩
          rw [hor i (by omega) ho]
          simp only [u, i64, Nat.reduceSub, Nat.reduceAdd, bm]
        · rw [decF ho] at hbt
          repeat (first | (refine gC ?_; first | refine aA ?_ | (refine cR hbt ?_; refine sX ?_; try refine aA ?_)) | (refine cR hbt ?_; refine sX ?_; try refine aA ?_) | refine gS ?_)
          refine ⟨i + 1, ?_, by omega, by omega⟩
          rw [hnor i ho]
          simp only [u, i64, Nat.reduceSub, Nat.reduceAdd, bm]
      obtain rfl : i = k := by omega
      (refine gO ?_)
      rw [h2k]
      (refine gC ?_)
      rw [hsh]
      try simp (disch := omega) only [u, i64, ax, eq_self, if_true, if_false, Nat.reduceAdd, Int.reduceToNat, Int.reduceAdd, tvs, bs]
      try refine aft_any ?_
      repeat (first | (refine gC ?_; first | refine aA ?_ | ((first | refine cR hS1 ?_ | refine cR hAd ?_ | refine cR hC ?_); refine sX ?_; try refine aA ?_)) | ((first | refine cR hS1 ?_ | refine cR hAd ?_ | refine cR hC ?_); refine sX ?_; try refine aA ?_) | refine gS ?_)
      (refine FinQ hQ (congrArg Array.toList Tryz.results35) _ _ ?_); simp (disch := omega) only [u, i64, ax, if_true, forall_const, reduceCtorEq, implies_true, tvs, bf]
      all_goals rfl
end Go.Proofs
set_option linter.unusedVariables false
set_option linter.unusedSimpArgs false
namespace Go.Proofs
open Go.Ax
theorem ret_Decode_big (k p : Nat) (h : okFm k p) (xs : List Nat) (hx : Wd xs) (hl : xs.length ≤ 40) (hb : k + p < bl (val xs)) : Ret Tryz.prog GEs 35 [.agg [i64 k, i64 p], ws xs] (.tup [flz, i64 151]) := by
  have hR := ret_fRange k p h
  have hL := ret_Len xs hx (by omega)
  have hg := gF_le (k := k) (by omega) (by omega)
  refine RetN_start Tryz.func35 (by kernel_rfl) rfl fun Q hQ hQ2 => ?_; rw [Tryz.ntmps35]; simp only [u, i64, Nat.reduceSub, Nat.reduceAdd, bm]
  repeat (first | (refine gC ?_; first | refine aA ?_ | ((first | refine cR hR ?_ | refine cR hL ?_); refine sX ?_; try refine aA ?_)) | ((first | refine cR hR ?_ | refine cR hL ?_); refine sX ?_; try refine aA ?_) | refine gS ?_)
  (refine FinQ hQ (congrArg Array.toList Tryz.results35) _ _ ?_); simp (disch := omega) only [u, i64, ax, if_true, forall_const, reduceCtorEq, implies_true, tvs, bf]
  all_goals rfl
end Go.Proofs
set_option linter.unusedVariables false
set_option linter.unusedSimpArgs false
namespace Go.Proofs
open Go.Ax
/-- A small float that has a value. -/
def hasV (x : FV) : Prop := (x.kind = 0 ∧ x.mag = 0 ∧ x.exp = 0) ∨ (x.kind = 1 ∧ (∃ j, x.mag = 2 * j + 1) ∧ bl x.mag ≤ 300 ∧ -20000 ≤ x.exp ∧ x.exp ≤ 20000)
def sgF (x : FV) : Bool := x.neg && decide (x.kind = 1)
theorem sgF_sg {x : FV} (h : hasV x) : sg (sgF x) (vn x) = sg x.neg (vn x) := by
  unfold sgF
  rcases h with ⟨h1, h2, _⟩ | ⟨h1, _⟩
  · have : vn x = 0 := by unfold vn; rw [h2, Nat.zero_mul]
    rw [this]
    unfold sg
    split <;> split <;> rfl
  · rw [decT h1, Bool.and_true]
theorem hasV_len {x : FV} (h : hasV x) : (words (vn x)).length ≤ 350 ∧ (words (vd x)).length ≤ 350 ∧ vd x ≠ 0 := by
  unfold vn vd
  rcases h with ⟨h1, h2, h3⟩ | ⟨h1, ⟨j, h2⟩, h3, h4, h5⟩
  · rw [h2, h3]; exact ⟨by decide, by decide, by decide⟩
  · refine ⟨length_bl ?_, le_pow_words (Nat.le_refl _) (by omega), Nat.ne_of_gt (Nat.two_pow_pos _)⟩
    rw [bl_mul _ _ (by omega)]
    omega
theorem rv_hasV (k p r : Nat) (hf : okFm k p) (neg : Bool) (n d : Nat) (hd : d ≠ 0) (hk : (rvF p (gF k) r neg n d).kind ≤ 1) : hasV (rvF p (gF k) r neg n d) := by
  have hg := gF_le (k := k) (by omega) (by omega)
  unfold rvF at hk ⊢
  by_cases hn : n = 0
  · rw [if_pos hn]; exact .inl ⟨rfl, rfl, rfl⟩
  · rw [if_neg hn] at hk ⊢
    by_cases h1 : (rndF p (gF k) r neg n d).1.kind = 1
    · obtain ⟨s1, s2, s3, s4⟩ := rndF_small p (gF k) r neg (by omega) hg.1 hn hd h1
      exact .inr ⟨h1, s4, by omega, by omega, by omega⟩
    · left
      have h0 : (rndF p (gF k) r neg n d).1.kind = 0 := by omega
      rw [rndF_eq] at h0 ⊢
      by_cases ho : gF k < bl (rN p (gF k) r neg n d) + rS p (gF k) n d - 1
      · rw [if_pos ho] at h0
        rcases overF_kind p (gF k) r neg with h | ⟨h, _⟩
        · rw [h] at h0; cases h0
        · rw [h] at h0; cases h0
      · rw [if_neg ho] at h0 ⊢
        simp only at h0 ⊢
        generalize rN p (gF k) r neg n d = N at *
        by_cases hN : N = 0
        · subst hN; unfold mkF; rw [if_pos rfl]; exact ⟨rfl, rfl, rfl⟩
        · exfalso
          unfold mkF at h0
          rw [if_neg hN] at h0
          cases h0
theorem inF_hasV (k p : Nat) (hf : okFm k p) (ng : Bool) (j : Nat) (e : Int) (h : inF p (gF k) (2 * j + 1) e) : hasV ⟨1, ng, e, 2 * j + 1⟩ := by
  have hg := gF_le (k := k) (by omega) (by omega)
  obtain ⟨h1, h2, h3⟩ := h
  have := (bl_spec (n := 2 * j + 1) (Nat.succ_ne_zero _)).2.2
  exact .inr ⟨rfl, ⟨j, rfl⟩, by show bl (2 * j + 1) ≤ 300; omega, by show -20000 ≤ e; omega, by show e ≤ 20000; omega⟩
end Go.Proofs
