/-
  Contracts of functions of the program, each proved by a walk.
-/
import Derived.Test.YtpnljnmpocobjaaGreatDoorX12
import Derived.Test.YtpnljnmpocobjaaGreatDoorX9
import Derived.Test.YtpnljnmpocobjaaGreatDoorX10
set_option maxRecDepth 100000
set_option linter.unusedVariables false
set_option linter.unusedSimpArgs false
namespace Go.Proofs
open Go.Ax
theorem words_lt {X : Nat} (h : 1 ≤ (words X).length) : 18446744073709551616 ^ ((words X).length - 1) ≤ X := by
  have hne : words X ≠ [] := fun h0 => by rw [h0] at h; simp at h
  have := le_val_of_can (Canon_words X) hne
  rwa [val_words] at this
theorem words_len {X k : Nat} (h1 : 18446744073709551616 ^ k ≤ X) (h2 : X < 18446744073709551616 ^ (k + 1)) : (words X).length = k + 1 := by
  have e1 := length_le h2
  rcases Nat.lt_or_ge k (words X).length with h | h
  · omega
  · have := lt_pow_of_length h; omega
theorem row_top {z l n V : Nat} (hn : 1 ≤ n) (hz : z < 18446744073709551616 ^ l * 9223372036854775808) (hl : n ≤ l) (hV : 9223372036854775808 * 18446744073709551616 ^ (n - 1) ≤ V) : val ((words z ++ [0, 0]).drop (l + 1 - n)) < V := by
  rcases Nat.lt_or_ge (val ((words z ++ [0, 0]).drop (l + 1 - n))) V with h | h
  · exact h
  · have e0 : val (words z ++ [0, 0]) = z := by rw [val_append, val_words]; simp [val]
    rcases Nat.lt_or_ge (words z ++ [0, 0]).length (l + 1 - n) with hk | hk
    · rw [List.drop_of_length_le (by omega)] at h
      have : 0 < 18446744073709551616 ^ (n - 1) := Nat.pow_pos (by decide)
      simp [val] at h
      omega
    · have e := val_split _ _ hk
      rw [e0] at e
      have h1 := Nat.mul_le_mul_left (18446744073709551616 ^ (l + 1 - n)) (Nat.le_trans hV h)
      have h2 : 18446744073709551616 ^ (l + 1 - n) * (9223372036854775808 * 18446744073709551616 ^ (n - 1)) = 18446744073709551616 ^ l * 9223372036854775808 := by
        rw [Nat.mul_left_comm, ← Nat.pow_add, show l + 1 - n + (n - 1) = l by omega, Nat.mul_comm]
      omega
/-- The shifted divisor: as many words, and its highest bit is set. -/
theorem norm_top {Y n s : Nat} (hn : (words Y).length = n + 1) (hs : s = 64 - bl ((words Y).getD n 0)) :
    (words (Y * 2 ^ s)).length = n + 1 ∧ 9223372036854775808 ≤ (words (Y * 2 ^ s)).getD n 0 ∧ s < 64 := by
  have hY : Y ≠ 0 := fun h => by rw [h, words_zero] at hn; simp at hn
  obtain ⟨hb, htw⟩ := bl_words Y hY
  rw [hn, Nat.add_sub_cancel] at hb htw
  obtain ⟨h1, h2, h3⟩ := bl_spec hY
  have hlow := words_lt (X := Y) (by omega)
  rw [hn, Nat.add_sub_cancel, Bpow] at hlow
  have h64 := bl_le (n := (words Y).getD n 0) (k := 64) htw
  have htop : 1 ≤ bl ((words Y).getD n 0) := by
    rcases Nat.eq_zero_or_pos (bl ((words Y).getD n 0)) with h0 | h0
    · rw [h0, Nat.add_zero] at hb
      rw [hb] at h2
      omega
    · exact h0
  have e1 : 2 ^ (64 * n + 63) ≤ Y * 2 ^ s := by
    have := Nat.mul_le_mul_right (2 ^ s) h1
    rw [← Nat.pow_add, show bl Y - 1 + s = 64 * n + 63 by omega] at this
    exact this
  have e2 : Y * 2 ^ s < 2 ^ (64 * n + 64) := by
    have := (Nat.mul_lt_mul_right (Nat.two_pow_pos s)).2 h2
    rw [← Nat.pow_add, show bl Y + s = 64 * n + 64 by omega] at this
    exact this
  have hl : (words (Y * 2 ^ s)).length = n + 1 := words_len (by rw [Bpow]; exact Nat.le_trans (Nat.pow_le_pow_right (by decide) (by omega)) e1) (by rw [Bpow, show 64 * (n + 1) = 64 * n + 64 by omega]; exact e2)
  refine ⟨hl, ?_, by omega⟩
  have ev := val_words (Y * 2 ^ s)
  have et := val_take_getD (words (Y * 2 ^ s)) n
  rw [List.take_of_length_le (by omega), ev] at et
  have hlt := val_lt ((Wd_words (Y * 2 ^ s)).take n)
  rw [List.length_take, Nat.min_eq_left (by omega), Bpow] at hlt
  rw [Bpow] at et
  rcases Nat.lt_or_ge ((words (Y * 2 ^ s)).getD n 0) 9223372036854775808 with h | h
  · have h3 := Nat.mul_le_mul_left (2 ^ (64 * n)) (show (words (Y * 2 ^ s)).getD n 0 + 1 ≤ 9223372036854775808 from h)
    rw [show (9223372036854775808 : Nat) = 2 ^ 63 by decide, ← Nat.pow_add, Nat.mul_add, Nat.mul_one] at h3
    omega
  · exact h
set_option maxRecDepth 100000 in
set_option maxHeartbeats 4000000 in
theorem ret_DivMod (xs ys : List Nat) (hx : Wd xs) (hy : Wd ys) (hlx : xs.length ≤ 274877906944) (hly : ys.length ≤ 274877906944) (hne : val ys ≠ 0) : Ret Tryz.prog GEs 157 [ws xs, ws ys] (.tup [nat (val xs / val ys), nat (val xs % val ys)]) := by
  refine RetN_start Tryz.func157 (by kernel_rfl) rfl fun Q hQ hQ2 => ?_; rw [Tryz.ntmps157]; simp only [u, i64, Nat.reduceSub, Nat.reduceAdd, bm]
  (refine gO ?_)
  (refine gC ?_)
  (refine cR (ret_view xs hx (by omega)) ?_; refine sX ?_; try refine aA ?_)
  (refine cR (ret_view ys hy (by omega)) ?_; refine sX ?_; try refine aA ?_)
  have hX := length_words_val_le hx
  have hY := length_words_val_le hy
  generalize val xs = x at *
  generalize val ys = y at *
  have hWx := Wd_words x
  have hWy := Wd_words y
  have hvx := val_words x
  have hvy := val_words y
  have hpos : 0 < (words y).length := List.length_pos_iff.2 fun h => hne (words_eq_nil.1 h)
  (refine gO ?_)
  (refine gC ?_)
  (refine cR (ret_Cmp (words x) (words y) hWx hWy (by omega) (by omega)) ?_; refine sX ?_; try refine aA ?_)
  rw [hvx, hvy]
  by_cases hlt : x < y
  · rw [cmpI_lt hlt]
    (refine gO ?_)
    (refine gC ?_)
    (refine cR (ret_Trim (words x) hWx (by omega)) ?_; refine sX ?_; try refine aA ?_)
    rw [hvx]
    (refine gO ?_)
    (refine FinQ hQ (congrArg Array.toList Tryz.results157) _ _ ?_); simp (disch := omega) only [u, i64, ax, if_true, forall_const, reduceCtorEq, implies_true, tvs, bf]
    rw [Nat.div_eq_of_lt hlt, Nat.mod_eq_of_lt hlt]
    simp [nat, words_zero, us]
  have hc0 : 0 ≤ cmpI x y := by unfold cmpI; rw [if_neg hlt]; split <;> omega
  have hcn : cmpI x y = ((cmpI x y).toNat : Int) := by omega
  rw [hcn]
  by_cases h1 : (words y).length = 1
  · have hw := hWy.getD 0
    have hy0 : (words y).getD 0 0 = y := by
      have := val_take_getD (words y) 0
      rw [List.take_of_length_le (by omega), hvy] at this
      simp [val] at this
      simp
      omega
    rw [hy0] at hw
    have hr := Nat.mod_lt x (Nat.pos_of_ne_zero hne)
    (refine gO ?_)
    (refine gC ?_)
    rw [hy0]
    (refine cR (ret_divWord (words x) y hWx hw (Nat.pos_of_ne_zero hne) (by omega)) ?_; refine sX ?_; try refine aA ?_)
    rw [hvx]
    repeat (first | (refine gC ?_; first | refine aA ?_ | (refine cR (ret_Word (x % y) (by omega)) ?_; refine sX ?_; try refine aA ?_)) | (refine cR (ret_Word (x % y) (by omega)) ?_; refine sX ?_; try refine aA ?_) | refine gS ?_)
    (refine FinQ hQ (congrArg Array.toList Tryz.results157) _ _ ?_); simp (disch := omega) only [u, i64, ax, if_true, forall_const, reduceCtorEq, implies_true, tvs, bf]
  obtain ⟨n, hn⟩ : ∃ n, (words y).length = n + 2 := ⟨(words y).length - 2, by omega⟩
  obtain ⟨s, hs⟩ : ∃ s, s = 64 - bl ((words y).getD (n + 1) 0) := ⟨_, rfl⟩
  obtain ⟨hvl, htop, hs64⟩ := norm_top hn hs
  have hlen := length_mono (show y ≤ x by omega)
  have hps := Nat.two_pow_pos s
  have hx0 : x ≠ 0 := by omega
  have hV0 : 0 < y * 2 ^ s := Nat.mul_pos (Nat.pos_of_ne_zero hne) hps
  have hyt := hWy.getD (n + 1)
  -- the row: x shifted, with zeros above
  have hxl : x * 2 ^ s < 18446744073709551616 ^ ((words x).length + 1) := by
    rw [Nat.pow_succ]
    have h1 := lt_pow_of_length (Nat.le_refl (words x).length)
    have h2 : 2 ^ s ≤ 18446744073709551616 := by rw [show 18446744073709551616 = 2 ^ 64 by decide]; exact Nat.pow_le_pow_right (by decide) (by omega)
    exact Nat.lt_of_lt_of_le ((Nat.mul_lt_mul_right hps).2 h1) (Nat.mul_le_mul_left _ h2)
  have hxl2 := length_le hxl
  have hxl1 := length_mono (show x ≤ x * 2 ^ s from Nat.le_mul_of_pos_right x hps)
  have hdiv : x * 2 ^ s / (y * 2 ^ s) = x / y := Nat.mul_div_mul_right _ _ hps
  have hmod : x * 2 ^ s % (y * 2 ^ s) = x % y * 2 ^ s := Nat.mul_mod_mul_right _ _ _
  have hF := retF_Shl (words x) s (by rw [hvx]; exact hx0) hWx (by omega) (by omega)
  rw [hvx] at hF
  have hsub : (words y).length - 1 = n + 1 := by omega
  (refine gO ?_)
  (refine gC ?_)
  rw [hsub]
  (refine callK_mem (ret_LeadingZeros64 ((words y).getD (n + 1) 0) hyt) rfl (by (simp (disch := omega) only [if_true, forall_const, reduceCtorEq, implies_true, bz]) <;> rfl) ?_; refine sX ?_; try refine aA ?_)
  rw [← hs]
  (refine gO ?_)
  (refine gC ?_)
  (refine cR (ret_Shl (words y) s hWy (by omega) (by omega)) ?_; refine sX ?_; try refine aA ?_)
  rw [hvy]
  (refine gO ?_)
  ((first | refine G_sregL 2 mixed (by first | rfl | kernel_rfl) rfl rfl ?_ | refine G_regL 2 mixed (by first | rfl | kernel_rfl) rfl rfl ?_); simp (disch := omega) only [u, i64, ax, eq_self, if_true, if_false, Nat.reduceAdd, Int.reduceToNat, Int.reduceAdd, tvs, bs, tk_0, tk_S]; refine aft_any ?_)
  (refine LStep_fresh rfl (by rfl) (by refine sX ?_; (simp (disch := omega) only [if_true, forall_const, reduceCtorEq, implies_true, bz]) <;> rfl) (us_noMem _) hF ?_; simp (disch := omega) only [u, i64, ax, eq_self, if_true, if_false, Nat.reduceAdd, Int.reduceToNat, Int.reduceAdd, tvs, bs, mp_0, mp_S, ap_0, ap_S, tk_0, tk_S, us_length]; try refine aA ?_)
  (refine gO ?_)
  have hWV := Wd_words (y * 2 ^ s)
  have hvV := val_words (y * 2 ^ s)
  have hVlow : 9223372036854775808 * 18446744073709551616 ^ (n + 1) ≤ y * 2 ^ s := by
    have et := val_take_getD (words (y * 2 ^ s)) (n + 1)
    rw [List.take_of_length_le (by omega), hvV] at et
    have := Nat.mul_le_mul_left (18446744073709551616 ^ (n + 1)) htop
    rw [Nat.mul_comm]
    omega
  have hxB : x * 2 ^ s < 18446744073709551616 ^ (words x).length * 9223372036854775808 := by
    have h1 := lt_pow_of_length (Nat.le_refl (words x).length)
    have h2 : 2 ^ s ≤ 9223372036854775808 := by rw [show 9223372036854775808 = 2 ^ 63 by decide]; exact Nat.pow_le_pow_right (by decide) (by omega)
    exact Nat.lt_of_lt_of_le ((Nat.mul_lt_mul_right hps).2 h1) (Nat.mul_le_mul_left _ h2)
  have hVlow2 : 9223372036854775808 * 18446744073709551616 ^ ((words (y * 2 ^ s)).length - 1) ≤ y * 2 ^ s := by rw [hvl]; exact hVlow
  refine AWp_loop (fun i : Nat × List Nat × List Nat => mk 127 [(8, i64 s), (9, nat (y * 2 ^ s)), (10, .own 0 1 0 ((words x).length + 1) 1), (11, i64 (words (y * 2 ^ s)).length), (12, .own 1 0 0 ((words x).length + 1 - (words (y * 2 ^ s)).length) 1), (13, i64 ((i.1 : Int) - 1))] [⟨1, true, us i.2.1⟩, ⟨0, true, us i.2.2⟩])
    (fun i => i.1 ≤ (words x).length + 1 - (words (y * 2 ^ s)).length ∧ i.2.1.length = (words (x * 2 ^ s)).length + 2 ∧ Wd i.2.1 ∧ i.2.2.length = (words x).length + 1 - (words (y * 2 ^ s)).length ∧ Wd i.2.2 ∧ val (i.2.1.drop i.1) < y * 2 ^ s ∧ val i.2.1 + y * 2 ^ s * (18446744073709551616 ^ i.1 * val (i.2.2.drop i.1)) = x * 2 ^ s)
    (fun i => i.1) ((words x).length + 1 - (words (y * 2 ^ s)).length, words (x * 2 ^ s) ++ [0, 0], List.replicate ((words x).length + 1 - (words (y * 2 ^ s)).length) 0) ?_ ⟨Nat.le_refl _, by simp, (Wd_words _).append (Wd_cons (by decide) (Wd_cons (by decide) Wd_nil)), by simp, Wd_replicate _ (by decide), ?_, ?_⟩ ?_
  · simp only [← us_append]
    simp only [u, i64, Nat.reduceSub, Nat.reduceAdd, bm]
    have hk1 : (((words x).length + 1 - (words (y * 2 ^ s)).length : Nat) : Int) - 1 = (((words x).length + 1 - (words (y * 2 ^ s)).length - 1 : Nat) : Int) := by omega
    rw [hk1]
    simp only [u, i64, Nat.reduceSub, Nat.reduceAdd, bm]
    all_goals exact ⟨trivial, trivial, rfl⟩
  · exact row_top (by omega) hxB (by omega) hVlow2
  · simp only
    rw [List.drop_of_length_le (by simp), val_append, val_words]
    simp [val]
  rintro ⟨k, U, os⟩ ⟨g1, g2, g3, g4, g5, g6, g7⟩
  simp only at g1 g2 g3 g4 g5 g6 g7
  simp only [u, i64, Nat.reduceSub, Nat.reduceAdd, bm]
  by_cases hk : 1 ≤ k
  · obtain ⟨j, rfl⟩ : ∃ j, k = j + 1 := ⟨k - 1, by omega⟩
    simp only [Int.natCast_add, Int.natCast_one, Int.add_sub_cancel]
    have hgk := guess_ok (U := U) (V := words (y * 2 ^ s)) (j := j) g3 hWV (by omega) (by omega) (by rw [hvl]; exact htop) (by rw [hvV]; exact g6)
    rw [hvV] at hgk
    have hjlen : j + ((words (y * 2 ^ s)).length + 1) ≤ U.length := by omega
    have hUlen : U.length ≤ 1099511627776 := by omega
    (refine gO ?_)
    (refine gC ?_)
    (refine cR (ret_guess (U.getD (j + (words (y * 2 ^ s)).length) 0) (U.getD (j + (words (y * 2 ^ s)).length - 1) 0) (U.getD (j + (words (y * 2 ^ s)).length - 2) 0) ((words (y * 2 ^ s)).getD ((words (y * 2 ^ s)).length - 1) 0) ((words (y * 2 ^ s)).getD ((words (y * 2 ^ s)).length - 2) 0) (g3.getD _) (g3.getD _) (g3.getD _) (hWV.getD _) (hWV.getD _) (by rw [hvl]; exact Nat.lt_of_lt_of_le (by decide) htop)) ?_; refine sX ?_; try refine aA ?_)
    have hqB := Nat.min_le_left 18446744073709551615 (((U.getD (j + (words (y * 2 ^ s)).length) 0 * 18446744073709551616 + U.getD (j + (words (y * 2 ^ s)).length - 1) 0) * 18446744073709551616 + U.getD (j + (words (y * 2 ^ s)).length - 2) 0) / ((words (y * 2 ^ s)).getD ((words (y * 2 ^ s)).length - 1) 0 * 18446744073709551616 + (words (y * 2 ^ s)).getD ((words (y * 2 ^ s)).length - 2) 0))
    obtain ⟨q, hq⟩ : ∃ q, min 18446744073709551615 (((U.getD (j + (words (y * 2 ^ s)).length) 0 * 18446744073709551616 + U.getD (j + (words (y * 2 ^ s)).length - 1) 0) * 18446744073709551616 + U.getD (j + (words (y * 2 ^ s)).length - 2) 0) / ((words (y * 2 ^ s)).getD ((words (y * 2 ^ s)).length - 1) 0 * 18446744073709551616 + (words (y * 2 ^ s)).getD ((words (y * 2 ^ s)).length - 2) 0)) = q := ⟨_, rfl⟩
    rw [hq] at hgk hqB
    rw [hq]
    have hqB2 : q < 18446744073709551616 := Nat.lt_of_le_of_lt hqB (by decide)
    have hQlt : val (U.drop j) / (y * 2 ^ s) < 18446744073709551616 := Nat.lt_of_le_of_lt hgk.1 hqB2
    have hq1B : q - 1 < 18446744073709551616 := Nat.lt_of_le_of_lt (Nat.sub_le _ _) hqB2
    have hjos : j < os.length := by omega
    obtain ⟨f1, f2, f3, f4, f5, f6, f7⟩ := lessR_facts (U := U) (V := words (y * 2 ^ s)) (j := j) (q := q) g3 hWV hjlen (by rw [hvV]; exact hV0) (by rw [hvV]; exact g6) (by rw [hvV]; exact hgk.1) (by rw [hvV]; exact hgk.2)
    have hM := ret_less U (words (y * 2 ^ s)) j q g3 hWV hqB2 hjlen hUlen (by rw [f1]; exact f2)
    rw [f1] at hM
    rw [hvV] at f2 f3 f6 f7 hM
    have hjl : j + (words (y * 2 ^ s)).length + 1 - j = (words (y * 2 ^ s)).length + 1 := by omega
    have hnext : val ((lessR U (words (y * 2 ^ s)) j q).drop j) < y * 2 ^ s := by rw [f6]; exact Nat.mod_lt _ hV0
    have hsum : val (lessR U (words (y * 2 ^ s)) j q) + y * 2 ^ s * (18446744073709551616 ^ j * val ((os.set j (val (U.drop j) / (y * 2 ^ s))).drop j)) = x * 2 ^ s := by
      rw [val_drop_set _ _ _ hjos, ← g7, ← f7, Nat.pow_succ, Nat.mul_add (18446744073709551616 ^ j), Nat.mul_add (y * 2 ^ s), Nat.mul_assoc (18446744073709551616 ^ j)]
      omega
    clear f1 f2 f6 f7 hgk hq
    (refine gO ?_)
    first | refine G_sregL 9 mixed (by first | rfl | kernel_rfl) rfl rfl ?_ | refine G_regL 9 mixed (by first | rfl | kernel_rfl) rfl rfl ?_
    simp (disch := omega) only [u, i64, ax, eq_self, if_true, if_false, Nat.reduceAdd, Int.reduceToNat, Int.reduceAdd, tvs, bs, tk_0, tk_S, hjl]
    refine aft_any ?_
    by_cases hc : val (U.drop j) < q * (y * 2 ^ s)
    · rw [decT hc] at hM
      rw [if_pos hc] at f3
      (refine LStep_mut rfl (by rfl) (by refine sX ?_; rfl) (by rfl) (by (simp (disch := omega) only [if_true, forall_const, reduceCtorEq, implies_true, bz]) <;> rfl) (us_pure _) (us_noMem _) rfl hM ?_; simp (disch := omega) only [u, i64, ax, eq_self, if_true, if_false, Nat.reduceAdd, Int.reduceToNat, Int.reduceAdd, tvs, bs, mp_0, mp_S, ap_0, ap_S, tk_0, tk_S, us_length]; try refine aA ?_)
      have hjl2 := hjl
      have hq1 : 1 ≤ q := by
        rcases Nat.eq_zero_or_pos q with h0 | h0
        · rw [h0, Nat.zero_mul] at hc; omega
        · exact h0
      (refine gO ?_)
      refine ⟨(j, lessR U (words (y * 2 ^ s)) j q, os.set j (q - 1)), ?_, ⟨by simp only; omega, by simp only; rw [f4, g2], f5, by simp only [List.length_set]; exact g4, g5.set _ hq1B, hnext, by simp only; rw [f3]; exact hsum⟩, by simp only; omega⟩
      simp only [u, i64, Nat.reduceSub, Nat.reduceAdd, bm]
    · rw [decF hc] at hM
      rw [if_neg hc] at f3
      rw [← f3] at hsum
      (refine LStep_mut rfl (by rfl) (by refine sX ?_; rfl) (by rfl) (by (simp (disch := omega) only [if_true, forall_const, reduceCtorEq, implies_true, bz]) <;> rfl) (us_pure _) (us_noMem _) rfl hM ?_; simp (disch := omega) only [u, i64, ax, eq_self, if_true, if_false, Nat.reduceAdd, Int.reduceToNat, Int.reduceAdd, tvs, bs, mp_0, mp_S, ap_0, ap_S, tk_0, tk_S, us_length]; try refine aA ?_)
      (refine gO ?_)
      refine ⟨(j, lessR U (words (y * 2 ^ s)) j q, os.set j q), ?_, ⟨by simp only; omega, by simp only; rw [f4, g2], f5, by simp only [List.length_set]; exact g4, g5.set _ hqB2, hnext, hsum⟩, by simp only; omega⟩
      simp only [u, i64, Nat.reduceSub, Nat.reduceAdd, bm]
  · have hk0 : k = 0 := by omega
    subst hk0
    simp only [List.drop_zero, Nat.pow_zero, Nat.one_mul] at g6 g7
    have hQ1 : val os = x / y := by
      rw [← hdiv, ← g7, Nat.add_mul_div_left _ _ hV0, Nat.div_eq_of_lt g6, Nat.zero_add]
    have hR1 : val U = x % y * 2 ^ s := by
      rw [← hmod, ← g7, Nat.add_mul_mod_self_left, Nat.mod_eq_of_lt g6]
    have hUt : val (U.take ((words x).length + 1)) = x % y * 2 ^ s := by
      rw [take_zero_rest g3, hR1]
      refine Nat.lt_of_lt_of_le g6 ?_
      have := lt_pow_of_length (Nat.le_refl (words (y * 2 ^ s)).length)
      exact Nat.le_trans (Nat.le_of_lt this) (Nat.pow_le_pow_right (by decide) (by omega))
    (refine gO ?_)
    refine G_cool0 ?_
    refine G_cool1 ?_
    (refine gC ?_)
    (refine cR (ret_Trim os g5 (by omega)) ?_; refine sX ?_; try refine aA ?_)
    rw [hQ1]
    refine callK_ret (ret_Trim (U.take ((words x).length + 1)) (g3.take _) (by rw [List.length_take]; omega)) (by rw [fzs_cons, fz_own, rget0, fzO_usT _ _ _ _ (by omega), fzs_nil, fzC_some]) ?_
    rw [hUt]
    simp (disch := omega) only [u, i64, ax, eq_self, if_true, if_false, Nat.reduceAdd, Int.reduceToNat, Int.reduceAdd, tvs, bs]
    try refine aft_any ?_
    (refine cR (ret_Shr (words (x % y * 2 ^ s)) s (Wd_words _) (by have := length_mono (show x % y * 2 ^ s ≤ x * 2 ^ s from Nat.mul_le_mul_right _ (Nat.mod_le _ _)); omega) (by omega)) ?_; refine sX ?_; try refine aA ?_)
    rw [val_words, Nat.mul_div_cancel _ hps]
    (refine gO ?_)
    (refine FinQ hQ (congrArg Array.toList Tryz.results157) _ _ ?_); simp (disch := omega) only [u, i64, ax, if_true, forall_const, reduceCtorEq, implies_true, tvs, bf]
end Go.Proofs
set_option linter.unusedVariables false
set_option linter.unusedSimpArgs false
namespace Go.Proofs
open Go.Ax
set_option maxRecDepth 100000 in
theorem ret_Right (r : Int) (h1 : -9223372036854775808 ≤ r) (h2 : r < 9223372036854775808) : Ret Tryz.prog GEs 155 [i64 r] (.bool (decide (0 ≤ r ∧ r ≤ 4))) := by
  refine RetN_start Tryz.func155 (by kernel_rfl) rfl fun Q hQ hQ2 => ?_; rw [Tryz.ntmps155]; simp only [u, i64, Nat.reduceSub, Nat.reduceAdd, bm]
  by_cases ha : 0 ≤ r
  · by_cases hb : r ≤ 4
    · (refine gO ?_)
      (refine FinQ hQ (congrArg Array.toList Tryz.results155) _ _ ?_); simp (disch := omega) only [u, i64, ax, if_true, forall_const, reduceCtorEq, implies_true, tvs, bf, decT (show 0 ≤ r ∧ r ≤ 4 from ⟨ha, hb⟩)]
    · (refine gO ?_)
      (refine FinQ hQ (congrArg Array.toList Tryz.results155) _ _ ?_); simp (disch := omega) only [u, i64, ax, if_true, forall_const, reduceCtorEq, implies_true, tvs, bf, decF (show ¬ (0 ≤ r ∧ r ≤ 4) from fun h => hb h.2)]
  · (refine gO ?_)
    (refine FinQ hQ (congrArg Array.toList Tryz.results155) _ _ ?_); simp (disch := omega) only [u, i64, ax, if_true, forall_const, reduceCtorEq, implies_true, tvs, bf, decF (show ¬ (0 ≤ r ∧ r ≤ 4) from fun h => ha h.1)]
theorem ret_more (r : Nat) (hr : r ≤ 4) (neg odd : Bool) (x : Nat) (hx : x ≤ 3) : Ret Tryz.prog GEs (274 + r) [.bool neg, .bool odd, i64 x] (.bool (moreF r neg odd x)) := by
  have h1 : r = 0 ∨ r = 1 ∨ r = 2 ∨ r = 3 ∨ r = 4 := by omega
  have h2 : x = 0 ∨ x = 1 ∨ x = 2 ∨ x = 3 := by omega
  rcases h1 with rfl | rfl | rfl | rfl | rfl <;> rcases h2 with rfl | rfl | rfl | rfl <;> cases neg <;> cases odd <;> exact ran (n := 20) (by kernel_rfl)
set_option maxRecDepth 100000 in
theorem ret_compare (x : Nat) (ds : List Nat) (hw : Wd ds) (hx : (words x).length ≤ 274877906944) (hd : ds.length ≤ 274877906944) : Ret Tryz.prog GEs 202 [nat x, ws ds] (i64 (restC x (val ds))) := by
  obtain ⟨d, hdd⟩ : ∃ d, val ds = d := ⟨_, rfl⟩
  rw [hdd]
  have h2x : (words (x * 2 ^ 1)).length ≤ 549755813888 := by
    have := length_mul x 2
    have h2 : (words 2).length ≤ 1 := length_le (by decide)
    simp only [Nat.pow_one]; omega
  refine RetN_start Tryz.func202 (by kernel_rfl) rfl fun Q hQ hQ2 => ?_; rw [Tryz.ntmps202]; simp only [u, i64, Nat.reduceSub, Nat.reduceAdd, bm]
  (refine gO ?_)
  (refine gC ?_)
  (refine cR (ret_Zero (words x) (Wd_words x) (by omega)) ?_; refine sX ?_; try refine aA ?_)
  rw [val_words]
  by_cases h0 : x = 0
  · rw [decT h0]
    (refine gO ?_)
    (refine FinQ hQ (congrArg Array.toList Tryz.results202) _ _ ?_); simp (disch := omega) only [u, i64, ax, if_true, forall_const, reduceCtorEq, implies_true, tvs, bf, restC, if_pos h0]
    rfl
  · rw [decF h0]
    (refine gO ?_)
    (refine gC ?_)
    (refine cR (ret_Shl (words x) 1 (Wd_words x) (by omega) (by decide)) ?_; refine sX ?_; try refine aA ?_)
    rw [val_words]
    (refine cR (ret_Cmp (words (x * 2 ^ 1)) ds (Wd_words _) hw (by omega) (by omega)) ?_; refine sX ?_; try refine aA ?_)
    rw [val_words, hdd, Nat.pow_one, Nat.mul_comm]
    have hr : restC x d = if 2 * x < d then 1 else if 2 * x = d then 2 else 3 := by unfold restC; rw [if_neg h0]
    by_cases h1 : 2 * x < d
    · rw [cmpI_lt h1]
      (refine gO ?_)
      (refine FinQ hQ (congrArg Array.toList Tryz.results202) _ _ ?_); simp (disch := omega) only [u, i64, ax, if_true, forall_const, reduceCtorEq, implies_true, tvs, bf, hr, if_pos h1]
      rfl
    · by_cases h2 : 2 * x = d
      · rw [cmpI_eq h2]
        (refine gO ?_)
        (refine FinQ hQ (congrArg Array.toList Tryz.results202) _ _ ?_); simp (disch := omega) only [u, i64, ax, if_true, forall_const, reduceCtorEq, implies_true, tvs, bf, hr, if_neg h1, if_pos h2]
        rfl
      · rw [cmpI_gt (by omega)]
        (refine gO ?_)
        (refine FinQ hQ (congrArg Array.toList Tryz.results202) _ _ ?_); simp (disch := omega) only [u, i64, ax, if_true, forall_const, reduceCtorEq, implies_true, tvs, bf, hr, if_neg h1, if_neg h2]
        rfl
theorem ge0 : globA (GEs 0) = .lptr [fv 274, fv 275, fv 276, fv 277, fv 278] := rfl
set_option maxRecDepth 100000 in
set_option maxHeartbeats 1000000 in
theorem ret_up (r : Nat) (hr : r ≤ 4) (neg : Bool) (q : Nat) (hq : (words q).length ≤ 274877906944) (x : Nat) (hx : x ≤ 3) : Ret Tryz.prog GEs 201 [i64 r, .bool neg, nat q, i64 x] (nat (q + if moreF r neg (decide (q % 2 = 1)) x = true then 1 else 0)) := by
  have h1 : r = 0 ∨ r = 1 ∨ r = 2 ∨ r = 3 ∨ r = 4 := by omega
  have hm := ret_more r hr neg (decide (q % 2 = 1)) x hx
  have hB := ret_Bit (words q) 0 (Wd_words q) (by omega) (by decide)
  rw [val_words, Nat.pow_zero, Nat.div_one] at hB
  obtain ⟨m, hmd⟩ : ∃ m, moreF r neg (decide (q % 2 = 1)) x = m := ⟨_, rfl⟩
  rw [hmd] at hm ⊢
  have hA := ret_Add (words q) [1] (Wd_words q) (Wd_cons (by decide) Wd_nil) (by omega) (by simp)
  have hT := ret_Trim (words q) (Wd_words q) (by omega)
  rw [val_words] at hA hT
  rw [show val [1] = 1 by simp [val]] at hA
  rcases h1 with rfl | rfl | rfl | rfl | rfl
  all_goals
    cases m with
    | true =>
      refine RetN_start Tryz.func201 (by kernel_rfl) rfl fun Q hQ hQ2 => ?_; rw [Tryz.ntmps201]; simp only [u, i64, Nat.reduceSub, Nat.reduceAdd, bm]
      (refine gO ?_)
      first | refine G_sreg mixed (by first | rfl | kernel_rfl) ?_ | refine G_reg mixed (by first | rfl | kernel_rfl) ?_
      simp (disch := omega) only [u, i64, ax, eq_self, if_true, if_false, Nat.reduceAdd, Int.reduceToNat, Int.reduceAdd, tvs, bs, ge0, fv, Int.reduceToNat]
      repeat (first | (refine gC ?_; first | refine aA ?_ | ((first | refine cR hB ?_ | refine cR hm ?_ | refine cR hA ?_); refine sX ?_; try refine aA ?_)) | ((first | refine cR hB ?_ | refine cR hm ?_ | refine cR hA ?_); refine sX ?_; try refine aA ?_) | refine gS ?_)
      (refine FinQ hQ (congrArg Array.toList Tryz.results201) _ _ ?_); simp (disch := omega) only [u, i64, ax, if_true, forall_const, reduceCtorEq, implies_true, tvs, bf]
    | false =>
      refine RetN_start Tryz.func201 (by kernel_rfl) rfl fun Q hQ hQ2 => ?_; rw [Tryz.ntmps201]; simp only [u, i64, Nat.reduceSub, Nat.reduceAdd, bm]
      (refine gO ?_)
      first | refine G_sreg mixed (by first | rfl | kernel_rfl) ?_ | refine G_reg mixed (by first | rfl | kernel_rfl) ?_
      simp (disch := omega) only [u, i64, ax, eq_self, if_true, if_false, Nat.reduceAdd, Int.reduceToNat, Int.reduceAdd, tvs, bs, ge0, fv, Int.reduceToNat]
      repeat (first | (refine gC ?_; first | refine aA ?_ | ((first | refine cR hB ?_ | refine cR hm ?_ | refine cR hT ?_); refine sX ?_; try refine aA ?_)) | ((first | refine cR hB ?_ | refine cR hm ?_ | refine cR hT ?_); refine sX ?_; try refine aA ?_) | refine gS ?_)
      (refine FinQ hQ (congrArg Array.toList Tryz.results201) _ _ ?_); simp (disch := omega) only [u, i64, ax, if_true, forall_const, reduceCtorEq, implies_true, tvs, bf]
      rfl
set_option maxRecDepth 100000 in
theorem ret_Quotient (r : Nat) (hr : r ≤ 4) (neg : Bool) (ns ds : List Nat) (hn : Wd ns) (hd : Wd ds) (hln : ns.length ≤ 137438953472) (hld : ds.length ≤ 137438953472) (h0 : val ds ≠ 0) :
    Ret Tryz.prog GEs 120 [i64 r, .bool neg, ws ns, ws ds] (.tup [nat (quoN r neg (val ns) (val ds)), .bool (decide (val ns % val ds = 0))]) := by
  have hnl := length_words_val_le hn
  have hdl := length_words_val_le hd
  have hq := length_mono (Nat.div_le_self (val ns) (val ds))
  have hm := length_mono (Nat.mod_le (val ns) (val ds))
  refine RetN_start Tryz.func120 (by kernel_rfl) rfl fun Q hQ hQ2 => ?_; rw [Tryz.ntmps120]; simp only [u, i64, Nat.reduceSub, Nat.reduceAdd, bm]
  repeat (first | (refine gC ?_; first | refine aA ?_ | (refine cR (ret_DivMod ns ds hn hd (by omega) (by omega) h0) ?_; refine sX ?_; try refine aA ?_)) | (refine cR (ret_DivMod ns ds hn hd (by omega) (by omega) h0) ?_; refine sX ?_; try refine aA ?_) | refine gS ?_)
  (refine gC ?_)
  (refine cR (ret_compare (val ns % val ds) ds hd (by omega) (by omega)) ?_; refine sX ?_; try refine aA ?_)
  (refine cR (ret_up r hr neg (val ns / val ds) (by omega) (restC (val ns % val ds) (val ds)) (restC_le _ _)) ?_; refine sX ?_; try refine aA ?_)
  (refine cR (ret_Zero (words (val ns % val ds)) (Wd_words _) (by omega)) ?_; refine sX ?_; try refine aA ?_)
  rw [val_words]
  (refine gO ?_)
  (refine FinQ hQ (congrArg Array.toList Tryz.results120) _ _ ?_); simp (disch := omega) only [u, i64, ax, if_true, forall_const, reduceCtorEq, implies_true, tvs, bf]
  rfl
theorem len_pos (n : Nat) : decide (0 < (words n).length) = decide (n ≠ 0) := by
  by_cases h : n = 0
  · subst h; rw [words_zero]; rfl
  · have : 0 < (words n).length := List.length_pos_iff.2 fun h0 => h (words_eq_nil.1 h0)
    rw [decT this, decT h]
end Go.Proofs
set_option linter.unusedVariables false
set_option linter.unusedSimpArgs false
namespace Go.Proofs
open Go.Ax
end Go.Proofs
set_option linter.unusedVariables false
set_option linter.unusedSimpArgs false
namespace Go.Proofs
open Go.Ax
end Go.Proofs
set_option linter.unusedVariables false
set_option linter.unusedSimpArgs false
namespace Go.Proofs
open Go.Ax
theorem bl_len (n : Nat) : bl n ≤ 64 * (words n).length := by
  have h := lt_pow_of_length (Nat.le_refl (words n).length)
  rw [Bpow] at h
  exact bl_le h
theorem le_pow_words {m p k : Nat} (hm : m ≤ 2 ^ p) (h : p < 64 * k) : (words m).length ≤ k := length_le (by
  rw [Bpow]
  exact Nat.lt_of_le_of_lt hm (Nat.pow_lt_pow_right (by decide) h))
theorem tz_le_bl (n : Nat) : tz n ≤ bl n := by
  by_cases h : n = 0
  · subst h; decide
  · obtain ⟨m, hm⟩ := tz_spec h
    have h1 : 2 ^ tz n ≤ n := by
      conv => rhs; rw [hm]
      exact Nat.le_mul_of_pos_right _ (by omega)
    have := bl_ge h1
    omega
theorem ret_greatest (r : Nat) (hr : r ≤ 4) (neg : Bool) : Ret Tryz.prog GEs 227 [i64 r, .bool neg] (.bool (grtF r neg)) := by
  have h1 : r = 0 ∨ r = 1 ∨ r = 2 ∨ r = 3 ∨ r = 4 := by omega
  rcases h1 with rfl | rfl | rfl | rfl | rfl <;> cases neg <;> exact ran (n := 20) (by kernel_rfl)
end Go.Proofs
set_option linter.unusedVariables false
set_option linter.unusedSimpArgs false
namespace Go.Proofs
open Go.Ax
theorem and1I (a : Nat) (h : a < 9223372036854775808) : Go.Ax.bits .and .i64 (a : Int) 1 = ((a % 2 : Nat) : Int) := by
  show IntKind.i64.wrap ((BitVec.ofInt 64 (a : Int) &&& BitVec.ofInt 64 1).toNat : Int) = _
  rw [BitVec.toNat_and, toNatU a (by omega), show (BitVec.ofInt 64 1).toNat = 1 from rfl, Nat.and_one_is_mod]
  exact wrapI _ (by omega) (by omega)
theorem words5 : nat 5 = .lst 1 [.int .u64 5] := by
  unfold nat
  rw [show words 5 = [5] by decide +kernel]
  rfl
theorem words1 : nat 1 = .lst 1 [.int .u64 1] := by
  unfold nat
  rw [show words 1 = [1] by decide +kernel]
  rfl
theorem lenLe {a b : Nat} (h : a ≤ b) {n : Nat} (hl : (words b).length ≤ n) : (words a).length ≤ n := Nat.le_trans (length_mono h) hl
set_option maxRecDepth 100000 in
set_option maxHeartbeats 1000000 in
theorem ret_Pow (b k L : Nat) (hb : b ≠ 0) (hk : k ≤ 4000000) (h1 : (words b).length ≤ L) (h2 : (words (b ^ k)).length ≤ L) (hL : L ≤ 1000000) : Ret Tryz.prog GEs 200 [nat b, i64 k] (nat (b ^ k)) := by
  refine RetN_start Tryz.func200 (by kernel_rfl) rfl fun Q hQ hQ2 => ?_; rw [Tryz.ntmps200]; simp only [u, i64, Nat.reduceSub, Nat.reduceAdd, bm]
  (refine gO ?_)
  refine AWp_loop (fun i : Nat × Nat × Nat => mk 25 [(1, i64 i.1), (4, .emp), (5, nat i.2.1), (6, nat i.2.2)] []) (fun i => i.1 ≤ k ∧ i.2.1 * i.2.2 ^ i.1 = b ^ k ∧ i.2.2 ≠ 0 ∧ (words i.2.2).length ≤ L) (fun i => i.1) (k, 1, b) ?_ ⟨Nat.le_refl _, Nat.one_mul _, hb, h1⟩ ?_
  · rw [words1]
    simp only [u, i64, Nat.reduceSub, Nat.reduceAdd, bm]
  rintro ⟨j, o, x⟩ ⟨i1, i2, i3, i4⟩
  simp only at i1 i2 i3 i4
  simp only [u, i64, Nat.reduceSub, Nat.reduceAdd, bm]
  have hpos : 0 < b ^ k := Nat.pow_pos (Nat.pos_of_ne_zero hb)
  have ho : o ≠ 0 := fun h => by rw [h, Nat.zero_mul] at i2; omega
  have hxj : x ^ j ≤ b ^ k := by rw [← i2]; exact Nat.le_mul_of_pos_left _ (Nat.pos_of_ne_zero ho)
  have hol : (words o).length ≤ L := lenLe (by rw [← i2]; exact Nat.le_mul_of_pos_right _ (Nat.pow_pos (Nat.pos_of_ne_zero i3))) h2
  by_cases hj : 0 < j
  · have hd := Nat.div_add_mod j 2
    have hM1 := ret_Mul (words o) (words x) (Wd_words _) (Wd_words _) (by omega) (by omega)
    have hM2 := ret_Mul (words x) (words x) (Wd_words _) (Wd_words _) (by omega) (by omega)
    rw [val_words, val_words] at hM1
    rw [val_words] at hM2
    have hand := and1I j (by omega)
    have hx2 : 1 < j → x * x ≤ b ^ k := fun h => by
      refine Nat.le_trans ?_ hxj
      rw [← Nat.pow_two]
      exact Nat.pow_le_pow_right (Nat.pos_of_ne_zero i3) h
    have hsh : j / 2 ^ min 1 IntKind.i64.bits = j / 2 := rfl
    by_cases c1 : j % 2 = 1
    · have e1 : ((j % 2 : Nat) : Int) = 1 := by omega
      rw [e1] at hand
      by_cases c2 : 1 < j
      · have hpw : o * x * (x * x) ^ (j / 2) = b ^ k := by
          rw [← i2, ← Nat.pow_two, ← Nat.pow_mul, Nat.mul_assoc, ← Nat.pow_succ']
          congr 2
          omega
        (refine gO ?_)
        (refine gC ?_)
        rw [hand]
        repeat (first | (refine gC ?_; first | refine aA ?_ | ((first | refine cR hM1 ?_ | refine cR hM2 ?_); refine sX ?_; try refine aA ?_)) | ((first | refine cR hM1 ?_ | refine cR hM2 ?_); refine sX ?_; try refine aA ?_) | refine gS ?_)
        refine ⟨(j / 2, o * x, x * x), ?_, ⟨by simp only; omega, hpw, Nat.mul_ne_zero i3 i3, lenLe (hx2 c2) h2⟩, by simp only; omega⟩
        rw [hsh]
        simp only [u, i64, Nat.reduceSub, Nat.reduceAdd, bm]
      · have hpw : o * x * x ^ (j / 2) = b ^ k := by
          rw [← i2, show j = 1 by omega, Nat.pow_one, show 1 / 2 = 0 from rfl, Nat.pow_zero, Nat.mul_one]
        (refine gO ?_)
        (refine gC ?_)
        rw [hand]
        repeat (first | (refine gC ?_; first | refine aA ?_ | (refine cR hM1 ?_; refine sX ?_; try refine aA ?_)) | (refine cR hM1 ?_; refine sX ?_; try refine aA ?_) | refine gS ?_)
        refine ⟨(j / 2, o * x, x), ?_, ⟨by simp only; omega, hpw, i3, i4⟩, by simp only; omega⟩
        rw [hsh]
        simp only [u, i64, Nat.reduceSub, Nat.reduceAdd, bm]
    · have e1 : ((j % 2 : Nat) : Int) = 0 := by omega
      rw [e1] at hand
      have hpw : o * (x * x) ^ (j / 2) = b ^ k := by
        rw [← i2, ← Nat.pow_two, ← Nat.pow_mul]
        congr 2
        omega
      (refine gO ?_)
      (refine gC ?_)
      rw [hand]
      repeat (first | (refine gC ?_; first | refine aA ?_ | (refine cR hM2 ?_; refine sX ?_; try refine aA ?_)) | (refine cR hM2 ?_; refine sX ?_; try refine aA ?_) | refine gS ?_)
      refine ⟨(j / 2, o, x * x), ?_, ⟨by simp only; omega, hpw, Nat.mul_ne_zero i3 i3, lenLe (hx2 (by omega)) h2⟩, by simp only; omega⟩
      rw [hsh]
      simp only [u, i64, Nat.reduceSub, Nat.reduceAdd, bm]
  · have h0 : j = 0 := by omega
    subst h0
    rw [Nat.pow_zero, Nat.mul_one] at i2
    rw [← i2] at hQ
    (refine gO ?_)
    (refine FinQ hQ (congrArg Array.toList Tryz.results200) _ _ ?_); simp (disch := omega) only [u, i64, ax, if_true, forall_const, reduceCtorEq, implies_true, tvs, bf]
theorem pow5_len {k : Nat} (hk : k ≤ 1000000) : (words (5 ^ k)).length ≤ 50000 := le_pow_words (five_le k) (by omega)
theorem ten_len {k : Nat} (hk : k ≤ 1000000) : (words (10 ^ k)).length ≤ 63000 := le_pow_words (ten_le k) (by omega)
theorem ret_Ten (k : Nat) (hk : k ≤ 1000000) : Ret Tryz.prog GEs 119 [i64 k] (nat (10 ^ k)) := by
  have h5 : (words 5).length ≤ 50000 := Nat.le_trans (length_le (k := 1) (by decide)) (by decide)
  have hP := ret_Pow 5 k 50000 (by decide) (by omega) h5 (pow5_len hk) (by decide)
  rw [words5] at hP
  have hl := pow5_len hk
  have hS := ret_Shl (words (5 ^ k)) k (Wd_words _) (by omega) (by omega)
  rw [val_words, ten_eq] at hS
  refine RetN_start Tryz.func119 (by kernel_rfl) rfl fun Q hQ hQ2 => ?_; rw [Tryz.ntmps119]; simp only [u, i64, Nat.reduceSub, Nat.reduceAdd, bm]
  repeat (first | (refine gC ?_; first | refine aA ?_ | ((first | refine cR hP ?_ | refine cR hS ?_); refine sX ?_; try refine aA ?_)) | ((first | refine cR hP ?_ | refine cR hS ?_); refine sX ?_; try refine aA ?_) | refine gS ?_)
  (refine FinQ hQ (congrArg Array.toList Tryz.results119) _ _ ?_); simp (disch := omega) only [u, i64, ax, if_true, forall_const, reduceCtorEq, implies_true, tvs, bf]
theorem cmpI_sign (a b : Nat) : (0 ≤ cmpI a b ↔ b ≤ a) ∧ (cmpI a b < 0 ↔ a < b) ∧ (cmpI a b = 0 ↔ a = b) ∧ (0 < cmpI a b ↔ b < a) := by
  unfold cmpI; split <;> (try split) <;> omega
set_option maxRecDepth 100000 in
/-- How many decimal digits. -/
theorem ret_WDigits (n : Nat) (hl : (words n).length ≤ 10000) : Ret Tryz.prog GEs 151 [nat n] (i64 (dg n)) := by
  have hZ := ret_Zero (words n) (Wd_words _) (by omega)
  have hL := ret_Len (words n) (Wd_words _) (by omega)
  rw [val_words] at hZ hL
  have hb := bl_len n
  by_cases h0 : n = 0
  · rw [decT h0] at hZ
    subst h0
    rw [dg_zero]
    refine RetN_start Tryz.func151 (by kernel_rfl) rfl fun Q hQ hQ2 => ?_; rw [Tryz.ntmps151]; simp only [u, i64, Nat.reduceSub, Nat.reduceAdd, bm]
    repeat (first | (refine gC ?_; first | refine aA ?_ | (refine cR hZ ?_; refine sX ?_; try refine aA ?_)) | (refine cR hZ ?_; refine sX ?_; try refine aA ?_) | refine gS ?_)
    (refine FinQ hQ (congrArg Array.toList Tryz.results151) _ _ ?_); simp (disch := omega) only [u, i64, ax, if_true, forall_const, reduceCtorEq, implies_true, tvs, bf]
    all_goals rfl
  · rw [decF h0] at hZ
    have hg := dg_guess n h0 (by omega)
    have hdb := dg_le_bl n
    have hb1 := (bl_spec h0).2.2
    have hT := fun j (hj : j ≤ dg n) => ret_Ten j (by omega)
    have hC := fun j (hj : j ≤ dg n) => ret_Cmp (words n) (words (10 ^ j)) (Wd_words _) (Wd_words _) (by omega) (by have := ten_len (k := j) (by omega); omega)
    simp only [val_words] at hC
    refine RetN_start Tryz.func151 (by kernel_rfl) rfl fun Q hQ hQ2 => ?_; rw [Tryz.ntmps151]; simp only [u, i64, Nat.reduceSub, Nat.reduceAdd, bm]
    repeat (first | (refine gC ?_; first | refine aA ?_ | ((first | refine cR hZ ?_ | refine cR hL ?_); refine sX ?_; try refine aA ?_)) | ((first | refine cR hZ ?_ | refine cR hL ?_); refine sX ?_; try refine aA ?_) | refine gS ?_)
    refine AWp_loop (fun j : Nat => mk 19 [(0, nat n), (2, i64 0), (3, i64 j)] []) (fun j => j ≤ dg n) (fun j => dg n - j) ((bl n - 1) * 30103 / 100000) ?_ hg ?_
    · simp only [u, i64, Nat.reduceSub, Nat.reduceAdd, bm]
    intro j hj
    simp only [u, i64, Nat.reduceSub, Nat.reduceAdd, bm]
    have hs := cmpI_sign n (10 ^ j)
    have hT := hT j hj
    have hC := hC j hj
    by_cases hc : 10 ^ j ≤ n
    · have h1 := hs.1.2 hc
      have h2 := dg_ge hc
      generalize cmpI n (10 ^ j) = c at *
      repeat (first | (refine gC ?_; first | refine aA ?_ | ((first | refine cR hT ?_ | refine cR hC ?_); refine sX ?_; try refine aA ?_)) | ((first | refine cR hT ?_ | refine cR hC ?_); refine sX ?_; try refine aA ?_) | refine gS ?_)
      refine ⟨j + 1, ?_, h2, by omega⟩
      simp only [u, i64, Nat.reduceSub, Nat.reduceAdd, bm]
    · have h1 := hs.2.1.2 (by omega)
      have h2 := dg_le (n := n) (k := j) (by omega)
      obtain rfl : j = dg n := by omega
      generalize cmpI n (10 ^ dg n) = c at *
      repeat (first | (refine gC ?_; first | refine aA ?_ | ((first | refine cR hT ?_ | refine cR hC ?_); refine sX ?_; try refine aA ?_)) | ((first | refine cR hT ?_ | refine cR hC ?_); refine sX ?_; try refine aA ?_) | refine gS ?_)
      (refine FinQ hQ (congrArg Array.toList Tryz.results151) _ _ ?_); simp (disch := omega) only [u, i64, ax, if_true, forall_const, reduceCtorEq, implies_true, tvs, bf]
theorem tz_dvd {n k : Nat} (h : n ≠ 0) (hm : n % 2 ^ k = 0) : k ≤ tz n := by
  obtain ⟨m, hm'⟩ := tz_spec h
  rcases Nat.lt_or_ge (tz n) k with hlt | hge
  · exfalso
    obtain ⟨c, hc⟩ := Nat.dvd_of_mod_eq_zero hm
    obtain ⟨j, rfl⟩ : ∃ j, k = tz n + (j + 1) := ⟨k - tz n - 1, by omega⟩
    rw [Nat.pow_add, Nat.mul_assoc] at hc
    generalize tz n = t at *
    have := Nat.eq_of_mul_eq_mul_left (Nat.two_pow_pos t) (hm'.symm.trans hc)
    rw [Nat.pow_succ, Nat.mul_assoc, Nat.mul_left_comm] at this
    omega
  · exact hge
set_option maxRecDepth 100000 in
set_option maxHeartbeats 1000000 in
/-- A number without the zeros at its end. -/
theorem ret_Strip (xs : List Nat) (hx : Wd xs) (hl : xs.length ≤ 5000) (h0 : val xs ≠ 0) : Ret Tryz.prog GEs 219 [ws xs] (.tup [nat (sm (val xs)), i64 (st (val xs))]) := by
  have hT := ret_Trim xs hx (by omega)
  have hnl := length_words_val_le hx
  generalize val xs = n at *
  have hl0 : 0 < (words n).length := List.length_pos_iff.2 fun h => h0 (words_eq_nil.1 h)
  have hbn := bl_len n
  refine RetN_start Tryz.func219 (by kernel_rfl) rfl fun Q hQ hQ2 => ?_; rw [Tryz.ntmps219]; simp only [u, i64, Nat.reduceSub, Nat.reduceAdd, bm]
  repeat (first | (refine gC ?_; first | refine aA ?_ | (refine cR hT ?_; refine sX ?_; try refine aA ?_)) | (refine cR hT ?_; refine sX ?_; try refine aA ?_) | refine gS ?_)
  refine AWp_loop (fun i : Nat × Nat × Nat => mk 44 [(0, nat i.1), (2, .emp), (3, i64 0), (4, i64 i.2.1), (5, i64 i.2.2)] []) (fun i => i.1 * 10 ^ i.2.1 = n ∧ 1 ≤ i.2.2 ∧ i.2.2 ≤ 1000000 ∧ i.2.1 ≤ 1000000) (fun i => 2 * dg i.1 + i.2.2) (n, 0, 1) ?_ ⟨by simp, by simp, by simp, by simp⟩ ?_
  · simp only [u, i64, Nat.reduceSub, Nat.reduceAdd, bm]
  rintro ⟨x, k, s⟩ ⟨i1, i2, i3, i4⟩
  simp only at i1 i2 i3 i4
  simp only [u, i64, Nat.reduceSub, Nat.reduceAdd, bm]
  have hx0 : x ≠ 0 := fun h => by rw [h, Nat.zero_mul] at i1; exact h0 i1.symm
  have hxn : x ≤ n := by rw [← i1]; exact Nat.le_mul_of_pos_right _ (ten_pos k)
  have hxl := length_mono hxn
  have hTr := ret_Trailing (words x) (Wd_words _) (by omega)
  rw [val_words] at hTr
  have hbx := bl_len x
  have htb := tz_le_bl x
  by_cases c1 : tz x < s
  · by_cases c2 : s = 1
    · subst c2
      have hxm : x % 10 ≠ 0 := fun h => by
        have := tz_dvd (k := 1) hx0 (by omega)
        omega
      obtain ⟨e1, e2⟩ := strip_done i1 hxm
      rw [e1, e2] at hQ
      repeat (first | (refine gC ?_; first | refine aA ?_ | (refine cR hTr ?_; refine sX ?_; try refine aA ?_)) | (refine cR hTr ?_; refine sX ?_; try refine aA ?_) | refine gS ?_)
      (refine FinQ hQ (congrArg Array.toList Tryz.results219) _ _ ?_); simp (disch := omega) only [u, i64, ax, if_true, forall_const, reduceCtorEq, implies_true, tvs, bf]
    · repeat (first | (refine gC ?_; first | refine aA ?_ | (refine cR hTr ?_; refine sX ?_; try refine aA ?_)) | (refine cR hTr ?_; refine sX ?_; try refine aA ?_) | refine gS ?_)
      refine ⟨(x, k, s / 2), ?_, ⟨i1, by simp only; omega, by simp only; omega, i4⟩, by simp only; omega⟩
      simp only [u, i64, Nat.reduceSub, Nat.reduceAdd, bm]
  · have hTe := ret_Ten s i3
    have htl := ten_len i3
    have hD := ret_DivMod (words x) (words (10 ^ s)) (Wd_words _) (Wd_words _) (by omega) (by omega) (by rw [val_words]; exact Nat.ne_of_gt (ten_pos s))
    rw [val_words, val_words] at hD
    have hml := Nat.le_trans (length_mono (Nat.mod_le x (10 ^ s))) hxl
    have hZ := ret_Zero (words (x % 10 ^ s)) (Wd_words _) (by omega)
    rw [val_words] at hZ
    by_cases c2 : x % 10 ^ s = 0
    · rw [decT c2] at hZ
      obtain ⟨q, hq⟩ := Nat.dvd_of_mod_eq_zero c2
      have hq2 : x / 10 ^ s = q := by rw [hq]; exact Nat.mul_div_cancel_left _ (ten_pos s)
      have hq0 : q ≠ 0 := fun h => by rw [h, Nat.mul_zero] at hq; exact hx0 hq
      have hdg : dg x = dg q + s := by rw [hq, Nat.mul_comm]; exact dg_mul _ _ hq0
      have hdn : dg n = dg x + k := by rw [← i1]; exact dg_mul _ _ hx0
      have hdbn := dg_le_bl n
      have hpw : q * 10 ^ (k + s) = n := by rw [← i1, hq, Nat.pow_add, Nat.mul_comm (10 ^ k), ← Nat.mul_assoc, Nat.mul_comm q]
      rw [hq2] at hD
      generalize x % 10 ^ s = y at *
      generalize 10 ^ s = T at *
      repeat (first | (refine gC ?_; first | refine aA ?_ | ((first | refine cR hTr ?_ | refine cR hTe ?_ | refine cR hD ?_ | refine cR hZ ?_); refine sX ?_; try refine aA ?_)) | ((first | refine cR hTr ?_ | refine cR hTe ?_ | refine cR hD ?_ | refine cR hZ ?_); refine sX ?_; try refine aA ?_) | refine gS ?_)
      refine ⟨(q, k + s, 2 * s), ?_, ⟨hpw, by simp only; omega, by simp only; omega, by simp only; omega⟩, by simp only; omega⟩
      simp only [u, i64, Nat.reduceSub, Nat.reduceAdd, bm]
    · rw [decF c2] at hZ
      by_cases c3 : s = 1
      · subst c3
        rw [Nat.pow_one] at *
        obtain ⟨e1, e2⟩ := strip_done i1 c2
        rw [e1, e2] at hQ
        repeat (first | (refine gC ?_; first | refine aA ?_ | ((first | refine cR hTr ?_ | refine cR hTe ?_ | refine cR hD ?_ | refine cR hZ ?_); refine sX ?_; try refine aA ?_)) | ((first | refine cR hTr ?_ | refine cR hTe ?_ | refine cR hD ?_ | refine cR hZ ?_); refine sX ?_; try refine aA ?_) | refine gS ?_)
        (refine FinQ hQ (congrArg Array.toList Tryz.results219) _ _ ?_); simp (disch := omega) only [u, i64, ax, if_true, forall_const, reduceCtorEq, implies_true, tvs, bf]
      · generalize x % 10 ^ s = y at *
        generalize x / 10 ^ s = z at *
        generalize 10 ^ s = T at *
        repeat (first | (refine gC ?_; first | refine aA ?_ | ((first | refine cR hTr ?_ | refine cR hTe ?_ | refine cR hD ?_ | refine cR hZ ?_); refine sX ?_; try refine aA ?_)) | ((first | refine cR hTr ?_ | refine cR hTe ?_ | refine cR hD ?_ | refine cR hZ ?_); refine sX ?_; try refine aA ?_) | refine gS ?_)
        refine ⟨(x, k, s / 2), ?_, ⟨i1, by simp only; omega, by simp only; omega, i4⟩, by simp only; omega⟩
        simp only [u, i64, Nat.reduceSub, Nat.reduceAdd, bm]
end Go.Proofs
