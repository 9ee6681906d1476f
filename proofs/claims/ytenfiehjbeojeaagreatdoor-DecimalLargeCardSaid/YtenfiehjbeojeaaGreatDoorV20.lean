/-
  Contracts of functions of the program, each proved by a walk.
-/
import Derived.Test.YtenfiehjbeojeaaGreatDoorV18
import Derived.Test.YtenfiehjbeojeaaGreatDoorV14
import Derived.Test.YtenfiehjbeojeaaGreatDoorV19
set_option maxRecDepth 100000
set_option linter.unusedVariables false
set_option linter.unusedSimpArgs false
namespace Go.Proofs
open Go.Ax
theorem words_lt {X : Nat} (h : 1 ≤ (words X).length) : 18446744073709551616 ^ ((words X).length - 1) ≤ X := by
  have hne : words X ≠ [] := fun h0 => by rw [h0] at h; simp at h
  have := le_val_of_can (Canon_words X) hne
  rwa [val_words] at this
theorem words_len {X k : Nat} (h1 : 18446744073709551616 ^ k ≤ X) (h2 : X < 18446744073709551616 ^ (k + 1)) : (words X).length = k + 1 := by
  have e1 := length_le h2
  rcases Nat.lt_or_ge k (words X).length with h | h
  · omega
  · have := lt_pow_of_length h; omega
theorem row_top {z l n V : Nat} (hn : 1 ≤ n) (hz : z < 18446744073709551616 ^ l * 9223372036854775808) (hl : n ≤ l) (hV : 9223372036854775808 * 18446744073709551616 ^ (n - 1) ≤ V) : val ((words z ++ [0, 0]).drop (l + 1 - n)) < V := by
  rcases Nat.lt_or_ge (val ((words z ++ [0, 0]).drop (l + 1 - n))) V with h | h
  · exact h
  · have e0 : val (words z ++ [0, 0]) = z := by rw [val_append, val_words]; simp [val]
    rcases Nat.lt_or_ge (words z ++ [0, 0]).length (l + 1 - n) with hk | hk
    · rw [List.drop_of_length_le (by omega)] at h
      have : 0 < 18446744073709551616 ^ (n - 1) := Nat.pow_pos (by decide)
      simp [val] at h
      omega
    · have e := val_split _ _ hk
      rw [e0] at e
      have h1 := Nat.mul_le_mul_left (18446744073709551616 ^ (l + 1 - n)) (Nat.le_trans hV h)
      have h2 : 18446744073709551616 ^ (l + 1 - n) * (9223372036854775808 * 18446744073709551616 ^ (n - 1)) = 18446744073709551616 ^ l * 9223372036854775808 := by
        rw [Nat.mul_left_comm, ← Nat.pow_add, show l + 1 - n + (n - 1) = l by omega, Nat.mul_comm]
      omega
/-- The shifted divisor: as many words, and its highest bit is set. -/
theorem norm_top {Y n s : Nat} (hn : (words Y).length = n + 1) (hs : s = 64 - bl ((words Y).getD n 0)) :
    (words (Y * 2 ^ s)).length = n + 1 ∧ 9223372036854775808 ≤ (words (Y * 2 ^ s)).getD n 0 ∧ s < 64 := by
  have hY : Y ≠ 0 := fun h => by rw [h, words_zero] at hn; simp at hn
  obtain ⟨hb, htw⟩ := bl_words Y hY
  rw [hn, Nat.add_sub_cancel] at hb htw
  obtain ⟨h1, h2, h3⟩ := bl_spec hY
  have hlow := words_lt (X := Y) (by omega)
  rw [hn, Nat.add_sub_cancel, Bpow] at hlow
  have h64 := bl_le (n := (words Y).getD n 0) (k := 64) htw
  have htop : 1 ≤ bl ((words Y).getD n 0) := by
    rcases Nat.eq_zero_or_pos (bl ((words Y).getD n 0)) with h0 | h0
    · rw [h0, Nat.add_zero] at hb
      rw [hb] at h2
      omega
    · exact h0
  have e1 : 2 ^ (64 * n + 63) ≤ Y * 2 ^ s := by
    have := Nat.mul_le_mul_right (2 ^ s) h1
    rw [← Nat.pow_add, show bl Y - 1 + s = 64 * n + 63 by omega] at this
    exact this
  have e2 : Y * 2 ^ s < 2 ^ (64 * n + 64) := by
    have := (Nat.mul_lt_mul_right (Nat.two_pow_pos s)).2 h2
    rw [← Nat.pow_add, show bl Y + s = 64 * n + 64 by omega] at this
    exact this
  have hl : (words (Y * 2 ^ s)).length = n + 1 := words_len (by rw [Bpow]; exact Nat.le_trans (Nat.pow_le_pow_right (by decide) (by omega)) e1) (by rw [Bpow, show 64 * (n + 1) = 64 * n + 64 by omega]; exact e2)
  refine ⟨hl, ?_, by omega⟩
  have ev := val_words (Y * 2 ^ s)
  have et := val_take_getD (words (Y * 2 ^ s)) n
  rw [List.take_of_length_le (by omega), ev] at et
  have hlt := val_lt ((Wd_words (Y * 2 ^ s)).take n)
  rw [List.length_take, Nat.min_eq_left (by omega), Bpow] at hlt
  rw [Bpow] at et
  rcases Nat.lt_or_ge ((words (Y * 2 ^ s)).getD n 0) 9223372036854775808 with h | h
  · have h3 := Nat.mul_le_mul_left (2 ^ (64 * n)) (show (words (Y * 2 ^ s)).getD n 0 + 1 ≤ 9223372036854775808 from h)
    rw [show (9223372036854775808 : Nat) = 2 ^ 63 by decide, ← Nat.pow_add, Nat.mul_add, Nat.mul_one] at h3
    omega
  · exact h
set_option maxRecDepth 100000 in
set_option maxHeartbeats 4000000 in
theorem ret_DivMod (xs ys : List Nat) (hx : Wd xs) (hy : Wd ys) (hlx : xs.length ≤ 274877906944) (hly : ys.length ≤ 274877906944) (hne : val ys ≠ 0) : Ret Tryz.prog GEs 47 [ws xs, ws ys] (.tup [nat (val xs / val ys), nat (val xs % val ys)]) := by
  refine RetN_start Tryz.func47 (by kernel_rfl) rfl fun Q hQ hQ2 => ?_; rw [Tryz.ntmps47]; simp only [u, i64, Nat.reduceSub, Nat.reduceAdd, bm]
  (refine gO ?_)
  (refine gC ?_)
  (refine cR (ret_view xs hx (by omega)) ?_; refine sX ?_; try refine aA ?_)
  (refine cR (ret_view ys hy (by omega)) ?_; refine sX ?_; try refine aA ?_)
  have hX := length_words_val_le hx
  have hY := length_words_val_le hy
  generalize val xs = x at *
  generalize val ys = y at *
  have hWx := Wd_words x
  have hWy := Wd_words y
  have hvx := val_words x
  have hvy := val_words y
  have hpos : 0 < (words y).length := List.length_pos_iff.2 fun h => hne (words_eq_nil.1 h)
  (refine gO ?_)
  (refine gC ?_)
  (refine cR (ret_Cmp (words x) (words y) hWx hWy (by omega) (by omega)) ?_; refine sX ?_; try refine aA ?_)
  rw [hvx, hvy]
  by_cases hlt : x < y
  · rw [cmpI_lt hlt]
    (refine gO ?_)
    (refine gC ?_)
    (refine cR (ret_Trim (words x) hWx (by omega)) ?_; refine sX ?_; try refine aA ?_)
    rw [hvx]
    (refine gO ?_)
    (refine FinQ hQ (congrArg Array.toList Tryz.results47) _ _ ?_); simp (disch := omega) only [u, i64, ax, if_true, forall_const, reduceCtorEq, implies_true, tvs, bf]
    rw [Nat.div_eq_of_lt hlt, Nat.mod_eq_of_lt hlt]
    simp [nat, words_zero, us]
  have hc0 : 0 ≤ cmpI x y := by unfold cmpI; rw [if_neg hlt]; split <;> omega
  have hcn : cmpI x y = ((cmpI x y).toNat : Int) := by omega
  rw [hcn]
  by_cases h1 : (words y).length = 1
  · have hw := hWy.getD 0
    have hy0 : (words y).getD 0 0 = y := by
      have := val_take_getD (words y) 0
      rw [List.take_of_length_le (by omega), hvy] at this
      simp [val] at this
      simp
      omega
    rw [hy0] at hw
    have hr := Nat.mod_lt x (Nat.pos_of_ne_zero hne)
    (refine gO ?_)
    (refine gC ?_)
    rw [hy0]
    (refine cR (ret_divWord (words x) y hWx hw (Nat.pos_of_ne_zero hne) (by omega)) ?_; refine sX ?_; try refine aA ?_)
    rw [hvx]
    repeat (first | (refine gC ?_; first | refine aA ?_ | (refine cR (ret_Word (x % y) (by omega)) ?_; refine sX ?_; try refine aA ?_)) | (refine cR (ret_Word (x % y) (by omega)) ?_; refine sX ?_; try refine aA ?_) | refine gS ?_)
    (refine FinQ hQ (congrArg Array.toList Tryz.results47) _ _ ?_); simp (disch := omega) only [u, i64, ax, if_true, forall_const, reduceCtorEq, implies_true, tvs, bf]
  obtain ⟨n, hn⟩ : ∃ n, (words y).length = n + 2 := ⟨(words y).length - 2, by omega⟩
  obtain ⟨s, hs⟩ : ∃ s, s = 64 - bl ((words y).getD (n + 1) 0) := ⟨_, rfl⟩
  obtain ⟨hvl, htop, hs64⟩ := norm_top hn hs
  have hlen := length_mono (show y ≤ x by omega)
  have hps := Nat.two_pow_pos s
  have hx0 : x ≠ 0 := by omega
  have hV0 : 0 < y * 2 ^ s := Nat.mul_pos (Nat.pos_of_ne_zero hne) hps
  have hyt := hWy.getD (n + 1)
  -- the row: x shifted, with zeros above
  have hxl : x * 2 ^ s < 18446744073709551616 ^ ((words x).length + 1) := by
    rw [Nat.pow_succ]
    have h1 := lt_pow_of_length (Nat.le_refl (words x).length)
    have h2 : 2 ^ s ≤ 18446744073709551616 := by rw [show 18446744073709551616 = 2 ^ 64 by decide]; exact Nat.pow_le_pow_right (by decide) (by omega)
    exact Nat.lt_of_lt_of_le ((Nat.mul_lt_mul_right hps).2 h1) (Nat.mul_le_mul_left _ h2)
  have hxl2 := length_le hxl
  have hxl1 := length_mono (show x ≤ x * 2 ^ s from Nat.le_mul_of_pos_right x hps)
  have hdiv : x * 2 ^ s / (y * 2 ^ s) = x / y := Nat.mul_div_mul_right _ _ hps
  have hmod : x * 2 ^ s % (y * 2 ^ s) = x % y * 2 ^ s := Nat.mul_mod_mul_right _ _ _
  have hF := retF_Shl (words x) s (by rw [hvx]; exact hx0) hWx (by omega) (by omega)
  rw [hvx] at hF
  have hsub : (words y).length - 1 = n + 1 := by omega
  (refine gO ?_)
  (refine gC ?_)
  rw [hsub]
  (refine callK_mem (ret_LeadingZeros64 ((words y).getD (n + 1) 0) hyt) rfl (by (simp (disch := omega) only [if_true, forall_const, reduceCtorEq, implies_true, bz]) <;> rfl) ?_; refine sX ?_; try refine aA ?_)
  rw [← hs]
  (refine gO ?_)
  (refine gC ?_)
  (refine cR (ret_Shl (words y) s hWy (by omega) (by omega)) ?_; refine sX ?_; try refine aA ?_)
  rw [hvy]
  (refine gO ?_)
  ((first | refine G_sregL 2 mixed (by first | rfl | kernel_rfl) rfl rfl ?_ | refine G_regL 2 mixed (by first | rfl | kernel_rfl) rfl rfl ?_); simp (disch := omega) only [u, i64, ax, eq_self, if_true, if_false, Nat.reduceAdd, Int.reduceToNat, Int.reduceAdd, tvs, bs, tk_0, tk_S]; refine aft_any ?_)
  (refine LStep_fresh rfl (by rfl) (by refine sX ?_; (simp (disch := omega) only [if_true, forall_const, reduceCtorEq, implies_true, bz]) <;> rfl) (us_noMem _) hF ?_; simp (disch := omega) only [u, i64, ax, eq_self, if_true, if_false, Nat.reduceAdd, Int.reduceToNat, Int.reduceAdd, tvs, bs, mp_0, mp_S, ap_0, ap_S, tk_0, tk_S, us_length]; try refine aA ?_)
  (refine gO ?_)
  have hWV := Wd_words (y * 2 ^ s)
  have hvV := val_words (y * 2 ^ s)
  have hVlow : 9223372036854775808 * 18446744073709551616 ^ (n + 1) ≤ y * 2 ^ s := by
    have et := val_take_getD (words (y * 2 ^ s)) (n + 1)
    rw [List.take_of_length_le (by omega), hvV] at et
    have := Nat.mul_le_mul_left (18446744073709551616 ^ (n + 1)) htop
    rw [Nat.mul_comm]
    omega
  have hxB : x * 2 ^ s < 18446744073709551616 ^ (words x).length * 9223372036854775808 := by
    have h1 := lt_pow_of_length (Nat.le_refl (words x).length)
    have h2 : 2 ^ s ≤ 9223372036854775808 := by rw [show 9223372036854775808 = 2 ^ 63 by decide]; exact Nat.pow_le_pow_right (by decide) (by omega)
    exact Nat.lt_of_lt_of_le ((Nat.mul_lt_mul_right hps).2 h1) (Nat.mul_le_mul_left _ h2)
  have hVlow2 : 9223372036854775808 * 18446744073709551616 ^ ((words (y * 2 ^ s)).length - 1) ≤ y * 2 ^ s := by rw [hvl]; exact hVlow
  refine AWp_loop (fun i : Nat × List Nat × List Nat => mk 127 [(8, i64 s), (9, nat (y * 2 ^ s)), (10, .own 0 1 0 ((words x).length + 1) 1), (11, i64 (words (y * 2 ^ s)).length), (12, .own 1 0 0 ((words x).length + 1 - (words (y * 2 ^ s)).length) 1), (13, i64 ((i.1 : Int) - 1))] [⟨1, true, us i.2.1⟩, ⟨0, true, us i.2.2⟩])
    (fun i => i.1 ≤ (words x).length + 1 - (words (y * 2 ^ s)).length ∧ i.2.1.length = (words (x * 2 ^ s)).length + 2 ∧ Wd i.2.1 ∧ i.2.2.length = (words x).length + 1 - (words (y * 2 ^ s)).length ∧ Wd i.2.2 ∧ val (i.2.1.drop i.1) < y * 2 ^ s ∧ val i.2.1 + y * 2 ^ s * (18446744073709551616 ^ i.1 * val (i.2.2.drop i.1)) = x * 2 ^ s)
    (fun i => i.1) ((words x).length + 1 - (words (y * 2 ^ s)).length, words (x * 2 ^ s) ++ [0, 0], List.replicate ((words x).length + 1 - (words (y * 2 ^ s)).length) 0) ?_ ⟨Nat.le_refl _, by simp, (Wd_words _).append (Wd_cons (by decide) (Wd_cons (by decide) Wd_nil)), by simp, Wd_replicate _ (by decide), ?_, ?_⟩ ?_
  · simp only [← us_append]
    simp only [u, i64, Nat.reduceSub, Nat.reduceAdd, bm]
    have hk1 : (((words x).length + 1 - (words (y * 2 ^ s)).length : Nat) : Int) - 1 = (((words x).length + 1 - (words (y * 2 ^ s)).length - 1 : Nat) : Int) := by omega
    rw [hk1]
    simp only [u, i64, Nat.reduceSub, Nat.reduceAdd, bm]
    all_goals exact ⟨trivial, trivial, rfl⟩
  · exact row_top (by omega) hxB (by omega) hVlow2
  · simp only
    rw [List.drop_of_length_le (by simp), val_append, val_words]
    simp [val]
  rintro ⟨k, U, os⟩ ⟨g1, g2, g3, g4, g5, g6, g7⟩
  simp only at g1 g2 g3 g4 g5 g6 g7
  simp only [u, i64, Nat.reduceSub, Nat.reduceAdd, bm]
  by_cases hk : 1 ≤ k
  · obtain ⟨j, rfl⟩ : ∃ j, k = j + 1 := ⟨k - 1, by omega⟩
    simp only [Int.natCast_add, Int.natCast_one, Int.add_sub_cancel]
    have hgk := guess_ok (U := U) (V := words (y * 2 ^ s)) (j := j) g3 hWV (by omega) (by omega) (by rw [hvl]; exact htop) (by rw [hvV]; exact g6)
    rw [hvV] at hgk
    have hjlen : j + ((words (y * 2 ^ s)).length + 1) ≤ U.length := by omega
    have hUlen : U.length ≤ 1099511627776 := by omega
    (refine gO ?_)
    (refine gC ?_)
    (refine cR (ret_guess (U.getD (j + (words (y * 2 ^ s)).length) 0) (U.getD (j + (words (y * 2 ^ s)).length - 1) 0) (U.getD (j + (words (y * 2 ^ s)).length - 2) 0) ((words (y * 2 ^ s)).getD ((words (y * 2 ^ s)).length - 1) 0) ((words (y * 2 ^ s)).getD ((words (y * 2 ^ s)).length - 2) 0) (g3.getD _) (g3.getD _) (g3.getD _) (hWV.getD _) (hWV.getD _) (by rw [hvl]; exact Nat.lt_of_lt_of_le (by decide) htop)) ?_; refine sX ?_; try refine aA ?_)
    have hqB := Nat.min_le_left 18446744073709551615 (((U.getD (j + (words (y * 2 ^ s)).length) 0 * 18446744073709551616 + U.getD (j + (words (y * 2 ^ s)).length - 1) 0) * 18446744073709551616 + U.getD (j + (words (y * 2 ^ s)).length - 2) 0) / ((words (y * 2 ^ s)).getD ((words (y * 2 ^ s)).length - 1) 0 * 18446744073709551616 + (words (y * 2 ^ s)).getD ((words (y * 2 ^ s)).length - 2) 0))
    obtain ⟨q, hq⟩ : ∃ q, min 18446744073709551615 (((U.getD (j + (words (y * 2 ^ s)).length) 0 * 18446744073709551616 + U.getD (j + (words (y * 2 ^ s)).length - 1) 0) * 18446744073709551616 + U.getD (j + (words (y * 2 ^ s)).length - 2) 0) / ((words (y * 2 ^ s)).getD ((words (y * 2 ^ s)).length - 1) 0 * 18446744073709551616 + (words (y * 2 ^ s)).getD ((words (y * 2 ^ s)).length - 2) 0)) = q := ⟨_, rfl⟩
    rw [hq] at hgk hqB
    rw [hq]
    have hqB2 : q < 18446744073709551616 := Nat.lt_of_le_of_lt hqB (by decide)
    have hQlt : val (U.drop j) / (y * 2 ^ s) < 18446744073709551616 := Nat.lt_of_le_of_lt hgk.1 hqB2
    have hq1B : q - 1 < 18446744073709551616 := Nat.lt_of_le_of_lt (Nat.sub_le _ _) hqB2
    have hjos : j < os.length := by omega
    obtain ⟨f1, f2, f3, f4, f5, f6, f7⟩ := lessR_facts (U := U) (V := words (y * 2 ^ s)) (j := j) (q := q) g3 hWV hjlen (by rw [hvV]; exact hV0) (by rw [hvV]; exact g6) (by rw [hvV]; exact hgk.1) (by rw [hvV]; exact hgk.2)
    have hM := ret_less U (words (y * 2 ^ s)) j q g3 hWV hqB2 hjlen hUlen (by rw [f1]; exact f2)
    rw [f1] at hM
    rw [hvV] at f2 f3 f6 f7 hM
    have hjl : j + (words (y * 2 ^ s)).length + 1 - j = (words (y * 2 ^ s)).length + 1 := by omega
    have hnext : val ((lessR U (words (y * 2 ^ s)) j q).drop j) < y * 2 ^ s := by rw [f6]; exact Nat.mod_lt _ hV0
    have hsum : val (lessR U (words (y * 2 ^ s)) j q) + y * 2 ^ s * (18446744073709551616 ^ j * val ((os.set j (val (U.drop j) / (y * 2 ^ s))).drop j)) = x * 2 ^ s := by
      rw [val_drop_set _ _ _ hjos, ← g7, ← f7, Nat.pow_succ, Nat.mul_add (18446744073709551616 ^ j), Nat.mul_add (y * 2 ^ s), Nat.mul_assoc (18446744073709551616 ^ j)]
      omega
    clear f1 f2 f6 f7 hgk hq
    (refine gO ?_)
    first | refine G_sregL 9 mixed (by first | rfl | kernel_rfl) rfl rfl ?_ | refine G_regL 9 mixed (by first | rfl | kernel_rfl) rfl rfl ?_
    simp (disch := omega) only [u, i64, ax, eq_self, if_true, if_false, Nat.reduceAdd, Int.reduceToNat, Int.reduceAdd, tvs, bs, tk_0, tk_S, hjl]
    refine aft_any ?_
    by_cases hc : val (U.drop j) < q * (y * 2 ^ s)
    · rw [decT hc] at hM
      rw [if_pos hc] at f3
      (refine LStep_mut rfl (by rfl) (by refine sX ?_; rfl) (by rfl) (by (simp (disch := omega) only [if_true, forall_const, reduceCtorEq, implies_true, bz]) <;> rfl) (us_pure _) (us_noMem _) rfl hM ?_; simp (disch := omega) only [u, i64, ax, eq_self, if_true, if_false, Nat.reduceAdd, Int.reduceToNat, Int.reduceAdd, tvs, bs, mp_0, mp_S, ap_0, ap_S, tk_0, tk_S, us_length]; try refine aA ?_)
      have hjl2 := hjl
      have hq1 : 1 ≤ q := by
        rcases Nat.eq_zero_or_pos q with h0 | h0
        · rw [h0, Nat.zero_mul] at hc; omega
        · exact h0
      (refine gO ?_)
      refine ⟨(j, lessR U (words (y * 2 ^ s)) j q, os.set j (q - 1)), ?_, ⟨by simp only; omega, by simp only; rw [f4, g2], f5, by simp only [List.length_set]; exact g4, g5.set _ hq1B, hnext, by simp only; rw [f3]; exact hsum⟩, by simp only; omega⟩
      simp only [u, i64, Nat.reduceSub, Nat.reduceAdd, bm]
    · rw [decF hc] at hM
      rw [if_neg hc] at f3
      rw [← f3] at hsum
      (refine LStep_mut rfl (by rfl) (by refine sX ?_; rfl) (by rfl) (by (simp (disch := omega) only [if_true, forall_const, reduceCtorEq, implies_true, bz]) <;> rfl) (us_pure _) (us_noMem _) rfl hM ?_; simp (disch := omega) only [u, i64, ax, eq_self, if_true, if_false, Nat.reduceAdd, Int.reduceToNat, Int.reduceAdd, tvs, bs, mp_0, mp_S, ap_0, ap_S, tk_0, tk_S, us_length]; try refine aA ?_)
      (refine gO ?_)
      refine ⟨(j, lessR U (words (y * 2 ^ s)) j q, os.set j q), ?_, ⟨by simp only; omega, by simp only; rw [f4, g2], f5, by simp only [List.length_set]; exact g4, g5.set _ hqB2, hnext, hsum⟩, by simp only; omega⟩
      simp only [u, i64, Nat.reduceSub, Nat.reduceAdd, bm]
  · have hk0 : k = 0 := by omega
    subst hk0
    simp only [List.drop_zero, Nat.pow_zero, Nat.one_mul] at g6 g7
    have hQ1 : val os = x / y := by
      rw [← hdiv, ← g7, Nat.add_mul_div_left _ _ hV0, Nat.div_eq_of_lt g6, Nat.zero_add]
    have hR1 : val U = x % y * 2 ^ s := by
      rw [← hmod, ← g7, Nat.add_mul_mod_self_left, Nat.mod_eq_of_lt g6]
    have hUt : val (U.take ((words x).length + 1)) = x % y * 2 ^ s := by
      rw [take_zero_rest g3, hR1]
      refine Nat.lt_of_lt_of_le g6 ?_
      have := lt_pow_of_length (Nat.le_refl (words (y * 2 ^ s)).length)
      exact Nat.le_trans (Nat.le_of_lt this) (Nat.pow_le_pow_right (by decide) (by omega))
    (refine gO ?_)
    refine G_cool0 ?_
    refine G_cool1 ?_
    (refine gC ?_)
    (refine cR (ret_Trim os g5 (by omega)) ?_; refine sX ?_; try refine aA ?_)
    rw [hQ1]
    refine callK_ret (ret_Trim (U.take ((words x).length + 1)) (g3.take _) (by rw [List.length_take]; omega)) (by rw [fzs_cons, fz_own, rget0, fzO_usT _ _ _ _ (by omega), fzs_nil, fzC_some]) ?_
    rw [hUt]
    simp (disch := omega) only [u, i64, ax, eq_self, if_true, if_false, Nat.reduceAdd, Int.reduceToNat, Int.reduceAdd, tvs, bs]
    try refine aft_any ?_
    (refine cR (ret_Shr (words (x % y * 2 ^ s)) s (Wd_words _) (by have := length_mono (show x % y * 2 ^ s ≤ x * 2 ^ s from Nat.mul_le_mul_right _ (Nat.mod_le _ _)); omega) (by omega)) ?_; refine sX ?_; try refine aA ?_)
    rw [val_words, Nat.mul_div_cancel _ hps]
    (refine gO ?_)
    (refine FinQ hQ (congrArg Array.toList Tryz.results47) _ _ ?_); simp (disch := omega) only [u, i64, ax, if_true, forall_const, reduceCtorEq, implies_true, tvs, bf]
end Go.Proofs
