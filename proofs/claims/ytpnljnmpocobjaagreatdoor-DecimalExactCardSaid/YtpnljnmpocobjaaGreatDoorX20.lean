/-
  Contracts of functions of the program, each proved by a walk.
-/
import Derived.Test.YtpnljnmpocobjaaGreatDoorX12
import Derived.Test.YtpnljnmpocobjaaGreatDoorX19
import Derived.Test.YtpnljnmpocobjaaGreatDoorX9
set_option maxRecDepth 100000
set_option linter.unusedVariables false
set_option linter.unusedSimpArgs false
namespace Go.Proofs
open Go.Ax
theorem scale_facts {b : Nat} (h0 : b ≠ 0) (hb : b < 4294967296) (e : Nat) (he : e ≤ 32 - bl b) :
    1 ≤ 2 ^ e ∧ 2 ^ e ≤ 2147483648 ∧ b * 2 ^ e < 4294967296 ∧ (b * 2 ^ e < 2147483648 ↔ e < 32 - bl b) := by
  obtain ⟨h1, h2, h3⟩ := bl_spec h0
  have hl := bl_le (n := b) (k := 32) hb
  have hp := Nat.two_pow_pos e
  have e1 : 2 ^ e ≤ 2 ^ 31 := Nat.pow_le_pow_right (by decide) (by omega)
  have e2 : b * 2 ^ e < 2 ^ (bl b + e) := by rw [Nat.pow_add]; exact (Nat.mul_lt_mul_right hp).2 h2
  have e3 : 2 ^ (bl b - 1 + e) ≤ b * 2 ^ e := by rw [Nat.pow_add]; exact Nat.mul_le_mul_right _ h1
  refine ⟨hp, e1, Nat.lt_of_lt_of_le e2 (show 2 ^ (bl b + e) ≤ 2 ^ 32 from Nat.pow_le_pow_right (by decide) (by omega)), fun h => ?_, fun h => ?_⟩
  · rcases Nat.lt_or_ge e (32 - bl b) with h' | h'
    · exact h'
    · have : 2 ^ 31 ≤ b * 2 ^ e := Nat.le_trans (Nat.pow_le_pow_right (by decide) (by omega)) e3
      omega
  · exact Nat.lt_of_lt_of_le e2 (show 2 ^ (bl b + e) ≤ 2 ^ 31 from Nat.pow_le_pow_right (by decide) (by omega))
theorem one_vb (x : Nat) : vb 4294967296 [x] = x := by simp [vb]
theorem top_last_ne {K : Nat} {xs : List Nat} (hx : Ds K xs) (h : 0 < top xs) : (xs.take (top xs)).getD (top xs - 1) 0 ≠ 0 ∧ 0 < (xs.take (top xs)).getD (top xs - 1) 0 := by
  have h1 := vb_top_ge (K := K) xs h
  have h2 := vb_take_getD (K := K) xs (top xs - 1)
  rw [show top xs - 1 + 1 = top xs by omega, vb_top] at h2
  have hl := top_le xs
  have h3 := vb_lt (hx.take (top xs - 1))
  rw [List.length_take, Nat.min_eq_left (by omega)] at h3
  have e : (xs.take (top xs)).getD (top xs - 1) 0 = xs.getD (top xs - 1) 0 := by
    simp [List.getD_eq_getElem?_getD, List.getElem?_take, show top xs - 1 < top xs by omega]
  rw [e]
  have : xs.getD (top xs - 1) 0 ≠ 0 := fun h0 => by rw [h0] at h2; omega
  omega
set_option maxRecDepth 100000 in
set_option maxHeartbeats 8000000 in
theorem ret_Divide_walk (a b B V X W r : List Nat) (S Y2 X2 bt vt : Nat) (hSh : Ret Tryz.prog GEs 239 [ws b] (ws B)) (hBl2 : 2 ≤ B.length) (hBlen : B.length ≤ 137438953472) (hbt : B.getD (B.length - 1) 0 = bt) (hbt0 : bt ≠ 0) (hbtB : bt < 4294967296)
    (hS : 2 ^ (32 - bl bt) = S) (hS1 : 1 ≤ S) (hS2 : S ≤ 2147483648) (hTa : RetF Tryz.prog GEs 216 [ws a, ws [S]] (us X)) (hTb : Ret Tryz.prog GEs 216 [ws B, ws [S]] (ws W)) (hShV : Ret Tryz.prog GEs 239 [ws W] (ws V))
    (hXl : X.length = a.length + 1) (hla : a.length ≤ 137438953472) (hXd : Ds 4294967296 X) (hXv : vb 4294967296 X = X2) (hVd : Ds 4294967296 V) (hVv : vb 4294967296 V = Y2) (hVpos : 0 < V.length) (hVlen : V.length ≤ 137438953473) (hvt : V.getD (V.length - 1) 0 = vt) (hvt0 : 0 < vt) (hVge : 4294967296 ^ (V.length - 1) ≤ Y2) (hY0 : 0 < Y2)
    (hr : (wfb 4294967296 (a.length + 2) (X2 % Y2)).take (top (wfb 4294967296 (a.length + 2) (X2 % Y2))) = r) (hrd : Ds 4294967296 r) (hrv : vb 4294967296 r = X2 % Y2) (hrl : r.length ≤ a.length + 2) :
    Ret Tryz.prog GEs 243 [ws a, ws b] (.tup [ws (wfb 4294967296 (a.length + 2 - V.length) (X2 / Y2)), ws (wfb 4294967296 r.length (X2 % Y2 / S))]) := by
  refine RetN_start Tryz.func243 (by kernel_rfl) rfl fun Q hQ hQ2 => ?_; rw [Tryz.ntmps243]; simp only [u, i64, Nat.reduceSub, Nat.reduceAdd, bm]
  repeat (first | (refine gC ?_; first | refine aA ?_ | (refine cR hSh ?_; refine sX ?_; try refine aA ?_)) | (refine cR hSh ?_; refine sX ?_; try refine aA ?_) | refine gS ?_)
  refine G_cutB (mk 163 [(0, ws a), (1, ws B), (6, u S)] []) ?_ ?_
  · simp only [u, i64, Nat.reduceSub, Nat.reduceAdd, bm]
    (refine gO ?_)
    ((first | refine G_sregL 3 mixed (by first | rfl | kernel_rfl) rfl rfl ?_ | refine G_regL 3 mixed (by first | rfl | kernel_rfl) rfl rfl ?_); simp (disch := omega) only [u, i64, ax, eq_self, if_true, if_false, Nat.reduceAdd, Int.reduceToNat, Int.reduceAdd, tvs, bs, tk_0, tk_S]; refine aft_any ?_)
    (refine LStep_fresh rfl (by rfl) (by refine sX ?_; (simp (disch := omega) only [if_true, forall_const, reduceCtorEq, implies_true, bz]) <;> rfl) (us_noMem _) hTa ?_; simp (disch := omega) only [u, i64, ax, eq_self, if_true, if_false, Nat.reduceAdd, Int.reduceToNat, Int.reduceAdd, tvs, bs, mp_0, mp_S, ap_0, ap_S, tk_0, tk_S, us_length]; try refine aA ?_)
    repeat (first | (refine gC ?_; first | refine aA ?_ | ((first | refine cR hTb ?_ | refine cR hShV ?_); refine sX ?_; try refine aA ?_)) | ((first | refine cR hTb ?_ | refine cR hShV ?_); refine sX ?_; try refine aA ?_) | refine gS ?_)
    generalize hD : (max (0 : Int) (((X.length + 1 : Nat) : Int) - (V.length : Int))).toNat = D
    obtain ⟨x0, hx0⟩ : ∃ z : Int, ((X.length + 1 : Nat) : Int) - (V.length : Int) - 1 = z := ⟨_, rfl⟩
    rw [hx0]
    have hD2 : D = a.length + 2 - V.length := by omega
    have hI0 : (x0 = (D : Int) - 1 ∨ (D = 0 ∧ x0 < 0)) ∧ D ≤ D ∧ (X ++ [0]).length = X.length + 1 ∧ Ds 4294967296 (X ++ [0]) ∧ (List.replicate D 0).length = D ∧ Ds 4294967296 (List.replicate D 0) ∧ vb 4294967296 ((X ++ [0]).drop D) < Y2 ∧
        vb 4294967296 (X ++ [0]) + Y2 * (4294967296 ^ D * vb 4294967296 ((List.replicate D 0).drop D)) = X2 := by
      refine ⟨by omega, Nat.le_refl _, by simp, Ds_snoc hXd (by decide), by simp, Ds_zeros (by decide) _, ?_, ?_⟩
      · rw [← hVv, hD2, ← show X.length + 1 - V.length = a.length + 2 - V.length by omega]
        exact row_top1 (by decide) hXd hVpos (by rw [hVv]; exact hVge)
      · rw [List.drop_of_length_le (by simp), vb_snoc, hXv]; simp [vb]
    refine AWp_loop (fun i : Nat × Int × List Nat × List Nat => mk 163 [(0, .own 0 1 0 (X.length + 1) 1), (1, ws V), (6, u S), (7, i64 V.length), (8, .own 1 0 0 D 1), (9, i64 i.2.1)] [⟨1, true, us i.2.2.1⟩, ⟨0, true, us i.2.2.2⟩])
      (fun i => (i.2.1 = (i.1 : Int) - 1 ∨ (i.1 = 0 ∧ i.2.1 < 0)) ∧ i.1 ≤ D ∧ i.2.2.1.length = X.length + 1 ∧ Ds 4294967296 i.2.2.1 ∧ i.2.2.2.length = D ∧ Ds 4294967296 i.2.2.2 ∧ vb 4294967296 (i.2.2.1.drop i.1) < Y2 ∧ vb 4294967296 i.2.2.1 + Y2 * (4294967296 ^ i.1 * vb 4294967296 (i.2.2.2.drop i.1)) = X2)
      (fun i => i.1) (D, x0, X ++ [0], List.replicate D 0) ?_ hI0 ?_
    · simp only [u, i64, Nat.reduceSub, Nat.reduceAdd, bm]
    clear hI0 hx0 x0 hTa hTb hShV hXd hXv hSh
    rintro ⟨k, z, U, qs⟩ ⟨g0, g1, g2, g3, g4, g5, g6, g7⟩
    simp only at g0 g1 g2 g3 g4 g5 g6 g7
    simp only [u, i64, Nat.reduceSub, Nat.reduceAdd, bm]
    by_cases hk : 1 ≤ k
    · obtain ⟨j, rfl⟩ : ∃ j, k = j + 1 := ⟨k - 1, by omega⟩
      have hz : z = (j : Int) := by omega
      subst hz
      have hV1 : V.length + 1 ≤ 1099511627775 := by omega
      have hV2 : V.length ≤ 549755813888 := by omega
      have hjD : j + 1 ≤ D := g1
      clear hr hrd hrv hrl hD hVge
      have hjl : j + (V.length + 1) ≤ U.length := by omega
      obtain ⟨hsm, hgu⟩ := guess1 (K := 4294967296) (U := U) (V := V) (j := j) (by decide) g3 hVd hVpos hjl (by rw [hVv]; exact g6) (by rw [hvt]; exact hvt0)
      rw [hVv] at hgu
      have hu1 := g3.getD (by decide) (j + V.length)
      have hu2 := g3.getD (by decide) (j + V.length - 1)
      have hvp : 0 < V.getD (V.length - 1) 0 := by rw [hvt]; exact hvt0
      obtain ⟨p1, p2, p3, p4⟩ := put_facts (K := 4294967296) (U := U) (j := j) (n := V.length + 1) (X := vb 4294967296 (U.drop j)) (V := Y2) (by decide) g3 hjl rfl hsm hY0
      obtain ⟨u1, hu1e⟩ : ∃ v, U.getD (j + V.length) 0 = v := ⟨_, rfl⟩
      obtain ⟨m, hm⟩ : ∃ m, V.length = m + 1 := ⟨V.length - 1, by omega⟩
      have hidx : j + V.length - 1 = j + m := by rw [hm]; rfl
      have hidx2 : V.length - 1 = m := by rw [hm]; rfl
      rw [hidx] at hu2 hgu
      obtain ⟨u2, hu2e⟩ : ∃ v, U.getD (j + m) 0 = v := ⟨_, rfl⟩
      rw [hu1e] at hu1 hgu
      rw [hu2e] at hu2 hgu
      rw [hvt] at hgu
      rw [hidx2] at hvt hvp
      have htopB : u1 * 4294967296 + u2 < 18446744073709551616 := by omega
      have hdB2 : (u1 * 4294967296 + u2) / vt < 18446744073709551616 := Nat.lt_of_le_of_lt (Nat.div_le_self _ _) htopB
      clear htopB
      (refine gT ?_)
      (refine gT ?_)
      (refine gT ?_)
      (refine gT ?_)
      (refine gT ?_)
      (refine gT ?_)
      refine G_sreg mixed (by first | rfl | kernel_rfl) ?_
      simp (disch := omega) only [u, i64, ax, eq_self, if_true, if_false, Nat.reduceAdd, Int.reduceToNat, Int.reduceAdd, tvs, bs, hu1e, hidx, hu2e]
      refine aft_any ?_
      refine G_sreg mixed (by first | rfl | kernel_rfl) ?_
      simp (disch := omega) only [u, i64, ax, eq_self, if_true, if_false, Nat.reduceAdd, Int.reduceToNat, Int.reduceAdd, tvs, bs, hidx2, hvt]
      refine aft_any ?_
      (refine gO ?_)
      have hVpt : ∀ g, g < 4294967296 → Ret Tryz.prog GEs 216 [ws V, ws [g]] (ws (wfb 4294967296 (V.length + 1) (Y2 * g))) := fun g hg => by
        have := ret_Times V [g] hVd (Ds_cons hg Ds_nil) hV2 (by simp)
        rw [one_vb, hVv] at this
        exact this
      have hsegl : ((U.drop j).take (V.length + 1)).length = V.length + 1 := by rw [List.length_take, List.length_drop]; omega
      have hsegd : Ds 4294967296 ((U.drop j).take (V.length + 1)) := (g3.drop j).take _
      have hsegv : vb 4294967296 ((U.drop j).take (V.length + 1)) = vb 4294967296 (U.drop j) := (vtake_zero_rest (by decide) hsm).1
      have hsegn : (U.drop j).take (V.length + 1) ≠ [] := fun h => by rw [h] at hsegl; simp at hsegl
      have hVlt := vb_lt hVd
      rw [hVv] at hVlt
      have hMin : ∀ g, g < 4294967296 → RetT Tryz.prog GEs 255 [ws ((U.drop j).take (V.length + 1)), ws (wfb 4294967296 (V.length + 1) (Y2 * g))] (us (mdiff 4294967296 (V.length + 1) (vb 4294967296 (U.drop j)) (Y2 * g))) [.bool (decide (vb 4294967296 (U.drop j) < Y2 * g))] := fun g hg => by
        have h1 : Y2 * g < 4294967296 ^ (V.length + 1) := by rw [Nat.pow_succ]; exact Nat.mul_lt_mul'' hVlt hg
        have := retT_Minus ((U.drop j).take (V.length + 1)) (wfb 4294967296 (V.length + 1) (Y2 * g)) hsegd (wfb_Ds (by decide) _ _) hsegn (by rw [hsegl]; exact hV1) (by rw [wfb_length]; exact hV1)
        have e : (wfb 4294967296 (V.length + 1) (Y2 * g)).take (V.length + 1) = wfb 4294967296 (V.length + 1) (Y2 * g) := List.take_of_length_le (by rw [wfb_length]; omega)
        rw [hsegl, e, vb_wfb (by decide) _ _ h1, hsegv] at this
        exact this
      obtain ⟨Z, hZ⟩ : ∃ v, vb 4294967296 (U.drop j) = v := ⟨_, rfl⟩
      rw [hZ] at hgu p1 p2 p3 p4 hsm
      simp only [hZ] at hMin
      have hZd := Nat.div_add_mod Z (Y2)
      have hZm := Nat.mod_lt Z hY0
      have hjq : j < qs.length := by omega
      have hQ1 : Z / (Y2) < 4294967296 := by
        have := Nat.le_trans hgu (Nat.min_le_right _ _)
        omega
      refine G_cutB (mk 163 [(0, .own 0 1 0 (X.length + 1) 1), (1, ws V), (6, u S), (7, i64 V.length), (8, .own 1 0 0 D 1), (9, i64 j), (11, u (Z / (Y2)))] [⟨1, true, us (put U (wfb 4294967296 (V.length + 1) (Z % (Y2))) j)⟩, ⟨0, true, us qs⟩]) ?_ ?_
      · have hs := vb_drop_set (K := 4294967296) qs j (Z / (Y2)) hjq
        have hsum : vb 4294967296 (put U (wfb 4294967296 (V.length + 1) (Z % (Y2))) j) + Y2 * (4294967296 ^ j * vb 4294967296 ((qs.set j (Z / (Y2))).drop j)) = X2 := by
          rw [hs, ← g7, ← p4, Nat.pow_succ, Nat.mul_add (4294967296 ^ j), Nat.mul_add (Y2), Nat.mul_assoc (4294967296 ^ j)]
          omega
        have hI1 : ((j : Int) - 1 = (j : Int) - 1 ∨ (j = 0 ∧ (j : Int) - 1 < 0)) ∧ j ≤ D ∧ (put U (wfb 4294967296 (V.length + 1) (Z % (Y2))) j).length = X.length + 1 ∧ Ds 4294967296 (put U (wfb 4294967296 (V.length + 1) (Z % (Y2))) j) ∧ (qs.set j (Z / (Y2))).length = D ∧ Ds 4294967296 (qs.set j (Z / (Y2))) ∧ vb 4294967296 ((put U (wfb 4294967296 (V.length + 1) (Z % (Y2))) j).drop j) < Y2 ∧
            vb 4294967296 (put U (wfb 4294967296 (V.length + 1) (Z % (Y2))) j) + Y2 * (4294967296 ^ j * vb 4294967296 ((qs.set j (Z / (Y2))).drop j)) = X2 :=
          ⟨.inl rfl, by omega, p1.trans g2, p2, by simpa using g4, g5.set _ hQ1, by rw [p3]; exact hZm, hsum⟩
        clear hsum hs p4 p3 g7
        simp only [u, i64, Nat.reduceSub, Nat.reduceAdd, bm]
        (refine gO ?_)
        refine ⟨(j, (j : Int) - 1, put U (wfb 4294967296 (V.length + 1) (Z % (Y2))) j, qs.set j (Z / (Y2))), ?_, hI1, by simp only; omega⟩
        simp only [u, i64, Nat.reduceSub, Nat.reduceAdd, bm]
      · have hjlen : j + (V.length + 1) - j = V.length + 1 := by omega
        have hjl3 : j + V.length + 1 - j = V.length + 1 := by omega
        refine AWp_loop (fun g : Nat => mk 163 [(0, .own 0 1 0 (X.length + 1) 1), (1, ws V), (6, u S), (7, i64 V.length), (8, .own 1 0 0 D 1), (9, i64 j), (11, u g)] [⟨1, true, us U⟩, ⟨0, true, us qs⟩])
          (fun g => Z / (Y2) ≤ g ∧ g < 4294967296) (fun g => g) (min ((u1 * 4294967296 + u2) / vt) 4294967295) ?_ ⟨hgu, Nat.lt_of_le_of_lt (Nat.min_le_right _ _) (by decide)⟩ ?_
        · simp only [u, i64, Nat.reduceSub, Nat.reduceAdd, bm]
        intro g hg
        have hP := hVpt g hg.2
        have hN := hMin g hg.2
        clear hVpt hMin p1 p2 p3 p4 hsegv hsegd hsegn hgu
        simp only [u, i64, Nat.reduceSub, Nat.reduceAdd, bm]
        repeat (first | (refine gC ?_; first | refine aA ?_ | (refine cR hP ?_; refine sX ?_; try refine aA ?_)) | (refine cR hP ?_; refine sX ?_; try refine aA ?_) | refine gS ?_)
        first | refine G_sregL 8 mixed (by first | rfl | kernel_rfl) rfl rfl ?_ | refine G_regL 8 mixed (by first | rfl | kernel_rfl) rfl rfl ?_
        simp (disch := omega) only [u, i64, ax, eq_self, if_true, if_false, Nat.reduceAdd, Int.reduceToNat, Int.reduceAdd, tvs, bs, tk_0, tk_S, hjl3]
        refine aft_any ?_
        by_cases hc : Z < Y2 * g
        · rw [decT hc] at hN
          have hlt : Z / (Y2) < g := (Nat.div_lt_iff_lt_mul hY0).2 (by rw [Nat.mul_comm]; exact hc)
          have hg1 : 1 ≤ g := Nat.lt_of_le_of_lt (Nat.zero_le _) hlt
          have hgB := hg.2
          clear hZd hZm hsm hQ1 hc
          refine LStep_freshL rfl (by rfl) (by simp (disch := omega) only [u, i64, ax, eq_self, if_true, if_false, Nat.reduceAdd, Int.reduceToNat, Int.reduceAdd, tvs, bs]; (simp (disch := omega) only [if_true, forall_const, reduceCtorEq, implies_true, bz]); rw [fzO_usO _ _ _ _ _ hjl]; rfl) (us_noMem _) rfl hN ?_
          simp (disch := omega) only [u, i64, ax, eq_self, if_true, if_false, Nat.reduceAdd, Int.reduceToNat, Int.reduceAdd, tvs, bs, mp_0, mp_S, ap_0, ap_S, tk_0, tk_S, us_length]
          try refine aft_any ?_
          (refine gO ?_)
          refine ⟨g - 1, ?_, ⟨Nat.le_sub_one_of_lt hlt, Nat.lt_of_le_of_lt (Nat.sub_le _ _) hg.2⟩, Nat.sub_lt hg1 (by decide)⟩
          simp only [u, i64, Nat.reduceSub, Nat.reduceAdd, bm]
        · rw [decF hc] at hN
          have hgQ : g = Z / (Y2) := Nat.le_antisymm ((Nat.le_div_iff_mul_le hY0).2 (by rw [Nat.mul_comm]; omega)) hg.1
          have hR : mdiff 4294967296 (V.length + 1) Z (Y2 * g) = wfb 4294967296 (V.length + 1) (Z % (Y2)) := by
            unfold mdiff
            rw [if_pos (by omega), hgQ, show Z - Y2 * (Z / (Y2)) = Z % (Y2) by omega]
          rw [hR] at hN
          obtain ⟨R, hRd⟩ : ∃ R, wfb 4294967296 (V.length + 1) (Z % (Y2)) = R := ⟨_, rfl⟩
          have hRl : R.length = V.length + 1 := by rw [← hRd, wfb_length]
          rw [hRd] at hN
          rw [hRd, ← hgQ]
          refine LStep_freshL rfl (by rfl) (by simp (disch := omega) only [u, i64, ax, eq_self, if_true, if_false, Nat.reduceAdd, Int.reduceToNat, Int.reduceAdd, tvs, bs]; (simp (disch := omega) only [if_true, forall_const, reduceCtorEq, implies_true, bz]); rw [fzO_usO _ _ _ _ _ hjl]; rfl) (us_noMem _) rfl hN ?_
          simp (disch := omega) only [u, i64, ax, eq_self, if_true, if_false, Nat.reduceAdd, Int.reduceToNat, Int.reduceAdd, tvs, bs, mp_0, mp_S, ap_0, ap_S, tk_0, tk_S, us_length]
          try refine aft_any ?_
          clear hN hP hR hc hZd hZm hQ1 hsm hgQ hRd
          (refine gO ?_)
          refine AWp_loop (fun k : Nat => mk 163 [(0, .own 0 1 0 (X.length + 1) 1), (1, ws V), (6, u S), (7, i64 V.length), (8, .own 1 0 0 D 1), (9, i64 j), (11, u g), (13, ws R), (15, i64 k)] [⟨1, true, us (U.take j ++ (R.take k ++ U.drop (j + k)))⟩, ⟨0, true, us qs⟩])
            (fun k => k ≤ V.length + 1) (fun k => V.length + 1 - k) 0 ?_ (Nat.zero_le _) ?_
          · simp only [List.take_zero, Nat.add_zero, List.nil_append, List.take_append_drop]
            simp only [u, i64, Nat.reduceSub, Nat.reduceAdd, bm]
          intro k hk
          have hpl : (U.take j ++ (R.take k ++ U.drop (j + k))).length = X.length + 1 := by
            rw [List.length_append, List.length_append, List.length_take, List.length_take, List.length_drop]; omega
          simp only [u, i64, Nat.reduceSub, Nat.reduceAdd, bm]
          by_cases hkn : k ≤ V.length
          · have hst := put_step U R j k (by omega) (by omega)
            generalize U.take j ++ (R.take k ++ U.drop (j + k)) = P at *
            (refine gO ?_)
            refine ⟨k + 1, ?_, by omega, by omega⟩
            rw [← hst]
            simp only [u, i64, Nat.reduceSub, Nat.reduceAdd, bm]
          · have hk1 : k = R.length := by omega
            have hput : U.take j ++ (R.take k ++ U.drop (j + k)) = put U R j := by unfold put; rw [hk1, List.take_length]
            rw [hput]
            (refine gO ?_)
            refine ⟨rfl, ?_⟩
            simp only [u, i64, Nat.reduceSub, Nat.reduceAdd, bm]
    · have hk0 : k = 0 := by omega
      have hz : z < 0 := by omega
      subst hk0
      simp only [List.drop_zero, Nat.pow_zero, Nat.one_mul] at g6 g7
      have hQ1 : vb 4294967296 qs = X2 / Y2 := by
        rw [← g7, Nat.add_mul_div_left _ _ hY0, Nat.div_eq_of_lt g6, Nat.zero_add]
      have hR1 : vb 4294967296 U = X2 % Y2 := by
        rw [← g7, Nat.add_mul_mod_self_left, Nat.mod_eq_of_lt g6]
      have hqe := wfb_of (by decide) g5 (g4.trans hD2) hQ1
      have hUe := wfb_of (by decide) g3 (g2.trans (by rw [hXl])) hR1
      rw [← hqe] at hQ
      have hShU := ret_Short U (by omega)
      have hre : U.take (top U) = r := by rw [hUe, hr]
      rw [hre] at hShU
      clear hre hUe hqe hQ1 hR1 g6 g7 g0 hr hVge hVv hD2
      (refine gO ?_)
      refine G_cool0 ?_
      repeat (first | (refine gC ?_; first | refine aA ?_ | (refine cR hShU ?_; refine sX ?_; try refine aA ?_)) | (refine cR hShU ?_; refine sX ?_; try refine aA ?_) | refine gS ?_)
      refine AWp_loop (fun i : Nat × List Nat × Nat => mk 163 [(6, u S), (8, .own 1 0 0 D 1), (16, ws r), (17, .own 2 0 0 r.length 1), (18, u i.2.2), (19, i64 ((i.1 : Int) - 1))] [⟨1, false, us U⟩, ⟨0, true, us qs⟩, ⟨0, true, us i.2.1⟩])
        (fun i => i.1 ≤ r.length ∧ i.2.1.length = r.length ∧ Ds 4294967296 i.2.1 ∧ vb 4294967296 (i.2.1.drop i.1) = vb 4294967296 (r.drop i.1) / S ∧ i.2.2 = vb 4294967296 (r.drop i.1) % S) (fun i => i.1) (r.length, List.replicate r.length 0, 0) ?_ ⟨Nat.le_refl _, by simp, Ds_zeros (by decide) _, by simp [vb], by simp [vb]⟩ ?_
      · simp only [u, i64, Nat.reduceSub, Nat.reduceAdd, bm]
      rintro ⟨n, os, rr⟩ ⟨e1, e2, e3, e4, e5⟩
      simp only at e1 e2 e3 e4 e5
      simp only [u, i64, Nat.reduceSub, Nat.reduceAdd, bm]
      by_cases hn : 1 ≤ n
      · obtain ⟨m, rfl⟩ : ∃ m, n = m + 1 := ⟨n - 1, by omega⟩
        have ha := hrd.getD (by decide) m
        have hrr : rr < S := by rw [e5]; exact Nat.mod_lt _ hS1
        have hst := ddiv_step (K := 4294967296) (a := r.getD m 0) hS1 e4 e5
        have hq := ddiv_lt hrr ha
        have hv := vb_drop_one (K := 4294967296) r m (by omega)
        rw [← hv] at hst
        have hs := vb_drop_set (K := 4294967296) os m ((rr * 4294967296 + r.getD m 0) / S) (by omega)
        rw [hst.1] at hs
        have hqB : (rr * 4294967296 + r.getD m 0) / S < 18446744073709551616 := by omega
        have hI : m ≤ r.length ∧ (os.set m ((rr * 4294967296 + r.getD m 0) / S)).length = r.length ∧ Ds 4294967296 (os.set m ((rr * 4294967296 + r.getD m 0) / S)) ∧ vb 4294967296 ((os.set m ((rr * 4294967296 + r.getD m 0) / S)).drop m) = vb 4294967296 (r.drop m) / S ∧ (rr * 4294967296 + r.getD m 0) % S = vb 4294967296 (r.drop m) % S := ⟨by omega, by simpa using e2, e3.set m hq, hs, hst.2⟩
        clear hst hs hv e4 e5
        simp only [Int.natCast_add, Int.natCast_one, Int.add_sub_cancel]
        (refine gO ?_)
        refine ⟨(m, os.set m ((rr * 4294967296 + r.getD m 0) / S), (rr * 4294967296 + r.getD m 0) % S), ?_, hI, by simp only; omega⟩
        simp only [u, i64, Nat.reduceSub, Nat.reduceAdd, bm]
      · have hn0 : n = 0 := by omega
        subst hn0
        simp only [List.drop_zero] at e4
        rw [hrv] at e4
        rw [← wfb_of (by decide) e3 e2 e4] at hQ
        (refine gO ?_)
        (refine FinQ hQ (congrArg Array.toList Tryz.results243) _ _ ?_); simp (disch := omega) only [u, i64, ax, if_true, forall_const, reduceCtorEq, implies_true, tvs, bf]
  · refine AWp_loop (fun e : Nat => mk 163 [(0, ws a), (1, ws B), (6, u (2 ^ e))] []) (fun e => e ≤ 32 - bl bt) (fun e => 32 - bl bt - e) 0 ?_ (Nat.zero_le _) ?_
    · simp only [Nat.pow_zero]
      simp only [u, i64, Nat.reduceSub, Nat.reduceAdd, bm]
    intro e he
    obtain ⟨f1, f2, f3, f4⟩ := scale_facts hbt0 hbtB e he
    simp only [u, i64, Nat.reduceSub, Nat.reduceAdd, bm]
    have f3 : B.getD (B.length - 1) 0 * 2 ^ e < 4294967296 := by rw [hbt]; exact f3
    have f4 : B.getD (B.length - 1) 0 * 2 ^ e < 2147483648 ↔ e < 32 - bl bt := by rw [hbt]; exact f4
    by_cases hc : B.getD (B.length - 1) 0 * 2 ^ e < 2147483648
    · have he2 := f4.1 hc
      (refine gO ?_)
      refine ⟨e + 1, ?_, by omega, by omega⟩
      rw [show 2 ^ (e + 1) = 2 * 2 ^ e by rw [Nat.pow_succ, Nat.mul_comm]]
      simp only [u, i64, Nat.reduceSub, Nat.reduceAdd, bm]
    · have he2 : e = 32 - bl bt := by
        rcases Nat.lt_or_ge e (32 - bl bt) with h | h
        · exact absurd (f4.2 h) hc
        · omega
      subst he2
      (refine gO ?_)
      refine ⟨rfl, ?_⟩
      rw [hS]
      simp only [u, i64, Nat.reduceSub, Nat.reduceAdd, bm]
end Go.Proofs
