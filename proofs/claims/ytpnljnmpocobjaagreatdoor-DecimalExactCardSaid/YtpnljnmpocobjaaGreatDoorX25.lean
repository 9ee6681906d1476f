/-
  Contracts of functions of the program, each proved by a walk.
-/
import Derived.Test.YtpnljnmpocobjaaGreatDoorX23
import Derived.Test.YtpnljnmpocobjaaGreatDoorX24
import Derived.Test.YtpnljnmpocobjaaGreatDoorX9
set_option maxRecDepth 100000
set_option linter.unusedVariables false
set_option linter.unusedSimpArgs false
set_option maxRecDepth 100000
set_option maxHeartbeats 1000000
namespace Go.Proofs
open Go.Ax
theorem stQ_len (m : Nat) (a : Int) (hl : (words m).length ≤ 2000) (ha : a ≤ 100000) : (words (stQ m a / 2)).length ≤ 100000 := by
  have h2 : (words 2).length ≤ 1 := length_le (by decide)
  have h3 := length_mul 2 m
  refine Nat.le_trans (length_mono (Nat.div_le_self _ 2)) ?_
  unfold stQ
  split
  · have h4 := length_mul (2 * m) (10 ^ a.toNat)
    have h5 := ten_len (k := a.toNat) (by omega)
    omega
  · split
    · exact Nat.le_trans (length_mono (Nat.zero_le m)) (by omega)
    · exact Nat.le_trans (length_mono (Nat.div_le_self (2 * m) _)) (by omega)
theorem small_len {n p : Nat} (hp : p ≤ 401) (h : dg n ≤ p) : (words n).length ≤ 40 := by
  have hb := bl_le_dg n
  exact Nat.le_trans (length_bl (k := 26) (by omega)) (by decide)
set_option maxHeartbeats 16000000 in
theorem ret_Finish22 (p : Nat) (g : Int) (r : Nat) (hp : 1 ≤ p ∧ p ≤ 400) (hg : 1 ≤ g ∧ g ≤ 6000) (hr : r ≤ 4) (neg : Bool) (m : Nat) (e ideal : Int) (hm : m ≠ 0) (hl : (words m).length ≤ 2000) (he : -3000000 ≤ e ∧ e ≤ 3000000) (hi : -3000000 ≤ ideal ∧ ideal ≤ 3000000) :
    Ret Tryz.prog GEs 141 [cx p g r, rl22 neg m e, i64 ideal] (.tup [dv (finD p g r neg m e ideal).1, i64 (finD p g r neg m e ideal).2]) := by
  have hL := ret_Log22 neg m e hm hl he
  have hbn := bl_len m
  have hdb := dg_le_bl m
  have hd1 := (dg_spec m hm).2.2
  have hT := ret_Tiny22 p g r (by omega) hg
  have hB := ret_beyond22 p g r hp hg hr neg
  by_cases h1 : g < e + dg m - 1
  · rw [finD_over p g r neg m e ideal h1]
    generalize overD p g r neg = y at *
    generalize dg m = D at *
    unfold dv cx rl22 at *
    refine RetN_start Tryz.func141 (by kernel_rfl) rfl fun Q hQ hQ2 => ?_; rw [Tryz.ntmps141]; simp only [u, i64, Nat.reduceSub, Nat.reduceAdd, bm]
    repeat (first | (refine gC ?_; first | refine aA ?_ | ((first | refine cR hL ?_ | refine cR hB ?_); refine sX ?_; try refine aA ?_)) | ((first | refine cR hL ?_ | refine cR hB ?_); refine sX ?_; try refine aA ?_) | refine gS ?_)
    (refine FinQ hQ (congrArg Array.toList Tryz.results141) _ _ ?_); simp (disch := omega) only [u, i64, ax, if_true, forall_const, reduceCtorEq, implies_true, tvs, bf]
    all_goals rfl
  · have hs1 : stpD p g (e + dg m - 1) = max (e + dg m - 1 - p + 1) (1 - g - ((p : Int) - 1)) := rfl
    have hst := hs1
    generalize hs : stpD p g (e + dg m - 1) = s at *
    rw [show ((p : Int) - 1) = ((p - 1 : Nat) : Int) by omega] at hs1
    have hSt := ret_Steps22 neg m e s hm hl he (by omega) (by omega)
    have hRd := ret_Rounded r hr neg (stQ m (e - s) / 2) (decide (stQ m (e - s) % 2 = 1)) (stR m (e - s)) (Nat.le_trans (stQ_len m (e - s) hl (by omega)) (by decide))
    by_cases h2 : s ≤ e + st m
    · obtain ⟨x1, x2⟩ := ref_exact r hr neg m e s hm h2
      rw [x1, x2] at hRd
      have h2' : stpD p g (e + dg m - 1) ≤ e + st m := by rw [hs]; exact h2
      rw [finD_exact p g r neg m e ideal h1 h2']
      obtain ⟨m1, m2⟩ := sm_mul hm
      have hds := dg_sm hm
      have hE : exE p g m e ideal = min (e + st m) (max ideal s) := by unfold exE; rw [hs]
      have hN : exN p g m e ideal = sm m * 10 ^ (e + st m - exE p g m e ideal).toNat := rfl
      rw [hN]
      generalize exE p g m e ideal = E at *
      have hM : ∀ j : Nat, j ≤ (e + st m - s).toNat → (words (sm m * 10 ^ j)).length ≤ 40 := fun j hj => by
        refine small_len (p := p) (by omega) ?_
        rw [dg_mul _ _ (sm_ne hm)]
        omega
      generalize stQ m (e - s) = Q1 at *
      generalize stR m (e - s) = R1 at *
      generalize hsm : sm m = M at *
      have hF10 := ret_rFromWord 10 (by decide)
      have hwl : (words 10).length ≤ 1 := length_le (by decide)
      have hDv : ∀ n : Nat, (words n).length ≤ 40 → Ret Tryz.prog GEs 209 [nat n, nat 10] (.tup [nat (n / 10), nat (n % 10)]) := fun n hn => by
        have := ret_rDivMod (words n) (words 10) (Wd_words _) (Wd_words _) (by rw [val_words]; decide) (by omega) (by omega)
        rwa [val_words, val_words] at this
      have hZr : ∀ n : Nat, (words n).length ≤ 40 → Ret Tryz.prog GEs 39 [nat n] (.bool (decide (n = 0))) := fun n hn => by
        have := ret_rIsZero (words n) (Wd_words _) (by omega)
        rwa [val_words] at this
      generalize ht : e + (st m : Int) = t at *
      obtain ⟨w, hw⟩ : ∃ w : Nat, (t - s).toNat = w := ⟨_, rfl⟩
      rw [hw] at hM hRd
      have hcl := fun j => ten_step M j m2
      clear hN hB hds x1 x2 m1 hst
      unfold dv cx rl22 at *
      simp only
      generalize dg m = D at *
      refine RetN_start Tryz.func141 (by kernel_rfl) rfl fun Q hQ hQ2 => ?_; rw [Tryz.ntmps141]; simp only [u, i64, Nat.reduceSub, Nat.reduceAdd, bm]
      repeat (first | (refine gC ?_; first | refine aA ?_ | ((first | refine cR hL ?_ | refine cR hT ?_); refine sX ?_; try refine aA ?_)) | ((first | refine cR hL ?_ | refine cR hT ?_); refine sX ?_; try refine aA ?_) | refine gS ?_)
      rw [← hs1]
      repeat (first | (refine gC ?_; first | refine aA ?_ | ((first | refine cR hSt ?_ | refine cR hRd ?_); refine sX ?_; try refine aA ?_)) | ((first | refine cR hSt ?_ | refine cR hRd ?_); refine sX ?_; try refine aA ?_) | refine gS ?_)
      refine AWp_loop (fun j : Nat => mk 115 [(2, i64 ideal), (3, .ptr 0 0 0), (4, .ptr 1 0 0), (6, .ptr 2 0 0), (9, i64 (s + j)), (10, nat (M * 10 ^ (w - j)))] [⟨0, true, [i64 p, i64 g, i64 r]⟩, ⟨0, true, [.bool neg, nat m, nat 1, i64 e, i64 1]⟩, ⟨0, true, [i64 0, .bool false, .emp, i64 0]⟩]) (fun j => j ≤ w ∧ s + j ≤ max ideal s) (fun j => w - j) 0 ?_ ⟨Nat.zero_le _, by omega⟩ ?_
      · rw [Nat.sub_zero, Int.natCast_zero, Int.add_zero]
        simp only [u, i64, Nat.reduceSub, Nat.reduceAdd, bm]
      intro j hj
      simp only [u, i64, Nat.reduceSub, Nat.reduceAdd, bm]
      have hnl := hM (w - j) (by omega)
      have hD1 := hDv _ hnl
      have hZ1 := hZr (M * 10 ^ (w - j) % 10) (Nat.le_trans (length_mono (Nat.mod_le _ 10)) hnl)
      obtain ⟨s1, s2⟩ := hcl (w - j)
      clear hcl hDv hZr hM
      by_cases c1 : s + j < ideal
      · by_cases c2 : j < w
        · rw [s1.2 (by omega)] at hD1 hZ1
          rw [s2 (by omega), show w - j - 1 = w - (j + 1) by omega] at hD1
          rw [decT rfl] at hZ1
          generalize M * 10 ^ (w - j) = n at *
          generalize hn' : M * 10 ^ (w - (j + 1)) = n' at *
          clear s1 s2
          repeat (first | (refine gC ?_; first | refine aA ?_ | ((first | refine cR hF10 ?_ | refine cR hD1 ?_ | refine cR hZ1 ?_); refine sX ?_; try refine aA ?_)) | ((first | refine cR hF10 ?_ | refine cR hD1 ?_ | refine cR hZ1 ?_); refine sX ?_; try refine aA ?_) | refine gS ?_)
          refine ⟨j + 1, ?_, ⟨by omega, by omega⟩, by omega⟩
          rw [show ((j + 1 : Nat) : Int) = (j : Int) + 1 from rfl, ← Int.add_assoc, hn']
          simp only [u, i64, Nat.reduceSub, Nat.reduceAdd, bm]
        · have hjw : j = w := by omega
          subst hjw
          have z0 : ¬ M * 10 ^ (j - j) % 10 = 0 := fun h => by have := s1.1 h; omega
          rw [decF z0] at hZ1
          have hEs : E = s + j := by omega
          rw [show (t - E).toNat = j - j by omega, hEs] at hQ
          generalize M * 10 ^ (j - j) = n at *
          clear s1 s2 z0
          repeat (first | (refine gC ?_; first | refine aA ?_ | ((first | refine cR hF10 ?_ | refine cR hD1 ?_ | refine cR hZ1 ?_); refine sX ?_; try refine aA ?_)) | ((first | refine cR hF10 ?_ | refine cR hD1 ?_ | refine cR hZ1 ?_); refine sX ?_; try refine aA ?_) | refine gS ?_)
          (refine FinQ hQ (congrArg Array.toList Tryz.results141) _ _ ?_); simp (disch := omega) only [u, i64, ax, if_true, forall_const, reduceCtorEq, implies_true, tvs, bf]
          all_goals rfl
      · have hEs : E = s + j := by omega
        rw [show (t - E).toNat = w - j by omega, hEs] at hQ
        generalize M * 10 ^ (w - j) = n at *
        clear s1 s2 hD1 hZ1
        (refine gO ?_)
        (refine FinQ hQ (congrArg Array.toList Tryz.results141) _ _ ?_); simp (disch := omega) only [u, i64, ax, if_true, forall_const, reduceCtorEq, implies_true, tvs, bf]
        all_goals rfl
    · obtain ⟨x1, x2⟩ := ref_ine r hr neg m e s hm h2
      rw [x1, x2] at hRd
      have h2' : ¬ stpD p g (e + dg m - 1) ≤ e + st m := by rw [hs]; exact h2
      rw [finD_ine p g r neg m e ideal h1 h2', hs]
      have hNle := quoD_le p g r neg m e s hs.symm (by omega)
      have hLs := ret_Least22 p g r hg
      clear x1 x2 h2' hst
      generalize quoN r neg m (10 ^ (s - e).toNat) = N at *
      have hdN : dg N ≤ p + 1 := by
        have := dg_le (n := N) (k := p + 1) (Nat.lt_of_le_of_lt hNle (Nat.pow_lt_pow_right (by decide) (by omega)))
        exact this
      have hNl := small_len (n := N) (p := 401) (by decide) (by omega)
      have hZN := ret_rIsZero (words N) (Wd_words _) (by omega)
      rw [val_words] at hZN
      have hTp := ret_rTen (p - 1) (by omega)
      have hp1 : ((p : Int) - 1) = ((p - 1 : Nat) : Int) := by omega
      generalize stQ m (e - s) = Q1 at *
      generalize stR m (e - s) = R1 at *
      unfold ineD
      by_cases b1 : N = 0
      · rw [decT b1] at hZN
        subst b1
        rw [if_neg (show ¬ 0 = 10 ^ p by have := ten_pos p; omega), if_neg (fun h => h.1 rfl)]
        clear hTp hB
        by_cases ha : e + dg m - 1 < 1 - g
        · rw [if_pos ha]
          unfold dv cx rl22 at *
          simp only
          generalize dg m = D at *
          refine RetN_start Tryz.func141 (by kernel_rfl) rfl fun Q hQ hQ2 => ?_; rw [Tryz.ntmps141]; simp only [u, i64, Nat.reduceSub, Nat.reduceAdd, bm]
          repeat (first | (refine gC ?_; first | refine aA ?_ | ((first | refine cR hL ?_ | refine cR hT ?_); refine sX ?_; try refine aA ?_)) | ((first | refine cR hL ?_ | refine cR hT ?_); refine sX ?_; try refine aA ?_) | refine gS ?_)
          rw [← hs1]
          repeat (first | (refine gC ?_; first | refine aA ?_ | ((first | refine cR hSt ?_ | refine cR hRd ?_ | refine cR hLs ?_ | refine cR hZN ?_); refine sX ?_; try refine aA ?_)) | ((first | refine cR hSt ?_ | refine cR hRd ?_ | refine cR hLs ?_ | refine cR hZN ?_); refine sX ?_; try refine aA ?_) | refine gS ?_)
          (refine FinQ hQ (congrArg Array.toList Tryz.results141) _ _ ?_); simp (disch := omega) only [u, i64, ax, if_true, forall_const, reduceCtorEq, implies_true, tvs, bf]
          all_goals rfl
        · rw [if_neg ha]
          unfold dv cx rl22 at *
          simp only
          generalize dg m = D at *
          refine RetN_start Tryz.func141 (by kernel_rfl) rfl fun Q hQ hQ2 => ?_; rw [Tryz.ntmps141]; simp only [u, i64, Nat.reduceSub, Nat.reduceAdd, bm]
          repeat (first | (refine gC ?_; first | refine aA ?_ | ((first | refine cR hL ?_ | refine cR hT ?_); refine sX ?_; try refine aA ?_)) | ((first | refine cR hL ?_ | refine cR hT ?_); refine sX ?_; try refine aA ?_) | refine gS ?_)
          rw [← hs1]
          repeat (first | (refine gC ?_; first | refine aA ?_ | ((first | refine cR hSt ?_ | refine cR hRd ?_ | refine cR hLs ?_ | refine cR hZN ?_); refine sX ?_; try refine aA ?_)) | ((first | refine cR hSt ?_ | refine cR hRd ?_ | refine cR hLs ?_ | refine cR hZN ?_); refine sX ?_; try refine aA ?_) | refine gS ?_)
          (refine FinQ hQ (congrArg Array.toList Tryz.results141) _ _ ?_); simp (disch := omega) only [u, i64, ax, if_true, forall_const, reduceCtorEq, implies_true, tvs, bf]
          all_goals rfl
      · rw [decF b1] at hZN
        have hDN := ret_rDigits N b1 (by omega)
        have hd1N := (dg_spec N b1).2.2
        by_cases b2 : N = 10 ^ p
        · rw [if_pos b2]
          have hdp : dg N = p + 1 := by rw [b2, dg_pow]
          by_cases b3 : g < s + 1 + p - 1
          · rw [if_pos b3]
            clear hTp
            generalize overD p g r neg = y at *
            generalize dg N = dN at *
            generalize 10 ^ p = TP at *
            by_cases ha : e + dg m - 1 < 1 - g
            · exfalso
              omega
            · unfold dv cx rl22 at *
              simp only
              generalize dg m = D at *
              refine RetN_start Tryz.func141 (by kernel_rfl) rfl fun Q hQ hQ2 => ?_; rw [Tryz.ntmps141]; simp only [u, i64, Nat.reduceSub, Nat.reduceAdd, bm]
              repeat (first | (refine gC ?_; first | refine aA ?_ | ((first | refine cR hL ?_ | refine cR hT ?_); refine sX ?_; try refine aA ?_)) | ((first | refine cR hL ?_ | refine cR hT ?_); refine sX ?_; try refine aA ?_) | refine gS ?_)
              rw [← hs1]
              repeat (first | (refine gC ?_; first | refine aA ?_ | ((first | refine cR hSt ?_ | refine cR hRd ?_ | refine cR hLs ?_ | refine cR hZN ?_ | refine cR hDN ?_ | refine cR hB ?_); refine sX ?_; try refine aA ?_)) | ((first | refine cR hSt ?_ | refine cR hRd ?_ | refine cR hLs ?_ | refine cR hZN ?_ | refine cR hDN ?_ | refine cR hB ?_); refine sX ?_; try refine aA ?_) | refine gS ?_)
              (refine FinQ hQ (congrArg Array.toList Tryz.results141) _ _ ?_); simp (disch := omega) only [u, i64, ax, if_true, forall_const, reduceCtorEq, implies_true, tvs, bf]
              all_goals rfl
          · rw [if_neg b3]
            clear hB
            generalize dg N = dN at *
            generalize 10 ^ p = TP at *
            generalize 10 ^ (p - 1) = TQ at *
            by_cases ha : e + dg m - 1 < 1 - g
            · rw [if_pos ha]
              unfold dv cx rl22 at *
              simp only
              generalize dg m = D at *
              refine RetN_start Tryz.func141 (by kernel_rfl) rfl fun Q hQ hQ2 => ?_; rw [Tryz.ntmps141]; simp only [u, i64, Nat.reduceSub, Nat.reduceAdd, bm]
              repeat (first | (refine gC ?_; first | refine aA ?_ | ((first | refine cR hL ?_ | refine cR hT ?_); refine sX ?_; try refine aA ?_)) | ((first | refine cR hL ?_ | refine cR hT ?_); refine sX ?_; try refine aA ?_) | refine gS ?_)
              rw [← hs1]
              repeat (first | (refine gC ?_; first | refine aA ?_ | ((first | refine cR hSt ?_ | refine cR hRd ?_ | refine cR hLs ?_ | refine cR hZN ?_ | refine cR hDN ?_ | refine cR hTp ?_); refine sX ?_; try refine aA ?_)) | ((first | refine cR hSt ?_ | refine cR hRd ?_ | refine cR hLs ?_ | refine cR hZN ?_ | refine cR hDN ?_ | refine cR hTp ?_); refine sX ?_; try refine aA ?_) | refine gS ?_)
              (refine FinQ hQ (congrArg Array.toList Tryz.results141) _ _ ?_); simp (disch := omega) only [u, i64, ax, if_true, forall_const, reduceCtorEq, implies_true, tvs, bf]
              all_goals rfl
            · rw [if_neg ha]
              unfold dv cx rl22 at *
              simp only
              generalize dg m = D at *
              refine RetN_start Tryz.func141 (by kernel_rfl) rfl fun Q hQ hQ2 => ?_; rw [Tryz.ntmps141]; simp only [u, i64, Nat.reduceSub, Nat.reduceAdd, bm]
              repeat (first | (refine gC ?_; first | refine aA ?_ | ((first | refine cR hL ?_ | refine cR hT ?_); refine sX ?_; try refine aA ?_)) | ((first | refine cR hL ?_ | refine cR hT ?_); refine sX ?_; try refine aA ?_) | refine gS ?_)
              rw [← hs1]
              repeat (first | (refine gC ?_; first | refine aA ?_ | ((first | refine cR hSt ?_ | refine cR hRd ?_ | refine cR hLs ?_ | refine cR hZN ?_ | refine cR hDN ?_ | refine cR hTp ?_); refine sX ?_; try refine aA ?_)) | ((first | refine cR hSt ?_ | refine cR hRd ?_ | refine cR hLs ?_ | refine cR hZN ?_ | refine cR hDN ?_ | refine cR hTp ?_); refine sX ?_; try refine aA ?_) | refine gS ?_)
              (refine FinQ hQ (congrArg Array.toList Tryz.results141) _ _ ?_); simp (disch := omega) only [u, i64, ax, if_true, forall_const, reduceCtorEq, implies_true, tvs, bf]
              all_goals rfl
        · rw [if_neg b2]
          have hdN' : dg N ≤ p := dg_le (by omega)
          by_cases b3 : g < s + dg N - 1
          · exfalso
            omega
          · rw [if_neg (fun h => b3 h.2)]
            clear hTp hB
            generalize dg N = dN at *
            by_cases ha : e + dg m - 1 < 1 - g
            · rw [if_pos ha]
              unfold dv cx rl22 at *
              simp only
              generalize dg m = D at *
              refine RetN_start Tryz.func141 (by kernel_rfl) rfl fun Q hQ hQ2 => ?_; rw [Tryz.ntmps141]; simp only [u, i64, Nat.reduceSub, Nat.reduceAdd, bm]
              repeat (first | (refine gC ?_; first | refine aA ?_ | ((first | refine cR hL ?_ | refine cR hT ?_); refine sX ?_; try refine aA ?_)) | ((first | refine cR hL ?_ | refine cR hT ?_); refine sX ?_; try refine aA ?_) | refine gS ?_)
              rw [← hs1]
              repeat (first | (refine gC ?_; first | refine aA ?_ | ((first | refine cR hSt ?_ | refine cR hRd ?_ | refine cR hLs ?_ | refine cR hZN ?_ | refine cR hDN ?_); refine sX ?_; try refine aA ?_)) | ((first | refine cR hSt ?_ | refine cR hRd ?_ | refine cR hLs ?_ | refine cR hZN ?_ | refine cR hDN ?_); refine sX ?_; try refine aA ?_) | refine gS ?_)
              (refine FinQ hQ (congrArg Array.toList Tryz.results141) _ _ ?_); simp (disch := omega) only [u, i64, ax, if_true, forall_const, reduceCtorEq, implies_true, tvs, bf]
              all_goals rfl
            · rw [if_neg ha]
              unfold dv cx rl22 at *
              simp only
              generalize dg m = D at *
              refine RetN_start Tryz.func141 (by kernel_rfl) rfl fun Q hQ hQ2 => ?_; rw [Tryz.ntmps141]; simp only [u, i64, Nat.reduceSub, Nat.reduceAdd, bm]
              repeat (first | (refine gC ?_; first | refine aA ?_ | ((first | refine cR hL ?_ | refine cR hT ?_); refine sX ?_; try refine aA ?_)) | ((first | refine cR hL ?_ | refine cR hT ?_); refine sX ?_; try refine aA ?_) | refine gS ?_)
              rw [← hs1]
              repeat (first | (refine gC ?_; first | refine aA ?_ | ((first | refine cR hSt ?_ | refine cR hRd ?_ | refine cR hLs ?_ | refine cR hZN ?_ | refine cR hDN ?_); refine sX ?_; try refine aA ?_)) | ((first | refine cR hSt ?_ | refine cR hRd ?_ | refine cR hLs ?_ | refine cR hZN ?_ | refine cR hDN ?_); refine sX ?_; try refine aA ?_) | refine gS ?_)
              (refine FinQ hQ (congrArg Array.toList Tryz.results141) _ _ ?_); simp (disch := omega) only [u, i64, ax, if_true, forall_const, reduceCtorEq, implies_true, tvs, bf]
              all_goals rfl
end Go.Proofs
set_option linter.unusedVariables false
set_option linter.unusedSimpArgs false
set_option maxHeartbeats 1000000
namespace Go.Proofs
open Go.Ax
theorem sg_lt (neg : Bool) (n : Nat) : (neg && decide (n ≠ 0)) = decide (sg neg n < 0) ∧ (sg neg n).natAbs = n := by
  unfold sg
  cases neg with
  | true =>
    rw [if_pos rfl, Bool.true_and, Int.natAbs_neg, Int.natAbs_natCast]
    refine ⟨?_, rfl⟩
    simp only [decide_eq_decide]
    omega
  | false =>
    rw [if_neg (by decide), Bool.false_and, Int.natAbs_natCast, decF (show ¬ (n : Int) < 0 by omega)]
    exact ⟨rfl, rfl⟩
/-- What a fraction in lowest terms has to do with the one before. -/
structure Low (z0 : Int) (d0 : Nat) (z : Int) (d g : Nat) : Prop where
  g0 : 0 < g
  dnz : d ≠ 0
  num : z0 = z * g
  den : d0 = d * g
theorem ret_Add11 (a b : Bool) (xs ys : List Nat) (hx : Wd xs) (hy : Wd ys) (hl : xs.length ≤ 10000) (hl2 : ys.length ≤ 10000) : Ret Tryz.prog GEs 135 [.agg [.bool a, ws xs], .agg [.bool b, ws ys]] (zv (sg a (val xs) + sg b (val ys))) := by
  have hA := ret_Add03 a b xs ys hx hy hl hl2
  generalize sg a (val xs) + sg b (val ys) = w at *
  unfold zv at *
  refine RetN_start Tryz.func135 (by kernel_rfl) rfl fun Q hQ hQ2 => ?_; rw [Tryz.ntmps135]; simp only [u, i64, Nat.reduceSub, Nat.reduceAdd, bm]
  repeat (first | (refine gC ?_; first | refine aA ?_ | (refine cR hA ?_; refine sX ?_; try refine aA ?_)) | (refine cR hA ?_; refine sX ?_; try refine aA ?_) | refine gS ?_)
  (refine FinQ hQ (congrArg Array.toList Tryz.results135) _ _ ?_); simp (disch := omega) only [u, i64, ax, if_true, forall_const, reduceCtorEq, implies_true, tvs, bf]
theorem sg_abs (a : Bool) (n : Nat) : (sg a n).natAbs = n := (sg_lt a n).2
theorem Low.le {z0 z0' : Int} {d0 d0' : Nat} {z z' : Int} {d d' g g' : Nat} (h : Low z0 d0 z d g) (h' : Low z0' d0' z' d' g') (hle : z0 * d0' ≤ z0' * d0) : z * d' - z' * d ≤ 0 := by
  rw [h.num, h'.num, h.den, h'.den, Int.natCast_mul, Int.natCast_mul] at hle
  have e1 : z * g * (d' * g') = z * d' * (g * g' : Int) := by
    rw [Int.mul_assoc, Int.mul_assoc]; congr 1; rw [Int.mul_left_comm]
  have e2 : z' * g' * (d * g) = z' * d * (g * g' : Int) := by
    rw [Int.mul_assoc, Int.mul_assoc]; congr 1; rw [Int.mul_left_comm, Int.mul_comm (g' : Int)]
  rw [e1, e2] at hle
  have hp : (0 : Int) < g * g' := Int.mul_pos (by have := h.g0; omega) (by have := h'.g0; omega)
  have := Int.le_of_mul_le_mul_right hle hp
  omega
end Go.Proofs
