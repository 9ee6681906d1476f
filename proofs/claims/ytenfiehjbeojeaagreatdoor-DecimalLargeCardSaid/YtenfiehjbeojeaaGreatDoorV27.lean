/-
  Contracts of functions of the program, each proved by a walk.
-/
import Derived.Test.YtenfiehjbeojeaaGreatDoorV24
set_option maxRecDepth 100000
set_option linter.unusedVariables false
set_option linter.unusedSimpArgs false
namespace Go.Proofs
open Go.Ax
/-- What the program finishes first: infinite or a number and an exponent. -/
def dcv (inf : Bool) (coef : Nat) (exp : Int) : AV := .agg [.bool inf, nat coef, i64 exp]
def fitsD (p : Nat) (g : Int) (mag : Nat) (exp : Int) : Prop := ¬ g < exp + dg mag - 1 ∧ stpD p g (exp + dg mag - 1) ≤ exp + st mag
instance (p : Nat) (g : Int) (mag : Nat) (exp : Int) : Decidable (fitsD p g mag exp) := by unfold fitsD; infer_instance
set_option maxRecDepth 100000 in
set_option maxHeartbeats 1000000 in
theorem ret_fits (p : Nat) (g : Int) (mag : Nat) (exp ideal : Int) (hp : 1 ≤ p ∧ p ≤ 400) (hg : 1 ≤ g ∧ g ≤ 6000) (hm : mag ≠ 0) (hl : (words mag).length ≤ 2000) (he : -3000000 ≤ exp ∧ exp ≤ 3000000) (hi : -3000000 ≤ ideal ∧ ideal ≤ 3000000) :
    Ret Tryz.prog GEs 128 [i64 p, i64 g, i64 (1 - g - (p - 1)), nat mag, i64 exp, i64 ideal]
      (if fitsD p g mag exp then .tup [dcv false (exN p g mag exp ideal) (exE p g mag exp ideal), .bool true] else .tup [.agg [.bool false, ws [], i64 0], .bool false]) := by
  have hS := ret_Strip (words mag) (Wd_words _) (by omega) (by rw [val_words]; exact hm)
  rw [val_words] at hS
  have hsl := length_mono (sm_le mag)
  have hD := ret_WDigits (sm mag) (by omega)
  have hiff := fits_iff p g mag exp hm
  have hat := fits_at p g mag exp ideal hm
  have hbn := bl_len mag
  have hdb := dg_le_bl mag
  have hds := dg_sm hm
  have hs1 := (dg_spec _ (sm_ne hm)).2.2
  generalize hT : 1 - g - ((p : Int) - 1) = T at *
  by_cases hf : fitsD p g mag exp
  · rw [if_pos hf]
    obtain ⟨f1, f2, f3, f4, f5⟩ := exact_facts p g mag exp ideal hm hf.1 hf.2
    have hc := hiff.2 hf
    obtain ⟨c1, c2, c3⟩ : dg (sm mag) ≤ p ∧ T ≤ exp + st mag ∧ exp + st mag + dg (sm mag) - 1 ≤ g := by omega
    have hs0 : (exp + dg mag - 1) - p + 1 ≤ stpD p g (exp + dg mag - 1) := by unfold stpD; omega
    have hat : min ((st mag : Int) + exp) (max (max ideal T) (st mag + exp - ((p - dg (sm mag) : Nat) : Int))) = exE p g mag exp ideal := by
      rw [Int.add_comm (st mag : Int) exp, Int.natCast_sub c1]; exact hat
    clear hiff hc
    have hdi : (exp + st mag - exE p g mag exp ideal).toNat ≤ p := by omega
    have hTe := ret_Ten (exp + st mag - exE p g mag exp ideal).toNat (by omega)
    have htl := ten_len (k := (exp + st mag - exE p g mag exp ideal).toNat) (by omega)
    have hM := ret_Mul (words (sm mag)) (words (10 ^ (exp + st mag - exE p g mag exp ideal).toNat)) (Wd_words _) (Wd_words _) (by omega) (by omega)
    rw [val_words, val_words] at hM
    have hN : sm mag * 10 ^ (exp + st mag - exE p g mag exp ideal).toNat = exN p g mag exp ideal := rfl
    rw [hN] at hM
    have hcast : (st mag : Int) + exp - exE p g mag exp ideal = (((exp + st mag - exE p g mag exp ideal).toNat : Nat) : Int) := by omega
    generalize exN p g mag exp ideal = N at *
    generalize exE p g mag exp ideal = E at *
    generalize sm mag = sM at *
    generalize st mag = sT at *
    unfold dcv
    generalize 10 ^ (exp + sT - E).toNat = TT at *
    generalize hk : (exp + sT - E).toNat = k at *
    refine RetN_start Tryz.func128 (by kernel_rfl) rfl fun Q hQ hQ2 => ?_; rw [Tryz.ntmps128]; simp only [u, i64, Nat.reduceSub, Nat.reduceAdd, bm]
    repeat (first | (refine gC ?_; first | refine aA ?_ | ((first | refine cR hS ?_ | refine cR hD ?_); refine sX ?_; try refine aA ?_)) | ((first | refine cR hS ?_ | refine cR hD ?_); refine sX ?_; try refine aA ?_) | refine gS ?_)
    (refine gC ?_)
    rw [hat, hcast]
    repeat (first | (refine gC ?_; first | refine aA ?_ | ((first | refine cR hTe ?_ | refine cR hM ?_); refine sX ?_; try refine aA ?_)) | ((first | refine cR hTe ?_ | refine cR hM ?_); refine sX ?_; try refine aA ?_) | refine gS ?_)
    (refine FinQ hQ (congrArg Array.toList Tryz.results128) _ _ ?_); simp (disch := omega) only [u, i64, ax, if_true, forall_const, reduceCtorEq, implies_true, tvs, bf]
    all_goals rfl
  · rw [if_neg hf]
    have hc : ¬ ¬ ((p : Int) < dg (sm mag) ∨ exp + st mag < T ∨ g < exp + st mag + dg (sm mag) - 1) := fun h => hf (hiff.1 h)
    have hc := Classical.not_not.1 hc
    clear hiff hat
    generalize sm mag = sM at *
    generalize st mag = sT at *
    by_cases c1 : p < dg sM
    · clear hc
      refine RetN_start Tryz.func128 (by kernel_rfl) rfl fun Q hQ hQ2 => ?_; rw [Tryz.ntmps128]; simp only [u, i64, Nat.reduceSub, Nat.reduceAdd, bm]
      repeat (first | (refine gC ?_; first | refine aA ?_ | ((first | refine cR hS ?_ | refine cR hD ?_); refine sX ?_; try refine aA ?_)) | ((first | refine cR hS ?_ | refine cR hD ?_); refine sX ?_; try refine aA ?_) | refine gS ?_)
      (refine FinQ hQ (congrArg Array.toList Tryz.results128) _ _ ?_); simp (disch := omega) only [u, i64, ax, if_true, forall_const, reduceCtorEq, implies_true, tvs, bf]
      all_goals rfl
    · by_cases c2 : exp + sT < T
      · clear hc
        refine RetN_start Tryz.func128 (by kernel_rfl) rfl fun Q hQ hQ2 => ?_; rw [Tryz.ntmps128]; simp only [u, i64, Nat.reduceSub, Nat.reduceAdd, bm]
        repeat (first | (refine gC ?_; first | refine aA ?_ | ((first | refine cR hS ?_ | refine cR hD ?_); refine sX ?_; try refine aA ?_)) | ((first | refine cR hS ?_ | refine cR hD ?_); refine sX ?_; try refine aA ?_) | refine gS ?_)
        (refine FinQ hQ (congrArg Array.toList Tryz.results128) _ _ ?_); simp (disch := omega) only [u, i64, ax, if_true, forall_const, reduceCtorEq, implies_true, tvs, bf]
        all_goals rfl
      · have c3 : g < exp + sT + dg sM - 1 := by omega
        clear hc
        refine RetN_start Tryz.func128 (by kernel_rfl) rfl fun Q hQ hQ2 => ?_; rw [Tryz.ntmps128]; simp only [u, i64, Nat.reduceSub, Nat.reduceAdd, bm]
        repeat (first | (refine gC ?_; first | refine aA ?_ | ((first | refine cR hS ?_ | refine cR hD ?_); refine sX ?_; try refine aA ?_)) | ((first | refine cR hS ?_ | refine cR hD ?_); refine sX ?_; try refine aA ?_) | refine gS ?_)
        (refine FinQ hQ (congrArg Array.toList Tryz.results128) _ _ ?_); simp (disch := omega) only [u, i64, ax, if_true, forall_const, reduceCtorEq, implies_true, tvs, bf]
        all_goals rfl
set_option maxRecDepth 100000 in
theorem ret_over (p : Nat) (g : Int) (r : Nat) (neg : Bool) (hp : 1 ≤ p ∧ p ≤ 400) (hg : 1 ≤ g ∧ g ≤ 6000) (hr : r ≤ 4) :
    Ret Tryz.prog GEs 129 [i64 p, i64 g, i64 r, .bool neg] (.tup [if grtF r neg = true then dcv false (10 ^ p - 1) (g - p + 1) else .agg [.bool true, ws [], i64 0], i64 5]) := by
  have hG := ret_greatest r hr neg
  have hT := ret_Ten p (by omega)
  have htl := ten_len (k := p) (by omega)
  have hpos := ten_pos p
  have hS := ret_Sub (words (10 ^ p)) (words 1) (Wd_words _) (Wd_words _) (by omega) (by have : (words 1).length ≤ 1 := length_le (by decide); omega) (by rw [val_words, val_words]; omega)
  rw [val_words, val_words, show ws (words 1) = nat 1 from rfl, words1] at hS
  unfold dcv
  generalize 10 ^ p = T at *
  cases hgr : grtF r neg with
  | true =>
    rw [hgr] at hG
    rw [if_pos rfl]
    refine RetN_start Tryz.func129 (by kernel_rfl) rfl fun Q hQ hQ2 => ?_; rw [Tryz.ntmps129]; simp only [u, i64, Nat.reduceSub, Nat.reduceAdd, bm]
    repeat (first | (refine gC ?_; first | refine aA ?_ | ((first | refine cR hG ?_ | refine cR hT ?_ | refine cR hS ?_); refine sX ?_; try refine aA ?_)) | ((first | refine cR hG ?_ | refine cR hT ?_ | refine cR hS ?_); refine sX ?_; try refine aA ?_) | refine gS ?_)
    (refine FinQ hQ (congrArg Array.toList Tryz.results129) _ _ ?_); simp (disch := omega) only [u, i64, ax, if_true, forall_const, reduceCtorEq, implies_true, tvs, bf]
    all_goals rfl
  | false =>
    rw [hgr] at hG
    rw [if_neg (by decide)]
    refine RetN_start Tryz.func129 (by kernel_rfl) rfl fun Q hQ hQ2 => ?_; rw [Tryz.ntmps129]; simp only [u, i64, Nat.reduceSub, Nat.reduceAdd, bm]
    repeat (first | (refine gC ?_; first | refine aA ?_ | (refine cR hG ?_; refine sX ?_; try refine aA ?_)) | (refine cR hG ?_; refine sX ?_; try refine aA ?_) | refine gS ?_)
    (refine FinQ hQ (congrArg Array.toList Tryz.results129) _ _ ?_); simp (disch := omega) only [u, i64, ax, if_true, forall_const, reduceCtorEq, implies_true, tvs, bf]
    all_goals rfl
theorem Ret_nil {P : Program} {GE : Nat → Option (List AV)} {f : FuncId} {args args' : List AV} {r : AV} (h : Ret P GE f args r) (hn : nrms args' = args) : Ret P GE f args' r :=
  ⟨h.1, fun w ok vargs hG hv => h.2 w ok vargs hG (by rw [← hn]; exact VReps.nrm _ _ hv)⟩
def fdv (x : DV) : AV := .agg [.bool (decide (x.kind = 1)), nat x.coef, i64 x.exp]
theorem fdv_over (p : Nat) (g : Int) (r : Nat) (neg : Bool) : fdv (overD p g r neg) = if grtF r neg = true then dcv false (10 ^ p - 1) (g - p + 1) else .agg [.bool true, ws [], i64 0] := by
  unfold overD; split <;> rfl
theorem or1I : Go.Ax.bits .or .i64 (1 : Int) 2 = 3 := by decide
set_option maxRecDepth 100000 in
set_option maxHeartbeats 4000000 in
theorem ret_finFinish (p : Nat) (g : Int) (r : Nat) (neg : Bool) (mag : Nat) (exp ideal : Int) (hp : 1 ≤ p ∧ p ≤ 400) (hg : 1 ≤ g ∧ g ≤ 6000) (hr : r ≤ 4) (hm : mag ≠ 0) (hl : (words mag).length ≤ 2000) (he : -3000000 ≤ exp ∧ exp ≤ 3000000) (hi : -3000000 ≤ ideal ∧ ideal ≤ 3000000) :
    Ret Tryz.prog GEs 95 [i64 p, i64 g, i64 r, .bool neg, nat mag, i64 exp, .bool false, i64 ideal] (.tup [fdv (finD p g r neg mag exp ideal).1, i64 (finD p g r neg mag exp ideal).2]) := by
  have hF := ret_fits p g mag exp ideal hp hg hm hl he hi
  have hD := ret_WDigits mag (by omega)
  have hO := ret_over p g r neg hp hg hr
  rw [← fdv_over] at hO
  have hbn := bl_len mag
  have hdb := dg_le_bl mag
  have hd1 := (dg_spec _ hm).2.2
  have hpc : ((p : Int) - 1) = ((p - 1 : Nat) : Int) := by omega
  have hst : stpD p g (exp + dg mag - 1) = max (exp + dg mag - 1 - p + 1) (1 - g - ((p : Int) - 1)) := rfl
  rw [hpc] at hF hst
  by_cases c1 : g < exp + dg mag - 1
  · rw [finD_over p g r neg mag exp ideal c1]
    rw [if_neg (fun h => h.1 c1)] at hF
    generalize overD p g r neg = y at *
    unfold fdv at *
    refine RetN_start Tryz.func95 (by kernel_rfl) rfl fun Q hQ hQ2 => ?_; rw [Tryz.ntmps95]; simp only [u, i64, Nat.reduceSub, Nat.reduceAdd, bm]
    repeat (first | (refine gC ?_; first | refine aA ?_ | ((first | refine cR hF ?_ | refine cR hD ?_ | refine cR hO ?_); refine sX ?_; try refine aA ?_)) | ((first | refine cR hF ?_ | refine cR hD ?_ | refine cR hO ?_); refine sX ?_; try refine aA ?_) | refine gS ?_)
    (refine FinQ hQ (congrArg Array.toList Tryz.results95) _ _ ?_); simp (disch := omega) only [u, i64, ax, if_true, forall_const, reduceCtorEq, implies_true, tvs, bf]
    all_goals rfl
  by_cases c2 : stpD p g (exp + dg mag - 1) ≤ exp + st mag
  · rw [finD_exact p g r neg mag exp ideal c1 c2]
    rw [if_pos ⟨c1, c2⟩] at hF
    have e1 : fdv ⟨0, neg, exN p g mag exp ideal, exE p g mag exp ideal⟩ = dcv false (exN p g mag exp ideal) (exE p g mag exp ideal) := rfl
    rw [e1]
    unfold dcv at *
    generalize exN p g mag exp ideal = N at *
    generalize exE p g mag exp ideal = E at *
    refine RetN_start Tryz.func95 (by kernel_rfl) rfl fun Q hQ hQ2 => ?_; rw [Tryz.ntmps95]; simp only [u, i64, Nat.reduceSub, Nat.reduceAdd, bm]
    repeat (first | (refine gC ?_; first | refine aA ?_ | (refine cR hF ?_; refine sX ?_; try refine aA ?_)) | (refine cR hF ?_; refine sX ?_; try refine aA ?_) | refine gS ?_)
    (refine FinQ hQ (congrArg Array.toList Tryz.results95) _ _ ?_); simp (disch := omega) only [u, i64, ax, if_true, forall_const, reduceCtorEq, implies_true, tvs, bf]
    all_goals rfl
  · rw [finD_ine p g r neg mag exp ideal c1 c2]
    rw [if_neg (fun h => c2 h.2)] at hF
    have hNp := quoD_le p g r neg mag exp _ rfl (by omega : exp < stpD p g (exp + dg mag - 1))
    have htq := fun h => tiny_quo mag (stpD p g (exp + dg mag - 1) - exp).toNat h hm
    have hNd : quoN r neg mag (10 ^ (stpD p g (exp + dg mag - 1) - exp).toNat) = mag / 10 ^ (stpD p g (exp + dg mag - 1) - exp).toNat + if moreF r neg (decide (mag / 10 ^ (stpD p g (exp + dg mag - 1) - exp).toNat % 2 = 1)) (restC (mag % 10 ^ (stpD p g (exp + dg mag - 1) - exp).toNat) (10 ^ (stpD p g (exp + dg mag - 1) - exp).toNat)) = true then 1 else 0 := rfl
    have hlt : exp < stpD p g (exp + dg mag - 1) := by omega
    have htp := ten_len (k := p) (by omega)
    have hTp := ret_Ten p (by omega)
    have hTp1 := ret_Ten (p - 1) (by omega)
    generalize hs : stpD p g (exp + dg mag - 1) = s at *
    generalize hk : (s - exp).toNat = k at *
    generalize hN : quoN r neg mag (10 ^ k) = N at *
    have hNl := length_mono hNp
    have hCp := ret_Cmp (words N) (words (10 ^ p)) (Wd_words _) (Wd_words _) (by omega) (by omega)
    rw [val_words, val_words] at hCp
    have hsg := cmpI_sign N (10 ^ p)
    have hdp1 : dg (10 ^ (p - 1)) = p - 1 + 1 := dg_pow (p - 1)
    have hl1 := ten_len (k := p - 1) (by omega)
    have hP1 : 10 ^ (p - 1) ≠ 0 := Nat.ne_of_gt (ten_pos _)
    have hDP1 := ret_WDigits (10 ^ (p - 1)) (by have := le_pow_words (k := 100) (ten_le (p - 1)) (by omega); omega)
    have hDN := ret_WDigits N (by have := le_pow_words (k := 100) (ten_le p) (by omega); omega)
    have hdN : dg N ≤ p + 1 := dg_le (Nat.lt_of_le_of_lt hNp (Nat.pow_lt_pow_right (by decide) (by omega)))
    have hZP1 := ret_Zero (words (10 ^ (p - 1))) (Wd_words _) (by omega)
    rw [val_words, decF hP1] at hZP1
    have hZN := ret_Zero (words N) (Wd_words _) (by omega)
    rw [val_words] at hZN
    rw [hdp1] at hDP1
    have hor := or1I
    have hsr : -10000 ≤ s ∧ s ≤ 10000 := by omega
    unfold ineD
    generalize 10 ^ (p - 1) = P1 at *
    have hUp1 : dg mag + 1 < k → Ret Tryz.prog GEs 100 [i64 r, .bool neg, .emp, i64 1] (nat N) := fun h => by
      have := ret_up r hr neg 0 (by decide) 1 (by decide)
      obtain ⟨t1, t2⟩ := htq h
      rw [t1, t2] at hNd
      rw [← hNd] at this
      exact Ret_nil this rfl
    by_cases b1 : dg mag + 1 < k
    · have hUp := hUp1 b1
      have hN1 : N ≤ 1 := by
        obtain ⟨t1, t2⟩ := htq b1
        rw [hNd, t1]
        split <;> omega
      have hp10 : 10 ^ 1 ≤ 10 ^ p := ten_mono hp.1
      have b2 : ¬ N = 10 ^ p := by omega
      have hsg : ¬ cmpI N (10 ^ p) = 0 := fun h => b2 (hsg.2.2.1.1 h)
      rw [if_neg b2]
      clear hUp1 htq hNd hl htp hl1 hNl hs hdb hbn
      generalize cmpI N (10 ^ p) = cc at *
      generalize 10 ^ p = P at *
      have ha : exp + dg mag - 1 < 1 - g := by omega
      by_cases b3 : N = 0
      · rw [if_neg (fun h => h.1 b3), if_pos ha]
        rw [decT b3] at hZN
        unfold fdv
        refine RetN_start Tryz.func95 (by kernel_rfl) rfl fun Q hQ hQ2 => ?_; rw [Tryz.ntmps95]; simp only [u, i64, Nat.reduceSub, Nat.reduceAdd, bm]
        repeat (first | (refine gC ?_; first | refine aA ?_ | ((first | refine cR hF ?_ | refine cR hD ?_ | refine cR hUp ?_ | refine cR hTp ?_ | refine cR hCp ?_ | refine cR hZN ?_); refine sX ?_; try refine aA ?_)) | ((first | refine cR hF ?_ | refine cR hD ?_ | refine cR hUp ?_ | refine cR hTp ?_ | refine cR hCp ?_ | refine cR hZN ?_); refine sX ?_; try refine aA ?_) | refine gS ?_)
        rw [hor, ← hst]
        (refine FinQ hQ (congrArg Array.toList Tryz.results95) _ _ ?_); simp (disch := omega) only [u, i64, ax, if_true, forall_const, reduceCtorEq, implies_true, tvs, bf]
        all_goals rfl
      · have hd1 : dg N = 1 := by rw [show N = 1 by omega]; exact dg_one
        rw [if_neg (fun h => by have := h.2; omega), if_pos ha]
        rw [decF b3] at hZN
        rw [hd1] at hDN
        unfold fdv
        refine RetN_start Tryz.func95 (by kernel_rfl) rfl fun Q hQ hQ2 => ?_; rw [Tryz.ntmps95]; simp only [u, i64, Nat.reduceSub, Nat.reduceAdd, bm]
        repeat (first | (refine gC ?_; first | refine aA ?_ | ((first | refine cR hF ?_ | refine cR hD ?_ | refine cR hUp ?_ | refine cR hTp ?_ | refine cR hCp ?_ | refine cR hZN ?_ | refine cR hDN ?_); refine sX ?_; try refine aA ?_)) | ((first | refine cR hF ?_ | refine cR hD ?_ | refine cR hUp ?_ | refine cR hTp ?_ | refine cR hCp ?_ | refine cR hZN ?_ | refine cR hDN ?_); refine sX ?_; try refine aA ?_) | refine gS ?_)
        rw [hor, ← hst]
        (refine FinQ hQ (congrArg Array.toList Tryz.results95) _ _ ?_); simp (disch := omega) only [u, i64, ax, if_true, forall_const, reduceCtorEq, implies_true, tvs, bf]
        all_goals rfl
    · have hTk := ret_Ten k (by omega)
      have hTkl := ten_len (k := k) (by omega)
      have hDM := ret_DivMod (words mag) (words (10 ^ k)) (Wd_words _) (Wd_words _) (by omega) (by omega) (by rw [val_words]; exact Nat.ne_of_gt (ten_pos k))
      rw [val_words, val_words] at hDM
      have hml := length_mono (Nat.mod_le mag (10 ^ k))
      have hql := length_mono (Nat.div_le_self mag (10 ^ k))
      have hCm := ret_compare (mag % 10 ^ k) (words (10 ^ k)) (Wd_words _) (by omega) (by omega)
      rw [val_words] at hCm
      have hx3 := restC_le (mag % 10 ^ k) (10 ^ k)
      have hUp := ret_up r hr neg (mag / 10 ^ k) (by omega) (restC (mag % 10 ^ k) (10 ^ k)) hx3
      rw [← hNd] at hUp
      have hcast : s - exp = (k : Int) := by omega
      clear hUp1 htq hNd hl htp hl1 hNl hs hTkl hml hql
      generalize restC (mag % 10 ^ k) (10 ^ k) = rc at *
      generalize mag % 10 ^ k = mR at *
      generalize mag / 10 ^ k = mQ at *
      generalize 10 ^ k = TK at *
      by_cases b2 : N = 10 ^ p
      · have hsg := hsg.2.2.1.2 b2
        rw [if_pos b2]
        generalize cmpI N (10 ^ p) = cc at *
        generalize 10 ^ p = P at *
        by_cases b3 : g < s + 1 + p - 1
        · rw [if_pos b3]
          generalize overD p g r neg = y at *
          unfold fdv at *
          refine RetN_start Tryz.func95 (by kernel_rfl) rfl fun Q hQ hQ2 => ?_; rw [Tryz.ntmps95]; simp only [u, i64, Nat.reduceSub, Nat.reduceAdd, bm]
          repeat (first | (refine gC ?_; first | refine aA ?_ | ((first | refine cR hF ?_ | refine cR hD ?_); refine sX ?_; try refine aA ?_)) | ((first | refine cR hF ?_ | refine cR hD ?_); refine sX ?_; try refine aA ?_) | refine gS ?_)
          (refine gC ?_)
          rw [← hst, hcast]
          repeat (first | (refine gC ?_; first | refine aA ?_ | ((first | refine cR hTk ?_ | refine cR hDM ?_ | refine cR hCm ?_ | refine cR hUp ?_ | refine cR hTp ?_ | refine cR hCp ?_ | refine cR hTp1 ?_ | refine cR hZP1 ?_ | refine cR hDP1 ?_ | refine cR hO ?_); refine sX ?_; try refine aA ?_)) | ((first | refine cR hTk ?_ | refine cR hDM ?_ | refine cR hCm ?_ | refine cR hUp ?_ | refine cR hTp ?_ | refine cR hCp ?_ | refine cR hTp1 ?_ | refine cR hZP1 ?_ | refine cR hDP1 ?_ | refine cR hO ?_); refine sX ?_; try refine aA ?_) | refine gS ?_)
          (refine FinQ hQ (congrArg Array.toList Tryz.results95) _ _ ?_); simp (disch := omega) only [u, i64, ax, if_true, forall_const, reduceCtorEq, implies_true, tvs, bf]
          all_goals rfl
        · rw [if_neg b3]
          unfold fdv
          by_cases ha : exp + dg mag - 1 < 1 - g
          · rw [if_pos ha]
            refine RetN_start Tryz.func95 (by kernel_rfl) rfl fun Q hQ hQ2 => ?_; rw [Tryz.ntmps95]; simp only [u, i64, Nat.reduceSub, Nat.reduceAdd, bm]
            repeat (first | (refine gC ?_; first | refine aA ?_ | ((first | refine cR hF ?_ | refine cR hD ?_); refine sX ?_; try refine aA ?_)) | ((first | refine cR hF ?_ | refine cR hD ?_); refine sX ?_; try refine aA ?_) | refine gS ?_)
            (refine gC ?_)
            rw [← hst, hcast]
            repeat (first | (refine gC ?_; first | refine aA ?_ | ((first | refine cR hTk ?_ | refine cR hDM ?_ | refine cR hCm ?_ | refine cR hUp ?_ | refine cR hTp ?_ | refine cR hCp ?_ | refine cR hTp1 ?_ | refine cR hZP1 ?_ | refine cR hDP1 ?_); refine sX ?_; try refine aA ?_)) | ((first | refine cR hTk ?_ | refine cR hDM ?_ | refine cR hCm ?_ | refine cR hUp ?_ | refine cR hTp ?_ | refine cR hCp ?_ | refine cR hTp1 ?_ | refine cR hZP1 ?_ | refine cR hDP1 ?_); refine sX ?_; try refine aA ?_) | refine gS ?_)
            rw [hor]
            (refine FinQ hQ (congrArg Array.toList Tryz.results95) _ _ ?_); simp (disch := omega) only [u, i64, ax, if_true, forall_const, reduceCtorEq, implies_true, tvs, bf]
            all_goals rfl
          · rw [if_neg ha]
            refine RetN_start Tryz.func95 (by kernel_rfl) rfl fun Q hQ hQ2 => ?_; rw [Tryz.ntmps95]; simp only [u, i64, Nat.reduceSub, Nat.reduceAdd, bm]
            repeat (first | (refine gC ?_; first | refine aA ?_ | ((first | refine cR hF ?_ | refine cR hD ?_); refine sX ?_; try refine aA ?_)) | ((first | refine cR hF ?_ | refine cR hD ?_); refine sX ?_; try refine aA ?_) | refine gS ?_)
            (refine gC ?_)
            rw [← hst, hcast]
            repeat (first | (refine gC ?_; first | refine aA ?_ | ((first | refine cR hTk ?_ | refine cR hDM ?_ | refine cR hCm ?_ | refine cR hUp ?_ | refine cR hTp ?_ | refine cR hCp ?_ | refine cR hTp1 ?_ | refine cR hZP1 ?_ | refine cR hDP1 ?_); refine sX ?_; try refine aA ?_)) | ((first | refine cR hTk ?_ | refine cR hDM ?_ | refine cR hCm ?_ | refine cR hUp ?_ | refine cR hTp ?_ | refine cR hCp ?_ | refine cR hTp1 ?_ | refine cR hZP1 ?_ | refine cR hDP1 ?_); refine sX ?_; try refine aA ?_) | refine gS ?_)
            (refine FinQ hQ (congrArg Array.toList Tryz.results95) _ _ ?_); simp (disch := omega) only [u, i64, ax, if_true, forall_const, reduceCtorEq, implies_true, tvs, bf]
            all_goals rfl
      · have hsg : ¬ cmpI N (10 ^ p) = 0 := fun h => b2 (hsg.2.2.1.1 h)
        rw [if_neg b2]
        generalize cmpI N (10 ^ p) = cc at *
        generalize 10 ^ p = P at *
        by_cases b4 : N = 0
        · rw [if_neg (fun h => h.1 b4)]
          rw [decT b4] at hZN
          unfold fdv
          by_cases ha : exp + dg mag - 1 < 1 - g
          · rw [if_pos ha]
            refine RetN_start Tryz.func95 (by kernel_rfl) rfl fun Q hQ hQ2 => ?_; rw [Tryz.ntmps95]; simp only [u, i64, Nat.reduceSub, Nat.reduceAdd, bm]
            repeat (first | (refine gC ?_; first | refine aA ?_ | ((first | refine cR hF ?_ | refine cR hD ?_); refine sX ?_; try refine aA ?_)) | ((first | refine cR hF ?_ | refine cR hD ?_); refine sX ?_; try refine aA ?_) | refine gS ?_)
            (refine gC ?_)
            rw [← hst, hcast]
            repeat (first | (refine gC ?_; first | refine aA ?_ | ((first | refine cR hTk ?_ | refine cR hDM ?_ | refine cR hCm ?_ | refine cR hUp ?_ | refine cR hTp ?_ | refine cR hCp ?_ | refine cR hZN ?_); refine sX ?_; try refine aA ?_)) | ((first | refine cR hTk ?_ | refine cR hDM ?_ | refine cR hCm ?_ | refine cR hUp ?_ | refine cR hTp ?_ | refine cR hCp ?_ | refine cR hZN ?_); refine sX ?_; try refine aA ?_) | refine gS ?_)
            rw [hor]
            (refine FinQ hQ (congrArg Array.toList Tryz.results95) _ _ ?_); simp (disch := omega) only [u, i64, ax, if_true, forall_const, reduceCtorEq, implies_true, tvs, bf]
            all_goals rfl
          · rw [if_neg ha]
            refine RetN_start Tryz.func95 (by kernel_rfl) rfl fun Q hQ hQ2 => ?_; rw [Tryz.ntmps95]; simp only [u, i64, Nat.reduceSub, Nat.reduceAdd, bm]
            repeat (first | (refine gC ?_; first | refine aA ?_ | ((first | refine cR hF ?_ | refine cR hD ?_); refine sX ?_; try refine aA ?_)) | ((first | refine cR hF ?_ | refine cR hD ?_); refine sX ?_; try refine aA ?_) | refine gS ?_)
            (refine gC ?_)
            rw [← hst, hcast]
            repeat (first | (refine gC ?_; first | refine aA ?_ | ((first | refine cR hTk ?_ | refine cR hDM ?_ | refine cR hCm ?_ | refine cR hUp ?_ | refine cR hTp ?_ | refine cR hCp ?_ | refine cR hZN ?_); refine sX ?_; try refine aA ?_)) | ((first | refine cR hTk ?_ | refine cR hDM ?_ | refine cR hCm ?_ | refine cR hUp ?_ | refine cR hTp ?_ | refine cR hCp ?_ | refine cR hZN ?_); refine sX ?_; try refine aA ?_) | refine gS ?_)
            (refine FinQ hQ (congrArg Array.toList Tryz.results95) _ _ ?_); simp (disch := omega) only [u, i64, ax, if_true, forall_const, reduceCtorEq, implies_true, tvs, bf]
            all_goals rfl
        · rw [decF b4] at hZN
          have hd1N := (dg_spec _ b4).2.2
          by_cases b5 : g < s + dg N - 1
          · rw [if_pos ⟨b4, b5⟩]
            generalize overD p g r neg = y at *
            unfold fdv at *
            refine RetN_start Tryz.func95 (by kernel_rfl) rfl fun Q hQ hQ2 => ?_; rw [Tryz.ntmps95]; simp only [u, i64, Nat.reduceSub, Nat.reduceAdd, bm]
            repeat (first | (refine gC ?_; first | refine aA ?_ | ((first | refine cR hF ?_ | refine cR hD ?_); refine sX ?_; try refine aA ?_)) | ((first | refine cR hF ?_ | refine cR hD ?_); refine sX ?_; try refine aA ?_) | refine gS ?_)
            (refine gC ?_)
            rw [← hst, hcast]
            repeat (first | (refine gC ?_; first | refine aA ?_ | ((first | refine cR hTk ?_ | refine cR hDM ?_ | refine cR hCm ?_ | refine cR hUp ?_ | refine cR hTp ?_ | refine cR hCp ?_ | refine cR hZN ?_ | refine cR hDN ?_ | refine cR hO ?_); refine sX ?_; try refine aA ?_)) | ((first | refine cR hTk ?_ | refine cR hDM ?_ | refine cR hCm ?_ | refine cR hUp ?_ | refine cR hTp ?_ | refine cR hCp ?_ | refine cR hZN ?_ | refine cR hDN ?_ | refine cR hO ?_); refine sX ?_; try refine aA ?_) | refine gS ?_)
            (refine FinQ hQ (congrArg Array.toList Tryz.results95) _ _ ?_); simp (disch := omega) only [u, i64, ax, if_true, forall_const, reduceCtorEq, implies_true, tvs, bf]
            all_goals rfl
          · rw [if_neg (fun h => b5 h.2)]
            unfold fdv
            by_cases ha : exp + dg mag - 1 < 1 - g
            · rw [if_pos ha]
              refine RetN_start Tryz.func95 (by kernel_rfl) rfl fun Q hQ hQ2 => ?_; rw [Tryz.ntmps95]; simp only [u, i64, Nat.reduceSub, Nat.reduceAdd, bm]
              repeat (first | (refine gC ?_; first | refine aA ?_ | ((first | refine cR hF ?_ | refine cR hD ?_); refine sX ?_; try refine aA ?_)) | ((first | refine cR hF ?_ | refine cR hD ?_); refine sX ?_; try refine aA ?_) | refine gS ?_)
              (refine gC ?_)
              rw [← hst, hcast]
              repeat (first | (refine gC ?_; first | refine aA ?_ | ((first | refine cR hTk ?_ | refine cR hDM ?_ | refine cR hCm ?_ | refine cR hUp ?_ | refine cR hTp ?_ | refine cR hCp ?_ | refine cR hZN ?_ | refine cR hDN ?_); refine sX ?_; try refine aA ?_)) | ((first | refine cR hTk ?_ | refine cR hDM ?_ | refine cR hCm ?_ | refine cR hUp ?_ | refine cR hTp ?_ | refine cR hCp ?_ | refine cR hZN ?_ | refine cR hDN ?_); refine sX ?_; try refine aA ?_) | refine gS ?_)
              rw [hor]
              (refine FinQ hQ (congrArg Array.toList Tryz.results95) _ _ ?_); simp (disch := omega) only [u, i64, ax, if_true, forall_const, reduceCtorEq, implies_true, tvs, bf]
              all_goals rfl
            · rw [if_neg ha]
              refine RetN_start Tryz.func95 (by kernel_rfl) rfl fun Q hQ hQ2 => ?_; rw [Tryz.ntmps95]; simp only [u, i64, Nat.reduceSub, Nat.reduceAdd, bm]
              repeat (first | (refine gC ?_; first | refine aA ?_ | ((first | refine cR hF ?_ | refine cR hD ?_); refine sX ?_; try refine aA ?_)) | ((first | refine cR hF ?_ | refine cR hD ?_); refine sX ?_; try refine aA ?_) | refine gS ?_)
              (refine gC ?_)
              rw [← hst, hcast]
              repeat (first | (refine gC ?_; first | refine aA ?_ | ((first | refine cR hTk ?_ | refine cR hDM ?_ | refine cR hCm ?_ | refine cR hUp ?_ | refine cR hTp ?_ | refine cR hCp ?_ | refine cR hZN ?_ | refine cR hDN ?_); refine sX ?_; try refine aA ?_)) | ((first | refine cR hTk ?_ | refine cR hDM ?_ | refine cR hCm ?_ | refine cR hUp ?_ | refine cR hTp ?_ | refine cR hCp ?_ | refine cR hZN ?_ | refine cR hDN ?_); refine sX ?_; try refine aA ?_) | refine gS ?_)
              (refine FinQ hQ (congrArg Array.toList Tryz.results95) _ _ ?_); simp (disch := omega) only [u, i64, ax, if_true, forall_const, reduceCtorEq, implies_true, tvs, bf]
              all_goals rfl
end Go.Proofs
