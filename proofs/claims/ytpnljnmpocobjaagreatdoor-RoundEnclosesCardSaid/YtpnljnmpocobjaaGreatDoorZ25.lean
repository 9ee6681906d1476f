/-
  Contracts of functions of the program, each proved by a walk.
-/
import Derived.Test.YtpnljnmpocobjaaGreatDoorZ24
import Derived.Test.YtpnljnmpocobjaaGreatDoorZ23
set_option maxRecDepth 100000
set_option linter.unusedVariables false
set_option linter.unusedSimpArgs false
namespace Go.Proofs
open Go.Ax
theorem ret_power (e : Int) : Ret Tryz.prog GEs 251 [i64 e] (.agg [i64 1, .bool false, i64 e, ws [1]]) := by
  refine RetN_start Tryz.func251 (by kernel_rfl) rfl fun Q hQ hQ2 => ?_; rw [Tryz.ntmps251]; simp only [u, i64, Nat.reduceSub, Nat.reduceAdd, bm]
  (refine gO ?_)
  (refine FinQ hQ (congrArg Array.toList Tryz.results251) _ _ ?_); simp (disch := omega) only [u, i64, ax, if_true, forall_const, reduceCtorEq, implies_true, tvs, bf]
  rfl
set_option maxRecDepth 100000 in
set_option maxHeartbeats 1000000 in
theorem ret_Limits (k p : Nat) (h : okFm k p) : Ret Tryz.prog GEs 228 [.agg [i64 k, i64 p]]
    (.tup [flv (topF p (gF k) false), .agg [i64 1, .bool false, i64 (1 - gF k), ws [1]], .agg [i64 1, .bool false, i64 (1 - gF k - ((p - 1 : Nat) : Int)), ws [1]], i64 0]) := by
  have hR := ret_fRange k p h
  have hg := gF_le (k := k) (by omega) (by omega)
  have hS := ret_Shl [1] p (fun x hx => by simp at hx; subst hx; decide) (by decide) (by omega)
  rw [show val [1] = 1 from rfl, Nat.one_mul] at hS
  have hl : (words (2 ^ p)).length ≤ 5 := le_pow_words (Nat.le_refl _) (by omega)
  have hp1 := Nat.two_pow_pos p
  have hB := ret_Sub (words (2 ^ p)) [1] (Wd_words _) (fun x hx => by simp at hx; subst hx; decide) (by omega) (by decide) (by rw [val_words]; exact hp1)
  rw [val_words, show val [1] = 1 from rfl] at hB
  unfold flv topF
  generalize gF k = G at *
  refine RetN_start Tryz.func228 (by kernel_rfl) rfl fun Q hQ hQ2 => ?_; rw [Tryz.ntmps228]; simp only [u, i64, Nat.reduceSub, Nat.reduceAdd, bm]
  repeat (first | (refine gC ?_; first | refine aA ?_ | ((first | refine cR hR ?_ | refine cR hS ?_ | refine cR hB ?_ | refine cR (ret_power (1 - G)) ?_ | refine cR (ret_power (1 - G - ((p - 1 : Nat) : Int))) ?_); refine sX ?_; try refine aA ?_)) | ((first | refine cR hR ?_ | refine cR hS ?_ | refine cR hB ?_ | refine cR (ret_power (1 - G)) ?_ | refine cR (ret_power (1 - G - ((p - 1 : Nat) : Int))) ?_); refine sX ?_; try refine aA ?_) | refine gS ?_)
  (refine FinQ hQ (congrArg Array.toList Tryz.results228) _ _ ?_); simp (disch := omega) only [u, i64, ax, if_true, forall_const, reduceCtorEq, implies_true, tvs, bf]
  rfl
end Go.Proofs
set_option linter.unusedVariables false
set_option linter.unusedSimpArgs false
namespace Go.Proofs
open Go.Ax
set_option maxRecDepth 100000 in
set_option maxHeartbeats 2000000 in
theorem ret_Float (k p : Nat) (h : okFm k p) (r : Nat) (hr : r ≤ 4) (neg : Bool) (q : Nat) (exp : Int) (sticky : Bool) (hq : (words q).length ≤ 100000) (h1 : -1099511627776 ≤ exp) (h2 : exp ≤ 1099511627776)
    (hu : 1 ≤ stpF p (gF k) (exp + bl q - 1) - exp) :
    Ret Tryz.prog GEs 158 [.agg [i64 k, i64 p], i64 r, .bool neg, nat q, i64 exp, .bool sticky] (.tup [flv (finF p (gF k) r neg q exp sticky).1, i64 (finF p (gF k) r neg q exp sticky).2]) := by
  have hR := ret_fRange k p h
  have hLm : Ret Tryz.prog GEs 228 [.agg [i64 k, i64 p]] (.tup [.agg [i64 1, .bool false, i64 (gF k - p + 1), nat (2 ^ p - 1)], .agg [i64 1, .bool false, i64 (1 - gF k), ws [1]], .agg [i64 1, .bool false, i64 (1 - gF k - ((p - 1 : Nat) : Int)), ws [1]], i64 0]) := ret_Limits k p h
  have hg := gF_le (k := k) (by omega) (by omega)
  have hL := ret_Len (words q) (Wd_words _) (by omega)
  rw [val_words] at hL
  have hb := bl_len q
  have hSt := ret_finStep k p h (exp + bl q - 1) (by omega) (by omega)
  have hsm := stpF_max p (gF k) (exp + bl q - 1)
  unfold finF
  simp only
  generalize he : exp + bl q - 1 = e at *
  generalize gF k = G at *
  generalize stpF p G e = U at *
  have hsub : U - exp = (((U - exp).toNat : Nat) : Int) := by omega
  have ht1 : 1 ≤ (U - exp).toNat := by omega
  have ht2 : (U - exp).toNat ≤ 4398046511104 := by omega
  generalize (U - exp).toNat = t at *
  have hC := ret_cut q t ht1 (by omega) (by omega) sticky
  have hx : cutC q t sticky ≤ 3 := by unfold cutC; split <;> split <;> omega
  generalize cutC q t sticky = x at *
  have hql : (words (q / 2 ^ t)).length ≤ 100000 := Nat.le_trans (length_mono (Nat.div_le_self _ _)) hq
  have hU := ret_up r hr neg (q / 2 ^ t) (by omega) x hx
  have hNl := length_add (q / 2 ^ t) (if moreF r neg (decide (q / 2 ^ t % 2 = 1)) x = true then 1 else 0)
  have hNl2 : (words (if moreF r neg (decide (q / 2 ^ t % 2 = 1)) x = true then 1 else 0)).length ≤ 1 := length_le (by split <;> decide)
  generalize (q / 2 ^ t + if moreF r neg (decide (q / 2 ^ t % 2 = 1)) x = true then 1 else 0) = N at *
  have hLN := ret_Len (words N) (Wd_words _) (by omega)
  rw [val_words] at hLN
  have hbN := bl_len N
  by_cases hov : G < U + bl N - 1
  · rw [if_pos hov]
    have hGr := ret_greatest r hr neg
    unfold overF
    by_cases hgr : grtF r neg = true
    · rw [hgr] at hGr
      rw [if_pos hgr]
      refine RetN_start Tryz.func158 (by kernel_rfl) rfl fun Q hQ hQ2 => ?_; rw [Tryz.ntmps158]; simp only [u, i64, Nat.reduceSub, Nat.reduceAdd, bm]
      repeat (first | (refine gC ?_; first | refine aA ?_ | ((first | refine cR hR ?_ | refine cR hL ?_); refine sX ?_; try refine aA ?_)) | ((first | refine cR hR ?_ | refine cR hL ?_); refine sX ?_; try refine aA ?_) | refine gS ?_)
      (refine gC ?_)
      rw [he]
      repeat (first | (refine gC ?_; first | refine aA ?_ | (refine cR hSt ?_; refine sX ?_; try refine aA ?_)) | (refine cR hSt ?_; refine sX ?_; try refine aA ?_) | refine gS ?_)
      (refine gC ?_)
      rw [hsub]
      repeat (first | (refine gC ?_; first | refine aA ?_ | ((first | refine cR hC ?_ | refine cR hU ?_ | refine cR hLN ?_ | refine cR hGr ?_ | refine cR hLm ?_); refine sX ?_; try refine aA ?_)) | ((first | refine cR hC ?_ | refine cR hU ?_ | refine cR hLN ?_ | refine cR hGr ?_ | refine cR hLm ?_); refine sX ?_; try refine aA ?_) | refine gS ?_)
      (refine FinQ hQ (congrArg Array.toList Tryz.results158) _ _ ?_); simp (disch := omega) only [u, i64, ax, if_true, forall_const, reduceCtorEq, implies_true, tvs, bf]
      all_goals rfl
    · rw [Bool.not_eq_true] at hgr
      rw [hgr] at hGr
      rw [if_neg (by rw [hgr]; decide)]
      refine RetN_start Tryz.func158 (by kernel_rfl) rfl fun Q hQ hQ2 => ?_; rw [Tryz.ntmps158]; simp only [u, i64, Nat.reduceSub, Nat.reduceAdd, bm]
      repeat (first | (refine gC ?_; first | refine aA ?_ | ((first | refine cR hR ?_ | refine cR hL ?_); refine sX ?_; try refine aA ?_)) | ((first | refine cR hR ?_ | refine cR hL ?_); refine sX ?_; try refine aA ?_) | refine gS ?_)
      (refine gC ?_)
      rw [he]
      repeat (first | (refine gC ?_; first | refine aA ?_ | (refine cR hSt ?_; refine sX ?_; try refine aA ?_)) | (refine cR hSt ?_; refine sX ?_; try refine aA ?_) | refine gS ?_)
      (refine gC ?_)
      rw [hsub]
      repeat (first | (refine gC ?_; first | refine aA ?_ | ((first | refine cR hC ?_ | refine cR hU ?_ | refine cR hLN ?_ | refine cR hGr ?_); refine sX ?_; try refine aA ?_)) | ((first | refine cR hC ?_ | refine cR hU ?_ | refine cR hLN ?_ | refine cR hGr ?_); refine sX ?_; try refine aA ?_) | refine gS ?_)
      (refine FinQ hQ (congrArg Array.toList Tryz.results158) _ _ ?_); simp (disch := omega) only [u, i64, ax, if_true, forall_const, reduceCtorEq, implies_true, tvs, bf]
      all_goals rfl
  · rw [if_neg hov]
    have hM := ret_finMake neg N U (by omega) (by omega) (by omega)
    generalize mkF neg N U = y at *
    unfold flv at hM ⊢
    by_cases hx0 : x = 0
    · subst hx0
      rw [if_pos rfl]
      refine RetN_start Tryz.func158 (by kernel_rfl) rfl fun Q hQ hQ2 => ?_; rw [Tryz.ntmps158]; simp only [u, i64, Nat.reduceSub, Nat.reduceAdd, bm]
      repeat (first | (refine gC ?_; first | refine aA ?_ | ((first | refine cR hR ?_ | refine cR hL ?_); refine sX ?_; try refine aA ?_)) | ((first | refine cR hR ?_ | refine cR hL ?_); refine sX ?_; try refine aA ?_) | refine gS ?_)
      (refine gC ?_)
      rw [he]
      repeat (first | (refine gC ?_; first | refine aA ?_ | (refine cR hSt ?_; refine sX ?_; try refine aA ?_)) | (refine cR hSt ?_; refine sX ?_; try refine aA ?_) | refine gS ?_)
      (refine gC ?_)
      rw [hsub]
      repeat (first | (refine gC ?_; first | refine aA ?_ | ((first | refine cR hC ?_ | refine cR hU ?_ | refine cR hLN ?_ | refine cR hM ?_); refine sX ?_; try refine aA ?_)) | ((first | refine cR hC ?_ | refine cR hU ?_ | refine cR hLN ?_ | refine cR hM ?_); refine sX ?_; try refine aA ?_) | refine gS ?_)
      (refine FinQ hQ (congrArg Array.toList Tryz.results158) _ _ ?_); simp (disch := omega) only [u, i64, ax, if_true, forall_const, reduceCtorEq, implies_true, tvs, bf]
      all_goals rfl
    · rw [if_neg hx0]
      by_cases hle : e < 1 - G
      · rw [if_pos hle]
        refine RetN_start Tryz.func158 (by kernel_rfl) rfl fun Q hQ hQ2 => ?_; rw [Tryz.ntmps158]; simp only [u, i64, Nat.reduceSub, Nat.reduceAdd, bm]
        repeat (first | (refine gC ?_; first | refine aA ?_ | ((first | refine cR hR ?_ | refine cR hL ?_); refine sX ?_; try refine aA ?_)) | ((first | refine cR hR ?_ | refine cR hL ?_); refine sX ?_; try refine aA ?_) | refine gS ?_)
        (refine gC ?_)
        rw [he]
        repeat (first | (refine gC ?_; first | refine aA ?_ | (refine cR hSt ?_; refine sX ?_; try refine aA ?_)) | (refine cR hSt ?_; refine sX ?_; try refine aA ?_) | refine gS ?_)
        (refine gC ?_)
        rw [hsub]
        repeat (first | (refine gC ?_; first | refine aA ?_ | ((first | refine cR hC ?_ | refine cR hU ?_ | refine cR hLN ?_ | refine cR hM ?_); refine sX ?_; try refine aA ?_)) | ((first | refine cR hC ?_ | refine cR hU ?_ | refine cR hLN ?_ | refine cR hM ?_); refine sX ?_; try refine aA ?_) | refine gS ?_)
        (refine FinQ hQ (congrArg Array.toList Tryz.results158) _ _ ?_); simp (disch := omega) only [u, i64, ax, if_true, forall_const, reduceCtorEq, implies_true, tvs, bf]
        all_goals rfl
      · rw [if_neg hle]
        refine RetN_start Tryz.func158 (by kernel_rfl) rfl fun Q hQ hQ2 => ?_; rw [Tryz.ntmps158]; simp only [u, i64, Nat.reduceSub, Nat.reduceAdd, bm]
        repeat (first | (refine gC ?_; first | refine aA ?_ | ((first | refine cR hR ?_ | refine cR hL ?_); refine sX ?_; try refine aA ?_)) | ((first | refine cR hR ?_ | refine cR hL ?_); refine sX ?_; try refine aA ?_) | refine gS ?_)
        (refine gC ?_)
        rw [he]
        repeat (first | (refine gC ?_; first | refine aA ?_ | (refine cR hSt ?_; refine sX ?_; try refine aA ?_)) | (refine cR hSt ?_; refine sX ?_; try refine aA ?_) | refine gS ?_)
        (refine gC ?_)
        rw [hsub]
        repeat (first | (refine gC ?_; first | refine aA ?_ | ((first | refine cR hC ?_ | refine cR hU ?_ | refine cR hLN ?_ | refine cR hM ?_); refine sX ?_; try refine aA ?_)) | ((first | refine cR hC ?_ | refine cR hU ?_ | refine cR hLN ?_ | refine cR hM ?_); refine sX ?_; try refine aA ?_) | refine gS ?_)
        (refine FinQ hQ (congrArg Array.toList Tryz.results158) _ _ ?_); simp (disch := omega) only [u, i64, ax, if_true, forall_const, reduceCtorEq, implies_true, tvs, bf]
        all_goals rfl
end Go.Proofs
set_option linter.unusedVariables false
set_option linter.unusedSimpArgs false
namespace Go.Proofs
open Go.Ax
theorem length_bl {n k : Nat} (h : bl n ≤ 64 * k) : (words n).length ≤ k := length_le (by
  rw [Bpow]
  exact Nat.lt_of_lt_of_le (bl_lt n) (Nat.pow_le_pow_right (by decide) h))
theorem bl_valL {xs : List Nat} (h : Wd xs) : bl (val xs) ≤ 64 * xs.length := Nat.le_trans (bl_len _) (Nat.mul_le_mul_left _ (length_words_val_le h))
set_option maxRecDepth 100000 in
set_option maxHeartbeats 2000000 in
theorem ret_finRatio (k p : Nat) (h : okFm k p) (r : Nat) (hr : r ≤ 4) (neg : Bool) (ns dn : List Nat) (hn : Wd ns) (hd : Wd dn) (hln : ns.length ≤ 4096) (hld : dn.length ≤ 4096) (hn0 : val ns ≠ 0) (hd0 : val dn ≠ 0) :
    Ret Tryz.prog GEs 75 [.agg [i64 k, i64 p], i64 r, .bool neg, ws ns, ws dn, i64 0] (.tup [flv (rndF p (gF k) r neg (val ns) (val dn)).1, i64 (rndF p (gF k) r neg (val ns) (val dn)).2]) := by
  have hLn := ret_Len ns hn (by omega)
  have hLd := ret_Len dn hd (by omega)
  have hbn := bl_valL hn
  have hbd := bl_valL hd
  have hfe := finF_eq p (gF k) r neg (val ns) (val dn) (by omega) hn0 hd0
  obtain ⟨hf1, hf2⟩ := preS_facts p (val ns) (val dn) hn0 hd0
  have hps : preS p (val ns) (val dn) = ((p : Int) + 3 - bl (val ns) + bl (val dn)).toNat := rfl
  have hsm := stpF_max p (gF k) (-(preS p (val ns) (val dn) : Int) + bl (val ns * 2 ^ preS p (val ns) (val dn) / val dn) - 1)
  have hS := ret_Shl ns (preS p (val ns) (val dn)) hn (by omega) (by omega)
  have hnb : bl (val ns * 2 ^ preS p (val ns) (val dn)) = bl (val ns) + preS p (val ns) (val dn) := bl_mul _ _ hn0
  have hnl : (words (val ns * 2 ^ preS p (val ns) (val dn))).length ≤ 10000 := length_bl (by omega)
  have hql : (words (val ns * 2 ^ preS p (val ns) (val dn) / val dn)).length ≤ 10000 := Nat.le_trans (length_mono (Nat.div_le_self _ _)) hnl
  have hrl : (words (val ns * 2 ^ preS p (val ns) (val dn) % val dn)).length ≤ 10000 := Nat.le_trans (length_mono (Nat.mod_le _ _)) hnl
  have hF := ret_Float k p h r hr neg (val ns * 2 ^ preS p (val ns) (val dn) / val dn) (-(preS p (val ns) (val dn) : Int)) (decide (val ns * 2 ^ preS p (val ns) (val dn) % val dn ≠ 0)) (by omega) (by omega) (by omega) (by omega)
  rw [hfe] at hF
  have hZ := ret_Zero (words (val ns * 2 ^ preS p (val ns) (val dn) % val dn)) (Wd_words _) (by omega)
  rw [val_words] at hZ
  generalize rndF p (gF k) r neg (val ns) (val dn) = y at *
  obtain ⟨y, fl⟩ := y
  unfold flv at hF ⊢
  have hnot : (!decide (val ns * 2 ^ preS p (val ns) (val dn) % val dn = 0)) = decide (val ns * 2 ^ preS p (val ns) (val dn) % val dn ≠ 0) := by simp
  by_cases hs : 0 < (p : Int) + 3 - bl (val ns) + bl (val dn)
  · have hsn : ((p + 3 : Nat) : Int) - bl (val ns) + bl (val dn) = ((preS p (val ns) (val dn) : Nat) : Int) := by omega
    have hD := ret_DivMod (words (val ns * 2 ^ preS p (val ns) (val dn))) dn (Wd_words _) hd (by omega) (by omega) hd0
    rw [val_words] at hD
    generalize preS p (val ns) (val dn) = t at *
    refine RetN_start Tryz.func75 (by kernel_rfl) rfl fun Q hQ hQ2 => ?_; rw [Tryz.ntmps75]; simp only [u, i64, Nat.reduceSub, Nat.reduceAdd, bm]
    repeat (first | (refine gC ?_; first | refine aA ?_ | ((first | refine cR hLn ?_ | refine cR hLd ?_); refine sX ?_; try refine aA ?_)) | ((first | refine cR hLn ?_ | refine cR hLd ?_); refine sX ?_; try refine aA ?_) | refine gS ?_)
    (refine gC ?_)
    rw [hsn]
    repeat (first | (refine gC ?_; first | refine aA ?_ | ((first | refine cR hS ?_ | refine cR hD ?_); refine sX ?_; try refine aA ?_)) | ((first | refine cR hS ?_ | refine cR hD ?_); refine sX ?_; try refine aA ?_) | refine gS ?_)
    (refine gC ?_)
    (refine cR hZ ?_; refine sX ?_; try refine aA ?_)
    rw [hnot, Int.zero_sub]
    repeat (first | (refine gC ?_; first | refine aA ?_ | (refine cR hF ?_; refine sX ?_; try refine aA ?_)) | (refine cR hF ?_; refine sX ?_; try refine aA ?_) | refine gS ?_)
    (refine FinQ hQ (congrArg Array.toList Tryz.results75) _ _ ?_); simp (disch := omega) only [u, i64, ax, if_true, forall_const, reduceCtorEq, implies_true, tvs, bf]
    all_goals rfl
  · have hsn : preS p (val ns) (val dn) = 0 := by omega
    rw [hsn, Nat.pow_zero, Nat.mul_one] at hF hZ hnot
    have hD := ret_DivMod ns dn hn hd (by omega) (by omega) hd0
    refine RetN_start Tryz.func75 (by kernel_rfl) rfl fun Q hQ hQ2 => ?_; rw [Tryz.ntmps75]; simp only [u, i64, Nat.reduceSub, Nat.reduceAdd, bm]
    repeat (first | (refine gC ?_; first | refine aA ?_ | ((first | refine cR hLn ?_ | refine cR hLd ?_ | refine cR hD ?_); refine sX ?_; try refine aA ?_)) | ((first | refine cR hLn ?_ | refine cR hLd ?_ | refine cR hD ?_); refine sX ?_; try refine aA ?_) | refine gS ?_)
    (refine gC ?_)
    (refine cR hZ ?_; refine sX ?_; try refine aA ?_)
    rw [hnot]
    rw [show (0 : Int) - 0 = -((0 : Nat) : Int) from rfl]
    repeat (first | (refine gC ?_; first | refine aA ?_ | (refine cR hF ?_; refine sX ?_; try refine aA ?_)) | (refine cR hF ?_; refine sX ?_; try refine aA ?_) | refine gS ?_)
    (refine FinQ hQ (congrArg Array.toList Tryz.results75) _ _ ?_); simp (disch := omega) only [u, i64, ax, if_true, forall_const, reduceCtorEq, implies_true, tvs, bf]
    all_goals rfl
/-- The error of a format, a rounding and a number. -/
def errR (r k p : Int) (nl dl v : Nat) : Nat := if errQ r nl dl v ≠ 0 then errQ r nl dl v else if okFm k p then 0 else 150
abbrev flz : AV := .agg [i64 0, .bool false, i64 0, ws []]
set_option maxRecDepth 100000 in
set_option maxHeartbeats 2000000 in
theorem ret_Round_zero (r k p : Int) (h1 : -9223372036854775808 ≤ r) (h2 : r < 9223372036854775808) (neg : Bool) (ns dn : List Nat) (hn : Wd ns) (hd : Wd dn) (hln : ns.length ≤ 137438953472) (hld : dn.length ≤ 137438953472)
    (he : errR r k p ns.length dn.length (val dn) = 0) (hz : val ns = 0) : Ret Tryz.prog GEs 18 [.agg [i64 k, i64 p], i64 r, .agg [.bool neg, ws ns, ws dn]] (.tup [flz, i64 0, i64 0]) := by
  have hC := ret_check r h1 h2 neg ns dn hn hd hln hld
  have hK := ret_fCheck k p
  unfold errR at he
  split at he
  · rename_i h0; exact absurd he h0
  rename_i h0
  rw [Decidable.not_not] at h0
  split at he
  · rename_i hf
    rw [h0] at hC
    rw [if_pos hf] at hK
    have hZ := ret_Zero ns hn (by omega)
    rw [decT hz] at hZ
    refine RetN_start Tryz.func18 (by kernel_rfl) rfl fun Q hQ hQ2 => ?_; rw [Tryz.ntmps18]; simp only [u, i64, Nat.reduceSub, Nat.reduceAdd, bm]
    repeat (first | (refine gC ?_; first | refine aA ?_ | ((first | refine cR hC ?_ | refine cR hK ?_ | refine cR hZ ?_); refine sX ?_; try refine aA ?_)) | ((first | refine cR hC ?_ | refine cR hK ?_ | refine cR hZ ?_); refine sX ?_; try refine aA ?_) | refine gS ?_)
    (refine FinQ hQ (congrArg Array.toList Tryz.results18) _ _ ?_); simp (disch := omega) only [u, i64, ax, if_true, forall_const, reduceCtorEq, implies_true, tvs, bf]
    all_goals rfl
  · cases he
set_option maxRecDepth 100000 in
set_option maxHeartbeats 2000000 in
theorem ret_Round_ok (r k p : Nat) (hr : r ≤ 4) (hf : okFm k p) (neg : Bool) (ns dn : List Nat) (hn : Wd ns) (hd : Wd dn) (hln : ns.length ≤ 4096) (hld : dn.length ≤ 4096)
    (hn0 : val ns ≠ 0) (hd0 : val dn ≠ 0) : Ret Tryz.prog GEs 18 [.agg [i64 k, i64 p], i64 r, .agg [.bool neg, ws ns, ws dn]] (.tup [flv (rndF p (gF k) r neg (val ns) (val dn)).1, i64 (rndF p (gF k) r neg (val ns) (val dn)).2, i64 0]) := by
  have hC := ret_check r (by omega) (by omega) neg ns dn hn hd (by omega) (by omega)
  rw [errQ_ok (by omega) (by omega) hd0 (by omega)] at hC
  have hK := ret_fCheck k p
  rw [if_pos hf] at hK
  have hZ := ret_Zero ns hn (by omega)
  rw [decF hn0] at hZ
  have hR := ret_finRatio k p hf r hr neg ns dn hn hd hln hld hn0 hd0
  generalize rndF p (gF k) r neg (val ns) (val dn) = y at *
  obtain ⟨y, fl⟩ := y
  unfold flv at hR ⊢
  refine RetN_start Tryz.func18 (by kernel_rfl) rfl fun Q hQ hQ2 => ?_; rw [Tryz.ntmps18]; simp only [u, i64, Nat.reduceSub, Nat.reduceAdd, bm]
  repeat (first | (refine gC ?_; first | refine aA ?_ | ((first | refine cR hC ?_ | refine cR hK ?_ | refine cR hZ ?_ | refine cR hR ?_); refine sX ?_; try refine aA ?_)) | ((first | refine cR hC ?_ | refine cR hK ?_ | refine cR hZ ?_ | refine cR hR ?_); refine sX ?_; try refine aA ?_) | refine gS ?_)
  (refine FinQ hQ (congrArg Array.toList Tryz.results18) _ _ ?_); simp (disch := omega) only [u, i64, ax, if_true, forall_const, reduceCtorEq, implies_true, tvs, bf]
  all_goals rfl
end Go.Proofs
set_option linter.unusedVariables false
set_option linter.unusedSimpArgs false
namespace Go.Proofs
open Go.Ax
set_option maxRecDepth 100000 in
set_option maxHeartbeats 4000000 in
theorem ret_Right15 (k p : Int) : Ret Tryz.prog GEs 162 [.agg [i64 k, i64 p]] (.bool (decide (okFm k p))) := by
  by_cases a1 : k < 2
  · rw [decF (show ¬ okFm k p by omega)]
    refine RetN_start Tryz.func162 (by kernel_rfl) rfl fun Q hQ hQ2 => ?_; rw [Tryz.ntmps162]; simp only [u, i64, Nat.reduceSub, Nat.reduceAdd, bm]
    (refine gO ?_)
    (refine FinQ hQ (congrArg Array.toList Tryz.results162) _ _ ?_); simp (disch := omega) only [u, i64, ax, if_true, forall_const, reduceCtorEq, implies_true, tvs, bf]
  by_cases a2 : 15 < k
  · rw [decF (show ¬ okFm k p by omega)]
    refine RetN_start Tryz.func162 (by kernel_rfl) rfl fun Q hQ hQ2 => ?_; rw [Tryz.ntmps162]; simp only [u, i64, Nat.reduceSub, Nat.reduceAdd, bm]
    (refine gO ?_)
    (refine FinQ hQ (congrArg Array.toList Tryz.results162) _ _ ?_); simp (disch := omega) only [u, i64, ax, if_true, forall_const, reduceCtorEq, implies_true, tvs, bf]
  by_cases a3 : p < 2
  · rw [decF (show ¬ okFm k p by omega)]
    refine RetN_start Tryz.func162 (by kernel_rfl) rfl fun Q hQ hQ2 => ?_; rw [Tryz.ntmps162]; simp only [u, i64, Nat.reduceSub, Nat.reduceAdd, bm]
    (refine gO ?_)
    (refine FinQ hQ (congrArg Array.toList Tryz.results162) _ _ ?_); simp (disch := omega) only [u, i64, ax, if_true, forall_const, reduceCtorEq, implies_true, tvs, bf]
  by_cases a4 : 256 < p
  · rw [decF (show ¬ okFm k p by omega)]
    refine RetN_start Tryz.func162 (by kernel_rfl) rfl fun Q hQ hQ2 => ?_; rw [Tryz.ntmps162]; simp only [u, i64, Nat.reduceSub, Nat.reduceAdd, bm]
    (refine gO ?_)
    (refine FinQ hQ (congrArg Array.toList Tryz.results162) _ _ ?_); simp (disch := omega) only [u, i64, ax, if_true, forall_const, reduceCtorEq, implies_true, tvs, bf]
  rw [decT (show okFm k p by omega)]
  refine RetN_start Tryz.func162 (by kernel_rfl) rfl fun Q hQ hQ2 => ?_; rw [Tryz.ntmps162]; simp only [u, i64, Nat.reduceSub, Nat.reduceAdd, bm]
  (refine gO ?_)
  (refine FinQ hQ (congrArg Array.toList Tryz.results162) _ _ ?_); simp (disch := omega) only [u, i64, ax, if_true, forall_const, reduceCtorEq, implies_true, tvs, bf]
set_option maxRecDepth 100000 in
set_option maxHeartbeats 2000000 in
theorem ret_Check15 (k p : Int) : Ret Tryz.prog GEs 77 [.agg [i64 k, i64 p], .emp] (i64 (if okFm k p then 0 else 150)) := by
  have hR := ret_Right15 k p
  by_cases h : okFm k p
  · rw [decT h] at hR
    rw [if_pos h]
    refine RetN_start Tryz.func77 (by kernel_rfl) rfl fun Q hQ hQ2 => ?_; rw [Tryz.ntmps77]; simp only [u, i64, Nat.reduceSub, Nat.reduceAdd, bm]
    (refine gO ?_)
    refine AWp_loop (fun _ : Unit => mk 42 [(0, .agg [i64 k, i64 p]), (1, .emp), (2, .ptr 0 0 0), (4, i64 0), (5, i64 0)] [⟨0, true, [i64 k, i64 p]⟩]) (fun _ => True) (fun _ => 0) () ?_ trivial ?_
    · simp only [u, i64, Nat.reduceSub, Nat.reduceAdd, bm]
    intro _ _
    simp only [u, i64, Nat.reduceSub, Nat.reduceAdd, bm]
    repeat (first | (refine gC ?_; first | refine aA ?_ | (refine cR hR ?_; refine sX ?_; try refine aA ?_)) | (refine cR hR ?_; refine sX ?_; try refine aA ?_) | refine gS ?_)
    refine AWp_loop (fun _ : Unit => mk 42 [(0, .agg [i64 k, i64 p]), (1, .emp), (2, .ptr 0 0 0), (4, i64 0), (6, i64 0)] [⟨0, true, [i64 k, i64 p]⟩]) (fun _ => True) (fun _ => 0) () ?_ trivial ?_
    · simp only [u, i64, Nat.reduceSub, Nat.reduceAdd, bm]
    intro _ _
    simp only [u, i64, Nat.reduceSub, Nat.reduceAdd, bm]
    (refine gO ?_)
    (refine FinQ hQ (congrArg Array.toList Tryz.results77) _ _ ?_); simp (disch := omega) only [u, i64, ax, if_true, forall_const, reduceCtorEq, implies_true, tvs, bf]
  · rw [decF h] at hR
    rw [if_neg h]
    refine RetN_start Tryz.func77 (by kernel_rfl) rfl fun Q hQ hQ2 => ?_; rw [Tryz.ntmps77]; simp only [u, i64, Nat.reduceSub, Nat.reduceAdd, bm]
    (refine gO ?_)
    refine AWp_loop (fun _ : Unit => mk 42 [(0, .agg [i64 k, i64 p]), (1, .emp), (2, .ptr 0 0 0), (4, i64 0), (5, i64 0)] [⟨0, true, [i64 k, i64 p]⟩]) (fun _ => True) (fun _ => 0) () ?_ trivial ?_
    · simp only [u, i64, Nat.reduceSub, Nat.reduceAdd, bm]
    intro _ _
    simp only [u, i64, Nat.reduceSub, Nat.reduceAdd, bm]
    repeat (first | (refine gC ?_; first | refine aA ?_ | (refine cR hR ?_; refine sX ?_; try refine aA ?_)) | (refine cR hR ?_; refine sX ?_; try refine aA ?_) | refine gS ?_)
    (refine FinQ hQ (congrArg Array.toList Tryz.results77) _ _ ?_); simp (disch := omega) only [u, i64, ax, if_true, forall_const, reduceCtorEq, implies_true, tvs, bf]
set_option maxRecDepth 100000 in
set_option maxHeartbeats 2000000 in
theorem ret_Bits (xs : List Nat) (hx : Wd xs) (hl : xs.length ≤ 1000000) : Ret Tryz.prog GEs 174 [ws xs] (.tup [i64 (bitsI (val xs) (bl (val xs)) 0).1, i64 (bitsI (val xs) (bl (val xs)) 0).2]) := by
  have hL := ret_rLen xs hx (by omega)
  have hb := bl_valL hx
  have hBt := fun i (hi : i ≤ 64000000) => ret_rBit xs i hx (by omega) (by omega)
  have htop := bitsI_top (val xs)
  have hst := bitsI_step (val xs) (bl (val xs))
  have hbd : ∀ j, j ≤ bl (val xs) → (bitsI (val xs) (bl (val xs)) j).1 ≤ 64000000 ∧ (bitsI (val xs) (bl (val xs)) j).2 ≤ bl (val xs) - j := fun j hj => by
    obtain ⟨k, hk⟩ : ∃ k, j + k = bl (val xs) := ⟨bl (val xs) - j, by omega⟩
    induction k generalizing j with
    | zero => rw [show j = bl (val xs) by omega, htop]; exact ⟨by omega, by omega⟩
    | succ k ih =>
      obtain ⟨h1, h2⟩ := ih (j + 1) (by omega) (by omega)
      rw [hst j (by omega)]
      split
      · exact ⟨by show j ≤ _; omega, by show _ + 1 ≤ _; omega⟩
      · exact ⟨h1, by omega⟩
  generalize bl (val xs) = L at *
  generalize val xs = n at *
  refine RetN_start Tryz.func174 (by kernel_rfl) rfl fun Q hQ hQ2 => ?_; rw [Tryz.ntmps174]; simp only [u, i64, Nat.reduceSub, Nat.reduceAdd, bm]
  repeat (first | (refine gC ?_; first | refine aA ?_ | (refine cR hL ?_; refine sX ?_; try refine aA ?_)) | (refine cR hL ?_; refine sX ?_; try refine aA ?_) | refine gS ?_)
  refine AWp_loop (fun j : Nat => mk 22 [(0, ws xs), (2, i64 0), (3, i64 0), (4, i64 (bitsI n L j).1), (5, i64 (bitsI n L j).2), (6, i64 ((j : Int) - 1))] []) (fun j => j ≤ L) (fun j => j) L ?_ (Nat.le_refl _) ?_
  · rw [htop]
    simp only [u, i64, Nat.reduceSub, Nat.reduceAdd, bm]
  intro j hj
  simp only [u, i64, Nat.reduceSub, Nat.reduceAdd, bm]
  cases j with
  | zero =>
    (refine gO ?_)
    (refine FinQ hQ (congrArg Array.toList Tryz.results174) _ _ ?_); simp (disch := omega) only [u, i64, ax, if_true, forall_const, reduceCtorEq, implies_true, tvs, bf]
  | succ j =>
    have hB := hBt j (by omega)
    obtain ⟨b1, b2⟩ := hbd (j + 1) hj
    have hs := hst j (by omega)
    rw [show ((j + 1 : Nat) : Int) - 1 = (j : Int) by omega]
    by_cases ho : n / 2 ^ j % 2 = 1
    · rw [decT ho] at hB
      rw [if_pos ho] at hs
      repeat (first | (refine gC ?_; first | refine aA ?_ | (refine cR hB ?_; refine sX ?_; try refine aA ?_)) | (refine cR hB ?_; refine sX ?_; try refine aA ?_) | refine gS ?_)
      refine ⟨j, ?_, by omega, by omega⟩
      rw [hs]
      simp only [u, i64, Nat.reduceSub, Nat.reduceAdd, bm]
    · rw [decF ho] at hB
      rw [if_neg ho] at hs
      repeat (first | (refine gC ?_; first | refine aA ?_ | (refine cR hB ?_; refine sX ?_; try refine aA ?_)) | (refine cR hB ?_; refine sX ?_; try refine aA ?_) | refine gS ?_)
      refine ⟨j, ?_, by omega, by omega⟩
      rw [hs]
      simp only [u, i64, Nat.reduceSub, Nat.reduceAdd, bm]
end Go.Proofs
