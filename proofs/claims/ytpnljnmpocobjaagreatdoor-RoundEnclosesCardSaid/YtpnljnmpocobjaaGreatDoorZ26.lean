/-
  Contracts of functions of the program, each proved by a walk.
-/
import Derived.Test.YtpnljnmpocobjaaGreatDoorZ24
import Derived.Test.YtpnljnmpocobjaaGreatDoorZ25
import Derived.Test.YtpnljnmpocobjaaGreatDoorZ23
import Derived.Test.YtpnljnmpocobjaaGreatDoorZ9
import Derived.Test.YtpnljnmpocobjaaGreatDoorZ7
set_option maxRecDepth 100000
set_option linter.unusedVariables false
set_option linter.unusedSimpArgs false
namespace Go.Proofs
open Go.Ax
set_option maxRecDepth 100000 in
set_option maxHeartbeats 1000000 in
theorem ret_odd (kd : Int) (neg : Bool) (e : Int) (xs : List Nat) (hx : Wd xs) (hl : xs.length ≤ 1000000) (h0 : val xs ≠ 0) (h1 : -1099511627776 ≤ e) (h2 : e ≤ 1099511627776) :
    Ret Tryz.prog GEs 85 [.agg [i64 kd, .bool neg, i64 e, ws xs]] (.tup [nat (val xs / 2 ^ tz (val xs)), i64 (e + tz (val xs))]) := by
  have hB := ret_Bits xs hx hl
  rw [bitsI_zero _ h0] at hB
  have hb := bl_valL hx
  have ht := tz_le_bl (val xs)
  have hR := ret_rRight xs (tz (val xs)) hx (by omega) (by omega)
  refine RetN_start Tryz.func85 (by kernel_rfl) rfl fun Q hQ hQ2 => ?_; rw [Tryz.ntmps85]; simp only [u, i64, Nat.reduceSub, Nat.reduceAdd, bm]
  repeat (first | (refine gC ?_; first | refine aA ?_ | ((first | refine cR hB ?_ | refine cR hR ?_); refine sX ?_; try refine aA ?_)) | ((first | refine cR hB ?_ | refine cR hR ?_); refine sX ?_; try refine aA ?_) | refine gS ?_)
  (refine FinQ hQ (congrArg Array.toList Tryz.results85) _ _ ?_); simp (disch := omega) only [u, i64, ax, if_true, forall_const, reduceCtorEq, implies_true, tvs, bf]
set_option maxRecDepth 100000 in
set_option maxHeartbeats 1000000 in
theorem ret_Good15 (neg : Bool) (e : Int) (xs : List Nat) (hx : Wd xs) (hl : xs.length ≤ 10000) (h0 : val xs ≠ 0) (h1 : -300000 ≤ e) (h2 : e ≤ 300000) :
    Ret Tryz.prog GEs 25 [.agg [i64 1, .bool neg, i64 e, ws xs]] (.bool true) := by
  have hO := ret_odd 1 neg e xs hx (by omega) h0 (by omega) (by omega)
  have hZ := ret_rIsZero xs hx (by omega)
  rw [decF h0] at hZ
  have hb := bl_valL hx
  have ht := tz_le_bl (val xs)
  refine RetN_start Tryz.func25 (by kernel_rfl) rfl fun Q hQ hQ2 => ?_; rw [Tryz.ntmps25]; simp only [u, i64, Nat.reduceSub, Nat.reduceAdd, bm]
  repeat (first | (refine gC ?_; first | refine aA ?_ | ((first | refine cR hZ ?_ | refine cR hO ?_); refine sX ?_; try refine aA ?_)) | ((first | refine cR hZ ?_ | refine cR hO ?_); refine sX ?_; try refine aA ?_) | refine gS ?_)
  (refine FinQ hQ (congrArg Array.toList Tryz.results25) _ _ ?_); simp (disch := omega) only [u, i64, ax, if_true, forall_const, reduceCtorEq, implies_true, tvs, bf]
/-- The canonical float of a right one. -/
def canF (x : FV) : FV := if x.kind = 1 then mkF x.neg x.mag x.exp else ⟨x.kind, x.neg, 0, 0⟩
/-- Two floats are the same. -/
def eqF (x y : FV) : Bool := decide (x.kind = y.kind ∧ x.neg = y.neg ∧ x.exp = y.exp ∧ x.mag = y.mag)
theorem ret_Their (x : FV) : Ret Tryz.prog GEs 26 [flv x] (flv x) := by
  unfold flv
  refine RetN_start Tryz.func26 (by kernel_rfl) rfl fun Q hQ hQ2 => ?_; rw [Tryz.ntmps26]; simp only [u, i64, Nat.reduceSub, Nat.reduceAdd, bm]
  (refine gO ?_)
  (refine FinQ hQ (congrArg Array.toList Tryz.results26) _ _ ?_); simp (disch := omega) only [u, i64, ax, if_true, forall_const, reduceCtorEq, implies_true, tvs, bf]
  all_goals rfl
theorem ret_Fmt (k p : Int) : Ret Tryz.prog GEs 22 [.agg [i64 k, i64 p]] (.agg [i64 k, i64 p]) := by
  refine RetN_start Tryz.func22 (by kernel_rfl) rfl fun Q hQ hQ2 => ?_; rw [Tryz.ntmps22]; simp only [u, i64, Nat.reduceSub, Nat.reduceAdd, bm]
  (refine gO ?_)
  (refine FinQ hQ (congrArg Array.toList Tryz.results22) _ _ ?_); simp (disch := omega) only [u, i64, ax, if_true, forall_const, reduceCtorEq, implies_true, tvs, bf]
end Go.Proofs
set_option linter.unusedVariables false
set_option linter.unusedSimpArgs false
namespace Go.Proofs
open Go.Ax
theorem ret_args16 (r k p : Int) (h1 : -9223372036854775808 ≤ r) (h2 : r < 9223372036854775808) (neg : Bool) (ns dn : List Nat) (hn : Wd ns) (hd : Wd dn) (hln : ns.length ≤ 34359738368) (hld : dn.length ≤ 34359738368) :
    Ret Tryz.prog GEs 19 [.agg [i64 k, i64 p], i64 r, .lst 1 [.bool neg, ws ns, ws dn]] (i64 (errR r k p ns.length dn.length (val dn) : Nat)) := by
  have hA := ret_Args r h1 h2 neg ns dn hn hd hln hld
  have hF := ret_Fmt k p
  have hC := ret_Check15 k p
  unfold errR
  by_cases h0 : errQ r ns.length dn.length (val dn) = 0
  · rw [if_neg (not_not_intro h0)]
    rw [h0] at hA
    by_cases hf : okFm k p
    · rw [if_pos hf] at hC ⊢
      refine RetN_start Tryz.func19 (by kernel_rfl) rfl fun Q hQ hQ2 => ?_; rw [Tryz.ntmps19]; simp only [u, i64, Nat.reduceSub, Nat.reduceAdd, bm]
      repeat (first | (refine gC ?_; first | refine aA ?_ | ((first | refine cR hA ?_ | refine cR hF ?_ | refine cR hC ?_); refine sX ?_; try refine aA ?_)) | ((first | refine cR hA ?_ | refine cR hF ?_ | refine cR hC ?_); refine sX ?_; try refine aA ?_) | refine gS ?_)
      (refine FinQ hQ (congrArg Array.toList Tryz.results19) _ _ ?_); simp (disch := omega) only [u, i64, ax, if_true, forall_const, reduceCtorEq, implies_true, tvs, bf]
      all_goals rfl
    · rw [if_neg hf] at hC ⊢
      refine RetN_start Tryz.func19 (by kernel_rfl) rfl fun Q hQ hQ2 => ?_; rw [Tryz.ntmps19]; simp only [u, i64, Nat.reduceSub, Nat.reduceAdd, bm]
      repeat (first | (refine gC ?_; first | refine aA ?_ | ((first | refine cR hA ?_ | refine cR hF ?_ | refine cR hC ?_); refine sX ?_; try refine aA ?_)) | ((first | refine cR hA ?_ | refine cR hF ?_ | refine cR hC ?_); refine sX ?_; try refine aA ?_) | refine gS ?_)
      (refine FinQ hQ (congrArg Array.toList Tryz.results19) _ _ ?_); simp (disch := omega) only [u, i64, ax, if_true, forall_const, reduceCtorEq, implies_true, tvs, bf]
      all_goals rfl
  · rw [if_pos h0]
    generalize errQ r ns.length dn.length (val dn) = e at *
    refine RetN_start Tryz.func19 (by kernel_rfl) rfl fun Q hQ hQ2 => ?_; rw [Tryz.ntmps19]; simp only [u, i64, Nat.reduceSub, Nat.reduceAdd, bm]
    repeat (first | (refine gC ?_; first | refine aA ?_ | (refine cR hA ?_; refine sX ?_; try refine aA ?_)) | (refine cR hA ?_; refine sX ?_; try refine aA ?_) | refine gS ?_)
    (refine FinQ hQ (congrArg Array.toList Tryz.results19) _ _ ?_); simp (disch := omega) only [u, i64, ax, if_true, forall_const, reduceCtorEq, implies_true, tvs, bf]
    all_goals rfl
end Go.Proofs
set_option linter.unusedVariables false
set_option linter.unusedSimpArgs false
namespace Go.Proofs
open Go.Ax
theorem errR_same {r r' k p : Int} {nl dl v : Nat} (h : 0 ≤ r ∧ r ≤ 4) (h' : 0 ≤ r' ∧ r' ≤ 4) : errR r k p nl dl v = errR r' k p nl dl v := by
  have : errQ r nl dl v = errQ r' nl dl v := by unfold errQ; rw [if_pos h, if_pos h']
  unfold errR
  rw [this]
theorem errR_ok {r k p : Int} {nl dl v : Nat} (h : errR r k p nl dl v = 0) : v ≠ 0 ∧ nl ≤ 4096 ∧ dl ≤ 4096 ∧ (0 ≤ r ∧ r ≤ 4) ∧ okFm k p := by
  unfold errR at h
  split at h
  · rename_i h0; exact absurd h h0
  · rename_i h0
    rw [Decidable.not_not] at h0
    split at h
    · rename_i hf
      unfold errQ at h0
      split at h0
      · cases h0
      · split at h0
        · cases h0
        · split at h0
          · rename_i a b c; exact ⟨b, by omega, by omega, c, hf⟩
          · cases h0
    · cases h
end Go.Proofs
set_option linter.unusedVariables false
set_option linter.unusedSimpArgs false
namespace Go.Proofs
open Go.Ax
/-- What a right float is, if its numbers are small. -/
def wfF (x : FV) : Prop := (x.kind = 1 ∧ x.mag ≠ 0 ∧ -300000 ≤ x.exp ∧ x.exp ≤ 300000 ∧ (words x.mag).length ≤ 5000) ∨ ((x.kind = 0 ∨ x.kind = 2 ∨ (x.kind = 3 ∧ x.neg = false)) ∧ x.exp = 0 ∧ x.mag = 0)
theorem canF_wf {x : FV} (h : wfF x) : (words (canF x).mag).length ≤ 5000 ∧ -700000 ≤ (canF x).exp ∧ (canF x).exp ≤ 700000 := by
  rcases h with ⟨h1, h2, h3, h4, h5⟩ | ⟨h1, h2, h3⟩
  · unfold canF mkF
    rw [if_pos h1, if_neg h2]
    have := bl_len x.mag
    have := tz_le_bl x.mag
    refine ⟨Nat.le_trans (length_mono (Nat.div_le_self _ _)) h5, ?_, ?_⟩ <;> simp only <;> omega
  · unfold canF
    rw [if_neg (by omega)]
    exact ⟨by show (words 0).length ≤ 5000; decide, by show -700000 ≤ (0 : Int); decide, by show (0 : Int) ≤ 700000; decide⟩
set_option maxRecDepth 100000 in
set_option maxHeartbeats 4000000 in
theorem ret_canonical (x : FV) (h : wfF x) : Ret Tryz.prog GEs 110 [flv x] (.tup [flv (canF x), .bool true]) := by
  obtain ⟨kd, neg, e, m⟩ := x
  have hZ := ret_Zero (words m) (Wd_words _)
  rw [val_words] at hZ
  rcases h with ⟨h1, h2, h3, h4, h5⟩ | ⟨h1, h2, h3⟩
  · simp only at h1 h2 h3 h4 h5
    subst h1
    have hZ := hZ (by omega)
    rw [decF h2] at hZ
    have hT := ret_Trailing (words m) (Wd_words _) (by omega)
    rw [val_words] at hT
    have hb := bl_len m
    have ht := tz_le_bl m
    have hS := ret_Shr (words m) (tz m) (Wd_words _) (by omega) (by omega)
    rw [val_words] at hS
    unfold canF mkF flv
    rw [if_pos rfl, if_neg h2]
    generalize tz m = t at *
    refine RetN_start Tryz.func110 (by kernel_rfl) rfl fun Q hQ hQ2 => ?_; rw [Tryz.ntmps110]; simp only [u, i64, Nat.reduceSub, Nat.reduceAdd, bm]
    repeat (first | (refine gC ?_; first | refine aA ?_ | ((first | refine cR hZ ?_ | refine cR hT ?_); refine sX ?_; try refine aA ?_)) | ((first | refine cR hZ ?_ | refine cR hT ?_); refine sX ?_; try refine aA ?_) | refine gS ?_)
    refine G_tree (.step 0 (.step 1 (.step 2 (.step 3 (.step 4 (.step 5 (.step 6 (.step 7 (.step 8 (.step 9 (.step 10 (.alt 11 (.alt 12 (.step 13 (.step 14 (.step 15 (.step 16 (.step 17 .done))))) (.alt 13 (.alt 12 (.step 14 (.step 15 (.step 16 (.step 17 .done)))) (.alt 16 (.step 12 (.step 14 (.step 15 (.step 17 .done)))) .stop)) (.alt 16 (.step 12 (.step 13 (.step 14 (.step 15 (.step 17 .done))))) .stop))) (.alt 13 (.alt 11 (.alt 12 (.step 14 (.step 15 (.step 16 (.step 17 .done)))) (.alt 16 (.step 12 (.step 14 (.step 15 (.step 17 .done)))) .stop)) (.alt 16 (.step 11 (.step 12 (.step 14 (.step 15 (.step 17 .done))))) .stop)) (.alt 16 (.step 11 (.step 12 (.step 13 (.step 14 (.step 15 (.step 17 .done)))))) .stop)))))))))))))) mixed (by kernel_rfl) ?_
    simp (disch := omega) only [u, i64, ax, eq_self, if_true, if_false, Nat.reduceAdd, Int.reduceToNat, Int.reduceAdd, tvs, bs, x_done, x_step, x_alt, x_stop, lk_0, lk_S, mpD_nil, mpD_cons]
    refine callK_ret hS (by (simp (disch := omega) only [if_true, forall_const, reduceCtorEq, implies_true, bz]) <;> rfl) ?_
    simp (disch := omega) only [u, i64, ax, eq_self, if_true, if_false, Nat.reduceAdd, Int.reduceToNat, Int.reduceAdd, tvs, bs, x_done, x_step, x_alt, x_stop, lk_0, lk_S, mpD_nil, mpD_cons]
    repeat' apply And.intro
    all_goals
      refine aft_any ?_
      (refine gO ?_)
      (refine FinQ hQ (congrArg Array.toList Tryz.results110) _ _ ?_); simp (disch := omega) only [u, i64, ax, if_true, forall_const, reduceCtorEq, implies_true, tvs, bf]
      all_goals rfl
  · simp only at h1 h2 h3
    subst h2
    subst h3
    have hZ := hZ (by decide)
    rw [decT rfl] at hZ
    rcases h1 with rfl | rfl | ⟨rfl, rfl⟩
    · show Ret Tryz.prog GEs 110 [.agg [i64 0, .bool neg, i64 0, ws []]] (.tup [.agg [i64 0, .bool neg, i64 0, ws []], .bool true])
      refine RetN_start Tryz.func110 (by kernel_rfl) rfl fun Q hQ hQ2 => ?_; rw [Tryz.ntmps110]; simp only [u, i64, Nat.reduceSub, Nat.reduceAdd, bm]
      repeat (first | (refine gC ?_; first | refine aA ?_ | (refine cR hZ ?_; refine sX ?_; try refine aA ?_)) | (refine cR hZ ?_; refine sX ?_; try refine aA ?_) | refine gS ?_)
      (refine FinQ hQ (congrArg Array.toList Tryz.results110) _ _ ?_); simp (disch := omega) only [u, i64, ax, if_true, forall_const, reduceCtorEq, implies_true, tvs, bf]
      all_goals rfl
    · show Ret Tryz.prog GEs 110 [.agg [i64 2, .bool neg, i64 0, ws []]] (.tup [.agg [i64 2, .bool neg, i64 0, ws []], .bool true])
      refine RetN_start Tryz.func110 (by kernel_rfl) rfl fun Q hQ hQ2 => ?_; rw [Tryz.ntmps110]; simp only [u, i64, Nat.reduceSub, Nat.reduceAdd, bm]
      repeat (first | (refine gC ?_; first | refine aA ?_ | (refine cR hZ ?_; refine sX ?_; try refine aA ?_)) | (refine cR hZ ?_; refine sX ?_; try refine aA ?_) | refine gS ?_)
      (refine FinQ hQ (congrArg Array.toList Tryz.results110) _ _ ?_); simp (disch := omega) only [u, i64, ax, if_true, forall_const, reduceCtorEq, implies_true, tvs, bf]
      all_goals rfl
    · show Ret Tryz.prog GEs 110 [.agg [i64 3, .bool false, i64 0, ws []]] (.tup [.agg [i64 3, .bool false, i64 0, ws []], .bool true])
      refine RetN_start Tryz.func110 (by kernel_rfl) rfl fun Q hQ hQ2 => ?_; rw [Tryz.ntmps110]; simp only [u, i64, Nat.reduceSub, Nat.reduceAdd, bm]
      repeat (first | (refine gC ?_; first | refine aA ?_ | (refine cR hZ ?_; refine sX ?_; try refine aA ?_)) | (refine cR hZ ?_; refine sX ?_; try refine aA ?_) | refine gS ?_)
      (refine FinQ hQ (congrArg Array.toList Tryz.results110) _ _ ?_); simp (disch := omega) only [u, i64, ax, if_true, forall_const, reduceCtorEq, implies_true, tvs, bf]
      all_goals rfl
theorem cmpI_beq (a b : Nat) : (cmpI a b == 0) = decide (a = b) := by
  unfold cmpI
  by_cases h : a = b
  · subst h; simp
  · rw [decide_eq_false h]
    split
    · rfl
    · split
      · rfl
      · omega
set_option maxRecDepth 100000 in
set_option maxHeartbeats 4000000 in
theorem ret_fSame (x y : FV) (hx : wfF x) (hy : wfF y) : Ret Tryz.prog GEs 37 [flv x, flv y] (.bool (eqF (canF x) (canF y))) := by
  have hx' := ret_canonical x hx
  have hy' := ret_canonical y hy
  have hlx := (canF_wf hx).1
  have hly := (canF_wf hy).1
  generalize canF x = a at *
  generalize canF y = b at *
  have hC := ret_Cmp (words a.mag) (words b.mag) (Wd_words _) (Wd_words _) (by omega) (by omega)
  rw [val_words, val_words] at hC
  have hce := cmpI_beq a.mag b.mag
  unfold flv at hx' hy' ⊢
  obtain ⟨k1, n1, e1, m1⟩ := a
  obtain ⟨k2, n2, e2, m2⟩ := b
  simp only at *
  unfold eqF
  simp only
  generalize cmpI m1 m2 = cc at *
  by_cases hk : k1 = k2
  · subst hk
    by_cases hn : n1 = n2
    · subst hn
      have hbb : (n1 == n1) = true := by cases n1 <;> rfl
      by_cases he : e1 = e2
      · subst he
        rw [show decide (k1 = k1 ∧ n1 = n1 ∧ e1 = e1 ∧ m1 = m2) = decide (m1 = m2) by simp, ← hce]
        refine RetN_start Tryz.func37 (by kernel_rfl) rfl fun Q hQ hQ2 => ?_; rw [Tryz.ntmps37]; simp only [u, i64, Nat.reduceSub, Nat.reduceAdd, bm]
        repeat (first | (refine gC ?_; first | refine aA ?_ | ((first | refine cR hx' ?_ | refine cR hy' ?_); refine sX ?_; try refine aA ?_)) | ((first | refine cR hx' ?_ | refine cR hy' ?_); refine sX ?_; try refine aA ?_) | refine gS ?_)
        (refine gC ?_)
        rw [hbb]
        simp (disch := omega) only [u, i64, ax, eq_self, if_true, if_false, Nat.reduceAdd, Int.reduceToNat, Int.reduceAdd, tvs, bs]
        repeat (first | (refine gC ?_; first | refine aA ?_ | (refine cR hC ?_; refine sX ?_; try refine aA ?_)) | (refine cR hC ?_; refine sX ?_; try refine aA ?_) | refine gS ?_)
        (refine FinQ hQ (congrArg Array.toList Tryz.results37) _ _ ?_); simp (disch := omega) only [u, i64, ax, if_true, forall_const, reduceCtorEq, implies_true, tvs, bf]
      · rw [decF (show ¬ (k1 = k1 ∧ n1 = n1 ∧ e1 = e2 ∧ m1 = m2) from fun h => he h.2.2.1)]
        refine RetN_start Tryz.func37 (by kernel_rfl) rfl fun Q hQ hQ2 => ?_; rw [Tryz.ntmps37]; simp only [u, i64, Nat.reduceSub, Nat.reduceAdd, bm]
        repeat (first | (refine gC ?_; first | refine aA ?_ | ((first | refine cR hx' ?_ | refine cR hy' ?_); refine sX ?_; try refine aA ?_)) | ((first | refine cR hx' ?_ | refine cR hy' ?_); refine sX ?_; try refine aA ?_) | refine gS ?_)
        (refine gC ?_)
        rw [hbb]
        simp (disch := omega) only [u, i64, ax, eq_self, if_true, if_false, Nat.reduceAdd, Int.reduceToNat, Int.reduceAdd, tvs, bs]
        refine aft_any ?_
        (refine gO ?_)
        (refine FinQ hQ (congrArg Array.toList Tryz.results37) _ _ ?_); simp (disch := omega) only [u, i64, ax, if_true, forall_const, reduceCtorEq, implies_true, tvs, bf]
    · rw [decF (show ¬ (k1 = k1 ∧ n1 = n2 ∧ e1 = e2 ∧ m1 = m2) from fun h => hn h.2.1)]
      have hbb : (n1 == n2) = false := by cases n1 <;> cases n2 <;> simp_all
      refine RetN_start Tryz.func37 (by kernel_rfl) rfl fun Q hQ hQ2 => ?_; rw [Tryz.ntmps37]; simp only [u, i64, Nat.reduceSub, Nat.reduceAdd, bm]
      repeat (first | (refine gC ?_; first | refine aA ?_ | ((first | refine cR hx' ?_ | refine cR hy' ?_); refine sX ?_; try refine aA ?_)) | ((first | refine cR hx' ?_ | refine cR hy' ?_); refine sX ?_; try refine aA ?_) | refine gS ?_)
      (refine gC ?_)
      rw [hbb]
      simp (disch := omega) only [u, i64, ax, eq_self, if_true, if_false, Nat.reduceAdd, Int.reduceToNat, Int.reduceAdd, tvs, bs]
      refine aft_any ?_
      (refine gO ?_)
      (refine FinQ hQ (congrArg Array.toList Tryz.results37) _ _ ?_); simp (disch := omega) only [u, i64, ax, if_true, forall_const, reduceCtorEq, implies_true, tvs, bf]
  · rw [decF (show ¬ (k1 = k2 ∧ n1 = n2 ∧ e1 = e2 ∧ m1 = m2) from fun h => hk h.1)]
    refine RetN_start Tryz.func37 (by kernel_rfl) rfl fun Q hQ hQ2 => ?_; rw [Tryz.ntmps37]; simp only [u, i64, Nat.reduceSub, Nat.reduceAdd, bm]
    repeat (first | (refine gC ?_; first | refine aA ?_ | ((first | refine cR hx' ?_ | refine cR hy' ?_); refine sX ?_; try refine aA ?_)) | ((first | refine cR hx' ?_ | refine cR hy' ?_); refine sX ?_; try refine aA ?_) | refine gS ?_)
    (refine FinQ hQ (congrArg Array.toList Tryz.results37) _ _ ?_); simp (disch := omega) only [u, i64, ax, if_true, forall_const, reduceCtorEq, implies_true, tvs, bf]
end Go.Proofs
set_option linter.unusedVariables false
set_option linter.unusedSimpArgs false
namespace Go.Proofs
open Go.Ax
theorem lg_bound {n d : Nat} (hn : n ≠ 0) (hd : d ≠ 0) : -(bl d : Int) ≤ lg n d ∧ lg n d ≤ bl n := by
  have := (bl_spec hn).2.2
  have := (bl_spec hd).2.2
  unfold lg
  split <;> omega
/-- What a number is rounded to is small. -/
theorem rndF_wf (k p : Nat) (h : okFm k p) (r : Nat) (neg : Bool) (n d : Nat) (hn : n ≠ 0) (hd : d ≠ 0) (hln : (words n).length ≤ 1000) (hld : (words d).length ≤ 1000) : wfF (rndF p (gF k) r neg n d).1 ∧ canF (rndF p (gF k) r neg n d).1 = (rndF p (gF k) r neg n d).1 ∧ (rndF p (gF k) r neg n d).1.kind ≤ 2 := by
  have hg := gF_le (k := k) (by omega) (by omega)
  have hb1 := bl_len n
  have hb2 := bl_len d
  have hl := lg_bound hn hd
  have hs := stpF_max p (gF k) (lg n d)
  have hN := rnd_le p (gF k) r neg hn hd
  have hpl : ∀ m, m ≤ 2 ^ p → (words m).length ≤ 6 := fun m hm => le_pow_words hm (by omega)
  have h2p : 2 ^ 1 ≤ 2 ^ p := Nat.pow_le_pow_right (by decide) (by omega)
  unfold rndF
  split
  · unfold overF
    split
    · refine ⟨.inl ⟨rfl, by show 2 ^ p - 1 ≠ 0; omega, by show _ ≤ gF k - p + 1; omega, by show gF k - p + 1 ≤ _; omega, by have := hpl (2 ^ p - 1) (by omega); show (words (2 ^ p - 1)).length ≤ 5000; omega⟩, ?_, by show 1 ≤ 2; decide⟩
      show mkF neg (2 ^ p - 1) (gF k - p + 1) = _
      have e : 2 ^ p - 1 = 2 * (2 ^ (p - 1) - 1) + 1 := by
        have : 2 ^ p = 2 ^ (p - 1) * 2 := by rw [← Nat.pow_succ]; congr 1; omega
        have := Nat.two_pow_pos (p - 1)
        omega
      rw [e, mkF_oddS]
      unfold topF
      rw [e]
    · exact ⟨.inr ⟨.inr (.inl rfl), rfl, rfl⟩, rfl, by show 2 ≤ 2; decide⟩
  · unfold rN at hN
    generalize quoN r neg (nu n (stpF p (gF k) (lg n d))) (de d (stpF p (gF k) (lg n d))) = N at *
    simp only
    by_cases h0 : N = 0
    · unfold mkF; rw [if_pos h0]
      exact ⟨.inr ⟨.inl rfl, rfl, rfl⟩, rfl, by show 0 ≤ 2; decide⟩
    · obtain ⟨m, hm⟩ := tz_spec h0
      have hNl := hpl N hN
      have hbN := bl_len N
      have htz := tz_le_bl N
      have hmN : 2 * m + 1 ≤ N := by
        rw [hm]
        exact Nat.le_mul_of_pos_left _ (Nat.two_pow_pos _)
      have e : mkF neg N (stpF p (gF k) (lg n d)) = ⟨1, neg, stpF p (gF k) (lg n d) + tz N, 2 * m + 1⟩ := by
        conv => lhs; rw [hm, Nat.mul_comm]
        exact mkF_odd neg m _ _
      rw [e]
      refine ⟨.inl ⟨rfl, Nat.succ_ne_zero _, by show _ ≤ stpF p (gF k) (lg n d) + tz N; omega, by show stpF p (gF k) (lg n d) + tz N ≤ _; omega, ?_⟩, mkF_oddS neg m _, by show 1 ≤ 2; decide⟩
      have := length_mono hmN
      show (words (2 * m + 1)).length ≤ 5000
      omega
end Go.Proofs
