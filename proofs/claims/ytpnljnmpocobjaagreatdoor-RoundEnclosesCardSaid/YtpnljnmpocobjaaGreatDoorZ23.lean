/-
  Contracts of functions of the program, each proved by a walk.
-/
import Derived.Test.YtpnljnmpocobjaaGreatDoorZ22
import Derived.Test.YtpnljnmpocobjaaGreatDoorZ18
import Derived.Test.YtpnljnmpocobjaaGreatDoorZ19
set_option maxRecDepth 100000
set_option linter.unusedVariables false
set_option linter.unusedSimpArgs false
namespace Go.Proofs
open Go.Ax
/-- The error of a number and a rounding. -/
def errQ (r : Int) (n d v : Nat) : Nat := if 4096 < n ∨ 4096 < d then 2 else if v = 0 then 5 else if 0 ≤ r ∧ r ≤ 4 then 0 else 1
theorem errQ_size {r : Int} {n d v : Nat} (h : 4096 < n ∨ 4096 < d) : errQ r n d v = 2 := if_pos h
theorem errQ_zero {r : Int} {n d v : Nat} (h : ¬ 4096 < n) (h' : ¬ 4096 < d) (h0 : v = 0) : errQ r n d v = 5 := by unfold errQ; rw [if_neg (by omega), if_pos h0]
theorem errQ_arg {r : Int} {n d v : Nat} (h : ¬ 4096 < n) (h' : ¬ 4096 < d) (h0 : v ≠ 0) (hr : ¬ (0 ≤ r ∧ r ≤ 4)) : errQ r n d v = 1 := by unfold errQ; rw [if_neg (by omega), if_neg h0, if_neg hr]
theorem errQ_ok {r : Int} {n d v : Nat} (h : ¬ 4096 < n) (h' : ¬ 4096 < d) (h0 : v ≠ 0) (hr : 0 ≤ r ∧ r ≤ 4) : errQ r n d v = 0 := by unfold errQ; rw [if_neg (by omega), if_neg h0, if_pos hr]
set_option maxRecDepth 100000 in
set_option maxHeartbeats 1000000 in
theorem ret_check (r : Int) (h1 : -9223372036854775808 ≤ r) (h2 : r < 9223372036854775808) (neg : Bool) (ns ds : List Nat) (hn : Wd ns) (hd : Wd ds) (hln : ns.length ≤ 137438953472) (hld : ds.length ≤ 137438953472) :
    Ret Tryz.prog GEs 72 [i64 r, .lst 1 [.bool neg, ws ns, ws ds]] (i64 ((errQ r ns.length ds.length (val ds) : Nat) : Int)) := by
  refine RetN_start Tryz.func72 (by kernel_rfl) rfl fun Q hQ hQ2 => ?_; rw [Tryz.ntmps72]; simp only [u, i64, Nat.reduceSub, Nat.reduceAdd, bm]
  (refine gO ?_)
  refine AWp_loop (fun i : Bool => bif i then mk 40 [(0, i64 r), (1, .lst 1 [.bool neg, ws ns, ws ds]), (9, .lst 1 [.bool neg, ws ns, ws ds]), (10, i64 1), (11, i64 1)] [⟨0, true, [.bool neg, ws ns, ws ds]⟩] else mk 40 [(0, i64 r), (1, .lst 1 [.bool neg, ws ns, ws ds]), (9, .lst 1 [.bool neg, ws ns, ws ds]), (10, i64 1), (11, i64 0)] []) (fun i => i = true → ¬ 4096 < ns.length ∧ ¬ 4096 < ds.length) (fun i => bif i then 0 else 1) false ?_ (fun h => by cases h) ?_
  · simp only [cond_false]
    simp only [u, i64, Nat.reduceSub, Nat.reduceAdd, bm]
  intro i hi
  cases i with
  | false =>
    simp only [cond_false]
    simp only [u, i64, Nat.reduceSub, Nat.reduceAdd, bm]
    by_cases ha : 4096 < ns.length
    · (refine gO ?_)
      (refine FinQ hQ (congrArg Array.toList Tryz.results72) _ _ ?_); simp (disch := omega) only [u, i64, ax, if_true, forall_const, reduceCtorEq, implies_true, tvs, bf, errQ_size (Or.inl ha)]
      rfl
    by_cases hb : 4096 < ds.length
    · (refine gO ?_)
      (refine FinQ hQ (congrArg Array.toList Tryz.results72) _ _ ?_); simp (disch := omega) only [u, i64, ax, if_true, forall_const, reduceCtorEq, implies_true, tvs, bf, errQ_size (Or.inr hb)]
      rfl
    (refine gO ?_)
    refine ⟨true, ?_, fun _ => ⟨ha, hb⟩, by decide⟩
    simp only [cond_true]
    simp only [u, i64, Nat.reduceSub, Nat.reduceAdd, bm]
  | true =>
    obtain ⟨ha, hb⟩ := hi rfl
    simp only [cond_true]
    simp only [u, i64, Nat.reduceSub, Nat.reduceAdd, bm]
    (refine gO ?_)
    refine AWp_loop (fun i : Bool => bif i then mk 40 [(0, i64 r), (1, .lst 1 [.bool neg, ws ns, ws ds]), (27, .lst 1 [.bool neg, ws ns, ws ds]), (28, i64 1), (29, i64 1)] [⟨0, true, [.bool neg, ws ns, ws ds]⟩, ⟨0, true, [.bool neg, ws ns, ws ds]⟩] else mk 40 [(0, i64 r), (1, .lst 1 [.bool neg, ws ns, ws ds]), (27, .lst 1 [.bool neg, ws ns, ws ds]), (28, i64 1), (29, i64 0)] [⟨0, true, [.bool neg, ws ns, ws ds]⟩]) (fun i => i = true → val ds ≠ 0) (fun i => bif i then 0 else 1) false ?_ (fun h => by cases h) ?_
    · simp only [cond_false]
      simp only [u, i64, Nat.reduceSub, Nat.reduceAdd, bm]
    intro i hi
    cases i with
    | false =>
      simp only [cond_false]
      simp only [u, i64, Nat.reduceSub, Nat.reduceAdd, bm]
      (refine gO ?_)
      (refine gC ?_)
      (refine cR (ret_Zero ds hd (by omega)) ?_; refine sX ?_; try refine aA ?_)
      by_cases h0 : val ds = 0
      · rw [decT h0]
        (refine gO ?_)
        (refine FinQ hQ (congrArg Array.toList Tryz.results72) _ _ ?_); simp (disch := omega) only [u, i64, ax, if_true, forall_const, reduceCtorEq, implies_true, tvs, bf, errQ_zero ha hb h0]
        rfl
      · rw [decF h0]
        (refine gO ?_)
        refine ⟨true, ?_, fun _ => h0, by decide⟩
        simp only [cond_true]
        simp only [u, i64, Nat.reduceSub, Nat.reduceAdd, bm]
    | true =>
      have h0 := hi rfl
      simp only [cond_true]
      simp only [u, i64, Nat.reduceSub, Nat.reduceAdd, bm]
      (refine gO ?_)
      (refine gC ?_)
      (refine cR (ret_Right r h1 h2) ?_; refine sX ?_; try refine aA ?_)
      by_cases hr : 0 ≤ r ∧ r ≤ 4
      · rw [decT hr]
        (refine gO ?_)
        (refine FinQ hQ (congrArg Array.toList Tryz.results72) _ _ ?_); simp (disch := omega) only [u, i64, ax, if_true, forall_const, reduceCtorEq, implies_true, tvs, bf, errQ_ok ha hb h0 hr]
        rfl
      · rw [decF hr]
        (refine gO ?_)
        (refine FinQ hQ (congrArg Array.toList Tryz.results72) _ _ ?_); simp (disch := omega) only [u, i64, ax, if_true, forall_const, reduceCtorEq, implies_true, tvs, bf, errQ_arg ha hb h0 hr]
        rfl
end Go.Proofs
set_option linter.unusedVariables false
set_option linter.unusedSimpArgs false
namespace Go.Proofs
open Go.Ax
set_option maxRecDepth 100000 in
theorem ret_Make (neg : Bool) (xs : List Nat) (hx : Wd xs) (hl : xs.length ≤ 34359738368) : Ret Tryz.prog GEs 173 [.bool neg, ws xs] (.agg [.bool (neg && decide (val xs ≠ 0)), nat (val xs)]) := by
  have hxl := length_words_val_le hx
  rw [← len_pos]
  refine RetN_start Tryz.func173 (by kernel_rfl) rfl fun Q hQ hQ2 => ?_; rw [Tryz.ntmps173]; simp only [u, i64, Nat.reduceSub, Nat.reduceAdd, bm]
  (refine gO ?_)
  (refine gC ?_)
  (refine cR (ret_rTrim xs hx hl) ?_; refine sX ?_; try refine aA ?_)
  cases neg with
  | true =>
    by_cases h : 0 < (words (val xs)).length
    · (refine gO ?_)
      (refine FinQ hQ (congrArg Array.toList Tryz.results173) _ _ ?_); simp (disch := omega) only [u, i64, ax, if_true, forall_const, reduceCtorEq, implies_true, tvs, bf, decT h]
    · (refine gO ?_)
      (refine FinQ hQ (congrArg Array.toList Tryz.results173) _ _ ?_); simp (disch := omega) only [u, i64, ax, if_true, forall_const, reduceCtorEq, implies_true, tvs, bf, decF h]
  | false =>
    (refine gO ?_)
    (refine FinQ hQ (congrArg Array.toList Tryz.results173) _ _ ?_); simp (disch := omega) only [u, i64, ax, if_true, forall_const, reduceCtorEq, implies_true, tvs, bf]
    all_goals rfl
set_option maxRecDepth 100000 in
theorem ret_Trim03 (neg : Bool) (xs : List Nat) (hx : Wd xs) (hl : xs.length ≤ 34359738368) : Ret Tryz.prog GEs 237 [.agg [.bool neg, ws xs]] (.agg [.bool (neg && decide (val xs ≠ 0)), nat (val xs)]) := by
  refine RetN_start Tryz.func237 (by kernel_rfl) rfl fun Q hQ hQ2 => ?_; rw [Tryz.ntmps237]; simp only [u, i64, Nat.reduceSub, Nat.reduceAdd, bm]
  repeat (first | (refine gC ?_; first | refine aA ?_ | (refine cR (ret_Make neg xs hx hl) ?_; refine sX ?_; try refine aA ?_)) | (refine cR (ret_Make neg xs hx hl) ?_; refine sX ?_; try refine aA ?_) | refine gS ?_)
  (refine FinQ hQ (congrArg Array.toList Tryz.results237) _ _ ?_); simp (disch := omega) only [u, i64, ax, if_true, forall_const, reduceCtorEq, implies_true, tvs, bf]
set_option maxRecDepth 100000 in
theorem ret_Make11 (neg : Bool) (xs : List Nat) (hx : Wd xs) (hl : xs.length ≤ 34359738368) : Ret Tryz.prog GEs 84 [.bool neg, ws xs] (.agg [.bool (neg && decide (val xs ≠ 0)), nat (val xs)]) := by
  refine RetN_start Tryz.func84 (by kernel_rfl) rfl fun Q hQ hQ2 => ?_; rw [Tryz.ntmps84]; simp only [u, i64, Nat.reduceSub, Nat.reduceAdd, bm]
  repeat (first | (refine gC ?_; first | refine aA ?_ | (refine cR (ret_Make neg xs hx hl) ?_; refine sX ?_; try refine aA ?_)) | (refine cR (ret_Make neg xs hx hl) ?_; refine sX ?_; try refine aA ?_) | refine gS ?_)
  (refine FinQ hQ (congrArg Array.toList Tryz.results84) _ _ ?_); simp (disch := omega) only [u, i64, ax, if_true, forall_const, reduceCtorEq, implies_true, tvs, bf]
/-- The sign of an integer. -/
def sgn (neg : Bool) (v : Nat) : Int := if v = 0 then 0 else if neg then -1 else 1
set_option maxRecDepth 100000 in
theorem ret_Sign03 (neg : Bool) (xs : List Nat) (hx : Wd xs) (hl : xs.length ≤ 34359738368) : Ret Tryz.prog GEs 230 [.agg [.bool neg, ws xs]] (i64 (sgn neg (val xs))) := by
  have hT := ret_Trim03 neg xs hx hl
  have hxl := length_words_val_le hx
  by_cases h0 : val xs = 0
  · have e : sgn neg (val xs) = 0 := if_pos h0
    rw [decF (show ¬ val xs ≠ 0 from fun h => h h0), Bool.and_false] at hT
    have hl0 : ¬ 0 < (words (val xs)).length := by rw [h0, words_zero]; simp
    refine RetN_start Tryz.func230 (by kernel_rfl) rfl fun Q hQ hQ2 => ?_; rw [Tryz.ntmps230]; simp only [u, i64, Nat.reduceSub, Nat.reduceAdd, bm]
    repeat (first | (refine gC ?_; first | refine aA ?_ | (refine cR hT ?_; refine sX ?_; try refine aA ?_)) | (refine cR hT ?_; refine sX ?_; try refine aA ?_) | refine gS ?_)
    (refine FinQ hQ (congrArg Array.toList Tryz.results230) _ _ ?_); simp (disch := omega) only [u, i64, ax, if_true, forall_const, reduceCtorEq, implies_true, tvs, bf, e]
  · rw [decT h0, Bool.and_true] at hT
    have hl0 : 0 < (words (val xs)).length := List.length_pos_iff.2 fun h => h0 (words_eq_nil.1 h)
    cases neg with
    | true =>
      have e : sgn true (val xs) = -1 := by unfold sgn; rw [if_neg h0]; rfl
      refine RetN_start Tryz.func230 (by kernel_rfl) rfl fun Q hQ hQ2 => ?_; rw [Tryz.ntmps230]; simp only [u, i64, Nat.reduceSub, Nat.reduceAdd, bm]
      repeat (first | (refine gC ?_; first | refine aA ?_ | (refine cR hT ?_; refine sX ?_; try refine aA ?_)) | (refine cR hT ?_; refine sX ?_; try refine aA ?_) | refine gS ?_)
      (refine FinQ hQ (congrArg Array.toList Tryz.results230) _ _ ?_); simp (disch := omega) only [u, i64, ax, if_true, forall_const, reduceCtorEq, implies_true, tvs, bf, e]
    | false =>
      have e : sgn false (val xs) = 1 := by unfold sgn; rw [if_neg h0]; rfl
      refine RetN_start Tryz.func230 (by kernel_rfl) rfl fun Q hQ hQ2 => ?_; rw [Tryz.ntmps230]; simp only [u, i64, Nat.reduceSub, Nat.reduceAdd, bm]
      repeat (first | (refine gC ?_; first | refine aA ?_ | (refine cR hT ?_; refine sX ?_; try refine aA ?_)) | (refine cR hT ?_; refine sX ?_; try refine aA ?_) | refine gS ?_)
      (refine FinQ hQ (congrArg Array.toList Tryz.results230) _ _ ?_); simp (disch := omega) only [u, i64, ax, if_true, forall_const, reduceCtorEq, implies_true, tvs, bf, e]
set_option maxRecDepth 100000 in
theorem ret_Sign11 (neg : Bool) (xs : List Nat) (hx : Wd xs) (hl : xs.length ≤ 34359738368) : Ret Tryz.prog GEs 164 [.agg [.bool neg, ws xs]] (i64 (sgn neg (val xs))) := by
  refine RetN_start Tryz.func164 (by kernel_rfl) rfl fun Q hQ hQ2 => ?_; rw [Tryz.ntmps164]; simp only [u, i64, Nat.reduceSub, Nat.reduceAdd, bm]
  repeat (first | (refine gC ?_; first | refine aA ?_ | (refine cR (ret_Sign03 neg xs hx hl) ?_; refine sX ?_; try refine aA ?_)) | (refine cR (ret_Sign03 neg xs hx hl) ?_; refine sX ?_; try refine aA ?_) | refine gS ?_)
  (refine FinQ hQ (congrArg Array.toList Tryz.results164) _ _ ?_); simp (disch := omega) only [u, i64, ax, if_true, forall_const, reduceCtorEq, implies_true, tvs, bf]
theorem gcd_len (a b n : Nat) (h : b ≠ 0) (hb : (words b).length ≤ n) : (words (Nat.gcd a b)).length ≤ n :=
  Nat.le_trans (length_mono (Nat.gcd_le_right a (Nat.pos_of_ne_zero h))) hb
set_option maxRecDepth 100000 in
theorem ret_Norm (neg : Bool) (ns ds : List Nat) (hn : Wd ns) (hd : Wd ds) (hln : ns.length ≤ 8589934592) (hld : ds.length ≤ 8589934592) (h0 : val ds ≠ 0) :
    Ret Tryz.prog GEs 94 [.agg [.bool neg, ws ns, ws ds]] (.agg [.bool (neg && decide (val ns / Nat.gcd (val ns) (val ds) ≠ 0)), nat (val ns / Nat.gcd (val ns) (val ds)), nat (val ds / Nat.gcd (val ns) (val ds))]) := by
  have hnl := length_words_val_le hn
  have hdl := length_words_val_le hd
  have hg0 : Nat.gcd (val ns) (val ds) ≠ 0 := fun h => h0 (Nat.eq_zero_of_gcd_eq_zero_right h)
  have hgl := gcd_len (val ns) (val ds) 8589934592 h0 (by omega)
  have hq1 := length_mono (Nat.div_le_self (val ns) (Nat.gcd (val ns) (val ds)))
  have hG := ret_Gcd ns ds hn hd (by omega) (by omega)
  have hD1 := ret_rDiv ns (words (Nat.gcd (val ns) (val ds))) hn (Wd_words _) (by rw [val_words]; exact hg0) (by omega) (by omega)
  have hD2 := ret_rDiv ds (words (Nat.gcd (val ns) (val ds))) hd (Wd_words _) (by rw [val_words]; exact hg0) (by omega) (by omega)
  rw [val_words] at hD1 hD2
  generalize Nat.gcd (val ns) (val ds) = g at *
  have hM := ret_Make11 neg (words (val ns / g)) (Wd_words _) (by omega)
  rw [val_words] at hM
  refine RetN_start Tryz.func94 (by kernel_rfl) rfl fun Q hQ hQ2 => ?_; rw [Tryz.ntmps94]; simp only [u, i64, Nat.reduceSub, Nat.reduceAdd, bm]
  repeat (first | (refine gC ?_; first | refine aA ?_ | ((first | refine cR hG ?_ | refine cR hD1 ?_ | refine cR hM ?_ | refine cR hD2 ?_); refine sX ?_; try refine aA ?_)) | ((first | refine cR hG ?_ | refine cR hD1 ?_ | refine cR hM ?_ | refine cR hD2 ?_); refine sX ?_; try refine aA ?_) | refine gS ?_)
  (refine FinQ hQ (congrArg Array.toList Tryz.results94) _ _ ?_); simp (disch := omega) only [u, i64, ax, if_true, forall_const, reduceCtorEq, implies_true, tvs, bf]
set_option maxRecDepth 100000 in
theorem ret_Large16 (neg : Bool) (ns ds : List Nat) (hln : ns.length ≤ 34359738368) (hld : ds.length ≤ 34359738368) : Ret Tryz.prog GEs 159 [.agg [.bool neg, ws ns, ws ds]] (.bool (decide (4096 < ns.length ∨ 4096 < ds.length))) := by
  have h1 := ret_rLarge ns hln
  have h2 := ret_rLarge ds hld
  by_cases ha : 4096 < ns.length
  · rw [decT ha] at h1
    rw [decT (Or.inl ha)]
    refine RetN_start Tryz.func159 (by kernel_rfl) rfl fun Q hQ hQ2 => ?_; rw [Tryz.ntmps159]; simp only [u, i64, Nat.reduceSub, Nat.reduceAdd, bm]
    repeat (first | (refine gC ?_; first | refine aA ?_ | (refine cR h1 ?_; refine sX ?_; try refine aA ?_)) | (refine cR h1 ?_; refine sX ?_; try refine aA ?_) | refine gS ?_)
    (refine FinQ hQ (congrArg Array.toList Tryz.results159) _ _ ?_); simp (disch := omega) only [u, i64, ax, if_true, forall_const, reduceCtorEq, implies_true, tvs, bf]
  · rw [decF ha] at h1
    rw [show decide (4096 < ns.length ∨ 4096 < ds.length) = decide (4096 < ds.length) by simp [ha]]
    refine RetN_start Tryz.func159 (by kernel_rfl) rfl fun Q hQ hQ2 => ?_; rw [Tryz.ntmps159]; simp only [u, i64, Nat.reduceSub, Nat.reduceAdd, bm]
    repeat (first | (refine gC ?_; first | refine aA ?_ | ((first | refine cR h1 ?_ | refine cR h2 ?_); refine sX ?_; try refine aA ?_)) | ((first | refine cR h1 ?_ | refine cR h2 ?_); refine sX ?_; try refine aA ?_) | refine gS ?_)
    (refine FinQ hQ (congrArg Array.toList Tryz.results159) _ _ ?_); simp (disch := omega) only [u, i64, ax, if_true, forall_const, reduceCtorEq, implies_true, tvs, bf]
    all_goals simp
set_option maxRecDepth 100000 in
theorem ret_Known (r : Int) (h1 : -9223372036854775808 ≤ r) (h2 : r < 9223372036854775808) : Ret Tryz.prog GEs 160 [i64 r] (.bool (decide (0 ≤ r ∧ r ≤ 4))) := by
  refine RetN_start Tryz.func160 (by kernel_rfl) rfl fun Q hQ hQ2 => ?_; rw [Tryz.ntmps160]; simp only [u, i64, Nat.reduceSub, Nat.reduceAdd, bm]
  by_cases ha : 0 ≤ r
  · by_cases hb : r ≤ 4
    · (refine gO ?_)
      (refine FinQ hQ (congrArg Array.toList Tryz.results160) _ _ ?_); simp (disch := omega) only [u, i64, ax, if_true, forall_const, reduceCtorEq, implies_true, tvs, bf, decT (show 0 ≤ r ∧ r ≤ 4 from ⟨ha, hb⟩)]
    · (refine gO ?_)
      (refine FinQ hQ (congrArg Array.toList Tryz.results160) _ _ ?_); simp (disch := omega) only [u, i64, ax, if_true, forall_const, reduceCtorEq, implies_true, tvs, bf, decF (show ¬ (0 ≤ r ∧ r ≤ 4) from fun h => hb h.2)]
  · (refine gO ?_)
    (refine FinQ hQ (congrArg Array.toList Tryz.results160) _ _ ?_); simp (disch := omega) only [u, i64, ax, if_true, forall_const, reduceCtorEq, implies_true, tvs, bf, decF (show ¬ (0 ≤ r ∧ r ≤ 4) from fun h => ha h.1)]
set_option maxRecDepth 100000 in
set_option maxHeartbeats 1000000 in
theorem ret_Args (r : Int) (h1 : -9223372036854775808 ≤ r) (h2 : r < 9223372036854775808) (neg : Bool) (ns ds : List Nat) (hn : Wd ns) (hd : Wd ds) (hln : ns.length ≤ 34359738368) (hld : ds.length ≤ 34359738368) :
    Ret Tryz.prog GEs 76 [i64 r, .lst 1 [.bool neg, ws ns, ws ds]] (i64 ((errQ r ns.length ds.length (val ds) : Nat) : Int)) := by
  have hL := ret_Large16 neg ns ds hln hld
  have hZ := ret_rIsZero ds hd hld
  have hK := ret_Known r h1 h2
  refine RetN_start Tryz.func76 (by kernel_rfl) rfl fun Q hQ hQ2 => ?_; rw [Tryz.ntmps76]; simp only [u, i64, Nat.reduceSub, Nat.reduceAdd, bm]
  (refine gO ?_)
  refine AWp_loop (fun i : Bool => bif i then mk 33 [(0, i64 r), (1, .lst 1 [.bool neg, ws ns, ws ds]), (5, i64 1)] [] else mk 33 [(0, i64 r), (1, .lst 1 [.bool neg, ws ns, ws ds]), (5, i64 0)] []) (fun i => i = true → ¬ 4096 < ns.length ∧ ¬ 4096 < ds.length) (fun i => bif i then 0 else 1) false ?_ (fun h => by cases h) ?_
  · simp only [cond_false]
    simp only [u, i64, Nat.reduceSub, Nat.reduceAdd, bm]
  intro i hi
  cases i with
  | false =>
    simp only [cond_false]
    simp only [u, i64, Nat.reduceSub, Nat.reduceAdd, bm]
    by_cases ha : 4096 < ns.length ∨ 4096 < ds.length
    · rw [decT ha] at hL
      repeat (first | (refine gC ?_; first | refine aA ?_ | (refine cR hL ?_; refine sX ?_; try refine aA ?_)) | (refine cR hL ?_; refine sX ?_; try refine aA ?_) | refine gS ?_)
      (refine FinQ hQ (congrArg Array.toList Tryz.results76) _ _ ?_); simp (disch := omega) only [u, i64, ax, if_true, forall_const, reduceCtorEq, implies_true, tvs, bf, errQ_size ha]
      rfl
    rw [decF ha] at hL
    repeat (first | (refine gC ?_; first | refine aA ?_ | (refine cR hL ?_; refine sX ?_; try refine aA ?_)) | (refine cR hL ?_; refine sX ?_; try refine aA ?_) | refine gS ?_)
    refine ⟨true, ?_, fun _ => ⟨fun h => ha (Or.inl h), fun h => ha (Or.inr h)⟩, by decide⟩
    simp only [cond_true]
    simp only [u, i64, Nat.reduceSub, Nat.reduceAdd, bm]
  | true =>
    obtain ⟨ha, hb⟩ := hi rfl
    simp only [cond_true]
    simp only [u, i64, Nat.reduceSub, Nat.reduceAdd, bm]
    (refine gO ?_)
    refine AWp_loop (fun i : Bool => bif i then mk 33 [(0, i64 r), (1, .lst 1 [.bool neg, ws ns, ws ds]), (6, i64 1)] [] else mk 33 [(0, i64 r), (1, .lst 1 [.bool neg, ws ns, ws ds]), (6, i64 0)] []) (fun i => i = true → val ds ≠ 0) (fun i => bif i then 0 else 1) false ?_ (fun h => by cases h) ?_
    · simp only [cond_false]
      simp only [u, i64, Nat.reduceSub, Nat.reduceAdd, bm]
    intro i hi
    cases i with
    | false =>
      simp only [cond_false]
      simp only [u, i64, Nat.reduceSub, Nat.reduceAdd, bm]
      by_cases h0 : val ds = 0
      · rw [decT h0] at hZ
        repeat (first | (refine gC ?_; first | refine aA ?_ | (refine cR hZ ?_; refine sX ?_; try refine aA ?_)) | (refine cR hZ ?_; refine sX ?_; try refine aA ?_) | refine gS ?_)
        (refine FinQ hQ (congrArg Array.toList Tryz.results76) _ _ ?_); simp (disch := omega) only [u, i64, ax, if_true, forall_const, reduceCtorEq, implies_true, tvs, bf, errQ_zero ha hb h0]
        rfl
      · rw [decF h0] at hZ
        repeat (first | (refine gC ?_; first | refine aA ?_ | (refine cR hZ ?_; refine sX ?_; try refine aA ?_)) | (refine cR hZ ?_; refine sX ?_; try refine aA ?_) | refine gS ?_)
        refine ⟨true, ?_, fun _ => h0, by decide⟩
        simp only [cond_true]
        simp only [u, i64, Nat.reduceSub, Nat.reduceAdd, bm]
    | true =>
      have h0 := hi rfl
      simp only [cond_true]
      simp only [u, i64, Nat.reduceSub, Nat.reduceAdd, bm]
      by_cases hr : 0 ≤ r ∧ r ≤ 4
      · rw [decT hr] at hK
        repeat (first | (refine gC ?_; first | refine aA ?_ | (refine cR hK ?_; refine sX ?_; try refine aA ?_)) | (refine cR hK ?_; refine sX ?_; try refine aA ?_) | refine gS ?_)
        (refine FinQ hQ (congrArg Array.toList Tryz.results76) _ _ ?_); simp (disch := omega) only [u, i64, ax, if_true, forall_const, reduceCtorEq, implies_true, tvs, bf, errQ_ok ha hb h0 hr]
        rfl
      · rw [decF hr] at hK
        repeat (first | (refine gC ?_; first | refine aA ?_ | (refine cR hK ?_; refine sX ?_; try refine aA ?_)) | (refine cR hK ?_; refine sX ?_; try refine aA ?_) | refine gS ?_)
        (refine FinQ hQ (congrArg Array.toList Tryz.results76) _ _ ?_); simp (disch := omega) only [u, i64, ax, if_true, forall_const, reduceCtorEq, implies_true, tvs, bf, errQ_arg ha hb h0 hr]
        rfl
end Go.Proofs
set_option linter.unusedVariables false
set_option linter.unusedSimpArgs false
namespace Go.Proofs
open Go.Ax
set_option maxRecDepth 100000 in
theorem ret_rBit (xs : List Nat) (i : Nat) (hx : Wd xs) (hl : xs.length ≤ 1099511627776) (hi : i ≤ 1099511627776) : Ret Tryz.prog GEs 207 [ws xs, i64 i] (.bool (decide (val xs / 2 ^ i % 2 = 1))) := by
  refine RetN_start Tryz.func207 (by kernel_rfl) rfl fun Q hQ hQ2 => ?_; rw [Tryz.ntmps207]; simp only [u, i64, Nat.reduceSub, Nat.reduceAdd, bm]
  have hr : i % 64 < 64 := Nat.mod_lt _ (by decide)
  by_cases h : i / 64 < xs.length
  · have hw := hx.getD (i / 64)
    have hw2 : xs.getD (i / 64) 0 / 2 ^ (i % 64) < 18446744073709551616 := Nat.lt_of_le_of_lt (Nat.div_le_self _ _) hw
    (refine gO ?_)
    (refine FinQ hQ (congrArg Array.toList Tryz.results207) _ _ ?_); simp (disch := omega) only [u, i64, ax, if_true, forall_const, reduceCtorEq, implies_true, tvs, bf, bit_val xs i hx h]
  · (refine gO ?_)
    (refine FinQ hQ (congrArg Array.toList Tryz.results207) _ _ ?_); simp (disch := omega) only [u, i64, ax, if_true, forall_const, reduceCtorEq, implies_true, tvs, bf, bit_over xs i hx (by omega)]
    rfl
theorem left_row (xs : List Nat) (v : Nat) (D : List Nat) (hD : D = wfb 4294967296 (2 * xs.length + 2) v) (hv : v < 4294967296 ^ (2 * xs.length + 2)) :
    Wd (joined (D.take (2 * xs.length)) ++ [D.getD (2 * xs.length) 0 + D.getD (2 * xs.length + 1) 0 * 4294967296]) ∧ val (joined (D.take (2 * xs.length)) ++ [D.getD (2 * xs.length) 0 + D.getD (2 * xs.length + 1) 0 * 4294967296]) = v ∧ (joined (D.take (2 * xs.length))).length = xs.length := by
  have hl : D.length = 2 * xs.length + 2 := by rw [hD, wfb_length]
  have e := joined_take D xs.length (by omega)
  rw [List.take_of_length_le (by omega)] at e
  rw [← e]
  have hd : Ds 4294967296 D := by rw [hD]; exact wfb_Ds (by decide) _ _
  refine ⟨joined_Wd hd, ?_, ?_⟩
  · rw [joined_val _ (by omega), hD, vb_wfb (by decide) _ _ hv]
  · rw [joined_length, List.length_take]; omega
theorem pad_self (ds : List Nat) (m : Nat) (h : ds.length = m) : pad ds m = ds := by unfold pad; rw [h, Nat.sub_self]; simp
set_option maxRecDepth 100000 in
theorem ret_rLeft1 (xs : List Nat) (s : Nat) (hx : Wd xs) (hs : s < 64) (hl : xs.length ≤ 34359738368) : ∃ row : List Nat, ∃ hi : Nat, Wd (row ++ [hi]) ∧ val (row ++ [hi]) = val xs * 2 ^ s ∧ row.length = xs.length ∧ Ret Tryz.prog GEs 183 [ws xs, i64 s] (.tup [ws row, u hi]) := by
  have hp : 2 ^ s < 18446744073709551616 := Nat.pow_lt_pow_right (a := 2) (m := s) (n := 64) (by decide) hs
  have hv : val xs * 2 ^ s < 4294967296 ^ (2 * xs.length + 2) := by
    rw [Nat.pow_add, pow_half]
    exact Nat.mul_lt_mul'' (val_lt hx) hp
  obtain ⟨D, hD⟩ : ∃ D, D = wfb 4294967296 (2 * xs.length + 2) (val xs * 2 ^ s) := ⟨_, rfl⟩
  obtain ⟨h1, h2, h3⟩ := left_row xs _ D hD hv
  refine ⟨_, _, h1, h2, h3, ?_⟩
  have hT := ret_Times (digs xs) [2 ^ s % 4294967296, 2 ^ s / 4294967296] (digs_Ds hx) (Ds_cons (by omega) (Ds_cons (by omega) Ds_nil)) (by rw [digs_length]; omega) (by simp)
  rw [digs_val, digs_length, show vb 4294967296 [2 ^ s % 4294967296, 2 ^ s / 4294967296] = 2 ^ s by simp only [vb]; omega, show [2 ^ s % 4294967296, 2 ^ s / 4294967296].length = 2 from rfl, ← hD] at hT
  have hC := ret_Cut D xs.length (by rw [hD]; exact wfb_Ds (by decide) _ _) (by rw [hD, wfb_length]; omega) (by omega)
  rw [pad_self D _ (by rw [hD, wfb_length])] at hC
  refine RetN_start Tryz.func183 (by kernel_rfl) rfl fun Q hQ hQ2 => ?_; rw [Tryz.ntmps183]; simp only [u, i64, Nat.reduceSub, Nat.reduceAdd, bm]
  (refine gO ?_)
  (refine gC ?_)
  (refine cR (ret_Digits xs hx (by omega)) ?_; refine sX ?_; try refine aA ?_)
  simp only [Nat.one_mul]
  repeat (first | (refine gC ?_; first | refine aA ?_ | ((first | refine cR (ret_rWord (2 ^ s) hp) ?_ | refine cR hT ?_ | refine cR hC ?_); refine sX ?_; try refine aA ?_)) | ((first | refine cR (ret_rWord (2 ^ s) hp) ?_ | refine cR hT ?_ | refine cR hC ?_); refine sX ?_; try refine aA ?_) | refine gS ?_)
  (refine FinQ hQ (congrArg Array.toList Tryz.results183) _ _ ?_); simp (disch := omega) only [u, i64, ax, if_true, forall_const, reduceCtorEq, implies_true, tvs, bf]
set_option maxRecDepth 100000 in
theorem ret_rLeft (xs : List Nat) (s : Nat) (hx : Wd xs) (hl : xs.length ≤ 8589934592) (hs : s ≤ 549755813888) : Ret Tryz.prog GEs 98 [ws xs, i64 s] (nat (val xs * 2 ^ s)) := by
  have hr : s % 64 < 64 := Nat.mod_lt _ (by decide)
  obtain ⟨row, hi, h1, h2, h3, hL⟩ := ret_rLeft1 xs (s % 64) hx hr (by omega)
  have hW : Wd (List.replicate (s / 64) 0 ++ (row ++ [hi])) := (Wd_replicate _ (by decide)).append h1
  have hv : val (List.replicate (s / 64) 0 ++ (row ++ [hi])) = val xs * 2 ^ s := by
    rw [val_append, val_replicate_zero, h2, List.length_replicate, Nat.zero_add, Nat.mul_left_comm, Bpow, ← Nat.pow_add, Nat.div_add_mod]
  have hT := ret_rTrim _ hW (by simp [h3]; omega)
  rw [hv] at hT
  refine RetN_start Tryz.func98 (by kernel_rfl) rfl fun Q hQ hQ2 => ?_; rw [Tryz.ntmps98]; simp only [u, i64, Nat.reduceSub, Nat.reduceAdd, bm]
  (refine gO ?_)
  (refine gC ?_)
  (refine cR hL ?_; refine sX ?_; try refine aA ?_)
  have hrl : row.length ≤ 8589934592 := by omega
  have hall : (List.replicate (s / 64) 0 ++ row) ++ [hi] = List.replicate (s / 64) 0 ++ (row ++ [hi]) := List.append_assoc _ _ _
  have hlen : ((List.replicate (s / 64) 0 ++ row) ++ [hi]).length = s / 64 + row.length + 1 := by simp; omega
  have hlen2 : (List.replicate (s / 64) 0 ++ row).length = s / 64 + row.length := by simp
  rw [← hall] at hT
  (refine gO ?_)
  ((first | refine G_sregL 4 mixed (by first | rfl | kernel_rfl) rfl rfl ?_ | refine G_regL 4 mixed (by first | rfl | kernel_rfl) rfl rfl ?_); simp (disch := omega) only [u, i64, ax, eq_self, if_true, if_false, Nat.reduceAdd, Int.reduceToNat, Int.reduceAdd, tvs, bs, tk_0, tk_S]; refine aft_any ?_)
  rw [← us_snoc1]
  refine LStep_cool0 ?_
  (refine LStep_ret rfl (by rfl) (by refine sX ?_; (simp (disch := omega) only [if_true, forall_const, reduceCtorEq, implies_true, bz]) <;> rfl) hT ?_; simp (disch := omega) only [u, i64, ax, eq_self, if_true, if_false, Nat.reduceAdd, Int.reduceToNat, Int.reduceAdd, tvs, bs, mp_0, mp_S, ap_0, ap_S, tk_0, tk_S, us_length]; try refine aA ?_)
  (refine gO ?_)
  (refine FinQ hQ (congrArg Array.toList Tryz.results98) _ _ ?_); simp (disch := omega) only [u, i64, ax, if_true, forall_const, reduceCtorEq, implies_true, tvs, bf]
end Go.Proofs
