/-
  Contracts of functions of the program, each proved by a walk.
-/
import Derived.Test.YtpnljnmpocobjaaDoorR9
set_option linter.unusedVariables false
set_option linter.unusedSimpArgs false
namespace Go.Proofs
open Go.Ax
/-- The error of a number and a rounding. -/
def errQ (r : Int) (n d v : Nat) : Nat := if 4096 < n ∨ 4096 < d then 2 else if v = 0 then 5 else if 0 ≤ r ∧ r ≤ 4 then 0 else 1
theorem errQ_size {r : Int} {n d v : Nat} (h : 4096 < n ∨ 4096 < d) : errQ r n d v = 2 := if_pos h
theorem errQ_zero {r : Int} {n d v : Nat} (h : ¬ 4096 < n) (h' : ¬ 4096 < d) (h0 : v = 0) : errQ r n d v = 5 := by unfold errQ; rw [if_neg (by omega), if_pos h0]
theorem errQ_arg {r : Int} {n d v : Nat} (h : ¬ 4096 < n) (h' : ¬ 4096 < d) (h0 : v ≠ 0) (hr : ¬ (0 ≤ r ∧ r ≤ 4)) : errQ r n d v = 1 := by unfold errQ; rw [if_neg (by omega), if_neg h0, if_neg hr]
theorem errQ_ok {r : Int} {n d v : Nat} (h : ¬ 4096 < n) (h' : ¬ 4096 < d) (h0 : v ≠ 0) (hr : 0 ≤ r ∧ r ≤ 4) : errQ r n d v = 0 := by unfold errQ; rw [if_neg (by omega), if_neg h0, if_pos hr]

set_option maxRecDepth 100000 in
set_option maxHeartbeats 1000000 in
theorem ret_check (r : Int) (h1 : -9223372036854775808 ≤ r) (h2 : r < 9223372036854775808) (neg : Bool) (ns ds : List Nat) (hn : Wd ns) (hd : Wd ds) (hln : ns.length ≤ 137438953472) (hld : ds.length ≤ 137438953472) :
    Ret Tryd.prog GEs 62 [i64 r, .lst 1 [.bool neg, ws ns, ws ds]] (i64 ((errQ r ns.length ds.length (val ds) : Nat) : Int)) := by
  refine RetN_start Tryd.func62 (by kernel_rfl) rfl fun Q hQ hQ2 => ?_; rw [Tryd.ntmps62]; simp only [u, i64, Nat.reduceSub, Nat.reduceAdd, bm]
  repeat (first | (((first | refine G_sreg mixed (by first | rfl | kernel_rfl) ?_ | refine G_reg mixed (by first | rfl | kernel_rfl) ?_); simp (disch := omega) only [u, i64, ax, eq_self, if_true, if_false, Nat.reduceAdd, Int.reduceToNat, Int.reduceAdd, tvs, bs]; refine aft_any ?_)) | refine G_seq ?_ | refine G_block ?_ | refine G_condT rfl ?_ | refine G_condF rfl ?_ | refine G_skip ?_ | refine G_ret ?_ | refine G_exit ?_ | refine q_tn ?_ | refine q_tr ?_ | refine q_tx ?_ | refine q_bn ?_ | refine q_br ?_ | refine q_bx ?_ | refine q_by (by decide) ?_)
  refine AWp_loop (fun i : Bool => bif i then mk 40 [(0, i64 r), (1, .lst 1 [.bool neg, ws ns, ws ds]), (9, .lst 1 [.bool neg, ws ns, ws ds]), (10, i64 1), (11, i64 1)] [⟨0, true, [.bool neg, ws ns, ws ds]⟩] else mk 40 [(0, i64 r), (1, .lst 1 [.bool neg, ws ns, ws ds]), (9, .lst 1 [.bool neg, ws ns, ws ds]), (10, i64 1), (11, i64 0)] []) (fun i => i = true → ¬ 4096 < ns.length ∧ ¬ 4096 < ds.length) (fun i => bif i then 0 else 1) false ?_ (fun h => by cases h) ?_
  · simp only [cond_false]
    simp only [u, i64, Nat.reduceSub, Nat.reduceAdd, bm]
  intro i hi
  cases i with
  | false =>
    simp only [cond_false]
    simp only [u, i64, Nat.reduceSub, Nat.reduceAdd, bm]
    by_cases ha : 4096 < ns.length
    · repeat (first | (((first | refine G_sreg mixed (by first | rfl | kernel_rfl) ?_ | refine G_reg mixed (by first | rfl | kernel_rfl) ?_); simp (disch := omega) only [u, i64, ax, eq_self, if_true, if_false, Nat.reduceAdd, Int.reduceToNat, Int.reduceAdd, tvs, bs]; refine aft_any ?_)) | refine G_seq ?_ | refine G_block ?_ | refine G_condT rfl ?_ | refine G_condF rfl ?_ | refine G_skip ?_ | refine G_ret ?_ | refine G_exit ?_ | refine q_tn ?_ | refine q_tr ?_ | refine q_tx ?_ | refine q_bn ?_ | refine q_br ?_ | refine q_bx ?_ | refine q_by (by decide) ?_)
      (refine FinQ hQ (congrArg Array.toList Tryd.results62) _ _ ?_); simp (disch := omega) only [u, i64, ax, if_true, forall_const, reduceCtorEq, implies_true, tvs, bf, errQ_size (Or.inl ha)]
      rfl
    by_cases hb : 4096 < ds.length
    · repeat (first | (((first | refine G_sreg mixed (by first | rfl | kernel_rfl) ?_ | refine G_reg mixed (by first | rfl | kernel_rfl) ?_); simp (disch := omega) only [u, i64, ax, eq_self, if_true, if_false, Nat.reduceAdd, Int.reduceToNat, Int.reduceAdd, tvs, bs]; refine aft_any ?_)) | refine G_seq ?_ | refine G_block ?_ | refine G_condT rfl ?_ | refine G_condF rfl ?_ | refine G_skip ?_ | refine G_ret ?_ | refine G_exit ?_ | refine q_tn ?_ | refine q_tr ?_ | refine q_tx ?_ | refine q_bn ?_ | refine q_br ?_ | refine q_bx ?_ | refine q_by (by decide) ?_)
      (refine FinQ hQ (congrArg Array.toList Tryd.results62) _ _ ?_); simp (disch := omega) only [u, i64, ax, if_true, forall_const, reduceCtorEq, implies_true, tvs, bf, errQ_size (Or.inr hb)]
      rfl
    repeat (first | (((first | refine G_sreg mixed (by first | rfl | kernel_rfl) ?_ | refine G_reg mixed (by first | rfl | kernel_rfl) ?_); simp (disch := omega) only [u, i64, ax, eq_self, if_true, if_false, Nat.reduceAdd, Int.reduceToNat, Int.reduceAdd, tvs, bs]; refine aft_any ?_)) | refine G_seq ?_ | refine G_block ?_ | refine G_condT rfl ?_ | refine G_condF rfl ?_ | refine G_skip ?_ | refine G_ret ?_ | refine G_exit ?_ | refine q_tn ?_ | refine q_tr ?_ | refine q_tx ?_ | refine q_bn ?_ | refine q_br ?_ | refine q_bx ?_ | refine q_by (by decide) ?_)
    refine ⟨true, ?_, fun _ => ⟨ha, hb⟩, by decide⟩
    simp only [cond_true]
    simp only [u, i64, Nat.reduceSub, Nat.reduceAdd, bm]
  | true =>
    obtain ⟨ha, hb⟩ := hi rfl
    simp only [cond_true]
    simp only [u, i64, Nat.reduceSub, Nat.reduceAdd, bm]
    repeat (first | (((first | refine G_sreg mixed (by first | rfl | kernel_rfl) ?_ | refine G_reg mixed (by first | rfl | kernel_rfl) ?_); simp (disch := omega) only [u, i64, ax, eq_self, if_true, if_false, Nat.reduceAdd, Int.reduceToNat, Int.reduceAdd, tvs, bs]; refine aft_any ?_)) | refine G_seq ?_ | refine G_block ?_ | refine G_condT rfl ?_ | refine G_condF rfl ?_ | refine G_skip ?_ | refine G_ret ?_ | refine G_exit ?_ | refine q_tn ?_ | refine q_tr ?_ | refine q_tx ?_ | refine q_bn ?_ | refine q_br ?_ | refine q_bx ?_ | refine q_by (by decide) ?_)
    refine AWp_loop (fun i : Bool => bif i then mk 40 [(0, i64 r), (1, .lst 1 [.bool neg, ws ns, ws ds]), (27, .lst 1 [.bool neg, ws ns, ws ds]), (28, i64 1), (29, i64 1)] [⟨0, true, [.bool neg, ws ns, ws ds]⟩, ⟨0, true, [.bool neg, ws ns, ws ds]⟩] else mk 40 [(0, i64 r), (1, .lst 1 [.bool neg, ws ns, ws ds]), (27, .lst 1 [.bool neg, ws ns, ws ds]), (28, i64 1), (29, i64 0)] [⟨0, true, [.bool neg, ws ns, ws ds]⟩]) (fun i => i = true → val ds ≠ 0) (fun i => bif i then 0 else 1) false ?_ (fun h => by cases h) ?_
    · simp only [cond_false]
      simp only [u, i64, Nat.reduceSub, Nat.reduceAdd, bm]
    intro i hi
    cases i with
    | false =>
      simp only [cond_false]
      simp only [u, i64, Nat.reduceSub, Nat.reduceAdd, bm]
      repeat (first | (((first | refine G_sreg mixed (by first | rfl | kernel_rfl) ?_ | refine G_reg mixed (by first | rfl | kernel_rfl) ?_); simp (disch := omega) only [u, i64, ax, eq_self, if_true, if_false, Nat.reduceAdd, Int.reduceToNat, Int.reduceAdd, tvs, bs]; refine aft_any ?_)) | refine G_seq ?_ | refine G_block ?_ | refine G_condT rfl ?_ | refine G_condF rfl ?_ | refine G_skip ?_ | refine G_ret ?_ | refine G_exit ?_ | refine q_tn ?_ | refine q_tr ?_ | refine q_tx ?_ | refine q_bn ?_ | refine q_br ?_ | refine q_bx ?_ | refine q_by (by decide) ?_)
      ((first | refine G_sreg mixed (by first | rfl | kernel_rfl) ?_ | refine G_reg mixed (by first | rfl | kernel_rfl) ?_); simp (disch := omega) only [u, i64, ax, eq_self, if_true, if_false, Nat.reduceAdd, Int.reduceToNat, Int.reduceAdd, tvs, bs])
      (refine callK_ret (ret_Zero ds hd (by omega)) (by (simp (disch := omega) only [if_true, forall_const, reduceCtorEq, implies_true, bz]) <;> rfl) ?_; simp (disch := omega) only [u, i64, ax, eq_self, if_true, if_false, Nat.reduceAdd, Int.reduceToNat, Int.reduceAdd, tvs, bs]; try refine aft_any ?_)
      by_cases h0 : val ds = 0
      · rw [decT h0]
        repeat (first | (((first | refine G_sreg mixed (by first | rfl | kernel_rfl) ?_ | refine G_reg mixed (by first | rfl | kernel_rfl) ?_); simp (disch := omega) only [u, i64, ax, eq_self, if_true, if_false, Nat.reduceAdd, Int.reduceToNat, Int.reduceAdd, tvs, bs]; refine aft_any ?_)) | refine G_seq ?_ | refine G_block ?_ | refine G_condT rfl ?_ | refine G_condF rfl ?_ | refine G_skip ?_ | refine G_ret ?_ | refine G_exit ?_ | refine q_tn ?_ | refine q_tr ?_ | refine q_tx ?_ | refine q_bn ?_ | refine q_br ?_ | refine q_bx ?_ | refine q_by (by decide) ?_)
        (refine FinQ hQ (congrArg Array.toList Tryd.results62) _ _ ?_); simp (disch := omega) only [u, i64, ax, if_true, forall_const, reduceCtorEq, implies_true, tvs, bf, errQ_zero ha hb h0]
        rfl
      · rw [decF h0]
        repeat (first | (((first | refine G_sreg mixed (by first | rfl | kernel_rfl) ?_ | refine G_reg mixed (by first | rfl | kernel_rfl) ?_); simp (disch := omega) only [u, i64, ax, eq_self, if_true, if_false, Nat.reduceAdd, Int.reduceToNat, Int.reduceAdd, tvs, bs]; refine aft_any ?_)) | refine G_seq ?_ | refine G_block ?_ | refine G_condT rfl ?_ | refine G_condF rfl ?_ | refine G_skip ?_ | refine G_ret ?_ | refine G_exit ?_ | refine q_tn ?_ | refine q_tr ?_ | refine q_tx ?_ | refine q_bn ?_ | refine q_br ?_ | refine q_bx ?_ | refine q_by (by decide) ?_)
        refine ⟨true, ?_, fun _ => h0, by decide⟩
        simp only [cond_true]
        simp only [u, i64, Nat.reduceSub, Nat.reduceAdd, bm]
    | true =>
      have h0 := hi rfl
      simp only [cond_true]
      simp only [u, i64, Nat.reduceSub, Nat.reduceAdd, bm]
      repeat (first | (((first | refine G_sreg mixed (by first | rfl | kernel_rfl) ?_ | refine G_reg mixed (by first | rfl | kernel_rfl) ?_); simp (disch := omega) only [u, i64, ax, eq_self, if_true, if_false, Nat.reduceAdd, Int.reduceToNat, Int.reduceAdd, tvs, bs]; refine aft_any ?_)) | refine G_seq ?_ | refine G_block ?_ | refine G_condT rfl ?_ | refine G_condF rfl ?_ | refine G_skip ?_ | refine G_ret ?_ | refine G_exit ?_ | refine q_tn ?_ | refine q_tr ?_ | refine q_tx ?_ | refine q_bn ?_ | refine q_br ?_ | refine q_bx ?_ | refine q_by (by decide) ?_)
      ((first | refine G_sreg mixed (by first | rfl | kernel_rfl) ?_ | refine G_reg mixed (by first | rfl | kernel_rfl) ?_); simp (disch := omega) only [u, i64, ax, eq_self, if_true, if_false, Nat.reduceAdd, Int.reduceToNat, Int.reduceAdd, tvs, bs])
      (refine callK_ret (ret_Right r h1 h2) (by (simp (disch := omega) only [if_true, forall_const, reduceCtorEq, implies_true, bz]) <;> rfl) ?_; simp (disch := omega) only [u, i64, ax, eq_self, if_true, if_false, Nat.reduceAdd, Int.reduceToNat, Int.reduceAdd, tvs, bs]; try refine aft_any ?_)
      by_cases hr : 0 ≤ r ∧ r ≤ 4
      · rw [decT hr]
        repeat (first | (((first | refine G_sreg mixed (by first | rfl | kernel_rfl) ?_ | refine G_reg mixed (by first | rfl | kernel_rfl) ?_); simp (disch := omega) only [u, i64, ax, eq_self, if_true, if_false, Nat.reduceAdd, Int.reduceToNat, Int.reduceAdd, tvs, bs]; refine aft_any ?_)) | refine G_seq ?_ | refine G_block ?_ | refine G_condT rfl ?_ | refine G_condF rfl ?_ | refine G_skip ?_ | refine G_ret ?_ | refine G_exit ?_ | refine q_tn ?_ | refine q_tr ?_ | refine q_tx ?_ | refine q_bn ?_ | refine q_br ?_ | refine q_bx ?_ | refine q_by (by decide) ?_)
        (refine FinQ hQ (congrArg Array.toList Tryd.results62) _ _ ?_); simp (disch := omega) only [u, i64, ax, if_true, forall_const, reduceCtorEq, implies_true, tvs, bf, errQ_ok ha hb h0 hr]
        rfl
      · rw [decF hr]
        repeat (first | (((first | refine G_sreg mixed (by first | rfl | kernel_rfl) ?_ | refine G_reg mixed (by first | rfl | kernel_rfl) ?_); simp (disch := omega) only [u, i64, ax, eq_self, if_true, if_false, Nat.reduceAdd, Int.reduceToNat, Int.reduceAdd, tvs, bs]; refine aft_any ?_)) | refine G_seq ?_ | refine G_block ?_ | refine G_condT rfl ?_ | refine G_condF rfl ?_ | refine G_skip ?_ | refine G_ret ?_ | refine G_exit ?_ | refine q_tn ?_ | refine q_tr ?_ | refine q_tx ?_ | refine q_bn ?_ | refine q_br ?_ | refine q_bx ?_ | refine q_by (by decide) ?_)
        (refine FinQ hQ (congrArg Array.toList Tryd.results62) _ _ ?_); simp (disch := omega) only [u, i64, ax, if_true, forall_const, reduceCtorEq, implies_true, tvs, bf, errQ_arg ha hb h0 hr]
        rfl

set_option maxRecDepth 100000 in
set_option maxHeartbeats 1000000 in
theorem ret_RoundWhole (r : Int) (h1 : -9223372036854775808 ≤ r) (h2 : r < 9223372036854775808) (neg : Bool) (ns ds : List Nat) (hn : Wd ns) (hd : Wd ds) (hln : ns.length ≤ 137438953472) (hld : ds.length ≤ 137438953472) :
    Ret Tryd.prog GEs 16 [i64 r, .agg [.bool neg, ws ns, ws ds]] (if errQ r ns.length ds.length (val ds) = 0 then .tup [.agg [.bool (neg && decide (quoN r.toNat neg (val ns) (val ds) ≠ 0)), nat (quoN r.toNat neg (val ns) (val ds))], .bool (decide (val ns % val ds = 0)), i64 0]
      else .tup [.agg [.bool false, ws []], .bool false, i64 ((errQ r ns.length ds.length (val ds) : Nat) : Int)]) := by
  have hC := ret_check r h1 h2 neg ns ds hn hd hln hld
  by_cases he : errQ r ns.length ds.length (val ds) = 0
  · rw [he] at hC
    have hall : val ds ≠ 0 ∧ 0 ≤ r ∧ r ≤ 4 := by
      unfold errQ at he
      split at he
      · cases he
      · split at he
        · cases he
        · split at he
          · exact ⟨by assumption, by assumption⟩
          · cases he
    rw [if_pos he]
    have hW := ret_whole r.toNat (by omega) neg ns ds hn hd hln hld hall.1
    rw [show ((r.toNat : Nat) : Int) = r by omega] at hW
    refine RetN_start Tryd.func16 (by kernel_rfl) rfl fun Q hQ hQ2 => ?_; rw [Tryd.ntmps16]; simp only [u, i64, Nat.reduceSub, Nat.reduceAdd, bm]
    repeat (first | (((first | refine G_sreg mixed (by first | rfl | kernel_rfl) ?_ | refine G_reg mixed (by first | rfl | kernel_rfl) ?_); simp (disch := omega) only [u, i64, ax, eq_self, if_true, if_false, Nat.reduceAdd, Int.reduceToNat, Int.reduceAdd, tvs, bs]; refine aft_any ?_)) | refine G_seq ?_ | refine G_block ?_ | refine G_condT rfl ?_ | refine G_condF rfl ?_ | refine G_skip ?_ | refine G_ret ?_ | refine G_exit ?_ | refine q_tn ?_ | refine q_tr ?_ | refine q_tx ?_ | refine q_bn ?_ | refine q_br ?_ | refine q_bx ?_ | refine q_by (by decide) ?_)
    ((first | refine G_sreg mixed (by first | rfl | kernel_rfl) ?_ | refine G_reg mixed (by first | rfl | kernel_rfl) ?_); simp (disch := omega) only [u, i64, ax, eq_self, if_true, if_false, Nat.reduceAdd, Int.reduceToNat, Int.reduceAdd, tvs, bs])
    (refine callK_ret hC (by (simp (disch := omega) only [if_true, forall_const, reduceCtorEq, implies_true, bz]) <;> rfl) ?_; simp (disch := omega) only [u, i64, ax, eq_self, if_true, if_false, Nat.reduceAdd, Int.reduceToNat, Int.reduceAdd, tvs, bs]; try refine aft_any ?_)
    repeat (first | (((first | refine G_sreg mixed (by first | rfl | kernel_rfl) ?_ | refine G_reg mixed (by first | rfl | kernel_rfl) ?_); simp (disch := omega) only [u, i64, ax, eq_self, if_true, if_false, Nat.reduceAdd, Int.reduceToNat, Int.reduceAdd, tvs, bs]; refine aft_any ?_)) | refine G_seq ?_ | refine G_block ?_ | refine G_condT rfl ?_ | refine G_condF rfl ?_ | refine G_skip ?_ | refine G_ret ?_ | refine G_exit ?_ | refine q_tn ?_ | refine q_tr ?_ | refine q_tx ?_ | refine q_bn ?_ | refine q_br ?_ | refine q_bx ?_ | refine q_by (by decide) ?_)
    ((first | refine G_sreg mixed (by first | rfl | kernel_rfl) ?_ | refine G_reg mixed (by first | rfl | kernel_rfl) ?_); simp (disch := omega) only [u, i64, ax, eq_self, if_true, if_false, Nat.reduceAdd, Int.reduceToNat, Int.reduceAdd, tvs, bs])
    (refine callK_ret hW (by (simp (disch := omega) only [if_true, forall_const, reduceCtorEq, implies_true, bz]) <;> rfl) ?_; simp (disch := omega) only [u, i64, ax, eq_self, if_true, if_false, Nat.reduceAdd, Int.reduceToNat, Int.reduceAdd, tvs, bs]; try refine aft_any ?_)
    repeat (first | (((first | refine G_sreg mixed (by first | rfl | kernel_rfl) ?_ | refine G_reg mixed (by first | rfl | kernel_rfl) ?_); simp (disch := omega) only [u, i64, ax, eq_self, if_true, if_false, Nat.reduceAdd, Int.reduceToNat, Int.reduceAdd, tvs, bs]; refine aft_any ?_)) | refine G_seq ?_ | refine G_block ?_ | refine G_condT rfl ?_ | refine G_condF rfl ?_ | refine G_skip ?_ | refine G_ret ?_ | refine G_exit ?_ | refine q_tn ?_ | refine q_tr ?_ | refine q_tx ?_ | refine q_bn ?_ | refine q_br ?_ | refine q_bx ?_ | refine q_by (by decide) ?_)
    (refine FinQ hQ (congrArg Array.toList Tryd.results16) _ _ ?_); simp (disch := omega) only [u, i64, ax, if_true, forall_const, reduceCtorEq, implies_true, tvs, bf]
  · rw [if_neg he]
    obtain ⟨e, hee⟩ : ∃ e, errQ r ns.length ds.length (val ds) = e := ⟨_, rfl⟩
    rw [hee] at hC he ⊢
    refine RetN_start Tryd.func16 (by kernel_rfl) rfl fun Q hQ hQ2 => ?_; rw [Tryd.ntmps16]; simp only [u, i64, Nat.reduceSub, Nat.reduceAdd, bm]
    repeat (first | (((first | refine G_sreg mixed (by first | rfl | kernel_rfl) ?_ | refine G_reg mixed (by first | rfl | kernel_rfl) ?_); simp (disch := omega) only [u, i64, ax, eq_self, if_true, if_false, Nat.reduceAdd, Int.reduceToNat, Int.reduceAdd, tvs, bs]; refine aft_any ?_)) | refine G_seq ?_ | refine G_block ?_ | refine G_condT rfl ?_ | refine G_condF rfl ?_ | refine G_skip ?_ | refine G_ret ?_ | refine G_exit ?_ | refine q_tn ?_ | refine q_tr ?_ | refine q_tx ?_ | refine q_bn ?_ | refine q_br ?_ | refine q_bx ?_ | refine q_by (by decide) ?_)
    ((first | refine G_sreg mixed (by first | rfl | kernel_rfl) ?_ | refine G_reg mixed (by first | rfl | kernel_rfl) ?_); simp (disch := omega) only [u, i64, ax, eq_self, if_true, if_false, Nat.reduceAdd, Int.reduceToNat, Int.reduceAdd, tvs, bs])
    (refine callK_ret hC (by (simp (disch := omega) only [if_true, forall_const, reduceCtorEq, implies_true, bz]) <;> rfl) ?_; simp (disch := omega) only [u, i64, ax, eq_self, if_true, if_false, Nat.reduceAdd, Int.reduceToNat, Int.reduceAdd, tvs, bs]; try refine aft_any ?_)
    repeat (first | (((first | refine G_sreg mixed (by first | rfl | kernel_rfl) ?_ | refine G_reg mixed (by first | rfl | kernel_rfl) ?_); simp (disch := omega) only [u, i64, ax, eq_self, if_true, if_false, Nat.reduceAdd, Int.reduceToNat, Int.reduceAdd, tvs, bs]; refine aft_any ?_)) | refine G_seq ?_ | refine G_block ?_ | refine G_condT rfl ?_ | refine G_condF rfl ?_ | refine G_skip ?_ | refine G_ret ?_ | refine G_exit ?_ | refine q_tn ?_ | refine q_tr ?_ | refine q_tx ?_ | refine q_bn ?_ | refine q_br ?_ | refine q_bx ?_ | refine q_by (by decide) ?_)
    (refine FinQ hQ (congrArg Array.toList Tryd.results16) _ _ ?_); simp (disch := omega) only [u, i64, ax, if_true, forall_const, reduceCtorEq, implies_true, tvs, bf]
    rfl
end Go.Proofs
