/-
  Contracts of functions of the program, each proved by a walk.
-/
import Derived.Test.YtpnljnmpocobjaaDoorX15
import Derived.Test.YtpnljnmpocobjaaDoorX11
import Derived.Test.YtpnljnmpocobjaaDoorX13
import Derived.Test.YtpnljnmpocobjaaDoorX8
import Derived.Test.YtpnljnmpocobjaaDoorX14
set_option maxRecDepth 100000
set_option linter.unusedVariables false
set_option linter.unusedSimpArgs false
namespace Go.Proofs
open Go.Ax
end Go.Proofs
set_option linter.unusedVariables false
set_option linter.unusedSimpArgs false
namespace Go.Proofs
open Go.Ax
end Go.Proofs
set_option linter.unusedVariables false
set_option linter.unusedSimpArgs false
namespace Go.Proofs
open Go.Ax
end Go.Proofs
set_option linter.unusedVariables false
set_option linter.unusedSimpArgs false
namespace Go.Proofs
open Go.Ax
end Go.Proofs
set_option linter.unusedVariables false
set_option linter.unusedSimpArgs false
namespace Go.Proofs
open Go.Ax
set_option maxRecDepth 100000 in
theorem ret_Known (r : Int) (h1 : -9223372036854775808 ≤ r) (h2 : r < 9223372036854775808) : Ret Tryd.prog GEs 31 [i64 r] (.bool (decide (0 ≤ r ∧ r ≤ 4))) := by
  refine RetN_start Tryd.func31 (by kernel_rfl) rfl fun Q hQ hQ2 => ?_; rw [Tryd.ntmps31]; simp only [u, i64, Nat.reduceSub, Nat.reduceAdd, bm]
  by_cases ha : 0 ≤ r
  · by_cases hb : r ≤ 4
    · repeat (first | ((first | refine Gs ?_ | refine Gr ?_); simp (disch := omega) only [u, i64, ax, eq_self, if_true, if_false, Nat.reduceAdd, Int.reduceToNat, Int.reduceAdd, tvs, bs]; refine aA ?_) | refine G_seq ?_ | refine G_block ?_ | refine G_condT rfl ?_ | refine G_condF rfl ?_ | refine G_skip ?_ | refine G_ret ?_ | refine G_exit ?_ | refine q_tn ?_ | refine q_tr ?_ | refine q_tx ?_ | refine q_bn ?_ | refine q_br ?_ | refine q_bx ?_ | refine q_by (by decide) ?_)
      (refine FinQ hQ (congrArg Array.toList Tryd.results31) _ _ ?_); simp (disch := omega) only [u, i64, ax, if_true, forall_const, reduceCtorEq, implies_true, tvs, bf, decT (show 0 ≤ r ∧ r ≤ 4 from ⟨ha, hb⟩)]
    · repeat (first | ((first | refine Gs ?_ | refine Gr ?_); simp (disch := omega) only [u, i64, ax, eq_self, if_true, if_false, Nat.reduceAdd, Int.reduceToNat, Int.reduceAdd, tvs, bs]; refine aA ?_) | refine G_seq ?_ | refine G_block ?_ | refine G_condT rfl ?_ | refine G_condF rfl ?_ | refine G_skip ?_ | refine G_ret ?_ | refine G_exit ?_ | refine q_tn ?_ | refine q_tr ?_ | refine q_tx ?_ | refine q_bn ?_ | refine q_br ?_ | refine q_bx ?_ | refine q_by (by decide) ?_)
      (refine FinQ hQ (congrArg Array.toList Tryd.results31) _ _ ?_); simp (disch := omega) only [u, i64, ax, if_true, forall_const, reduceCtorEq, implies_true, tvs, bf, decF (show ¬ (0 ≤ r ∧ r ≤ 4) from fun h => hb h.2)]
  · repeat (first | ((first | refine Gs ?_ | refine Gr ?_); simp (disch := omega) only [u, i64, ax, eq_self, if_true, if_false, Nat.reduceAdd, Int.reduceToNat, Int.reduceAdd, tvs, bs]; refine aA ?_) | refine G_seq ?_ | refine G_block ?_ | refine G_condT rfl ?_ | refine G_condF rfl ?_ | refine G_skip ?_ | refine G_ret ?_ | refine G_exit ?_ | refine q_tn ?_ | refine q_tr ?_ | refine q_tx ?_ | refine q_bn ?_ | refine q_br ?_ | refine q_bx ?_ | refine q_by (by decide) ?_)
    (refine FinQ hQ (congrArg Array.toList Tryd.results31) _ _ ?_); simp (disch := omega) only [u, i64, ax, if_true, forall_const, reduceCtorEq, implies_true, tvs, bf, decF (show ¬ (0 ≤ r ∧ r ≤ 4) from fun h => ha h.1)]
end Go.Proofs
set_option linter.unusedVariables false
set_option linter.unusedSimpArgs false
namespace Go.Proofs
open Go.Ax
end Go.Proofs
set_option linter.unusedVariables false
set_option linter.unusedSimpArgs false
namespace Go.Proofs
open Go.Ax
end Go.Proofs
set_option linter.unusedVariables false
set_option linter.unusedSimpArgs false
namespace Go.Proofs
open Go.Ax
end Go.Proofs
set_option linter.unusedVariables false
set_option linter.unusedSimpArgs false
namespace Go.Proofs
open Go.Ax
end Go.Proofs
set_option linter.unusedVariables false
namespace Go.Proofs
open Go.Ax
end Go.Proofs
set_option linter.unusedVariables false
set_option linter.unusedSimpArgs false
namespace Go.Proofs
open Go.Ax
end Go.Proofs
set_option linter.unusedVariables false
set_option linter.unusedSimpArgs false
namespace Go.Proofs
open Go.Ax
end Go.Proofs
set_option linter.unusedVariables false
set_option linter.unusedSimpArgs false
namespace Go.Proofs
open Go.Ax
end Go.Proofs
set_option linter.unusedVariables false
set_option linter.unusedSimpArgs false
namespace Go.Proofs
open Go.Ax
end Go.Proofs
set_option linter.unusedVariables false
set_option linter.unusedSimpArgs false
namespace Go.Proofs
open Go.Ax
end Go.Proofs
set_option linter.unusedVariables false
set_option linter.unusedSimpArgs false
namespace Go.Proofs
open Go.Ax
end Go.Proofs
set_option linter.unusedVariables false
set_option linter.unusedSimpArgs false
namespace Go.Proofs
open Go.Ax
end Go.Proofs
set_option linter.unusedVariables false
set_option linter.unusedSimpArgs false
namespace Go.Proofs
open Go.Ax
end Go.Proofs
set_option linter.unusedVariables false
set_option linter.unusedSimpArgs false
namespace Go.Proofs
open Go.Ax
end Go.Proofs
set_option linter.unusedVariables false
set_option linter.unusedSimpArgs false
namespace Go.Proofs
open Go.Ax
end Go.Proofs
set_option linter.unusedVariables false
set_option linter.unusedSimpArgs false
namespace Go.Proofs
open Go.Ax
end Go.Proofs
set_option linter.unusedVariables false
set_option linter.unusedSimpArgs false
namespace Go.Proofs
open Go.Ax
end Go.Proofs
set_option linter.unusedVariables false
set_option linter.unusedSimpArgs false
namespace Go.Proofs
open Go.Ax
end Go.Proofs
set_option linter.unusedVariables false
set_option linter.unusedSimpArgs false
namespace Go.Proofs
open Go.Ax
end Go.Proofs
set_option linter.unusedVariables false
set_option linter.unusedSimpArgs false
set_option maxRecDepth 100000
namespace Go.Proofs
open Go.Ax
end Go.Proofs
set_option linter.unusedVariables false
set_option linter.unusedSimpArgs false
set_option maxRecDepth 100000
namespace Go.Proofs
open Go.Ax
theorem ret_Ctx (p g r : Int) : Ret Tryd.prog GEs 43 [cx p g r] (cx p g r) := by
  unfold cx
  refine RetN_start Tryd.func43 (by kernel_rfl) rfl fun Q hQ hQ2 => ?_; rw [Tryd.ntmps43]; simp only [u, i64, Nat.reduceSub, Nat.reduceAdd, bm]
  repeat (first | ((first | refine Gs ?_ | refine Gr ?_); simp (disch := omega) only [u, i64, ax, eq_self, if_true, if_false, Nat.reduceAdd, Int.reduceToNat, Int.reduceAdd, tvs, bs]; refine aA ?_) | refine G_seq ?_ | refine G_block ?_ | refine G_condT rfl ?_ | refine G_condF rfl ?_ | refine G_skip ?_ | refine G_ret ?_ | refine G_exit ?_ | refine q_tn ?_ | refine q_tr ?_ | refine q_tx ?_ | refine q_bn ?_ | refine q_br ?_ | refine q_bx ?_ | refine q_by (by decide) ?_)
  (refine FinQ hQ (congrArg Array.toList Tryd.results43) _ _ ?_); simp (disch := omega) only [u, i64, ax, if_true, forall_const, reduceCtorEq, implies_true, tvs, bf]
theorem ret_Least22 (p g r : Int) (hg : 1 ≤ g ∧ g ≤ 6000) : Ret Tryd.prog GEs 48 [cx p g r] (i64 (1 - g)) := by
  unfold cx
  refine RetN_start Tryd.func48 (by kernel_rfl) rfl fun Q hQ hQ2 => ?_; rw [Tryd.ntmps48]; simp only [u, i64, Nat.reduceSub, Nat.reduceAdd, bm]
  repeat (first | ((first | refine Gs ?_ | refine Gr ?_); simp (disch := omega) only [u, i64, ax, eq_self, if_true, if_false, Nat.reduceAdd, Int.reduceToNat, Int.reduceAdd, tvs, bs]; refine aA ?_) | refine G_seq ?_ | refine G_block ?_ | refine G_condT rfl ?_ | refine G_condF rfl ?_ | refine G_skip ?_ | refine G_ret ?_ | refine G_exit ?_ | refine q_tn ?_ | refine q_tr ?_ | refine q_tx ?_ | refine q_bn ?_ | refine q_br ?_ | refine q_bx ?_ | refine q_by (by decide) ?_)
  (refine FinQ hQ (congrArg Array.toList Tryd.results48) _ _ ?_); simp (disch := omega) only [u, i64, ax, if_true, forall_const, reduceCtorEq, implies_true, tvs, bf]
theorem ret_Tiny22 (p g r : Int) (hp : 1 ≤ p ∧ p ≤ 400) (hg : 1 ≤ g ∧ g ≤ 6000) : Ret Tryd.prog GEs 49 [cx p g r] (i64 (1 - g - (p - 1))) := by
  have hL := ret_Least22 p g r hg
  unfold cx at *
  refine RetN_start Tryd.func49 (by kernel_rfl) rfl fun Q hQ hQ2 => ?_; rw [Tryd.ntmps49]; simp only [u, i64, Nat.reduceSub, Nat.reduceAdd, bm]
  repeat (first | ((first | refine Gs ?_ | refine Gr ?_); simp (disch := omega) only [u, i64, ax, eq_self, if_true, if_false, Nat.reduceAdd, Int.reduceToNat, Int.reduceAdd, tvs, bs]; first | refine aA ?_ | (refine cR hL ?_; simp (disch := omega) only [u, i64, ax, eq_self, if_true, if_false, Nat.reduceAdd, Int.reduceToNat, Int.reduceAdd, tvs, bs]; try refine aA ?_)) | (refine cR hL ?_; simp (disch := omega) only [u, i64, ax, eq_self, if_true, if_false, Nat.reduceAdd, Int.reduceToNat, Int.reduceAdd, tvs, bs]; try refine aA ?_) | refine G_seq ?_ | refine G_block ?_ | refine G_condT rfl ?_ | refine G_condF rfl ?_ | refine G_skip ?_ | refine G_ret ?_ | refine G_exit ?_ | refine q_tn ?_ | refine q_tr ?_ | refine q_tx ?_ | refine q_bn ?_ | refine q_br ?_ | refine q_bx ?_ | refine q_by (by decide) ?_)
  (refine FinQ hQ (congrArg Array.toList Tryd.results49) _ _ ?_); simp (disch := omega) only [u, i64, ax, if_true, forall_const, reduceCtorEq, implies_true, tvs, bf]
theorem ret_Right22 (p g r : Int) (h1 : -9223372036854775808 ≤ r) (h2 : r < 9223372036854775808) : Ret Tryd.prog GEs 107 [cx p g r] (.bool (decide (okC p g r))) := by
  have hK := ret_Known r h1 h2
  unfold cx
  by_cases hp1 : 1 ≤ p
  · by_cases hp2 : p ≤ 400
    · by_cases hg1 : 1 ≤ g
      · by_cases hg2 : g ≤ 6000
        · by_cases hr : 0 ≤ r ∧ r ≤ 4
          · rw [decT hr] at hK
            rw [decT (show okC p g r from ⟨⟨hp1, hp2⟩, ⟨hg1, hg2⟩, hr⟩)]
            refine RetN_start Tryd.func107 (by kernel_rfl) rfl fun Q hQ hQ2 => ?_; rw [Tryd.ntmps107]; simp only [u, i64, Nat.reduceSub, Nat.reduceAdd, bm]
            repeat (first | ((first | refine Gs ?_ | refine Gr ?_); simp (disch := omega) only [u, i64, ax, eq_self, if_true, if_false, Nat.reduceAdd, Int.reduceToNat, Int.reduceAdd, tvs, bs]; first | refine aA ?_ | (refine cR hK ?_; simp (disch := omega) only [u, i64, ax, eq_self, if_true, if_false, Nat.reduceAdd, Int.reduceToNat, Int.reduceAdd, tvs, bs]; try refine aA ?_)) | (refine cR hK ?_; simp (disch := omega) only [u, i64, ax, eq_self, if_true, if_false, Nat.reduceAdd, Int.reduceToNat, Int.reduceAdd, tvs, bs]; try refine aA ?_) | refine G_seq ?_ | refine G_block ?_ | refine G_condT rfl ?_ | refine G_condF rfl ?_ | refine G_skip ?_ | refine G_ret ?_ | refine G_exit ?_ | refine q_tn ?_ | refine q_tr ?_ | refine q_tx ?_ | refine q_bn ?_ | refine q_br ?_ | refine q_bx ?_ | refine q_by (by decide) ?_)
            (refine FinQ hQ (congrArg Array.toList Tryd.results107) _ _ ?_); simp (disch := omega) only [u, i64, ax, if_true, forall_const, reduceCtorEq, implies_true, tvs, bf]
          · rw [decF hr] at hK
            rw [decF (show ¬ okC p g r from fun h => hr h.2.2)]
            refine RetN_start Tryd.func107 (by kernel_rfl) rfl fun Q hQ hQ2 => ?_; rw [Tryd.ntmps107]; simp only [u, i64, Nat.reduceSub, Nat.reduceAdd, bm]
            repeat (first | ((first | refine Gs ?_ | refine Gr ?_); simp (disch := omega) only [u, i64, ax, eq_self, if_true, if_false, Nat.reduceAdd, Int.reduceToNat, Int.reduceAdd, tvs, bs]; first | refine aA ?_ | (refine cR hK ?_; simp (disch := omega) only [u, i64, ax, eq_self, if_true, if_false, Nat.reduceAdd, Int.reduceToNat, Int.reduceAdd, tvs, bs]; try refine aA ?_)) | (refine cR hK ?_; simp (disch := omega) only [u, i64, ax, eq_self, if_true, if_false, Nat.reduceAdd, Int.reduceToNat, Int.reduceAdd, tvs, bs]; try refine aA ?_) | refine G_seq ?_ | refine G_block ?_ | refine G_condT rfl ?_ | refine G_condF rfl ?_ | refine G_skip ?_ | refine G_ret ?_ | refine G_exit ?_ | refine q_tn ?_ | refine q_tr ?_ | refine q_tx ?_ | refine q_bn ?_ | refine q_br ?_ | refine q_bx ?_ | refine q_by (by decide) ?_)
            (refine FinQ hQ (congrArg Array.toList Tryd.results107) _ _ ?_); simp (disch := omega) only [u, i64, ax, if_true, forall_const, reduceCtorEq, implies_true, tvs, bf]
        · rw [decF (show ¬ okC p g r from fun h => hg2 h.2.1.2)]
          refine RetN_start Tryd.func107 (by kernel_rfl) rfl fun Q hQ hQ2 => ?_; rw [Tryd.ntmps107]; simp only [u, i64, Nat.reduceSub, Nat.reduceAdd, bm]
          repeat (first | ((first | refine Gs ?_ | refine Gr ?_); simp (disch := omega) only [u, i64, ax, eq_self, if_true, if_false, Nat.reduceAdd, Int.reduceToNat, Int.reduceAdd, tvs, bs]; refine aA ?_) | refine G_seq ?_ | refine G_block ?_ | refine G_condT rfl ?_ | refine G_condF rfl ?_ | refine G_skip ?_ | refine G_ret ?_ | refine G_exit ?_ | refine q_tn ?_ | refine q_tr ?_ | refine q_tx ?_ | refine q_bn ?_ | refine q_br ?_ | refine q_bx ?_ | refine q_by (by decide) ?_)
          (refine FinQ hQ (congrArg Array.toList Tryd.results107) _ _ ?_); simp (disch := omega) only [u, i64, ax, if_true, forall_const, reduceCtorEq, implies_true, tvs, bf]
      · rw [decF (show ¬ okC p g r from fun h => hg1 h.2.1.1)]
        refine RetN_start Tryd.func107 (by kernel_rfl) rfl fun Q hQ hQ2 => ?_; rw [Tryd.ntmps107]; simp only [u, i64, Nat.reduceSub, Nat.reduceAdd, bm]
        repeat (first | ((first | refine Gs ?_ | refine Gr ?_); simp (disch := omega) only [u, i64, ax, eq_self, if_true, if_false, Nat.reduceAdd, Int.reduceToNat, Int.reduceAdd, tvs, bs]; refine aA ?_) | refine G_seq ?_ | refine G_block ?_ | refine G_condT rfl ?_ | refine G_condF rfl ?_ | refine G_skip ?_ | refine G_ret ?_ | refine G_exit ?_ | refine q_tn ?_ | refine q_tr ?_ | refine q_tx ?_ | refine q_bn ?_ | refine q_br ?_ | refine q_bx ?_ | refine q_by (by decide) ?_)
        (refine FinQ hQ (congrArg Array.toList Tryd.results107) _ _ ?_); simp (disch := omega) only [u, i64, ax, if_true, forall_const, reduceCtorEq, implies_true, tvs, bf]
    · rw [decF (show ¬ okC p g r from fun h => hp2 h.1.2)]
      refine RetN_start Tryd.func107 (by kernel_rfl) rfl fun Q hQ hQ2 => ?_; rw [Tryd.ntmps107]; simp only [u, i64, Nat.reduceSub, Nat.reduceAdd, bm]
      repeat (first | ((first | refine Gs ?_ | refine Gr ?_); simp (disch := omega) only [u, i64, ax, eq_self, if_true, if_false, Nat.reduceAdd, Int.reduceToNat, Int.reduceAdd, tvs, bs]; refine aA ?_) | refine G_seq ?_ | refine G_block ?_ | refine G_condT rfl ?_ | refine G_condF rfl ?_ | refine G_skip ?_ | refine G_ret ?_ | refine G_exit ?_ | refine q_tn ?_ | refine q_tr ?_ | refine q_tx ?_ | refine q_bn ?_ | refine q_br ?_ | refine q_bx ?_ | refine q_by (by decide) ?_)
      (refine FinQ hQ (congrArg Array.toList Tryd.results107) _ _ ?_); simp (disch := omega) only [u, i64, ax, if_true, forall_const, reduceCtorEq, implies_true, tvs, bf]
  · rw [decF (show ¬ okC p g r from fun h => hp1 h.1.1)]
    refine RetN_start Tryd.func107 (by kernel_rfl) rfl fun Q hQ hQ2 => ?_; rw [Tryd.ntmps107]; simp only [u, i64, Nat.reduceSub, Nat.reduceAdd, bm]
    repeat (first | ((first | refine Gs ?_ | refine Gr ?_); simp (disch := omega) only [u, i64, ax, eq_self, if_true, if_false, Nat.reduceAdd, Int.reduceToNat, Int.reduceAdd, tvs, bs]; refine aA ?_) | refine G_seq ?_ | refine G_block ?_ | refine G_condT rfl ?_ | refine G_condF rfl ?_ | refine G_skip ?_ | refine G_ret ?_ | refine G_exit ?_ | refine q_tn ?_ | refine q_tr ?_ | refine q_tx ?_ | refine q_bn ?_ | refine q_br ?_ | refine q_bx ?_ | refine q_by (by decide) ?_)
    (refine FinQ hQ (congrArg Array.toList Tryd.results107) _ _ ?_); simp (disch := omega) only [u, i64, ax, if_true, forall_const, reduceCtorEq, implies_true, tvs, bf]
end Go.Proofs
set_option linter.unusedVariables false
set_option linter.unusedSimpArgs false
set_option maxRecDepth 100000
namespace Go.Proofs
open Go.Ax
end Go.Proofs
set_option linter.unusedVariables false
set_option linter.unusedSimpArgs false
set_option maxRecDepth 100000
namespace Go.Proofs
open Go.Ax
set_option maxHeartbeats 2000000 in
theorem ret_Check22_0 (p : Nat) (g : Int) (r : Nat) (hp : 1 ≤ p ∧ p ≤ 400) (hg : 1 ≤ g ∧ g ≤ 6000) (hr : r ≤ 4)  :
    Ret Tryd.prog GEs 45 [cx p g r, .emp] (i64 (0)) := by
  have hR := ret_Right22 p g r (by omega) (by omega)
  rw [decT (show okC p g r from ⟨by omega, hg, by omega⟩)] at hR
  unfold cx at *
  refine RetN_start Tryd.func45 (by kernel_rfl) rfl fun Q hQ hQ2 => ?_; rw [Tryd.ntmps45]; simp only [u, i64, Nat.reduceSub, Nat.reduceAdd, bm]
  repeat (first | ((first | refine Gs ?_ | refine Gr ?_); simp (disch := omega) only [u, i64, ax, eq_self, if_true, if_false, Nat.reduceAdd, Int.reduceToNat, Int.reduceAdd, tvs, bs]; refine aA ?_) | refine G_seq ?_ | refine G_block ?_ | refine G_condT rfl ?_ | refine G_condF rfl ?_ | refine G_skip ?_ | refine G_ret ?_ | refine G_exit ?_ | refine q_tn ?_ | refine q_tr ?_ | refine q_tx ?_ | refine q_bn ?_ | refine q_br ?_ | refine q_bx ?_ | refine q_by (by decide) ?_)
  refine G_loop ?_
  refine G_round ?_
  repeat (first | ((first | refine Gs ?_ | refine Gr ?_); simp (disch := omega) only [u, i64, ax, eq_self, if_true, if_false, Nat.reduceAdd, Int.reduceToNat, Int.reduceAdd, tvs, bs]; first | refine aA ?_ | (refine cR hR ?_; simp (disch := omega) only [u, i64, ax, eq_self, if_true, if_false, Nat.reduceAdd, Int.reduceToNat, Int.reduceAdd, tvs, bs]; try refine aA ?_)) | (refine cR hR ?_; simp (disch := omega) only [u, i64, ax, eq_self, if_true, if_false, Nat.reduceAdd, Int.reduceToNat, Int.reduceAdd, tvs, bs]; try refine aA ?_) | refine G_seq ?_ | refine G_block ?_ | refine G_condT rfl ?_ | refine G_condF rfl ?_ | refine G_skip ?_ | refine G_ret ?_ | refine G_exit ?_ | refine q_tn ?_ | refine q_tr ?_ | refine q_tx ?_ | refine q_bn ?_ | refine q_br ?_ | refine q_bx ?_ | refine q_by (by decide) ?_)
  refine G_loop ?_
  refine G_round ?_
  repeat (first | ((first | refine Gs ?_ | refine Gr ?_); simp (disch := omega) only [u, i64, ax, eq_self, if_true, if_false, Nat.reduceAdd, Int.reduceToNat, Int.reduceAdd, tvs, bs]; refine aA ?_) | refine G_seq ?_ | refine G_block ?_ | refine G_condT rfl ?_ | refine G_condF rfl ?_ | refine G_skip ?_ | refine G_ret ?_ | refine G_exit ?_ | refine q_tn ?_ | refine q_tr ?_ | refine q_tx ?_ | refine q_bn ?_ | refine q_br ?_ | refine q_bx ?_ | refine q_by (by decide) ?_)
  (refine FinQ hQ (congrArg Array.toList Tryd.results45) _ _ ?_); simp (disch := omega) only [u, i64, ax, if_true, forall_const, reduceCtorEq, implies_true, tvs, bf]
theorem ret_Check22b_0 (p g r : Int) (r1 : -9223372036854775808 ≤ r) (r2 : r < 9223372036854775808) (hb : ¬ okC p g r)  :
    Ret Tryd.prog GEs 45 [cx p g r, .emp] (i64 220) := by
  have hR := ret_Right22 p g r r1 r2
  rw [decF hb] at hR
  clear hb
  unfold cx at *
  refine RetN_start Tryd.func45 (by kernel_rfl) rfl fun Q hQ hQ2 => ?_; rw [Tryd.ntmps45]; simp only [u, i64, Nat.reduceSub, Nat.reduceAdd, bm]
  repeat (first | ((first | refine Gs ?_ | refine Gr ?_); simp (disch := omega) only [u, i64, ax, eq_self, if_true, if_false, Nat.reduceAdd, Int.reduceToNat, Int.reduceAdd, tvs, bs]; refine aA ?_) | refine G_seq ?_ | refine G_block ?_ | refine G_condT rfl ?_ | refine G_condF rfl ?_ | refine G_skip ?_ | refine G_ret ?_ | refine G_exit ?_ | refine q_tn ?_ | refine q_tr ?_ | refine q_tx ?_ | refine q_bn ?_ | refine q_br ?_ | refine q_bx ?_ | refine q_by (by decide) ?_)
  refine G_loop ?_
  refine G_round ?_
  repeat (first | ((first | refine Gs ?_ | refine Gr ?_); simp (disch := omega) only [u, i64, ax, eq_self, if_true, if_false, Nat.reduceAdd, Int.reduceToNat, Int.reduceAdd, tvs, bs]; first | refine aA ?_ | (refine cR hR ?_; simp (disch := omega) only [u, i64, ax, eq_self, if_true, if_false, Nat.reduceAdd, Int.reduceToNat, Int.reduceAdd, tvs, bs]; try refine aA ?_)) | (refine cR hR ?_; simp (disch := omega) only [u, i64, ax, eq_self, if_true, if_false, Nat.reduceAdd, Int.reduceToNat, Int.reduceAdd, tvs, bs]; try refine aA ?_) | refine G_seq ?_ | refine G_block ?_ | refine G_condT rfl ?_ | refine G_condF rfl ?_ | refine G_skip ?_ | refine G_ret ?_ | refine G_exit ?_ | refine q_tn ?_ | refine q_tr ?_ | refine q_tx ?_ | refine q_bn ?_ | refine q_br ?_ | refine q_bx ?_ | refine q_by (by decide) ?_)
  (refine FinQ hQ (congrArg Array.toList Tryd.results45) _ _ ?_); simp (disch := omega) only [u, i64, ax, if_true, forall_const, reduceCtorEq, implies_true, tvs, bf]
end Go.Proofs
set_option linter.unusedVariables false
set_option linter.unusedSimpArgs false
set_option maxRecDepth 100000
namespace Go.Proofs
open Go.Ax
theorem dg_small {n k : Nat} (h1 : 10 ^ k ≤ n) (h2 : n < 10 ^ (k + 1)) : dg n = k + 1 := dg_eq h1 h2
theorem okDI (n : Nat) (h : n < 1000000) (k : Nat) (hk : k < 3) (e : Int) (he : -100 ≤ e ∧ e ≤ 100) : DI.ok ⟨k, false, [n], e⟩ :=
  ⟨by show -9223372036854775808 ≤ (k : Int); omega, by show (k : Int) < 9223372036854775808; omega, by show -9223372036854775808 ≤ e; omega, by show e < 9223372036854775808; omega, Wd_cons (by omega) Wd_nil, by show 1 ≤ 40; decide⟩
theorem val1 (n : Nat) : val [n] = n := by simp [val]
theorem okIn1 (n : Nat) (e : Int) (k : Nat) (h1 : 10 ^ k ≤ n) (h2 : n < 10 ^ (k + 1)) (hk : k + 1 ≤ 5) (he : -13 ≤ e) (he2 : e + k ≤ 10) : DI.okIn 5 10 ⟨0, false, [n], e⟩ := by
  have hd := dg_small h1 h2
  have hn : n ≠ 0 := by have := ten_pos k; omega
  refine ⟨.inl ⟨rfl, by show -1000000 ≤ e; omega, by show e ≤ 1000000; omega⟩, .inr (.inr ?_)⟩
  show val [n] ≠ 0 ∧ dg (val [n]) ≤ 5 ∧ 1 - 10 - ((5 : Nat) - 1 : Int) ≤ e ∧ e + dg (val [n]) - 1 ≤ 10
  rw [val1, hd]
  exact ⟨hn, hk, by omega, by omega⟩
theorem add_ex1 : addD 5 10 0 ⟨0, false, 120, -2⟩ ⟨0, false, 3, -1⟩ = (⟨0, false, 150, -2⟩, 0) := by
  have h := finD0_self 5 10 0 ⟨0, false, 150, -2⟩ rfl (.inr (.inr ⟨by decide, by rw [show dg 150 = 3 from dg_small (k := 2) (by decide) (by decide)]; decide, by decide, by rw [show dg 150 = 3 from dg_small (k := 2) (by decide) (by decide)]; decide⟩))
  exact h
theorem add_ex2 : addD 5 10 0 ⟨0, false, 99999, 0⟩ ⟨0, false, 2, 0⟩ = (⟨0, false, 10000, 1⟩, 1) := by
  have hd : dg 100001 = 6 := dg_small (k := 5) (by decide) (by decide)
  have hst : st 100001 = 0 := by have := st_of 100001 0 (by decide); simpa using this
  show finD0 5 10 0 false 100001 0 0 = _
  unfold finD0
  rw [if_neg (by decide), finD_ine 5 10 0 false 100001 0 0 (by rw [hd]; decide) (by rw [hd, hst]; decide), hd]
  have hs : stpD 5 10 (0 + ((6 : Nat) : Int) - 1) = 1 := by decide
  rw [hs]
  have hq : quoN 0 false 100001 (10 ^ ((1 : Int) - 0).toNat) = 10000 := by decide
  rw [hq]
  have hd5 : dg 10000 = 5 := dg_small (k := 4) (by decide) (by decide)
  unfold ineD
  rw [if_neg (by decide), hd5]
  rfl
theorem quant_ex : quantD 5 10 0 ⟨0, false, 2675, -3⟩ (-2) = (⟨0, false, 268, -2⟩, 1) := by
  have hd : dg 268 = 3 := dg_small (k := 2) (by decide) (by decide)
  have hN : quantN 0 ⟨0, false, 2675, -3⟩ (-2) = 268 := by decide
  have hX : quantX ⟨0, false, 2675, -3⟩ (-2) = false := by decide
  unfold quantD
  rw [if_neg (by decide), if_neg (by decide), hN, hX]
  rw [if_pos (show inD 5 10 ⟨0, false, 268, -2⟩ from .inr (.inr ⟨by decide, by rw [hd]; decide, by decide, by rw [hd]; decide⟩))]
  rfl
theorem w1 (n : Nat) (h : words n = [n]) : nat n = .lst 1 [.int .u64 n] := by
  unfold nat
  rw [h]
  rfl
set_option maxHeartbeats 2000000 in
theorem ret_awake22 : Ret Tryd.prog GEs 37 [] (.bool true) := by
  have h1 := ret_DAdd 5 10 0 (by decide) (by decide) (by decide) ⟨0, false, [120], -2⟩ ⟨0, false, [3], -1⟩ (okDI 120 (by decide) 0 (by decide) (-2) (by decide)) (okDI 3 (by decide) 0 (by decide) (-1) (by decide))
  rw [if_pos ⟨okIn1 120 (-2) 2 (by decide) (by decide) (by decide) (by decide) (by decide), okIn1 3 (-1) 0 (by decide) (by decide) (by decide) (by decide) (by decide)⟩] at h1
  rw [show DI.D ⟨0, false, [120], -2⟩ = ⟨0, false, 120, -2⟩ by unfold DI.D mkD; rw [val1]; rfl, show DI.D ⟨0, false, [3], -1⟩ = ⟨0, false, 3, -1⟩ by unfold DI.D mkD; rw [val1]; rfl, add_ex1] at h1
  have h2 := ret_DAdd 5 10 0 (by decide) (by decide) (by decide) ⟨0, false, [99999], 0⟩ ⟨0, false, [2], 0⟩ (okDI 99999 (by decide) 0 (by decide) 0 (by decide)) (okDI 2 (by decide) 0 (by decide) 0 (by decide))
  rw [if_pos ⟨okIn1 99999 0 4 (by decide) (by decide) (by decide) (by decide) (by decide), okIn1 2 0 0 (by decide) (by decide) (by decide) (by decide) (by decide)⟩] at h2
  rw [show DI.D ⟨0, false, [99999], 0⟩ = ⟨0, false, 99999, 0⟩ by unfold DI.D mkD; rw [val1]; rfl, show DI.D ⟨0, false, [2], 0⟩ = ⟨0, false, 2, 0⟩ by unfold DI.D mkD; rw [val1]; rfl, add_ex2] at h2
  have h3 := ret_DQuantize 5 10 0 (by decide) (by decide) (by decide) ⟨0, false, [2675], -3⟩ (okDI 2675 (by decide) 0 (by decide) (-3) (by decide)) (-2) (by decide)
  rw [if_pos (okIn1 2675 (-3) 3 (by decide) (by decide) (by decide) (by decide) (by decide))] at h3
  rw [show DI.D ⟨0, false, [2675], -3⟩ = ⟨0, false, 2675, -3⟩ by unfold DI.D mkD; rw [val1]; rfl, quant_ex] at h3
  unfold dv DI.av cx at h1 h2 h3
  simp only at h1 h2 h3
  rw [w1 150 (by decide +kernel)] at h1
  rw [w1 10000 (by decide +kernel)] at h2
  rw [w1 268 (by decide +kernel)] at h3
  refine RetN_start Tryd.func37 (by kernel_rfl) rfl fun Q hQ hQ2 => ?_; rw [Tryd.ntmps37]; simp only [u, i64, Nat.reduceSub, Nat.reduceAdd, bm]
  repeat (first | ((first | refine Gs ?_ | refine Gr ?_); simp (disch := omega) only [u, i64, ax, eq_self, if_true, if_false, Nat.reduceAdd, Int.reduceToNat, Int.reduceAdd, tvs, bs]; first | refine aA ?_ | ((first | refine cR h1 ?_ | refine cR h2 ?_ | refine cR h3 ?_); simp (disch := omega) only [u, i64, ax, eq_self, if_true, if_false, Nat.reduceAdd, Int.reduceToNat, Int.reduceAdd, tvs, bs]; try refine aA ?_)) | ((first | refine cR h1 ?_ | refine cR h2 ?_ | refine cR h3 ?_); simp (disch := omega) only [u, i64, ax, eq_self, if_true, if_false, Nat.reduceAdd, Int.reduceToNat, Int.reduceAdd, tvs, bs]; try refine aA ?_) | refine G_seq ?_ | refine G_block ?_ | refine G_condT rfl ?_ | refine G_condF rfl ?_ | refine G_skip ?_ | refine G_ret ?_ | refine G_exit ?_ | refine q_tn ?_ | refine q_tr ?_ | refine q_tx ?_ | refine q_bn ?_ | refine q_br ?_ | refine q_bx ?_ | refine q_by (by decide) ?_)
  simp only [List.append_eq, List.cons_append, List.nil_append]
  repeat (first | ((first | refine Gs ?_ | refine Gr ?_); simp (disch := omega) only [u, i64, ax, eq_self, if_true, if_false, Nat.reduceAdd, Int.reduceToNat, Int.reduceAdd, tvs, bs]; refine aA ?_) | refine G_seq ?_ | refine G_block ?_ | refine G_condT rfl ?_ | refine G_condF rfl ?_ | refine G_skip ?_ | refine G_ret ?_ | refine G_exit ?_ | refine q_tn ?_ | refine q_tr ?_ | refine q_tx ?_ | refine q_bn ?_ | refine q_br ?_ | refine q_bx ?_ | refine q_by (by decide) ?_)
  (refine FinQ hQ (congrArg Array.toList Tryd.results37) _ _ ?_); simp (disch := omega) only [u, i64, ax, if_true, forall_const, reduceCtorEq, implies_true, tvs, bf]
set_option maxHeartbeats 2000000 in
theorem ret_LawDecimalChecks (p g r : Int) (r1 : -9223372036854775808 ≤ r) (r2 : r < 9223372036854775808) : Ret Tryd.prog GEs 8 [cx p g r] (.bool true) := by
  have hX := ret_Ctx p g r
  have hR := ret_Range p g r r1 r2
  have hC := ret_DCheck p g r r1 r2
  by_cases h : okC p g r
  · rw [if_pos h] at hR hC
    obtain ⟨hp, hg, hr⟩ := h
    have hL := ret_Least22 p g r hg
    have hT := ret_Tiny22 p g r hp hg
    obtain ⟨p, rfl⟩ := Int.eq_ofNat_of_zero_le (show 0 ≤ p by omega)
    obtain ⟨r, rfl⟩ := Int.eq_ofNat_of_zero_le (show 0 ≤ r by omega)
    have hK := ret_Check22_0 p g r (by omega) hg (by omega)
    generalize (1 - g - ((p : Int) - 1)) = T at *
    unfold cx at *
    refine RetN_start Tryd.func8 (by kernel_rfl) rfl fun Q hQ hQ2 => ?_; rw [Tryd.ntmps8]; simp only [u, i64, Nat.reduceSub, Nat.reduceAdd, bm]
    repeat (first | ((first | refine Gs ?_ | refine Gr ?_); simp (disch := omega) only [u, i64, ax, eq_self, if_true, if_false, Nat.reduceAdd, Int.reduceToNat, Int.reduceAdd, tvs, bs]; first | refine aA ?_ | ((first | refine cR hX ?_ | refine cR hK ?_ | refine cR hR ?_ | refine cR hC ?_ | refine cR hL ?_ | refine cR hT ?_ | refine cR ret_awake22 ?_); simp (disch := omega) only [u, i64, ax, eq_self, if_true, if_false, Nat.reduceAdd, Int.reduceToNat, Int.reduceAdd, tvs, bs]; try refine aA ?_)) | ((first | refine cR hX ?_ | refine cR hK ?_ | refine cR hR ?_ | refine cR hC ?_ | refine cR hL ?_ | refine cR hT ?_ | refine cR ret_awake22 ?_); simp (disch := omega) only [u, i64, ax, eq_self, if_true, if_false, Nat.reduceAdd, Int.reduceToNat, Int.reduceAdd, tvs, bs]; try refine aA ?_) | refine G_seq ?_ | refine G_block ?_ | refine G_condT rfl ?_ | refine G_condF rfl ?_ | refine G_skip ?_ | refine G_ret ?_ | refine G_exit ?_ | refine q_tn ?_ | refine q_tr ?_ | refine q_tx ?_ | refine q_bn ?_ | refine q_br ?_ | refine q_bx ?_ | refine q_by (by decide) ?_)
    (refine FinQ hQ (congrArg Array.toList Tryd.results8) _ _ ?_); simp (disch := omega) only [u, i64, ax, if_true, forall_const, reduceCtorEq, implies_true, tvs, bf]
  · rw [if_neg h] at hR hC
    have hK := ret_Check22b_0 p g r r1 r2 h
    clear h
    unfold cx at *
    refine RetN_start Tryd.func8 (by kernel_rfl) rfl fun Q hQ hQ2 => ?_; rw [Tryd.ntmps8]; simp only [u, i64, Nat.reduceSub, Nat.reduceAdd, bm]
    repeat (first | ((first | refine Gs ?_ | refine Gr ?_); simp (disch := omega) only [u, i64, ax, eq_self, if_true, if_false, Nat.reduceAdd, Int.reduceToNat, Int.reduceAdd, tvs, bs]; first | refine aA ?_ | ((first | refine cR hX ?_ | refine cR hK ?_ | refine cR hR ?_ | refine cR hC ?_ | refine cR ret_awake22 ?_); simp (disch := omega) only [u, i64, ax, eq_self, if_true, if_false, Nat.reduceAdd, Int.reduceToNat, Int.reduceAdd, tvs, bs]; try refine aA ?_)) | ((first | refine cR hX ?_ | refine cR hK ?_ | refine cR hR ?_ | refine cR hC ?_ | refine cR ret_awake22 ?_); simp (disch := omega) only [u, i64, ax, eq_self, if_true, if_false, Nat.reduceAdd, Int.reduceToNat, Int.reduceAdd, tvs, bs]; try refine aA ?_) | refine G_seq ?_ | refine G_block ?_ | refine G_condT rfl ?_ | refine G_condF rfl ?_ | refine G_skip ?_ | refine G_ret ?_ | refine G_exit ?_ | refine q_tn ?_ | refine q_tr ?_ | refine q_tx ?_ | refine q_bn ?_ | refine q_br ?_ | refine q_bx ?_ | refine q_by (by decide) ?_)
    (refine FinQ hQ (congrArg Array.toList Tryd.results8) _ _ ?_); simp (disch := omega) only [u, i64, ax, if_true, forall_const, reduceCtorEq, implies_true, tvs, bf]
end Go.Proofs
