/-
  The framework of this work: abstract values and states, operations, regions, code, functions: proved sound over the model.
-/
import Derived.Test.YtpnljnmpocobjaaGreatDoorX6
import Derived.Test.YtpnljnmpocobjaaGreatDoorX5
import Derived.Test.YtpnljnmpocobjaaGreatDoorX15
import Derived.Test.YtpnljnmpocobjaaGreatDoorX12
set_option maxRecDepth 100000
set_option linter.unusedVariables false
set_option linter.unusedSimpArgs false
namespace Go.Ax
open Go.RowKit
def lkO : List Oper → Nat → (Oper → Prop) → Prop
  | [], _, _ => False
  | o :: _, 0, f => f o
  | _ :: os, n + 1, f => lkO os n f
section
variable {P : Program} {GE : Nat → Option (List AV)}
def XT (P : Program) (GE : Nat → Option (List AV)) (L : List Oper) (ds : List (Option Tmp)) : OT → St → (St → Prop) → Prop
  | .done, st, K => K st
  | .step i t, st, K => lkO L i fun o => XGOp P GE ds o.op o.dst o.guard st fun s => XT P GE L ds t s K
  | .alt i t r, st, K => (lkO L i fun o => XGOp P GE ds o.op o.dst o.guard st fun s => XT P GE L ds t s K) ∧ XT P GE L ds r st K
  | .stop, _, _ => True
theorem lkO_get : ∀ {L : List Oper} {i : Nat} {f : Oper → Prop}, lkO L i f → ∃ o, L[i]? = some o ∧ f o
  | [], _, _, h => h.elim
  | o :: _, 0, _, h => ⟨o, rfl, h⟩
  | _ :: os, n + 1, _, h => by obtain ⟨o, h1, h2⟩ := lkO_get (L := os) h; exact ⟨o, by simpa using h1, h2⟩
theorem XGOp_full {ops : Array Oper} {i : Nat} {st : St} {K K' : St → Prop} (hK : ∀ s, K s → K' s) (h : lkO ops.toList i fun o => XGOp P GE (ops.toList.map (·.dst)) o.op o.dst o.guard st K) : AGi P GE ops i st K' := by
  obtain ⟨o, ho, h⟩ := lkO_get h
  unfold AGi
  rw [Array.getElem?_toList] at ho
  rw [ho]
  simp only
  unfold XGOp at h
  unfold AGOp
  split at h
  · rename_i hg; simp only [hg]; exact XOp_mono hK h
  · rename_i j want hg
    simp only [hg]
    split at h
    · rename_i b hb
      simp only [gvalL_eq (ops := ops) (pre := ops.toList) (post := []) (by simp) hb]
      split at h
      · rename_i hbw; rw [if_pos hbw]; exact XOp_mono hK h
      · rename_i hbw; rw [if_neg hbw]; exact hK _ h
    · exact h.elim
theorem XT_sound {ops : Array Oper} {K : St → Prop} : ∀ (t : OT) (st : St), XT P GE ops.toList (ops.toList.map (·.dst)) t st K → TOps P GE ops t st K
  | .done, st, h => h
  | .step i t, st, h => XGOp_full (fun s hs => XT_sound t s hs) h
  | .alt i t r, st, h => ⟨XGOp_full (fun s hs => XT_sound t s hs) h.1, XT_sound r st h.2⟩
  | .stop, _, _ => trivial
theorem G_tree {id : Nat} {ops : Array Oper} {st : St} {Q : Exit → St → Prop} (t : OT) (hm : P.follows .mixedOrders = true) (ht : treeR ops = some t)
    (h : XT P GE ops.toList (ops.toList.map (·.dst)) t st (aft (Q .normal) ⟨⟩)) : AWp P GE (.region id ops true) Q st := AWp_tree hm rfl ht (XT_sound t st h)
theorem G_stree {id : Nat} {ops : Array Oper} {y : Code} {st : St} {Q : Exit → St → Prop} (t : OT) (hm : P.follows .mixedOrders = true) (ht : treeR ops = some t)
    (h : XT P GE ops.toList (ops.toList.map (·.dst)) t st (aft (AWp P GE y Q) ⟨⟩)) : AWp P GE (.seq (.region id ops true) y) Q st := AWp_seq (G_tree t hm ht h)
theorem x_done (L : List Oper) (ds : List (Option Tmp)) (st : St) (K : St → Prop) : XT P GE L ds .done st K = K st := rfl
theorem x_step (L : List Oper) (ds : List (Option Tmp)) (i : Nat) (t : OT) (st : St) (K : St → Prop) : XT P GE L ds (.step i t) st K = lkO L i (hid (fun o => XGOp P GE ds o.op o.dst o.guard st (hid (fun s => XT P GE L ds t s K) ⟨⟩)) ⟨⟩) := rfl
theorem x_alt (L : List Oper) (ds : List (Option Tmp)) (i : Nat) (t r : OT) (st : St) (K : St → Prop) : XT P GE L ds (.alt i t r) st K = (lkO L i (hid (fun o => XGOp P GE ds o.op o.dst o.guard st (hid (fun s => XT P GE L ds t s K) ⟨⟩)) ⟨⟩) ∧ XT P GE L ds r st K) := rfl
theorem x_stop (L : List Oper) (ds : List (Option Tmp)) (st : St) (K : St → Prop) : XT P GE L ds .stop st K = True := rfl
theorem lk_0 (o : Oper) (os : List Oper) (f : Oper → Prop) : lkO (o :: os) 0 f = f o := rfl
theorem lk_S (o : Oper) (os : List Oper) (n : Nat) (f : Oper → Prop) : lkO (o :: os) (n + 1) f = lkO os n f := rfl
theorem mpD_nil : List.map (fun x : Oper => x.dst) [] = [] := rfl
theorem mpD_cons (d : Option Tmp) (op : Op) (t : TypeId) (p : String) (af : Array Edge) (g : Option (Nat × Bool)) (os : List Oper) : List.map (fun x : Oper => x.dst) (⟨d, op, t, p, af, g⟩ :: os) = d :: List.map (fun x : Oper => x.dst) os := rfl
end
end Go.Ax
set_option linter.unusedVariables false
set_option linter.unusedSimpArgs false
namespace Go.Proofs
open Go.Ax
/-- What a right float is, if its numbers are small. -/
def wfF (x : FV) : Prop := (x.kind = 1 ∧ x.mag ≠ 0 ∧ -300000 ≤ x.exp ∧ x.exp ≤ 300000 ∧ (words x.mag).length ≤ 5000) ∨ ((x.kind = 0 ∨ x.kind = 2 ∨ (x.kind = 3 ∧ x.neg = false)) ∧ x.exp = 0 ∧ x.mag = 0)
theorem canF_wf {x : FV} (h : wfF x) : (words (canF x).mag).length ≤ 5000 ∧ -700000 ≤ (canF x).exp ∧ (canF x).exp ≤ 700000 := by
  rcases h with ⟨h1, h2, h3, h4, h5⟩ | ⟨h1, h2, h3⟩
  · unfold canF mkF
    rw [if_pos h1, if_neg h2]
    have := bl_len x.mag
    have := tz_le_bl x.mag
    refine ⟨Nat.le_trans (length_mono (Nat.div_le_self _ _)) h5, ?_, ?_⟩ <;> simp only <;> omega
  · unfold canF
    rw [if_neg (by omega)]
    exact ⟨by show (words 0).length ≤ 5000; decide, by show -700000 ≤ (0 : Int); decide, by show (0 : Int) ≤ 700000; decide⟩
set_option maxRecDepth 100000 in
set_option maxHeartbeats 4000000 in
theorem ret_canonical (x : FV) (h : wfF x) : Ret Tryz.prog GEs 110 [flv x] (.tup [flv (canF x), .bool true]) := by
  obtain ⟨kd, neg, e, m⟩ := x
  have hZ := ret_Zero (words m) (Wd_words _)
  rw [val_words] at hZ
  rcases h with ⟨h1, h2, h3, h4, h5⟩ | ⟨h1, h2, h3⟩
  · simp only at h1 h2 h3 h4 h5
    subst h1
    have hZ := hZ (by omega)
    rw [decF h2] at hZ
    have hT := ret_Trailing (words m) (Wd_words _) (by omega)
    rw [val_words] at hT
    have hb := bl_len m
    have ht := tz_le_bl m
    have hS := ret_Shr (words m) (tz m) (Wd_words _) (by omega) (by omega)
    rw [val_words] at hS
    unfold canF mkF flv
    rw [if_pos rfl, if_neg h2]
    generalize tz m = t at *
    refine RetN_start Tryz.func110 (by kernel_rfl) rfl fun Q hQ hQ2 => ?_; rw [Tryz.ntmps110]; simp only [u, i64, Nat.reduceSub, Nat.reduceAdd, bm]
    repeat (first | ((first | refine Gs ?_ | refine Gr ?_); simp (disch := omega) only [u, i64, ax, eq_self, if_true, if_false, Nat.reduceAdd, Int.reduceToNat, Int.reduceAdd, tvs, bs]; first | refine aA ?_ | ((first | refine cR hZ ?_ | refine cR hT ?_); simp (disch := omega) only [u, i64, ax, eq_self, if_true, if_false, Nat.reduceAdd, Int.reduceToNat, Int.reduceAdd, tvs, bs]; try refine aA ?_)) | ((first | refine cR hZ ?_ | refine cR hT ?_); simp (disch := omega) only [u, i64, ax, eq_self, if_true, if_false, Nat.reduceAdd, Int.reduceToNat, Int.reduceAdd, tvs, bs]; try refine aA ?_) | refine G_seq ?_ | refine G_block ?_ | refine G_condT rfl ?_ | refine G_condF rfl ?_ | refine G_skip ?_ | refine G_ret ?_ | refine G_exit ?_ | refine q_tn ?_ | refine q_tr ?_ | refine q_tx ?_ | refine q_bn ?_ | refine q_br ?_ | refine q_bx ?_ | refine q_by (by decide) ?_)
    refine G_tree (.step 0 (.step 1 (.step 2 (.step 3 (.step 4 (.step 5 (.step 6 (.step 7 (.step 8 (.step 9 (.step 10 (.alt 11 (.alt 12 (.step 13 (.step 14 (.step 15 (.step 16 (.step 17 .done))))) (.alt 13 (.alt 12 (.step 14 (.step 15 (.step 16 (.step 17 .done)))) (.alt 16 (.step 12 (.step 14 (.step 15 (.step 17 .done)))) .stop)) (.alt 16 (.step 12 (.step 13 (.step 14 (.step 15 (.step 17 .done))))) .stop))) (.alt 13 (.alt 11 (.alt 12 (.step 14 (.step 15 (.step 16 (.step 17 .done)))) (.alt 16 (.step 12 (.step 14 (.step 15 (.step 17 .done)))) .stop)) (.alt 16 (.step 11 (.step 12 (.step 14 (.step 15 (.step 17 .done))))) .stop)) (.alt 16 (.step 11 (.step 12 (.step 13 (.step 14 (.step 15 (.step 17 .done)))))) .stop)))))))))))))) mixed (by kernel_rfl) ?_
    simp (disch := omega) only [u, i64, ax, eq_self, if_true, if_false, Nat.reduceAdd, Int.reduceToNat, Int.reduceAdd, tvs, bs, x_done, x_step, x_alt, x_stop, lk_0, lk_S, mpD_nil, mpD_cons]
    refine callK_ret hS (by (simp (disch := omega) only [if_true, forall_const, reduceCtorEq, implies_true, bz]) <;> rfl) ?_
    simp (disch := omega) only [u, i64, ax, eq_self, if_true, if_false, Nat.reduceAdd, Int.reduceToNat, Int.reduceAdd, tvs, bs, x_done, x_step, x_alt, x_stop, lk_0, lk_S, mpD_nil, mpD_cons]
    repeat' apply And.intro
    all_goals
      refine aft_any ?_
      repeat (first | ((first | refine Gs ?_ | refine Gr ?_); simp (disch := omega) only [u, i64, ax, eq_self, if_true, if_false, Nat.reduceAdd, Int.reduceToNat, Int.reduceAdd, tvs, bs]; refine aA ?_) | refine G_seq ?_ | refine G_block ?_ | refine G_condT rfl ?_ | refine G_condF rfl ?_ | refine G_skip ?_ | refine G_ret ?_ | refine G_exit ?_ | refine q_tn ?_ | refine q_tr ?_ | refine q_tx ?_ | refine q_bn ?_ | refine q_br ?_ | refine q_bx ?_ | refine q_by (by decide) ?_)
      (refine FinQ hQ (congrArg Array.toList Tryz.results110) _ _ ?_); simp (disch := omega) only [u, i64, ax, if_true, forall_const, reduceCtorEq, implies_true, tvs, bf]
      all_goals rfl
  · simp only at h1 h2 h3
    subst h2
    subst h3
    have hZ := hZ (by decide)
    rw [decT rfl] at hZ
    rcases h1 with rfl | rfl | ⟨rfl, rfl⟩
    · show Ret Tryz.prog GEs 110 [.agg [i64 0, .bool neg, i64 0, ws []]] (.tup [.agg [i64 0, .bool neg, i64 0, ws []], .bool true])
      refine RetN_start Tryz.func110 (by kernel_rfl) rfl fun Q hQ hQ2 => ?_; rw [Tryz.ntmps110]; simp only [u, i64, Nat.reduceSub, Nat.reduceAdd, bm]
      repeat (first | ((first | refine Gs ?_ | refine Gr ?_); simp (disch := omega) only [u, i64, ax, eq_self, if_true, if_false, Nat.reduceAdd, Int.reduceToNat, Int.reduceAdd, tvs, bs]; first | refine aA ?_ | (refine cR hZ ?_; simp (disch := omega) only [u, i64, ax, eq_self, if_true, if_false, Nat.reduceAdd, Int.reduceToNat, Int.reduceAdd, tvs, bs]; try refine aA ?_)) | (refine cR hZ ?_; simp (disch := omega) only [u, i64, ax, eq_self, if_true, if_false, Nat.reduceAdd, Int.reduceToNat, Int.reduceAdd, tvs, bs]; try refine aA ?_) | refine G_seq ?_ | refine G_block ?_ | refine G_condT rfl ?_ | refine G_condF rfl ?_ | refine G_skip ?_ | refine G_ret ?_ | refine G_exit ?_ | refine q_tn ?_ | refine q_tr ?_ | refine q_tx ?_ | refine q_bn ?_ | refine q_br ?_ | refine q_bx ?_ | refine q_by (by decide) ?_)
      (refine FinQ hQ (congrArg Array.toList Tryz.results110) _ _ ?_); simp (disch := omega) only [u, i64, ax, if_true, forall_const, reduceCtorEq, implies_true, tvs, bf]
      all_goals rfl
    · show Ret Tryz.prog GEs 110 [.agg [i64 2, .bool neg, i64 0, ws []]] (.tup [.agg [i64 2, .bool neg, i64 0, ws []], .bool true])
      refine RetN_start Tryz.func110 (by kernel_rfl) rfl fun Q hQ hQ2 => ?_; rw [Tryz.ntmps110]; simp only [u, i64, Nat.reduceSub, Nat.reduceAdd, bm]
      repeat (first | ((first | refine Gs ?_ | refine Gr ?_); simp (disch := omega) only [u, i64, ax, eq_self, if_true, if_false, Nat.reduceAdd, Int.reduceToNat, Int.reduceAdd, tvs, bs]; first | refine aA ?_ | (refine cR hZ ?_; simp (disch := omega) only [u, i64, ax, eq_self, if_true, if_false, Nat.reduceAdd, Int.reduceToNat, Int.reduceAdd, tvs, bs]; try refine aA ?_)) | (refine cR hZ ?_; simp (disch := omega) only [u, i64, ax, eq_self, if_true, if_false, Nat.reduceAdd, Int.reduceToNat, Int.reduceAdd, tvs, bs]; try refine aA ?_) | refine G_seq ?_ | refine G_block ?_ | refine G_condT rfl ?_ | refine G_condF rfl ?_ | refine G_skip ?_ | refine G_ret ?_ | refine G_exit ?_ | refine q_tn ?_ | refine q_tr ?_ | refine q_tx ?_ | refine q_bn ?_ | refine q_br ?_ | refine q_bx ?_ | refine q_by (by decide) ?_)
      (refine FinQ hQ (congrArg Array.toList Tryz.results110) _ _ ?_); simp (disch := omega) only [u, i64, ax, if_true, forall_const, reduceCtorEq, implies_true, tvs, bf]
      all_goals rfl
    · show Ret Tryz.prog GEs 110 [.agg [i64 3, .bool false, i64 0, ws []]] (.tup [.agg [i64 3, .bool false, i64 0, ws []], .bool true])
      refine RetN_start Tryz.func110 (by kernel_rfl) rfl fun Q hQ hQ2 => ?_; rw [Tryz.ntmps110]; simp only [u, i64, Nat.reduceSub, Nat.reduceAdd, bm]
      repeat (first | ((first | refine Gs ?_ | refine Gr ?_); simp (disch := omega) only [u, i64, ax, eq_self, if_true, if_false, Nat.reduceAdd, Int.reduceToNat, Int.reduceAdd, tvs, bs]; first | refine aA ?_ | (refine cR hZ ?_; simp (disch := omega) only [u, i64, ax, eq_self, if_true, if_false, Nat.reduceAdd, Int.reduceToNat, Int.reduceAdd, tvs, bs]; try refine aA ?_)) | (refine cR hZ ?_; simp (disch := omega) only [u, i64, ax, eq_self, if_true, if_false, Nat.reduceAdd, Int.reduceToNat, Int.reduceAdd, tvs, bs]; try refine aA ?_) | refine G_seq ?_ | refine G_block ?_ | refine G_condT rfl ?_ | refine G_condF rfl ?_ | refine G_skip ?_ | refine G_ret ?_ | refine G_exit ?_ | refine q_tn ?_ | refine q_tr ?_ | refine q_tx ?_ | refine q_bn ?_ | refine q_br ?_ | refine q_bx ?_ | refine q_by (by decide) ?_)
      (refine FinQ hQ (congrArg Array.toList Tryz.results110) _ _ ?_); simp (disch := omega) only [u, i64, ax, if_true, forall_const, reduceCtorEq, implies_true, tvs, bf]
      all_goals rfl
theorem cmpI_beq (a b : Nat) : (cmpI a b == 0) = decide (a = b) := by
  unfold cmpI
  by_cases h : a = b
  · subst h; simp
  · rw [decide_eq_false h]
    split
    · rfl
    · split
      · rfl
      · omega
set_option maxRecDepth 100000 in
set_option maxHeartbeats 4000000 in
theorem ret_fSame (x y : FV) (hx : wfF x) (hy : wfF y) : Ret Tryz.prog GEs 37 [flv x, flv y] (.bool (eqF (canF x) (canF y))) := by
  have hx' := ret_canonical x hx
  have hy' := ret_canonical y hy
  have hlx := (canF_wf hx).1
  have hly := (canF_wf hy).1
  generalize canF x = a at *
  generalize canF y = b at *
  have hC := ret_Cmp (words a.mag) (words b.mag) (Wd_words _) (Wd_words _) (by omega) (by omega)
  rw [val_words, val_words] at hC
  have hce := cmpI_beq a.mag b.mag
  unfold flv at hx' hy' ⊢
  obtain ⟨k1, n1, e1, m1⟩ := a
  obtain ⟨k2, n2, e2, m2⟩ := b
  simp only at *
  unfold eqF
  simp only
  generalize cmpI m1 m2 = cc at *
  by_cases hk : k1 = k2
  · subst hk
    by_cases hn : n1 = n2
    · subst hn
      have hbb : (n1 == n1) = true := by cases n1 <;> rfl
      by_cases he : e1 = e2
      · subst he
        rw [show decide (k1 = k1 ∧ n1 = n1 ∧ e1 = e1 ∧ m1 = m2) = decide (m1 = m2) by simp, ← hce]
        refine RetN_start Tryz.func37 (by kernel_rfl) rfl fun Q hQ hQ2 => ?_; rw [Tryz.ntmps37]; simp only [u, i64, Nat.reduceSub, Nat.reduceAdd, bm]
        repeat (first | ((first | refine Gs ?_ | refine Gr ?_); simp (disch := omega) only [u, i64, ax, eq_self, if_true, if_false, Nat.reduceAdd, Int.reduceToNat, Int.reduceAdd, tvs, bs]; first | refine aA ?_ | ((first | refine cR hx' ?_ | refine cR hy' ?_); simp (disch := omega) only [u, i64, ax, eq_self, if_true, if_false, Nat.reduceAdd, Int.reduceToNat, Int.reduceAdd, tvs, bs]; try refine aA ?_)) | ((first | refine cR hx' ?_ | refine cR hy' ?_); simp (disch := omega) only [u, i64, ax, eq_self, if_true, if_false, Nat.reduceAdd, Int.reduceToNat, Int.reduceAdd, tvs, bs]; try refine aA ?_) | refine G_seq ?_ | refine G_block ?_ | refine G_condT rfl ?_ | refine G_condF rfl ?_ | refine G_skip ?_ | refine G_ret ?_ | refine G_exit ?_ | refine q_tn ?_ | refine q_tr ?_ | refine q_tx ?_ | refine q_bn ?_ | refine q_br ?_ | refine q_bx ?_ | refine q_by (by decide) ?_)
        ((first | refine Gs ?_ | refine Gr ?_); simp (disch := omega) only [u, i64, ax, eq_self, if_true, if_false, Nat.reduceAdd, Int.reduceToNat, Int.reduceAdd, tvs, bs])
        rw [hbb]
        simp (disch := omega) only [u, i64, ax, eq_self, if_true, if_false, Nat.reduceAdd, Int.reduceToNat, Int.reduceAdd, tvs, bs]
        repeat (first | ((first | refine Gs ?_ | refine Gr ?_); simp (disch := omega) only [u, i64, ax, eq_self, if_true, if_false, Nat.reduceAdd, Int.reduceToNat, Int.reduceAdd, tvs, bs]; first | refine aA ?_ | (refine cR hC ?_; simp (disch := omega) only [u, i64, ax, eq_self, if_true, if_false, Nat.reduceAdd, Int.reduceToNat, Int.reduceAdd, tvs, bs]; try refine aA ?_)) | (refine cR hC ?_; simp (disch := omega) only [u, i64, ax, eq_self, if_true, if_false, Nat.reduceAdd, Int.reduceToNat, Int.reduceAdd, tvs, bs]; try refine aA ?_) | refine G_seq ?_ | refine G_block ?_ | refine G_condT rfl ?_ | refine G_condF rfl ?_ | refine G_skip ?_ | refine G_ret ?_ | refine G_exit ?_ | refine q_tn ?_ | refine q_tr ?_ | refine q_tx ?_ | refine q_bn ?_ | refine q_br ?_ | refine q_bx ?_ | refine q_by (by decide) ?_)
        (refine FinQ hQ (congrArg Array.toList Tryz.results37) _ _ ?_); simp (disch := omega) only [u, i64, ax, if_true, forall_const, reduceCtorEq, implies_true, tvs, bf]
      · rw [decF (show ¬ (k1 = k1 ∧ n1 = n1 ∧ e1 = e2 ∧ m1 = m2) from fun h => he h.2.2.1)]
        refine RetN_start Tryz.func37 (by kernel_rfl) rfl fun Q hQ hQ2 => ?_; rw [Tryz.ntmps37]; simp only [u, i64, Nat.reduceSub, Nat.reduceAdd, bm]
        repeat (first | ((first | refine Gs ?_ | refine Gr ?_); simp (disch := omega) only [u, i64, ax, eq_self, if_true, if_false, Nat.reduceAdd, Int.reduceToNat, Int.reduceAdd, tvs, bs]; first | refine aA ?_ | ((first | refine cR hx' ?_ | refine cR hy' ?_); simp (disch := omega) only [u, i64, ax, eq_self, if_true, if_false, Nat.reduceAdd, Int.reduceToNat, Int.reduceAdd, tvs, bs]; try refine aA ?_)) | ((first | refine cR hx' ?_ | refine cR hy' ?_); simp (disch := omega) only [u, i64, ax, eq_self, if_true, if_false, Nat.reduceAdd, Int.reduceToNat, Int.reduceAdd, tvs, bs]; try refine aA ?_) | refine G_seq ?_ | refine G_block ?_ | refine G_condT rfl ?_ | refine G_condF rfl ?_ | refine G_skip ?_ | refine G_ret ?_ | refine G_exit ?_ | refine q_tn ?_ | refine q_tr ?_ | refine q_tx ?_ | refine q_bn ?_ | refine q_br ?_ | refine q_bx ?_ | refine q_by (by decide) ?_)
        ((first | refine Gs ?_ | refine Gr ?_); simp (disch := omega) only [u, i64, ax, eq_self, if_true, if_false, Nat.reduceAdd, Int.reduceToNat, Int.reduceAdd, tvs, bs])
        rw [hbb]
        simp (disch := omega) only [u, i64, ax, eq_self, if_true, if_false, Nat.reduceAdd, Int.reduceToNat, Int.reduceAdd, tvs, bs]
        refine aft_any ?_
        repeat (first | ((first | refine Gs ?_ | refine Gr ?_); simp (disch := omega) only [u, i64, ax, eq_self, if_true, if_false, Nat.reduceAdd, Int.reduceToNat, Int.reduceAdd, tvs, bs]; refine aA ?_) | refine G_seq ?_ | refine G_block ?_ | refine G_condT rfl ?_ | refine G_condF rfl ?_ | refine G_skip ?_ | refine G_ret ?_ | refine G_exit ?_ | refine q_tn ?_ | refine q_tr ?_ | refine q_tx ?_ | refine q_bn ?_ | refine q_br ?_ | refine q_bx ?_ | refine q_by (by decide) ?_)
        (refine FinQ hQ (congrArg Array.toList Tryz.results37) _ _ ?_); simp (disch := omega) only [u, i64, ax, if_true, forall_const, reduceCtorEq, implies_true, tvs, bf]
    · rw [decF (show ¬ (k1 = k1 ∧ n1 = n2 ∧ e1 = e2 ∧ m1 = m2) from fun h => hn h.2.1)]
      have hbb : (n1 == n2) = false := by cases n1 <;> cases n2 <;> simp_all
      refine RetN_start Tryz.func37 (by kernel_rfl) rfl fun Q hQ hQ2 => ?_; rw [Tryz.ntmps37]; simp only [u, i64, Nat.reduceSub, Nat.reduceAdd, bm]
      repeat (first | ((first | refine Gs ?_ | refine Gr ?_); simp (disch := omega) only [u, i64, ax, eq_self, if_true, if_false, Nat.reduceAdd, Int.reduceToNat, Int.reduceAdd, tvs, bs]; first | refine aA ?_ | ((first | refine cR hx' ?_ | refine cR hy' ?_); simp (disch := omega) only [u, i64, ax, eq_self, if_true, if_false, Nat.reduceAdd, Int.reduceToNat, Int.reduceAdd, tvs, bs]; try refine aA ?_)) | ((first | refine cR hx' ?_ | refine cR hy' ?_); simp (disch := omega) only [u, i64, ax, eq_self, if_true, if_false, Nat.reduceAdd, Int.reduceToNat, Int.reduceAdd, tvs, bs]; try refine aA ?_) | refine G_seq ?_ | refine G_block ?_ | refine G_condT rfl ?_ | refine G_condF rfl ?_ | refine G_skip ?_ | refine G_ret ?_ | refine G_exit ?_ | refine q_tn ?_ | refine q_tr ?_ | refine q_tx ?_ | refine q_bn ?_ | refine q_br ?_ | refine q_bx ?_ | refine q_by (by decide) ?_)
      ((first | refine Gs ?_ | refine Gr ?_); simp (disch := omega) only [u, i64, ax, eq_self, if_true, if_false, Nat.reduceAdd, Int.reduceToNat, Int.reduceAdd, tvs, bs])
      rw [hbb]
      simp (disch := omega) only [u, i64, ax, eq_self, if_true, if_false, Nat.reduceAdd, Int.reduceToNat, Int.reduceAdd, tvs, bs]
      refine aft_any ?_
      repeat (first | ((first | refine Gs ?_ | refine Gr ?_); simp (disch := omega) only [u, i64, ax, eq_self, if_true, if_false, Nat.reduceAdd, Int.reduceToNat, Int.reduceAdd, tvs, bs]; refine aA ?_) | refine G_seq ?_ | refine G_block ?_ | refine G_condT rfl ?_ | refine G_condF rfl ?_ | refine G_skip ?_ | refine G_ret ?_ | refine G_exit ?_ | refine q_tn ?_ | refine q_tr ?_ | refine q_tx ?_ | refine q_bn ?_ | refine q_br ?_ | refine q_bx ?_ | refine q_by (by decide) ?_)
      (refine FinQ hQ (congrArg Array.toList Tryz.results37) _ _ ?_); simp (disch := omega) only [u, i64, ax, if_true, forall_const, reduceCtorEq, implies_true, tvs, bf]
  · rw [decF (show ¬ (k1 = k2 ∧ n1 = n2 ∧ e1 = e2 ∧ m1 = m2) from fun h => hk h.1)]
    refine RetN_start Tryz.func37 (by kernel_rfl) rfl fun Q hQ hQ2 => ?_; rw [Tryz.ntmps37]; simp only [u, i64, Nat.reduceSub, Nat.reduceAdd, bm]
    repeat (first | ((first | refine Gs ?_ | refine Gr ?_); simp (disch := omega) only [u, i64, ax, eq_self, if_true, if_false, Nat.reduceAdd, Int.reduceToNat, Int.reduceAdd, tvs, bs]; first | refine aA ?_ | ((first | refine cR hx' ?_ | refine cR hy' ?_); simp (disch := omega) only [u, i64, ax, eq_self, if_true, if_false, Nat.reduceAdd, Int.reduceToNat, Int.reduceAdd, tvs, bs]; try refine aA ?_)) | ((first | refine cR hx' ?_ | refine cR hy' ?_); simp (disch := omega) only [u, i64, ax, eq_self, if_true, if_false, Nat.reduceAdd, Int.reduceToNat, Int.reduceAdd, tvs, bs]; try refine aA ?_) | refine G_seq ?_ | refine G_block ?_ | refine G_condT rfl ?_ | refine G_condF rfl ?_ | refine G_skip ?_ | refine G_ret ?_ | refine G_exit ?_ | refine q_tn ?_ | refine q_tr ?_ | refine q_tx ?_ | refine q_bn ?_ | refine q_br ?_ | refine q_bx ?_ | refine q_by (by decide) ?_)
    (refine FinQ hQ (congrArg Array.toList Tryz.results37) _ _ ?_); simp (disch := omega) only [u, i64, ax, if_true, forall_const, reduceCtorEq, implies_true, tvs, bf]
end Go.Proofs
set_option linter.unusedVariables false
set_option linter.unusedSimpArgs false
namespace Go.Proofs
open Go.Ax
theorem lg_bound {n d : Nat} (hn : n ≠ 0) (hd : d ≠ 0) : -(bl d : Int) ≤ lg n d ∧ lg n d ≤ bl n := by
  have := (bl_spec hn).2.2
  have := (bl_spec hd).2.2
  unfold lg
  split <;> omega
/-- What a number is rounded to is small. -/
theorem rndF_wf (k p : Nat) (h : okFm k p) (r : Nat) (neg : Bool) (n d : Nat) (hn : n ≠ 0) (hd : d ≠ 0) (hln : (words n).length ≤ 1000) (hld : (words d).length ≤ 1000) : wfF (rndF p (gF k) r neg n d).1 ∧ canF (rndF p (gF k) r neg n d).1 = (rndF p (gF k) r neg n d).1 ∧ (rndF p (gF k) r neg n d).1.kind ≤ 2 := by
  have hg := gF_le (k := k) (by omega) (by omega)
  have hb1 := bl_len n
  have hb2 := bl_len d
  have hl := lg_bound hn hd
  have hs := stpF_max p (gF k) (lg n d)
  have hN := rnd_le p (gF k) r neg hn hd
  have hpl : ∀ m, m ≤ 2 ^ p → (words m).length ≤ 6 := fun m hm => le_pow_words hm (by omega)
  have h2p : 2 ^ 1 ≤ 2 ^ p := Nat.pow_le_pow_right (by decide) (by omega)
  unfold rndF
  split
  · unfold overF
    split
    · refine ⟨.inl ⟨rfl, by show 2 ^ p - 1 ≠ 0; omega, by show _ ≤ gF k - p + 1; omega, by show gF k - p + 1 ≤ _; omega, by have := hpl (2 ^ p - 1) (by omega); show (words (2 ^ p - 1)).length ≤ 5000; omega⟩, ?_, by show 1 ≤ 2; decide⟩
      show mkF neg (2 ^ p - 1) (gF k - p + 1) = _
      have e : 2 ^ p - 1 = 2 * (2 ^ (p - 1) - 1) + 1 := by
        have : 2 ^ p = 2 ^ (p - 1) * 2 := by rw [← Nat.pow_succ]; congr 1; omega
        have := Nat.two_pow_pos (p - 1)
        omega
      rw [e, mkF_oddS]
      unfold topF
      rw [e]
    · exact ⟨.inr ⟨.inr (.inl rfl), rfl, rfl⟩, rfl, by show 2 ≤ 2; decide⟩
  · unfold rN at hN
    generalize quoN r neg (nu n (stpF p (gF k) (lg n d))) (de d (stpF p (gF k) (lg n d))) = N at *
    simp only
    by_cases h0 : N = 0
    · unfold mkF; rw [if_pos h0]
      exact ⟨.inr ⟨.inl rfl, rfl, rfl⟩, rfl, by show 0 ≤ 2; decide⟩
    · obtain ⟨m, hm⟩ := tz_spec h0
      have hNl := hpl N hN
      have hbN := bl_len N
      have htz := tz_le_bl N
      have hmN : 2 * m + 1 ≤ N := by
        rw [hm]
        exact Nat.le_mul_of_pos_left _ (Nat.two_pow_pos _)
      have e : mkF neg N (stpF p (gF k) (lg n d)) = ⟨1, neg, stpF p (gF k) (lg n d) + tz N, 2 * m + 1⟩ := by
        conv => lhs; rw [hm, Nat.mul_comm]
        exact mkF_odd neg m _ _
      rw [e]
      refine ⟨.inl ⟨rfl, Nat.succ_ne_zero _, by show _ ≤ stpF p (gF k) (lg n d) + tz N; omega, by show stpF p (gF k) (lg n d) + tz N ≤ _; omega, ?_⟩, mkF_oddS neg m _, by show 1 ≤ 2; decide⟩
      have := length_mono hmN
      show (words (2 * m + 1)).length ≤ 5000
      omega
end Go.Proofs
set_option linter.unusedVariables false
set_option linter.unusedSimpArgs false
namespace Go.Proofs
open Go.Ax
theorem vb_at {K : Nat} (hK : 0 < K) (xs : List Nat) (hx : Ds K xs) (j : Nat) : ∃ lo, lo < K ^ j ∧ vb K xs = lo + K ^ j * (xs.getD j 0 + K * vb K (xs.drop (j + 1))) := by
  by_cases h : j < xs.length
  · refine ⟨vb K (xs.take j), ?_, ?_⟩
    · have := vb_lt (hx.take j)
      rwa [List.length_take, Nat.min_eq_left (by omega)] at this
    · rw [← vb_drop_one xs j h]
      exact vb_drop xs j (by omega)
  · refine ⟨vb K xs, ?_, ?_⟩
    · exact Nat.lt_of_lt_of_le (vb_lt hx) (Nat.pow_le_pow_right hK (by omega))
    · rw [getD_over xs j (by omega), List.drop_of_length_le (by omega)]
      show vb K xs = vb K xs + K ^ j * (0 + K * 0)
      rw [Nat.mul_zero, Nat.zero_add, Nat.mul_zero, Nat.add_zero]
theorem vb_first {K : Nat} (hK : 0 < K) {xs ys : List Nat} (hx : Ds K xs) (hy : Ds K ys) (j : Nat) (he : vb K (xs.drop (j + 1)) = vb K (ys.drop (j + 1))) (hlt : xs.getD j 0 < ys.getD j 0) : vb K xs < vb K ys := by
  obtain ⟨a, a1, a2⟩ := vb_at hK xs hx j
  obtain ⟨b, b1, b2⟩ := vb_at hK ys hy j
  rw [a2, b2, he]
  have h1 : K ^ j * (xs.getD j 0 + K * vb K (ys.drop (j + 1)) + 1) ≤ K ^ j * (ys.getD j 0 + K * vb K (ys.drop (j + 1))) := Nat.mul_le_mul_left _ (by omega)
  rw [Nat.mul_succ] at h1
  omega
theorem vb_step {K : Nat} {xs ys : List Nat} (j : Nat) (he : vb K (xs.drop (j + 1)) = vb K (ys.drop (j + 1))) (heq : xs.getD j 0 = ys.getD j 0) : vb K (xs.drop j) = vb K (ys.drop j) := by
  have key : ∀ zs : List Nat, vb K (zs.drop j) = zs.getD j 0 + K * vb K (zs.drop (j + 1)) := fun zs => by
    by_cases h : j < zs.length
    · exact vb_drop_one zs j h
    · rw [getD_over zs j (by omega), List.drop_of_length_le (by omega), List.drop_of_length_le (by omega)]
      show 0 = 0 + K * 0
      rw [Nat.mul_zero]
  rw [key xs, key ys, he, heq]
set_option maxRecDepth 100000 in
set_option maxHeartbeats 2000000 in
theorem ret_Compare01 (xs ys : List Nat) (hx : Ds 4294967296 xs) (hy : Ds 4294967296 ys) (hl : xs.length ≤ 1099511627776) (hl2 : ys.length ≤ 1099511627776) :
    Ret Tryz.prog GEs 235 [ws xs, ws ys] (i64 (cmpI (vb 4294967296 xs) (vb 4294967296 ys))) := by
  have hd1 := fun i => ret_digit xs i hl
  have hd2 := fun i => ret_digit ys i hl2
  have hx4 := fun i => hx.getD (by decide) i
  have hy4 := fun i => hy.getD (by decide) i
  obtain ⟨M, hM⟩ : ∃ M, max xs.length ys.length = M := ⟨_, rfl⟩
  refine RetN_start Tryz.func235 (by kernel_rfl) rfl fun Q hQ hQ2 => ?_; rw [Tryz.ntmps235]; simp only [u, i64, Nat.reduceSub, Nat.reduceAdd, bm]
  repeat (first | ((first | refine Gs ?_ | refine Gr ?_); simp (disch := omega) only [u, i64, ax, eq_self, if_true, if_false, Nat.reduceAdd, Int.reduceToNat, Int.reduceAdd, tvs, bs]; refine aA ?_) | refine G_seq ?_ | refine G_block ?_ | refine G_condT rfl ?_ | refine G_condF rfl ?_ | refine G_skip ?_ | refine G_ret ?_ | refine G_exit ?_ | refine q_tn ?_ | refine q_tr ?_ | refine q_tx ?_ | refine q_bn ?_ | refine q_br ?_ | refine q_bx ?_ | refine q_by (by decide) ?_)
  rw [hM]
  refine AWp_loop (fun j : Nat => mk 32 [(0, ws xs), (1, ws ys), (4, i64 0), (5, i64 ((j : Int) - 1))] []) (fun j => j ≤ M ∧ vb 4294967296 (xs.drop j) = vb 4294967296 (ys.drop j)) (fun j => j) M ?_ ⟨Nat.le_refl _, by rw [List.drop_of_length_le (by omega), List.drop_of_length_le (by omega)]⟩ ?_
  · simp only [u, i64, Nat.reduceSub, Nat.reduceAdd, bm]
  intro j hj
  simp only [u, i64, Nat.reduceSub, Nat.reduceAdd, bm]
  cases j with
  | zero =>
    have h0 : cmpI (vb 4294967296 xs) (vb 4294967296 ys) = 0 := by
      have := hj.2
      rw [List.drop_zero, List.drop_zero] at this
      rw [this]; unfold cmpI; rw [if_neg (by omega), if_neg (by omega)]
    rw [h0] at hQ
    repeat (first | ((first | refine Gs ?_ | refine Gr ?_); simp (disch := omega) only [u, i64, ax, eq_self, if_true, if_false, Nat.reduceAdd, Int.reduceToNat, Int.reduceAdd, tvs, bs]; refine aA ?_) | refine G_seq ?_ | refine G_block ?_ | refine G_condT rfl ?_ | refine G_condF rfl ?_ | refine G_skip ?_ | refine G_ret ?_ | refine G_exit ?_ | refine q_tn ?_ | refine q_tr ?_ | refine q_tx ?_ | refine q_bn ?_ | refine q_br ?_ | refine q_bx ?_ | refine q_by (by decide) ?_)
    (refine FinQ hQ (congrArg Array.toList Tryz.results235) _ _ ?_); simp (disch := omega) only [u, i64, ax, if_true, forall_const, reduceCtorEq, implies_true, tvs, bf]
  | succ j =>
    have e1 := hd1 j
    have e2 := hd2 j
    have l1 := hx4 j
    have l2 := hy4 j
    have hf := vb_first (K := 4294967296) (by decide) hx hy j hj.2
    have hf2 := vb_first (K := 4294967296) (by decide) hy hx j hj.2.symm
    have hs := vb_step (K := 4294967296) (xs := xs) (ys := ys) j hj.2
    rw [show ((j + 1 : Nat) : Int) - 1 = (j : Int) by omega]
    generalize xs.getD j 0 = x at *
    generalize ys.getD j 0 = y at *
    by_cases c1 : x < y
    · have h0 : cmpI (vb 4294967296 xs) (vb 4294967296 ys) = -1 := by unfold cmpI; rw [if_pos (hf c1)]
      rw [h0] at hQ
      repeat (first | ((first | refine Gs ?_ | refine Gr ?_); simp (disch := omega) only [u, i64, ax, eq_self, if_true, if_false, Nat.reduceAdd, Int.reduceToNat, Int.reduceAdd, tvs, bs]; first | refine aA ?_ | ((first | refine cR e1 ?_ | refine cR e2 ?_); simp (disch := omega) only [u, i64, ax, eq_self, if_true, if_false, Nat.reduceAdd, Int.reduceToNat, Int.reduceAdd, tvs, bs]; try refine aA ?_)) | ((first | refine cR e1 ?_ | refine cR e2 ?_); simp (disch := omega) only [u, i64, ax, eq_self, if_true, if_false, Nat.reduceAdd, Int.reduceToNat, Int.reduceAdd, tvs, bs]; try refine aA ?_) | refine G_seq ?_ | refine G_block ?_ | refine G_condT rfl ?_ | refine G_condF rfl ?_ | refine G_skip ?_ | refine G_ret ?_ | refine G_exit ?_ | refine q_tn ?_ | refine q_tr ?_ | refine q_tx ?_ | refine q_bn ?_ | refine q_br ?_ | refine q_bx ?_ | refine q_by (by decide) ?_)
      (refine FinQ hQ (congrArg Array.toList Tryz.results235) _ _ ?_); simp (disch := omega) only [u, i64, ax, if_true, forall_const, reduceCtorEq, implies_true, tvs, bf]
    · by_cases c2 : y < x
      · have h0 : cmpI (vb 4294967296 xs) (vb 4294967296 ys) = 1 := by
          have := hf2 c2
          unfold cmpI; rw [if_neg (by omega), if_pos this]
        rw [h0] at hQ
        repeat (first | ((first | refine Gs ?_ | refine Gr ?_); simp (disch := omega) only [u, i64, ax, eq_self, if_true, if_false, Nat.reduceAdd, Int.reduceToNat, Int.reduceAdd, tvs, bs]; first | refine aA ?_ | ((first | refine cR e1 ?_ | refine cR e2 ?_); simp (disch := omega) only [u, i64, ax, eq_self, if_true, if_false, Nat.reduceAdd, Int.reduceToNat, Int.reduceAdd, tvs, bs]; try refine aA ?_)) | ((first | refine cR e1 ?_ | refine cR e2 ?_); simp (disch := omega) only [u, i64, ax, eq_self, if_true, if_false, Nat.reduceAdd, Int.reduceToNat, Int.reduceAdd, tvs, bs]; try refine aA ?_) | refine G_seq ?_ | refine G_block ?_ | refine G_condT rfl ?_ | refine G_condF rfl ?_ | refine G_skip ?_ | refine G_ret ?_ | refine G_exit ?_ | refine q_tn ?_ | refine q_tr ?_ | refine q_tx ?_ | refine q_bn ?_ | refine q_br ?_ | refine q_bx ?_ | refine q_by (by decide) ?_)
        (refine FinQ hQ (congrArg Array.toList Tryz.results235) _ _ ?_); simp (disch := omega) only [u, i64, ax, if_true, forall_const, reduceCtorEq, implies_true, tvs, bf]
      · repeat (first | ((first | refine Gs ?_ | refine Gr ?_); simp (disch := omega) only [u, i64, ax, eq_self, if_true, if_false, Nat.reduceAdd, Int.reduceToNat, Int.reduceAdd, tvs, bs]; first | refine aA ?_ | ((first | refine cR e1 ?_ | refine cR e2 ?_); simp (disch := omega) only [u, i64, ax, eq_self, if_true, if_false, Nat.reduceAdd, Int.reduceToNat, Int.reduceAdd, tvs, bs]; try refine aA ?_)) | ((first | refine cR e1 ?_ | refine cR e2 ?_); simp (disch := omega) only [u, i64, ax, eq_self, if_true, if_false, Nat.reduceAdd, Int.reduceToNat, Int.reduceAdd, tvs, bs]; try refine aA ?_) | refine G_seq ?_ | refine G_block ?_ | refine G_condT rfl ?_ | refine G_condF rfl ?_ | refine G_skip ?_ | refine G_ret ?_ | refine G_exit ?_ | refine q_tn ?_ | refine q_tr ?_ | refine q_tx ?_ | refine q_bn ?_ | refine q_br ?_ | refine q_bx ?_ | refine q_by (by decide) ?_)
        refine ⟨j, ?_, ⟨by omega, hs (by omega)⟩, by omega⟩
        simp only [u, i64, Nat.reduceSub, Nat.reduceAdd, bm]
theorem ret_rCmp (xs ys : List Nat) (hx : Wd xs) (hy : Wd ys) (hl : xs.length ≤ 34359738368) (hl2 : ys.length ≤ 34359738368) : Ret Tryz.prog GEs 177 [ws xs, ws ys] (i64 (cmpI (val xs) (val ys))) := by
  have h1 := ret_Digits xs hx (by omega)
  have h2 := ret_Digits ys hy (by omega)
  have h3 := ret_Compare01 (digs xs) (digs ys) (digs_Ds hx) (digs_Ds hy) (by rw [digs_length]; omega) (by rw [digs_length]; omega)
  rw [digs_val, digs_val] at h3
  refine RetN_start Tryz.func177 (by kernel_rfl) rfl fun Q hQ hQ2 => ?_; rw [Tryz.ntmps177]; simp only [u, i64, Nat.reduceSub, Nat.reduceAdd, bm]
  repeat (first | ((first | refine Gs ?_ | refine Gr ?_); simp (disch := omega) only [u, i64, ax, eq_self, if_true, if_false, Nat.reduceAdd, Int.reduceToNat, Int.reduceAdd, tvs, bs]; first | refine aA ?_ | ((first | refine cR h1 ?_ | refine cR h2 ?_ | refine cR h3 ?_); simp (disch := omega) only [u, i64, ax, eq_self, if_true, if_false, Nat.reduceAdd, Int.reduceToNat, Int.reduceAdd, tvs, bs]; try refine aA ?_)) | ((first | refine cR h1 ?_ | refine cR h2 ?_ | refine cR h3 ?_); simp (disch := omega) only [u, i64, ax, eq_self, if_true, if_false, Nat.reduceAdd, Int.reduceToNat, Int.reduceAdd, tvs, bs]; try refine aA ?_) | refine G_seq ?_ | refine G_block ?_ | refine G_condT rfl ?_ | refine G_condF rfl ?_ | refine G_skip ?_ | refine G_ret ?_ | refine G_exit ?_ | refine q_tn ?_ | refine q_tr ?_ | refine q_tx ?_ | refine q_bn ?_ | refine q_br ?_ | refine q_bx ?_ | refine q_by (by decide) ?_)
  (refine FinQ hQ (congrArg Array.toList Tryz.results177) _ _ ?_); simp (disch := omega) only [u, i64, ax, if_true, forall_const, reduceCtorEq, implies_true, tvs, bf]
set_option maxRecDepth 100000 in
set_option maxHeartbeats 2000000 in
theorem ret_rSub (xs ys : List Nat) (hx : Wd xs) (hy : Wd ys) (hne : xs ≠ []) (hl : xs.length ≤ 34359738368) (hl2 : ys.length ≤ 34359738368) (hle : val ys ≤ val xs) : Ret Tryz.prog GEs 246 [ws xs, ws ys] (nat (val xs - val ys)) := by
  have h1 := ret_Digits xs hx (by omega)
  have h2 := ret_rTrim ys hy hl2
  have hyl := length_words_val_le hy
  have h3 := ret_Digits (words (val ys)) (Wd_words _) (by omega)
  have hdn : digs xs ≠ [] := fun h => by
    have := digs_length xs
    rw [h] at this
    have : xs.length = 0 := by simp at this; omega
    exact hne (List.eq_nil_of_length_eq_zero this)
  have h4 := ret_Minus (digs xs) (digs (words (val ys))) (digs_Ds hx) (digs_Ds (Wd_words _)) hdn (by rw [digs_length]; omega) (by rw [digs_length]; omega)
  have hyl2 := length_mono hle
  have hxl := length_words_val_le hx
  rw [List.take_of_length_le (by rw [digs_length, digs_length]; omega), digs_val, digs_val, val_words] at h4
  have hlt : val xs - val ys < 4294967296 ^ (digs xs).length := by
    have := vb_lt (digs_Ds hx)
    rw [digs_val] at this
    omega
  have hv : vb 4294967296 (mdiff 4294967296 (digs xs).length (val xs) (val ys)) = val xs - val ys := by
    unfold mdiff
    rw [if_pos hle]
    exact vb_wfb (by decide) _ _ hlt
  have hds : Ds 4294967296 (mdiff 4294967296 (digs xs).length (val xs) (val ys)) := wfb_Ds (by decide) _ _
  have hml : (mdiff 4294967296 (digs xs).length (val xs) (val ys)).length = (digs xs).length := wfb_length _ _
  have h5 := ret_nat (mdiff 4294967296 (digs xs).length (val xs) (val ys)) hds (by rw [hml, digs_length]; omega)
  rw [hv] at h5
  generalize mdiff 4294967296 (digs xs).length (val xs) (val ys) = dd at *
  refine RetN_start Tryz.func246 (by kernel_rfl) rfl fun Q hQ hQ2 => ?_; rw [Tryz.ntmps246]; simp only [u, i64, Nat.reduceSub, Nat.reduceAdd, bm]
  repeat (first | ((first | refine Gs ?_ | refine Gr ?_); simp (disch := omega) only [u, i64, ax, eq_self, if_true, if_false, Nat.reduceAdd, Int.reduceToNat, Int.reduceAdd, tvs, bs]; first | refine aA ?_ | ((first | refine cR h1 ?_ | refine cR h2 ?_ | refine cR h3 ?_ | refine cR h4 ?_ | refine cR h5 ?_); simp (disch := omega) only [u, i64, ax, eq_self, if_true, if_false, Nat.reduceAdd, Int.reduceToNat, Int.reduceAdd, tvs, bs]; try refine aA ?_)) | ((first | refine cR h1 ?_ | refine cR h2 ?_ | refine cR h3 ?_ | refine cR h4 ?_ | refine cR h5 ?_); simp (disch := omega) only [u, i64, ax, eq_self, if_true, if_false, Nat.reduceAdd, Int.reduceToNat, Int.reduceAdd, tvs, bs]; try refine aA ?_) | refine G_seq ?_ | refine G_block ?_ | refine G_condT rfl ?_ | refine G_condF rfl ?_ | refine G_skip ?_ | refine G_ret ?_ | refine G_exit ?_ | refine q_tn ?_ | refine q_tr ?_ | refine q_tx ?_ | refine q_bn ?_ | refine q_br ?_ | refine q_bx ?_ | refine q_by (by decide) ?_)
  (refine FinQ hQ (congrArg Array.toList Tryz.results246) _ _ ?_); simp (disch := omega) only [u, i64, ax, if_true, forall_const, reduceCtorEq, implies_true, tvs, bf]
end Go.Proofs
set_option linter.unusedVariables false
set_option linter.unusedSimpArgs false
namespace Go.Proofs
open Go.Ax
end Go.Proofs
set_option linter.unusedVariables false
set_option linter.unusedSimpArgs false
namespace Go.Proofs
open Go.Ax
end Go.Proofs
set_option linter.unusedVariables false
set_option linter.unusedSimpArgs false
namespace Go.Proofs
open Go.Ax
end Go.Proofs
set_option linter.unusedVariables false
set_option linter.unusedSimpArgs false
namespace Go.Proofs
open Go.Ax
end Go.Proofs
set_option linter.unusedVariables false
set_option linter.unusedSimpArgs false
namespace Go.Proofs
open Go.Ax
end Go.Proofs
set_option linter.unusedVariables false
set_option linter.unusedSimpArgs false
namespace Go.Proofs
open Go.Ax
theorem ret_Between_zero (k p : Int) (neg : Bool) (ns dn : List Nat) (hn : Wd ns) (hd : Wd dn) (hln : ns.length ≤ 137438953472) (hld : dn.length ≤ 137438953472)
    (he : errR 4 k p ns.length dn.length (val dn) = 0) (hz : val ns = 0) : Ret Tryz.prog GEs 28 [.agg [i64 k, i64 p], .agg [.bool neg, ws ns, ws dn]] (.tup [flz, flz, i64 0]) := by
  have hR := ret_Round_zero 4 k p (by decide) (by decide) neg ns dn hn hd hln hld he hz
  have hR2 := ret_Round_zero 3 k p (by decide) (by decide) neg ns dn hn hd hln hld (by rw [errR_same (r' := 4) (by decide) (by decide)]; exact he) hz
  refine RetN_start Tryz.func28 (by kernel_rfl) rfl fun Q hQ hQ2 => ?_; rw [Tryz.ntmps28]; simp only [u, i64, Nat.reduceSub, Nat.reduceAdd, bm]
  repeat (first | ((first | refine Gs ?_ | refine Gr ?_); simp (disch := omega) only [u, i64, ax, eq_self, if_true, if_false, Nat.reduceAdd, Int.reduceToNat, Int.reduceAdd, tvs, bs]; first | refine aA ?_ | (refine cR hR ?_; simp (disch := omega) only [u, i64, ax, eq_self, if_true, if_false, Nat.reduceAdd, Int.reduceToNat, Int.reduceAdd, tvs, bs]; try refine aA ?_)) | (refine cR hR ?_; simp (disch := omega) only [u, i64, ax, eq_self, if_true, if_false, Nat.reduceAdd, Int.reduceToNat, Int.reduceAdd, tvs, bs]; try refine aA ?_) | refine G_seq ?_ | refine G_block ?_ | refine G_condT rfl ?_ | refine G_condF rfl ?_ | refine G_skip ?_ | refine G_ret ?_ | refine G_exit ?_ | refine q_tn ?_ | refine q_tr ?_ | refine q_tx ?_ | refine q_bn ?_ | refine q_br ?_ | refine q_bx ?_ | refine q_by (by decide) ?_)
  ((first | refine Gs ?_ | refine Gr ?_); simp (disch := omega) only [u, i64, ax, eq_self, if_true, if_false, Nat.reduceAdd, Int.reduceToNat, Int.reduceAdd, tvs, bs])
  (refine cR hR2 ?_; simp (disch := omega) only [u, i64, ax, eq_self, if_true, if_false, Nat.reduceAdd, Int.reduceToNat, Int.reduceAdd, tvs, bs]; try refine aA ?_)
  refine G_stree (.step 0 (.alt 1 (.step 2 (.step 3 (.step 4 (.step 5 .done)))) (.alt 2 (.alt 1 (.step 3 (.step 4 (.step 5 .done))) (.alt 3 (.step 1 (.step 4 (.step 5 .done))) .stop)) (.alt 3 (.step 1 (.step 2 (.step 4 (.step 5 .done)))) .stop)))) mixed (by kernel_rfl) ?_
  simp (disch := omega) only [u, i64, ax, eq_self, if_true, if_false, Nat.reduceAdd, Int.reduceToNat, Int.reduceAdd, tvs, bs, x_done, x_step, x_alt, x_stop, lk_0, lk_S, mpD_nil, mpD_cons]
  repeat' apply And.intro
  all_goals
    refine aft_any ?_
    repeat (first | ((first | refine Gs ?_ | refine Gr ?_); simp (disch := omega) only [u, i64, ax, eq_self, if_true, if_false, Nat.reduceAdd, Int.reduceToNat, Int.reduceAdd, tvs, bs]; refine aA ?_) | refine G_seq ?_ | refine G_block ?_ | refine G_condT rfl ?_ | refine G_condF rfl ?_ | refine G_skip ?_ | refine G_ret ?_ | refine G_exit ?_ | refine q_tn ?_ | refine q_tr ?_ | refine q_tx ?_ | refine q_bn ?_ | refine q_br ?_ | refine q_bx ?_ | refine q_by (by decide) ?_)
    (refine FinQ hQ (congrArg Array.toList Tryz.results28) _ _ ?_); simp (disch := omega) only [u, i64, ax, if_true, forall_const, reduceCtorEq, implies_true, tvs, bf]
    all_goals rfl
theorem ret_Between_ok (k p : Nat) (hf : okFm k p) (neg : Bool) (ns dn : List Nat) (hn : Wd ns) (hd : Wd dn) (hln : ns.length ≤ 4096) (hld : dn.length ≤ 4096)
    (hn0 : val ns ≠ 0) (hd0 : val dn ≠ 0) : Ret Tryz.prog GEs 28 [.agg [i64 k, i64 p], .agg [.bool neg, ws ns, ws dn]]
      (.tup [flv (rndF p (gF k) 4 neg (val ns) (val dn)).1, flv (rndF p (gF k) 3 neg (val ns) (val dn)).1, i64 0]) := by
  have hR := ret_Round_ok 4 k p (by decide) hf neg ns dn hn hd hln hld hn0 hd0
  have hR2 := ret_Round_ok 3 k p (by decide) hf neg ns dn hn hd hln hld hn0 hd0
  generalize rndF p (gF k) 4 neg (val ns) (val dn) = y at *
  generalize rndF p (gF k) 3 neg (val ns) (val dn) = z at *
  unfold flv at *
  refine RetN_start Tryz.func28 (by kernel_rfl) rfl fun Q hQ hQ2 => ?_; rw [Tryz.ntmps28]; simp only [u, i64, Nat.reduceSub, Nat.reduceAdd, bm]
  repeat (first | ((first | refine Gs ?_ | refine Gr ?_); simp (disch := omega) only [u, i64, ax, eq_self, if_true, if_false, Nat.reduceAdd, Int.reduceToNat, Int.reduceAdd, tvs, bs]; first | refine aA ?_ | (refine cR hR ?_; simp (disch := omega) only [u, i64, ax, eq_self, if_true, if_false, Nat.reduceAdd, Int.reduceToNat, Int.reduceAdd, tvs, bs]; try refine aA ?_)) | (refine cR hR ?_; simp (disch := omega) only [u, i64, ax, eq_self, if_true, if_false, Nat.reduceAdd, Int.reduceToNat, Int.reduceAdd, tvs, bs]; try refine aA ?_) | refine G_seq ?_ | refine G_block ?_ | refine G_condT rfl ?_ | refine G_condF rfl ?_ | refine G_skip ?_ | refine G_ret ?_ | refine G_exit ?_ | refine q_tn ?_ | refine q_tr ?_ | refine q_tx ?_ | refine q_bn ?_ | refine q_br ?_ | refine q_bx ?_ | refine q_by (by decide) ?_)
  ((first | refine Gs ?_ | refine Gr ?_); simp (disch := omega) only [u, i64, ax, eq_self, if_true, if_false, Nat.reduceAdd, Int.reduceToNat, Int.reduceAdd, tvs, bs])
  (refine cR hR2 ?_; simp (disch := omega) only [u, i64, ax, eq_self, if_true, if_false, Nat.reduceAdd, Int.reduceToNat, Int.reduceAdd, tvs, bs]; try refine aA ?_)
  refine G_stree (.step 0 (.alt 1 (.step 2 (.step 3 (.step 4 (.step 5 .done)))) (.alt 2 (.alt 1 (.step 3 (.step 4 (.step 5 .done))) (.alt 3 (.step 1 (.step 4 (.step 5 .done))) .stop)) (.alt 3 (.step 1 (.step 2 (.step 4 (.step 5 .done)))) .stop)))) mixed (by kernel_rfl) ?_
  simp (disch := omega) only [u, i64, ax, eq_self, if_true, if_false, Nat.reduceAdd, Int.reduceToNat, Int.reduceAdd, tvs, bs, x_done, x_step, x_alt, x_stop, lk_0, lk_S, mpD_nil, mpD_cons]
  repeat' apply And.intro
  all_goals
    refine aft_any ?_
    repeat (first | ((first | refine Gs ?_ | refine Gr ?_); simp (disch := omega) only [u, i64, ax, eq_self, if_true, if_false, Nat.reduceAdd, Int.reduceToNat, Int.reduceAdd, tvs, bs]; refine aA ?_) | refine G_seq ?_ | refine G_block ?_ | refine G_condT rfl ?_ | refine G_condF rfl ?_ | refine G_skip ?_ | refine G_ret ?_ | refine G_exit ?_ | refine q_tn ?_ | refine q_tr ?_ | refine q_tx ?_ | refine q_bn ?_ | refine q_br ?_ | refine q_bx ?_ | refine q_by (by decide) ?_)
    (refine FinQ hQ (congrArg Array.toList Tryz.results28) _ _ ?_); simp (disch := omega) only [u, i64, ax, if_true, forall_const, reduceCtorEq, implies_true, tvs, bf]
    all_goals rfl
end Go.Proofs
set_option linter.unusedVariables false
set_option linter.unusedSimpArgs false
namespace Go.Proofs
open Go.Ax
end Go.Proofs
set_option linter.unusedVariables false
set_option linter.unusedSimpArgs false
namespace Go.Proofs
open Go.Ax
/-- A fraction in lowest terms without sign. -/
theorem ret_NormC (n d : Nat) (hn : (words n).length ≤ 10000) (hd : (words d).length ≤ 10000) (hc : Nat.gcd n d = 1) (hd0 : d ≠ 0) : Ret Tryz.prog GEs 94 [.agg [.bool false, nat n, nat d]] (.agg [.bool false, nat n, nat d]) := by
  have h := ret_Norm false (words n) (words d) (Wd_words _) (Wd_words _) (by omega) (by omega) (by rw [val_words]; exact hd0)
  rw [val_words, val_words, hc, Nat.div_one, Nat.div_one, Bool.false_and] at h
  exact h
theorem ret_Make12 (n d : Nat) (hn : (words n).length ≤ 10000) (hd : (words d).length ≤ 10000) (hc : Nat.gcd n d = 1) (hd0 : d ≠ 0) : Ret Tryz.prog GEs 97 [.agg [.bool false, nat n], nat d] (.agg [.bool false, nat n, nat d]) := by
  have hN := ret_NormC n d hn hd hc hd0
  refine RetN_start Tryz.func97 (by kernel_rfl) rfl fun Q hQ hQ2 => ?_; rw [Tryz.ntmps97]; simp only [u, i64, Nat.reduceSub, Nat.reduceAdd, bm]
  repeat (first | ((first | refine Gs ?_ | refine Gr ?_); simp (disch := omega) only [u, i64, ax, eq_self, if_true, if_false, Nat.reduceAdd, Int.reduceToNat, Int.reduceAdd, tvs, bs]; first | refine aA ?_ | (refine cR hN ?_; simp (disch := omega) only [u, i64, ax, eq_self, if_true, if_false, Nat.reduceAdd, Int.reduceToNat, Int.reduceAdd, tvs, bs]; try refine aA ?_)) | (refine cR hN ?_; simp (disch := omega) only [u, i64, ax, eq_self, if_true, if_false, Nat.reduceAdd, Int.reduceToNat, Int.reduceAdd, tvs, bs]; try refine aA ?_) | refine G_seq ?_ | refine G_block ?_ | refine G_condT rfl ?_ | refine G_condF rfl ?_ | refine G_skip ?_ | refine G_ret ?_ | refine G_exit ?_ | refine q_tn ?_ | refine q_tr ?_ | refine q_tx ?_ | refine q_bn ?_ | refine q_br ?_ | refine q_bx ?_ | refine q_by (by decide) ?_)
  (refine FinQ hQ (congrArg Array.toList Tryz.results97) _ _ ?_); simp (disch := omega) only [u, i64, ax, if_true, forall_const, reduceCtorEq, implies_true, tvs, bf]
end Go.Proofs
set_option linter.unusedVariables false
set_option linter.unusedSimpArgs false
namespace Go.Proofs
open Go.Ax
/-- A canonical integer. -/
def zv (z : Int) : AV := .agg [.bool (decide (z < 0)), nat z.natAbs]
/-- The value of a sign and a size. -/
def sg (neg : Bool) (n : Nat) : Int := if neg = true then -(n : Int) else n
theorem mk_zv (neg : Bool) (n : Nat) : AV.agg [.bool (neg && decide (n ≠ 0)), nat n] = zv (sg neg n) := by
  unfold zv sg
  cases neg with
  | true =>
    rw [if_pos rfl, Int.natAbs_neg, Int.natAbs_natCast, Bool.true_and]
    congr 3
    simp only [decide_eq_decide]
    omega
  | false =>
    rw [if_neg (by decide), Int.natAbs_natCast, Bool.false_and, decF (show ¬ (n : Int) < 0 by omega)]
theorem sg_zv (z : Int) : sg (decide (z < 0)) z.natAbs = z := by
  unfold sg
  by_cases h : z < 0
  · rw [decT h, if_pos rfl]; omega
  · rw [decF h, if_neg (by decide)]; omega
theorem ret_Make03 (neg : Bool) (xs : List Nat) (hx : Wd xs) (hl : xs.length ≤ 34359738368) : Ret Tryz.prog GEs 173 [.bool neg, ws xs] (zv (sg neg (val xs))) := mk_zv neg (val xs) ▸ ret_Make neg xs hx hl
theorem ret_Make11z (neg : Bool) (xs : List Nat) (hx : Wd xs) (hl : xs.length ≤ 34359738368) : Ret Tryz.prog GEs 84 [.bool neg, ws xs] (zv (sg neg (val xs))) := mk_zv neg (val xs) ▸ ret_Make11 neg xs hx hl
theorem sg_mul (a b : Bool) (x y : Nat) : sg (a != b) (x * y) = sg a x * sg b y := by
  unfold sg
  cases a <;> cases b <;> simp [Int.neg_mul, Int.mul_neg]
theorem ret_rMul (xs ys : List Nat) (hx : Wd xs) (hy : Wd ys) (hl : xs.length ≤ 10000000) (hl2 : ys.length ≤ 10000000) : Ret Tryz.prog GEs 146 [ws xs, ws ys] (nat (val xs * val ys)) := by
  have h1 := ret_Digits xs hx (by omega)
  have h2 := ret_Digits ys hy (by omega)
  have e1 := digs_length xs
  have e2 := digs_length ys
  have h3 := ret_Times (digs xs) (digs ys) (digs_Ds hx) (digs_Ds hy) (by omega) (by omega)
  have hlt : vb 4294967296 (digs xs) * vb 4294967296 (digs ys) < 4294967296 ^ ((digs xs).length + (digs ys).length) := by
    rw [Nat.pow_add]
    exact Nat.mul_lt_mul'' (vb_lt (digs_Ds hx)) (vb_lt (digs_Ds hy))
  have hv := vb_wfb (K := 4294967296) (by decide) _ _ hlt
  have hds : Ds 4294967296 (wfb 4294967296 ((digs xs).length + (digs ys).length) (vb 4294967296 (digs xs) * vb 4294967296 (digs ys))) := wfb_Ds (by decide) _ _
  have hml : (wfb 4294967296 ((digs xs).length + (digs ys).length) (vb 4294967296 (digs xs) * vb 4294967296 (digs ys))).length = (digs xs).length + (digs ys).length := wfb_length _ _
  have h4 := ret_nat _ hds (by omega)
  rw [hv, digs_val, digs_val] at h4
  rw [digs_val, digs_val] at h3
  generalize wfb 4294967296 ((digs xs).length + (digs ys).length) (val xs * val ys) = dd at *
  refine RetN_start Tryz.func146 (by kernel_rfl) rfl fun Q hQ hQ2 => ?_; rw [Tryz.ntmps146]; simp only [u, i64, Nat.reduceSub, Nat.reduceAdd, bm]
  repeat (first | ((first | refine Gs ?_ | refine Gr ?_); simp (disch := omega) only [u, i64, ax, eq_self, if_true, if_false, Nat.reduceAdd, Int.reduceToNat, Int.reduceAdd, tvs, bs]; first | refine aA ?_ | ((first | refine cR h1 ?_ | refine cR h2 ?_ | refine cR h3 ?_ | refine cR h4 ?_); simp (disch := omega) only [u, i64, ax, eq_self, if_true, if_false, Nat.reduceAdd, Int.reduceToNat, Int.reduceAdd, tvs, bs]; try refine aA ?_)) | ((first | refine cR h1 ?_ | refine cR h2 ?_ | refine cR h3 ?_ | refine cR h4 ?_); simp (disch := omega) only [u, i64, ax, eq_self, if_true, if_false, Nat.reduceAdd, Int.reduceToNat, Int.reduceAdd, tvs, bs]; try refine aA ?_) | refine G_seq ?_ | refine G_block ?_ | refine G_condT rfl ?_ | refine G_condF rfl ?_ | refine G_skip ?_ | refine G_ret ?_ | refine G_exit ?_ | refine q_tn ?_ | refine q_tr ?_ | refine q_tx ?_ | refine q_bn ?_ | refine q_br ?_ | refine q_bx ?_ | refine q_by (by decide) ?_)
  (refine FinQ hQ (congrArg Array.toList Tryz.results146) _ _ ?_); simp (disch := omega) only [u, i64, ax, if_true, forall_const, reduceCtorEq, implies_true, tvs, bf]
theorem ret_Mul03 (a b : Bool) (xs ys : List Nat) (hx : Wd xs) (hy : Wd ys) (hl : xs.length ≤ 1000000) (hl2 : ys.length ≤ 1000000) : Ret Tryz.prog GEs 172 [.agg [.bool a, ws xs], .agg [.bool b, ws ys]] (zv (sg a (val xs) * sg b (val ys))) := by
  have hM := ret_rMul xs ys hx hy (by omega) (by omega)
  have h1 := length_words_val_le hx
  have h2 := length_words_val_le hy
  have h3 := length_mul (val xs) (val ys)
  have hK := ret_Make03 (a != b) (words (val xs * val ys)) (Wd_words _) (by omega)
  rw [val_words, sg_mul] at hK
  generalize sg a (val xs) * sg b (val ys) = z at *
  unfold zv at *
  refine RetN_start Tryz.func172 (by kernel_rfl) rfl fun Q hQ hQ2 => ?_; rw [Tryz.ntmps172]; simp only [u, i64, Nat.reduceSub, Nat.reduceAdd, bm]
  repeat (first | ((first | refine Gs ?_ | refine Gr ?_); simp (disch := omega) only [u, i64, ax, eq_self, if_true, if_false, Nat.reduceAdd, Int.reduceToNat, Int.reduceAdd, tvs, bs]; first | refine aA ?_ | ((first | refine cR hM ?_ | refine cR hK ?_); simp (disch := omega) only [u, i64, ax, eq_self, if_true, if_false, Nat.reduceAdd, Int.reduceToNat, Int.reduceAdd, tvs, bs]; try refine aA ?_)) | ((first | refine cR hM ?_ | refine cR hK ?_); simp (disch := omega) only [u, i64, ax, eq_self, if_true, if_false, Nat.reduceAdd, Int.reduceToNat, Int.reduceAdd, tvs, bs]; try refine aA ?_) | refine G_seq ?_ | refine G_block ?_ | refine G_condT rfl ?_ | refine G_condF rfl ?_ | refine G_skip ?_ | refine G_ret ?_ | refine G_exit ?_ | refine q_tn ?_ | refine q_tr ?_ | refine q_tx ?_ | refine q_bn ?_ | refine q_br ?_ | refine q_bx ?_ | refine q_by (by decide) ?_)
  (refine FinQ hQ (congrArg Array.toList Tryz.results172) _ _ ?_); simp (disch := omega) only [u, i64, ax, if_true, forall_const, reduceCtorEq, implies_true, tvs, bf]
theorem ret_Mul11 (a b : Bool) (xs ys : List Nat) (hx : Wd xs) (hy : Wd ys) (hl : xs.length ≤ 1000000) (hl2 : ys.length ≤ 1000000) : Ret Tryz.prog GEs 83 [.agg [.bool a, ws xs], .agg [.bool b, ws ys]] (zv (sg a (val xs) * sg b (val ys))) := by
  have hK := ret_Mul03 a b xs ys hx hy hl hl2
  generalize sg a (val xs) * sg b (val ys) = z at *
  unfold zv at *
  refine RetN_start Tryz.func83 (by kernel_rfl) rfl fun Q hQ hQ2 => ?_; rw [Tryz.ntmps83]; simp only [u, i64, Nat.reduceSub, Nat.reduceAdd, bm]
  repeat (first | ((first | refine Gs ?_ | refine Gr ?_); simp (disch := omega) only [u, i64, ax, eq_self, if_true, if_false, Nat.reduceAdd, Int.reduceToNat, Int.reduceAdd, tvs, bs]; first | refine aA ?_ | (refine cR hK ?_; simp (disch := omega) only [u, i64, ax, eq_self, if_true, if_false, Nat.reduceAdd, Int.reduceToNat, Int.reduceAdd, tvs, bs]; try refine aA ?_)) | (refine cR hK ?_; simp (disch := omega) only [u, i64, ax, eq_self, if_true, if_false, Nat.reduceAdd, Int.reduceToNat, Int.reduceAdd, tvs, bs]; try refine aA ?_) | refine G_seq ?_ | refine G_block ?_ | refine G_condT rfl ?_ | refine G_condF rfl ?_ | refine G_skip ?_ | refine G_ret ?_ | refine G_exit ?_ | refine q_tn ?_ | refine q_tr ?_ | refine q_tx ?_ | refine q_bn ?_ | refine q_br ?_ | refine q_bx ?_ | refine q_by (by decide) ?_)
  (refine FinQ hQ (congrArg Array.toList Tryz.results83) _ _ ?_); simp (disch := omega) only [u, i64, ax, if_true, forall_const, reduceCtorEq, implies_true, tvs, bf]
theorem sg_not (b : Bool) (y : Nat) : sg (!b) y = -sg b y := by unfold sg; cases b <;> simp
theorem ret_Neg03 (b : Bool) (ys : List Nat) (hy : Wd ys) (hl : ys.length ≤ 1000000) : Ret Tryz.prog GEs 241 [.agg [.bool b, ws ys]] (zv (-sg b (val ys))) := by
  have hK := ret_Make03 (!b) ys hy (by omega)
  rw [sg_not] at hK
  generalize -sg b (val ys) = z at *
  unfold zv at *
  refine RetN_start Tryz.func241 (by kernel_rfl) rfl fun Q hQ hQ2 => ?_; rw [Tryz.ntmps241]; simp only [u, i64, Nat.reduceSub, Nat.reduceAdd, bm]
  repeat (first | ((first | refine Gs ?_ | refine Gr ?_); simp (disch := omega) only [u, i64, ax, eq_self, if_true, if_false, Nat.reduceAdd, Int.reduceToNat, Int.reduceAdd, tvs, bs]; first | refine aA ?_ | (refine cR hK ?_; simp (disch := omega) only [u, i64, ax, eq_self, if_true, if_false, Nat.reduceAdd, Int.reduceToNat, Int.reduceAdd, tvs, bs]; try refine aA ?_)) | (refine cR hK ?_; simp (disch := omega) only [u, i64, ax, eq_self, if_true, if_false, Nat.reduceAdd, Int.reduceToNat, Int.reduceAdd, tvs, bs]; try refine aA ?_) | refine G_seq ?_ | refine G_block ?_ | refine G_condT rfl ?_ | refine G_condF rfl ?_ | refine G_skip ?_ | refine G_ret ?_ | refine G_exit ?_ | refine q_tn ?_ | refine q_tr ?_ | refine q_tx ?_ | refine q_bn ?_ | refine q_br ?_ | refine q_bx ?_ | refine q_by (by decide) ?_)
  (refine FinQ hQ (congrArg Array.toList Tryz.results241) _ _ ?_); simp (disch := omega) only [u, i64, ax, if_true, forall_const, reduceCtorEq, implies_true, tvs, bf]
end Go.Proofs
set_option linter.unusedVariables false
set_option linter.unusedSimpArgs false
namespace Go.Proofs
open Go.Ax
theorem ret_Minus0 (b : List Nat) (hl : b.length ≤ 1000000) : Ret Tryz.prog GEs 255 [ws [], ws b] (.tup [ws [], .bool false]) := by
  refine RetN_start Tryz.func255 (by kernel_rfl) rfl fun Q hQ hQ2 => ?_; rw [Tryz.ntmps255]; simp only [u, i64, Nat.reduceSub, Nat.reduceAdd, bm]
  repeat (first | ((first | refine Gs ?_ | refine Gr ?_); simp (disch := omega) only [u, i64, ax, eq_self, if_true, if_false, Nat.reduceAdd, Int.reduceToNat, Int.reduceAdd, tvs, bs]; refine aA ?_) | refine G_seq ?_ | refine G_block ?_ | refine G_condT rfl ?_ | refine G_condF rfl ?_ | refine G_skip ?_ | refine G_ret ?_ | refine G_exit ?_ | refine q_tn ?_ | refine q_tr ?_ | refine q_tx ?_ | refine q_bn ?_ | refine q_br ?_ | refine q_bx ?_ | refine q_by (by decide) ?_)
  refine AWp_loop (fun _ : Unit => mk 38 [(0, ws []), (1, ws b), (6, .emp), (7, .int .u64 0), (8, i64 0)] []) (fun _ => True) (fun _ => 0) () ?_ trivial ?_
  · simp only [u, i64, Nat.reduceSub, Nat.reduceAdd, bm]
  intro _ _
  simp only [u, i64, Nat.reduceSub, Nat.reduceAdd, bm]
  repeat (first | ((first | refine Gs ?_ | refine Gr ?_); simp (disch := omega) only [u, i64, ax, eq_self, if_true, if_false, Nat.reduceAdd, Int.reduceToNat, Int.reduceAdd, tvs, bs]; refine aA ?_) | refine G_seq ?_ | refine G_block ?_ | refine G_condT rfl ?_ | refine G_condF rfl ?_ | refine G_skip ?_ | refine G_ret ?_ | refine G_exit ?_ | refine q_tn ?_ | refine q_tr ?_ | refine q_tx ?_ | refine q_bn ?_ | refine q_br ?_ | refine q_bx ?_ | refine q_by (by decide) ?_)
  (refine FinQ hQ (congrArg Array.toList Tryz.results255) _ _ ?_); simp (disch := omega) only [u, i64, ax, if_true, forall_const, reduceCtorEq, implies_true, tvs, bf]
  all_goals rfl
theorem ret_rSub0 (ys : List Nat) (hy : Wd ys) (hl : ys.length ≤ 100000) : Ret Tryz.prog GEs 246 [ws [], ws ys] (nat 0) := by
  have h1 := ret_Digits [] (fun x hx => by cases hx) (by decide)
  have h2 := ret_rTrim ys hy (by omega)
  have hyl := length_words_val_le hy
  have h3 := ret_Digits (words (val ys)) (Wd_words _) (by omega)
  have h4 := ret_Minus0 (digs (words (val ys))) (by rw [digs_length]; omega)
  have h5 := ret_nat [] (fun x hx => by cases hx) (by decide)
  rw [show digs [] = [] from rfl] at h1
  rw [show vb 4294967296 [] = 0 from rfl] at h5
  generalize digs (words (val ys)) = dd at *
  refine RetN_start Tryz.func246 (by kernel_rfl) rfl fun Q hQ hQ2 => ?_; rw [Tryz.ntmps246]; simp only [u, i64, Nat.reduceSub, Nat.reduceAdd, bm]
  repeat (first | ((first | refine Gs ?_ | refine Gr ?_); simp (disch := omega) only [u, i64, ax, eq_self, if_true, if_false, Nat.reduceAdd, Int.reduceToNat, Int.reduceAdd, tvs, bs]; first | refine aA ?_ | ((first | refine cR h1 ?_ | refine cR h2 ?_ | refine cR h3 ?_ | refine cR h4 ?_ | refine cR h5 ?_); simp (disch := omega) only [u, i64, ax, eq_self, if_true, if_false, Nat.reduceAdd, Int.reduceToNat, Int.reduceAdd, tvs, bs]; try refine aA ?_)) | ((first | refine cR h1 ?_ | refine cR h2 ?_ | refine cR h3 ?_ | refine cR h4 ?_ | refine cR h5 ?_); simp (disch := omega) only [u, i64, ax, eq_self, if_true, if_false, Nat.reduceAdd, Int.reduceToNat, Int.reduceAdd, tvs, bs]; try refine aA ?_) | refine G_seq ?_ | refine G_block ?_ | refine G_condT rfl ?_ | refine G_condF rfl ?_ | refine G_skip ?_ | refine G_ret ?_ | refine G_exit ?_ | refine q_tn ?_ | refine q_tr ?_ | refine q_tx ?_ | refine q_bn ?_ | refine q_br ?_ | refine q_bx ?_ | refine q_by (by decide) ?_)
  (refine FinQ hQ (congrArg Array.toList Tryz.results246) _ _ ?_); simp (disch := omega) only [u, i64, ax, if_true, forall_const, reduceCtorEq, implies_true, tvs, bf]
theorem ret_rSubA (xs ys : List Nat) (hx : Wd xs) (hy : Wd ys) (hl : xs.length ≤ 100000) (hl2 : ys.length ≤ 100000) (hle : val ys ≤ val xs) : Ret Tryz.prog GEs 246 [ws xs, ws ys] (nat (val xs - val ys)) := by
  by_cases h : xs = []
  · subst h
    have : val ys = 0 := by have : val [] = 0 := rfl; omega
    rw [this]
    exact ret_rSub0 ys hy hl2
  · exact ret_rSub xs ys hx hy h (by omega) (by omega) hle
theorem ret_rAddA (xs ys : List Nat) (hx : Wd xs) (hy : Wd ys) (hl : xs.length ≤ 100000) (hl2 : ys.length ≤ 100000) : Ret Tryz.prog GEs 208 [ws xs, ws ys] (nat (val xs + val ys)) := ret_rAdd xs ys hx hy (by omega) (by omega)
set_option maxRecDepth 100000 in
set_option maxHeartbeats 2000000 in
theorem ret_Add03 (a b : Bool) (xs ys : List Nat) (hx : Wd xs) (hy : Wd ys) (hl : xs.length ≤ 10000) (hl2 : ys.length ≤ 10000) : Ret Tryz.prog GEs 213 [.agg [.bool a, ws xs], .agg [.bool b, ws ys]] (zv (sg a (val xs) + sg b (val ys))) := by
  have h1 := length_words_val_le hx
  have h2 := length_words_val_le hy
  have hA := ret_rAddA xs ys hx hy (by omega) (by omega)
  have hAl := length_add (val xs) (val ys)
  have hC := ret_rCmp xs ys hx hy (by omega) (by omega)
  have hC2 : ∃ z : Int, (z < 0 ↔ val xs < val ys) ∧ Ret Tryz.prog GEs 177 [ws xs, ws ys] (i64 z) := ⟨_, by unfold cmpI; split <;> (try split) <;> omega, hC⟩
  obtain ⟨z, hz, hC⟩ := hC2
  have key : ∀ a : Bool, Ret Tryz.prog GEs 213 [.agg [.bool a, ws xs], .agg [.bool a, ws ys]] (zv (sg a (val xs) + sg a (val ys))) := fun a => by
    have hM := ret_Make03 a (words (val xs + val ys)) (Wd_words _) (by omega)
    rw [val_words, show sg a (val xs + val ys) = sg a (val xs) + sg a (val ys) by unfold sg; cases a <;> simp <;> omega] at hM
    generalize sg a (val xs) + sg a (val ys) = w at *
    unfold zv at *
    cases a with
    | true =>
      refine RetN_start Tryz.func213 (by kernel_rfl) rfl fun Q hQ hQ2 => ?_; rw [Tryz.ntmps213]; simp only [u, i64, Nat.reduceSub, Nat.reduceAdd, bm]
      repeat (first | ((first | refine Gs ?_ | refine Gr ?_); simp (disch := omega) only [u, i64, ax, eq_self, if_true, if_false, Nat.reduceAdd, Int.reduceToNat, Int.reduceAdd, tvs, bs]; first | refine aA ?_ | ((first | refine cR hA ?_ | refine cR hM ?_); simp (disch := omega) only [u, i64, ax, eq_self, if_true, if_false, Nat.reduceAdd, Int.reduceToNat, Int.reduceAdd, tvs, bs]; try refine aA ?_)) | ((first | refine cR hA ?_ | refine cR hM ?_); simp (disch := omega) only [u, i64, ax, eq_self, if_true, if_false, Nat.reduceAdd, Int.reduceToNat, Int.reduceAdd, tvs, bs]; try refine aA ?_) | refine G_seq ?_ | refine G_block ?_ | refine G_condT rfl ?_ | refine G_condF rfl ?_ | refine G_skip ?_ | refine G_ret ?_ | refine G_exit ?_ | refine q_tn ?_ | refine q_tr ?_ | refine q_tx ?_ | refine q_bn ?_ | refine q_br ?_ | refine q_bx ?_ | refine q_by (by decide) ?_)
      (refine FinQ hQ (congrArg Array.toList Tryz.results213) _ _ ?_); simp (disch := omega) only [u, i64, ax, if_true, forall_const, reduceCtorEq, implies_true, tvs, bf]
    | false =>
      refine RetN_start Tryz.func213 (by kernel_rfl) rfl fun Q hQ hQ2 => ?_; rw [Tryz.ntmps213]; simp only [u, i64, Nat.reduceSub, Nat.reduceAdd, bm]
      repeat (first | ((first | refine Gs ?_ | refine Gr ?_); simp (disch := omega) only [u, i64, ax, eq_self, if_true, if_false, Nat.reduceAdd, Int.reduceToNat, Int.reduceAdd, tvs, bs]; first | refine aA ?_ | ((first | refine cR hA ?_ | refine cR hM ?_); simp (disch := omega) only [u, i64, ax, eq_self, if_true, if_false, Nat.reduceAdd, Int.reduceToNat, Int.reduceAdd, tvs, bs]; try refine aA ?_)) | ((first | refine cR hA ?_ | refine cR hM ?_); simp (disch := omega) only [u, i64, ax, eq_self, if_true, if_false, Nat.reduceAdd, Int.reduceToNat, Int.reduceAdd, tvs, bs]; try refine aA ?_) | refine G_seq ?_ | refine G_block ?_ | refine G_condT rfl ?_ | refine G_condF rfl ?_ | refine G_skip ?_ | refine G_ret ?_ | refine G_exit ?_ | refine q_tn ?_ | refine q_tr ?_ | refine q_tx ?_ | refine q_bn ?_ | refine q_br ?_ | refine q_bx ?_ | refine q_by (by decide) ?_)
      (refine FinQ hQ (congrArg Array.toList Tryz.results213) _ _ ?_); simp (disch := omega) only [u, i64, ax, if_true, forall_const, reduceCtorEq, implies_true, tvs, bf]
  have key2 : ∀ a : Bool, Ret Tryz.prog GEs 213 [.agg [.bool a, ws xs], .agg [.bool (!a), ws ys]] (zv (sg a (val xs) + sg (!a) (val ys))) := fun a => by
    by_cases hlt : val xs < val ys
    · have hzz : z < 0 := hz.2 hlt
      have hS := ret_rSubA ys xs hy hx (by omega) (by omega) (by omega)
      have hSl := length_mono (Nat.sub_le (val ys) (val xs))
      have hM := ret_Make03 (!a) (words (val ys - val xs)) (Wd_words _) (by omega)
      rw [val_words, show sg (!a) (val ys - val xs) = sg a (val xs) + sg (!a) (val ys) by unfold sg; cases a <;> simp <;> omega] at hM
      generalize sg a (val xs) + sg (!a) (val ys) = w at *
      unfold zv at *
      cases a with
      | true =>
        rw [show (!true) = false from rfl] at hM ⊢
        refine RetN_start Tryz.func213 (by kernel_rfl) rfl fun Q hQ hQ2 => ?_; rw [Tryz.ntmps213]; simp only [u, i64, Nat.reduceSub, Nat.reduceAdd, bm]
        repeat (first | ((first | refine Gs ?_ | refine Gr ?_); simp (disch := omega) only [u, i64, ax, eq_self, if_true, if_false, Nat.reduceAdd, Int.reduceToNat, Int.reduceAdd, tvs, bs]; first | refine aA ?_ | ((first | refine cR hC ?_ | refine cR hS ?_ | refine cR hM ?_); simp (disch := omega) only [u, i64, ax, eq_self, if_true, if_false, Nat.reduceAdd, Int.reduceToNat, Int.reduceAdd, tvs, bs]; try refine aA ?_)) | ((first | refine cR hC ?_ | refine cR hS ?_ | refine cR hM ?_); simp (disch := omega) only [u, i64, ax, eq_self, if_true, if_false, Nat.reduceAdd, Int.reduceToNat, Int.reduceAdd, tvs, bs]; try refine aA ?_) | refine G_seq ?_ | refine G_block ?_ | refine G_condT rfl ?_ | refine G_condF rfl ?_ | refine G_skip ?_ | refine G_ret ?_ | refine G_exit ?_ | refine q_tn ?_ | refine q_tr ?_ | refine q_tx ?_ | refine q_bn ?_ | refine q_br ?_ | refine q_bx ?_ | refine q_by (by decide) ?_)
        (refine FinQ hQ (congrArg Array.toList Tryz.results213) _ _ ?_); simp (disch := omega) only [u, i64, ax, if_true, forall_const, reduceCtorEq, implies_true, tvs, bf]
      | false =>
        rw [show (!false) = true from rfl] at hM ⊢
        refine RetN_start Tryz.func213 (by kernel_rfl) rfl fun Q hQ hQ2 => ?_; rw [Tryz.ntmps213]; simp only [u, i64, Nat.reduceSub, Nat.reduceAdd, bm]
        repeat (first | ((first | refine Gs ?_ | refine Gr ?_); simp (disch := omega) only [u, i64, ax, eq_self, if_true, if_false, Nat.reduceAdd, Int.reduceToNat, Int.reduceAdd, tvs, bs]; first | refine aA ?_ | ((first | refine cR hC ?_ | refine cR hS ?_ | refine cR hM ?_); simp (disch := omega) only [u, i64, ax, eq_self, if_true, if_false, Nat.reduceAdd, Int.reduceToNat, Int.reduceAdd, tvs, bs]; try refine aA ?_)) | ((first | refine cR hC ?_ | refine cR hS ?_ | refine cR hM ?_); simp (disch := omega) only [u, i64, ax, eq_self, if_true, if_false, Nat.reduceAdd, Int.reduceToNat, Int.reduceAdd, tvs, bs]; try refine aA ?_) | refine G_seq ?_ | refine G_block ?_ | refine G_condT rfl ?_ | refine G_condF rfl ?_ | refine G_skip ?_ | refine G_ret ?_ | refine G_exit ?_ | refine q_tn ?_ | refine q_tr ?_ | refine q_tx ?_ | refine q_bn ?_ | refine q_br ?_ | refine q_bx ?_ | refine q_by (by decide) ?_)
        (refine FinQ hQ (congrArg Array.toList Tryz.results213) _ _ ?_); simp (disch := omega) only [u, i64, ax, if_true, forall_const, reduceCtorEq, implies_true, tvs, bf]
    · have hzz : ¬ z < 0 := fun h => hlt (hz.1 h)
      have hS := ret_rSubA xs ys hx hy (by omega) (by omega) (by omega)
      have hSl := length_mono (Nat.sub_le (val xs) (val ys))
      have hM := ret_Make03 a (words (val xs - val ys)) (Wd_words _) (by omega)
      rw [val_words, show sg a (val xs - val ys) = sg a (val xs) + sg (!a) (val ys) by unfold sg; cases a <;> simp <;> omega] at hM
      generalize sg a (val xs) + sg (!a) (val ys) = w at *
      unfold zv at *
      cases a with
      | true =>
        rw [show (!true) = false from rfl]
        refine RetN_start Tryz.func213 (by kernel_rfl) rfl fun Q hQ hQ2 => ?_; rw [Tryz.ntmps213]; simp only [u, i64, Nat.reduceSub, Nat.reduceAdd, bm]
        repeat (first | ((first | refine Gs ?_ | refine Gr ?_); simp (disch := omega) only [u, i64, ax, eq_self, if_true, if_false, Nat.reduceAdd, Int.reduceToNat, Int.reduceAdd, tvs, bs]; first | refine aA ?_ | ((first | refine cR hC ?_ | refine cR hS ?_ | refine cR hM ?_); simp (disch := omega) only [u, i64, ax, eq_self, if_true, if_false, Nat.reduceAdd, Int.reduceToNat, Int.reduceAdd, tvs, bs]; try refine aA ?_)) | ((first | refine cR hC ?_ | refine cR hS ?_ | refine cR hM ?_); simp (disch := omega) only [u, i64, ax, eq_self, if_true, if_false, Nat.reduceAdd, Int.reduceToNat, Int.reduceAdd, tvs, bs]; try refine aA ?_) | refine G_seq ?_ | refine G_block ?_ | refine G_condT rfl ?_ | refine G_condF rfl ?_ | refine G_skip ?_ | refine G_ret ?_ | refine G_exit ?_ | refine q_tn ?_ | refine q_tr ?_ | refine q_tx ?_ | refine q_bn ?_ | refine q_br ?_ | refine q_bx ?_ | refine q_by (by decide) ?_)
        (refine FinQ hQ (congrArg Array.toList Tryz.results213) _ _ ?_); simp (disch := omega) only [u, i64, ax, if_true, forall_const, reduceCtorEq, implies_true, tvs, bf]
      | false =>
        rw [show (!false) = true from rfl]
        refine RetN_start Tryz.func213 (by kernel_rfl) rfl fun Q hQ hQ2 => ?_; rw [Tryz.ntmps213]; simp only [u, i64, Nat.reduceSub, Nat.reduceAdd, bm]
        repeat (first | ((first | refine Gs ?_ | refine Gr ?_); simp (disch := omega) only [u, i64, ax, eq_self, if_true, if_false, Nat.reduceAdd, Int.reduceToNat, Int.reduceAdd, tvs, bs]; first | refine aA ?_ | ((first | refine cR hC ?_ | refine cR hS ?_ | refine cR hM ?_); simp (disch := omega) only [u, i64, ax, eq_self, if_true, if_false, Nat.reduceAdd, Int.reduceToNat, Int.reduceAdd, tvs, bs]; try refine aA ?_)) | ((first | refine cR hC ?_ | refine cR hS ?_ | refine cR hM ?_); simp (disch := omega) only [u, i64, ax, eq_self, if_true, if_false, Nat.reduceAdd, Int.reduceToNat, Int.reduceAdd, tvs, bs]; try refine aA ?_) | refine G_seq ?_ | refine G_block ?_ | refine G_condT rfl ?_ | refine G_condF rfl ?_ | refine G_skip ?_ | refine G_ret ?_ | refine G_exit ?_ | refine q_tn ?_ | refine q_tr ?_ | refine q_tx ?_ | refine q_bn ?_ | refine q_br ?_ | refine q_bx ?_ | refine q_by (by decide) ?_)
        (refine FinQ hQ (congrArg Array.toList Tryz.results213) _ _ ?_); simp (disch := omega) only [u, i64, ax, if_true, forall_const, reduceCtorEq, implies_true, tvs, bf]
  cases a <;> cases b
  · exact key false
  · exact key2 false
  · exact key2 true
  · exact key true
theorem ret_Sub03 (a b : Bool) (xs ys : List Nat) (hx : Wd xs) (hy : Wd ys) (hl : xs.length ≤ 10000) (hl2 : ys.length ≤ 10000) : Ret Tryz.prog GEs 233 [.agg [.bool a, ws xs], .agg [.bool b, ws ys]] (zv (sg a (val xs) - sg b (val ys))) := by
  have hN := ret_Neg03 b ys hy (by omega)
  have h2 := length_words_val_le hy
  have hab : (-sg b (val ys)).natAbs = val ys := by unfold sg; split <;> omega
  have hA := ret_Add03 a (decide (-sg b (val ys) < 0)) xs (words (-sg b (val ys)).natAbs) hx (Wd_words _) hl (by rw [hab]; omega)
  rw [val_words, sg_zv, ← Int.sub_eq_add_neg] at hA
  generalize sg a (val xs) - sg b (val ys) = w at *
  generalize -sg b (val ys) = v at *
  unfold zv at *
  refine RetN_start Tryz.func233 (by kernel_rfl) rfl fun Q hQ hQ2 => ?_; rw [Tryz.ntmps233]; simp only [u, i64, Nat.reduceSub, Nat.reduceAdd, bm]
  repeat (first | ((first | refine Gs ?_ | refine Gr ?_); simp (disch := omega) only [u, i64, ax, eq_self, if_true, if_false, Nat.reduceAdd, Int.reduceToNat, Int.reduceAdd, tvs, bs]; first | refine aA ?_ | ((first | refine cR hN ?_ | refine cR hA ?_); simp (disch := omega) only [u, i64, ax, eq_self, if_true, if_false, Nat.reduceAdd, Int.reduceToNat, Int.reduceAdd, tvs, bs]; try refine aA ?_)) | ((first | refine cR hN ?_ | refine cR hA ?_); simp (disch := omega) only [u, i64, ax, eq_self, if_true, if_false, Nat.reduceAdd, Int.reduceToNat, Int.reduceAdd, tvs, bs]; try refine aA ?_) | refine G_seq ?_ | refine G_block ?_ | refine G_condT rfl ?_ | refine G_condF rfl ?_ | refine G_skip ?_ | refine G_ret ?_ | refine G_exit ?_ | refine q_tn ?_ | refine q_tr ?_ | refine q_tx ?_ | refine q_bn ?_ | refine q_br ?_ | refine q_bx ?_ | refine q_by (by decide) ?_)
  (refine FinQ hQ (congrArg Array.toList Tryz.results233) _ _ ?_); simp (disch := omega) only [u, i64, ax, if_true, forall_const, reduceCtorEq, implies_true, tvs, bf]
theorem ret_Sub11 (a b : Bool) (xs ys : List Nat) (hx : Wd xs) (hy : Wd ys) (hl : xs.length ≤ 10000) (hl2 : ys.length ≤ 10000) : Ret Tryz.prog GEs 171 [.agg [.bool a, ws xs], .agg [.bool b, ws ys]] (zv (sg a (val xs) - sg b (val ys))) := by
  have hA := ret_Sub03 a b xs ys hx hy hl hl2
  generalize sg a (val xs) - sg b (val ys) = w at *
  unfold zv at *
  refine RetN_start Tryz.func171 (by kernel_rfl) rfl fun Q hQ hQ2 => ?_; rw [Tryz.ntmps171]; simp only [u, i64, Nat.reduceSub, Nat.reduceAdd, bm]
  repeat (first | ((first | refine Gs ?_ | refine Gr ?_); simp (disch := omega) only [u, i64, ax, eq_self, if_true, if_false, Nat.reduceAdd, Int.reduceToNat, Int.reduceAdd, tvs, bs]; first | refine aA ?_ | (refine cR hA ?_; simp (disch := omega) only [u, i64, ax, eq_self, if_true, if_false, Nat.reduceAdd, Int.reduceToNat, Int.reduceAdd, tvs, bs]; try refine aA ?_)) | (refine cR hA ?_; simp (disch := omega) only [u, i64, ax, eq_self, if_true, if_false, Nat.reduceAdd, Int.reduceToNat, Int.reduceAdd, tvs, bs]; try refine aA ?_) | refine G_seq ?_ | refine G_block ?_ | refine G_condT rfl ?_ | refine G_condF rfl ?_ | refine G_skip ?_ | refine G_ret ?_ | refine G_exit ?_ | refine q_tn ?_ | refine q_tr ?_ | refine q_tx ?_ | refine q_bn ?_ | refine q_br ?_ | refine q_bx ?_ | refine q_by (by decide) ?_)
  (refine FinQ hQ (congrArg Array.toList Tryz.results171) _ _ ?_); simp (disch := omega) only [u, i64, ax, if_true, forall_const, reduceCtorEq, implies_true, tvs, bf]
theorem sgn_zv (z : Int) : sgn (decide (z < 0)) z.natAbs = sgnI z := by
  unfold sgn sgnI
  by_cases h0 : z = 0
  · subst h0; rfl
  · rw [if_neg (by omega)]
    by_cases h : z < 0
    · rw [decT h, if_pos rfl, if_pos h]
    · rw [decF h, if_neg (by decide), if_neg h, if_pos (by omega)]
theorem ret_Cmp11 (a b : Bool) (xs ys : List Nat) (hx : Wd xs) (hy : Wd ys) (hl : xs.length ≤ 10000) (hl2 : ys.length ≤ 10000) : Ret Tryz.prog GEs 82 [.agg [.bool a, ws xs], .agg [.bool b, ws ys]] (i64 (sgnI (sg a (val xs) - sg b (val ys)))) := by
  have hS := ret_Sub11 a b xs ys hx hy hl hl2
  have h1 := length_words_val_le hx
  have h2 := length_words_val_le hy
  have hlen : (words (sg a (val xs) - sg b (val ys)).natAbs).length ≤ 20002 := by
    have h3 : (sg a (val xs) - sg b (val ys)).natAbs ≤ val xs + val ys := by unfold sg; split <;> split <;> omega
    have := length_mono h3
    have := length_add (val xs) (val ys)
    omega
  have hG := ret_Sign11 (decide (sg a (val xs) - sg b (val ys) < 0)) (words (sg a (val xs) - sg b (val ys)).natAbs) (Wd_words _) (by omega)
  rw [val_words, sgn_zv] at hG
  generalize sg a (val xs) - sg b (val ys) = w at *
  unfold zv at *
  refine RetN_start Tryz.func82 (by kernel_rfl) rfl fun Q hQ hQ2 => ?_; rw [Tryz.ntmps82]; simp only [u, i64, Nat.reduceSub, Nat.reduceAdd, bm]
  repeat (first | ((first | refine Gs ?_ | refine Gr ?_); simp (disch := omega) only [u, i64, ax, eq_self, if_true, if_false, Nat.reduceAdd, Int.reduceToNat, Int.reduceAdd, tvs, bs]; first | refine aA ?_ | ((first | refine cR hS ?_ | refine cR hG ?_); simp (disch := omega) only [u, i64, ax, eq_self, if_true, if_false, Nat.reduceAdd, Int.reduceToNat, Int.reduceAdd, tvs, bs]; try refine aA ?_)) | ((first | refine cR hS ?_ | refine cR hG ?_); simp (disch := omega) only [u, i64, ax, eq_self, if_true, if_false, Nat.reduceAdd, Int.reduceToNat, Int.reduceAdd, tvs, bs]; try refine aA ?_) | refine G_seq ?_ | refine G_block ?_ | refine G_condT rfl ?_ | refine G_condF rfl ?_ | refine G_skip ?_ | refine G_ret ?_ | refine G_exit ?_ | refine q_tn ?_ | refine q_tr ?_ | refine q_tx ?_ | refine q_bn ?_ | refine q_br ?_ | refine q_bx ?_ | refine q_by (by decide) ?_)
  (refine FinQ hQ (congrArg Array.toList Tryz.results82) _ _ ?_); simp (disch := omega) only [u, i64, ax, if_true, forall_const, reduceCtorEq, implies_true, tvs, bf]
/-- The reference compares two fractions. -/
def cpQ (a : Bool) (n d : Nat) (b : Bool) (n' d' : Nat) : Int := sgnI (sg a n * d' - sg b n' * d)
theorem sg_false (n : Nat) : sg false n = n := rfl
theorem ret_Cmp12 (a b : Bool) (ns dn ms en : List Nat) (hn : Wd ns) (hd : Wd dn) (hm : Wd ms) (he : Wd en) (l1 : ns.length ≤ 2000) (l2 : dn.length ≤ 2000) (l3 : ms.length ≤ 2000) (l4 : en.length ≤ 2000) :
    Ret Tryz.prog GEs 24 [.agg [.bool a, ws ns, ws dn], .agg [.bool b, ws ms, ws en]] (i64 (cpQ a (val ns) (val dn) b (val ms) (val en))) := by
  have v1 := length_words_val_le hn
  have v2 := length_words_val_le hd
  have v3 := length_words_val_le hm
  have v4 := length_words_val_le he
  have hM1 := ret_Make11z false en he (by omega)
  have hM2 := ret_Make11z false dn hd (by omega)
  rw [sg_false] at hM1 hM2
  have hX1 := ret_Mul11 a false ns (words (val en)) hn (Wd_words _) (by omega) (by omega)
  have hX2 := ret_Mul11 b false ms (words (val dn)) hm (Wd_words _) (by omega) (by omega)
  rw [val_words, sg_false] at hX1 hX2
  have ab : ∀ (c : Bool) (x y : Nat), (sg c x * (y : Int)).natAbs = x * y := fun c x y => by
    rw [Int.natAbs_mul, Int.natAbs_natCast]
    congr 1
    unfold sg; split <;> omega
  have m1 := length_mul (val ns) (val en)
  have m2 := length_mul (val ms) (val dn)
  have hC := ret_Cmp11 (decide (sg a (val ns) * (val en : Int) < 0)) (decide (sg b (val ms) * (val dn : Int) < 0)) (words (sg a (val ns) * (val en : Int)).natAbs) (words (sg b (val ms) * (val dn : Int)).natAbs) (Wd_words _) (Wd_words _) (by rw [ab]; omega) (by rw [ab]; omega)
  rw [val_words, val_words, sg_zv, sg_zv] at hC
  unfold cpQ
  have z1 : zv (val en : Int) = .agg [.bool false, nat (val en)] := by unfold zv; rw [decF (show ¬ (val en : Int) < 0 by omega), Int.natAbs_natCast]
  have z2 : zv (val dn : Int) = .agg [.bool false, nat (val dn)] := by unfold zv; rw [decF (show ¬ (val dn : Int) < 0 by omega), Int.natAbs_natCast]
  rw [z1] at hM1
  rw [z2] at hM2
  generalize sg a (val ns) * (val en : Int) = P at *
  generalize sg b (val ms) * (val dn : Int) = R at *
  unfold zv at *
  refine RetN_start Tryz.func24 (by kernel_rfl) rfl fun Q hQ hQ2 => ?_; rw [Tryz.ntmps24]; simp only [u, i64, Nat.reduceSub, Nat.reduceAdd, bm]
  repeat (first | ((first | refine Gs ?_ | refine Gr ?_); simp (disch := omega) only [u, i64, ax, eq_self, if_true, if_false, Nat.reduceAdd, Int.reduceToNat, Int.reduceAdd, tvs, bs]; first | refine aA ?_ | ((first | refine cR hM1 ?_ | refine cR hX1 ?_ | refine cR hM2 ?_ | refine cR hX2 ?_ | refine cR hC ?_); simp (disch := omega) only [u, i64, ax, eq_self, if_true, if_false, Nat.reduceAdd, Int.reduceToNat, Int.reduceAdd, tvs, bs]; try refine aA ?_)) | ((first | refine cR hM1 ?_ | refine cR hX1 ?_ | refine cR hM2 ?_ | refine cR hX2 ?_ | refine cR hC ?_); simp (disch := omega) only [u, i64, ax, eq_self, if_true, if_false, Nat.reduceAdd, Int.reduceToNat, Int.reduceAdd, tvs, bs]; try refine aA ?_) | refine G_seq ?_ | refine G_block ?_ | refine G_condT rfl ?_ | refine G_condF rfl ?_ | refine G_skip ?_ | refine G_ret ?_ | refine G_exit ?_ | refine q_tn ?_ | refine q_tr ?_ | refine q_tx ?_ | refine q_bn ?_ | refine q_br ?_ | refine q_bx ?_ | refine q_by (by decide) ?_)
  (refine FinQ hQ (congrArg Array.toList Tryz.results24) _ _ ?_); simp (disch := omega) only [u, i64, ax, if_true, forall_const, reduceCtorEq, implies_true, tvs, bf]
end Go.Proofs
set_option linter.unusedVariables false
set_option linter.unusedSimpArgs false
namespace Go.Proofs
open Go.Ax
theorem ret_sign15 (z : Int) (h1 : -4611686018427387904 ≤ z) (h2 : z ≤ 4611686018427387904) : Ret Tryz.prog GEs 87 [i64 z] (i64 (sgnI z)) := by
  unfold sgnI
  by_cases c1 : z < 0
  · rw [if_pos c1]
    refine RetN_start Tryz.func87 (by kernel_rfl) rfl fun Q hQ hQ2 => ?_; rw [Tryz.ntmps87]; simp only [u, i64, Nat.reduceSub, Nat.reduceAdd, bm]
    repeat (first | ((first | refine Gs ?_ | refine Gr ?_); simp (disch := omega) only [u, i64, ax, eq_self, if_true, if_false, Nat.reduceAdd, Int.reduceToNat, Int.reduceAdd, tvs, bs]; refine aA ?_) | refine G_seq ?_ | refine G_block ?_ | refine G_condT rfl ?_ | refine G_condF rfl ?_ | refine G_skip ?_ | refine G_ret ?_ | refine G_exit ?_ | refine q_tn ?_ | refine q_tr ?_ | refine q_tx ?_ | refine q_bn ?_ | refine q_br ?_ | refine q_bx ?_ | refine q_by (by decide) ?_)
    (refine FinQ hQ (congrArg Array.toList Tryz.results87) _ _ ?_); simp (disch := omega) only [u, i64, ax, if_true, forall_const, reduceCtorEq, implies_true, tvs, bf]
  · rw [if_neg c1]
    by_cases c2 : 0 < z
    · rw [if_pos c2]
      refine RetN_start Tryz.func87 (by kernel_rfl) rfl fun Q hQ hQ2 => ?_; rw [Tryz.ntmps87]; simp only [u, i64, Nat.reduceSub, Nat.reduceAdd, bm]
      repeat (first | ((first | refine Gs ?_ | refine Gr ?_); simp (disch := omega) only [u, i64, ax, eq_self, if_true, if_false, Nat.reduceAdd, Int.reduceToNat, Int.reduceAdd, tvs, bs]; refine aA ?_) | refine G_seq ?_ | refine G_block ?_ | refine G_condT rfl ?_ | refine G_condF rfl ?_ | refine G_skip ?_ | refine G_ret ?_ | refine G_exit ?_ | refine q_tn ?_ | refine q_tr ?_ | refine q_tx ?_ | refine q_bn ?_ | refine q_br ?_ | refine q_bx ?_ | refine q_by (by decide) ?_)
      (refine FinQ hQ (congrArg Array.toList Tryz.results87) _ _ ?_); simp (disch := omega) only [u, i64, ax, if_true, forall_const, reduceCtorEq, implies_true, tvs, bf]
    · rw [if_neg c2]
      refine RetN_start Tryz.func87 (by kernel_rfl) rfl fun Q hQ hQ2 => ?_; rw [Tryz.ntmps87]; simp only [u, i64, Nat.reduceSub, Nat.reduceAdd, bm]
      repeat (first | ((first | refine Gs ?_ | refine Gr ?_); simp (disch := omega) only [u, i64, ax, eq_self, if_true, if_false, Nat.reduceAdd, Int.reduceToNat, Int.reduceAdd, tvs, bs]; refine aA ?_) | refine G_seq ?_ | refine G_block ?_ | refine G_condT rfl ?_ | refine G_condF rfl ?_ | refine G_skip ?_ | refine G_ret ?_ | refine G_exit ?_ | refine q_tn ?_ | refine q_tr ?_ | refine q_tx ?_ | refine q_bn ?_ | refine q_br ?_ | refine q_bx ?_ | refine q_by (by decide) ?_)
      (refine FinQ hQ (congrArg Array.toList Tryz.results87) _ _ ?_); simp (disch := omega) only [u, i64, ax, if_true, forall_const, reduceCtorEq, implies_true, tvs, bf]
theorem ret_rank15 (x : FV) (hk : x.kind ≤ 2) : Ret Tryz.prog GEs 86 [flv x] (i64 (rkF x)) := by
  obtain ⟨kd, neg, e, m⟩ := x
  simp only at hk
  have h3 : kd = 0 ∨ kd = 1 ∨ kd = 2 := by omega
  unfold rkF flv
  simp only
  rcases h3 with rfl | rfl | rfl <;> cases neg
  · show Ret Tryz.prog GEs 86 [.agg [i64 0, .bool false, i64 e, nat m]] (i64 0)
    refine RetN_start Tryz.func86 (by kernel_rfl) rfl fun Q hQ hQ2 => ?_; rw [Tryz.ntmps86]; simp only [u, i64, Nat.reduceSub, Nat.reduceAdd, bm]
    repeat (first | ((first | refine Gs ?_ | refine Gr ?_); simp (disch := omega) only [u, i64, ax, eq_self, if_true, if_false, Nat.reduceAdd, Int.reduceToNat, Int.reduceAdd, tvs, bs]; refine aA ?_) | refine G_seq ?_ | refine G_block ?_ | refine G_condT rfl ?_ | refine G_condF rfl ?_ | refine G_skip ?_ | refine G_ret ?_ | refine G_exit ?_ | refine q_tn ?_ | refine q_tr ?_ | refine q_tx ?_ | refine q_bn ?_ | refine q_br ?_ | refine q_bx ?_ | refine q_by (by decide) ?_)
    (refine FinQ hQ (congrArg Array.toList Tryz.results86) _ _ ?_); simp (disch := omega) only [u, i64, ax, if_true, forall_const, reduceCtorEq, implies_true, tvs, bf]
  · show Ret Tryz.prog GEs 86 [.agg [i64 0, .bool true, i64 e, nat m]] (i64 0)
    refine RetN_start Tryz.func86 (by kernel_rfl) rfl fun Q hQ hQ2 => ?_; rw [Tryz.ntmps86]; simp only [u, i64, Nat.reduceSub, Nat.reduceAdd, bm]
    repeat (first | ((first | refine Gs ?_ | refine Gr ?_); simp (disch := omega) only [u, i64, ax, eq_self, if_true, if_false, Nat.reduceAdd, Int.reduceToNat, Int.reduceAdd, tvs, bs]; refine aA ?_) | refine G_seq ?_ | refine G_block ?_ | refine G_condT rfl ?_ | refine G_condF rfl ?_ | refine G_skip ?_ | refine G_ret ?_ | refine G_exit ?_ | refine q_tn ?_ | refine q_tr ?_ | refine q_tx ?_ | refine q_bn ?_ | refine q_br ?_ | refine q_bx ?_ | refine q_by (by decide) ?_)
    (refine FinQ hQ (congrArg Array.toList Tryz.results86) _ _ ?_); simp (disch := omega) only [u, i64, ax, if_true, forall_const, reduceCtorEq, implies_true, tvs, bf]
    all_goals rfl
  · show Ret Tryz.prog GEs 86 [.agg [i64 1, .bool false, i64 e, nat m]] (i64 1)
    refine RetN_start Tryz.func86 (by kernel_rfl) rfl fun Q hQ hQ2 => ?_; rw [Tryz.ntmps86]; simp only [u, i64, Nat.reduceSub, Nat.reduceAdd, bm]
    repeat (first | ((first | refine Gs ?_ | refine Gr ?_); simp (disch := omega) only [u, i64, ax, eq_self, if_true, if_false, Nat.reduceAdd, Int.reduceToNat, Int.reduceAdd, tvs, bs]; refine aA ?_) | refine G_seq ?_ | refine G_block ?_ | refine G_condT rfl ?_ | refine G_condF rfl ?_ | refine G_skip ?_ | refine G_ret ?_ | refine G_exit ?_ | refine q_tn ?_ | refine q_tr ?_ | refine q_tx ?_ | refine q_bn ?_ | refine q_br ?_ | refine q_bx ?_ | refine q_by (by decide) ?_)
    (refine FinQ hQ (congrArg Array.toList Tryz.results86) _ _ ?_); simp (disch := omega) only [u, i64, ax, if_true, forall_const, reduceCtorEq, implies_true, tvs, bf]
  · show Ret Tryz.prog GEs 86 [.agg [i64 1, .bool true, i64 e, nat m]] (i64 (-1))
    refine RetN_start Tryz.func86 (by kernel_rfl) rfl fun Q hQ hQ2 => ?_; rw [Tryz.ntmps86]; simp only [u, i64, Nat.reduceSub, Nat.reduceAdd, bm]
    repeat (first | ((first | refine Gs ?_ | refine Gr ?_); simp (disch := omega) only [u, i64, ax, eq_self, if_true, if_false, Nat.reduceAdd, Int.reduceToNat, Int.reduceAdd, tvs, bs]; refine aA ?_) | refine G_seq ?_ | refine G_block ?_ | refine G_condT rfl ?_ | refine G_condF rfl ?_ | refine G_skip ?_ | refine G_ret ?_ | refine G_exit ?_ | refine q_tn ?_ | refine q_tr ?_ | refine q_tx ?_ | refine q_bn ?_ | refine q_br ?_ | refine q_bx ?_ | refine q_by (by decide) ?_)
    (refine FinQ hQ (congrArg Array.toList Tryz.results86) _ _ ?_); simp (disch := omega) only [u, i64, ax, if_true, forall_const, reduceCtorEq, implies_true, tvs, bf]
    all_goals rfl
  · show Ret Tryz.prog GEs 86 [.agg [i64 2, .bool false, i64 e, nat m]] (i64 2)
    refine RetN_start Tryz.func86 (by kernel_rfl) rfl fun Q hQ hQ2 => ?_; rw [Tryz.ntmps86]; simp only [u, i64, Nat.reduceSub, Nat.reduceAdd, bm]
    repeat (first | ((first | refine Gs ?_ | refine Gr ?_); simp (disch := omega) only [u, i64, ax, eq_self, if_true, if_false, Nat.reduceAdd, Int.reduceToNat, Int.reduceAdd, tvs, bs]; refine aA ?_) | refine G_seq ?_ | refine G_block ?_ | refine G_condT rfl ?_ | refine G_condF rfl ?_ | refine G_skip ?_ | refine G_ret ?_ | refine G_exit ?_ | refine q_tn ?_ | refine q_tr ?_ | refine q_tx ?_ | refine q_bn ?_ | refine q_br ?_ | refine q_bx ?_ | refine q_by (by decide) ?_)
    (refine FinQ hQ (congrArg Array.toList Tryz.results86) _ _ ?_); simp (disch := omega) only [u, i64, ax, if_true, forall_const, reduceCtorEq, implies_true, tvs, bf]
  · show Ret Tryz.prog GEs 86 [.agg [i64 2, .bool true, i64 e, nat m]] (i64 (-2))
    refine RetN_start Tryz.func86 (by kernel_rfl) rfl fun Q hQ hQ2 => ?_; rw [Tryz.ntmps86]; simp only [u, i64, Nat.reduceSub, Nat.reduceAdd, bm]
    repeat (first | ((first | refine Gs ?_ | refine Gr ?_); simp (disch := omega) only [u, i64, ax, eq_self, if_true, if_false, Nat.reduceAdd, Int.reduceToNat, Int.reduceAdd, tvs, bs]; refine aA ?_) | refine G_seq ?_ | refine G_block ?_ | refine G_condT rfl ?_ | refine G_condF rfl ?_ | refine G_skip ?_ | refine G_ret ?_ | refine G_exit ?_ | refine q_tn ?_ | refine q_tr ?_ | refine q_tx ?_ | refine q_bn ?_ | refine q_br ?_ | refine q_bx ?_ | refine q_by (by decide) ?_)
    (refine FinQ hQ (congrArg Array.toList Tryz.results86) _ _ ?_); simp (disch := omega) only [u, i64, ax, if_true, forall_const, reduceCtorEq, implies_true, tvs, bf]
    all_goals rfl
theorem ret_Exp15 (k e : Int) (neg : Bool) (m : Nat) (hl : (words m).length ≤ 10000) (h1 : -1000000 ≤ e) (h2 : e ≤ 1000000) : Ret Tryz.prog GEs 176 [.agg [i64 k, .bool neg, i64 e, nat m]] (i64 ((bl m : Int) - 1 + e)) := by
  have hL := ret_rLen (words m) (Wd_words _) (by omega)
  rw [val_words] at hL
  have hb := bl_len m
  by_cases h0 : 1 ≤ bl m
  · rw [show (bl m : Int) - 1 + e = ((bl m - 1 : Nat) : Int) + e by omega]
    refine RetN_start Tryz.func176 (by kernel_rfl) rfl fun Q hQ hQ2 => ?_; rw [Tryz.ntmps176]; simp only [u, i64, Nat.reduceSub, Nat.reduceAdd, bm]
    repeat (first | ((first | refine Gs ?_ | refine Gr ?_); simp (disch := omega) only [u, i64, ax, eq_self, if_true, if_false, Nat.reduceAdd, Int.reduceToNat, Int.reduceAdd, tvs, bs]; first | refine aA ?_ | (refine cR hL ?_; simp (disch := omega) only [u, i64, ax, eq_self, if_true, if_false, Nat.reduceAdd, Int.reduceToNat, Int.reduceAdd, tvs, bs]; try refine aA ?_)) | (refine cR hL ?_; simp (disch := omega) only [u, i64, ax, eq_self, if_true, if_false, Nat.reduceAdd, Int.reduceToNat, Int.reduceAdd, tvs, bs]; try refine aA ?_) | refine G_seq ?_ | refine G_block ?_ | refine G_condT rfl ?_ | refine G_condF rfl ?_ | refine G_skip ?_ | refine G_ret ?_ | refine G_exit ?_ | refine q_tn ?_ | refine q_tr ?_ | refine q_tx ?_ | refine q_bn ?_ | refine q_br ?_ | refine q_bx ?_ | refine q_by (by decide) ?_)
    (refine FinQ hQ (congrArg Array.toList Tryz.results176) _ _ ?_); simp (disch := omega) only [u, i64, ax, if_true, forall_const, reduceCtorEq, implies_true, tvs, bf]
  · refine RetN_start Tryz.func176 (by kernel_rfl) rfl fun Q hQ hQ2 => ?_; rw [Tryz.ntmps176]; simp only [u, i64, Nat.reduceSub, Nat.reduceAdd, bm]
    repeat (first | ((first | refine Gs ?_ | refine Gr ?_); simp (disch := omega) only [u, i64, ax, eq_self, if_true, if_false, Nat.reduceAdd, Int.reduceToNat, Int.reduceAdd, tvs, bs]; first | refine aA ?_ | (refine cR hL ?_; simp (disch := omega) only [u, i64, ax, eq_self, if_true, if_false, Nat.reduceAdd, Int.reduceToNat, Int.reduceAdd, tvs, bs]; try refine aA ?_)) | (refine cR hL ?_; simp (disch := omega) only [u, i64, ax, eq_self, if_true, if_false, Nat.reduceAdd, Int.reduceToNat, Int.reduceAdd, tvs, bs]; try refine aA ?_) | refine G_seq ?_ | refine G_block ?_ | refine G_condT rfl ?_ | refine G_condF rfl ?_ | refine G_skip ?_ | refine G_ret ?_ | refine G_exit ?_ | refine q_tn ?_ | refine q_tr ?_ | refine q_tx ?_ | refine q_bn ?_ | refine q_br ?_ | refine q_bx ?_ | refine q_by (by decide) ?_)
    (refine FinQ hQ (congrArg Array.toList Tryz.results176) _ _ ?_); simp (disch := omega) only [u, i64, ax, if_true, forall_const, reduceCtorEq, implies_true, tvs, bf]
set_option maxRecDepth 100000 in
set_option maxHeartbeats 2000000 in
theorem ret_size15 (k k' e e' : Int) (neg neg' : Bool) (m m' : Nat) (hl : (words m).length ≤ 5000) (hl' : (words m').length ≤ 5000) (h1 : -400000 ≤ e) (h2 : e ≤ 400000) (h3 : -400000 ≤ e') (h4 : e' ≤ 400000) :
    Ret Tryz.prog GEs 88 [.agg [i64 k, .bool neg, i64 e, nat m], .agg [i64 k', .bool neg', i64 e', nat m']] (i64 (szF m e m' e')) := by
  have hE := ret_Exp15 k e neg m (by omega) (by omega) (by omega)
  have hE' := ret_Exp15 k' e' neg' m' (by omega) (by omega) (by omega)
  have hb := bl_len m
  have hb' := bl_len m'
  unfold szF
  have eA : ∀ m k : Nat, bl m ≤ 320000 → k ≤ 900000 → (words (m * 2 ^ k)).length ≤ 20001 := fun m k h1 h2 => by
    by_cases h0 : m = 0
    · subst h0; rw [Nat.zero_mul]; decide
    · exact length_bl (by rw [bl_mul _ _ h0]; omega)
  by_cases c1 : (bl m : Int) - 1 + e = (bl m' : Int) - 1 + e'
  · rw [if_neg (not_not_intro c1)]
    by_cases c2 : e' ≤ e
    · rw [if_pos c2]
      have hL := ret_rLeft (words m) (e - e').toNat (Wd_words _) (by omega) (by omega)
      rw [val_words] at hL
      have hlen := eA m (e - e').toNat (by omega) (by omega)
      have hC := ret_rCmp (words (m * 2 ^ (e - e').toNat)) (words m') (Wd_words _) (Wd_words _) (by omega) (by omega)
      rw [val_words, val_words] at hC
      have hs : e - e' = (((e - e').toNat : Nat) : Int) := by omega
      generalize cmpI (m * 2 ^ (e - e').toNat) m' = c at *
      generalize (bl m : Int) - 1 + e = E1 at *
      generalize (bl m' : Int) - 1 + e' = E2 at *
      generalize m * 2 ^ (e - e').toNat = M at *
      generalize (e - e').toNat = t at *
      refine RetN_start Tryz.func88 (by kernel_rfl) rfl fun Q hQ hQ2 => ?_; rw [Tryz.ntmps88]; simp only [u, i64, Nat.reduceSub, Nat.reduceAdd, bm]
      repeat (first | ((first | refine Gs ?_ | refine Gr ?_); simp (disch := omega) only [u, i64, ax, eq_self, if_true, if_false, Nat.reduceAdd, Int.reduceToNat, Int.reduceAdd, tvs, bs]; first | refine aA ?_ | ((first | refine cR hE ?_ | refine cR hE' ?_); simp (disch := omega) only [u, i64, ax, eq_self, if_true, if_false, Nat.reduceAdd, Int.reduceToNat, Int.reduceAdd, tvs, bs]; try refine aA ?_)) | ((first | refine cR hE ?_ | refine cR hE' ?_); simp (disch := omega) only [u, i64, ax, eq_self, if_true, if_false, Nat.reduceAdd, Int.reduceToNat, Int.reduceAdd, tvs, bs]; try refine aA ?_) | refine G_seq ?_ | refine G_block ?_ | refine G_condT rfl ?_ | refine G_condF rfl ?_ | refine G_skip ?_ | refine G_ret ?_ | refine G_exit ?_ | refine q_tn ?_ | refine q_tr ?_ | refine q_tx ?_ | refine q_bn ?_ | refine q_br ?_ | refine q_bx ?_ | refine q_by (by decide) ?_)
      ((first | refine Gs ?_ | refine Gr ?_); simp (disch := omega) only [u, i64, ax, eq_self, if_true, if_false, Nat.reduceAdd, Int.reduceToNat, Int.reduceAdd, tvs, bs])
      rw [hs]
      repeat (first | ((first | refine Gs ?_ | refine Gr ?_); simp (disch := omega) only [u, i64, ax, eq_self, if_true, if_false, Nat.reduceAdd, Int.reduceToNat, Int.reduceAdd, tvs, bs]; first | refine aA ?_ | ((first | refine cR hL ?_ | refine cR hC ?_); simp (disch := omega) only [u, i64, ax, eq_self, if_true, if_false, Nat.reduceAdd, Int.reduceToNat, Int.reduceAdd, tvs, bs]; try refine aA ?_)) | ((first | refine cR hL ?_ | refine cR hC ?_); simp (disch := omega) only [u, i64, ax, eq_self, if_true, if_false, Nat.reduceAdd, Int.reduceToNat, Int.reduceAdd, tvs, bs]; try refine aA ?_) | refine G_seq ?_ | refine G_block ?_ | refine G_condT rfl ?_ | refine G_condF rfl ?_ | refine G_skip ?_ | refine G_ret ?_ | refine G_exit ?_ | refine q_tn ?_ | refine q_tr ?_ | refine q_tx ?_ | refine q_bn ?_ | refine q_br ?_ | refine q_bx ?_ | refine q_by (by decide) ?_)
      (refine FinQ hQ (congrArg Array.toList Tryz.results88) _ _ ?_); simp (disch := omega) only [u, i64, ax, if_true, forall_const, reduceCtorEq, implies_true, tvs, bf]
    · rw [if_neg c2]
      have hL := ret_rLeft (words m') (e' - e).toNat (Wd_words _) (by omega) (by omega)
      rw [val_words] at hL
      have hlen := eA m' (e' - e).toNat (by omega) (by omega)
      have hC := ret_rCmp (words m) (words (m' * 2 ^ (e' - e).toNat)) (Wd_words _) (Wd_words _) (by omega) (by omega)
      rw [val_words, val_words] at hC
      have hs : e' - e = (((e' - e).toNat : Nat) : Int) := by omega
      generalize cmpI m (m' * 2 ^ (e' - e).toNat) = c at *
      generalize (bl m : Int) - 1 + e = E1 at *
      generalize (bl m' : Int) - 1 + e' = E2 at *
      generalize m' * 2 ^ (e' - e).toNat = M at *
      generalize (e' - e).toNat = t at *
      refine RetN_start Tryz.func88 (by kernel_rfl) rfl fun Q hQ hQ2 => ?_; rw [Tryz.ntmps88]; simp only [u, i64, Nat.reduceSub, Nat.reduceAdd, bm]
      repeat (first | ((first | refine Gs ?_ | refine Gr ?_); simp (disch := omega) only [u, i64, ax, eq_self, if_true, if_false, Nat.reduceAdd, Int.reduceToNat, Int.reduceAdd, tvs, bs]; first | refine aA ?_ | ((first | refine cR hE ?_ | refine cR hE' ?_); simp (disch := omega) only [u, i64, ax, eq_self, if_true, if_false, Nat.reduceAdd, Int.reduceToNat, Int.reduceAdd, tvs, bs]; try refine aA ?_)) | ((first | refine cR hE ?_ | refine cR hE' ?_); simp (disch := omega) only [u, i64, ax, eq_self, if_true, if_false, Nat.reduceAdd, Int.reduceToNat, Int.reduceAdd, tvs, bs]; try refine aA ?_) | refine G_seq ?_ | refine G_block ?_ | refine G_condT rfl ?_ | refine G_condF rfl ?_ | refine G_skip ?_ | refine G_ret ?_ | refine G_exit ?_ | refine q_tn ?_ | refine q_tr ?_ | refine q_tx ?_ | refine q_bn ?_ | refine q_br ?_ | refine q_bx ?_ | refine q_by (by decide) ?_)
      ((first | refine Gs ?_ | refine Gr ?_); simp (disch := omega) only [u, i64, ax, eq_self, if_true, if_false, Nat.reduceAdd, Int.reduceToNat, Int.reduceAdd, tvs, bs])
      rw [hs]
      repeat (first | ((first | refine Gs ?_ | refine Gr ?_); simp (disch := omega) only [u, i64, ax, eq_self, if_true, if_false, Nat.reduceAdd, Int.reduceToNat, Int.reduceAdd, tvs, bs]; first | refine aA ?_ | ((first | refine cR hL ?_ | refine cR hC ?_); simp (disch := omega) only [u, i64, ax, eq_self, if_true, if_false, Nat.reduceAdd, Int.reduceToNat, Int.reduceAdd, tvs, bs]; try refine aA ?_)) | ((first | refine cR hL ?_ | refine cR hC ?_); simp (disch := omega) only [u, i64, ax, eq_self, if_true, if_false, Nat.reduceAdd, Int.reduceToNat, Int.reduceAdd, tvs, bs]; try refine aA ?_) | refine G_seq ?_ | refine G_block ?_ | refine G_condT rfl ?_ | refine G_condF rfl ?_ | refine G_skip ?_ | refine G_ret ?_ | refine G_exit ?_ | refine q_tn ?_ | refine q_tr ?_ | refine q_tx ?_ | refine q_bn ?_ | refine q_br ?_ | refine q_bx ?_ | refine q_by (by decide) ?_)
      (refine FinQ hQ (congrArg Array.toList Tryz.results88) _ _ ?_); simp (disch := omega) only [u, i64, ax, if_true, forall_const, reduceCtorEq, implies_true, tvs, bf]
  · rw [if_pos c1]
    have hS := ret_sign15 ((bl m : Int) - 1 + e - ((bl m' : Int) - 1 + e')) (by omega) (by omega)
    have hbd : -4000000 ≤ (bl m : Int) - 1 + e ∧ (bl m : Int) - 1 + e ≤ 4000000 ∧ -4000000 ≤ (bl m' : Int) - 1 + e' ∧ (bl m' : Int) - 1 + e' ≤ 4000000 := by omega
    generalize sgnI ((bl m : Int) - 1 + e - ((bl m' : Int) - 1 + e')) = c at *
    generalize (bl m : Int) - 1 + e = E1 at *
    generalize (bl m' : Int) - 1 + e' = E2 at *
    refine RetN_start Tryz.func88 (by kernel_rfl) rfl fun Q hQ hQ2 => ?_; rw [Tryz.ntmps88]; simp only [u, i64, Nat.reduceSub, Nat.reduceAdd, bm]
    repeat (first | ((first | refine Gs ?_ | refine Gr ?_); simp (disch := omega) only [u, i64, ax, eq_self, if_true, if_false, Nat.reduceAdd, Int.reduceToNat, Int.reduceAdd, tvs, bs]; first | refine aA ?_ | ((first | refine cR hE ?_ | refine cR hE' ?_ | refine cR hS ?_); simp (disch := omega) only [u, i64, ax, eq_self, if_true, if_false, Nat.reduceAdd, Int.reduceToNat, Int.reduceAdd, tvs, bs]; try refine aA ?_)) | ((first | refine cR hE ?_ | refine cR hE' ?_ | refine cR hS ?_); simp (disch := omega) only [u, i64, ax, eq_self, if_true, if_false, Nat.reduceAdd, Int.reduceToNat, Int.reduceAdd, tvs, bs]; try refine aA ?_) | refine G_seq ?_ | refine G_block ?_ | refine G_condT rfl ?_ | refine G_condF rfl ?_ | refine G_skip ?_ | refine G_ret ?_ | refine G_exit ?_ | refine q_tn ?_ | refine q_tr ?_ | refine q_tx ?_ | refine q_bn ?_ | refine q_br ?_ | refine q_bx ?_ | refine q_by (by decide) ?_)
    (refine FinQ hQ (congrArg Array.toList Tryz.results88) _ _ ?_); simp (disch := omega) only [u, i64, ax, if_true, forall_const, reduceCtorEq, implies_true, tvs, bf]
set_option maxRecDepth 100000 in
set_option maxHeartbeats 2000000 in
theorem ret_Cmp15 (x y : FV) (hx : x.kind ≤ 2) (hy : y.kind ≤ 2) (hl : (words x.mag).length ≤ 5000) (hl' : (words y.mag).length ≤ 5000) (h1 : -400000 ≤ x.exp) (h2 : x.exp ≤ 400000) (h3 : -400000 ≤ y.exp) (h4 : y.exp ≤ 400000) :
    Ret Tryz.prog GEs 27 [flv x, flv y] (i64 (cpF x y)) := by
  have hr := ret_rank15 x hx
  have hr' := ret_rank15 y hy
  have hz := ret_size15 x.kind y.kind x.exp y.exp x.neg y.neg x.mag y.mag hl hl' h1 h2 h3 h4
  have hb1 : -2 ≤ rkF x ∧ rkF x ≤ 2 := by unfold rkF; split <;> split <;> (try split) <;> omega
  have hb2 : -2 ≤ rkF y ∧ rkF y ≤ 2 := by unfold rkF; split <;> split <;> (try split) <;> omega
  have hS := ret_sign15 (rkF x - rkF y) (by omega) (by omega)
  have hzb : -1 ≤ szF x.mag x.exp y.mag y.exp ∧ szF x.mag x.exp y.mag y.exp ≤ 1 := by
    unfold szF sgnI cmpI
    split
    · split <;> (try split) <;> omega
    · split <;> split <;> (try split) <;> omega
  unfold cpF
  generalize szF x.mag x.exp y.mag y.exp = c at *
  generalize rkF x = a at *
  generalize rkF y = b at *
  unfold flv at *
  generalize sgnI (a - b) = s at *
  by_cases c1 : a ≠ b ∨ (a ≠ 1 ∧ a ≠ -1)
  · rw [if_pos c1]
    by_cases c2 : a = b
    · refine RetN_start Tryz.func27 (by kernel_rfl) rfl fun Q hQ hQ2 => ?_; rw [Tryz.ntmps27]; simp only [u, i64, Nat.reduceSub, Nat.reduceAdd, bm]
      repeat (first | ((first | refine Gs ?_ | refine Gr ?_); simp (disch := omega) only [u, i64, ax, eq_self, if_true, if_false, Nat.reduceAdd, Int.reduceToNat, Int.reduceAdd, tvs, bs]; first | refine aA ?_ | ((first | refine cR hr ?_ | refine cR hr' ?_ | refine cR hS ?_); simp (disch := omega) only [u, i64, ax, eq_self, if_true, if_false, Nat.reduceAdd, Int.reduceToNat, Int.reduceAdd, tvs, bs]; try refine aA ?_)) | ((first | refine cR hr ?_ | refine cR hr' ?_ | refine cR hS ?_); simp (disch := omega) only [u, i64, ax, eq_self, if_true, if_false, Nat.reduceAdd, Int.reduceToNat, Int.reduceAdd, tvs, bs]; try refine aA ?_) | refine G_seq ?_ | refine G_block ?_ | refine G_condT rfl ?_ | refine G_condF rfl ?_ | refine G_skip ?_ | refine G_ret ?_ | refine G_exit ?_ | refine q_tn ?_ | refine q_tr ?_ | refine q_tx ?_ | refine q_bn ?_ | refine q_br ?_ | refine q_bx ?_ | refine q_by (by decide) ?_)
      (refine FinQ hQ (congrArg Array.toList Tryz.results27) _ _ ?_); simp (disch := omega) only [u, i64, ax, if_true, forall_const, reduceCtorEq, implies_true, tvs, bf]
    · refine RetN_start Tryz.func27 (by kernel_rfl) rfl fun Q hQ hQ2 => ?_; rw [Tryz.ntmps27]; simp only [u, i64, Nat.reduceSub, Nat.reduceAdd, bm]
      repeat (first | ((first | refine Gs ?_ | refine Gr ?_); simp (disch := omega) only [u, i64, ax, eq_self, if_true, if_false, Nat.reduceAdd, Int.reduceToNat, Int.reduceAdd, tvs, bs]; first | refine aA ?_ | ((first | refine cR hr ?_ | refine cR hr' ?_ | refine cR hS ?_); simp (disch := omega) only [u, i64, ax, eq_self, if_true, if_false, Nat.reduceAdd, Int.reduceToNat, Int.reduceAdd, tvs, bs]; try refine aA ?_)) | ((first | refine cR hr ?_ | refine cR hr' ?_ | refine cR hS ?_); simp (disch := omega) only [u, i64, ax, eq_self, if_true, if_false, Nat.reduceAdd, Int.reduceToNat, Int.reduceAdd, tvs, bs]; try refine aA ?_) | refine G_seq ?_ | refine G_block ?_ | refine G_condT rfl ?_ | refine G_condF rfl ?_ | refine G_skip ?_ | refine G_ret ?_ | refine G_exit ?_ | refine q_tn ?_ | refine q_tr ?_ | refine q_tx ?_ | refine q_bn ?_ | refine q_br ?_ | refine q_bx ?_ | refine q_by (by decide) ?_)
      (refine FinQ hQ (congrArg Array.toList Tryz.results27) _ _ ?_); simp (disch := omega) only [u, i64, ax, if_true, forall_const, reduceCtorEq, implies_true, tvs, bf]
  · rw [if_neg c1]
    by_cases c3 : a < 0
    · rw [if_pos c3, show -c = 0 - c by omega]
      have ha : a = -1 := by omega
      have hb : b = -1 := by omega
      subst ha
      subst hb
      refine RetN_start Tryz.func27 (by kernel_rfl) rfl fun Q hQ hQ2 => ?_; rw [Tryz.ntmps27]; simp only [u, i64, Nat.reduceSub, Nat.reduceAdd, bm]
      repeat (first | ((first | refine Gs ?_ | refine Gr ?_); simp (disch := omega) only [u, i64, ax, eq_self, if_true, if_false, Nat.reduceAdd, Int.reduceToNat, Int.reduceAdd, tvs, bs]; first | refine aA ?_ | ((first | refine cR hr ?_ | refine cR hr' ?_ | refine cR hz ?_); simp (disch := omega) only [u, i64, ax, eq_self, if_true, if_false, Nat.reduceAdd, Int.reduceToNat, Int.reduceAdd, tvs, bs]; try refine aA ?_)) | ((first | refine cR hr ?_ | refine cR hr' ?_ | refine cR hz ?_); simp (disch := omega) only [u, i64, ax, eq_self, if_true, if_false, Nat.reduceAdd, Int.reduceToNat, Int.reduceAdd, tvs, bs]; try refine aA ?_) | refine G_seq ?_ | refine G_block ?_ | refine G_condT rfl ?_ | refine G_condF rfl ?_ | refine G_skip ?_ | refine G_ret ?_ | refine G_exit ?_ | refine q_tn ?_ | refine q_tr ?_ | refine q_tx ?_ | refine q_bn ?_ | refine q_br ?_ | refine q_bx ?_ | refine q_by (by decide) ?_)
      (refine FinQ hQ (congrArg Array.toList Tryz.results27) _ _ ?_); simp (disch := omega) only [u, i64, ax, if_true, forall_const, reduceCtorEq, implies_true, tvs, bf]
    · rw [if_neg c3]
      have ha : a = 1 := by omega
      have hb : b = 1 := by omega
      subst ha
      subst hb
      refine RetN_start Tryz.func27 (by kernel_rfl) rfl fun Q hQ hQ2 => ?_; rw [Tryz.ntmps27]; simp only [u, i64, Nat.reduceSub, Nat.reduceAdd, bm]
      repeat (first | ((first | refine Gs ?_ | refine Gr ?_); simp (disch := omega) only [u, i64, ax, eq_self, if_true, if_false, Nat.reduceAdd, Int.reduceToNat, Int.reduceAdd, tvs, bs]; first | refine aA ?_ | ((first | refine cR hr ?_ | refine cR hr' ?_ | refine cR hz ?_); simp (disch := omega) only [u, i64, ax, eq_self, if_true, if_false, Nat.reduceAdd, Int.reduceToNat, Int.reduceAdd, tvs, bs]; try refine aA ?_)) | ((first | refine cR hr ?_ | refine cR hr' ?_ | refine cR hz ?_); simp (disch := omega) only [u, i64, ax, eq_self, if_true, if_false, Nat.reduceAdd, Int.reduceToNat, Int.reduceAdd, tvs, bs]; try refine aA ?_) | refine G_seq ?_ | refine G_block ?_ | refine G_condT rfl ?_ | refine G_condF rfl ?_ | refine G_skip ?_ | refine G_ret ?_ | refine G_exit ?_ | refine q_tn ?_ | refine q_tr ?_ | refine q_tx ?_ | refine q_bn ?_ | refine q_br ?_ | refine q_bx ?_ | refine q_by (by decide) ?_)
      (refine FinQ hQ (congrArg Array.toList Tryz.results27) _ _ ?_); simp (disch := omega) only [u, i64, ax, if_true, forall_const, reduceCtorEq, implies_true, tvs, bf]
end Go.Proofs
set_option linter.unusedVariables false
namespace Go.Proofs
open Go.Ax
/-- What a number is rounded to. -/
def rvF (p : Nat) (G : Int) (r : Nat) (neg : Bool) (n d : Nat) : FV := if n = 0 then ⟨0, false, 0, 0⟩ else (rndF p G r neg n d).1
end Go.Proofs
set_option linter.unusedVariables false
set_option linter.unusedSimpArgs false
namespace Go.Proofs
open Go.Ax
end Go.Proofs
set_option linter.unusedVariables false
set_option linter.unusedSimpArgs false
namespace Go.Proofs
open Go.Ax
theorem ret_GoodW (x : FV) (h : wfF x) (hk : x.kind ≤ 2) : Ret Tryz.prog GEs 25 [flv x] (.bool true) := by
  obtain ⟨kd, neg, e, m⟩ := x
  rcases h with ⟨h1, h2, h3, h4, h5⟩ | ⟨h1, h2, h3⟩
  · simp only at h1 h2 h3 h4 h5
    subst h1
    exact ret_Good15 neg e (words m) (Wd_words _) (by omega) (by rw [val_words]; exact h2) h3 h4
  · simp only at h1 h2 h3 hk
    subst h2
    subst h3
    have hZ := ret_rIsZero (words 0) (Wd_words _) (by decide)
    rw [val_words, decT rfl] at hZ
    have h5 : kd = 0 ∨ kd = 2 := by omega
    rcases h5 with rfl | rfl
    · show Ret Tryz.prog GEs 25 [.agg [i64 0, .bool neg, i64 0, nat 0]] (.bool true)
      refine RetN_start Tryz.func25 (by kernel_rfl) rfl fun Q hQ hQ2 => ?_; rw [Tryz.ntmps25]; simp only [u, i64, Nat.reduceSub, Nat.reduceAdd, bm]
      repeat (first | ((first | refine Gs ?_ | refine Gr ?_); simp (disch := omega) only [u, i64, ax, eq_self, if_true, if_false, Nat.reduceAdd, Int.reduceToNat, Int.reduceAdd, tvs, bs]; first | refine aA ?_ | (refine cR hZ ?_; simp (disch := omega) only [u, i64, ax, eq_self, if_true, if_false, Nat.reduceAdd, Int.reduceToNat, Int.reduceAdd, tvs, bs]; try refine aA ?_)) | (refine cR hZ ?_; simp (disch := omega) only [u, i64, ax, eq_self, if_true, if_false, Nat.reduceAdd, Int.reduceToNat, Int.reduceAdd, tvs, bs]; try refine aA ?_) | refine G_seq ?_ | refine G_block ?_ | refine G_condT rfl ?_ | refine G_condF rfl ?_ | refine G_skip ?_ | refine G_ret ?_ | refine G_exit ?_ | refine q_tn ?_ | refine q_tr ?_ | refine q_tx ?_ | refine q_bn ?_ | refine q_br ?_ | refine q_bx ?_ | refine q_by (by decide) ?_)
      (refine FinQ hQ (congrArg Array.toList Tryz.results25) _ _ ?_); simp (disch := omega) only [u, i64, ax, if_true, forall_const, reduceCtorEq, implies_true, tvs, bf]
    · show Ret Tryz.prog GEs 25 [.agg [i64 2, .bool neg, i64 0, nat 0]] (.bool true)
      refine RetN_start Tryz.func25 (by kernel_rfl) rfl fun Q hQ hQ2 => ?_; rw [Tryz.ntmps25]; simp only [u, i64, Nat.reduceSub, Nat.reduceAdd, bm]
      repeat (first | ((first | refine Gs ?_ | refine Gr ?_); simp (disch := omega) only [u, i64, ax, eq_self, if_true, if_false, Nat.reduceAdd, Int.reduceToNat, Int.reduceAdd, tvs, bs]; first | refine aA ?_ | (refine cR hZ ?_; simp (disch := omega) only [u, i64, ax, eq_self, if_true, if_false, Nat.reduceAdd, Int.reduceToNat, Int.reduceAdd, tvs, bs]; try refine aA ?_)) | (refine cR hZ ?_; simp (disch := omega) only [u, i64, ax, eq_self, if_true, if_false, Nat.reduceAdd, Int.reduceToNat, Int.reduceAdd, tvs, bs]; try refine aA ?_) | refine G_seq ?_ | refine G_block ?_ | refine G_condT rfl ?_ | refine G_condF rfl ?_ | refine G_skip ?_ | refine G_ret ?_ | refine G_exit ?_ | refine q_tn ?_ | refine q_tr ?_ | refine q_tx ?_ | refine q_bn ?_ | refine q_br ?_ | refine q_bx ?_ | refine q_by (by decide) ?_)
      (refine FinQ hQ (congrArg Array.toList Tryz.results25) _ _ ?_); simp (disch := omega) only [u, i64, ax, if_true, forall_const, reduceCtorEq, implies_true, tvs, bf]
end Go.Proofs
set_option linter.unusedVariables false
set_option linter.unusedSimpArgs false
namespace Go.Proofs
open Go.Ax
theorem ret_RoundA (r k p : Nat) (hr : r ≤ 4) (hf : okFm k p) (neg : Bool) (ns dn : List Nat) (hn : Wd ns) (hd : Wd dn) (hln : ns.length ≤ 40) (hld : dn.length ≤ 40) (hd0 : val dn ≠ 0) :
    ∃ fl : Nat, Ret Tryz.prog GEs 18 [.agg [i64 k, i64 p], i64 r, .agg [.bool neg, ws ns, ws dn]] (.tup [flv (rvF p (gF k) r neg (val ns) (val dn)), i64 fl, i64 0]) ∧ wfF (rvF p (gF k) r neg (val ns) (val dn)) ∧ (rvF p (gF k) r neg (val ns) (val dn)).kind ≤ 2 ∧ canF (rvF p (gF k) r neg (val ns) (val dn)) = rvF p (gF k) r neg (val ns) (val dn) := by
  have hnl := length_words_val_le hn
  have hdl := length_words_val_le hd
  by_cases hz : val ns = 0
  · unfold rvF
    rw [if_pos hz]
    refine ⟨0, ret_Round_zero r k p (by omega) (by omega) neg ns dn hn hd (by omega) (by omega) ?_ hz, .inr ⟨.inl rfl, rfl, rfl⟩, by show 0 ≤ 2; decide, rfl⟩
    unfold errR
    rw [errQ_ok (by omega) (by omega) hd0 (by omega), if_neg (by decide), if_pos hf]
  · unfold rvF
    rw [if_neg hz]
    obtain ⟨w1, w2, w3⟩ := rndF_wf k p hf r neg (val ns) (val dn) hz hd0 (by omega) (by omega)
    exact ⟨_, ret_Round_ok r k p hr hf neg ns dn hn hd (by omega) (by omega) hz hd0, w1, w3, w2⟩
theorem wf_bounds {x : FV} (h : wfF x) : (words x.mag).length ≤ 5000 ∧ -400000 ≤ x.exp ∧ x.exp ≤ 400000 := by
  rcases h with ⟨h1, h2, h3, h4, h5⟩ | ⟨h1, h2, h3⟩
  · exact ⟨h5, by omega, by omega⟩
  · rw [h2, h3]; exact ⟨by decide, by decide, by decide⟩
theorem sgnI_bounds (z : Int) : -1 ≤ sgnI z ∧ sgnI z ≤ 1 := by unfold sgnI; split <;> (try split) <;> omega
end Go.Proofs
set_option linter.unusedVariables false
namespace Go.Proofs
open Go.Ax
def vn (x : FV) : Nat := x.mag * 2 ^ x.exp.toNat
def vd (x : FV) : Nat := 2 ^ (-x.exp).toNat
theorem vd_pos (x : FV) : 0 < vd x := Nat.two_pow_pos _
theorem vn_scale (x : FV) (K : Nat) (h : 0 ≤ x.exp + K) : vn x * 2 ^ K = x.mag * 2 ^ (x.exp + K).toNat * vd x := by
  unfold vn vd
  rw [Nat.mul_assoc, Nat.mul_assoc, ← Nat.pow_add, ← Nat.pow_add]
  congr 2
  omega
theorem vn_mk (neg : Bool) (N : Nat) (s : Int) (K : Nat) (h : 0 ≤ s + K) : vn (mkF neg N s) * 2 ^ K = N * 2 ^ (s + K).toNat * vd (mkF neg N s) := by
  by_cases h0 : N = 0
  · subst h0
    unfold mkF vn
    rw [if_pos rfl]
    simp
  · obtain ⟨m, hm⟩ := tz_spec h0
    have e : mkF neg N s = ⟨1, neg, s + tz N, 2 * m + 1⟩ := by
      conv => lhs; rw [hm, Nat.mul_comm]
      exact mkF_odd neg m _ s
    rw [e, vn_scale _ K (by show 0 ≤ s + tz N + K; omega)]
    congr 1
    show (2 * m + 1) * 2 ^ (s + tz N + K).toNat = N * 2 ^ (s + K).toNat
    generalize tz N = t at *
    rw [hm, Nat.mul_comm (2 ^ t), Nat.mul_assoc, ← Nat.pow_add]
    congr 2
    omega
theorem ds_mul (a b k : Nat) : ds (a * k) (b * k) = ds a b * k := by
  unfold ds
  rw [← Nat.sub_mul, ← Nat.sub_mul, ← Nat.add_mul]
theorem abs_sub (a b : Bool) (x d y e : Nat) : ((if a = true then -(x : Int) else x) * d - (if b = true then -(y : Int) else y) * e).natAbs = if a = b then ds (x * d) (y * e) else x * d + y * e := by
  have h1 : ((if a = true then -(x : Int) else x) * d) = if a = true then -((x * d : Nat) : Int) else ((x * d : Nat) : Int) := by
    rw [Int.natCast_mul]; cases a <;> simp [Int.neg_mul]
  have h2 : ((if b = true then -(y : Int) else y) * e) = if b = true then -((y * e : Nat) : Int) else ((y * e : Nat) : Int) := by
    rw [Int.natCast_mul]; cases b <;> simp [Int.neg_mul]
  rw [h1, h2]
  generalize x * d = u
  generalize y * e = v
  unfold ds
  cases a <;> cases b <;> simp <;> omega
theorem rndF_eq (p : Nat) (G : Int) (r : Nat) (neg : Bool) (n d : Nat) : rndF p G r neg n d = if G < bl (rN p G r neg n d) + rS p G n d - 1 then (overF p G r neg, 5) else (mkF neg (rN p G r neg n d) (rS p G n d), if nu n (rS p G n d) % de d (rS p G n d) = 0 then 0 else if lg n d < 1 - G then 3 else 1) := rfl
/-- No float is nearer. -/
theorem nearest (p : Nat) (G : Int) (r : Nat) (hr : r ≤ 1) (neg : Bool) (n d : Nat) (hp : 2 ≤ p) (hG : 1 ≤ G) (hn : n ≠ 0) (hd : d ≠ 0) (y : FV) (hy : y.mag = 0 ∧ y.exp = 0 ∨ inF p G y.mag y.exp) (hk : (rndF p G r neg n d).1.kind ≠ 2) :
    ((if neg = true then -(vn (rndF p G r neg n d).1 : Int) else vn (rndF p G r neg n d).1) * d - (if neg = true then -(n : Int) else n) * vd (rndF p G r neg n d).1).natAbs * vd y ≤
    ((if y.neg = true then -(vn y : Int) else vn y) * d - (if neg = true then -(n : Int) else n) * vd y).natAbs * vd (rndF p G r neg n d).1 := by
  rw [rndF_eq] at hk ⊢
  by_cases ho : G < bl (rN p G r neg n d) + rS p G n d - 1
  · exfalso
    rw [if_pos ho] at hk
    apply hk
    unfold overF grtF
    rw [if_neg (by rw [decF (show ¬ r = 2 by omega), decF (show ¬ r = 3 by omega), decF (show ¬ r = 4 by omega)]; cases neg <;> decide)]
    rfl
  rw [if_neg ho] at hk ⊢
  simp only
  rw [abs_sub, abs_sub, if_pos rfl]
  obtain ⟨K, k1, k2⟩ : ∃ K : Nat, 0 ≤ y.exp + K ∧ 0 ≤ rS p G n d + K := ⟨(-y.exp).toNat + (-rS p G n d).toNat, by omega⟩
  have dx : ds (vn (mkF neg (rN p G r neg n d) (rS p G n d)) * d) (n * vd (mkF neg (rN p G r neg n d) (rS p G n d))) * 2 ^ K = ds (rN p G r neg n d * (d * 2 ^ (rS p G n d + K).toNat)) (n * 2 ^ K) * vd (mkF neg (rN p G r neg n d) (rS p G n d)) := by
    rw [← ds_mul, ← ds_mul, Nat.mul_right_comm, vn_mk neg _ _ K k2]
    congr 1
    · rw [Nat.mul_comm d, ← Nat.mul_assoc]
      exact Nat.mul_right_comm _ _ _
    · exact Nat.mul_right_comm _ _ _
  have dy : ds (vn y * d) (n * vd y) * 2 ^ K = ds (y.mag * 2 ^ (y.exp + K).toNat * d) (n * 2 ^ K) * vd y := by
    rw [← ds_mul, ← ds_mul, Nat.mul_right_comm, vn_scale y K k1]
    congr 1
    · exact Nat.mul_right_comm _ _ _
    · exact Nat.mul_right_comm _ _ _
  have hle : ds (rN p G r neg n d * (d * 2 ^ (rS p G n d + K).toNat)) (n * 2 ^ K) ≤ n * 2 ^ K := by
    have hin : inF p G 0 (1 - G - (p - 1)) := ⟨by show bl 0 ≤ p; rw [show bl 0 = 0 by decide]; omega, by omega, by rw [show bl 0 = 0 by decide]; omega⟩
    obtain ⟨K', h1, h2⟩ : ∃ K' : Nat, 0 ≤ 1 - G - (p - 1) + (K' : Int) ∧ K ≤ K' := ⟨(-(1 - G - (p - 1)) : Int).toNat + K, by omega, by omega⟩
    have h := (near_same p G r hr neg hp hn hd hin K' h1 (by omega)).2
    have e1 : d * 2 ^ (rS p G n d + K').toNat = d * 2 ^ (rS p G n d + K).toNat * 2 ^ (K' - K) := by rw [Nat.mul_assoc, ← Nat.pow_add]; congr 2; omega
    have e2 : n * 2 ^ K' = n * 2 ^ K * 2 ^ (K' - K) := by rw [Nat.mul_assoc, ← Nat.pow_add]; congr 2; omega
    rw [e1, e2, ← Nat.mul_assoc, ds_mul] at h
    exact Nat.le_of_mul_le_mul_right h (Nat.two_pow_pos _)
  refine Nat.le_of_mul_le_mul_right ?_ (Nat.two_pow_pos K)
  rw [Nat.mul_right_comm, dx, Nat.mul_right_comm]
  generalize hA : ds (rN p G r neg n d * (d * 2 ^ (rS p G n d + K).toNat)) (n * 2 ^ K) = A at *
  have key : A * vd y ≤ (if y.neg = neg then ds (vn y * d) (n * vd y) else vn y * d + n * vd y) * 2 ^ K → A * vd (mkF neg (rN p G r neg n d) (rS p G n d)) * vd y ≤ (if y.neg = neg then ds (vn y * d) (n * vd y) else vn y * d + n * vd y) * vd (mkF neg (rN p G r neg n d) (rS p G n d)) * 2 ^ K := fun h => by
    rw [Nat.mul_right_comm A, Nat.mul_right_comm _ (vd _) (2 ^ K)]
    exact Nat.mul_le_mul_right _ h
  rw [Nat.mul_right_comm A]
  refine key ?_
  by_cases hs : y.neg = neg
  · rw [if_pos hs, dy]
    refine Nat.mul_le_mul_right _ ?_
    rcases hy with ⟨h0, _⟩ | hy
    · rw [h0, Nat.zero_mul, Nat.zero_mul]
      unfold ds
      omega
    · rw [← hA]; exact (near_same p G r hr neg hp hn hd hy K k1 k2).1
  · rw [if_neg hs, Nat.add_mul]
    refine Nat.le_trans (Nat.le_trans (Nat.mul_le_mul_right _ hle) (Nat.le_of_eq ?_)) (Nat.le_add_left _ _)
    exact Nat.mul_right_comm _ _ _
/-- The greatest float. -/
theorem inF_top {p : Nat} {G : Int} {M : Nat} {E : Int} (h : inF p G M E) : le2 M E (2 ^ p - 1) (G - p + 1) := by
  obtain ⟨h1, h2, h3⟩ := h
  have hpp := Nat.two_pow_pos p
  by_cases hE : E ≤ G - p + 1
  · have h4 : M ≤ 2 ^ p - 1 := by
      have := bl_lt M
      have := Nat.pow_le_pow_right (show 0 < 2 by decide) h1
      omega
    refine le2_trans (le2_mul h4 E) ?_
    unfold le2
    rw [show (E - (G - p + 1)).toNat = 0 by omega, Nat.pow_zero, Nat.mul_one]
    exact Nat.le_mul_of_pos_right _ (Nat.two_pow_pos _)
  · unfold le2
    rw [show (G - p + 1 - E).toNat = 0 by omega, Nat.pow_zero, Nat.mul_one]
    by_cases h0 : M = 0
    · rw [h0, Nat.zero_mul]; exact Nat.zero_le _
    · have e := bl_mul M (E - (G - p + 1)).toNat h0
      have h5 := bl_lt (M * 2 ^ (E - (G - p + 1)).toNat)
      have := Nat.pow_le_pow_right (show 0 < 2 by decide) (show bl (M * 2 ^ (E - (G - p + 1)).toNat) ≤ p by omega)
      omega
theorem quoN_floor (r : Nat) (neg : Bool) (n d : Nat) (h : ∀ o x, moreF r neg o x = false) : quoN r neg n d = n / d := by
  unfold quoN
  rw [h, if_neg (by decide), Nat.add_zero]
theorem quoN_ceil (r : Nat) (neg : Bool) (n d : Nat) (hd : 0 < d) (h : ∀ o x, moreF r neg o x = decide (0 < x)) : n ≤ quoN r neg n d * d := by
  have h1 := Nat.div_add_mod n d
  have h2 := Nat.mod_lt n hd
  rw [Nat.mul_comm] at h1
  unfold quoN
  rw [h]
  by_cases h0 : n % d = 0
  · rw [Nat.add_mul]; omega
  · have h3 : 0 < restC (n % d) d := by unfold restC; rw [if_neg h0]; split <;> (try split) <;> decide
    rw [if_pos (decT h3), Nat.add_mul, Nat.one_mul]
    omega
/-- The value of a made float against a fraction. -/
theorem vn_le (neg : Bool) (N : Nat) (s : Int) (n d : Nat) : (N * de d s ≤ nu n s → vn (mkF neg N s) * d ≤ n * vd (mkF neg N s)) ∧ (nu n s ≤ N * de d s → n * vd (mkF neg N s) ≤ vn (mkF neg N s) * d) := by
  obtain ⟨K, hK⟩ : ∃ K : Nat, 0 ≤ s + K := ⟨(-s).toNat, by omega⟩
  have hv := vn_mk neg N s K hK
  obtain ⟨e1, e2⟩ := nu_scale n d s K hK
  have ea : vn (mkF neg N s) * d * 2 ^ K = N * (d * 2 ^ (s + K).toNat) * vd (mkF neg N s) := by
    rw [Nat.mul_right_comm, hv, Nat.mul_comm d, ← Nat.mul_assoc]
    exact Nat.mul_right_comm _ _ _
  have eb : n * vd (mkF neg N s) * 2 ^ K = n * 2 ^ K * vd (mkF neg N s) := Nat.mul_right_comm _ _ _
  constructor
  · intro h
    refine Nat.le_of_mul_le_mul_right ?_ (Nat.two_pow_pos K)
    rw [ea, eb, ← e1, ← e2, ← Nat.mul_assoc]
    exact Nat.mul_le_mul_right _ (Nat.mul_le_mul_right _ h)
  · intro h
    refine Nat.le_of_mul_le_mul_right ?_ (Nat.two_pow_pos K)
    rw [ea, eb, ← e1, ← e2, ← Nat.mul_assoc]
    exact Nat.mul_le_mul_right _ (Nat.mul_le_mul_right _ h)
theorem leM_val {x y : FV} {n d : Nat} (hx : x.kind = 1) (hy : y.kind = 1) (h : le2 x.mag x.exp y.mag y.exp) (hv : vn y * d ≤ n * vd y) : vn x * d ≤ n * vd x := by
  obtain ⟨K, k1, k2⟩ : ∃ K : Nat, 0 ≤ x.exp + K ∧ 0 ≤ y.exp + K := ⟨(-x.exp).toNat + (-y.exp).toNat, by omega⟩
  rw [le2_iff K k1 k2] at h
  have e1 := vn_scale x K k1
  have e2 := vn_scale y K k2
  generalize x.mag * 2 ^ (x.exp + K).toNat = A at *
  generalize y.mag * 2 ^ (y.exp + K).toNat = B at *
  have h1 : B * d ≤ n * 2 ^ K := by
    refine Nat.le_of_mul_le_mul_right ?_ (vd_pos y)
    rw [Nat.mul_right_comm, ← e2, Nat.mul_right_comm, Nat.mul_right_comm n]
    exact Nat.mul_le_mul_right _ hv
  refine Nat.le_of_mul_le_mul_right ?_ (Nat.two_pow_pos K)
  rw [Nat.mul_right_comm, e1, Nat.mul_right_comm, Nat.mul_right_comm n]
  exact Nat.mul_le_mul_right _ (Nat.le_trans (Nat.mul_le_mul_right _ h) h1)
/-- A number lies between its two neighbours, and no other float does. -/
theorem enclosed (p : Nat) (G : Int) (rl rh : Nat) (neg : Bool) {n d : Nat} (hp : 2 ≤ p) (hG : 1 ≤ G) (hn : n ≠ 0) (hd : d ≠ 0) (hl : grtF rl neg = true) (hll : ∀ o x, moreF rl neg o x = false) (hh : grtF rh neg = false) (hhh : ∀ o x, moreF rh neg o x = decide (0 < x)) :
    (rndF p G rl neg n d).1.kind ≤ 1 ∧ vn (rndF p G rl neg n d).1 * d ≤ n * vd (rndF p G rl neg n d).1 ∧
    ((rndF p G rh neg n d).1.kind = 2 ∨ (rndF p G rh neg n d).1.kind ≤ 1 ∧ n * vd (rndF p G rh neg n d).1 ≤ vn (rndF p G rh neg n d).1 * d) ∧
    ∀ z : FV, z.kind = 1 → z.mag ≠ 0 → inF p G z.mag z.exp → leM z (rndF p G rl neg n d).1 ∨ leM (rndF p G rh neg n d).1 z := by
  have hd' := Nat.pos_of_ne_zero hd
  have hlo : rN p G rl neg n d = nu n (rS p G n d) / de d (rS p G n d) := quoN_floor rl neg _ _ hll
  have hhi : nu n (rS p G n d) ≤ rN p G rh neg n d * de d (rS p G n d) := quoN_ceil rh neg _ _ (de_pos _ hd') hhh
  have hlo2 : rN p G rl neg n d * de d (rS p G n d) ≤ nu n (rS p G n d) := by rw [hlo]; exact Nat.div_mul_le_self _ _
  have hover : overF p G rl neg = topF p G neg := by unfold overF; rw [if_pos hl]
  have hoverh : overF p G rh neg = infF neg := by unfold overF; rw [if_neg (by rw [hh]; decide)]
  have hz0 := rnd_over0 p G rl neg hp hG hn hd
  have hz0h := rnd_over0 p G rh neg hp hG hn hd
  have htop := rnd_leTop p G rl neg hp hG hn hd
  have hbt := fun (M : Nat) (E : Int) => between p G rl rh neg (M := M) (E := E) hp hG hn hd
  rw [rndF_eq, rndF_eq]
  have hval := vn_le neg (rN p G rl neg n d) (rS p G n d) n d
  have hvalh := vn_le neg (rN p G rh neg n d) (rS p G n d) n d
  have hpp : 2 ^ 1 ≤ 2 ^ p := Nat.pow_le_pow_right (by decide) (by omega)
  -- what is too great
  have hbig : ∀ N : Nat, G < (bl N : Int) + rS p G n d - 1 → N ≠ 0 → ∀ M E, le2 N (rS p G n d) M E → ¬ le2 M E (2 ^ p - 1) (G - p + 1) := fun N h h0 M E h1 h2 => by
    have h3 := (le2_bl h0 (le2_trans h1 h2)).1
    have : bl (2 ^ p - 1) ≤ p := bl_le (by omega)
    omega
  have hmk := fun (N : Nat) (h0 : N ≠ 0) => mkF_val neg N (rS p G n d) h0
  generalize rN p G rl neg n d = N at *
  generalize rN p G rh neg n d = N' at *
  have kmk : ∀ N : Nat, (mkF neg N (rS p G n d)).kind ≤ 1 := fun N => by
    unfold mkF; split
    · exact Nat.zero_le _
    · exact Nat.le_refl _
  refine ⟨?_, ?_, ?_, ?_⟩
  · split
    · rw [hover]; exact Nat.le_refl _
    · exact kmk N
  · split
    · rename_i ho
      rw [hover]
      have h0 : N ≠ 0 := fun h0 => by subst h0; exact hz0 rfl ho
      obtain ⟨m1, m2, m3, m4, m5⟩ := hmk N h0
      have hle : le2 (topF p G neg).mag (topF p G neg).exp (mkF neg N (rS p G n d)).mag (mkF neg N (rS p G n d)).exp := by
        refine le2_trans ?_ m4
        refine (szF_le (show 2 ^ p - 1 ≠ 0 by omega) h0).1 ?_
        unfold szF topF
        have : bl (2 ^ p - 1) ≤ p := bl_le (by omega)
        simp only
        rw [if_pos (by omega), sgnI_le]
        omega
      exact leM_val rfl m1 hle (hval.1 hlo2)
    · exact hval.1 hlo2
  · split
    · left; rw [hoverh]; rfl
    · exact .inr ⟨kmk N', hvalh.2 hhi⟩
  · intro z z1 z2 z3
    have zt := inF_top z3
    by_cases ho : G < (bl N : Int) + rS p G n d - 1
    · rw [if_pos ho, hover]
      exact .inl (.inr (.inr ⟨z1, rfl, zt⟩))
    · rw [if_neg ho]
      rcases hbt z.mag z.exp z3 z2 hlo with h | ⟨h1, h2⟩
      · left
        have h0 := (le2_bl z2 h).2
        obtain ⟨m1, m2, m3, m4, m5⟩ := hmk N h0
        exact .inr (.inr ⟨z1, m1, le2_trans h m4⟩)
      · right
        have h3 := le2_trans (le2_mul h1 (rS p G n d)) h2
        by_cases h0 : N' = 0
        · subst h0
          rw [if_neg (hz0h rfl)]
          left
          unfold mkF
          rw [if_pos rfl]
        · rw [if_neg (fun ho' => hbig N' ho' h0 _ _ h3 zt)]
          obtain ⟨m1, m2, m3, m4, m5⟩ := hmk N' h0
          exact .inr (.inr ⟨m1, z1, le2_trans m5 h3⟩)
/-- The numbers of a rounded float are small. -/
theorem rndF_small (p : Nat) (G : Int) (r : Nat) (neg : Bool) {n d : Nat} (hp : 2 ≤ p) (hG : 1 ≤ G) (hn : n ≠ 0) (hd : d ≠ 0) (hk : (rndF p G r neg n d).1.kind = 1) : bl (rndF p G r neg n d).1.mag ≤ p + 1 ∧ -G - p ≤ (rndF p G r neg n d).1.exp ∧ (rndF p G r neg n d).1.exp ≤ G + 1 ∧ ∃ j, (rndF p G r neg n d).1.mag = 2 * j + 1 := by
  have h1 := rnd_le p G r neg hn hd
  have h2 := stpF_max p G (lg n d)
  have hs : rS p G n d = stpF p G (lg n d) := rfl
  have ht : ∃ j, 2 ^ p - 1 = 2 * j + 1 := by
    have : 2 ^ p = 2 * (2 * 2 ^ (p - 2)) := by rw [← Nat.pow_succ', ← Nat.pow_succ']; congr 1; omega
    have := Nat.two_pow_pos (p - 2)
    exact ⟨2 * 2 ^ (p - 2) - 1, by omega⟩
  rw [rndF_eq] at hk ⊢
  generalize rN p G r neg n d = N at *
  generalize rS p G n d = s at *
  by_cases ho : G < (bl N : Int) + s - 1
  · rw [if_pos ho] at hk ⊢
    unfold overF at hk ⊢
    split
    · have : bl (2 ^ p - 1) ≤ p := bl_le (by have := Nat.two_pow_pos p; omega)
      exact ⟨by show bl (2 ^ p - 1) ≤ p + 1; omega, by show -G - p ≤ G - p + 1; omega, by show G - p + 1 ≤ G + 1; omega, ht⟩
    · rename_i hg
      rw [if_neg hg] at hk
      cases hk
  · rw [if_neg ho] at hk ⊢
    simp only at hk ⊢
    by_cases h0 : N = 0
    · subst h0; unfold mkF at hk; rw [if_pos rfl] at hk; cases hk
    · obtain ⟨m, hm⟩ := tz_spec h0
      have e : mkF neg N s = ⟨1, neg, s + tz N, 2 * m + 1⟩ := by
        conv => lhs; rw [hm, Nat.mul_comm]
        exact mkF_odd neg m _ s
      have e2 : bl N = bl (2 * m + 1) + tz N := by
        conv => lhs; rw [hm, Nat.mul_comm]
        exact bl_mul _ _ (by omega)
      have hb : bl N ≤ p + 1 := bl_le (Nat.lt_of_le_of_lt h1 (Nat.pow_lt_pow_right (by decide) (by omega)))
      rw [e]
      have := (bl_spec (n := 2 * m + 1) (by omega)).2.2
      exact ⟨by show bl (2 * m + 1) ≤ p + 1; omega, by show -G - p ≤ s + tz N; omega, by show s + tz N ≤ G + 1; omega, m, rfl⟩
theorem enc_facts (p : Nat) (G : Int) (neg : Bool) {n d : Nat} (hp : 2 ≤ p) (hG : 1 ≤ G) (hn : n ≠ 0) (hd : d ≠ 0) (x y : FV) (hx : x = (rndF p G 4 neg n d).1) (hy : y = (rndF p G 3 neg n d).1) :
    (x.kind = 2 → x.neg = true) ∧ (y.kind = 2 → y.neg = false) ∧
    (x.kind ≤ 1 → (if x.neg = true then -(vn x : Int) else vn x) * d ≤ (if neg = true then -(n : Int) else n) * vd x) ∧
    (y.kind ≤ 1 → (if neg = true then -(n : Int) else n) * vd y ≤ (if y.neg = true then -(vn y : Int) else vn y) * d) ∧
    ∀ z : FV, (z.kind = 0 ∨ z.kind = 2 ∨ z.kind = 1 ∧ z.mag ≠ 0 ∧ inF p G z.mag z.exp) → cpF z x ≤ 0 ∨ 0 ≤ cpF z y := by
  obtain ⟨f1, f2⟩ := rndF_fine p G 4 neg n d hp
  obtain ⟨g1, g2⟩ := rndF_fine p G 3 neg n d hp
  have zfine : ∀ z : FV, (z.kind = 0 ∨ z.kind = 2 ∨ z.kind = 1 ∧ z.mag ≠ 0 ∧ inF p G z.mag z.exp) → fineF z := fun z h => ⟨by omega, fun h1 => by
    rcases h with h | h | h
    · omega
    · omega
    · exact h.2.1⟩
  have zle : ∀ X Y : FV, (∀ z : FV, z.kind = 1 → z.mag ≠ 0 → inF p G z.mag z.exp → leM z X ∨ leM Y z) → ∀ z : FV, (z.kind = 0 ∨ z.kind = 2 ∨ z.kind = 1 ∧ z.mag ≠ 0 ∧ inF p G z.mag z.exp) → leM z X ∨ leM Y z := fun X Y h z hz => by
    rcases hz with hz | hz | hz
    · exact .inl (.inl hz)
    · exact .inr (.inr (.inl hz))
    · exact h z hz.1 hz.2.1 hz.2.2
  cases neg with
  | false =>
    obtain ⟨a1, a2, a3, a4⟩ := enclosed p G 4 3 false hp hG hn hd rfl (fun o x => by unfold moreF; simp) rfl (fun o x => by unfold moreF; simp)
    rw [← hx] at f1 f2 a1 a2 a4
    rw [← hy] at g1 g2 a3 a4
    refine ⟨fun h => by omega, fun _ => g2, fun _ => ?_, fun h => ?_, fun z hz => ?_⟩
    · rw [f2, if_neg (by decide), if_neg (by decide), ← Int.natCast_mul, ← Int.natCast_mul]
      exact Int.ofNat_le.2 a2
    · rw [g2, if_neg (by decide), if_neg (by decide), ← Int.natCast_mul, ← Int.natCast_mul]
      rcases a3 with a3 | a3
      · omega
      · exact Int.ofNat_le.2 a3.2
    · have hzf := zfine z hz
      cases hzn : z.neg with
      | true => exact .inl (cpF_mixed hzf f1 hzn f2)
      | false =>
        rcases zle x y a4 z hz with h | h
        · exact .inl (cpF_pos hzf f1 hzn f2 h)
        · right
          have := cpF_pos g1 hzf g2 hzn h
          rw [cpF_neg]
          omega
  | true =>
    obtain ⟨a1, a2, a3, a4⟩ := enclosed p G 3 4 true hp hG hn hd rfl (fun o x => by unfold moreF; simp) rfl (fun o x => by unfold moreF; simp)
    rw [← hx] at f1 f2 a3 a4
    rw [← hy] at g1 g2 a1 a2 a4
    refine ⟨fun _ => f2, fun h => by omega, fun h => ?_, fun _ => ?_, fun z hz => ?_⟩
    · rw [f2, if_pos rfl, if_pos rfl, Int.neg_mul, Int.neg_mul, ← Int.natCast_mul, ← Int.natCast_mul]
      rcases a3 with a3 | a3
      · omega
      · have := a3.2; omega
    · rw [g2, if_pos rfl, if_pos rfl, Int.neg_mul, Int.neg_mul, ← Int.natCast_mul, ← Int.natCast_mul]
      omega
    · have hzf := zfine z hz
      cases hzn : z.neg with
      | false =>
        right
        have := cpF_mixed g1 hzf g2 hzn
        rw [cpF_neg]
        omega
      | true =>
        rcases zle y x a4 z hz with h | h
        · right
          have := cpF_negs hzf g1 hzn g2 h
          rw [cpF_neg] at this
          omega
        · exact .inl (cpF_negs f1 hzf f2 hzn h)
end Go.Proofs
