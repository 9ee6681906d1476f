/-
  The framework of this work: abstract values and states, operations, regions, code, functions: proved sound over the model.
-/
import Derived.Test.YtpnljnmpocobjaaGreatDoorX6
import Derived.Test.YtpnljnmpocobjaaGreatDoorX5
import Derived.Test.YtpnljnmpocobjaaGreatDoorX16
set_option maxRecDepth 100000
set_option linter.unusedVariables false
set_option linter.unusedSimpArgs false
namespace Go.Ax
open Go.RowKit
def lkO : List Oper → Nat → (Oper → Prop) → Prop
  | [], _, _ => False
  | o :: _, 0, f => f o
  | _ :: os, n + 1, f => lkO os n f
section
variable {P : Program} {GE : Nat → Option (List AV)}
def XT (P : Program) (GE : Nat → Option (List AV)) (L : List Oper) (ds : List (Option Tmp)) : OT → St → (St → Prop) → Prop
  | .done, st, K => K st
  | .step i t, st, K => lkO L i fun o => XGOp P GE ds o.op o.dst o.guard st fun s => XT P GE L ds t s K
  | .alt i t r, st, K => (lkO L i fun o => XGOp P GE ds o.op o.dst o.guard st fun s => XT P GE L ds t s K) ∧ XT P GE L ds r st K
  | .stop, _, _ => True
theorem lkO_get : ∀ {L : List Oper} {i : Nat} {f : Oper → Prop}, lkO L i f → ∃ o, L[i]? = some o ∧ f o
  | [], _, _, h => h.elim
  | o :: _, 0, _, h => ⟨o, rfl, h⟩
  | _ :: os, n + 1, _, h => by obtain ⟨o, h1, h2⟩ := lkO_get (L := os) h; exact ⟨o, by simpa using h1, h2⟩
theorem XGOp_full {ops : Array Oper} {i : Nat} {st : St} {K K' : St → Prop} (hK : ∀ s, K s → K' s) (h : lkO ops.toList i fun o => XGOp P GE (ops.toList.map (·.dst)) o.op o.dst o.guard st K) : AGi P GE ops i st K' := by
  obtain ⟨o, ho, h⟩ := lkO_get h
  unfold AGi
  rw [Array.getElem?_toList] at ho
  rw [ho]
  simp only
  unfold XGOp at h
  unfold AGOp
  split at h
  · rename_i hg; simp only [hg]; exact XOp_mono hK h
  · rename_i j want hg
    simp only [hg]
    split at h
    · rename_i b hb
      simp only [gvalL_eq (ops := ops) (pre := ops.toList) (post := []) (by simp) hb]
      split at h
      · rename_i hbw; rw [if_pos hbw]; exact XOp_mono hK h
      · rename_i hbw; rw [if_neg hbw]; exact hK _ h
    · exact h.elim
theorem XT_sound {ops : Array Oper} {K : St → Prop} : ∀ (t : OT) (st : St), XT P GE ops.toList (ops.toList.map (·.dst)) t st K → TOps P GE ops t st K
  | .done, st, h => h
  | .step i t, st, h => XGOp_full (fun s hs => XT_sound t s hs) h
  | .alt i t r, st, h => ⟨XGOp_full (fun s hs => XT_sound t s hs) h.1, XT_sound r st h.2⟩
  | .stop, _, _ => trivial
theorem G_tree {id : Nat} {ops : Array Oper} {st : St} {Q : Exit → St → Prop} (t : OT) (hm : P.follows .mixedOrders = true) (ht : treeR ops = some t)
    (h : XT P GE ops.toList (ops.toList.map (·.dst)) t st (aft (Q .normal) ⟨⟩)) : AWp P GE (.region id ops true) Q st := AWp_tree hm rfl ht (XT_sound t st h)
theorem G_stree {id : Nat} {ops : Array Oper} {y : Code} {st : St} {Q : Exit → St → Prop} (t : OT) (hm : P.follows .mixedOrders = true) (ht : treeR ops = some t)
    (h : XT P GE ops.toList (ops.toList.map (·.dst)) t st (aft (AWp P GE y Q) ⟨⟩)) : AWp P GE (.seq (.region id ops true) y) Q st := AWp_seq (G_tree t hm ht h)
theorem x_done (L : List Oper) (ds : List (Option Tmp)) (st : St) (K : St → Prop) : XT P GE L ds .done st K = K st := rfl
theorem x_step (L : List Oper) (ds : List (Option Tmp)) (i : Nat) (t : OT) (st : St) (K : St → Prop) : XT P GE L ds (.step i t) st K = lkO L i (hid (fun o => XGOp P GE ds o.op o.dst o.guard st (hid (fun s => XT P GE L ds t s K) ⟨⟩)) ⟨⟩) := rfl
theorem x_alt (L : List Oper) (ds : List (Option Tmp)) (i : Nat) (t r : OT) (st : St) (K : St → Prop) : XT P GE L ds (.alt i t r) st K = (lkO L i (hid (fun o => XGOp P GE ds o.op o.dst o.guard st (hid (fun s => XT P GE L ds t s K) ⟨⟩)) ⟨⟩) ∧ XT P GE L ds r st K) := rfl
theorem x_stop (L : List Oper) (ds : List (Option Tmp)) (st : St) (K : St → Prop) : XT P GE L ds .stop st K = True := rfl
theorem lk_0 (o : Oper) (os : List Oper) (f : Oper → Prop) : lkO (o :: os) 0 f = f o := rfl
theorem lk_S (o : Oper) (os : List Oper) (n : Nat) (f : Oper → Prop) : lkO (o :: os) (n + 1) f = lkO os n f := rfl
theorem mpD_nil : List.map (fun x : Oper => x.dst) [] = [] := rfl
theorem mpD_cons (d : Option Tmp) (op : Op) (t : TypeId) (p : String) (af : Array Edge) (g : Option (Nat × Bool)) (os : List Oper) : List.map (fun x : Oper => x.dst) (⟨d, op, t, p, af, g⟩ :: os) = d :: List.map (fun x : Oper => x.dst) os := rfl
end
end Go.Ax
set_option linter.unusedVariables false
set_option linter.unusedSimpArgs false
namespace Go.Proofs
open Go.Ax
/-- What a right float is, if its numbers are small. -/
def wfF (x : FV) : Prop := (x.kind = 1 ∧ x.mag ≠ 0 ∧ -300000 ≤ x.exp ∧ x.exp ≤ 300000 ∧ (words x.mag).length ≤ 5000) ∨ ((x.kind = 0 ∨ x.kind = 2 ∨ (x.kind = 3 ∧ x.neg = false)) ∧ x.exp = 0 ∧ x.mag = 0)
theorem canF_wf {x : FV} (h : wfF x) : (words (canF x).mag).length ≤ 5000 ∧ -700000 ≤ (canF x).exp ∧ (canF x).exp ≤ 700000 := by
  rcases h with ⟨h1, h2, h3, h4, h5⟩ | ⟨h1, h2, h3⟩
  · unfold canF mkF
    rw [if_pos h1, if_neg h2]
    have := bl_len x.mag
    have := tz_le_bl x.mag
    refine ⟨Nat.le_trans (length_mono (Nat.div_le_self _ _)) h5, ?_, ?_⟩ <;> simp only <;> omega
  · unfold canF
    rw [if_neg (by omega)]
    exact ⟨by show (words 0).length ≤ 5000; decide, by show -700000 ≤ (0 : Int); decide, by show (0 : Int) ≤ 700000; decide⟩
end Go.Proofs
set_option linter.unusedVariables false
set_option linter.unusedSimpArgs false
namespace Go.Proofs
open Go.Ax
theorem lg_bound {n d : Nat} (hn : n ≠ 0) (hd : d ≠ 0) : -(bl d : Int) ≤ lg n d ∧ lg n d ≤ bl n := by
  have := (bl_spec hn).2.2
  have := (bl_spec hd).2.2
  unfold lg
  split <;> omega
/-- What a number is rounded to is small. -/
theorem rndF_wf (k p : Nat) (h : okFm k p) (r : Nat) (neg : Bool) (n d : Nat) (hn : n ≠ 0) (hd : d ≠ 0) (hln : (words n).length ≤ 1000) (hld : (words d).length ≤ 1000) : wfF (rndF p (gF k) r neg n d).1 ∧ canF (rndF p (gF k) r neg n d).1 = (rndF p (gF k) r neg n d).1 ∧ (rndF p (gF k) r neg n d).1.kind ≤ 2 := by
  have hg := gF_le (k := k) (by omega) (by omega)
  have hb1 := bl_len n
  have hb2 := bl_len d
  have hl := lg_bound hn hd
  have hs := stpF_max p (gF k) (lg n d)
  have hN := rnd_le p (gF k) r neg hn hd
  have hpl : ∀ m, m ≤ 2 ^ p → (words m).length ≤ 6 := fun m hm => le_pow_words hm (by omega)
  have h2p : 2 ^ 1 ≤ 2 ^ p := Nat.pow_le_pow_right (by decide) (by omega)
  unfold rndF
  split
  · unfold overF
    split
    · refine ⟨.inl ⟨rfl, by show 2 ^ p - 1 ≠ 0; omega, by show _ ≤ gF k - p + 1; omega, by show gF k - p + 1 ≤ _; omega, by have := hpl (2 ^ p - 1) (by omega); show (words (2 ^ p - 1)).length ≤ 5000; omega⟩, ?_, by show 1 ≤ 2; decide⟩
      show mkF neg (2 ^ p - 1) (gF k - p + 1) = _
      have e : 2 ^ p - 1 = 2 * (2 ^ (p - 1) - 1) + 1 := by
        have : 2 ^ p = 2 ^ (p - 1) * 2 := by rw [← Nat.pow_succ]; congr 1; omega
        have := Nat.two_pow_pos (p - 1)
        omega
      rw [e, mkF_oddS]
      unfold topF
      rw [e]
    · exact ⟨.inr ⟨.inr (.inl rfl), rfl, rfl⟩, rfl, by show 2 ≤ 2; decide⟩
  · unfold rN at hN
    generalize quoN r neg (nu n (stpF p (gF k) (lg n d))) (de d (stpF p (gF k) (lg n d))) = N at *
    simp only
    by_cases h0 : N = 0
    · unfold mkF; rw [if_pos h0]
      exact ⟨.inr ⟨.inl rfl, rfl, rfl⟩, rfl, by show 0 ≤ 2; decide⟩
    · obtain ⟨m, hm⟩ := tz_spec h0
      have hNl := hpl N hN
      have hbN := bl_len N
      have htz := tz_le_bl N
      have hmN : 2 * m + 1 ≤ N := by
        rw [hm]
        exact Nat.le_mul_of_pos_left _ (Nat.two_pow_pos _)
      have e : mkF neg N (stpF p (gF k) (lg n d)) = ⟨1, neg, stpF p (gF k) (lg n d) + tz N, 2 * m + 1⟩ := by
        conv => lhs; rw [hm, Nat.mul_comm]
        exact mkF_odd neg m _ _
      rw [e]
      refine ⟨.inl ⟨rfl, Nat.succ_ne_zero _, by show _ ≤ stpF p (gF k) (lg n d) + tz N; omega, by show stpF p (gF k) (lg n d) + tz N ≤ _; omega, ?_⟩, mkF_oddS neg m _, by show 1 ≤ 2; decide⟩
      have := length_mono hmN
      show (words (2 * m + 1)).length ≤ 5000
      omega
end Go.Proofs
set_option linter.unusedVariables false
set_option linter.unusedSimpArgs false
namespace Go.Proofs
open Go.Ax
theorem vb_at {K : Nat} (hK : 0 < K) (xs : List Nat) (hx : Ds K xs) (j : Nat) : ∃ lo, lo < K ^ j ∧ vb K xs = lo + K ^ j * (xs.getD j 0 + K * vb K (xs.drop (j + 1))) := by
  by_cases h : j < xs.length
  · refine ⟨vb K (xs.take j), ?_, ?_⟩
    · have := vb_lt (hx.take j)
      rwa [List.length_take, Nat.min_eq_left (by omega)] at this
    · rw [← vb_drop_one xs j h]
      exact vb_drop xs j (by omega)
  · refine ⟨vb K xs, ?_, ?_⟩
    · exact Nat.lt_of_lt_of_le (vb_lt hx) (Nat.pow_le_pow_right hK (by omega))
    · rw [getD_over xs j (by omega), List.drop_of_length_le (by omega)]
      show vb K xs = vb K xs + K ^ j * (0 + K * 0)
      rw [Nat.mul_zero, Nat.zero_add, Nat.mul_zero, Nat.add_zero]
theorem vb_first {K : Nat} (hK : 0 < K) {xs ys : List Nat} (hx : Ds K xs) (hy : Ds K ys) (j : Nat) (he : vb K (xs.drop (j + 1)) = vb K (ys.drop (j + 1))) (hlt : xs.getD j 0 < ys.getD j 0) : vb K xs < vb K ys := by
  obtain ⟨a, a1, a2⟩ := vb_at hK xs hx j
  obtain ⟨b, b1, b2⟩ := vb_at hK ys hy j
  rw [a2, b2, he]
  have h1 : K ^ j * (xs.getD j 0 + K * vb K (ys.drop (j + 1)) + 1) ≤ K ^ j * (ys.getD j 0 + K * vb K (ys.drop (j + 1))) := Nat.mul_le_mul_left _ (by omega)
  rw [Nat.mul_succ] at h1
  omega
theorem vb_step {K : Nat} {xs ys : List Nat} (j : Nat) (he : vb K (xs.drop (j + 1)) = vb K (ys.drop (j + 1))) (heq : xs.getD j 0 = ys.getD j 0) : vb K (xs.drop j) = vb K (ys.drop j) := by
  have key : ∀ zs : List Nat, vb K (zs.drop j) = zs.getD j 0 + K * vb K (zs.drop (j + 1)) := fun zs => by
    by_cases h : j < zs.length
    · exact vb_drop_one zs j h
    · rw [getD_over zs j (by omega), List.drop_of_length_le (by omega), List.drop_of_length_le (by omega)]
      show 0 = 0 + K * 0
      rw [Nat.mul_zero]
  rw [key xs, key ys, he, heq]
set_option maxRecDepth 100000 in
set_option maxHeartbeats 2000000 in
theorem ret_Compare01 (xs ys : List Nat) (hx : Ds 4294967296 xs) (hy : Ds 4294967296 ys) (hl : xs.length ≤ 1099511627776) (hl2 : ys.length ≤ 1099511627776) :
    Ret Tryz.prog GEs 235 [ws xs, ws ys] (i64 (cmpI (vb 4294967296 xs) (vb 4294967296 ys))) := by
  have hd1 := fun i => ret_digit xs i hl
  have hd2 := fun i => ret_digit ys i hl2
  have hx4 := fun i => hx.getD (by decide) i
  have hy4 := fun i => hy.getD (by decide) i
  obtain ⟨M, hM⟩ : ∃ M, max xs.length ys.length = M := ⟨_, rfl⟩
  refine RetN_start Tryz.func235 (by kernel_rfl) rfl fun Q hQ hQ2 => ?_; rw [Tryz.ntmps235]; simp only [u, i64, Nat.reduceSub, Nat.reduceAdd, bm]
  repeat (first | ((first | refine Gs ?_ | refine Gr ?_); simp (disch := omega) only [u, i64, ax, eq_self, if_true, if_false, Nat.reduceAdd, Int.reduceToNat, Int.reduceAdd, tvs, bs]; refine aA ?_) | refine G_seq ?_ | refine G_block ?_ | refine G_condT rfl ?_ | refine G_condF rfl ?_ | refine G_skip ?_ | refine G_ret ?_ | refine G_exit ?_ | refine q_tn ?_ | refine q_tr ?_ | refine q_tx ?_ | refine q_bn ?_ | refine q_br ?_ | refine q_bx ?_ | refine q_by (by decide) ?_)
  rw [hM]
  refine AWp_loop (fun j : Nat => mk 32 [(0, ws xs), (1, ws ys), (4, i64 0), (5, i64 ((j : Int) - 1))] []) (fun j => j ≤ M ∧ vb 4294967296 (xs.drop j) = vb 4294967296 (ys.drop j)) (fun j => j) M ?_ ⟨Nat.le_refl _, by rw [List.drop_of_length_le (by omega), List.drop_of_length_le (by omega)]⟩ ?_
  · simp only [u, i64, Nat.reduceSub, Nat.reduceAdd, bm]
  intro j hj
  simp only [u, i64, Nat.reduceSub, Nat.reduceAdd, bm]
  cases j with
  | zero =>
    have h0 : cmpI (vb 4294967296 xs) (vb 4294967296 ys) = 0 := by
      have := hj.2
      rw [List.drop_zero, List.drop_zero] at this
      rw [this]; unfold cmpI; rw [if_neg (by omega), if_neg (by omega)]
    rw [h0] at hQ
    repeat (first | ((first | refine Gs ?_ | refine Gr ?_); simp (disch := omega) only [u, i64, ax, eq_self, if_true, if_false, Nat.reduceAdd, Int.reduceToNat, Int.reduceAdd, tvs, bs]; refine aA ?_) | refine G_seq ?_ | refine G_block ?_ | refine G_condT rfl ?_ | refine G_condF rfl ?_ | refine G_skip ?_ | refine G_ret ?_ | refine G_exit ?_ | refine q_tn ?_ | refine q_tr ?_ | refine q_tx ?_ | refine q_bn ?_ | refine q_br ?_ | refine q_bx ?_ | refine q_by (by decide) ?_)
    (refine FinQ hQ (congrArg Array.toList Tryz.results235) _ _ ?_); simp (disch := omega) only [u, i64, ax, if_true, forall_const, reduceCtorEq, implies_true, tvs, bf]
  | succ j =>
    have e1 := hd1 j
    have e2 := hd2 j
    have l1 := hx4 j
    have l2 := hy4 j
    have hf := vb_first (K := 4294967296) (by decide) hx hy j hj.2
    have hf2 := vb_first (K := 4294967296) (by decide) hy hx j hj.2.symm
    have hs := vb_step (K := 4294967296) (xs := xs) (ys := ys) j hj.2
    rw [show ((j + 1 : Nat) : Int) - 1 = (j : Int) by omega]
    generalize xs.getD j 0 = x at *
    generalize ys.getD j 0 = y at *
    by_cases c1 : x < y
    · have h0 : cmpI (vb 4294967296 xs) (vb 4294967296 ys) = -1 := by unfold cmpI; rw [if_pos (hf c1)]
      rw [h0] at hQ
      repeat (first | ((first | refine Gs ?_ | refine Gr ?_); simp (disch := omega) only [u, i64, ax, eq_self, if_true, if_false, Nat.reduceAdd, Int.reduceToNat, Int.reduceAdd, tvs, bs]; first | refine aA ?_ | ((first | refine cR e1 ?_ | refine cR e2 ?_); simp (disch := omega) only [u, i64, ax, eq_self, if_true, if_false, Nat.reduceAdd, Int.reduceToNat, Int.reduceAdd, tvs, bs]; try refine aA ?_)) | ((first | refine cR e1 ?_ | refine cR e2 ?_); simp (disch := omega) only [u, i64, ax, eq_self, if_true, if_false, Nat.reduceAdd, Int.reduceToNat, Int.reduceAdd, tvs, bs]; try refine aA ?_) | refine G_seq ?_ | refine G_block ?_ | refine G_condT rfl ?_ | refine G_condF rfl ?_ | refine G_skip ?_ | refine G_ret ?_ | refine G_exit ?_ | refine q_tn ?_ | refine q_tr ?_ | refine q_tx ?_ | refine q_bn ?_ | refine q_br ?_ | refine q_bx ?_ | refine q_by (by decide) ?_)
      (refine FinQ hQ (congrArg Array.toList Tryz.results235) _ _ ?_); simp (disch := omega) only [u, i64, ax, if_true, forall_const, reduceCtorEq, implies_true, tvs, bf]
    · by_cases c2 : y < x
      · have h0 : cmpI (vb 4294967296 xs) (vb 4294967296 ys) = 1 := by
          have := hf2 c2
          unfold cmpI; rw [if_neg (by omega), if_pos this]
        rw [h0] at hQ
        repeat (first | ((first | refine Gs ?_ | refine Gr ?_); simp (disch := omega) only [u, i64, ax, eq_self, if_true, if_false, Nat.reduceAdd, Int.reduceToNat, Int.reduceAdd, tvs, bs]; first | refine aA ?_ | ((first | refine cR e1 ?_ | refine cR e2 ?_); simp (disch := omega) only [u, i64, ax, eq_self, if_true, if_false, Nat.reduceAdd, Int.reduceToNat, Int.reduceAdd, tvs, bs]; try refine aA ?_)) | ((first | refine cR e1 ?_ | refine cR e2 ?_); simp (disch := omega) only [u, i64, ax, eq_self, if_true, if_false, Nat.reduceAdd, Int.reduceToNat, Int.reduceAdd, tvs, bs]; try refine aA ?_) | refine G_seq ?_ | refine G_block ?_ | refine G_condT rfl ?_ | refine G_condF rfl ?_ | refine G_skip ?_ | refine G_ret ?_ | refine G_exit ?_ | refine q_tn ?_ | refine q_tr ?_ | refine q_tx ?_ | refine q_bn ?_ | refine q_br ?_ | refine q_bx ?_ | refine q_by (by decide) ?_)
        (refine FinQ hQ (congrArg Array.toList Tryz.results235) _ _ ?_); simp (disch := omega) only [u, i64, ax, if_true, forall_const, reduceCtorEq, implies_true, tvs, bf]
      · repeat (first | ((first | refine Gs ?_ | refine Gr ?_); simp (disch := omega) only [u, i64, ax, eq_self, if_true, if_false, Nat.reduceAdd, Int.reduceToNat, Int.reduceAdd, tvs, bs]; first | refine aA ?_ | ((first | refine cR e1 ?_ | refine cR e2 ?_); simp (disch := omega) only [u, i64, ax, eq_self, if_true, if_false, Nat.reduceAdd, Int.reduceToNat, Int.reduceAdd, tvs, bs]; try refine aA ?_)) | ((first | refine cR e1 ?_ | refine cR e2 ?_); simp (disch := omega) only [u, i64, ax, eq_self, if_true, if_false, Nat.reduceAdd, Int.reduceToNat, Int.reduceAdd, tvs, bs]; try refine aA ?_) | refine G_seq ?_ | refine G_block ?_ | refine G_condT rfl ?_ | refine G_condF rfl ?_ | refine G_skip ?_ | refine G_ret ?_ | refine G_exit ?_ | refine q_tn ?_ | refine q_tr ?_ | refine q_tx ?_ | refine q_bn ?_ | refine q_br ?_ | refine q_bx ?_ | refine q_by (by decide) ?_)
        refine ⟨j, ?_, ⟨by omega, hs (by omega)⟩, by omega⟩
        simp only [u, i64, Nat.reduceSub, Nat.reduceAdd, bm]
theorem ret_rCmp (xs ys : List Nat) (hx : Wd xs) (hy : Wd ys) (hl : xs.length ≤ 34359738368) (hl2 : ys.length ≤ 34359738368) : Ret Tryz.prog GEs 177 [ws xs, ws ys] (i64 (cmpI (val xs) (val ys))) := by
  have h1 := ret_Digits xs hx (by omega)
  have h2 := ret_Digits ys hy (by omega)
  have h3 := ret_Compare01 (digs xs) (digs ys) (digs_Ds hx) (digs_Ds hy) (by rw [digs_length]; omega) (by rw [digs_length]; omega)
  rw [digs_val, digs_val] at h3
  refine RetN_start Tryz.func177 (by kernel_rfl) rfl fun Q hQ hQ2 => ?_; rw [Tryz.ntmps177]; simp only [u, i64, Nat.reduceSub, Nat.reduceAdd, bm]
  repeat (first | ((first | refine Gs ?_ | refine Gr ?_); simp (disch := omega) only [u, i64, ax, eq_self, if_true, if_false, Nat.reduceAdd, Int.reduceToNat, Int.reduceAdd, tvs, bs]; first | refine aA ?_ | ((first | refine cR h1 ?_ | refine cR h2 ?_ | refine cR h3 ?_); simp (disch := omega) only [u, i64, ax, eq_self, if_true, if_false, Nat.reduceAdd, Int.reduceToNat, Int.reduceAdd, tvs, bs]; try refine aA ?_)) | ((first | refine cR h1 ?_ | refine cR h2 ?_ | refine cR h3 ?_); simp (disch := omega) only [u, i64, ax, eq_self, if_true, if_false, Nat.reduceAdd, Int.reduceToNat, Int.reduceAdd, tvs, bs]; try refine aA ?_) | refine G_seq ?_ | refine G_block ?_ | refine G_condT rfl ?_ | refine G_condF rfl ?_ | refine G_skip ?_ | refine G_ret ?_ | refine G_exit ?_ | refine q_tn ?_ | refine q_tr ?_ | refine q_tx ?_ | refine q_bn ?_ | refine q_br ?_ | refine q_bx ?_ | refine q_by (by decide) ?_)
  (refine FinQ hQ (congrArg Array.toList Tryz.results177) _ _ ?_); simp (disch := omega) only [u, i64, ax, if_true, forall_const, reduceCtorEq, implies_true, tvs, bf]
set_option maxRecDepth 100000 in
set_option maxHeartbeats 2000000 in
theorem ret_rSub (xs ys : List Nat) (hx : Wd xs) (hy : Wd ys) (hne : xs ≠ []) (hl : xs.length ≤ 34359738368) (hl2 : ys.length ≤ 34359738368) (hle : val ys ≤ val xs) : Ret Tryz.prog GEs 246 [ws xs, ws ys] (nat (val xs - val ys)) := by
  have h1 := ret_Digits xs hx (by omega)
  have h2 := ret_rTrim ys hy hl2
  have hyl := length_words_val_le hy
  have h3 := ret_Digits (words (val ys)) (Wd_words _) (by omega)
  have hdn : digs xs ≠ [] := fun h => by
    have := digs_length xs
    rw [h] at this
    have : xs.length = 0 := by simp at this; omega
    exact hne (List.eq_nil_of_length_eq_zero this)
  have h4 := ret_Minus (digs xs) (digs (words (val ys))) (digs_Ds hx) (digs_Ds (Wd_words _)) hdn (by rw [digs_length]; omega) (by rw [digs_length]; omega)
  have hyl2 := length_mono hle
  have hxl := length_words_val_le hx
  rw [List.take_of_length_le (by rw [digs_length, digs_length]; omega), digs_val, digs_val, val_words] at h4
  have hlt : val xs - val ys < 4294967296 ^ (digs xs).length := by
    have := vb_lt (digs_Ds hx)
    rw [digs_val] at this
    omega
  have hv : vb 4294967296 (mdiff 4294967296 (digs xs).length (val xs) (val ys)) = val xs - val ys := by
    unfold mdiff
    rw [if_pos hle]
    exact vb_wfb (by decide) _ _ hlt
  have hds : Ds 4294967296 (mdiff 4294967296 (digs xs).length (val xs) (val ys)) := wfb_Ds (by decide) _ _
  have hml : (mdiff 4294967296 (digs xs).length (val xs) (val ys)).length = (digs xs).length := wfb_length _ _
  have h5 := ret_nat (mdiff 4294967296 (digs xs).length (val xs) (val ys)) hds (by rw [hml, digs_length]; omega)
  rw [hv] at h5
  generalize mdiff 4294967296 (digs xs).length (val xs) (val ys) = dd at *
  refine RetN_start Tryz.func246 (by kernel_rfl) rfl fun Q hQ hQ2 => ?_; rw [Tryz.ntmps246]; simp only [u, i64, Nat.reduceSub, Nat.reduceAdd, bm]
  repeat (first | ((first | refine Gs ?_ | refine Gr ?_); simp (disch := omega) only [u, i64, ax, eq_self, if_true, if_false, Nat.reduceAdd, Int.reduceToNat, Int.reduceAdd, tvs, bs]; first | refine aA ?_ | ((first | refine cR h1 ?_ | refine cR h2 ?_ | refine cR h3 ?_ | refine cR h4 ?_ | refine cR h5 ?_); simp (disch := omega) only [u, i64, ax, eq_self, if_true, if_false, Nat.reduceAdd, Int.reduceToNat, Int.reduceAdd, tvs, bs]; try refine aA ?_)) | ((first | refine cR h1 ?_ | refine cR h2 ?_ | refine cR h3 ?_ | refine cR h4 ?_ | refine cR h5 ?_); simp (disch := omega) only [u, i64, ax, eq_self, if_true, if_false, Nat.reduceAdd, Int.reduceToNat, Int.reduceAdd, tvs, bs]; try refine aA ?_) | refine G_seq ?_ | refine G_block ?_ | refine G_condT rfl ?_ | refine G_condF rfl ?_ | refine G_skip ?_ | refine G_ret ?_ | refine G_exit ?_ | refine q_tn ?_ | refine q_tr ?_ | refine q_tx ?_ | refine q_bn ?_ | refine q_br ?_ | refine q_bx ?_ | refine q_by (by decide) ?_)
  (refine FinQ hQ (congrArg Array.toList Tryz.results246) _ _ ?_); simp (disch := omega) only [u, i64, ax, if_true, forall_const, reduceCtorEq, implies_true, tvs, bf]
end Go.Proofs
set_option linter.unusedVariables false
set_option linter.unusedSimpArgs false
namespace Go.Proofs
open Go.Ax
theorem Ret_emp {P : Program} {GE : Nat → Option (List AV)} {f : FuncId} {r : AV} (h : Ret P GE f [ws []] r) : Ret P GE f [.emp] r :=
  ⟨h.1, fun w ok vargs hG hv => h.2 w ok vargs hG (by obtain ⟨v, vs, rfl, h1, h2⟩ := hv; exact ⟨v, vs, rfl, VRep.nrm .emp v h1, h2⟩)⟩
theorem low_step (xs : List Nat) (hx : Wd xs) (k s : Nat) (hk : k < xs.length) (h : 64 * k < s) :
    val (xs.take (k + 1)) % 2 ^ s = val (xs.take k) % 2 ^ s + 18446744073709551616 ^ k * (if s - 64 * k < 64 then xs.getD k 0 % 2 ^ (s - 64 * k) else xs.getD k 0) := by
  have h1 := val_lt (hx.take k)
  rw [List.length_take, Nat.min_eq_left (by omega), Bpow] at h1
  have hw := hx.getD k
  have h2 : 2 ^ (64 * k) ≤ 2 ^ s := Nat.pow_le_pow_right (by decide) (by omega)
  rw [val_take_succ xs k hk, Nat.mod_eq_of_lt (Nat.lt_of_lt_of_le h1 h2), Bpow]
  generalize val (xs.take k) = a at *
  generalize xs.getD k 0 = w at *
  split
  · rename_i hs
    have e : 2 ^ s = 2 ^ (64 * k) * 2 ^ (s - 64 * k) := by rw [← Nat.pow_add]; congr 1; omega
    rw [e, Nat.mod_mul, Nat.add_mul_mod_self_left, Nat.mod_eq_of_lt h1, Nat.add_mul_div_left _ _ (Nat.two_pow_pos _), Nat.div_eq_of_lt h1, Nat.zero_add]
  · rename_i hs
    refine Nat.mod_eq_of_lt ?_
    have e : 2 ^ (64 * k) * 2 ^ 64 ≤ 2 ^ s := by rw [← Nat.pow_add]; exact Nat.pow_le_pow_right (by decide) (by omega)
    have h3 : 2 ^ (64 * k) * (w + 1) ≤ 2 ^ (64 * k) * 2 ^ 64 := Nat.mul_le_mul_left _ (by omega)
    rw [Nat.mul_succ] at h3
    omega
theorem low_end (xs : List Nat) (hx : Wd xs) (k s : Nat) (hk : k ≤ xs.length) (h : k = xs.length ∨ s ≤ 64 * k) : val (xs.take k) % 2 ^ s = val xs % 2 ^ s := by
  rcases h with rfl | h
  · rw [List.take_length]
  · obtain ⟨c, hc⟩ : 2 ^ s ∣ 2 ^ (64 * k) := Nat.pow_dvd_pow 2 h
    rw [show val xs = val (xs.take k) + 18446744073709551616 ^ k * val (xs.drop k) by rw [val_vb, val_vb, val_vb]; exact vb_drop xs k hk, Bpow, hc, Nat.mul_assoc, Nat.add_mul_mod_self_left]
set_option maxRecDepth 100000 in
set_option maxHeartbeats 4000000 in
theorem ret_rLow (xs : List Nat) (s : Nat) (hx : Wd xs) (hl : xs.length ≤ 1000000) (hs : s ≤ 1099511627776) : Ret Tryz.prog GEs 232 [ws xs, i64 s] (nat (val xs % 2 ^ s)) := by
  have hlow := fun k h1 h2 => low_step xs hx k s h1 h2
  refine RetN_start Tryz.func232 (by kernel_rfl) rfl fun Q hQ hQ2 => ?_; rw [Tryz.ntmps232]; simp only [u, i64, Nat.reduceSub, Nat.reduceAdd, bm]
  repeat (first | ((first | refine Gs ?_ | refine Gr ?_); simp (disch := omega) only [u, i64, ax, eq_self, if_true, if_false, Nat.reduceAdd, Int.reduceToNat, Int.reduceAdd, tvs, bs]; refine aA ?_) | refine G_seq ?_ | refine G_block ?_ | refine G_condT rfl ?_ | refine G_condF rfl ?_ | refine G_skip ?_ | refine G_ret ?_ | refine G_exit ?_ | refine q_tn ?_ | refine q_tr ?_ | refine q_tx ?_ | refine q_bn ?_ | refine q_br ?_ | refine q_bx ?_ | refine q_by (by decide) ?_)
  refine AWp_loop (fun i : Nat × Nat × List Nat => mk 42 [(0, ws xs), (1, i64 s), (4, .emp), (5, gA i.2.2 i.2.1), (6, i64 i.1)] (gR i.2.2 i.2.1)) (fun i => i.1 = i.2.1 ∧ i.2.1 ≤ xs.length ∧ i.2.2.length = i.2.1 ∧ Wd i.2.2 ∧ val i.2.2 = val (xs.take i.2.1) % 2 ^ s) (fun i => xs.length - i.2.1) (0, 0, []) ?_ ⟨rfl, Nat.zero_le _, rfl, (fun x hx => by cases hx), by show 0 = 0 % 2 ^ s; rw [Nat.zero_mod]⟩ ?_
  · simp only [u, i64, Nat.reduceSub, Nat.reduceAdd, bm]
  rintro ⟨z, k, ds⟩ ⟨hz, hk, hlen, hwd, hv⟩
  simp only at hz hk hlen hwd hv
  by_cases hc : k < xs.length ∧ 64 * k < s
  · obtain ⟨hn, hc⟩ := hc
    have hw := hx.getD z
    have hst := hlow k hn hc
    rw [← hz] at hst
    obtain ⟨w', hw'⟩ : ∃ w', (if s - 64 * z < 64 then xs.getD z 0 % 2 ^ (s - 64 * z) else xs.getD z 0) = w' := ⟨_, rfl⟩
    rw [hw'] at hst
    have hwb : w' < 18446744073709551616 := by
      rw [← hw']
      split
      · exact Nat.lt_of_le_of_lt (Nat.mod_le _ _) hw
      · exact hw
    have hnew : (ds ++ [w']).length = k + 1 ∧ Wd (ds ++ [w']) ∧ val (ds ++ [w']) = val (xs.take (k + 1)) % 2 ^ s := by
      refine ⟨by rw [List.length_append, hlen]; rfl, fun x hx => ?_, ?_⟩
      · rcases List.mem_append.1 hx with h | h
        · exact hwd x h
        · rw [List.mem_singleton.1 h]; exact hwb
      · rw [val_append, ← hz, hst, hz, ← hv, hlen]
        show _ + _ * (w' + 18446744073709551616 * 0) = _
        rw [Nat.mul_zero, Nat.add_zero]
    by_cases hp : s - 64 * z < 64
    · rw [if_pos hp] at hw'
      have hpw : 2 ^ (s - 64 * z) < 18446744073709551616 := Nat.pow_lt_pow_right (a := 2) (by decide) hp
      have hpp := Nat.two_pow_pos (s - 64 * z)
      have hsh : 1 * 2 ^ (s - 64 * z) % 18446744073709551616 = 2 ^ (s - 64 * z) := by rw [Nat.one_mul]; exact Nat.mod_eq_of_lt hpw
      cases k with
      | zero =>
        have h0 : ds = [] := List.eq_nil_of_length_eq_zero hlen
        subst h0
        simp only [u, i64, Nat.reduceSub, Nat.reduceAdd, bm]
        repeat (first | ((first | refine Gs ?_ | refine Gr ?_); simp (disch := omega) only [u, i64, ax, eq_self, if_true, if_false, Nat.reduceAdd, Int.reduceToNat, Int.reduceAdd, tvs, bs]; refine aA ?_) | refine G_seq ?_ | refine G_block ?_ | refine G_condT rfl ?_ | refine G_condF rfl ?_ | refine G_skip ?_ | refine G_ret ?_ | refine G_exit ?_ | refine q_tn ?_ | refine q_tr ?_ | refine q_tx ?_ | refine q_bn ?_ | refine q_br ?_ | refine q_bx ?_ | refine q_by (by decide) ?_)
        rw [Nat.one_mul, hw']
        refine ⟨(z + 1, 1, [w']), ?_, ⟨by simp only; omega, by simp only; omega, hnew.1, hnew.2.1, hnew.2.2⟩, by simp only; omega⟩
        simp only [u, i64, Nat.reduceSub, Nat.reduceAdd, bm]
      | succ k =>
        simp only [u, i64, Nat.reduceSub, Nat.reduceAdd, bm]
        repeat (first | ((first | refine Gs ?_ | refine Gr ?_); simp (disch := omega) only [u, i64, ax, eq_self, if_true, if_false, Nat.reduceAdd, Int.reduceToNat, Int.reduceAdd, tvs, bs]; refine aA ?_) | refine G_seq ?_ | refine G_block ?_ | refine G_condT rfl ?_ | refine G_condF rfl ?_ | refine G_skip ?_ | refine G_ret ?_ | refine G_exit ?_ | refine q_tn ?_ | refine q_tr ?_ | refine q_tx ?_ | refine q_bn ?_ | refine q_br ?_ | refine q_bx ?_ | refine q_by (by decide) ?_)
        rw [Nat.one_mul, hw']
        refine ⟨(z + 1, k + 2, ds ++ [w']), ?_, ⟨by simp only; omega, by simp only; omega, hnew.1, hnew.2.1, hnew.2.2⟩, by simp only; omega⟩
        simp only [u, i64, Nat.reduceSub, Nat.reduceAdd, bm]
    · rw [if_neg hp] at hw'
      subst hw'
      cases k with
      | zero =>
        have h0 : ds = [] := List.eq_nil_of_length_eq_zero hlen
        subst h0
        simp only [u, i64, Nat.reduceSub, Nat.reduceAdd, bm]
        repeat (first | ((first | refine Gs ?_ | refine Gr ?_); simp (disch := omega) only [u, i64, ax, eq_self, if_true, if_false, Nat.reduceAdd, Int.reduceToNat, Int.reduceAdd, tvs, bs]; refine aA ?_) | refine G_seq ?_ | refine G_block ?_ | refine G_condT rfl ?_ | refine G_condF rfl ?_ | refine G_skip ?_ | refine G_ret ?_ | refine G_exit ?_ | refine q_tn ?_ | refine q_tr ?_ | refine q_tx ?_ | refine q_bn ?_ | refine q_br ?_ | refine q_bx ?_ | refine q_by (by decide) ?_)
        refine ⟨(z + 1, 1, [xs.getD z 0]), ?_, ⟨by simp only; omega, by simp only; omega, hnew.1, hnew.2.1, hnew.2.2⟩, by simp only; omega⟩
        simp only [u, i64, Nat.reduceSub, Nat.reduceAdd, bm]
      | succ k =>
        simp only [u, i64, Nat.reduceSub, Nat.reduceAdd, bm]
        repeat (first | ((first | refine Gs ?_ | refine Gr ?_); simp (disch := omega) only [u, i64, ax, eq_self, if_true, if_false, Nat.reduceAdd, Int.reduceToNat, Int.reduceAdd, tvs, bs]; refine aA ?_) | refine G_seq ?_ | refine G_block ?_ | refine G_condT rfl ?_ | refine G_condF rfl ?_ | refine G_skip ?_ | refine G_ret ?_ | refine G_exit ?_ | refine q_tn ?_ | refine q_tr ?_ | refine q_tx ?_ | refine q_bn ?_ | refine q_br ?_ | refine q_bx ?_ | refine q_by (by decide) ?_)
        refine ⟨(z + 1, k + 2, ds ++ [xs.getD z 0]), ?_, ⟨by simp only; omega, by simp only; omega, hnew.1, hnew.2.1, hnew.2.2⟩, by simp only; omega⟩
        simp only [u, i64, Nat.reduceSub, Nat.reduceAdd, bm]
  · have hend : val ds = val xs % 2 ^ s := by rw [hv]; exact low_end xs hx k s hk (by omega)
    have hT := ret_rTrim ds hwd (by omega)
    rw [hend] at hT
    cases k with
    | zero =>
      have h0 : ds = [] := List.eq_nil_of_length_eq_zero hlen
      subst h0
      simp only [u, i64, Nat.reduceSub, Nat.reduceAdd, bm]
      by_cases hn : z < xs.length
      · repeat (first | ((first | refine Gs ?_ | refine Gr ?_); simp (disch := omega) only [u, i64, ax, eq_self, if_true, if_false, Nat.reduceAdd, Int.reduceToNat, Int.reduceAdd, tvs, bs]; first | refine aA ?_ | (refine cR (Ret_emp hT) ?_; simp (disch := omega) only [u, i64, ax, eq_self, if_true, if_false, Nat.reduceAdd, Int.reduceToNat, Int.reduceAdd, tvs, bs]; try refine aA ?_)) | (refine cR (Ret_emp hT) ?_; simp (disch := omega) only [u, i64, ax, eq_self, if_true, if_false, Nat.reduceAdd, Int.reduceToNat, Int.reduceAdd, tvs, bs]; try refine aA ?_) | refine G_seq ?_ | refine G_block ?_ | refine G_condT rfl ?_ | refine G_condF rfl ?_ | refine G_skip ?_ | refine G_ret ?_ | refine G_exit ?_ | refine q_tn ?_ | refine q_tr ?_ | refine q_tx ?_ | refine q_bn ?_ | refine q_br ?_ | refine q_bx ?_ | refine q_by (by decide) ?_)
        (refine FinQ hQ (congrArg Array.toList Tryz.results232) _ _ ?_); simp (disch := omega) only [u, i64, ax, if_true, forall_const, reduceCtorEq, implies_true, tvs, bf]
      · repeat (first | ((first | refine Gs ?_ | refine Gr ?_); simp (disch := omega) only [u, i64, ax, eq_self, if_true, if_false, Nat.reduceAdd, Int.reduceToNat, Int.reduceAdd, tvs, bs]; first | refine aA ?_ | (refine cR (Ret_emp hT) ?_; simp (disch := omega) only [u, i64, ax, eq_self, if_true, if_false, Nat.reduceAdd, Int.reduceToNat, Int.reduceAdd, tvs, bs]; try refine aA ?_)) | (refine cR (Ret_emp hT) ?_; simp (disch := omega) only [u, i64, ax, eq_self, if_true, if_false, Nat.reduceAdd, Int.reduceToNat, Int.reduceAdd, tvs, bs]; try refine aA ?_) | refine G_seq ?_ | refine G_block ?_ | refine G_condT rfl ?_ | refine G_condF rfl ?_ | refine G_skip ?_ | refine G_ret ?_ | refine G_exit ?_ | refine q_tn ?_ | refine q_tr ?_ | refine q_tx ?_ | refine q_bn ?_ | refine q_br ?_ | refine q_bx ?_ | refine q_by (by decide) ?_)
        (refine FinQ hQ (congrArg Array.toList Tryz.results232) _ _ ?_); simp (disch := omega) only [u, i64, ax, if_true, forall_const, reduceCtorEq, implies_true, tvs, bf]
    | succ k =>
      simp only [u, i64, Nat.reduceSub, Nat.reduceAdd, bm]
      by_cases hn : z < xs.length
      · repeat (first | ((first | refine Gs ?_ | refine Gr ?_); simp (disch := omega) only [u, i64, ax, eq_self, if_true, if_false, Nat.reduceAdd, Int.reduceToNat, Int.reduceAdd, tvs, bs]; refine aA ?_) | refine G_seq ?_ | refine G_block ?_ | refine G_condT rfl ?_ | refine G_condF rfl ?_ | refine G_skip ?_ | refine G_ret ?_ | refine G_exit ?_ | refine q_tn ?_ | refine q_tr ?_ | refine q_tx ?_ | refine q_bn ?_ | refine q_br ?_ | refine q_bx ?_ | refine q_by (by decide) ?_)
        refine G_cool0 ?_
        repeat (first | ((first | refine Gs ?_ | refine Gr ?_); simp (disch := omega) only [u, i64, ax, eq_self, if_true, if_false, Nat.reduceAdd, Int.reduceToNat, Int.reduceAdd, tvs, bs]; first | refine aA ?_ | (refine cR hT ?_; simp (disch := omega) only [u, i64, ax, eq_self, if_true, if_false, Nat.reduceAdd, Int.reduceToNat, Int.reduceAdd, tvs, bs]; try refine aA ?_)) | (refine cR hT ?_; simp (disch := omega) only [u, i64, ax, eq_self, if_true, if_false, Nat.reduceAdd, Int.reduceToNat, Int.reduceAdd, tvs, bs]; try refine aA ?_) | refine G_seq ?_ | refine G_block ?_ | refine G_condT rfl ?_ | refine G_condF rfl ?_ | refine G_skip ?_ | refine G_ret ?_ | refine G_exit ?_ | refine q_tn ?_ | refine q_tr ?_ | refine q_tx ?_ | refine q_bn ?_ | refine q_br ?_ | refine q_bx ?_ | refine q_by (by decide) ?_)
        (refine FinQ hQ (congrArg Array.toList Tryz.results232) _ _ ?_); simp (disch := omega) only [u, i64, ax, if_true, forall_const, reduceCtorEq, implies_true, tvs, bf]
      · repeat (first | ((first | refine Gs ?_ | refine Gr ?_); simp (disch := omega) only [u, i64, ax, eq_self, if_true, if_false, Nat.reduceAdd, Int.reduceToNat, Int.reduceAdd, tvs, bs]; refine aA ?_) | refine G_seq ?_ | refine G_block ?_ | refine G_condT rfl ?_ | refine G_condF rfl ?_ | refine G_skip ?_ | refine G_ret ?_ | refine G_exit ?_ | refine q_tn ?_ | refine q_tr ?_ | refine q_tx ?_ | refine q_bn ?_ | refine q_br ?_ | refine q_bx ?_ | refine q_by (by decide) ?_)
        refine G_cool0 ?_
        repeat (first | ((first | refine Gs ?_ | refine Gr ?_); simp (disch := omega) only [u, i64, ax, eq_self, if_true, if_false, Nat.reduceAdd, Int.reduceToNat, Int.reduceAdd, tvs, bs]; first | refine aA ?_ | (refine cR hT ?_; simp (disch := omega) only [u, i64, ax, eq_self, if_true, if_false, Nat.reduceAdd, Int.reduceToNat, Int.reduceAdd, tvs, bs]; try refine aA ?_)) | (refine cR hT ?_; simp (disch := omega) only [u, i64, ax, eq_self, if_true, if_false, Nat.reduceAdd, Int.reduceToNat, Int.reduceAdd, tvs, bs]; try refine aA ?_) | refine G_seq ?_ | refine G_block ?_ | refine G_condT rfl ?_ | refine G_condF rfl ?_ | refine G_skip ?_ | refine G_ret ?_ | refine G_exit ?_ | refine q_tn ?_ | refine q_tr ?_ | refine q_tx ?_ | refine q_bn ?_ | refine q_br ?_ | refine q_bx ?_ | refine q_by (by decide) ?_)
        (refine FinQ hQ (congrArg Array.toList Tryz.results232) _ _ ?_); simp (disch := omega) only [u, i64, ax, if_true, forall_const, reduceCtorEq, implies_true, tvs, bf]
end Go.Proofs
set_option linter.unusedVariables false
set_option linter.unusedSimpArgs false
namespace Go.Proofs
open Go.Ax
/-- A real number of the reference. -/
abbrev rlv (neg : Bool) (n d : Nat) : AV := .agg [.bool neg, nat n, nat d, i64 0, i64 1]
theorem ret_Of16 (neg : Bool) (ns dn : List Nat) (hn : Wd ns) (hd : Wd dn) (hln : ns.length ≤ 40) (hld : dn.length ≤ 40) (hn0 : val ns ≠ 0) : Ret Tryz.prog GEs 80 [.agg [.bool neg, ws ns, ws dn]] (rlv neg (val ns) (val dn)) := by
  have hS := ret_Sign12 neg ns dn hn (by omega)
  have h1 := ret_rTrim ns hn (by omega)
  have h2 := ret_rTrim dn hd (by omega)
  have hsg : sgn neg (val ns) = if neg then -1 else 1 := by unfold sgn; rw [if_neg hn0]
  rw [hsg] at hS
  cases neg with
  | true =>
    rw [if_pos rfl] at hS
    refine RetN_start Tryz.func80 (by kernel_rfl) rfl fun Q hQ hQ2 => ?_; rw [Tryz.ntmps80]; simp only [u, i64, Nat.reduceSub, Nat.reduceAdd, bm]
    repeat (first | ((first | refine Gs ?_ | refine Gr ?_); simp (disch := omega) only [u, i64, ax, eq_self, if_true, if_false, Nat.reduceAdd, Int.reduceToNat, Int.reduceAdd, tvs, bs]; first | refine aA ?_ | ((first | refine cR hS ?_ | refine cR h1 ?_ | refine cR h2 ?_); simp (disch := omega) only [u, i64, ax, eq_self, if_true, if_false, Nat.reduceAdd, Int.reduceToNat, Int.reduceAdd, tvs, bs]; try refine aA ?_)) | ((first | refine cR hS ?_ | refine cR h1 ?_ | refine cR h2 ?_); simp (disch := omega) only [u, i64, ax, eq_self, if_true, if_false, Nat.reduceAdd, Int.reduceToNat, Int.reduceAdd, tvs, bs]; try refine aA ?_) | refine G_seq ?_ | refine G_block ?_ | refine G_condT rfl ?_ | refine G_condF rfl ?_ | refine G_skip ?_ | refine G_ret ?_ | refine G_exit ?_ | refine q_tn ?_ | refine q_tr ?_ | refine q_tx ?_ | refine q_bn ?_ | refine q_br ?_ | refine q_bx ?_ | refine q_by (by decide) ?_)
    (refine FinQ hQ (congrArg Array.toList Tryz.results80) _ _ ?_); simp (disch := omega) only [u, i64, ax, if_true, forall_const, reduceCtorEq, implies_true, tvs, bf]
    all_goals rfl
  | false =>
    rw [if_neg (by decide)] at hS
    refine RetN_start Tryz.func80 (by kernel_rfl) rfl fun Q hQ hQ2 => ?_; rw [Tryz.ntmps80]; simp only [u, i64, Nat.reduceSub, Nat.reduceAdd, bm]
    repeat (first | ((first | refine Gs ?_ | refine Gr ?_); simp (disch := omega) only [u, i64, ax, eq_self, if_true, if_false, Nat.reduceAdd, Int.reduceToNat, Int.reduceAdd, tvs, bs]; first | refine aA ?_ | ((first | refine cR hS ?_ | refine cR h1 ?_ | refine cR h2 ?_); simp (disch := omega) only [u, i64, ax, eq_self, if_true, if_false, Nat.reduceAdd, Int.reduceToNat, Int.reduceAdd, tvs, bs]; try refine aA ?_)) | ((first | refine cR hS ?_ | refine cR h1 ?_ | refine cR h2 ?_); simp (disch := omega) only [u, i64, ax, eq_self, if_true, if_false, Nat.reduceAdd, Int.reduceToNat, Int.reduceAdd, tvs, bs]; try refine aA ?_) | refine G_seq ?_ | refine G_block ?_ | refine G_condT rfl ?_ | refine G_condF rfl ?_ | refine G_skip ?_ | refine G_ret ?_ | refine G_exit ?_ | refine q_tn ?_ | refine q_tr ?_ | refine q_tx ?_ | refine q_bn ?_ | refine q_br ?_ | refine q_bx ?_ | refine q_by (by decide) ?_)
    (refine FinQ hQ (congrArg Array.toList Tryz.results80) _ _ ?_); simp (disch := omega) only [u, i64, ax, if_true, forall_const, reduceCtorEq, implies_true, tvs, bf]
    all_goals rfl
set_option maxRecDepth 100000 in
set_option maxHeartbeats 2000000 in
theorem ret_Log16 (n d : Nat) (hn : (words n).length ≤ 1000) (hd : (words d).length ≤ 1000) : Ret Tryz.prog GEs 188 [nat n, nat d, i64 0] (i64 (lg n d)) := by
  have hLn := ret_rLen (words n) (Wd_words _) (by omega)
  have hLd := ret_rLen (words d) (Wd_words _) (by omega)
  rw [val_words] at hLn hLd
  have hb1 := bl_len n
  have hb2 := bl_len d
  unfold lg
  have eA : ∀ m k : Nat, bl m ≤ 64000 → k ≤ 64000 → (words (m * 2 ^ k)).length ≤ 2001 := fun m k h1 h2 => by
    by_cases h0 : m = 0
    · subst h0; rw [Nat.zero_mul]; decide
    · exact length_bl (by rw [bl_mul _ _ h0]; omega)
  by_cases hp : 0 < (bl n : Int) - bl d
  · have e1 : (-((bl n : Int) - bl d)).toNat = 0 := by omega
    have e3 : ((bl n : Int) - bl d).toNat = bl n - bl d := by omega
    have e2 : (bl n : Int) - bl d = ((bl n - bl d : Nat) : Int) := by omega
    rw [e1, e3, e2, Nat.pow_zero, Nat.mul_one]
    have hlen := eA d (bl n - bl d) (by omega) (by omega)
    have hLf := ret_rLeft (words d) (bl n - bl d) (Wd_words _) (by omega) (by omega)
    rw [val_words] at hLf
    have hC := ret_rCmp (words n) (words (d * 2 ^ (bl n - bl d))) (Wd_words _) (Wd_words _) (by omega) (by omega)
    rw [val_words, val_words] at hC
    unfold cmpI at hC
    by_cases hc : n < d * 2 ^ (bl n - bl d)
    · rw [if_pos hc] at hC ⊢
      rw [show ((bl n - bl d : Nat) : Int) - 1 = ((bl n - bl d - 1 : Nat) : Int) by omega]
      refine RetN_start Tryz.func188 (by kernel_rfl) rfl fun Q hQ hQ2 => ?_; rw [Tryz.ntmps188]; simp only [u, i64, Nat.reduceSub, Nat.reduceAdd, bm]
      repeat (first | ((first | refine Gs ?_ | refine Gr ?_); simp (disch := omega) only [u, i64, ax, eq_self, if_true, if_false, Nat.reduceAdd, Int.reduceToNat, Int.reduceAdd, tvs, bs]; first | refine aA ?_ | ((first | refine cR hLn ?_ | refine cR hLd ?_ | refine cR hLf ?_ | refine cR hC ?_); simp (disch := omega) only [u, i64, ax, eq_self, if_true, if_false, Nat.reduceAdd, Int.reduceToNat, Int.reduceAdd, tvs, bs]; try refine aA ?_)) | ((first | refine cR hLn ?_ | refine cR hLd ?_ | refine cR hLf ?_ | refine cR hC ?_); simp (disch := omega) only [u, i64, ax, eq_self, if_true, if_false, Nat.reduceAdd, Int.reduceToNat, Int.reduceAdd, tvs, bs]; try refine aA ?_) | refine G_seq ?_ | refine G_block ?_ | refine G_condT rfl ?_ | refine G_condF rfl ?_ | refine G_skip ?_ | refine G_ret ?_ | refine G_exit ?_ | refine q_tn ?_ | refine q_tr ?_ | refine q_tx ?_ | refine q_bn ?_ | refine q_br ?_ | refine q_bx ?_ | refine q_by (by decide) ?_)
      (refine FinQ hQ (congrArg Array.toList Tryz.results188) _ _ ?_); simp (disch := omega) only [u, i64, ax, if_true, forall_const, reduceCtorEq, implies_true, tvs, bf, Int.add_zero]
    · rw [if_neg hc] at hC ⊢
      have hC2 : ∃ z : Int, 0 ≤ z ∧ Ret Tryz.prog GEs 177 [ws (words n), ws (words (d * 2 ^ (bl n - bl d)))] (i64 z) := by
        split at hC
        · exact ⟨1, by decide, hC⟩
        · exact ⟨0, by decide, hC⟩
      obtain ⟨z, hz, hC⟩ := hC2
      refine RetN_start Tryz.func188 (by kernel_rfl) rfl fun Q hQ hQ2 => ?_; rw [Tryz.ntmps188]; simp only [u, i64, Nat.reduceSub, Nat.reduceAdd, bm]
      repeat (first | ((first | refine Gs ?_ | refine Gr ?_); simp (disch := omega) only [u, i64, ax, eq_self, if_true, if_false, Nat.reduceAdd, Int.reduceToNat, Int.reduceAdd, tvs, bs]; first | refine aA ?_ | ((first | refine cR hLn ?_ | refine cR hLd ?_ | refine cR hLf ?_ | refine cR hC ?_); simp (disch := omega) only [u, i64, ax, eq_self, if_true, if_false, Nat.reduceAdd, Int.reduceToNat, Int.reduceAdd, tvs, bs]; try refine aA ?_)) | ((first | refine cR hLn ?_ | refine cR hLd ?_ | refine cR hLf ?_ | refine cR hC ?_); simp (disch := omega) only [u, i64, ax, eq_self, if_true, if_false, Nat.reduceAdd, Int.reduceToNat, Int.reduceAdd, tvs, bs]; try refine aA ?_) | refine G_seq ?_ | refine G_block ?_ | refine G_condT rfl ?_ | refine G_condF rfl ?_ | refine G_skip ?_ | refine G_ret ?_ | refine G_exit ?_ | refine q_tn ?_ | refine q_tr ?_ | refine q_tx ?_ | refine q_bn ?_ | refine q_br ?_ | refine q_bx ?_ | refine q_by (by decide) ?_)
      (refine FinQ hQ (congrArg Array.toList Tryz.results188) _ _ ?_); simp (disch := omega) only [u, i64, ax, if_true, forall_const, reduceCtorEq, implies_true, tvs, bf, Int.add_zero]
  · have e1 : ((bl n : Int) - bl d).toNat = 0 := by omega
    have e2 : 0 - ((bl n : Int) - bl d) = (((-((bl n : Int) - bl d)).toNat : Nat) : Int) := by omega
    rw [e1, Nat.pow_zero, Nat.mul_one]
    have hlen := eA n (-((bl n : Int) - bl d)).toNat (by omega) (by omega)
    have hLf := ret_rLeft (words n) (-((bl n : Int) - bl d)).toNat (Wd_words _) (by omega) (by omega)
    rw [val_words, ← e2] at hLf
    have hC := ret_rCmp (words (n * 2 ^ (-((bl n : Int) - bl d)).toNat)) (words d) (Wd_words _) (Wd_words _) (by omega) (by omega)
    rw [val_words, val_words] at hC
    unfold cmpI at hC
    by_cases hc : n * 2 ^ (-((bl n : Int) - bl d)).toNat < d
    · rw [if_pos hc] at hC ⊢
      refine RetN_start Tryz.func188 (by kernel_rfl) rfl fun Q hQ hQ2 => ?_; rw [Tryz.ntmps188]; simp only [u, i64, Nat.reduceSub, Nat.reduceAdd, bm]
      repeat (first | ((first | refine Gs ?_ | refine Gr ?_); simp (disch := omega) only [u, i64, ax, eq_self, if_true, if_false, Nat.reduceAdd, Int.reduceToNat, Int.reduceAdd, tvs, bs]; first | refine aA ?_ | ((first | refine cR hLn ?_ | refine cR hLd ?_ | refine cR hLf ?_ | refine cR hC ?_); simp (disch := omega) only [u, i64, ax, eq_self, if_true, if_false, Nat.reduceAdd, Int.reduceToNat, Int.reduceAdd, tvs, bs]; try refine aA ?_)) | ((first | refine cR hLn ?_ | refine cR hLd ?_ | refine cR hLf ?_ | refine cR hC ?_); simp (disch := omega) only [u, i64, ax, eq_self, if_true, if_false, Nat.reduceAdd, Int.reduceToNat, Int.reduceAdd, tvs, bs]; try refine aA ?_) | refine G_seq ?_ | refine G_block ?_ | refine G_condT rfl ?_ | refine G_condF rfl ?_ | refine G_skip ?_ | refine G_ret ?_ | refine G_exit ?_ | refine q_tn ?_ | refine q_tr ?_ | refine q_tx ?_ | refine q_bn ?_ | refine q_br ?_ | refine q_bx ?_ | refine q_by (by decide) ?_)
      (refine FinQ hQ (congrArg Array.toList Tryz.results188) _ _ ?_); simp (disch := omega) only [u, i64, ax, if_true, forall_const, reduceCtorEq, implies_true, tvs, bf, Int.add_zero]
    · rw [if_neg hc] at hC ⊢
      have hC2 : ∃ z : Int, 0 ≤ z ∧ Ret Tryz.prog GEs 177 [ws (words (n * 2 ^ (-((bl n : Int) - bl d)).toNat)), ws (words d)] (i64 z) := by
        split at hC
        · exact ⟨1, by decide, hC⟩
        · exact ⟨0, by decide, hC⟩
      obtain ⟨z, hz, hC⟩ := hC2
      refine RetN_start Tryz.func188 (by kernel_rfl) rfl fun Q hQ hQ2 => ?_; rw [Tryz.ntmps188]; simp only [u, i64, Nat.reduceSub, Nat.reduceAdd, bm]
      repeat (first | ((first | refine Gs ?_ | refine Gr ?_); simp (disch := omega) only [u, i64, ax, eq_self, if_true, if_false, Nat.reduceAdd, Int.reduceToNat, Int.reduceAdd, tvs, bs]; first | refine aA ?_ | ((first | refine cR hLn ?_ | refine cR hLd ?_ | refine cR hLf ?_ | refine cR hC ?_); simp (disch := omega) only [u, i64, ax, eq_self, if_true, if_false, Nat.reduceAdd, Int.reduceToNat, Int.reduceAdd, tvs, bs]; try refine aA ?_)) | ((first | refine cR hLn ?_ | refine cR hLd ?_ | refine cR hLf ?_ | refine cR hC ?_); simp (disch := omega) only [u, i64, ax, eq_self, if_true, if_false, Nat.reduceAdd, Int.reduceToNat, Int.reduceAdd, tvs, bs]; try refine aA ?_) | refine G_seq ?_ | refine G_block ?_ | refine G_condT rfl ?_ | refine G_condF rfl ?_ | refine G_skip ?_ | refine G_ret ?_ | refine G_exit ?_ | refine q_tn ?_ | refine q_tr ?_ | refine q_tx ?_ | refine q_bn ?_ | refine q_br ?_ | refine q_bx ?_ | refine q_by (by decide) ?_)
      (refine FinQ hQ (congrArg Array.toList Tryz.results188) _ _ ?_); simp (disch := omega) only [u, i64, ax, if_true, forall_const, reduceCtorEq, implies_true, tvs, bf, Int.add_zero]
theorem ret_floor16 (a : Int) (h1 : -4611686018427387904 ≤ a) (h2 : a ≤ 4611686018427387904) : Ret Tryz.prog GEs 187 [i64 a, i64 1] (i64 a) := by
  have e1 : a.tmod 1 = 0 := Int.tmod_one a
  have e2 : a.tdiv 1 = a := Int.tdiv_one a
  refine RetN_start Tryz.func187 (by kernel_rfl) rfl fun Q hQ hQ2 => ?_; rw [Tryz.ntmps187]; simp only [u, i64, Nat.reduceSub, Nat.reduceAdd, bm]
  repeat (first | ((first | refine Gs ?_ | refine Gr ?_); simp (disch := omega) only [u, i64, ax, eq_self, if_true, if_false, Nat.reduceAdd, Int.reduceToNat, Int.reduceAdd, tvs, bs]; refine aA ?_) | refine G_seq ?_ | refine G_block ?_ | refine G_condT rfl ?_ | refine G_condF rfl ?_ | refine G_skip ?_ | refine G_ret ?_ | refine G_exit ?_ | refine q_tn ?_ | refine q_tr ?_ | refine q_tx ?_ | refine q_bn ?_ | refine q_br ?_ | refine q_bx ?_ | refine q_by (by decide) ?_)
  simp (disch := omega) only [u, i64, ax, eq_self, if_true, if_false, Nat.reduceAdd, Int.reduceToNat, Int.reduceAdd, tvs, bs, e1, e2]
  repeat (first | ((first | refine Gs ?_ | refine Gr ?_); simp (disch := omega) only [u, i64, ax, eq_self, if_true, if_false, Nat.reduceAdd, Int.reduceToNat, Int.reduceAdd, tvs, bs]; refine aA ?_) | refine G_seq ?_ | refine G_block ?_ | refine G_condT rfl ?_ | refine G_condF rfl ?_ | refine G_skip ?_ | refine G_ret ?_ | refine G_exit ?_ | refine q_tn ?_ | refine q_tr ?_ | refine q_tx ?_ | refine q_bn ?_ | refine q_br ?_ | refine q_bx ?_ | refine q_by (by decide) ?_)
  (refine FinQ hQ (congrArg Array.toList Tryz.results187) _ _ ?_); simp (disch := omega) only [u, i64, ax, if_true, forall_const, reduceCtorEq, implies_true, tvs, bf]
theorem ret_Exponent16 (neg : Bool) (n d : Nat) (hn : (words n).length ≤ 1000) (hd : (words d).length ≤ 1000) (hn0 : n ≠ 0) (hd0 : d ≠ 0) : Ret Tryz.prog GEs 102 [rlv neg n d] (i64 (lg n d)) := by
  have hL := ret_Log16 n d hn hd
  have hb := lg_bound hn0 hd0
  have hb1 := bl_len n
  have hb2 := bl_len d
  have hF := ret_floor16 (lg n d) (by omega) (by omega)
  refine RetN_start Tryz.func102 (by kernel_rfl) rfl fun Q hQ hQ2 => ?_; rw [Tryz.ntmps102]; simp only [u, i64, Nat.reduceSub, Nat.reduceAdd, bm]
  repeat (first | ((first | refine Gs ?_ | refine Gr ?_); simp (disch := omega) only [u, i64, ax, eq_self, if_true, if_false, Nat.reduceAdd, Int.reduceToNat, Int.reduceAdd, tvs, bs]; first | refine aA ?_ | ((first | refine cR hL ?_ | refine cR hF ?_); simp (disch := omega) only [u, i64, ax, eq_self, if_true, if_false, Nat.reduceAdd, Int.reduceToNat, Int.reduceAdd, tvs, bs]; try refine aA ?_)) | ((first | refine cR hL ?_ | refine cR hF ?_); simp (disch := omega) only [u, i64, ax, eq_self, if_true, if_false, Nat.reduceAdd, Int.reduceToNat, Int.reduceAdd, tvs, bs]; try refine aA ?_) | refine G_seq ?_ | refine G_block ?_ | refine G_condT rfl ?_ | refine G_condF rfl ?_ | refine G_skip ?_ | refine G_ret ?_ | refine G_exit ?_ | refine q_tn ?_ | refine q_tr ?_ | refine q_tx ?_ | refine q_bn ?_ | refine q_br ?_ | refine q_bx ?_ | refine q_by (by decide) ?_)
  (refine FinQ hQ (congrArg Array.toList Tryz.results102) _ _ ?_); simp (disch := omega) only [u, i64, ax, if_true, forall_const, reduceCtorEq, implies_true, tvs, bf]
end Go.Proofs
set_option linter.unusedVariables false
set_option linter.unusedSimpArgs false
namespace Go.Proofs
open Go.Ax
set_option maxRecDepth 100000 in
set_option maxHeartbeats 4000000 in
theorem ret_Steps (neg : Bool) (n d : Nat) (s : Int) (hn : (words n).length ≤ 100) (hd : (words d).length ≤ 100) (hd0 : d ≠ 0) (h1 : -100000 ≤ s) (h2 : s ≤ 100000) :
    Ret Tryz.prog GEs 167 [rlv neg n d, i64 s] (.agg [nat (stepsQ n d s / 2), .bool (decide (stepsQ n d s % 2 = 1)), .bool (!stepsX n d s)]) := by
  have eA : ∀ m k : Nat, bl m ≤ 64000 → k ≤ 200000 → (words (m * 2 ^ k)).length ≤ 5001 := fun m k h1 h2 => by
    by_cases h0 : m = 0
    · subst h0; rw [Nat.zero_mul]; decide
    · exact length_bl (by rw [bl_mul _ _ h0]; omega)
  have hbn := bl_len n
  have hbd := bl_len d
  have hDv := fun (m : Nat) (hm : (words m).length ≤ 6000) => ret_rDivMod (words m) (words d) (Wd_words _) (Wd_words _) (by rw [val_words]; exact hd0) (by omega) (by omega)
  have hZ := fun (m : Nat) (hm : (words m).length ≤ 6000) => ret_rIsZero (words m) (Wd_words _) (by omega)
  have hB := fun (m : Nat) (hm : (words m).length ≤ 6000) => ret_rBit (words m) 0 (Wd_words _) (by omega) (by omega)
  have hR1 := fun (m : Nat) (hm : (words m).length ≤ 6000) => ret_rRight (words m) 1 (Wd_words _) (by omega) (by omega)
  simp only [val_words, Nat.pow_zero, Nat.div_one, Nat.pow_one] at hDv hZ hB hR1
  unfold stepsQ stepsX
  have hs1 : -100000 ≤ 1 - s ∧ 1 - s ≤ 100001 := by omega
  have hss : s - 1 = -(1 - s) := by omega
  rw [hss]
  by_cases ha : 0 ≤ 1 - s
  · rw [if_pos ha, if_pos ha]
    have hS : 1 - s = (((1 - s).toNat : Nat) : Int) := by omega
    have hL := ret_rLeft (words n) (1 - s).toNat (Wd_words _) (by omega) (by omega)
    rw [val_words] at hL
    have hl1 := eA n (1 - s).toNat (by omega) (by omega)
    generalize (1 - s).toNat = t at *
    have hD := hDv _ (Nat.le_trans hl1 (by decide))
    have hql := Nat.le_trans (length_mono (Nat.div_le_self (n * 2 ^ t) d)) hl1
    have hrl := Nat.le_trans (length_mono (Nat.mod_le (n * 2 ^ t) d)) hl1
    have hZ1 := hZ (n * 2 ^ t % d) (by omega)
    have hB1 := hB (n * 2 ^ t / d) (by omega)
    have hR := hR1 (n * 2 ^ t / d) (by omega)
    generalize n * 2 ^ t / d = q at *
    generalize n * 2 ^ t % d = m at *
    generalize n * 2 ^ t = N at *
    have hA : (0 : Int) - 1 * (s - 1) = (t : Int) := by omega
    by_cases hm : m = 0
    · rw [decT hm] at hZ1 ⊢
      refine RetN_start Tryz.func167 (by kernel_rfl) rfl fun Q hQ hQ2 => ?_; rw [Tryz.ntmps167]; simp only [u, i64, Nat.reduceSub, Nat.reduceAdd, bm]
      repeat (first | ((first | refine Gs ?_ | refine Gr ?_); simp (disch := omega) only [u, i64, ax, eq_self, if_true, if_false, Nat.reduceAdd, Int.reduceToNat, Int.reduceAdd, tvs, bs]; refine aA ?_) | refine G_seq ?_ | refine G_block ?_ | refine G_condT rfl ?_ | refine G_condF rfl ?_ | refine G_skip ?_ | refine G_ret ?_ | refine G_exit ?_ | refine q_tn ?_ | refine q_tr ?_ | refine q_tx ?_ | refine q_bn ?_ | refine q_br ?_ | refine q_bx ?_ | refine q_by (by decide) ?_)
      ((first | refine Gs ?_ | refine Gr ?_); simp (disch := omega) only [u, i64, ax, eq_self, if_true, if_false, Nat.reduceAdd, Int.reduceToNat, Int.reduceAdd, tvs, bs])
      rw [hA]
      repeat (first | ((first | refine Gs ?_ | refine Gr ?_); simp (disch := omega) only [u, i64, ax, eq_self, if_true, if_false, Nat.reduceAdd, Int.reduceToNat, Int.reduceAdd, tvs, bs]; first | refine aA ?_ | ((first | refine cR hL ?_ | refine cR hD ?_ | refine cR hZ1 ?_ | refine cR hR ?_ | refine cR hB1 ?_); simp (disch := omega) only [u, i64, ax, eq_self, if_true, if_false, Nat.reduceAdd, Int.reduceToNat, Int.reduceAdd, tvs, bs]; try refine aA ?_)) | ((first | refine cR hL ?_ | refine cR hD ?_ | refine cR hZ1 ?_ | refine cR hR ?_ | refine cR hB1 ?_); simp (disch := omega) only [u, i64, ax, eq_self, if_true, if_false, Nat.reduceAdd, Int.reduceToNat, Int.reduceAdd, tvs, bs]; try refine aA ?_) | refine G_seq ?_ | refine G_block ?_ | refine G_condT rfl ?_ | refine G_condF rfl ?_ | refine G_skip ?_ | refine G_ret ?_ | refine G_exit ?_ | refine q_tn ?_ | refine q_tr ?_ | refine q_tx ?_ | refine q_bn ?_ | refine q_br ?_ | refine q_bx ?_ | refine q_by (by decide) ?_)
      (refine FinQ hQ (congrArg Array.toList Tryz.results167) _ _ ?_); simp (disch := omega) only [u, i64, ax, if_true, forall_const, reduceCtorEq, implies_true, tvs, bf]
      all_goals rfl
    · rw [decF hm] at hZ1 ⊢
      refine RetN_start Tryz.func167 (by kernel_rfl) rfl fun Q hQ hQ2 => ?_; rw [Tryz.ntmps167]; simp only [u, i64, Nat.reduceSub, Nat.reduceAdd, bm]
      repeat (first | ((first | refine Gs ?_ | refine Gr ?_); simp (disch := omega) only [u, i64, ax, eq_self, if_true, if_false, Nat.reduceAdd, Int.reduceToNat, Int.reduceAdd, tvs, bs]; refine aA ?_) | refine G_seq ?_ | refine G_block ?_ | refine G_condT rfl ?_ | refine G_condF rfl ?_ | refine G_skip ?_ | refine G_ret ?_ | refine G_exit ?_ | refine q_tn ?_ | refine q_tr ?_ | refine q_tx ?_ | refine q_bn ?_ | refine q_br ?_ | refine q_bx ?_ | refine q_by (by decide) ?_)
      ((first | refine Gs ?_ | refine Gr ?_); simp (disch := omega) only [u, i64, ax, eq_self, if_true, if_false, Nat.reduceAdd, Int.reduceToNat, Int.reduceAdd, tvs, bs])
      rw [hA]
      repeat (first | ((first | refine Gs ?_ | refine Gr ?_); simp (disch := omega) only [u, i64, ax, eq_self, if_true, if_false, Nat.reduceAdd, Int.reduceToNat, Int.reduceAdd, tvs, bs]; first | refine aA ?_ | ((first | refine cR hL ?_ | refine cR hD ?_ | refine cR hZ1 ?_ | refine cR hR ?_ | refine cR hB1 ?_); simp (disch := omega) only [u, i64, ax, eq_self, if_true, if_false, Nat.reduceAdd, Int.reduceToNat, Int.reduceAdd, tvs, bs]; try refine aA ?_)) | ((first | refine cR hL ?_ | refine cR hD ?_ | refine cR hZ1 ?_ | refine cR hR ?_ | refine cR hB1 ?_); simp (disch := omega) only [u, i64, ax, eq_self, if_true, if_false, Nat.reduceAdd, Int.reduceToNat, Int.reduceAdd, tvs, bs]; try refine aA ?_) | refine G_seq ?_ | refine G_block ?_ | refine G_condT rfl ?_ | refine G_condF rfl ?_ | refine G_skip ?_ | refine G_ret ?_ | refine G_exit ?_ | refine q_tn ?_ | refine q_tr ?_ | refine q_tx ?_ | refine q_bn ?_ | refine q_br ?_ | refine q_bx ?_ | refine q_by (by decide) ?_)
      (refine FinQ hQ (congrArg Array.toList Tryz.results167) _ _ ?_); simp (disch := omega) only [u, i64, ax, if_true, forall_const, reduceCtorEq, implies_true, tvs, bf]
      all_goals rfl
  · rw [if_neg ha, if_neg ha]
    have hS : (0 : Int) - (0 - 1 * (s - 1)) = (((-(1 - s)).toNat : Nat) : Int) := by omega
    have hl0 : (words (n / d)).length ≤ 100 := Nat.le_trans (length_mono (Nat.div_le_self n d)) hn
    have hR0 := ret_rRight (words (n / d)) (-(1 - s)).toNat (Wd_words _) (by omega) (by omega)
    have hLw := ret_rLow (words (n / d)) (-(1 - s)).toNat (Wd_words _) (by omega) (by omega)
    rw [val_words] at hR0 hLw
    generalize (-(1 - s)).toNat = t at *
    have hD := hDv n (by omega)
    have hrl := Nat.le_trans (length_mono (Nat.mod_le n d)) hn
    have hql := Nat.le_trans (length_mono (Nat.div_le_self (n / d) (2 ^ t))) hl0
    have hwl := Nat.le_trans (length_mono (Nat.mod_le (n / d) (2 ^ t))) hl0
    have hZ1 := hZ (n % d) (by omega)
    have hZ2 := hZ (n / d % 2 ^ t) (by omega)
    have hB1 := hB (n / d / 2 ^ t) (by omega)
    have hR := hR1 (n / d / 2 ^ t) (by omega)
    generalize n / d / 2 ^ t = q at *
    generalize n / d % 2 ^ t = lw at *
    generalize n % d = m at *
    generalize n / d = Q0 at *
    by_cases hm : m = 0
    · rw [decT hm] at hZ1
      rw [decT hm, Bool.true_and]
      by_cases hw : lw = 0
      · rw [decT hw] at hZ2 ⊢
        refine RetN_start Tryz.func167 (by kernel_rfl) rfl fun Q hQ hQ2 => ?_; rw [Tryz.ntmps167]; simp only [u, i64, Nat.reduceSub, Nat.reduceAdd, bm]
        repeat (first | ((first | refine Gs ?_ | refine Gr ?_); simp (disch := omega) only [u, i64, ax, eq_self, if_true, if_false, Nat.reduceAdd, Int.reduceToNat, Int.reduceAdd, tvs, bs]; first | refine aA ?_ | (refine cR hD ?_; simp (disch := omega) only [u, i64, ax, eq_self, if_true, if_false, Nat.reduceAdd, Int.reduceToNat, Int.reduceAdd, tvs, bs]; try refine aA ?_)) | (refine cR hD ?_; simp (disch := omega) only [u, i64, ax, eq_self, if_true, if_false, Nat.reduceAdd, Int.reduceToNat, Int.reduceAdd, tvs, bs]; try refine aA ?_) | refine G_seq ?_ | refine G_block ?_ | refine G_condT rfl ?_ | refine G_condF rfl ?_ | refine G_skip ?_ | refine G_ret ?_ | refine G_exit ?_ | refine q_tn ?_ | refine q_tr ?_ | refine q_tx ?_ | refine q_bn ?_ | refine q_br ?_ | refine q_bx ?_ | refine q_by (by decide) ?_)
        ((first | refine Gs ?_ | refine Gr ?_); simp (disch := omega) only [u, i64, ax, eq_self, if_true, if_false, Nat.reduceAdd, Int.reduceToNat, Int.reduceAdd, tvs, bs])
        rw [hS]
        repeat (first | ((first | refine Gs ?_ | refine Gr ?_); simp (disch := omega) only [u, i64, ax, eq_self, if_true, if_false, Nat.reduceAdd, Int.reduceToNat, Int.reduceAdd, tvs, bs]; first | refine aA ?_ | (refine cR hR0 ?_; simp (disch := omega) only [u, i64, ax, eq_self, if_true, if_false, Nat.reduceAdd, Int.reduceToNat, Int.reduceAdd, tvs, bs]; try refine aA ?_)) | (refine cR hR0 ?_; simp (disch := omega) only [u, i64, ax, eq_self, if_true, if_false, Nat.reduceAdd, Int.reduceToNat, Int.reduceAdd, tvs, bs]; try refine aA ?_) | refine G_seq ?_ | refine G_block ?_ | refine G_condT rfl ?_ | refine G_condF rfl ?_ | refine G_skip ?_ | refine G_ret ?_ | refine G_exit ?_ | refine q_tn ?_ | refine q_tr ?_ | refine q_tx ?_ | refine q_bn ?_ | refine q_br ?_ | refine q_bx ?_ | refine q_by (by decide) ?_)
        ((first | refine Gs ?_ | refine Gr ?_); simp (disch := omega) only [u, i64, ax, eq_self, if_true, if_false, Nat.reduceAdd, Int.reduceToNat, Int.reduceAdd, tvs, bs])
        (refine cR hZ1 ?_; simp (disch := omega) only [u, i64, ax, eq_self, if_true, if_false, Nat.reduceAdd, Int.reduceToNat, Int.reduceAdd, tvs, bs]; try refine aA ?_)
        rw [hS]
        repeat (first | ((first | refine Gs ?_ | refine Gr ?_); simp (disch := omega) only [u, i64, ax, eq_self, if_true, if_false, Nat.reduceAdd, Int.reduceToNat, Int.reduceAdd, tvs, bs]; first | refine aA ?_ | ((first | refine cR hLw ?_ | refine cR hZ2 ?_ | refine cR hR ?_ | refine cR hB1 ?_); simp (disch := omega) only [u, i64, ax, eq_self, if_true, if_false, Nat.reduceAdd, Int.reduceToNat, Int.reduceAdd, tvs, bs]; try refine aA ?_)) | ((first | refine cR hLw ?_ | refine cR hZ2 ?_ | refine cR hR ?_ | refine cR hB1 ?_); simp (disch := omega) only [u, i64, ax, eq_self, if_true, if_false, Nat.reduceAdd, Int.reduceToNat, Int.reduceAdd, tvs, bs]; try refine aA ?_) | refine G_seq ?_ | refine G_block ?_ | refine G_condT rfl ?_ | refine G_condF rfl ?_ | refine G_skip ?_ | refine G_ret ?_ | refine G_exit ?_ | refine q_tn ?_ | refine q_tr ?_ | refine q_tx ?_ | refine q_bn ?_ | refine q_br ?_ | refine q_bx ?_ | refine q_by (by decide) ?_)
        (refine FinQ hQ (congrArg Array.toList Tryz.results167) _ _ ?_); simp (disch := omega) only [u, i64, ax, if_true, forall_const, reduceCtorEq, implies_true, tvs, bf]
        all_goals rfl
      · rw [decF hw] at hZ2 ⊢
        refine RetN_start Tryz.func167 (by kernel_rfl) rfl fun Q hQ hQ2 => ?_; rw [Tryz.ntmps167]; simp only [u, i64, Nat.reduceSub, Nat.reduceAdd, bm]
        repeat (first | ((first | refine Gs ?_ | refine Gr ?_); simp (disch := omega) only [u, i64, ax, eq_self, if_true, if_false, Nat.reduceAdd, Int.reduceToNat, Int.reduceAdd, tvs, bs]; first | refine aA ?_ | (refine cR hD ?_; simp (disch := omega) only [u, i64, ax, eq_self, if_true, if_false, Nat.reduceAdd, Int.reduceToNat, Int.reduceAdd, tvs, bs]; try refine aA ?_)) | (refine cR hD ?_; simp (disch := omega) only [u, i64, ax, eq_self, if_true, if_false, Nat.reduceAdd, Int.reduceToNat, Int.reduceAdd, tvs, bs]; try refine aA ?_) | refine G_seq ?_ | refine G_block ?_ | refine G_condT rfl ?_ | refine G_condF rfl ?_ | refine G_skip ?_ | refine G_ret ?_ | refine G_exit ?_ | refine q_tn ?_ | refine q_tr ?_ | refine q_tx ?_ | refine q_bn ?_ | refine q_br ?_ | refine q_bx ?_ | refine q_by (by decide) ?_)
        ((first | refine Gs ?_ | refine Gr ?_); simp (disch := omega) only [u, i64, ax, eq_self, if_true, if_false, Nat.reduceAdd, Int.reduceToNat, Int.reduceAdd, tvs, bs])
        rw [hS]
        repeat (first | ((first | refine Gs ?_ | refine Gr ?_); simp (disch := omega) only [u, i64, ax, eq_self, if_true, if_false, Nat.reduceAdd, Int.reduceToNat, Int.reduceAdd, tvs, bs]; first | refine aA ?_ | (refine cR hR0 ?_; simp (disch := omega) only [u, i64, ax, eq_self, if_true, if_false, Nat.reduceAdd, Int.reduceToNat, Int.reduceAdd, tvs, bs]; try refine aA ?_)) | (refine cR hR0 ?_; simp (disch := omega) only [u, i64, ax, eq_self, if_true, if_false, Nat.reduceAdd, Int.reduceToNat, Int.reduceAdd, tvs, bs]; try refine aA ?_) | refine G_seq ?_ | refine G_block ?_ | refine G_condT rfl ?_ | refine G_condF rfl ?_ | refine G_skip ?_ | refine G_ret ?_ | refine G_exit ?_ | refine q_tn ?_ | refine q_tr ?_ | refine q_tx ?_ | refine q_bn ?_ | refine q_br ?_ | refine q_bx ?_ | refine q_by (by decide) ?_)
        ((first | refine Gs ?_ | refine Gr ?_); simp (disch := omega) only [u, i64, ax, eq_self, if_true, if_false, Nat.reduceAdd, Int.reduceToNat, Int.reduceAdd, tvs, bs])
        (refine cR hZ1 ?_; simp (disch := omega) only [u, i64, ax, eq_self, if_true, if_false, Nat.reduceAdd, Int.reduceToNat, Int.reduceAdd, tvs, bs]; try refine aA ?_)
        rw [hS]
        repeat (first | ((first | refine Gs ?_ | refine Gr ?_); simp (disch := omega) only [u, i64, ax, eq_self, if_true, if_false, Nat.reduceAdd, Int.reduceToNat, Int.reduceAdd, tvs, bs]; first | refine aA ?_ | ((first | refine cR hLw ?_ | refine cR hZ2 ?_ | refine cR hR ?_ | refine cR hB1 ?_); simp (disch := omega) only [u, i64, ax, eq_self, if_true, if_false, Nat.reduceAdd, Int.reduceToNat, Int.reduceAdd, tvs, bs]; try refine aA ?_)) | ((first | refine cR hLw ?_ | refine cR hZ2 ?_ | refine cR hR ?_ | refine cR hB1 ?_); simp (disch := omega) only [u, i64, ax, eq_self, if_true, if_false, Nat.reduceAdd, Int.reduceToNat, Int.reduceAdd, tvs, bs]; try refine aA ?_) | refine G_seq ?_ | refine G_block ?_ | refine G_condT rfl ?_ | refine G_condF rfl ?_ | refine G_skip ?_ | refine G_ret ?_ | refine G_exit ?_ | refine q_tn ?_ | refine q_tr ?_ | refine q_tx ?_ | refine q_bn ?_ | refine q_br ?_ | refine q_bx ?_ | refine q_by (by decide) ?_)
        (refine FinQ hQ (congrArg Array.toList Tryz.results167) _ _ ?_); simp (disch := omega) only [u, i64, ax, if_true, forall_const, reduceCtorEq, implies_true, tvs, bf]
        all_goals rfl
    · rw [decF hm] at hZ1
      rw [decF hm, Bool.false_and]
      refine RetN_start Tryz.func167 (by kernel_rfl) rfl fun Q hQ hQ2 => ?_; rw [Tryz.ntmps167]; simp only [u, i64, Nat.reduceSub, Nat.reduceAdd, bm]
      repeat (first | ((first | refine Gs ?_ | refine Gr ?_); simp (disch := omega) only [u, i64, ax, eq_self, if_true, if_false, Nat.reduceAdd, Int.reduceToNat, Int.reduceAdd, tvs, bs]; first | refine aA ?_ | (refine cR hD ?_; simp (disch := omega) only [u, i64, ax, eq_self, if_true, if_false, Nat.reduceAdd, Int.reduceToNat, Int.reduceAdd, tvs, bs]; try refine aA ?_)) | (refine cR hD ?_; simp (disch := omega) only [u, i64, ax, eq_self, if_true, if_false, Nat.reduceAdd, Int.reduceToNat, Int.reduceAdd, tvs, bs]; try refine aA ?_) | refine G_seq ?_ | refine G_block ?_ | refine G_condT rfl ?_ | refine G_condF rfl ?_ | refine G_skip ?_ | refine G_ret ?_ | refine G_exit ?_ | refine q_tn ?_ | refine q_tr ?_ | refine q_tx ?_ | refine q_bn ?_ | refine q_br ?_ | refine q_bx ?_ | refine q_by (by decide) ?_)
      ((first | refine Gs ?_ | refine Gr ?_); simp (disch := omega) only [u, i64, ax, eq_self, if_true, if_false, Nat.reduceAdd, Int.reduceToNat, Int.reduceAdd, tvs, bs])
      rw [hS]
      repeat (first | ((first | refine Gs ?_ | refine Gr ?_); simp (disch := omega) only [u, i64, ax, eq_self, if_true, if_false, Nat.reduceAdd, Int.reduceToNat, Int.reduceAdd, tvs, bs]; first | refine aA ?_ | ((first | refine cR hR0 ?_ | refine cR hZ1 ?_ | refine cR hR ?_ | refine cR hB1 ?_); simp (disch := omega) only [u, i64, ax, eq_self, if_true, if_false, Nat.reduceAdd, Int.reduceToNat, Int.reduceAdd, tvs, bs]; try refine aA ?_)) | ((first | refine cR hR0 ?_ | refine cR hZ1 ?_ | refine cR hR ?_ | refine cR hB1 ?_); simp (disch := omega) only [u, i64, ax, eq_self, if_true, if_false, Nat.reduceAdd, Int.reduceToNat, Int.reduceAdd, tvs, bs]; try refine aA ?_) | refine G_seq ?_ | refine G_block ?_ | refine G_condT rfl ?_ | refine G_condF rfl ?_ | refine G_skip ?_ | refine G_ret ?_ | refine G_exit ?_ | refine q_tn ?_ | refine q_tr ?_ | refine q_tx ?_ | refine q_bn ?_ | refine q_br ?_ | refine q_bx ?_ | refine q_by (by decide) ?_)
      (refine FinQ hQ (congrArg Array.toList Tryz.results167) _ _ ?_); simp (disch := omega) only [u, i64, ax, if_true, forall_const, reduceCtorEq, implies_true, tvs, bf]
      all_goals rfl
end Go.Proofs
set_option linter.unusedVariables false
set_option linter.unusedSimpArgs false
namespace Go.Proofs
open Go.Ax
set_option maxRecDepth 100000 in
set_option maxHeartbeats 1000000 in
theorem ret_Top15 (k p : Nat) (h : okFm k p) : Ret Tryz.prog GEs 231 [.agg [i64 k, i64 p]] (.agg [i64 1, .bool false, i64 (gF k - p + 1), nat (2 ^ p - 1)]) := by
  have hg := gF_le (k := k) (by omega) (by omega)
  have hF := ret_rFromWord 1 (by decide)
  have hw1 : (words 1).length ≤ 1 := length_le (by decide)
  have hG := ret_Greatest15 k p (by omega) (by omega)
  have hL := ret_rLeft (words 1) p (Wd_words _) (by omega) (by omega)
  rw [val_words, Nat.one_mul] at hL
  have hl : (words (2 ^ p)).length ≤ 5 := le_pow_words (Nat.le_refl _) (by omega)
  have hp1 := Nat.two_pow_pos p
  have hne : words (2 ^ p) ≠ [] := fun h => by have := words_eq_nil.1 h; omega
  have hS := ret_rSub (words (2 ^ p)) (words 1) (Wd_words _) (Wd_words _) hne (by omega) (by omega) (by rw [val_words, val_words]; omega)
  rw [val_words, val_words] at hS
  generalize gF k = G at *
  generalize 2 ^ p = P2 at *
  refine RetN_start Tryz.func231 (by kernel_rfl) rfl fun Q hQ hQ2 => ?_; rw [Tryz.ntmps231]; simp only [u, i64, Nat.reduceSub, Nat.reduceAdd, bm]
  repeat (first | ((first | refine Gs ?_ | refine Gr ?_); simp (disch := omega) only [u, i64, ax, eq_self, if_true, if_false, Nat.reduceAdd, Int.reduceToNat, Int.reduceAdd, tvs, bs]; first | refine aA ?_ | ((first | refine cR hF ?_ | refine cR hG ?_ | refine cR hL ?_ | refine cR hS ?_); simp (disch := omega) only [u, i64, ax, eq_self, if_true, if_false, Nat.reduceAdd, Int.reduceToNat, Int.reduceAdd, tvs, bs]; try refine aA ?_)) | ((first | refine cR hF ?_ | refine cR hG ?_ | refine cR hL ?_ | refine cR hS ?_); simp (disch := omega) only [u, i64, ax, eq_self, if_true, if_false, Nat.reduceAdd, Int.reduceToNat, Int.reduceAdd, tvs, bs]; try refine aA ?_) | refine G_seq ?_ | refine G_block ?_ | refine G_condT rfl ?_ | refine G_condF rfl ?_ | refine G_skip ?_ | refine G_ret ?_ | refine G_exit ?_ | refine q_tn ?_ | refine q_tr ?_ | refine q_tx ?_ | refine q_bn ?_ | refine q_br ?_ | refine q_bx ?_ | refine q_by (by decide) ?_)
  (refine FinQ hQ (congrArg Array.toList Tryz.results231) _ _ ?_); simp (disch := omega) only [u, i64, ax, if_true, forall_const, reduceCtorEq, implies_true, tvs, bf]
  all_goals rfl
set_option maxRecDepth 100000 in
set_option maxHeartbeats 1000000 in
theorem ret_beyond16 (k p r : Nat) (h : okFm k p) (hr : r ≤ 4) (neg : Bool) : Ret Tryz.prog GEs 166 [.agg [i64 k, i64 p], i64 r, .bool neg] (flv (overF p (gF k) r neg)) := by
  have hT := ret_Top15 k p h
  have h5 : r = 0 ∨ r = 1 ∨ r = 2 ∨ r = 3 ∨ r = 4 := by omega
  rcases h5 with rfl | rfl | rfl | rfl | rfl
  · show Ret Tryz.prog GEs 166 [.agg [i64 k, i64 p], i64 0, .bool neg] (.agg [i64 2, .bool neg, i64 0, ws []])
    refine RetN_start Tryz.func166 (by kernel_rfl) rfl fun Q hQ hQ2 => ?_; rw [Tryz.ntmps166]; simp only [u, i64, Nat.reduceSub, Nat.reduceAdd, bm]
    repeat (first | ((first | refine Gs ?_ | refine Gr ?_); simp (disch := omega) only [u, i64, ax, eq_self, if_true, if_false, Nat.reduceAdd, Int.reduceToNat, Int.reduceAdd, tvs, bs]; refine aA ?_) | refine G_seq ?_ | refine G_block ?_ | refine G_condT rfl ?_ | refine G_condF rfl ?_ | refine G_skip ?_ | refine G_ret ?_ | refine G_exit ?_ | refine q_tn ?_ | refine q_tr ?_ | refine q_tx ?_ | refine q_bn ?_ | refine q_br ?_ | refine q_bx ?_ | refine q_by (by decide) ?_)
    (refine FinQ hQ (congrArg Array.toList Tryz.results166) _ _ ?_); simp (disch := omega) only [u, i64, ax, if_true, forall_const, reduceCtorEq, implies_true, tvs, bf]
    all_goals rfl
  · show Ret Tryz.prog GEs 166 [.agg [i64 k, i64 p], i64 1, .bool neg] (.agg [i64 2, .bool neg, i64 0, ws []])
    refine RetN_start Tryz.func166 (by kernel_rfl) rfl fun Q hQ hQ2 => ?_; rw [Tryz.ntmps166]; simp only [u, i64, Nat.reduceSub, Nat.reduceAdd, bm]
    repeat (first | ((first | refine Gs ?_ | refine Gr ?_); simp (disch := omega) only [u, i64, ax, eq_self, if_true, if_false, Nat.reduceAdd, Int.reduceToNat, Int.reduceAdd, tvs, bs]; refine aA ?_) | refine G_seq ?_ | refine G_block ?_ | refine G_condT rfl ?_ | refine G_condF rfl ?_ | refine G_skip ?_ | refine G_ret ?_ | refine G_exit ?_ | refine q_tn ?_ | refine q_tr ?_ | refine q_tx ?_ | refine q_bn ?_ | refine q_br ?_ | refine q_bx ?_ | refine q_by (by decide) ?_)
    (refine FinQ hQ (congrArg Array.toList Tryz.results166) _ _ ?_); simp (disch := omega) only [u, i64, ax, if_true, forall_const, reduceCtorEq, implies_true, tvs, bf]
    all_goals rfl
  · show Ret Tryz.prog GEs 166 [.agg [i64 k, i64 p], i64 2, .bool neg] (.agg [i64 1, .bool neg, i64 (gF k - p + 1), nat (2 ^ p - 1)])
    refine RetN_start Tryz.func166 (by kernel_rfl) rfl fun Q hQ hQ2 => ?_; rw [Tryz.ntmps166]; simp only [u, i64, Nat.reduceSub, Nat.reduceAdd, bm]
    repeat (first | ((first | refine Gs ?_ | refine Gr ?_); simp (disch := omega) only [u, i64, ax, eq_self, if_true, if_false, Nat.reduceAdd, Int.reduceToNat, Int.reduceAdd, tvs, bs]; first | refine aA ?_ | (refine cR hT ?_; simp (disch := omega) only [u, i64, ax, eq_self, if_true, if_false, Nat.reduceAdd, Int.reduceToNat, Int.reduceAdd, tvs, bs]; try refine aA ?_)) | (refine cR hT ?_; simp (disch := omega) only [u, i64, ax, eq_self, if_true, if_false, Nat.reduceAdd, Int.reduceToNat, Int.reduceAdd, tvs, bs]; try refine aA ?_) | refine G_seq ?_ | refine G_block ?_ | refine G_condT rfl ?_ | refine G_condF rfl ?_ | refine G_skip ?_ | refine G_ret ?_ | refine G_exit ?_ | refine q_tn ?_ | refine q_tr ?_ | refine q_tx ?_ | refine q_bn ?_ | refine q_br ?_ | refine q_bx ?_ | refine q_by (by decide) ?_)
    (refine FinQ hQ (congrArg Array.toList Tryz.results166) _ _ ?_); simp (disch := omega) only [u, i64, ax, if_true, forall_const, reduceCtorEq, implies_true, tvs, bf]
    all_goals rfl
  · cases neg with
    | true =>
      show Ret Tryz.prog GEs 166 [.agg [i64 k, i64 p], i64 3, .bool true] (.agg [i64 1, .bool true, i64 (gF k - p + 1), nat (2 ^ p - 1)])
      refine RetN_start Tryz.func166 (by kernel_rfl) rfl fun Q hQ hQ2 => ?_; rw [Tryz.ntmps166]; simp only [u, i64, Nat.reduceSub, Nat.reduceAdd, bm]
      repeat (first | ((first | refine Gs ?_ | refine Gr ?_); simp (disch := omega) only [u, i64, ax, eq_self, if_true, if_false, Nat.reduceAdd, Int.reduceToNat, Int.reduceAdd, tvs, bs]; first | refine aA ?_ | (refine cR hT ?_; simp (disch := omega) only [u, i64, ax, eq_self, if_true, if_false, Nat.reduceAdd, Int.reduceToNat, Int.reduceAdd, tvs, bs]; try refine aA ?_)) | (refine cR hT ?_; simp (disch := omega) only [u, i64, ax, eq_self, if_true, if_false, Nat.reduceAdd, Int.reduceToNat, Int.reduceAdd, tvs, bs]; try refine aA ?_) | refine G_seq ?_ | refine G_block ?_ | refine G_condT rfl ?_ | refine G_condF rfl ?_ | refine G_skip ?_ | refine G_ret ?_ | refine G_exit ?_ | refine q_tn ?_ | refine q_tr ?_ | refine q_tx ?_ | refine q_bn ?_ | refine q_br ?_ | refine q_bx ?_ | refine q_by (by decide) ?_)
      (refine FinQ hQ (congrArg Array.toList Tryz.results166) _ _ ?_); simp (disch := omega) only [u, i64, ax, if_true, forall_const, reduceCtorEq, implies_true, tvs, bf]
      all_goals rfl
    | false =>
      show Ret Tryz.prog GEs 166 [.agg [i64 k, i64 p], i64 3, .bool false] (.agg [i64 2, .bool false, i64 0, ws []])
      refine RetN_start Tryz.func166 (by kernel_rfl) rfl fun Q hQ hQ2 => ?_; rw [Tryz.ntmps166]; simp only [u, i64, Nat.reduceSub, Nat.reduceAdd, bm]
      repeat (first | ((first | refine Gs ?_ | refine Gr ?_); simp (disch := omega) only [u, i64, ax, eq_self, if_true, if_false, Nat.reduceAdd, Int.reduceToNat, Int.reduceAdd, tvs, bs]; refine aA ?_) | refine G_seq ?_ | refine G_block ?_ | refine G_condT rfl ?_ | refine G_condF rfl ?_ | refine G_skip ?_ | refine G_ret ?_ | refine G_exit ?_ | refine q_tn ?_ | refine q_tr ?_ | refine q_tx ?_ | refine q_bn ?_ | refine q_br ?_ | refine q_bx ?_ | refine q_by (by decide) ?_)
      (refine FinQ hQ (congrArg Array.toList Tryz.results166) _ _ ?_); simp (disch := omega) only [u, i64, ax, if_true, forall_const, reduceCtorEq, implies_true, tvs, bf]
      all_goals rfl
  · cases neg with
    | true =>
      show Ret Tryz.prog GEs 166 [.agg [i64 k, i64 p], i64 4, .bool true] (.agg [i64 2, .bool true, i64 0, ws []])
      refine RetN_start Tryz.func166 (by kernel_rfl) rfl fun Q hQ hQ2 => ?_; rw [Tryz.ntmps166]; simp only [u, i64, Nat.reduceSub, Nat.reduceAdd, bm]
      repeat (first | ((first | refine Gs ?_ | refine Gr ?_); simp (disch := omega) only [u, i64, ax, eq_self, if_true, if_false, Nat.reduceAdd, Int.reduceToNat, Int.reduceAdd, tvs, bs]; refine aA ?_) | refine G_seq ?_ | refine G_block ?_ | refine G_condT rfl ?_ | refine G_condF rfl ?_ | refine G_skip ?_ | refine G_ret ?_ | refine G_exit ?_ | refine q_tn ?_ | refine q_tr ?_ | refine q_tx ?_ | refine q_bn ?_ | refine q_br ?_ | refine q_bx ?_ | refine q_by (by decide) ?_)
      (refine FinQ hQ (congrArg Array.toList Tryz.results166) _ _ ?_); simp (disch := omega) only [u, i64, ax, if_true, forall_const, reduceCtorEq, implies_true, tvs, bf]
      all_goals rfl
    | false =>
      show Ret Tryz.prog GEs 166 [.agg [i64 k, i64 p], i64 4, .bool false] (.agg [i64 1, .bool false, i64 (gF k - p + 1), nat (2 ^ p - 1)])
      refine RetN_start Tryz.func166 (by kernel_rfl) rfl fun Q hQ hQ2 => ?_; rw [Tryz.ntmps166]; simp only [u, i64, Nat.reduceSub, Nat.reduceAdd, bm]
      repeat (first | ((first | refine Gs ?_ | refine Gr ?_); simp (disch := omega) only [u, i64, ax, eq_self, if_true, if_false, Nat.reduceAdd, Int.reduceToNat, Int.reduceAdd, tvs, bs]; first | refine aA ?_ | (refine cR hT ?_; simp (disch := omega) only [u, i64, ax, eq_self, if_true, if_false, Nat.reduceAdd, Int.reduceToNat, Int.reduceAdd, tvs, bs]; try refine aA ?_)) | (refine cR hT ?_; simp (disch := omega) only [u, i64, ax, eq_self, if_true, if_false, Nat.reduceAdd, Int.reduceToNat, Int.reduceAdd, tvs, bs]; try refine aA ?_) | refine G_seq ?_ | refine G_block ?_ | refine G_condT rfl ?_ | refine G_condF rfl ?_ | refine G_skip ?_ | refine G_ret ?_ | refine G_exit ?_ | refine q_tn ?_ | refine q_tr ?_ | refine q_tx ?_ | refine q_bn ?_ | refine q_br ?_ | refine q_bx ?_ | refine q_by (by decide) ?_)
      (refine FinQ hQ (congrArg Array.toList Tryz.results166) _ _ ?_); simp (disch := omega) only [u, i64, ax, if_true, forall_const, reduceCtorEq, implies_true, tvs, bf]
      all_goals rfl
set_option maxRecDepth 100000 in
set_option maxHeartbeats 4000000 in
theorem ret_Round16 (k p r : Nat) (h : okFm k p) (hr : r ≤ 4) (neg : Bool) (n d : Nat) (hn : (words n).length ≤ 40) (hd : (words d).length ≤ 40) (hn0 : n ≠ 0) (hd0 : d ≠ 0) :
    Ret Tryz.prog GEs 79 [.agg [i64 k, i64 p], i64 r, rlv neg n d] (.tup [flv (rndF p (gF k) r neg n d).1, i64 (rndF p (gF k) r neg n d).2]) := by
  have hg := gF_le (k := k) (by omega) (by omega)
  rw [← refF_eq p (gF k) r hr neg n d (by omega) hg.1 hn0 hd0]
  have hE := ret_Exponent16 neg n d (by omega) (by omega) hn0 hd0
  have hG := ret_Greatest15 k p (by omega) (by omega)
  have hLs := ret_Least15 k p (by omega) (by omega)
  have hby := ret_beyond16 k p r h hr neg
  have hb1 := bl_len n
  have hb2 := bl_len d
  have hlb := lg_bound hn0 hd0
  unfold refF
  simp only
  generalize hsd : max (lg n d) (1 - gF k) - (p : Int) + 1 = s
  have hs1 : -100000 ≤ s ∧ s ≤ 100000 := by omega
  have hSt := ret_Steps neg n d s (by omega) (by omega) hd0 hs1.1 hs1.2
  have hql : (words (stepsQ n d s / 2)).length ≤ 5001 := by
    obtain ⟨e1, _⟩ := steps_eq n d s (Nat.pos_of_ne_zero hd0)
    rw [e1]
    have h0 : 2 * nu n s / de d s / 2 ≤ nu n s := Nat.le_trans (by rw [Nat.div_div_eq_div_mul, Nat.mul_comm (de d s) 2, Nat.mul_div_mul_left _ _ (by decide)]; exact Nat.div_le_self _ _) (Nat.le_refl _)
    refine Nat.le_trans (length_mono h0) ?_
    refine length_bl ?_
    unfold nu
    rw [bl_mul _ _ hn0]
    omega
  have hRd := ret_Rounded r hr neg (stepsQ n d s / 2) (decide (stepsQ n d s % 2 = 1)) (!stepsX n d s) (by omega)
  have hNl : (words (rndR r neg (stepsQ n d s / 2) (decide (stepsQ n d s % 2 = 1)) (!stepsX n d s))).length ≤ 5002 := by
    have h1 := length_add (stepsQ n d s / 2) (if ((decide (stepsQ n d s % 2 = 1) || !stepsX n d s) && upR r neg (stepsQ n d s / 2) (decide (stepsQ n d s % 2 = 1)) (!stepsX n d s)) = true then 1 else 0)
    have h3 : (words (if ((decide (stepsQ n d s % 2 = 1) || !stepsX n d s) && upR r neg (stepsQ n d s / 2) (decide (stepsQ n d s % 2 = 1)) (!stepsX n d s)) = true then 1 else 0)).length ≤ 1 := length_le (by split <;> decide)
    unfold rndR
    omega
  generalize rndR r neg (stepsQ n d s / 2) (decide (stepsQ n d s % 2 = 1)) (!stepsX n d s) = N at *
  generalize (!(decide (stepsQ n d s % 2 = 1)) && !(!stepsX n d s)) = ex at *
  generalize stepsQ n d s / 2 = q at *
  generalize decide (stepsQ n d s % 2 = 1) = hf at *
  generalize (!stepsX n d s) = rs at *
  have hLN := ret_rLen (words N) (Wd_words _) (by omega)
  have hZ := ret_rIsZero (words N) (Wd_words _) (by omega)
  rw [val_words] at hLN hZ
  have hbN := bl_len N
  have hC := fun (h0 : N ≠ 0) => ret_Canonical15 ⟨1, neg, s, N⟩ (by show (words N).length ≤ 1000000; omega) (fun _ => h0) (by show _ ≤ s; omega) (by show s ≤ _; omega)
  have hcn : canF ⟨1, neg, s, N⟩ = mkF neg N s := rfl
  rw [hcn] at hC
  generalize overF p (gF k) r neg = ov at *
  generalize mkF neg N s = y at *
  generalize gF k = G at *
  generalize lg n d = e at *
  have hmx : max e (1 - G) - (p : Int) + 1 = s := hsd
  unfold flv at *
  simp only at hC
  by_cases c1 : G < e
  · rw [if_pos c1]
    refine RetN_start Tryz.func79 (by kernel_rfl) rfl fun Q hQ hQ2 => ?_; rw [Tryz.ntmps79]; simp only [u, i64, Nat.reduceSub, Nat.reduceAdd, bm]
    repeat (first | ((first | refine Gs ?_ | refine Gr ?_); simp (disch := omega) only [u, i64, ax, eq_self, if_true, if_false, Nat.reduceAdd, Int.reduceToNat, Int.reduceAdd, tvs, bs]; first | refine aA ?_ | ((first | refine cR hE ?_ | refine cR hG ?_ | refine cR hby ?_); simp (disch := omega) only [u, i64, ax, eq_self, if_true, if_false, Nat.reduceAdd, Int.reduceToNat, Int.reduceAdd, tvs, bs]; try refine aA ?_)) | ((first | refine cR hE ?_ | refine cR hG ?_ | refine cR hby ?_); simp (disch := omega) only [u, i64, ax, eq_self, if_true, if_false, Nat.reduceAdd, Int.reduceToNat, Int.reduceAdd, tvs, bs]; try refine aA ?_) | refine G_seq ?_ | refine G_block ?_ | refine G_condT rfl ?_ | refine G_condF rfl ?_ | refine G_skip ?_ | refine G_ret ?_ | refine G_exit ?_ | refine q_tn ?_ | refine q_tr ?_ | refine q_tx ?_ | refine q_bn ?_ | refine q_br ?_ | refine q_bx ?_ | refine q_by (by decide) ?_)
    (refine FinQ hQ (congrArg Array.toList Tryz.results79) _ _ ?_); simp (disch := omega) only [u, i64, ax, if_true, forall_const, reduceCtorEq, implies_true, tvs, bf]
    all_goals rfl
  · rw [if_neg c1]
    by_cases c2 : G + 1 < bl N + s
    · rw [if_pos c2]
      refine RetN_start Tryz.func79 (by kernel_rfl) rfl fun Q hQ hQ2 => ?_; rw [Tryz.ntmps79]; simp only [u, i64, Nat.reduceSub, Nat.reduceAdd, bm]
      repeat (first | ((first | refine Gs ?_ | refine Gr ?_); simp (disch := omega) only [u, i64, ax, eq_self, if_true, if_false, Nat.reduceAdd, Int.reduceToNat, Int.reduceAdd, tvs, bs]; first | refine aA ?_ | ((first | refine cR hE ?_ | refine cR hG ?_); simp (disch := omega) only [u, i64, ax, eq_self, if_true, if_false, Nat.reduceAdd, Int.reduceToNat, Int.reduceAdd, tvs, bs]; try refine aA ?_)) | ((first | refine cR hE ?_ | refine cR hG ?_); simp (disch := omega) only [u, i64, ax, eq_self, if_true, if_false, Nat.reduceAdd, Int.reduceToNat, Int.reduceAdd, tvs, bs]; try refine aA ?_) | refine G_seq ?_ | refine G_block ?_ | refine G_condT rfl ?_ | refine G_condF rfl ?_ | refine G_skip ?_ | refine G_ret ?_ | refine G_exit ?_ | refine q_tn ?_ | refine q_tr ?_ | refine q_tx ?_ | refine q_bn ?_ | refine q_br ?_ | refine q_bx ?_ | refine q_by (by decide) ?_)
      ((first | refine Gs ?_ | refine Gr ?_); simp (disch := omega) only [u, i64, ax, eq_self, if_true, if_false, Nat.reduceAdd, Int.reduceToNat, Int.reduceAdd, tvs, bs])
      (refine cR hLs ?_; simp (disch := omega) only [u, i64, ax, eq_self, if_true, if_false, Nat.reduceAdd, Int.reduceToNat, Int.reduceAdd, tvs, bs]; try refine aA ?_)
      rw [hmx]
      repeat (first | ((first | refine Gs ?_ | refine Gr ?_); simp (disch := omega) only [u, i64, ax, eq_self, if_true, if_false, Nat.reduceAdd, Int.reduceToNat, Int.reduceAdd, tvs, bs]; first | refine aA ?_ | ((first | refine cR hSt ?_ | refine cR hRd ?_ | refine cR hLN ?_ | refine cR hG ?_ | refine cR hby ?_); simp (disch := omega) only [u, i64, ax, eq_self, if_true, if_false, Nat.reduceAdd, Int.reduceToNat, Int.reduceAdd, tvs, bs]; try refine aA ?_)) | ((first | refine cR hSt ?_ | refine cR hRd ?_ | refine cR hLN ?_ | refine cR hG ?_ | refine cR hby ?_); simp (disch := omega) only [u, i64, ax, eq_self, if_true, if_false, Nat.reduceAdd, Int.reduceToNat, Int.reduceAdd, tvs, bs]; try refine aA ?_) | refine G_seq ?_ | refine G_block ?_ | refine G_condT rfl ?_ | refine G_condF rfl ?_ | refine G_skip ?_ | refine G_ret ?_ | refine G_exit ?_ | refine q_tn ?_ | refine q_tr ?_ | refine q_tx ?_ | refine q_bn ?_ | refine q_br ?_ | refine q_bx ?_ | refine q_by (by decide) ?_)
      (refine FinQ hQ (congrArg Array.toList Tryz.results79) _ _ ?_); simp (disch := omega) only [u, i64, ax, if_true, forall_const, reduceCtorEq, implies_true, tvs, bf]
      all_goals rfl
    · rw [if_neg c2]
      by_cases c3 : N = 0
      · rw [if_pos c3]
        rw [decT c3] at hZ
        refine RetN_start Tryz.func79 (by kernel_rfl) rfl fun Q hQ hQ2 => ?_; rw [Tryz.ntmps79]; simp only [u, i64, Nat.reduceSub, Nat.reduceAdd, bm]
        repeat (first | ((first | refine Gs ?_ | refine Gr ?_); simp (disch := omega) only [u, i64, ax, eq_self, if_true, if_false, Nat.reduceAdd, Int.reduceToNat, Int.reduceAdd, tvs, bs]; first | refine aA ?_ | ((first | refine cR hE ?_ | refine cR hG ?_); simp (disch := omega) only [u, i64, ax, eq_self, if_true, if_false, Nat.reduceAdd, Int.reduceToNat, Int.reduceAdd, tvs, bs]; try refine aA ?_)) | ((first | refine cR hE ?_ | refine cR hG ?_); simp (disch := omega) only [u, i64, ax, eq_self, if_true, if_false, Nat.reduceAdd, Int.reduceToNat, Int.reduceAdd, tvs, bs]; try refine aA ?_) | refine G_seq ?_ | refine G_block ?_ | refine G_condT rfl ?_ | refine G_condF rfl ?_ | refine G_skip ?_ | refine G_ret ?_ | refine G_exit ?_ | refine q_tn ?_ | refine q_tr ?_ | refine q_tx ?_ | refine q_bn ?_ | refine q_br ?_ | refine q_bx ?_ | refine q_by (by decide) ?_)
        ((first | refine Gs ?_ | refine Gr ?_); simp (disch := omega) only [u, i64, ax, eq_self, if_true, if_false, Nat.reduceAdd, Int.reduceToNat, Int.reduceAdd, tvs, bs])
        (refine cR hLs ?_; simp (disch := omega) only [u, i64, ax, eq_self, if_true, if_false, Nat.reduceAdd, Int.reduceToNat, Int.reduceAdd, tvs, bs]; try refine aA ?_)
        rw [hmx]
        repeat (first | ((first | refine Gs ?_ | refine Gr ?_); simp (disch := omega) only [u, i64, ax, eq_self, if_true, if_false, Nat.reduceAdd, Int.reduceToNat, Int.reduceAdd, tvs, bs]; first | refine aA ?_ | ((first | refine cR hSt ?_ | refine cR hRd ?_ | refine cR hLN ?_ | refine cR hG ?_ | refine cR hZ ?_); simp (disch := omega) only [u, i64, ax, eq_self, if_true, if_false, Nat.reduceAdd, Int.reduceToNat, Int.reduceAdd, tvs, bs]; try refine aA ?_)) | ((first | refine cR hSt ?_ | refine cR hRd ?_ | refine cR hLN ?_ | refine cR hG ?_ | refine cR hZ ?_); simp (disch := omega) only [u, i64, ax, eq_self, if_true, if_false, Nat.reduceAdd, Int.reduceToNat, Int.reduceAdd, tvs, bs]; try refine aA ?_) | refine G_seq ?_ | refine G_block ?_ | refine G_condT rfl ?_ | refine G_condF rfl ?_ | refine G_skip ?_ | refine G_ret ?_ | refine G_exit ?_ | refine q_tn ?_ | refine q_tr ?_ | refine q_tx ?_ | refine q_bn ?_ | refine q_br ?_ | refine q_bx ?_ | refine q_by (by decide) ?_)
        (refine FinQ hQ (congrArg Array.toList Tryz.results79) _ _ ?_); simp (disch := omega) only [u, i64, ax, if_true, forall_const, reduceCtorEq, implies_true, tvs, bf]
        all_goals rfl
      · rw [if_neg c3]
        rw [decF c3] at hZ
        have hC := hC c3
        cases ex with
        | true =>
          rw [if_pos rfl]
          refine RetN_start Tryz.func79 (by kernel_rfl) rfl fun Q hQ hQ2 => ?_; rw [Tryz.ntmps79]; simp only [u, i64, Nat.reduceSub, Nat.reduceAdd, bm]
          repeat (first | ((first | refine Gs ?_ | refine Gr ?_); simp (disch := omega) only [u, i64, ax, eq_self, if_true, if_false, Nat.reduceAdd, Int.reduceToNat, Int.reduceAdd, tvs, bs]; first | refine aA ?_ | ((first | refine cR hE ?_ | refine cR hG ?_); simp (disch := omega) only [u, i64, ax, eq_self, if_true, if_false, Nat.reduceAdd, Int.reduceToNat, Int.reduceAdd, tvs, bs]; try refine aA ?_)) | ((first | refine cR hE ?_ | refine cR hG ?_); simp (disch := omega) only [u, i64, ax, eq_self, if_true, if_false, Nat.reduceAdd, Int.reduceToNat, Int.reduceAdd, tvs, bs]; try refine aA ?_) | refine G_seq ?_ | refine G_block ?_ | refine G_condT rfl ?_ | refine G_condF rfl ?_ | refine G_skip ?_ | refine G_ret ?_ | refine G_exit ?_ | refine q_tn ?_ | refine q_tr ?_ | refine q_tx ?_ | refine q_bn ?_ | refine q_br ?_ | refine q_bx ?_ | refine q_by (by decide) ?_)
          ((first | refine Gs ?_ | refine Gr ?_); simp (disch := omega) only [u, i64, ax, eq_self, if_true, if_false, Nat.reduceAdd, Int.reduceToNat, Int.reduceAdd, tvs, bs])
          (refine cR hLs ?_; simp (disch := omega) only [u, i64, ax, eq_self, if_true, if_false, Nat.reduceAdd, Int.reduceToNat, Int.reduceAdd, tvs, bs]; try refine aA ?_)
          rw [hmx]
          repeat (first | ((first | refine Gs ?_ | refine Gr ?_); simp (disch := omega) only [u, i64, ax, eq_self, if_true, if_false, Nat.reduceAdd, Int.reduceToNat, Int.reduceAdd, tvs, bs]; first | refine aA ?_ | ((first | refine cR hSt ?_ | refine cR hRd ?_ | refine cR hLN ?_ | refine cR hG ?_ | refine cR hZ ?_ | refine cR hC ?_); simp (disch := omega) only [u, i64, ax, eq_self, if_true, if_false, Nat.reduceAdd, Int.reduceToNat, Int.reduceAdd, tvs, bs]; try refine aA ?_)) | ((first | refine cR hSt ?_ | refine cR hRd ?_ | refine cR hLN ?_ | refine cR hG ?_ | refine cR hZ ?_ | refine cR hC ?_); simp (disch := omega) only [u, i64, ax, eq_self, if_true, if_false, Nat.reduceAdd, Int.reduceToNat, Int.reduceAdd, tvs, bs]; try refine aA ?_) | refine G_seq ?_ | refine G_block ?_ | refine G_condT rfl ?_ | refine G_condF rfl ?_ | refine G_skip ?_ | refine G_ret ?_ | refine G_exit ?_ | refine q_tn ?_ | refine q_tr ?_ | refine q_tx ?_ | refine q_bn ?_ | refine q_br ?_ | refine q_bx ?_ | refine q_by (by decide) ?_)
          (refine FinQ hQ (congrArg Array.toList Tryz.results79) _ _ ?_); simp (disch := omega) only [u, i64, ax, if_true, forall_const, reduceCtorEq, implies_true, tvs, bf]
          all_goals rfl
        | false =>
          rw [if_neg (by decide)]
          by_cases c4 : e < 1 - G
          · rw [if_pos c4]
            refine RetN_start Tryz.func79 (by kernel_rfl) rfl fun Q hQ hQ2 => ?_; rw [Tryz.ntmps79]; simp only [u, i64, Nat.reduceSub, Nat.reduceAdd, bm]
            repeat (first | ((first | refine Gs ?_ | refine Gr ?_); simp (disch := omega) only [u, i64, ax, eq_self, if_true, if_false, Nat.reduceAdd, Int.reduceToNat, Int.reduceAdd, tvs, bs]; first | refine aA ?_ | ((first | refine cR hE ?_ | refine cR hG ?_); simp (disch := omega) only [u, i64, ax, eq_self, if_true, if_false, Nat.reduceAdd, Int.reduceToNat, Int.reduceAdd, tvs, bs]; try refine aA ?_)) | ((first | refine cR hE ?_ | refine cR hG ?_); simp (disch := omega) only [u, i64, ax, eq_self, if_true, if_false, Nat.reduceAdd, Int.reduceToNat, Int.reduceAdd, tvs, bs]; try refine aA ?_) | refine G_seq ?_ | refine G_block ?_ | refine G_condT rfl ?_ | refine G_condF rfl ?_ | refine G_skip ?_ | refine G_ret ?_ | refine G_exit ?_ | refine q_tn ?_ | refine q_tr ?_ | refine q_tx ?_ | refine q_bn ?_ | refine q_br ?_ | refine q_bx ?_ | refine q_by (by decide) ?_)
            ((first | refine Gs ?_ | refine Gr ?_); simp (disch := omega) only [u, i64, ax, eq_self, if_true, if_false, Nat.reduceAdd, Int.reduceToNat, Int.reduceAdd, tvs, bs])
            (refine cR hLs ?_; simp (disch := omega) only [u, i64, ax, eq_self, if_true, if_false, Nat.reduceAdd, Int.reduceToNat, Int.reduceAdd, tvs, bs]; try refine aA ?_)
            rw [hmx]
            repeat (first | ((first | refine Gs ?_ | refine Gr ?_); simp (disch := omega) only [u, i64, ax, eq_self, if_true, if_false, Nat.reduceAdd, Int.reduceToNat, Int.reduceAdd, tvs, bs]; first | refine aA ?_ | ((first | refine cR hSt ?_ | refine cR hRd ?_ | refine cR hLN ?_ | refine cR hG ?_ | refine cR hZ ?_ | refine cR hC ?_ | refine cR hLs ?_); simp (disch := omega) only [u, i64, ax, eq_self, if_true, if_false, Nat.reduceAdd, Int.reduceToNat, Int.reduceAdd, tvs, bs]; try refine aA ?_)) | ((first | refine cR hSt ?_ | refine cR hRd ?_ | refine cR hLN ?_ | refine cR hG ?_ | refine cR hZ ?_ | refine cR hC ?_ | refine cR hLs ?_); simp (disch := omega) only [u, i64, ax, eq_self, if_true, if_false, Nat.reduceAdd, Int.reduceToNat, Int.reduceAdd, tvs, bs]; try refine aA ?_) | refine G_seq ?_ | refine G_block ?_ | refine G_condT rfl ?_ | refine G_condF rfl ?_ | refine G_skip ?_ | refine G_ret ?_ | refine G_exit ?_ | refine q_tn ?_ | refine q_tr ?_ | refine q_tx ?_ | refine q_bn ?_ | refine q_br ?_ | refine q_bx ?_ | refine q_by (by decide) ?_)
            (refine FinQ hQ (congrArg Array.toList Tryz.results79) _ _ ?_); simp (disch := omega) only [u, i64, ax, if_true, forall_const, reduceCtorEq, implies_true, tvs, bf]
            all_goals rfl
          · rw [if_neg c4]
            refine RetN_start Tryz.func79 (by kernel_rfl) rfl fun Q hQ hQ2 => ?_; rw [Tryz.ntmps79]; simp only [u, i64, Nat.reduceSub, Nat.reduceAdd, bm]
            repeat (first | ((first | refine Gs ?_ | refine Gr ?_); simp (disch := omega) only [u, i64, ax, eq_self, if_true, if_false, Nat.reduceAdd, Int.reduceToNat, Int.reduceAdd, tvs, bs]; first | refine aA ?_ | ((first | refine cR hE ?_ | refine cR hG ?_); simp (disch := omega) only [u, i64, ax, eq_self, if_true, if_false, Nat.reduceAdd, Int.reduceToNat, Int.reduceAdd, tvs, bs]; try refine aA ?_)) | ((first | refine cR hE ?_ | refine cR hG ?_); simp (disch := omega) only [u, i64, ax, eq_self, if_true, if_false, Nat.reduceAdd, Int.reduceToNat, Int.reduceAdd, tvs, bs]; try refine aA ?_) | refine G_seq ?_ | refine G_block ?_ | refine G_condT rfl ?_ | refine G_condF rfl ?_ | refine G_skip ?_ | refine G_ret ?_ | refine G_exit ?_ | refine q_tn ?_ | refine q_tr ?_ | refine q_tx ?_ | refine q_bn ?_ | refine q_br ?_ | refine q_bx ?_ | refine q_by (by decide) ?_)
            ((first | refine Gs ?_ | refine Gr ?_); simp (disch := omega) only [u, i64, ax, eq_self, if_true, if_false, Nat.reduceAdd, Int.reduceToNat, Int.reduceAdd, tvs, bs])
            (refine cR hLs ?_; simp (disch := omega) only [u, i64, ax, eq_self, if_true, if_false, Nat.reduceAdd, Int.reduceToNat, Int.reduceAdd, tvs, bs]; try refine aA ?_)
            rw [hmx]
            repeat (first | ((first | refine Gs ?_ | refine Gr ?_); simp (disch := omega) only [u, i64, ax, eq_self, if_true, if_false, Nat.reduceAdd, Int.reduceToNat, Int.reduceAdd, tvs, bs]; first | refine aA ?_ | ((first | refine cR hSt ?_ | refine cR hRd ?_ | refine cR hLN ?_ | refine cR hG ?_ | refine cR hZ ?_ | refine cR hC ?_ | refine cR hLs ?_); simp (disch := omega) only [u, i64, ax, eq_self, if_true, if_false, Nat.reduceAdd, Int.reduceToNat, Int.reduceAdd, tvs, bs]; try refine aA ?_)) | ((first | refine cR hSt ?_ | refine cR hRd ?_ | refine cR hLN ?_ | refine cR hG ?_ | refine cR hZ ?_ | refine cR hC ?_ | refine cR hLs ?_); simp (disch := omega) only [u, i64, ax, eq_self, if_true, if_false, Nat.reduceAdd, Int.reduceToNat, Int.reduceAdd, tvs, bs]; try refine aA ?_) | refine G_seq ?_ | refine G_block ?_ | refine G_condT rfl ?_ | refine G_condF rfl ?_ | refine G_skip ?_ | refine G_ret ?_ | refine G_exit ?_ | refine q_tn ?_ | refine q_tr ?_ | refine q_tx ?_ | refine q_bn ?_ | refine q_br ?_ | refine q_bx ?_ | refine q_by (by decide) ?_)
            (refine FinQ hQ (congrArg Array.toList Tryz.results79) _ _ ?_); simp (disch := omega) only [u, i64, ax, if_true, forall_const, reduceCtorEq, implies_true, tvs, bf]
            all_goals rfl
set_option maxRecDepth 100000 in
theorem ret_Rat16 (k p r : Nat) (h : okFm k p) (hr : r ≤ 4) (neg zn : Bool) (ns dn : List Nat) (hn : Wd ns) (hd : Wd dn) (hln : ns.length ≤ 40) (hld : dn.length ≤ 40) (hn0 : val ns ≠ 0) (hd0 : val dn ≠ 0) :
    Ret Tryz.prog GEs 21 [.agg [i64 k, i64 p], i64 r, .agg [.bool neg, ws ns, ws dn], .bool zn] (.tup [flv (rndF p (gF k) r neg (val ns) (val dn)).1, i64 (rndF p (gF k) r neg (val ns) (val dn)).2]) := by
  have hS := ret_Sign12 neg ns dn hn (by omega)
  have hsg : sgn neg (val ns) ≠ 0 := by unfold sgn; rw [if_neg hn0]; split <;> decide
  generalize sgn neg (val ns) = sg at *
  have hO := ret_Of16 neg ns dn hn hd hln hld hn0
  have hnl := length_words_val_le hn
  have hdl := length_words_val_le hd
  have hR := ret_Round16 k p r h hr neg (val ns) (val dn) (by omega) (by omega) hn0 hd0
  generalize rndF p (gF k) r neg (val ns) (val dn) = y at *
  unfold flv at *
  refine RetN_start Tryz.func21 (by kernel_rfl) rfl fun Q hQ hQ2 => ?_; rw [Tryz.ntmps21]; simp only [u, i64, Nat.reduceSub, Nat.reduceAdd, bm]
  repeat (first | ((first | refine Gs ?_ | refine Gr ?_); simp (disch := omega) only [u, i64, ax, eq_self, if_true, if_false, Nat.reduceAdd, Int.reduceToNat, Int.reduceAdd, tvs, bs]; first | refine aA ?_ | ((first | refine cR hS ?_ | refine cR hO ?_ | refine cR hR ?_); simp (disch := omega) only [u, i64, ax, eq_self, if_true, if_false, Nat.reduceAdd, Int.reduceToNat, Int.reduceAdd, tvs, bs]; try refine aA ?_)) | ((first | refine cR hS ?_ | refine cR hO ?_ | refine cR hR ?_); simp (disch := omega) only [u, i64, ax, eq_self, if_true, if_false, Nat.reduceAdd, Int.reduceToNat, Int.reduceAdd, tvs, bs]; try refine aA ?_) | refine G_seq ?_ | refine G_block ?_ | refine G_condT rfl ?_ | refine G_condF rfl ?_ | refine G_skip ?_ | refine G_ret ?_ | refine G_exit ?_ | refine q_tn ?_ | refine q_tr ?_ | refine q_tx ?_ | refine q_bn ?_ | refine q_br ?_ | refine q_bx ?_ | refine q_by (by decide) ?_)
  (refine FinQ hQ (congrArg Array.toList Tryz.results21) _ _ ?_); simp (disch := omega) only [u, i64, ax, if_true, forall_const, reduceCtorEq, implies_true, tvs, bf]
  all_goals rfl
theorem ret_Rat16z (k p r : Int) (neg zn : Bool) (ns dn : List Nat) (hn : Wd ns) (hln : ns.length ≤ 40) (hn0 : val ns = 0) :
    Ret Tryz.prog GEs 21 [.agg [i64 k, i64 p], i64 r, .agg [.bool neg, ws ns, ws dn], .bool zn] (.tup [.agg [i64 0, .bool zn, i64 0, ws []], i64 0]) := by
  have hS := ret_Sign12 neg ns dn hn (by omega)
  rw [show sgn neg (val ns) = 0 by unfold sgn; rw [if_pos hn0]] at hS
  refine RetN_start Tryz.func21 (by kernel_rfl) rfl fun Q hQ hQ2 => ?_; rw [Tryz.ntmps21]; simp only [u, i64, Nat.reduceSub, Nat.reduceAdd, bm]
  repeat (first | ((first | refine Gs ?_ | refine Gr ?_); simp (disch := omega) only [u, i64, ax, eq_self, if_true, if_false, Nat.reduceAdd, Int.reduceToNat, Int.reduceAdd, tvs, bs]; first | refine aA ?_ | (refine cR hS ?_; simp (disch := omega) only [u, i64, ax, eq_self, if_true, if_false, Nat.reduceAdd, Int.reduceToNat, Int.reduceAdd, tvs, bs]; try refine aA ?_)) | (refine cR hS ?_; simp (disch := omega) only [u, i64, ax, eq_self, if_true, if_false, Nat.reduceAdd, Int.reduceToNat, Int.reduceAdd, tvs, bs]; try refine aA ?_) | refine G_seq ?_ | refine G_block ?_ | refine G_condT rfl ?_ | refine G_condF rfl ?_ | refine G_skip ?_ | refine G_ret ?_ | refine G_exit ?_ | refine q_tn ?_ | refine q_tr ?_ | refine q_tx ?_ | refine q_bn ?_ | refine q_br ?_ | refine q_bx ?_ | refine q_by (by decide) ?_)
  (refine FinQ hQ (congrArg Array.toList Tryz.results21) _ _ ?_); simp (disch := omega) only [u, i64, ax, if_true, forall_const, reduceCtorEq, implies_true, tvs, bf]
  all_goals rfl
end Go.Proofs
set_option linter.unusedVariables false
set_option linter.unusedSimpArgs false
namespace Go.Proofs
open Go.Ax
theorem ret_lIs15z2 : Ret Tryz.prog GEs 23 [flz, flz] (.bool true) :=
  ret_lIs15 ⟨0, false, 0, 0⟩ ⟨0, false, 0, 0⟩ (by decide) (by decide) (fun h => by cases h) (by decide) (by decide)
/-- A rounded number is the reference's. -/
theorem ret_lIsR (y : FV) (hw : wfF y) (hc : canF y = y) : Ret Tryz.prog GEs 23 [flv y, flv y] (.bool true) := by
  have h := canF_wf hw
  rw [hc] at h
  have h1 := ret_lIs15 y y (by omega) (by omega) (fun hk => by
    rcases hw with ⟨_, h2, _⟩ | ⟨h2, _, _⟩
    · exact h2
    · omega) (by omega) (by omega)
  rw [hc, eqF_self] at h1
  exact h1
end Go.Proofs
set_option linter.unusedVariables false
set_option linter.unusedSimpArgs false
namespace Go.Proofs
open Go.Ax
theorem ret_Between_bad (k p : Int) (neg : Bool) (ns dn : List Nat) (hn : Wd ns) (hd : Wd dn) (hln : ns.length ≤ 137438953472) (hld : dn.length ≤ 137438953472)
    (he : errR 4 k p ns.length dn.length (val dn) ≠ 0) : Ret Tryz.prog GEs 28 [.agg [i64 k, i64 p], .agg [.bool neg, ws ns, ws dn]] (.tup [flz, flz, i64 (errR 4 k p ns.length dn.length (val dn) : Nat)]) := by
  have hR := ret_Round_bad 4 k p (by decide) (by decide) neg ns dn hn hd hln hld he
  generalize errR 4 k p ns.length dn.length (val dn) = e at *
  refine RetN_start Tryz.func28 (by kernel_rfl) rfl fun Q hQ hQ2 => ?_; rw [Tryz.ntmps28]; simp only [u, i64, Nat.reduceSub, Nat.reduceAdd, bm]
  repeat (first | ((first | refine Gs ?_ | refine Gr ?_); simp (disch := omega) only [u, i64, ax, eq_self, if_true, if_false, Nat.reduceAdd, Int.reduceToNat, Int.reduceAdd, tvs, bs]; first | refine aA ?_ | (refine cR hR ?_; simp (disch := omega) only [u, i64, ax, eq_self, if_true, if_false, Nat.reduceAdd, Int.reduceToNat, Int.reduceAdd, tvs, bs]; try refine aA ?_)) | (refine cR hR ?_; simp (disch := omega) only [u, i64, ax, eq_self, if_true, if_false, Nat.reduceAdd, Int.reduceToNat, Int.reduceAdd, tvs, bs]; try refine aA ?_) | refine G_seq ?_ | refine G_block ?_ | refine G_condT rfl ?_ | refine G_condF rfl ?_ | refine G_skip ?_ | refine G_ret ?_ | refine G_exit ?_ | refine q_tn ?_ | refine q_tr ?_ | refine q_tx ?_ | refine q_bn ?_ | refine q_br ?_ | refine q_bx ?_ | refine q_by (by decide) ?_)
  (refine FinQ hQ (congrArg Array.toList Tryz.results28) _ _ ?_); simp (disch := omega) only [u, i64, ax, if_true, forall_const, reduceCtorEq, implies_true, tvs, bf]
  all_goals rfl
theorem ret_Between_zero (k p : Int) (neg : Bool) (ns dn : List Nat) (hn : Wd ns) (hd : Wd dn) (hln : ns.length ≤ 137438953472) (hld : dn.length ≤ 137438953472)
    (he : errR 4 k p ns.length dn.length (val dn) = 0) (hz : val ns = 0) : Ret Tryz.prog GEs 28 [.agg [i64 k, i64 p], .agg [.bool neg, ws ns, ws dn]] (.tup [flz, flz, i64 0]) := by
  have hR := ret_Round_zero 4 k p (by decide) (by decide) neg ns dn hn hd hln hld he hz
  have hR2 := ret_Round_zero 3 k p (by decide) (by decide) neg ns dn hn hd hln hld (by rw [errR_same (r' := 4) (by decide) (by decide)]; exact he) hz
  refine RetN_start Tryz.func28 (by kernel_rfl) rfl fun Q hQ hQ2 => ?_; rw [Tryz.ntmps28]; simp only [u, i64, Nat.reduceSub, Nat.reduceAdd, bm]
  repeat (first | ((first | refine Gs ?_ | refine Gr ?_); simp (disch := omega) only [u, i64, ax, eq_self, if_true, if_false, Nat.reduceAdd, Int.reduceToNat, Int.reduceAdd, tvs, bs]; first | refine aA ?_ | (refine cR hR ?_; simp (disch := omega) only [u, i64, ax, eq_self, if_true, if_false, Nat.reduceAdd, Int.reduceToNat, Int.reduceAdd, tvs, bs]; try refine aA ?_)) | (refine cR hR ?_; simp (disch := omega) only [u, i64, ax, eq_self, if_true, if_false, Nat.reduceAdd, Int.reduceToNat, Int.reduceAdd, tvs, bs]; try refine aA ?_) | refine G_seq ?_ | refine G_block ?_ | refine G_condT rfl ?_ | refine G_condF rfl ?_ | refine G_skip ?_ | refine G_ret ?_ | refine G_exit ?_ | refine q_tn ?_ | refine q_tr ?_ | refine q_tx ?_ | refine q_bn ?_ | refine q_br ?_ | refine q_bx ?_ | refine q_by (by decide) ?_)
  ((first | refine Gs ?_ | refine Gr ?_); simp (disch := omega) only [u, i64, ax, eq_self, if_true, if_false, Nat.reduceAdd, Int.reduceToNat, Int.reduceAdd, tvs, bs])
  (refine cR hR2 ?_; simp (disch := omega) only [u, i64, ax, eq_self, if_true, if_false, Nat.reduceAdd, Int.reduceToNat, Int.reduceAdd, tvs, bs]; try refine aA ?_)
  refine G_stree (.step 0 (.alt 1 (.step 2 (.step 3 (.step 4 (.step 5 .done)))) (.alt 2 (.alt 1 (.step 3 (.step 4 (.step 5 .done))) (.alt 3 (.step 1 (.step 4 (.step 5 .done))) .stop)) (.alt 3 (.step 1 (.step 2 (.step 4 (.step 5 .done)))) .stop)))) mixed (by kernel_rfl) ?_
  simp (disch := omega) only [u, i64, ax, eq_self, if_true, if_false, Nat.reduceAdd, Int.reduceToNat, Int.reduceAdd, tvs, bs, x_done, x_step, x_alt, x_stop, lk_0, lk_S, mpD_nil, mpD_cons]
  repeat' apply And.intro
  all_goals
    refine aft_any ?_
    repeat (first | ((first | refine Gs ?_ | refine Gr ?_); simp (disch := omega) only [u, i64, ax, eq_self, if_true, if_false, Nat.reduceAdd, Int.reduceToNat, Int.reduceAdd, tvs, bs]; refine aA ?_) | refine G_seq ?_ | refine G_block ?_ | refine G_condT rfl ?_ | refine G_condF rfl ?_ | refine G_skip ?_ | refine G_ret ?_ | refine G_exit ?_ | refine q_tn ?_ | refine q_tr ?_ | refine q_tx ?_ | refine q_bn ?_ | refine q_br ?_ | refine q_bx ?_ | refine q_by (by decide) ?_)
    (refine FinQ hQ (congrArg Array.toList Tryz.results28) _ _ ?_); simp (disch := omega) only [u, i64, ax, if_true, forall_const, reduceCtorEq, implies_true, tvs, bf]
    all_goals rfl
theorem ret_Between_ok (k p : Nat) (hf : okFm k p) (neg : Bool) (ns dn : List Nat) (hn : Wd ns) (hd : Wd dn) (hln : ns.length ≤ 4096) (hld : dn.length ≤ 4096)
    (hn0 : val ns ≠ 0) (hd0 : val dn ≠ 0) : Ret Tryz.prog GEs 28 [.agg [i64 k, i64 p], .agg [.bool neg, ws ns, ws dn]]
      (.tup [flv (rndF p (gF k) 4 neg (val ns) (val dn)).1, flv (rndF p (gF k) 3 neg (val ns) (val dn)).1, i64 0]) := by
  have hR := ret_Round_ok 4 k p (by decide) hf neg ns dn hn hd hln hld hn0 hd0
  have hR2 := ret_Round_ok 3 k p (by decide) hf neg ns dn hn hd hln hld hn0 hd0
  generalize rndF p (gF k) 4 neg (val ns) (val dn) = y at *
  generalize rndF p (gF k) 3 neg (val ns) (val dn) = z at *
  unfold flv at *
  refine RetN_start Tryz.func28 (by kernel_rfl) rfl fun Q hQ hQ2 => ?_; rw [Tryz.ntmps28]; simp only [u, i64, Nat.reduceSub, Nat.reduceAdd, bm]
  repeat (first | ((first | refine Gs ?_ | refine Gr ?_); simp (disch := omega) only [u, i64, ax, eq_self, if_true, if_false, Nat.reduceAdd, Int.reduceToNat, Int.reduceAdd, tvs, bs]; first | refine aA ?_ | (refine cR hR ?_; simp (disch := omega) only [u, i64, ax, eq_self, if_true, if_false, Nat.reduceAdd, Int.reduceToNat, Int.reduceAdd, tvs, bs]; try refine aA ?_)) | (refine cR hR ?_; simp (disch := omega) only [u, i64, ax, eq_self, if_true, if_false, Nat.reduceAdd, Int.reduceToNat, Int.reduceAdd, tvs, bs]; try refine aA ?_) | refine G_seq ?_ | refine G_block ?_ | refine G_condT rfl ?_ | refine G_condF rfl ?_ | refine G_skip ?_ | refine G_ret ?_ | refine G_exit ?_ | refine q_tn ?_ | refine q_tr ?_ | refine q_tx ?_ | refine q_bn ?_ | refine q_br ?_ | refine q_bx ?_ | refine q_by (by decide) ?_)
  ((first | refine Gs ?_ | refine Gr ?_); simp (disch := omega) only [u, i64, ax, eq_self, if_true, if_false, Nat.reduceAdd, Int.reduceToNat, Int.reduceAdd, tvs, bs])
  (refine cR hR2 ?_; simp (disch := omega) only [u, i64, ax, eq_self, if_true, if_false, Nat.reduceAdd, Int.reduceToNat, Int.reduceAdd, tvs, bs]; try refine aA ?_)
  refine G_stree (.step 0 (.alt 1 (.step 2 (.step 3 (.step 4 (.step 5 .done)))) (.alt 2 (.alt 1 (.step 3 (.step 4 (.step 5 .done))) (.alt 3 (.step 1 (.step 4 (.step 5 .done))) .stop)) (.alt 3 (.step 1 (.step 2 (.step 4 (.step 5 .done)))) .stop)))) mixed (by kernel_rfl) ?_
  simp (disch := omega) only [u, i64, ax, eq_self, if_true, if_false, Nat.reduceAdd, Int.reduceToNat, Int.reduceAdd, tvs, bs, x_done, x_step, x_alt, x_stop, lk_0, lk_S, mpD_nil, mpD_cons]
  repeat' apply And.intro
  all_goals
    refine aft_any ?_
    repeat (first | ((first | refine Gs ?_ | refine Gr ?_); simp (disch := omega) only [u, i64, ax, eq_self, if_true, if_false, Nat.reduceAdd, Int.reduceToNat, Int.reduceAdd, tvs, bs]; refine aA ?_) | refine G_seq ?_ | refine G_block ?_ | refine G_condT rfl ?_ | refine G_condF rfl ?_ | refine G_skip ?_ | refine G_ret ?_ | refine G_exit ?_ | refine q_tn ?_ | refine q_tr ?_ | refine q_tx ?_ | refine q_bn ?_ | refine q_br ?_ | refine q_bx ?_ | refine q_by (by decide) ?_)
    (refine FinQ hQ (congrArg Array.toList Tryz.results28) _ _ ?_); simp (disch := omega) only [u, i64, ax, if_true, forall_const, reduceCtorEq, implies_true, tvs, bf]
    all_goals rfl
set_option maxRecDepth 100000 in
set_option maxHeartbeats 4000000 in
theorem ret_LawRoundBetween (k p : Int) (neg : Bool) (ns dn : List Nat) (hn : Wd ns) (hd : Wd dn) (hln : ns.length ≤ 9223372036854775807) (hld : dn.length ≤ 9223372036854775807) :
    Ret Tryz.prog GEs 5 [.agg [i64 k, i64 p], .agg [.bool neg, ws ns, ws dn]] (.bool true) := by
  have hB := ret_Brief1 neg ns dn hln hld
  by_cases hb : ns.length ≤ 40 ∧ dn.length ≤ 40
  · rw [decT hb] at hB
    have hA := ret_args16 0 k p (by decide) (by decide) neg ns dn hn hd (by omega) (by omega)
    rw [errR_same (r' := 4) (by decide) (by decide)] at hA
    by_cases he : errR 4 k p ns.length dn.length (val dn) = 0
    · obtain ⟨hd0, _, _, hr, hf⟩ := errR_ok he
      by_cases hz : val ns = 0
      · have hR := ret_Between_zero k p neg ns dn hn hd (by omega) (by omega) he hz
        have hR4 := ret_Rat16z k p 4 neg false ns dn hn hb.1 hz
        have hR3 := ret_Rat16z k p 3 neg false ns dn hn hb.1 hz
        rw [he] at hA
        refine RetN_start Tryz.func5 (by kernel_rfl) rfl fun Q hQ hQ2 => ?_; rw [Tryz.ntmps5]; simp only [u, i64, Nat.reduceSub, Nat.reduceAdd, bm]
        repeat (first | ((first | refine Gs ?_ | refine Gr ?_); simp (disch := omega) only [u, i64, ax, eq_self, if_true, if_false, Nat.reduceAdd, Int.reduceToNat, Int.reduceAdd, tvs, bs]; first | refine aA ?_ | ((first | refine cR hB ?_ | refine cR hR ?_ | refine cR hA ?_ | refine cR (ret_Fmt k p) ?_ | refine cR hR4 ?_ | refine cR hR3 ?_ | refine cR ret_lIs15z2 ?_ | refine cR ret_awake16 ?_); simp (disch := omega) only [u, i64, ax, eq_self, if_true, if_false, Nat.reduceAdd, Int.reduceToNat, Int.reduceAdd, tvs, bs]; try refine aA ?_)) | ((first | refine cR hB ?_ | refine cR hR ?_ | refine cR hA ?_ | refine cR (ret_Fmt k p) ?_ | refine cR hR4 ?_ | refine cR hR3 ?_ | refine cR ret_lIs15z2 ?_ | refine cR ret_awake16 ?_); simp (disch := omega) only [u, i64, ax, eq_self, if_true, if_false, Nat.reduceAdd, Int.reduceToNat, Int.reduceAdd, tvs, bs]; try refine aA ?_) | refine G_seq ?_ | refine G_block ?_ | refine G_condT rfl ?_ | refine G_condF rfl ?_ | refine G_skip ?_ | refine G_ret ?_ | refine G_exit ?_ | refine q_tn ?_ | refine q_tr ?_ | refine q_tx ?_ | refine q_bn ?_ | refine q_br ?_ | refine q_bx ?_ | refine q_by (by decide) ?_)
        (refine FinQ hQ (congrArg Array.toList Tryz.results5) _ _ ?_); simp (disch := omega) only [u, i64, ax, if_true, forall_const, reduceCtorEq, implies_true, tvs, bf]
      · obtain ⟨k, rfl⟩ := Int.eq_ofNat_of_zero_le (show 0 ≤ k by omega)
        obtain ⟨p, rfl⟩ := Int.eq_ofNat_of_zero_le (show 0 ≤ p by omega)
        have hR := ret_Between_ok k p hf neg ns dn hn hd (by omega) (by omega) hz hd0
        have hR4 := ret_Rat16 k p 4 hf (by decide) neg false ns dn hn hd hb.1 hb.2 hz hd0
        have hR3 := ret_Rat16 k p 3 hf (by decide) neg false ns dn hn hd hb.1 hb.2 hz hd0
        have hnl := length_words_val_le hn
        have hdl := length_words_val_le hd
        obtain ⟨w1, w2, w3⟩ := rndF_wf k p hf 4 neg (val ns) (val dn) hz hd0 (by omega) (by omega)
        obtain ⟨u1, u2, u3⟩ := rndF_wf k p hf 3 neg (val ns) (val dn) hz hd0 (by omega) (by omega)
        have hI := ret_lIsR _ w1 w2
        have hI2 := ret_lIsR _ u1 u2
        rw [he] at hA
        generalize rndF p (gF k) 4 neg (val ns) (val dn) = y at *
        generalize rndF p (gF k) 3 neg (val ns) (val dn) = z at *
        obtain ⟨y, fl⟩ := y
        obtain ⟨z, fl2⟩ := z
        unfold flv at hR hR3 hR4 hI hI2
        simp only at hR hR3 hR4 hI hI2
        refine RetN_start Tryz.func5 (by kernel_rfl) rfl fun Q hQ hQ2 => ?_; rw [Tryz.ntmps5]; simp only [u, i64, Nat.reduceSub, Nat.reduceAdd, bm]
        repeat (first | ((first | refine Gs ?_ | refine Gr ?_); simp (disch := omega) only [u, i64, ax, eq_self, if_true, if_false, Nat.reduceAdd, Int.reduceToNat, Int.reduceAdd, tvs, bs]; first | refine aA ?_ | ((first | refine cR hB ?_ | refine cR hR ?_ | refine cR hA ?_ | refine cR (ret_Fmt k p) ?_ | refine cR hR4 ?_ | refine cR hR3 ?_ | refine cR hI ?_ | refine cR hI2 ?_ | refine cR ret_awake16 ?_); simp (disch := omega) only [u, i64, ax, eq_self, if_true, if_false, Nat.reduceAdd, Int.reduceToNat, Int.reduceAdd, tvs, bs]; try refine aA ?_)) | ((first | refine cR hB ?_ | refine cR hR ?_ | refine cR hA ?_ | refine cR (ret_Fmt k p) ?_ | refine cR hR4 ?_ | refine cR hR3 ?_ | refine cR hI ?_ | refine cR hI2 ?_ | refine cR ret_awake16 ?_); simp (disch := omega) only [u, i64, ax, eq_self, if_true, if_false, Nat.reduceAdd, Int.reduceToNat, Int.reduceAdd, tvs, bs]; try refine aA ?_) | refine G_seq ?_ | refine G_block ?_ | refine G_condT rfl ?_ | refine G_condF rfl ?_ | refine G_skip ?_ | refine G_ret ?_ | refine G_exit ?_ | refine q_tn ?_ | refine q_tr ?_ | refine q_tx ?_ | refine q_bn ?_ | refine q_br ?_ | refine q_bx ?_ | refine q_by (by decide) ?_)
        (refine FinQ hQ (congrArg Array.toList Tryz.results5) _ _ ?_); simp (disch := omega) only [u, i64, ax, if_true, forall_const, reduceCtorEq, implies_true, tvs, bf]
    · have hR := ret_Between_bad k p neg ns dn hn hd (by omega) (by omega) he
      generalize errR 4 k p ns.length dn.length (val dn) = e at *
      refine RetN_start Tryz.func5 (by kernel_rfl) rfl fun Q hQ hQ2 => ?_; rw [Tryz.ntmps5]; simp only [u, i64, Nat.reduceSub, Nat.reduceAdd, bm]
      repeat (first | ((first | refine Gs ?_ | refine Gr ?_); simp (disch := omega) only [u, i64, ax, eq_self, if_true, if_false, Nat.reduceAdd, Int.reduceToNat, Int.reduceAdd, tvs, bs]; first | refine aA ?_ | ((first | refine cR hB ?_ | refine cR hR ?_ | refine cR hA ?_ | refine cR ret_None0 ?_ | refine cR ret_awake16 ?_); simp (disch := omega) only [u, i64, ax, eq_self, if_true, if_false, Nat.reduceAdd, Int.reduceToNat, Int.reduceAdd, tvs, bs]; try refine aA ?_)) | ((first | refine cR hB ?_ | refine cR hR ?_ | refine cR hA ?_ | refine cR ret_None0 ?_ | refine cR ret_awake16 ?_); simp (disch := omega) only [u, i64, ax, eq_self, if_true, if_false, Nat.reduceAdd, Int.reduceToNat, Int.reduceAdd, tvs, bs]; try refine aA ?_) | refine G_seq ?_ | refine G_block ?_ | refine G_condT rfl ?_ | refine G_condF rfl ?_ | refine G_skip ?_ | refine G_ret ?_ | refine G_exit ?_ | refine q_tn ?_ | refine q_tr ?_ | refine q_tx ?_ | refine q_bn ?_ | refine q_br ?_ | refine q_bx ?_ | refine q_by (by decide) ?_)
      (refine FinQ hQ (congrArg Array.toList Tryz.results5) _ _ ?_); simp (disch := omega) only [u, i64, ax, if_true, forall_const, reduceCtorEq, implies_true, tvs, bf]
  · rw [decF hb] at hB
    refine RetN_start Tryz.func5 (by kernel_rfl) rfl fun Q hQ hQ2 => ?_; rw [Tryz.ntmps5]; simp only [u, i64, Nat.reduceSub, Nat.reduceAdd, bm]
    repeat (first | ((first | refine Gs ?_ | refine Gr ?_); simp (disch := omega) only [u, i64, ax, eq_self, if_true, if_false, Nat.reduceAdd, Int.reduceToNat, Int.reduceAdd, tvs, bs]; first | refine aA ?_ | ((first | refine cR hB ?_ | refine cR ret_awake16 ?_); simp (disch := omega) only [u, i64, ax, eq_self, if_true, if_false, Nat.reduceAdd, Int.reduceToNat, Int.reduceAdd, tvs, bs]; try refine aA ?_)) | ((first | refine cR hB ?_ | refine cR ret_awake16 ?_); simp (disch := omega) only [u, i64, ax, eq_self, if_true, if_false, Nat.reduceAdd, Int.reduceToNat, Int.reduceAdd, tvs, bs]; try refine aA ?_) | refine G_seq ?_ | refine G_block ?_ | refine G_condT rfl ?_ | refine G_condF rfl ?_ | refine G_skip ?_ | refine G_ret ?_ | refine G_exit ?_ | refine q_tn ?_ | refine q_tr ?_ | refine q_tx ?_ | refine q_bn ?_ | refine q_br ?_ | refine q_bx ?_ | refine q_by (by decide) ?_)
    (refine FinQ hQ (congrArg Array.toList Tryz.results5) _ _ ?_); simp (disch := omega) only [u, i64, ax, if_true, forall_const, reduceCtorEq, implies_true, tvs, bf]
end Go.Proofs
set_option linter.unusedVariables false
set_option linter.unusedSimpArgs false
namespace Go.Proofs
open Go.Ax
set_option maxRecDepth 100000 in
set_option maxHeartbeats 2000000 in
theorem ret_log (ns dn : List Nat) (hn : Wd ns) (hd : Wd dn) (hln : ns.length ≤ 4096) (hld : dn.length ≤ 4096) : Ret Tryz.prog GEs 92 [ws ns, ws dn] (i64 (lg (val ns) (val dn))) := by
  have hLn := ret_Len ns hn (by omega)
  have hLd := ret_Len dn hd (by omega)
  have hb1 := bl_valL hn
  have hb2 := bl_valL hd
  unfold lg
  have eA : ∀ m k : Nat, bl m ≤ 300000 → k ≤ 300000 → (words (m * 2 ^ k)).length ≤ 10001 := fun m k h1 h2 => by
    by_cases h0 : m = 0
    · subst h0; rw [Nat.zero_mul]; decide
    · exact length_bl (by rw [bl_mul _ _ h0]; omega)
  obtain ⟨e, he⟩ : ∃ e, (bl (val ns) : Int) - bl (val dn) = e := ⟨_, rfl⟩
  rw [he]
  have l1 := eA (val ns) (-e).toNat (by omega) (by omega)
  have l2 := eA (val dn) e.toNat (by omega) (by omega)
  have hS1 := ret_Shl ns (-e).toNat hn (by omega) (by omega)
  have hS2 := ret_Shl dn e.toNat hd (by omega) (by omega)
  have hC := ret_Cmp (words (val ns * 2 ^ (-e).toNat)) (words (val dn * 2 ^ e.toNat)) (Wd_words _) (Wd_words _) (by omega) (by omega)
  rw [val_words, val_words] at hC
  have m1 : max e 0 = ((e.toNat : Nat) : Int) := by omega
  have m2 : max (0 - e) 0 = (((-e).toNat : Nat) : Int) := by omega
  have hC2 : ∃ z : Int, (z < 0 ↔ val ns * 2 ^ (-e).toNat < val dn * 2 ^ e.toNat) ∧ Ret Tryz.prog GEs 112 [ws (words (val ns * 2 ^ (-e).toNat)), ws (words (val dn * 2 ^ e.toNat))] (i64 z) := ⟨_, by unfold cmpI; split <;> (try split) <;> omega, hC⟩
  obtain ⟨z, hz, hC⟩ := hC2
  generalize val ns * 2 ^ (-e).toNat = A at *
  generalize val dn * 2 ^ e.toNat = B at *
  generalize e.toNat = t1 at *
  generalize (-e).toNat = t2 at *
  have he1 : -300000 ≤ e ∧ e ≤ 300000 := by omega
  by_cases hc : A < B
  · rw [if_pos hc]
    have hz := hz.2 hc
    refine RetN_start Tryz.func92 (by kernel_rfl) rfl fun Q hQ hQ2 => ?_; rw [Tryz.ntmps92]; simp only [u, i64, Nat.reduceSub, Nat.reduceAdd, bm]
    repeat (first | ((first | refine Gs ?_ | refine Gr ?_); simp (disch := omega) only [u, i64, ax, eq_self, if_true, if_false, Nat.reduceAdd, Int.reduceToNat, Int.reduceAdd, tvs, bs]; refine aA ?_) | refine G_seq ?_ | refine G_block ?_ | refine G_condT rfl ?_ | refine G_condF rfl ?_ | refine G_skip ?_ | refine G_ret ?_ | refine G_exit ?_ | refine q_tn ?_ | refine q_tr ?_ | refine q_tx ?_ | refine q_bn ?_ | refine q_br ?_ | refine q_bx ?_ | refine q_by (by decide) ?_)
    ((first | refine Gs ?_ | refine Gr ?_); simp (disch := omega) only [u, i64, ax, eq_self, if_true, if_false, Nat.reduceAdd, Int.reduceToNat, Int.reduceAdd, tvs, bs])
    (refine cR hLn ?_; simp (disch := omega) only [u, i64, ax, eq_self, if_true, if_false, Nat.reduceAdd, Int.reduceToNat, Int.reduceAdd, tvs, bs]; try refine aA ?_)
    (refine cR hLd ?_; simp (disch := omega) only [u, i64, ax, eq_self, if_true, if_false, Nat.reduceAdd, Int.reduceToNat, Int.reduceAdd, tvs, bs]; try refine aA ?_)
    rw [he]
    repeat (first | ((first | refine Gs ?_ | refine Gr ?_); simp (disch := omega) only [u, i64, ax, eq_self, if_true, if_false, Nat.reduceAdd, Int.reduceToNat, Int.reduceAdd, tvs, bs]; refine aA ?_) | refine G_seq ?_ | refine G_block ?_ | refine G_condT rfl ?_ | refine G_condF rfl ?_ | refine G_skip ?_ | refine G_ret ?_ | refine G_exit ?_ | refine q_tn ?_ | refine q_tr ?_ | refine q_tx ?_ | refine q_bn ?_ | refine q_br ?_ | refine q_bx ?_ | refine q_by (by decide) ?_)
    ((first | refine Gs ?_ | refine Gr ?_); simp (disch := omega) only [u, i64, ax, eq_self, if_true, if_false, Nat.reduceAdd, Int.reduceToNat, Int.reduceAdd, tvs, bs])
    rw [m2]
    (refine cR hS1 ?_; simp (disch := omega) only [u, i64, ax, eq_self, if_true, if_false, Nat.reduceAdd, Int.reduceToNat, Int.reduceAdd, tvs, bs]; try refine aA ?_)
    rw [m1]
    repeat (first | ((first | refine Gs ?_ | refine Gr ?_); simp (disch := omega) only [u, i64, ax, eq_self, if_true, if_false, Nat.reduceAdd, Int.reduceToNat, Int.reduceAdd, tvs, bs]; first | refine aA ?_ | ((first | refine cR hS2 ?_ | refine cR hC ?_); simp (disch := omega) only [u, i64, ax, eq_self, if_true, if_false, Nat.reduceAdd, Int.reduceToNat, Int.reduceAdd, tvs, bs]; try refine aA ?_)) | ((first | refine cR hS2 ?_ | refine cR hC ?_); simp (disch := omega) only [u, i64, ax, eq_self, if_true, if_false, Nat.reduceAdd, Int.reduceToNat, Int.reduceAdd, tvs, bs]; try refine aA ?_) | refine G_seq ?_ | refine G_block ?_ | refine G_condT rfl ?_ | refine G_condF rfl ?_ | refine G_skip ?_ | refine G_ret ?_ | refine G_exit ?_ | refine q_tn ?_ | refine q_tr ?_ | refine q_tx ?_ | refine q_bn ?_ | refine q_br ?_ | refine q_bx ?_ | refine q_by (by decide) ?_)
    (refine FinQ hQ (congrArg Array.toList Tryz.results92) _ _ ?_); simp (disch := omega) only [u, i64, ax, if_true, forall_const, reduceCtorEq, implies_true, tvs, bf]
  · rw [if_neg hc]
    have hz : ¬ z < 0 := fun h => hc (hz.1 h)
    refine RetN_start Tryz.func92 (by kernel_rfl) rfl fun Q hQ hQ2 => ?_; rw [Tryz.ntmps92]; simp only [u, i64, Nat.reduceSub, Nat.reduceAdd, bm]
    repeat (first | ((first | refine Gs ?_ | refine Gr ?_); simp (disch := omega) only [u, i64, ax, eq_self, if_true, if_false, Nat.reduceAdd, Int.reduceToNat, Int.reduceAdd, tvs, bs]; refine aA ?_) | refine G_seq ?_ | refine G_block ?_ | refine G_condT rfl ?_ | refine G_condF rfl ?_ | refine G_skip ?_ | refine G_ret ?_ | refine G_exit ?_ | refine q_tn ?_ | refine q_tr ?_ | refine q_tx ?_ | refine q_bn ?_ | refine q_br ?_ | refine q_bx ?_ | refine q_by (by decide) ?_)
    ((first | refine Gs ?_ | refine Gr ?_); simp (disch := omega) only [u, i64, ax, eq_self, if_true, if_false, Nat.reduceAdd, Int.reduceToNat, Int.reduceAdd, tvs, bs])
    (refine cR hLn ?_; simp (disch := omega) only [u, i64, ax, eq_self, if_true, if_false, Nat.reduceAdd, Int.reduceToNat, Int.reduceAdd, tvs, bs]; try refine aA ?_)
    (refine cR hLd ?_; simp (disch := omega) only [u, i64, ax, eq_self, if_true, if_false, Nat.reduceAdd, Int.reduceToNat, Int.reduceAdd, tvs, bs]; try refine aA ?_)
    rw [he]
    repeat (first | ((first | refine Gs ?_ | refine Gr ?_); simp (disch := omega) only [u, i64, ax, eq_self, if_true, if_false, Nat.reduceAdd, Int.reduceToNat, Int.reduceAdd, tvs, bs]; refine aA ?_) | refine G_seq ?_ | refine G_block ?_ | refine G_condT rfl ?_ | refine G_condF rfl ?_ | refine G_skip ?_ | refine G_ret ?_ | refine G_exit ?_ | refine q_tn ?_ | refine q_tr ?_ | refine q_tx ?_ | refine q_bn ?_ | refine q_br ?_ | refine q_bx ?_ | refine q_by (by decide) ?_)
    ((first | refine Gs ?_ | refine Gr ?_); simp (disch := omega) only [u, i64, ax, eq_self, if_true, if_false, Nat.reduceAdd, Int.reduceToNat, Int.reduceAdd, tvs, bs])
    rw [m2]
    (refine cR hS1 ?_; simp (disch := omega) only [u, i64, ax, eq_self, if_true, if_false, Nat.reduceAdd, Int.reduceToNat, Int.reduceAdd, tvs, bs]; try refine aA ?_)
    rw [m1]
    repeat (first | ((first | refine Gs ?_ | refine Gr ?_); simp (disch := omega) only [u, i64, ax, eq_self, if_true, if_false, Nat.reduceAdd, Int.reduceToNat, Int.reduceAdd, tvs, bs]; first | refine aA ?_ | ((first | refine cR hS2 ?_ | refine cR hC ?_); simp (disch := omega) only [u, i64, ax, eq_self, if_true, if_false, Nat.reduceAdd, Int.reduceToNat, Int.reduceAdd, tvs, bs]; try refine aA ?_)) | ((first | refine cR hS2 ?_ | refine cR hC ?_); simp (disch := omega) only [u, i64, ax, eq_self, if_true, if_false, Nat.reduceAdd, Int.reduceToNat, Int.reduceAdd, tvs, bs]; try refine aA ?_) | refine G_seq ?_ | refine G_block ?_ | refine G_condT rfl ?_ | refine G_condF rfl ?_ | refine G_skip ?_ | refine G_ret ?_ | refine G_exit ?_ | refine q_tn ?_ | refine q_tr ?_ | refine q_tx ?_ | refine q_bn ?_ | refine q_br ?_ | refine q_bx ?_ | refine q_by (by decide) ?_)
    (refine FinQ hQ (congrArg Array.toList Tryz.results92) _ _ ?_); simp (disch := omega) only [u, i64, ax, if_true, forall_const, reduceCtorEq, implies_true, tvs, bf]
/-- 2^e as a fraction. -/
abbrev pw2 (e : Int) : AV := .agg [.bool false, nat (2 ^ e.toNat), nat (2 ^ (-e).toNat)]
theorem ret_rpower (e : Int) (h1 : -100000 ≤ e) (h2 : e ≤ 100000) : Ret Tryz.prog GEs 90 [i64 e] (pw2 e) := by
  have hS1 := ret_Shl [1] e.toNat (fun x hx => by simp at hx; subst hx; decide) (by decide) (by omega)
  have hS2 := ret_Shl [1] (-e).toNat (fun x hx => by simp at hx; subst hx; decide) (by decide) (by omega)
  rw [show val [1] = 1 from rfl, Nat.one_mul] at hS1 hS2
  have m1 : max e 0 = ((e.toNat : Nat) : Int) := by omega
  have m2 : max (0 - e) 0 = (((-e).toNat : Nat) : Int) := by omega
  refine RetN_start Tryz.func90 (by kernel_rfl) rfl fun Q hQ hQ2 => ?_; rw [Tryz.ntmps90]; simp only [u, i64, Nat.reduceSub, Nat.reduceAdd, bm]
  repeat (first | ((first | refine Gs ?_ | refine Gr ?_); simp (disch := omega) only [u, i64, ax, eq_self, if_true, if_false, Nat.reduceAdd, Int.reduceToNat, Int.reduceAdd, tvs, bs]; refine aA ?_) | refine G_seq ?_ | refine G_block ?_ | refine G_condT rfl ?_ | refine G_condF rfl ?_ | refine G_skip ?_ | refine G_ret ?_ | refine G_exit ?_ | refine q_tn ?_ | refine q_tr ?_ | refine q_tx ?_ | refine q_bn ?_ | refine q_br ?_ | refine q_bx ?_ | refine q_by (by decide) ?_)
  ((first | refine Gs ?_ | refine Gr ?_); simp (disch := omega) only [u, i64, ax, eq_self, if_true, if_false, Nat.reduceAdd, Int.reduceToNat, Int.reduceAdd, tvs, bs])
  rw [m1]
  (refine cR hS1 ?_; simp (disch := omega) only [u, i64, ax, eq_self, if_true, if_false, Nat.reduceAdd, Int.reduceToNat, Int.reduceAdd, tvs, bs]; try refine aA ?_)
  rw [m2]
  repeat (first | ((first | refine Gs ?_ | refine Gr ?_); simp (disch := omega) only [u, i64, ax, eq_self, if_true, if_false, Nat.reduceAdd, Int.reduceToNat, Int.reduceAdd, tvs, bs]; first | refine aA ?_ | (refine cR hS2 ?_; simp (disch := omega) only [u, i64, ax, eq_self, if_true, if_false, Nat.reduceAdd, Int.reduceToNat, Int.reduceAdd, tvs, bs]; try refine aA ?_)) | (refine cR hS2 ?_; simp (disch := omega) only [u, i64, ax, eq_self, if_true, if_false, Nat.reduceAdd, Int.reduceToNat, Int.reduceAdd, tvs, bs]; try refine aA ?_) | refine G_seq ?_ | refine G_block ?_ | refine G_condT rfl ?_ | refine G_condF rfl ?_ | refine G_skip ?_ | refine G_ret ?_ | refine G_exit ?_ | refine q_tn ?_ | refine q_tr ?_ | refine q_tx ?_ | refine q_bn ?_ | refine q_br ?_ | refine q_bx ?_ | refine q_by (by decide) ?_)
  (refine FinQ hQ (congrArg Array.toList Tryz.results90) _ _ ?_); simp (disch := omega) only [u, i64, ax, if_true, forall_const, reduceCtorEq, implies_true, tvs, bf]
  all_goals rfl
abbrev rtz : AV := .agg [.bool false, ws [], ws []]
theorem ret_rStep_bad (k p : Int) (neg : Bool) (ns dn : List Nat) (hn : Wd ns) (hd : Wd dn) (hln : ns.length ≤ 137438953472) (hld : dn.length ≤ 137438953472)
    (he : errR 0 k p ns.length dn.length (val dn) ≠ 0) : Ret Tryz.prog GEs 29 [.agg [i64 k, i64 p], .agg [.bool neg, ws ns, ws dn]] (.tup [rtz, i64 (errR 0 k p ns.length dn.length (val dn) : Nat)]) := by
  have hC := ret_check 0 (by decide) (by decide) neg ns dn hn hd hln hld
  unfold errR at he ⊢
  by_cases h0 : errQ 0 ns.length dn.length (val dn) = 0
  · rw [if_neg (not_not_intro h0)] at he ⊢
    rw [h0] at hC
    have hF : ¬ okFm k p := fun h => he (if_pos h)
    have hK := ret_fCheck k p
    rw [if_neg hF] at hK ⊢
    refine RetN_start Tryz.func29 (by kernel_rfl) rfl fun Q hQ hQ2 => ?_; rw [Tryz.ntmps29]; simp only [u, i64, Nat.reduceSub, Nat.reduceAdd, bm]
    repeat (first | ((first | refine Gs ?_ | refine Gr ?_); simp (disch := omega) only [u, i64, ax, eq_self, if_true, if_false, Nat.reduceAdd, Int.reduceToNat, Int.reduceAdd, tvs, bs]; first | refine aA ?_ | ((first | refine cR hC ?_ | refine cR hK ?_); simp (disch := omega) only [u, i64, ax, eq_self, if_true, if_false, Nat.reduceAdd, Int.reduceToNat, Int.reduceAdd, tvs, bs]; try refine aA ?_)) | ((first | refine cR hC ?_ | refine cR hK ?_); simp (disch := omega) only [u, i64, ax, eq_self, if_true, if_false, Nat.reduceAdd, Int.reduceToNat, Int.reduceAdd, tvs, bs]; try refine aA ?_) | refine G_seq ?_ | refine G_block ?_ | refine G_condT rfl ?_ | refine G_condF rfl ?_ | refine G_skip ?_ | refine G_ret ?_ | refine G_exit ?_ | refine q_tn ?_ | refine q_tr ?_ | refine q_tx ?_ | refine q_bn ?_ | refine q_br ?_ | refine q_bx ?_ | refine q_by (by decide) ?_)
    (refine FinQ hQ (congrArg Array.toList Tryz.results29) _ _ ?_); simp (disch := omega) only [u, i64, ax, if_true, forall_const, reduceCtorEq, implies_true, tvs, bf]
    all_goals rfl
  · rw [if_pos h0]
    generalize errQ 0 ns.length dn.length (val dn) = e at *
    refine RetN_start Tryz.func29 (by kernel_rfl) rfl fun Q hQ hQ2 => ?_; rw [Tryz.ntmps29]; simp only [u, i64, Nat.reduceSub, Nat.reduceAdd, bm]
    repeat (first | ((first | refine Gs ?_ | refine Gr ?_); simp (disch := omega) only [u, i64, ax, eq_self, if_true, if_false, Nat.reduceAdd, Int.reduceToNat, Int.reduceAdd, tvs, bs]; first | refine aA ?_ | (refine cR hC ?_; simp (disch := omega) only [u, i64, ax, eq_self, if_true, if_false, Nat.reduceAdd, Int.reduceToNat, Int.reduceAdd, tvs, bs]; try refine aA ?_)) | (refine cR hC ?_; simp (disch := omega) only [u, i64, ax, eq_self, if_true, if_false, Nat.reduceAdd, Int.reduceToNat, Int.reduceAdd, tvs, bs]; try refine aA ?_) | refine G_seq ?_ | refine G_block ?_ | refine G_condT rfl ?_ | refine G_condF rfl ?_ | refine G_skip ?_ | refine G_ret ?_ | refine G_exit ?_ | refine q_tn ?_ | refine q_tr ?_ | refine q_tx ?_ | refine q_bn ?_ | refine q_br ?_ | refine q_bx ?_ | refine q_by (by decide) ?_)
    (refine FinQ hQ (congrArg Array.toList Tryz.results29) _ _ ?_); simp (disch := omega) only [u, i64, ax, if_true, forall_const, reduceCtorEq, implies_true, tvs, bf]
    all_goals rfl
/-- The exponent of the step at a number. -/
def stpQ (p : Nat) (G : Int) (n d : Nat) : Int := if n = 0 then 1 - G - ((p - 1 : Nat) : Int) else stpF p G (lg n d)
set_option maxRecDepth 100000 in
set_option maxHeartbeats 2000000 in
theorem ret_rStep_ok (k p : Nat) (hf : okFm k p) (neg : Bool) (ns dn : List Nat) (hn : Wd ns) (hd : Wd dn) (hln : ns.length ≤ 40) (hld : dn.length ≤ 40) (hd0 : val dn ≠ 0) :
    Ret Tryz.prog GEs 29 [.agg [i64 k, i64 p], .agg [.bool neg, ws ns, ws dn]] (.tup [pw2 (stpQ p (gF k) (val ns) (val dn)), i64 0]) ∧ -100000 ≤ stpQ p (gF k) (val ns) (val dn) ∧ stpQ p (gF k) (val ns) (val dn) ≤ 100000 := by
  have hC := ret_check 0 (by decide) (by decide) neg ns dn hn hd (by omega) (by omega)
  rw [errQ_ok (by omega) (by omega) hd0 (by omega)] at hC
  have hK := ret_fCheck k p
  rw [if_pos hf] at hK
  have hR := ret_fRange k p hf
  have hg := gF_le (k := k) (by omega) (by omega)
  have hZ := ret_Zero ns hn (by omega)
  have hb1 := bl_valL hn
  have hb2 := bl_valL hd
  unfold stpQ
  by_cases hz : val ns = 0
  · rw [if_pos hz]
    rw [decT hz] at hZ
    have hP := ret_rpower (1 - gF k - ((p - 1 : Nat) : Int)) (by omega) (by omega)
    refine ⟨?_, by omega, by omega⟩
    generalize gF k = G at *
    generalize (1 - G - ((p - 1 : Nat) : Int)) = e at *
    refine RetN_start Tryz.func29 (by kernel_rfl) rfl fun Q hQ hQ2 => ?_; rw [Tryz.ntmps29]; simp only [u, i64, Nat.reduceSub, Nat.reduceAdd, bm]
    repeat (first | ((first | refine Gs ?_ | refine Gr ?_); simp (disch := omega) only [u, i64, ax, eq_self, if_true, if_false, Nat.reduceAdd, Int.reduceToNat, Int.reduceAdd, tvs, bs]; first | refine aA ?_ | ((first | refine cR hC ?_ | refine cR hK ?_ | refine cR hR ?_ | refine cR hZ ?_ | refine cR hP ?_); simp (disch := omega) only [u, i64, ax, eq_self, if_true, if_false, Nat.reduceAdd, Int.reduceToNat, Int.reduceAdd, tvs, bs]; try refine aA ?_)) | ((first | refine cR hC ?_ | refine cR hK ?_ | refine cR hR ?_ | refine cR hZ ?_ | refine cR hP ?_); simp (disch := omega) only [u, i64, ax, eq_self, if_true, if_false, Nat.reduceAdd, Int.reduceToNat, Int.reduceAdd, tvs, bs]; try refine aA ?_) | refine G_seq ?_ | refine G_block ?_ | refine G_condT rfl ?_ | refine G_condF rfl ?_ | refine G_skip ?_ | refine G_ret ?_ | refine G_exit ?_ | refine q_tn ?_ | refine q_tr ?_ | refine q_tx ?_ | refine q_bn ?_ | refine q_br ?_ | refine q_bx ?_ | refine q_by (by decide) ?_)
    (refine FinQ hQ (congrArg Array.toList Tryz.results29) _ _ ?_); simp (disch := omega) only [u, i64, ax, if_true, forall_const, reduceCtorEq, implies_true, tvs, bf]
    all_goals rfl
  · rw [if_neg hz]
    rw [decF hz] at hZ
    have hL := ret_log ns dn hn hd (by omega) (by omega)
    have hl := lg_bound hz hd0
    have hS := ret_finStep k p hf (lg (val ns) (val dn)) (by omega) (by omega)
    have hs := stpF_max p (gF k) (lg (val ns) (val dn))
    have hP := ret_rpower (stpF p (gF k) (lg (val ns) (val dn))) (by omega) (by omega)
    refine ⟨?_, by omega, by omega⟩
    generalize stpF p (gF k) (lg (val ns) (val dn)) = e at *
    generalize lg (val ns) (val dn) = l at *
    generalize gF k = G at *
    refine RetN_start Tryz.func29 (by kernel_rfl) rfl fun Q hQ hQ2 => ?_; rw [Tryz.ntmps29]; simp only [u, i64, Nat.reduceSub, Nat.reduceAdd, bm]
    repeat (first | ((first | refine Gs ?_ | refine Gr ?_); simp (disch := omega) only [u, i64, ax, eq_self, if_true, if_false, Nat.reduceAdd, Int.reduceToNat, Int.reduceAdd, tvs, bs]; first | refine aA ?_ | ((first | refine cR hC ?_ | refine cR hK ?_ | refine cR hR ?_ | refine cR hZ ?_ | refine cR hL ?_ | refine cR hS ?_ | refine cR hP ?_); simp (disch := omega) only [u, i64, ax, eq_self, if_true, if_false, Nat.reduceAdd, Int.reduceToNat, Int.reduceAdd, tvs, bs]; try refine aA ?_)) | ((first | refine cR hC ?_ | refine cR hK ?_ | refine cR hR ?_ | refine cR hZ ?_ | refine cR hL ?_ | refine cR hS ?_ | refine cR hP ?_); simp (disch := omega) only [u, i64, ax, eq_self, if_true, if_false, Nat.reduceAdd, Int.reduceToNat, Int.reduceAdd, tvs, bs]; try refine aA ?_) | refine G_seq ?_ | refine G_block ?_ | refine G_condT rfl ?_ | refine G_condF rfl ?_ | refine G_skip ?_ | refine G_ret ?_ | refine G_exit ?_ | refine q_tn ?_ | refine q_tr ?_ | refine q_tx ?_ | refine q_bn ?_ | refine q_br ?_ | refine q_bx ?_ | refine q_by (by decide) ?_)
    (refine FinQ hQ (congrArg Array.toList Tryz.results29) _ _ ?_); simp (disch := omega) only [u, i64, ax, if_true, forall_const, reduceCtorEq, implies_true, tvs, bf]
    all_goals rfl
end Go.Proofs
