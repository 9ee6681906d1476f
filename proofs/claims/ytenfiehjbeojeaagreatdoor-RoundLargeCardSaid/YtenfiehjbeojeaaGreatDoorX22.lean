/-
  Contracts of functions of the program, each proved by a walk.
-/
import Derived.Test.YtenfiehjbeojeaaGreatDoorX21
import Derived.Test.YtenfiehjbeojeaaGreatDoorX7
set_option maxRecDepth 100000
set_option linter.unusedVariables false
set_option linter.unusedSimpArgs false
set_option maxRecDepth 100000
set_option maxHeartbeats 4000000
namespace Go.Proofs
open Go.Ax
theorem Ret_nilL {P : Program} {GE : Nat → Option (List AV)} {f : FuncId} {args args' : List AV} {r : AV} (h : Ret P GE f args r) (hn : nrms args' = args) : Ret P GE f args' r :=
  ⟨h.1, fun w ok vargs hG hv => h.2 w ok vargs hG (by rw [← hn]; exact VReps.nrm _ _ hv)⟩
theorem pad_set (n : Nat) (xs : List Nat) (i : Nat) (h : i < xs.length) (hn : i < n) : (xs.take i ++ List.replicate (n - i) 0).set i (xs.getD i 0) = xs.take (i + 1) ++ List.replicate (n - (i + 1)) 0 := by
  have e : (xs.take i).length = i := by rw [List.length_take]; omega
  rw [List.set_append_right _ _ (by omega), e, Nat.sub_self, show n - i = (n - (i + 1)) + 1 by omega, List.replicate_succ, List.set_cons_zero, List.take_add_one, List.getElem?_eq_getElem h, List.getD_eq_getElem?_getD, List.getElem?_eq_getElem h, List.append_assoc]
  rfl
theorem ret_Long15 (xs : List Nat) (hx : Wd xs) (hl : xs.length ≤ 40) : ∃ ys : List Nat, ys.length = 4097 ∧ Wd ys ∧ Ret Tryz.prog GEs 7 [.agg [i64 0, .bool false, i64 0, ws xs]] (.agg [i64 0, .bool false, i64 0, ws ys]) := by
  obtain ⟨M, hM⟩ : ∃ M : Nat, M = 4097 := ⟨_, rfl⟩
  refine ⟨xs ++ List.replicate (M - xs.length) 0, by rw [List.length_append, List.length_replicate]; omega, hx.append (Wd_replicate _ (by decide)), ?_⟩
  refine RetN_start Tryz.func7 (by kernel_rfl) rfl fun Q hQ hQ2 => ?_; rw [Tryz.ntmps7]; simp only [u, i64, Nat.reduceSub, Nat.reduceAdd, bm]
  (refine gO ?_)
  refine AWp_loop (fun i : Nat × List Nat => mk 28 [(1, .ptr 0 0 0), (2, .ptr 1 0 0), (3, .own 2 0 0 4097 1), (4, i64 i.1)] [⟨0, true, [i64 0, .bool false, i64 0, ws xs]⟩, ⟨0, true, [i64 0, .bool false, i64 0, .emp]⟩, ⟨0, true, us i.2⟩]) (fun i => i.1 ≤ xs.length ∧ i.2.length = 4097 ∧ i.2 = xs.take i.1 ++ List.replicate (M - i.1) 0) (fun i => xs.length - i.1) (0, List.replicate 4097 0) ?_ ⟨Nat.zero_le _, List.length_replicate, by rw [hM, List.take_zero, List.nil_append, Nat.sub_zero]⟩ ?_
  · simp only [u, i64, Nat.reduceSub, Nat.reduceAdd, bm]
  rintro ⟨i, os⟩ ⟨h1, h2, h3⟩
  simp only at h1 h2 h3
  simp only [u, i64, Nat.reduceSub, Nat.reduceAdd, bm]
  by_cases hi : i < xs.length
  · (refine gO ?_)
    refine ⟨(i + 1, os.set i (xs.getD i 0)), ?_, ⟨hi, by rw [List.length_set]; exact h2, by rw [h3]; exact pad_set M xs i hi (by omega)⟩, by simp only; omega⟩
    simp only [u, i64, Nat.reduceSub, Nat.reduceAdd, bm]
  · have e : i = xs.length := by omega
    subst e
    rw [List.take_length] at h3
    subst h3
    have hl2 : (xs ++ List.replicate (M - xs.length) 0).length = 4097 := h2
    (refine gO ?_)
    (refine FinQ hQ (congrArg Array.toList Tryz.results7) _ _ ?_); simp (disch := omega) only [u, i64, ax, if_true, forall_const, reduceCtorEq, implies_true, tvs, bf]
    all_goals rfl
theorem ret_check2L (r : Int) (a b : Bool) (ns ms ys : List Nat) (l1 : ns.length ≤ 40) (l2 : ms.length ≤ 40) (l3 : ys.length = 4097) :
    Ret Tryz.prog GEs 36 [i64 r, .lst 2 [.bool a, ws ns, .emp, .bool b, ws ms, ws ys]] (i64 2) := by
  refine RetN_start Tryz.func36 (by kernel_rfl) rfl fun Q hQ hQ2 => ?_; rw [Tryz.ntmps36]; simp only [u, i64, Nat.reduceSub, Nat.reduceAdd, bm]
  (refine gO ?_)
  refine G_loop ?_
  refine G_round ?_
  (refine gO ?_)
  refine G_round ?_
  (refine gO ?_)
  (refine FinQ hQ (congrArg Array.toList Tryz.results36) _ _ ?_); simp (disch := omega) only [u, i64, ax, if_true, forall_const, reduceCtorEq, implies_true, tvs, bf]
theorem ret_check2Z (r : Int) (a b : Bool) (ns ms ys : List Nat) (l1 : ns.length ≤ 40) (l2 : ms.length ≤ 40) (l3 : ys.length ≤ 40) :
    Ret Tryz.prog GEs 36 [i64 r, .lst 2 [.bool a, ws ns, .emp, .bool b, ws ms, ws ys]] (i64 5) := by
  have hZ := ret_Zero [] Wd_nil (by decide)
  rw [decT (show val [] = 0 from rfl)] at hZ
  have hZ2 := Ret_emp hZ
  refine RetN_start Tryz.func36 (by kernel_rfl) rfl fun Q hQ hQ2 => ?_; rw [Tryz.ntmps36]; simp only [u, i64, Nat.reduceSub, Nat.reduceAdd, bm]
  (refine gO ?_)
  refine G_loop ?_
  refine G_round ?_
  (refine gO ?_)
  refine G_round ?_
  (refine gO ?_)
  refine G_round ?_
  (refine gO ?_)
  refine G_loop ?_
  refine G_round ?_
  repeat (first | (refine gC ?_; first | refine aA ?_ | (refine cR hZ2 ?_; refine sX ?_; try refine aA ?_)) | (refine cR hZ2 ?_; refine sX ?_; try refine aA ?_) | refine gS ?_)
  (refine FinQ hQ (congrArg Array.toList Tryz.results36) _ _ ?_); simp (disch := omega) only [u, i64, ax, if_true, forall_const, reduceCtorEq, implies_true, tvs, bf]
theorem ret_Multiple_bad (r : Int) (a b : Bool) (ns ms ys : List Nat) (e : Int) (he : 0 < e) (he2 : e < 1000) (hC : Ret Tryz.prog GEs 36 [i64 r, .lst 2 [.bool a, ws ns, .emp, .bool b, ws ms, ws ys]] (i64 e)) :
    Ret Tryz.prog GEs 13 [i64 r, .agg [.bool a, ws ns, .emp], .agg [.bool b, ws ms, ws ys]] (.tup [rtz, .bool false, i64 e]) := by
  refine RetN_start Tryz.func13 (by kernel_rfl) rfl fun Q hQ hQ2 => ?_; rw [Tryz.ntmps13]; simp only [u, i64, Nat.reduceSub, Nat.reduceAdd, bm]
  (refine gO ?_)
  (refine gC ?_)
  simp (disch := omega) only [u, i64, ax, eq_self, if_true, if_false, Nat.reduceAdd, Int.reduceToNat, Int.reduceAdd, tvs, bs, Nat.reduceMul, List.take_succ_cons, List.take_zero, List.nil_append, List.cons_append, List.append_nil, Nat.reduceLeDiff]
  repeat (first | (refine gC ?_; first | refine aA ?_ | (refine cR hC ?_; refine sX ?_; try refine aA ?_)) | (refine cR hC ?_; refine sX ?_; try refine aA ?_) | refine gS ?_)
  (refine FinQ hQ (congrArg Array.toList Tryz.results13) _ _ ?_); simp (disch := omega) only [u, i64, ax, if_true, forall_const, reduceCtorEq, implies_true, tvs, bf]
  all_goals rfl
set_option maxHeartbeats 16000000 in
theorem ret_LawRoundLarge (k p r : Int) (r1 : -9223372036854775808 ≤ r) (r2 : r < 9223372036854775808) (neg : Bool) (ns dn : List Nat) (hn : Wd ns) (hd : Wd dn) (hln : ns.length ≤ 9223372036854775807) (hld : dn.length ≤ 9223372036854775807) :
    Ret Tryz.prog GEs 3 [.agg [i64 k, i64 p], i64 r, .agg [.bool neg, ws ns, ws dn]] (.bool true) := by
  have hB := ret_Brief1 neg ns dn hln hld
  by_cases hb : ns.length ≤ 40 ∧ dn.length ≤ 40
  · rw [decT hb] at hB
    obtain ⟨ys, hy, hyw, hL⟩ := ret_Long15 dn hd hb.2
    have eL : ∀ q : Int, errR q k p ns.length ys.length (val ys) = 2 := fun q => by unfold errR; rw [errQ_size (.inr (by omega)), if_pos (by decide)]
    have eZ : ∀ q : Int, errR q k p ns.length ([] : List Nat).length (val []) = 5 := fun q => by unfold errR; rw [errQ_zero (r := q) (n := ns.length) (d := ([] : List Nat).length) (v := val []) (by omega) (by decide) rfl, if_pos (by decide)]
    have e5 : errQ r ns.length ([] : List Nat).length (val []) = 5 := errQ_zero (by omega) (by decide) rfl
    have hR := ret_Round_bad r k p r1 r2 neg ns ys hn hyw (by omega) (by omega) (by rw [eL]; decide)
    have hR2 := ret_Round_bad r k p r1 r2 neg ns [] hn Wd_nil (by omega) (by decide) (by rw [eZ]; decide)
    have hBt := ret_Between_bad k p neg ns ys hn hyw (by omega) (by omega) (by rw [eL]; decide)
    have hEx := ret_Exact_bad k p neg ns [] hn Wd_nil (by omega) (by decide) (by rw [eZ]; decide)
    have hSt := ret_rStep_bad k p neg ns ys hn hyw (by omega) (by omega) (by rw [eL]; decide)
    have hWh := ret_RoundWhole r r1 r2 neg ns [] hn Wd_nil (by omega) (by decide)
    rw [eL] at hR hBt hSt
    rw [eZ] at hR2 hEx
    rw [if_neg (by rw [e5]; decide), e5] at hWh
    have hM1 := ret_Multiple_bad r neg neg ns ns ys 2 (by decide) (by decide) (ret_check2L r neg neg ns ns ys hb.1 hb.1 hy)
    have hM2 := ret_Multiple_bad r neg neg ns ns dn 5 (by decide) (by decide) (ret_check2Z r neg neg ns ns dn hb.1 hb.1 hb.2)
    have hR3 : Ret Tryz.prog GEs 8 [.agg [i64 k, i64 p], i64 r, .agg [.bool neg, ws ns, .emp]] _ := Ret_nilL hR2 (by simp only [i64, nrms_cons, nrms_nil, nrm_agg, nrm_int, nrm_bool, nrm_lst, nrm_emp, nrms_us]; rfl)
    have hEx2 : Ret Tryz.prog GEs 10 [.agg [i64 k, i64 p], .agg [.bool neg, ws ns, .emp]] _ := Ret_nilL hEx (by simp only [i64, nrms_cons, nrms_nil, nrm_agg, nrm_int, nrm_bool, nrm_lst, nrm_emp, nrms_us]; rfl)
    have hWh2 : Ret Tryz.prog GEs 12 [i64 r, .agg [.bool neg, ws ns, .emp]] _ := Ret_nilL hWh (by simp only [i64, nrms_cons, nrms_nil, nrm_agg, nrm_int, nrm_bool, nrm_lst, nrm_emp, nrms_us]; rfl)
    clear hR2 hEx hWh eL eZ e5 hn hd hyw hb hln hld r1 r2 hy
    refine RetN_start Tryz.func3 (by kernel_rfl) rfl fun Q hQ hQ2 => ?_; rw [Tryz.ntmps3]; simp only [u, i64, Nat.reduceSub, Nat.reduceAdd, bm]
    repeat (first | refine G_seq ?_ | refine G_block ?_ | refine G_condT rfl ?_ | refine G_condF rfl ?_ | refine G_skip ?_ | refine q_tn ?_ | refine q_bn ?_)
    refine G_reg mixed (by first | rfl | kernel_rfl) ?_
    simp (disch := omega) only [u, i64, ax, eq_self, if_true, if_false, Nat.reduceAdd, Int.reduceToNat, Int.reduceAdd, tvs, bs]
    refine aft_any ?_
    repeat (first | refine G_seq ?_ | refine G_block ?_ | refine G_condT rfl ?_ | refine G_condF rfl ?_ | refine G_skip ?_ | refine q_tn ?_ | refine q_bn ?_)
    refine G_reg mixed (by first | rfl | kernel_rfl) ?_
    simp (disch := omega) only [u, i64, ax, eq_self, if_true, if_false, Nat.reduceAdd, Int.reduceToNat, Int.reduceAdd, tvs, bs]
    (refine cR hB ?_; refine sX ?_; try refine aA ?_)
    repeat (first | refine G_seq ?_ | refine G_block ?_ | refine G_condT rfl ?_ | refine G_condF rfl ?_ | refine G_skip ?_ | refine q_tn ?_ | refine q_bn ?_)
    refine G_reg mixed (by first | rfl | kernel_rfl) ?_
    simp (disch := omega) only [u, i64, ax, eq_self, if_true, if_false, Nat.reduceAdd, Int.reduceToNat, Int.reduceAdd, tvs, bs]
    (refine cR hL ?_; refine sX ?_; try refine aA ?_)
    repeat (first | refine G_seq ?_ | refine G_block ?_ | refine G_condT rfl ?_ | refine G_condF rfl ?_ | refine G_skip ?_ | refine q_tn ?_ | refine q_bn ?_)
    refine G_reg mixed (by first | rfl | kernel_rfl) ?_
    simp (disch := omega) only [u, i64, ax, eq_self, if_true, if_false, Nat.reduceAdd, Int.reduceToNat, Int.reduceAdd, tvs, bs]
    refine aft_any ?_
    repeat (first | refine G_seq ?_ | refine G_block ?_ | refine G_condT rfl ?_ | refine G_condF rfl ?_ | refine G_skip ?_ | refine q_tn ?_ | refine q_bn ?_)
    refine G_reg mixed (by first | rfl | kernel_rfl) ?_
    simp (disch := omega) only [u, i64, ax, eq_self, if_true, if_false, Nat.reduceAdd, Int.reduceToNat, Int.reduceAdd, tvs, bs]
    (refine cR hR ?_; refine sX ?_; try refine aA ?_)
    repeat (first | refine G_seq ?_ | refine G_block ?_ | refine G_condT rfl ?_ | refine G_condF rfl ?_ | refine G_skip ?_ | refine q_tn ?_ | refine q_bn ?_)
    refine G_reg mixed (by first | rfl | kernel_rfl) ?_
    simp (disch := omega) only [u, i64, ax, eq_self, if_true, if_false, Nat.reduceAdd, Int.reduceToNat, Int.reduceAdd, tvs, bs]
    (refine cR hR3 ?_; refine sX ?_; try refine aA ?_)
    repeat (first | refine G_seq ?_ | refine G_block ?_ | refine G_condT rfl ?_ | refine G_condF rfl ?_ | refine G_skip ?_ | refine q_tn ?_ | refine q_bn ?_)
    refine G_reg mixed (by first | rfl | kernel_rfl) ?_
    simp (disch := omega) only [u, i64, ax, eq_self, if_true, if_false, Nat.reduceAdd, Int.reduceToNat, Int.reduceAdd, tvs, bs]
    (refine cR hBt ?_; refine sX ?_; try refine aA ?_)
    repeat (first | refine G_seq ?_ | refine G_block ?_ | refine G_condT rfl ?_ | refine G_condF rfl ?_ | refine G_skip ?_ | refine q_tn ?_ | refine q_bn ?_)
    refine G_reg mixed (by first | rfl | kernel_rfl) ?_
    simp (disch := omega) only [u, i64, ax, eq_self, if_true, if_false, Nat.reduceAdd, Int.reduceToNat, Int.reduceAdd, tvs, bs]
    (refine cR hEx2 ?_; refine sX ?_; try refine aA ?_)
    repeat (first | refine G_seq ?_ | refine G_block ?_ | refine G_condT rfl ?_ | refine G_condF rfl ?_ | refine G_skip ?_ | refine q_tn ?_ | refine q_bn ?_)
    refine G_reg mixed (by first | rfl | kernel_rfl) ?_
    simp (disch := omega) only [u, i64, ax, eq_self, if_true, if_false, Nat.reduceAdd, Int.reduceToNat, Int.reduceAdd, tvs, bs]
    (refine cR hSt ?_; refine sX ?_; try refine aA ?_)
    repeat (first | refine G_seq ?_ | refine G_block ?_ | refine G_condT rfl ?_ | refine G_condF rfl ?_ | refine G_skip ?_ | refine q_tn ?_ | refine q_bn ?_)
    refine G_reg mixed (by first | rfl | kernel_rfl) ?_
    simp (disch := omega) only [u, i64, ax, eq_self, if_true, if_false, Nat.reduceAdd, Int.reduceToNat, Int.reduceAdd, tvs, bs]
    (refine cR hWh2 ?_; refine sX ?_; try refine aA ?_)
    repeat (first | refine G_seq ?_ | refine G_block ?_ | refine G_condT rfl ?_ | refine G_condF rfl ?_ | refine G_skip ?_ | refine q_tn ?_ | refine q_bn ?_)
    refine G_reg mixed (by first | rfl | kernel_rfl) ?_
    simp (disch := omega) only [u, i64, ax, eq_self, if_true, if_false, Nat.reduceAdd, Int.reduceToNat, Int.reduceAdd, tvs, bs]
    (refine cR hM1 ?_; refine sX ?_; try refine aA ?_)
    repeat (first | refine G_seq ?_ | refine G_block ?_ | refine G_condT rfl ?_ | refine G_condF rfl ?_ | refine G_skip ?_ | refine q_tn ?_ | refine q_bn ?_)
    refine G_reg mixed (by first | rfl | kernel_rfl) ?_
    simp (disch := omega) only [u, i64, ax, eq_self, if_true, if_false, Nat.reduceAdd, Int.reduceToNat, Int.reduceAdd, tvs, bs]
    (refine cR hM2 ?_; refine sX ?_; try refine aA ?_)
    repeat (first | refine G_seq ?_ | refine G_block ?_ | refine G_condT rfl ?_ | refine G_condF rfl ?_ | refine G_skip ?_ | refine q_tn ?_ | refine q_bn ?_)
    simp only [List.append_eq, List.cons_append, List.nil_append]
    refine G_reg mixed (by first | rfl | kernel_rfl) ?_
    simp (disch := omega) only [u, i64, ax, eq_self, if_true, if_false, Nat.reduceAdd, Int.reduceToNat, Int.reduceAdd, tvs, bs]
    repeat (first | (refine gC ?_; first | refine aA ?_ | ((first | refine cR ret_None0 ?_ | refine cR ret_NoRat0 ?_ | refine cR ret_NoInt0 ?_ | refine cR ret_awake16 ?_); refine sX ?_; try refine aA ?_)) | ((first | refine cR ret_None0 ?_ | refine cR ret_NoRat0 ?_ | refine cR ret_NoInt0 ?_ | refine cR ret_awake16 ?_); refine sX ?_; try refine aA ?_) | refine gS ?_)
    (refine FinQ hQ (congrArg Array.toList Tryz.results3) _ _ ?_); simp (disch := omega) only [u, i64, ax, if_true, forall_const, reduceCtorEq, implies_true, tvs, bf]
  · rw [decF hb] at hB
    refine RetN_start Tryz.func3 (by kernel_rfl) rfl fun Q hQ hQ2 => ?_; rw [Tryz.ntmps3]; simp only [u, i64, Nat.reduceSub, Nat.reduceAdd, bm]
    repeat (first | (refine gC ?_; first | refine aA ?_ | ((first | refine cR hB ?_ | refine cR ret_awake16 ?_); refine sX ?_; try refine aA ?_)) | ((first | refine cR hB ?_ | refine cR ret_awake16 ?_); refine sX ?_; try refine aA ?_) | refine gS ?_)
    (refine FinQ hQ (congrArg Array.toList Tryz.results3) _ _ ?_); simp (disch := omega) only [u, i64, ax, if_true, forall_const, reduceCtorEq, implies_true, tvs, bf]
end Go.Proofs
