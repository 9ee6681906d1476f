/-
  Contracts of functions of the program, each proved by a walk.
-/
import Derived.Test.YtenfiehjbeojeaaGreatDoorV23
import Derived.Test.YtenfiehjbeojeaaGreatDoorV30
import Derived.Test.YtenfiehjbeojeaaGreatDoorV31
import Derived.Test.YtenfiehjbeojeaaGreatDoorV34
import Derived.Test.YtenfiehjbeojeaaGreatDoorV36
set_option maxRecDepth 100000
set_option linter.unusedVariables false
set_option linter.unusedSimpArgs false
set_option maxRecDepth 100000
set_option maxHeartbeats 4000000
namespace Go.Proofs
open Go.Ax
theorem ret_sizesL1 {k1 e1 k2 e2 : Int} {n1 n2 : Bool} {c1 c2 : List Nat} (h1 : c1.length ≤ 40) (h2 : c2.length = 4097) : Ret Tryz.prog GEs 91 [.lst 1 [i64 k2, .bool n2, ws c2, i64 e2]] (i64 2) := by
  refine RetN_start Tryz.func91 (by kernel_rfl) rfl fun Q hQ hQ2 => ?_; rw [Tryz.ntmps91]; simp only [u, i64, Nat.reduceSub, Nat.reduceAdd, bm]
  (refine gO ?_)
  refine G_loop ?_
  refine G_round ?_
  (refine gO ?_)
  (refine FinQ hQ (congrArg Array.toList Tryz.results91) _ _ ?_); simp (disch := omega) only [u, i64, ax, if_true, forall_const, reduceCtorEq, implies_true, tvs, bf]
theorem ret_sizesL2 {k1 e1 k2 e2 : Int} {n1 n2 : Bool} {c1 c2 : List Nat} (h1 : c1.length ≤ 40) (h2 : c2.length = 4097) : Ret Tryz.prog GEs 91 [.lst 2 [i64 k1, .bool n1, ws c1, i64 e1, i64 k2, .bool n2, ws c2, i64 e2]] (i64 2) := by
  refine RetN_start Tryz.func91 (by kernel_rfl) rfl fun Q hQ hQ2 => ?_; rw [Tryz.ntmps91]; simp only [u, i64, Nat.reduceSub, Nat.reduceAdd, bm]
  (refine gO ?_)
  refine G_loop ?_
  refine G_round ?_
  (refine gO ?_)
  refine G_round ?_
  (refine gO ?_)
  (refine FinQ hQ (congrArg Array.toList Tryz.results91) _ _ ?_); simp (disch := omega) only [u, i64, ax, if_true, forall_const, reduceCtorEq, implies_true, tvs, bf]
theorem ret_sizesLm {k1 e1 k2 e2 : Int} {n1 n2 : Bool} {c1 c2 : List Nat} (h1 : c1.length ≤ 40) (h2 : c2.length = 4097) : Ret Tryz.prog GEs 91 [.lst 2 [i64 k2, .bool n2, ws c2, i64 e2, i64 k1, .bool n1, ws c1, i64 e1]] (i64 2) := by
  refine RetN_start Tryz.func91 (by kernel_rfl) rfl fun Q hQ hQ2 => ?_; rw [Tryz.ntmps91]; simp only [u, i64, Nat.reduceSub, Nat.reduceAdd, bm]
  (refine gO ?_)
  refine G_loop ?_
  refine G_round ?_
  (refine gO ?_)
  (refine FinQ hQ (congrArg Array.toList Tryz.results91) _ _ ?_); simp (disch := omega) only [u, i64, ax, if_true, forall_const, reduceCtorEq, implies_true, tvs, bf]
theorem ret_sizesL3 {k1 e1 k2 e2 : Int} {n1 n2 : Bool} {c1 c2 : List Nat} (h1 : c1.length ≤ 40) (h2 : c2.length = 4097) : Ret Tryz.prog GEs 91 [.lst 3 [i64 k1, .bool n1, ws c1, i64 e1, i64 k1, .bool n1, ws c1, i64 e1, i64 k2, .bool n2, ws c2, i64 e2]] (i64 2) := by
  refine RetN_start Tryz.func91 (by kernel_rfl) rfl fun Q hQ hQ2 => ?_; rw [Tryz.ntmps91]; simp only [u, i64, Nat.reduceSub, Nat.reduceAdd, bm]
  (refine gO ?_)
  refine G_loop ?_
  refine G_round ?_
  (refine gO ?_)
  refine G_round ?_
  (refine gO ?_)
  refine G_round ?_
  (refine gO ?_)
  (refine FinQ hQ (congrArg Array.toList Tryz.results91) _ _ ?_); simp (disch := omega) only [u, i64, ax, if_true, forall_const, reduceCtorEq, implies_true, tvs, bf]
theorem ret_rightsL1 {k1 e1 k2 e2 : Int} {n1 n2 : Bool} {c1 c2 : List Nat} (h1 : c1.length ≤ 40) (h2 : c2.length = 4097) : Ret Tryz.prog GEs 49 [.lst 1 [i64 k2, .bool n2, ws c2, i64 e2]] (.tup [.lst 0 [], i64 2]) := by
  have hC := ret_sizesL1 (k1 := k1) (e1 := e1) (k2 := k2) (e2 := e2) (n1 := n1) (n2 := n2) h1 h2
  refine RetN_start Tryz.func49 (by kernel_rfl) rfl fun Q hQ hQ2 => ?_; rw [Tryz.ntmps49]; simp only [u, i64, Nat.reduceSub, Nat.reduceAdd, bm]
  repeat (first | (refine gC ?_; first | refine aA ?_ | (refine cR hC ?_; refine sX ?_; try refine aA ?_)) | (refine cR hC ?_; refine sX ?_; try refine aA ?_) | refine gS ?_)
  (refine FinQ hQ (congrArg Array.toList Tryz.results49) _ _ ?_); simp (disch := omega) only [u, i64, ax, if_true, forall_const, reduceCtorEq, implies_true, tvs, bf]
theorem ret_rightsL2 {k1 e1 k2 e2 : Int} {n1 n2 : Bool} {c1 c2 : List Nat} (h1 : c1.length ≤ 40) (h2 : c2.length = 4097) : Ret Tryz.prog GEs 49 [.lst 2 [i64 k1, .bool n1, ws c1, i64 e1, i64 k2, .bool n2, ws c2, i64 e2]] (.tup [.lst 0 [], i64 2]) := by
  have hC := ret_sizesL2 (k1 := k1) (e1 := e1) (k2 := k2) (e2 := e2) (n1 := n1) (n2 := n2) h1 h2
  refine RetN_start Tryz.func49 (by kernel_rfl) rfl fun Q hQ hQ2 => ?_; rw [Tryz.ntmps49]; simp only [u, i64, Nat.reduceSub, Nat.reduceAdd, bm]
  repeat (first | (refine gC ?_; first | refine aA ?_ | (refine cR hC ?_; refine sX ?_; try refine aA ?_)) | (refine cR hC ?_; refine sX ?_; try refine aA ?_) | refine gS ?_)
  (refine FinQ hQ (congrArg Array.toList Tryz.results49) _ _ ?_); simp (disch := omega) only [u, i64, ax, if_true, forall_const, reduceCtorEq, implies_true, tvs, bf]
theorem ret_ArgsL1 {k1 e1 k2 e2 : Int} {n1 n2 : Bool} {c1 c2 : List Nat} (h1 : c1.length ≤ 40) (h2 : c2.length = 4097) (p g r : Int) (b : Bool) : Ret Tryz.prog GEs 60 [.agg [i64 p, i64 g, i64 r], .bool b, .lst 1 [i64 k2, .bool n2, ws c2, i64 e2]] (.tup [.lst 0 [], i64 2]) := by
  have hC := ret_sizesL1 (k1 := k1) (e1 := e1) (k2 := k2) (e2 := e2) (n1 := n1) (n2 := n2) h1 h2
  refine RetN_start Tryz.func60 (by kernel_rfl) rfl fun Q hQ hQ2 => ?_; rw [Tryz.ntmps60]; simp only [u, i64, Nat.reduceSub, Nat.reduceAdd, bm]
  repeat (first | (refine gC ?_; first | refine aA ?_ | (refine cR hC ?_; refine sX ?_; try refine aA ?_)) | (refine cR hC ?_; refine sX ?_; try refine aA ?_) | refine gS ?_)
  (refine FinQ hQ (congrArg Array.toList Tryz.results60) _ _ ?_); simp (disch := omega) only [u, i64, ax, if_true, forall_const, reduceCtorEq, implies_true, tvs, bf]
theorem ret_ArgsL2 {k1 e1 k2 e2 : Int} {n1 n2 : Bool} {c1 c2 : List Nat} (h1 : c1.length ≤ 40) (h2 : c2.length = 4097) (p g r : Int) (b : Bool) : Ret Tryz.prog GEs 60 [.agg [i64 p, i64 g, i64 r], .bool b, .lst 2 [i64 k1, .bool n1, ws c1, i64 e1, i64 k2, .bool n2, ws c2, i64 e2]] (.tup [.lst 0 [], i64 2]) := by
  have hC := ret_sizesL2 (k1 := k1) (e1 := e1) (k2 := k2) (e2 := e2) (n1 := n1) (n2 := n2) h1 h2
  refine RetN_start Tryz.func60 (by kernel_rfl) rfl fun Q hQ hQ2 => ?_; rw [Tryz.ntmps60]; simp only [u, i64, Nat.reduceSub, Nat.reduceAdd, bm]
  repeat (first | (refine gC ?_; first | refine aA ?_ | (refine cR hC ?_; refine sX ?_; try refine aA ?_)) | (refine cR hC ?_; refine sX ?_; try refine aA ?_) | refine gS ?_)
  (refine FinQ hQ (congrArg Array.toList Tryz.results60) _ _ ?_); simp (disch := omega) only [u, i64, ax, if_true, forall_const, reduceCtorEq, implies_true, tvs, bf]
theorem ret_ArgsLm {k1 e1 k2 e2 : Int} {n1 n2 : Bool} {c1 c2 : List Nat} (h1 : c1.length ≤ 40) (h2 : c2.length = 4097) (p g r : Int) (b : Bool) : Ret Tryz.prog GEs 60 [.agg [i64 p, i64 g, i64 r], .bool b, .lst 2 [i64 k2, .bool n2, ws c2, i64 e2, i64 k1, .bool n1, ws c1, i64 e1]] (.tup [.lst 0 [], i64 2]) := by
  have hC := ret_sizesLm (k1 := k1) (e1 := e1) (k2 := k2) (e2 := e2) (n1 := n1) (n2 := n2) h1 h2
  refine RetN_start Tryz.func60 (by kernel_rfl) rfl fun Q hQ hQ2 => ?_; rw [Tryz.ntmps60]; simp only [u, i64, Nat.reduceSub, Nat.reduceAdd, bm]
  repeat (first | (refine gC ?_; first | refine aA ?_ | (refine cR hC ?_; refine sX ?_; try refine aA ?_)) | (refine cR hC ?_; refine sX ?_; try refine aA ?_) | refine gS ?_)
  (refine FinQ hQ (congrArg Array.toList Tryz.results60) _ _ ?_); simp (disch := omega) only [u, i64, ax, if_true, forall_const, reduceCtorEq, implies_true, tvs, bf]
theorem ret_ArgsL3 {k1 e1 k2 e2 : Int} {n1 n2 : Bool} {c1 c2 : List Nat} (h1 : c1.length ≤ 40) (h2 : c2.length = 4097) (p g r : Int) (b : Bool) : Ret Tryz.prog GEs 60 [.agg [i64 p, i64 g, i64 r], .bool b, .lst 3 [i64 k1, .bool n1, ws c1, i64 e1, i64 k1, .bool n1, ws c1, i64 e1, i64 k2, .bool n2, ws c2, i64 e2]] (.tup [.lst 0 [], i64 2]) := by
  have hC := ret_sizesL3 (k1 := k1) (e1 := e1) (k2 := k2) (e2 := e2) (n1 := n1) (n2 := n2) h1 h2
  refine RetN_start Tryz.func60 (by kernel_rfl) rfl fun Q hQ hQ2 => ?_; rw [Tryz.ntmps60]; simp only [u, i64, Nat.reduceSub, Nat.reduceAdd, bm]
  repeat (first | (refine gC ?_; first | refine aA ?_ | (refine cR hC ?_; refine sX ?_; try refine aA ?_)) | (refine cR hC ?_; refine sX ?_; try refine aA ?_) | refine gS ?_)
  (refine FinQ hQ (congrArg Array.toList Tryz.results60) _ _ ?_); simp (disch := omega) only [u, i64, ax, if_true, forall_const, reduceCtorEq, implies_true, tvs, bf]
theorem ret_ValueL {k1 e1 k2 e2 : Int} {n1 n2 : Bool} {c1 c2 : List Nat} (h1 : c1.length ≤ 40) (h2 : c2.length = 4097) : Ret Tryz.prog GEs 20 [.agg [i64 k2, .bool n2, ws c2, i64 e2]] (.tup [rtz, i64 2]) := by
  have hC := ret_rightsL1 (k1 := k1) (e1 := e1) (k2 := k2) (e2 := e2) (n1 := n1) (n2 := n2) h1 h2
  refine RetN_start Tryz.func20 (by kernel_rfl) rfl fun Q hQ hQ2 => ?_; rw [Tryz.ntmps20]; simp only [u, i64, Nat.reduceSub, Nat.reduceAdd, bm]
  (refine gO ?_)
  (refine gC ?_)
  simp (disch := omega) only [u, i64, ax, eq_self, if_true, if_false, Nat.reduceAdd, Int.reduceToNat, Int.reduceAdd, tvs, bs, Nat.reduceMul, List.take_succ_cons, List.take_zero, List.nil_append, List.cons_append, List.append_nil, Nat.reduceLeDiff]
  repeat (first | (refine gC ?_; first | refine aA ?_ | (refine cR hC ?_; refine sX ?_; try refine aA ?_)) | (refine cR hC ?_; refine sX ?_; try refine aA ?_) | refine gS ?_)
  (refine FinQ hQ (congrArg Array.toList Tryz.results20) _ _ ?_); simp (disch := omega) only [u, i64, ax, if_true, forall_const, reduceCtorEq, implies_true, tvs, bf]
  rfl
theorem ret_AdjustedL {k1 e1 k2 e2 : Int} {n1 n2 : Bool} {c1 c2 : List Nat} (h1 : c1.length ≤ 40) (h2 : c2.length = 4097) : Ret Tryz.prog GEs 32 [.agg [i64 k2, .bool n2, ws c2, i64 e2]] (.tup [i64 0, i64 2]) := by
  have hC := ret_rightsL1 (k1 := k1) (e1 := e1) (k2 := k2) (e2 := e2) (n1 := n1) (n2 := n2) h1 h2
  refine RetN_start Tryz.func32 (by kernel_rfl) rfl fun Q hQ hQ2 => ?_; rw [Tryz.ntmps32]; simp only [u, i64, Nat.reduceSub, Nat.reduceAdd, bm]
  (refine gO ?_)
  (refine gC ?_)
  simp (disch := omega) only [u, i64, ax, eq_self, if_true, if_false, Nat.reduceAdd, Int.reduceToNat, Int.reduceAdd, tvs, bs, Nat.reduceMul, List.take_succ_cons, List.take_zero, List.nil_append, List.cons_append, List.append_nil, Nat.reduceLeDiff]
  repeat (first | (refine gC ?_; first | refine aA ?_ | (refine cR hC ?_; refine sX ?_; try refine aA ?_)) | (refine cR hC ?_; refine sX ?_; try refine aA ?_) | refine gS ?_)
  (refine FinQ hQ (congrArg Array.toList Tryz.results32) _ _ ?_); simp (disch := omega) only [u, i64, ax, if_true, forall_const, reduceCtorEq, implies_true, tvs, bf]
theorem ret_CompareL {k1 e1 k2 e2 : Int} {n1 n2 : Bool} {c1 c2 : List Nat} (h1 : c1.length ≤ 40) (h2 : c2.length = 4097) : Ret Tryz.prog GEs 31 [.agg [i64 k1, .bool n1, ws c1, i64 e1], .agg [i64 k2, .bool n2, ws c2, i64 e2]] (.tup [i64 0, .bool false, i64 2]) := by
  have hC := ret_rightsL2 (k1 := k1) (e1 := e1) (k2 := k2) (e2 := e2) (n1 := n1) (n2 := n2) h1 h2
  refine RetN_start Tryz.func31 (by kernel_rfl) rfl fun Q hQ hQ2 => ?_; rw [Tryz.ntmps31]; simp only [u, i64, Nat.reduceSub, Nat.reduceAdd, bm]
  (refine gO ?_)
  (refine gC ?_)
  simp (disch := omega) only [u, i64, ax, eq_self, if_true, if_false, Nat.reduceAdd, Int.reduceToNat, Int.reduceAdd, tvs, bs, Nat.reduceMul, List.take_succ_cons, List.take_zero, List.nil_append, List.cons_append, List.append_nil, Nat.reduceLeDiff]
  repeat (first | (refine gC ?_; first | refine aA ?_ | (refine cR hC ?_; refine sX ?_; try refine aA ?_)) | (refine cR hC ?_; refine sX ?_; try refine aA ?_) | refine gS ?_)
  (refine FinQ hQ (congrArg Array.toList Tryz.results31) _ _ ?_); simp (disch := omega) only [u, i64, ax, if_true, forall_const, reduceCtorEq, implies_true, tvs, bf]
theorem ret_HoldsL {k1 e1 k2 e2 : Int} {n1 n2 : Bool} {c1 c2 : List Nat} (h1 : c1.length ≤ 40) (h2 : c2.length = 4097) (p g r : Int) : Ret Tryz.prog GEs 27 [.agg [i64 p, i64 g, i64 r], .agg [i64 k2, .bool n2, ws c2, i64 e2]] (i64 2) := by
  have hC := ret_ArgsL1 (k1 := k1) (e1 := e1) (k2 := k2) (e2 := e2) (n1 := n1) (n2 := n2) h1 h2 p g r false
  refine RetN_start Tryz.func27 (by kernel_rfl) rfl fun Q hQ hQ2 => ?_; rw [Tryz.ntmps27]; simp only [u, i64, Nat.reduceSub, Nat.reduceAdd, bm]
  (refine gO ?_)
  (refine gC ?_)
  simp (disch := omega) only [u, i64, ax, eq_self, if_true, if_false, Nat.reduceAdd, Int.reduceToNat, Int.reduceAdd, tvs, bs, Nat.reduceMul, List.take_succ_cons, List.take_zero, List.nil_append, List.cons_append, List.append_nil, Nat.reduceLeDiff]
  repeat (first | (refine gC ?_; first | refine aA ?_ | (refine cR hC ?_; refine sX ?_; try refine aA ?_)) | (refine cR hC ?_; refine sX ?_; try refine aA ?_) | refine gS ?_)
  (refine FinQ hQ (congrArg Array.toList Tryz.results27) _ _ ?_); simp (disch := omega) only [u, i64, ax, if_true, forall_const, reduceCtorEq, implies_true, tvs, bf]
theorem ret_ReduceL {k1 e1 k2 e2 : Int} {n1 n2 : Bool} {c1 c2 : List Nat} (h1 : c1.length ≤ 40) (h2 : c2.length = 4097) (p g r : Int) : Ret Tryz.prog GEs 30 [.agg [i64 p, i64 g, i64 r], .agg [i64 k2, .bool n2, ws c2, i64 e2]] (.tup [.agg [i64 0, .bool false, .lst 0 [], i64 0], i64 2]) := by
  have hC := ret_ArgsL1 (k1 := k1) (e1 := e1) (k2 := k2) (e2 := e2) (n1 := n1) (n2 := n2) h1 h2 p g r false
  refine RetN_start Tryz.func30 (by kernel_rfl) rfl fun Q hQ hQ2 => ?_; rw [Tryz.ntmps30]; simp only [u, i64, Nat.reduceSub, Nat.reduceAdd, bm]
  (refine gO ?_)
  (refine gC ?_)
  simp (disch := omega) only [u, i64, ax, eq_self, if_true, if_false, Nat.reduceAdd, Int.reduceToNat, Int.reduceAdd, tvs, bs, Nat.reduceMul, List.take_succ_cons, List.take_zero, List.nil_append, List.cons_append, List.append_nil, Nat.reduceLeDiff]
  repeat (first | (refine gC ?_; first | refine aA ?_ | (refine cR hC ?_; refine sX ?_; try refine aA ?_)) | (refine cR hC ?_; refine sX ?_; try refine aA ?_) | refine gS ?_)
  (refine FinQ hQ (congrArg Array.toList Tryz.results30) _ _ ?_); simp (disch := omega) only [u, i64, ax, if_true, forall_const, reduceCtorEq, implies_true, tvs, bf]
theorem ret_QuantizeL {k1 e1 k2 e2 : Int} {n1 n2 : Bool} {c1 c2 : List Nat} (h1 : c1.length ≤ 40) (h2 : c2.length = 4097) (p g r : Int) : Ret Tryz.prog GEs 29 [.agg [i64 p, i64 g, i64 r], .agg [i64 k2, .bool n2, ws c2, i64 e2], i64 4611686018427387904] (.tup [.agg [i64 0, .bool false, .lst 0 [], i64 0], i64 0, i64 2]) := by
  have hC := ret_ArgsL1 (k1 := k1) (e1 := e1) (k2 := k2) (e2 := e2) (n1 := n1) (n2 := n2) h1 h2 p g r true
  refine RetN_start Tryz.func29 (by kernel_rfl) rfl fun Q hQ hQ2 => ?_; rw [Tryz.ntmps29]; simp only [u, i64, Nat.reduceSub, Nat.reduceAdd, bm]
  (refine gO ?_)
  (refine gC ?_)
  simp (disch := omega) only [u, i64, ax, eq_self, if_true, if_false, Nat.reduceAdd, Int.reduceToNat, Int.reduceAdd, tvs, bs, Nat.reduceMul, List.take_succ_cons, List.take_zero, List.nil_append, List.cons_append, List.append_nil, Nat.reduceLeDiff]
  repeat (first | (refine gC ?_; first | refine aA ?_ | (refine cR hC ?_; refine sX ?_; try refine aA ?_)) | (refine cR hC ?_; refine sX ?_; try refine aA ?_) | refine gS ?_)
  (refine FinQ hQ (congrArg Array.toList Tryz.results29) _ _ ?_); simp (disch := omega) only [u, i64, ax, if_true, forall_const, reduceCtorEq, implies_true, tvs, bf]
theorem ret_FusedL {k1 e1 k2 e2 : Int} {n1 n2 : Bool} {c1 c2 : List Nat} (h1 : c1.length ≤ 40) (h2 : c2.length = 4097) (p g r : Int) : Ret Tryz.prog GEs 26 [.agg [i64 p, i64 g, i64 r], .agg [i64 k1, .bool n1, ws c1, i64 e1], .agg [i64 k1, .bool n1, ws c1, i64 e1], .agg [i64 k2, .bool n2, ws c2, i64 e2]] (.tup [.agg [i64 0, .bool false, .lst 0 [], i64 0], i64 0, i64 2]) := by
  have hC := ret_ArgsL3 (k1 := k1) (e1 := e1) (k2 := k2) (e2 := e2) (n1 := n1) (n2 := n2) h1 h2 p g r false
  refine RetN_start Tryz.func26 (by kernel_rfl) rfl fun Q hQ hQ2 => ?_; rw [Tryz.ntmps26]; simp only [u, i64, Nat.reduceSub, Nat.reduceAdd, bm]
  (refine gO ?_)
  (refine gC ?_)
  simp (disch := omega) only [u, i64, ax, eq_self, if_true, if_false, Nat.reduceAdd, Int.reduceToNat, Int.reduceAdd, tvs, bs, Nat.reduceMul, List.take_succ_cons, List.take_zero, List.nil_append, List.cons_append, List.append_nil, Nat.reduceLeDiff]
  repeat (first | (refine gC ?_; first | refine aA ?_ | (refine cR hC ?_; refine sX ?_; try refine aA ?_)) | (refine cR hC ?_; refine sX ?_; try refine aA ?_) | refine gS ?_)
  (refine FinQ hQ (congrArg Array.toList Tryz.results26) _ _ ?_); simp (disch := omega) only [u, i64, ax, if_true, forall_const, reduceCtorEq, implies_true, tvs, bf]
theorem ret_twoL2 {k1 e1 k2 e2 : Int} {n1 n2 : Bool} {c1 c2 : List Nat} (h1 : c1.length ≤ 40) (h2 : c2.length = 4097) (p g r : Int) (N : Nat) : Ret Tryz.prog GEs 56 [.agg [i64 p, i64 g, i64 r], .agg [i64 k1, .bool n1, ws c1, i64 e1], .agg [i64 k2, .bool n2, ws c2, i64 e2], .lit (.func (.func N) #[] #[])] (.tup [.agg [i64 0, .bool false, .lst 0 [], i64 0], i64 0, i64 2]) := by
  have hC := ret_ArgsL2 (k1 := k1) (e1 := e1) (k2 := k2) (e2 := e2) (n1 := n1) (n2 := n2) h1 h2 p g r false
  refine RetN_start Tryz.func56 (by kernel_rfl) rfl fun Q hQ hQ2 => ?_; rw [Tryz.ntmps56]; simp only [u, i64, Nat.reduceSub, Nat.reduceAdd, bm]
  (refine gO ?_)
  (refine gC ?_)
  simp (disch := omega) only [u, i64, ax, eq_self, if_true, if_false, Nat.reduceAdd, Int.reduceToNat, Int.reduceAdd, tvs, bs, Nat.reduceMul, List.take_succ_cons, List.take_zero, List.nil_append, List.cons_append, List.append_nil, Nat.reduceLeDiff]
  repeat (first | (refine gC ?_; first | refine aA ?_ | (refine cR hC ?_; refine sX ?_; try refine aA ?_)) | (refine cR hC ?_; refine sX ?_; try refine aA ?_) | refine gS ?_)
  (refine FinQ hQ (congrArg Array.toList Tryz.results56) _ _ ?_); simp (disch := omega) only [u, i64, ax, if_true, forall_const, reduceCtorEq, implies_true, tvs, bf]
theorem ret_twoLm {k1 e1 k2 e2 : Int} {n1 n2 : Bool} {c1 c2 : List Nat} (h1 : c1.length ≤ 40) (h2 : c2.length = 4097) (p g r : Int) (N : Nat) : Ret Tryz.prog GEs 56 [.agg [i64 p, i64 g, i64 r], .agg [i64 k2, .bool n2, ws c2, i64 e2], .agg [i64 k1, .bool n1, ws c1, i64 e1], .lit (.func (.func N) #[] #[])] (.tup [.agg [i64 0, .bool false, .lst 0 [], i64 0], i64 0, i64 2]) := by
  have hC := ret_ArgsLm (k1 := k1) (e1 := e1) (k2 := k2) (e2 := e2) (n1 := n1) (n2 := n2) h1 h2 p g r false
  refine RetN_start Tryz.func56 (by kernel_rfl) rfl fun Q hQ hQ2 => ?_; rw [Tryz.ntmps56]; simp only [u, i64, Nat.reduceSub, Nat.reduceAdd, bm]
  (refine gO ?_)
  (refine gC ?_)
  simp (disch := omega) only [u, i64, ax, eq_self, if_true, if_false, Nat.reduceAdd, Int.reduceToNat, Int.reduceAdd, tvs, bs, Nat.reduceMul, List.take_succ_cons, List.take_zero, List.nil_append, List.cons_append, List.append_nil, Nat.reduceLeDiff]
  repeat (first | (refine gC ?_; first | refine aA ?_ | (refine cR hC ?_; refine sX ?_; try refine aA ?_)) | (refine cR hC ?_; refine sX ?_; try refine aA ?_) | refine gS ?_)
  (refine FinQ hQ (congrArg Array.toList Tryz.results56) _ _ ?_); simp (disch := omega) only [u, i64, ax, if_true, forall_const, reduceCtorEq, implies_true, tvs, bf]
theorem ret_AddL {k1 e1 k2 e2 : Int} {n1 n2 : Bool} {c1 c2 : List Nat} (h1 : c1.length ≤ 40) (h2 : c2.length = 4097) (p g r : Int) : Ret Tryz.prog GEs 23 [.agg [i64 p, i64 g, i64 r], .agg [i64 k1, .bool n1, ws c1, i64 e1], .agg [i64 k2, .bool n2, ws c2, i64 e2]] (.tup [.agg [i64 0, .bool false, .lst 0 [], i64 0], i64 0, i64 2]) := by
  have hC := ret_twoL2 (k1 := k1) (e1 := e1) (k2 := k2) (e2 := e2) (n1 := n1) (n2 := n2) h1 h2 p g r 57
  refine RetN_start Tryz.func23 (by kernel_rfl) rfl fun Q hQ hQ2 => ?_; rw [Tryz.ntmps23]; simp only [u, i64, Nat.reduceSub, Nat.reduceAdd, bm]
  repeat (first | (refine gC ?_; first | refine aA ?_ | (refine cR hC ?_; refine sX ?_; try refine aA ?_)) | (refine cR hC ?_; refine sX ?_; try refine aA ?_) | refine gS ?_)
  (refine FinQ hQ (congrArg Array.toList Tryz.results23) _ _ ?_); simp (disch := omega) only [u, i64, ax, if_true, forall_const, reduceCtorEq, implies_true, tvs, bf]
theorem ret_SubL {k1 e1 k2 e2 : Int} {n1 n2 : Bool} {c1 c2 : List Nat} (h1 : c1.length ≤ 40) (h2 : c2.length = 4097) (p g r : Int) : Ret Tryz.prog GEs 24 [.agg [i64 p, i64 g, i64 r], .agg [i64 k2, .bool n2, ws c2, i64 e2], .agg [i64 k1, .bool n1, ws c1, i64 e1]] (.tup [.agg [i64 0, .bool false, .lst 0 [], i64 0], i64 0, i64 2]) := by
  have hC := ret_twoLm (k1 := k1) (e1 := e1) (k2 := k2) (e2 := e2) (n1 := n1) (n2 := n2) h1 h2 p g r 58
  refine RetN_start Tryz.func24 (by kernel_rfl) rfl fun Q hQ hQ2 => ?_; rw [Tryz.ntmps24]; simp only [u, i64, Nat.reduceSub, Nat.reduceAdd, bm]
  repeat (first | (refine gC ?_; first | refine aA ?_ | (refine cR hC ?_; refine sX ?_; try refine aA ?_)) | (refine cR hC ?_; refine sX ?_; try refine aA ?_) | refine gS ?_)
  (refine FinQ hQ (congrArg Array.toList Tryz.results24) _ _ ?_); simp (disch := omega) only [u, i64, ax, if_true, forall_const, reduceCtorEq, implies_true, tvs, bf]
theorem ret_MulL {k1 e1 k2 e2 : Int} {n1 n2 : Bool} {c1 c2 : List Nat} (h1 : c1.length ≤ 40) (h2 : c2.length = 4097) (p g r : Int) : Ret Tryz.prog GEs 25 [.agg [i64 p, i64 g, i64 r], .agg [i64 k1, .bool n1, ws c1, i64 e1], .agg [i64 k2, .bool n2, ws c2, i64 e2]] (.tup [.agg [i64 0, .bool false, .lst 0 [], i64 0], i64 0, i64 2]) := by
  have hC := ret_twoL2 (k1 := k1) (e1 := e1) (k2 := k2) (e2 := e2) (n1 := n1) (n2 := n2) h1 h2 p g r 59
  refine RetN_start Tryz.func25 (by kernel_rfl) rfl fun Q hQ hQ2 => ?_; rw [Tryz.ntmps25]; simp only [u, i64, Nat.reduceSub, Nat.reduceAdd, bm]
  repeat (first | (refine gC ?_; first | refine aA ?_ | (refine cR hC ?_; refine sX ?_; try refine aA ?_)) | (refine cR hC ?_; refine sX ?_; try refine aA ?_) | refine gS ?_)
  (refine FinQ hQ (congrArg Array.toList Tryz.results25) _ _ ?_); simp (disch := omega) only [u, i64, ax, if_true, forall_const, reduceCtorEq, implies_true, tvs, bf]
theorem ret_PlusL {k1 e1 k2 e2 : Int} {n1 n2 : Bool} {c1 c2 : List Nat} (h1 : c1.length ≤ 40) (h2 : c2.length = 4097) (p g r : Int) : Ret Tryz.prog GEs 22 [.agg [i64 p, i64 g, i64 r], .agg [i64 k2, .bool n2, ws c2, i64 e2]] (.tup [.agg [i64 0, .bool false, .lst 0 [], i64 0], i64 0, i64 2]) := by
  refine RetN_start Tryz.func22 (by kernel_rfl) rfl fun Q hQ hQ2 => ?_; rw [Tryz.ntmps22]; simp only [u, i64, Nat.reduceSub, Nat.reduceAdd, bm]
  (refine gO ?_)
  (refine FinQ hQ (congrArg Array.toList Tryz.results22) _ _ ?_); simp (disch := omega) only [u, i64, ax, if_true, forall_const, reduceCtorEq, implies_true, tvs, bf]
theorem ret_RoundL {c2 : List Nat} (h2 : c2.length = 4097) (p g r : Int) : Ret Tryz.prog GEs 21 [.agg [i64 p, i64 g, i64 r], .agg [.bool false, ws c2, .emp], i64 4611686018427387904] (.tup [.agg [i64 0, .bool false, .lst 0 [], i64 0], i64 0, i64 2]) := by
  refine RetN_start Tryz.func21 (by kernel_rfl) rfl fun Q hQ hQ2 => ?_; rw [Tryz.ntmps21]; simp only [u, i64, Nat.reduceSub, Nat.reduceAdd, bm]
  (refine gO ?_)
  (refine FinQ hQ (congrArg Array.toList Tryz.results21) _ _ ?_); simp (disch := omega) only [u, i64, ax, if_true, forall_const, reduceCtorEq, implies_true, tvs, bf]
theorem ret_RoundZ (p g r : Int) : Ret Tryz.prog GEs 21 [.agg [i64 p, i64 g, i64 r], .agg [.bool false, .lst 1 [u 1], .emp], i64 4611686018427387904] (.tup [.agg [i64 0, .bool false, .lst 0 [], i64 0], i64 0, i64 5]) := by
  have hZ := ret_Zero [] Wd_nil (by decide)
  rw [decT (show val [] = 0 from rfl)] at hZ
  have hZ2 := Ret_emp hZ
  refine RetN_start Tryz.func21 (by kernel_rfl) rfl fun Q hQ hQ2 => ?_; rw [Tryz.ntmps21]; simp only [u, i64, Nat.reduceSub, Nat.reduceAdd, bm]
  repeat (first | (refine gC ?_; first | refine aA ?_ | (refine cR hZ2 ?_; refine sX ?_; try refine aA ?_)) | (refine cR hZ2 ?_; refine sX ?_; try refine aA ?_) | refine gS ?_)
  (refine FinQ hQ (congrArg Array.toList Tryz.results21) _ _ ?_); simp (disch := omega) only [u, i64, ax, if_true, forall_const, reduceCtorEq, implies_true, tvs, bf]
theorem ret_Long22 (k e : Int) (neg : Bool) (xs : List Nat) (hx : Wd xs) (hl : xs.length ≤ 40) : ∃ ys : List Nat, ys.length = 4097 ∧ Wd ys ∧ val ys = val xs ∧ Ret Tryz.prog GEs 19 [.agg [i64 k, .bool neg, ws xs, i64 e]] (.agg [i64 k, .bool neg, ws ys, i64 e]) := by
  obtain ⟨M, hM⟩ : ∃ M : Nat, M = 4097 := ⟨_, rfl⟩
  refine ⟨xs ++ List.replicate (M - xs.length) 0, by rw [List.length_append, List.length_replicate]; omega, hx.append (Wd_replicate _ (by decide)), by rw [val_append, val_replicate_zero, Nat.mul_zero, Nat.add_zero], ?_⟩
  refine RetN_start Tryz.func19 (by kernel_rfl) rfl fun Q hQ hQ2 => ?_; rw [Tryz.ntmps19]; simp only [u, i64, Nat.reduceSub, Nat.reduceAdd, bm]
  (refine gO ?_)
  refine AWp_loop (fun i : Nat × List Nat => mk 28 [(1, .ptr 0 0 0), (2, .ptr 1 0 0), (3, .own 2 0 0 4097 1), (4, i64 i.1)] [⟨0, true, [i64 k, .bool neg, ws xs, i64 e]⟩, ⟨0, true, [i64 0, .bool false, .emp, i64 0]⟩, ⟨0, true, us i.2⟩]) (fun i => i.1 ≤ xs.length ∧ i.2.length = 4097 ∧ i.2 = xs.take i.1 ++ List.replicate (M - i.1) 0) (fun i => xs.length - i.1) (0, List.replicate 4097 0) ?_ ⟨Nat.zero_le _, List.length_replicate, by rw [hM, List.take_zero, List.nil_append, Nat.sub_zero]⟩ ?_
  · simp only [u, i64, Nat.reduceSub, Nat.reduceAdd, bm]
  rintro ⟨i, os⟩ ⟨h1, h2, h3⟩
  simp only at h1 h2 h3
  simp only [u, i64, Nat.reduceSub, Nat.reduceAdd, bm]
  by_cases hi : i < xs.length
  · (refine gO ?_)
    refine ⟨(i + 1, os.set i (xs.getD i 0)), ?_, ⟨hi, by rw [List.length_set]; exact h2, by rw [h3]; exact pad_set M xs i hi (by omega)⟩, by simp only; omega⟩
    simp only [u, i64, Nat.reduceSub, Nat.reduceAdd, bm]
  · have e : i = xs.length := by omega
    subst e
    rw [List.take_length] at h3
    subst h3
    have hl2 : (xs ++ List.replicate (M - xs.length) 0).length = 4097 := h2
    (refine gO ?_)
    (refine FinQ hQ (congrArg Array.toList Tryz.results19) _ _ ?_); simp (disch := omega) only [u, i64, ax, if_true, forall_const, reduceCtorEq, implies_true, tvs, bf]
    all_goals rfl
end Go.Proofs
