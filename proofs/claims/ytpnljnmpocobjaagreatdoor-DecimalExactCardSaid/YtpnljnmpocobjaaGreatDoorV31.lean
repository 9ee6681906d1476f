/-
  Contracts of functions of the program, each proved by a walk.
-/
import Derived.Test.YtpnljnmpocobjaaGreatDoorV30
set_option maxRecDepth 100000
set_option linter.unusedVariables false
set_option linter.unusedSimpArgs false
set_option maxRecDepth 100000
set_option maxHeartbeats 8000000
namespace Go.Proofs
open Go.Ax
def regIs (n : Nat) : Code → Bool
  | .region id _ _ => Nat.beq id n
  | _ => false
/-- What stands after a region. -/
def aftR (n : Nat) : Code → Option Code
  | .seq x y => bif regIs n x then some y else (aftR n x).orElse fun _ => aftR n y
  | .block _ c => aftR n c
  | _ => none
theorem exact_tail1 {Q : Exit → St → Prop} {p g r : Int} {k1 e1 k2 e2 k3 e3 : Int} {n1 n2 n3 : Bool} {c1 c2 c3 : List Nat} {a1 a2 a3 h1 h2 h3 w1 w2 w3 : Int} {b1 b2 b3 o1 o2 o3 o4 o5 o6 : Bool} {f1 f2 f3 m1 m2 m3 m4 m5 m6 d1 d2 d3 d4 d5 d6 : Nat}
    (R1 : Ret Tryz.prog GEs 50 [.agg [i64 p, i64 g, i64 r], .agg [i64 k1, .bool n1, ws c1, i64 e1], .agg [i64 k2, .bool n2, ws c2, i64 e2]] (.tup [.agg [i64 a1, .bool b1, nat f1, i64 h1], i64 w1, i64 0]))
    (R2 : Ret Tryz.prog GEs 57 [.agg [i64 p, i64 g, i64 r], .agg [i64 k1, .bool n1, ws c1, i64 e1], .agg [i64 k2, .bool n2, ws c2, i64 e2]] (.tup [.agg [i64 a2, .bool b2, nat f2, i64 h2], i64 w2, i64 0]))
    (R3 : Ret Tryz.prog GEs 59 [.agg [i64 p, i64 g, i64 r], .agg [i64 k1, .bool n1, ws c1, i64 e1], .agg [i64 k2, .bool n2, ws c2, i64 e2], .agg [i64 k3, .bool n3, ws c3, i64 e3]] (.tup [.agg [i64 a3, .bool b3, nat f3, i64 h3], i64 w3, i64 0]))
    (hAd : Ret Tryz.prog GEs 64 [.agg [.bool o1, nat m1, nat d1], .agg [.bool o2, nat m2, nat d2]] (.agg [.bool o4, nat m4, nat d4]))
    (hMu : Ret Tryz.prog GEs 65 [.agg [.bool o1, nat m1, nat d1], .agg [.bool o2, nat m2, nat d2]] (.agg [.bool o5, nat m5, nat d5]))
    (hA2 : Ret Tryz.prog GEs 64 [.agg [.bool o5, nat m5, nat d5], .agg [.bool o3, nat m3, nat d3]] (.agg [.bool o6, nat m6, nat d6]))
    (F1 : Ret Tryz.prog GEs 63 [.agg [i64 p, i64 g, i64 r], .agg [i64 a1, .bool b1, nat f1, i64 h1], i64 w1, i64 0, .agg [.bool o4, nat m4, nat d4]] (.bool true))
    (F2 : Ret Tryz.prog GEs 63 [.agg [i64 p, i64 g, i64 r], .agg [i64 a2, .bool b2, nat f2, i64 h2], i64 w2, i64 0, .agg [.bool o5, nat m5, nat d5]] (.bool true))
    (F3 : Ret Tryz.prog GEs 63 [.agg [i64 p, i64 g, i64 r], .agg [i64 a3, .bool b3, nat f3, i64 h3], i64 w3, i64 0, .agg [.bool o6, nat m6, nat d6]] (.bool true))
    (hW : Ret Tryz.prog GEs 43 [] (.bool true))
    (hQ : ∀ s, FinN Tryz.prog Tryz.f14 (.bool true) s → Q .ret s) :
    AWp Tryz.prog GEs ((Tryz.f14.body.bind (aftR 3)).getD .skip) Q (mk 112 [(4, .ptr 0 0 0), (5, .ptr 1 0 0), (6, .ptr 2 0 0), (7, .ptr 3 0 0), (8, .bool false), (9, .ptr 4 0 0), (10, .ptr 5 0 0), (11, .ptr 6 0 0)]
      [⟨0, true, [i64 p, i64 g, i64 r]⟩, ⟨0, true, [i64 k1, .bool n1, ws c1, i64 e1]⟩, ⟨0, true, [i64 k2, .bool n2, ws c2, i64 e2]⟩, ⟨0, true, [i64 k3, .bool n3, ws c3, i64 e3]⟩, ⟨0, true, [.bool o1, nat m1, nat d1]⟩, ⟨0, true, [.bool o2, nat m2, nat d2]⟩, ⟨0, true, [.bool o3, nat m3, nat d3]⟩]) := by
  simp only [u, i64, Nat.reduceSub, Nat.reduceAdd, bm]
  repeat (first | refine G_seq ?_ | refine G_block ?_ | refine G_condT rfl ?_ | refine G_condF rfl ?_ | refine G_skip ?_ | refine q_tn ?_ | refine q_bn ?_)
  refine G_reg mixed (by first | rfl | kernel_rfl) ?_
  simp (disch := omega) only [u, i64, ax, eq_self, if_true, if_false, Nat.reduceAdd, Int.reduceToNat, Int.reduceAdd, tvs, bs]
  (refine cR R1 ?_; refine sX ?_; try refine aA ?_)
  repeat (first | refine G_seq ?_ | refine G_block ?_ | refine G_condT rfl ?_ | refine G_condF rfl ?_ | refine G_skip ?_ | refine q_tn ?_ | refine q_bn ?_)
  refine G_reg mixed (by first | rfl | kernel_rfl) ?_
  simp (disch := omega) only [u, i64, ax, eq_self, if_true, if_false, Nat.reduceAdd, Int.reduceToNat, Int.reduceAdd, tvs, bs]
  (refine cR R2 ?_; refine sX ?_; try refine aA ?_)
  repeat (first | refine G_seq ?_ | refine G_block ?_ | refine G_condT rfl ?_ | refine G_condF rfl ?_ | refine G_skip ?_ | refine q_tn ?_ | refine q_bn ?_)
  refine G_reg mixed (by first | rfl | kernel_rfl) ?_
  simp (disch := omega) only [u, i64, ax, eq_self, if_true, if_false, Nat.reduceAdd, Int.reduceToNat, Int.reduceAdd, tvs, bs]
  (refine cR R3 ?_; refine sX ?_; try refine aA ?_)
  repeat (first | refine G_seq ?_ | refine G_block ?_ | refine G_condT rfl ?_ | refine G_condF rfl ?_ | refine G_skip ?_ | refine q_tn ?_ | refine q_bn ?_)
  refine G_reg mixed (by first | rfl | kernel_rfl) ?_
  simp (disch := omega) only [u, i64, ax, eq_self, if_true, if_false, Nat.reduceAdd, Int.reduceToNat, Int.reduceAdd, tvs, bs]
  repeat (first | (refine gC ?_; first | refine aA ?_ | ((first | refine cR hAd ?_ | refine cR F1 ?_ | refine cR hMu ?_ | refine cR F2 ?_ | refine cR hA2 ?_ | refine cR F3 ?_ | refine cR hW ?_); refine sX ?_; try refine aA ?_)) | ((first | refine cR hAd ?_ | refine cR F1 ?_ | refine cR hMu ?_ | refine cR F2 ?_ | refine cR hA2 ?_ | refine cR F3 ?_ | refine cR hW ?_); refine sX ?_; try refine aA ?_) | refine gS ?_)
  (refine FinQ hQ (congrArg Array.toList Tryz.results14) _ _ ?_); simp (disch := omega) only [u, i64, ax, if_true, forall_const, reduceCtorEq, implies_true, tvs, bf]
theorem exact_tail2 {Q : Exit → St → Prop} {p g r : Int} {k1 e1 k2 e2 k3 e3 : Int} {n1 n2 n3 : Bool} {c1 c2 c3 : List Nat} {a1 a2 a3 h1 h2 h3 w1 w2 w3 : Int} {b1 b2 b3 o1 o2 o3 o4 o5 o6 : Bool} {f1 f2 f3 m1 m2 m3 m4 m5 m6 d1 d2 d3 d4 d5 d6 : Nat}
    (R1 : Ret Tryz.prog GEs 50 [.agg [i64 p, i64 g, i64 r], .agg [i64 k1, .bool n1, ws c1, i64 e1], .agg [i64 k2, .bool n2, ws c2, i64 e2]] (.tup [.agg [i64 a1, .bool b1, nat f1, i64 h1], i64 w1, i64 0]))
    (R2 : Ret Tryz.prog GEs 57 [.agg [i64 p, i64 g, i64 r], .agg [i64 k1, .bool n1, ws c1, i64 e1], .agg [i64 k2, .bool n2, ws c2, i64 e2]] (.tup [.agg [i64 a2, .bool b2, nat f2, i64 h2], i64 w2, i64 0]))
    (R3 : Ret Tryz.prog GEs 59 [.agg [i64 p, i64 g, i64 r], .agg [i64 k1, .bool n1, ws c1, i64 e1], .agg [i64 k2, .bool n2, ws c2, i64 e2], .agg [i64 k3, .bool n3, ws c3, i64 e3]] (.tup [.agg [i64 a3, .bool b3, nat f3, i64 h3], i64 w3, i64 0]))
    (hAd : Ret Tryz.prog GEs 64 [.agg [.bool o1, nat m1, nat d1], .agg [.bool o2, nat m2, nat d2]] (.agg [.bool o4, nat m4, nat d4]))
    (hMu : Ret Tryz.prog GEs 65 [.agg [.bool o1, nat m1, nat d1], .agg [.bool o2, nat m2, nat d2]] (.agg [.bool o5, nat m5, nat d5]))
    (hA2 : Ret Tryz.prog GEs 64 [.agg [.bool o5, nat m5, nat d5], .agg [.bool o3, nat m3, nat d3]] (.agg [.bool o6, nat m6, nat d6]))
    (F1 : Ret Tryz.prog GEs 63 [.agg [i64 p, i64 g, i64 r], .agg [i64 a1, .bool b1, nat f1, i64 h1], i64 w1, i64 0, .agg [.bool o4, nat m4, nat d4]] (.bool true))
    (F2 : Ret Tryz.prog GEs 63 [.agg [i64 p, i64 g, i64 r], .agg [i64 a2, .bool b2, nat f2, i64 h2], i64 w2, i64 0, .agg [.bool o5, nat m5, nat d5]] (.bool true))
    (F3 : Ret Tryz.prog GEs 63 [.agg [i64 p, i64 g, i64 r], .agg [i64 a3, .bool b3, nat f3, i64 h3], i64 w3, i64 0, .agg [.bool o6, nat m6, nat d6]] (.bool true))
    (hW : Ret Tryz.prog GEs 43 [] (.bool true))
    (hQ : ∀ s, FinN Tryz.prog Tryz.f14 (.bool true) s → Q .ret s) :
    AWp Tryz.prog GEs ((Tryz.f14.body.bind (aftR 3)).getD .skip) Q (mk 112 [(4, .ptr 0 0 0), (5, .ptr 1 0 0), (6, .ptr 2 0 0), (7, .ptr 3 0 0), (8, .bool false), (9, .ptr 4 0 0), (10, .ptr 6 0 0), (11, .ptr 5 0 0)]
      [⟨0, true, [i64 p, i64 g, i64 r]⟩, ⟨0, true, [i64 k1, .bool n1, ws c1, i64 e1]⟩, ⟨0, true, [i64 k2, .bool n2, ws c2, i64 e2]⟩, ⟨0, true, [i64 k3, .bool n3, ws c3, i64 e3]⟩, ⟨0, true, [.bool o1, nat m1, nat d1]⟩, ⟨0, true, [.bool o3, nat m3, nat d3]⟩, ⟨0, true, [.bool o2, nat m2, nat d2]⟩]) := by
  simp only [u, i64, Nat.reduceSub, Nat.reduceAdd, bm]
  repeat (first | refine G_seq ?_ | refine G_block ?_ | refine G_condT rfl ?_ | refine G_condF rfl ?_ | refine G_skip ?_ | refine q_tn ?_ | refine q_bn ?_)
  refine G_reg mixed (by first | rfl | kernel_rfl) ?_
  simp (disch := omega) only [u, i64, ax, eq_self, if_true, if_false, Nat.reduceAdd, Int.reduceToNat, Int.reduceAdd, tvs, bs]
  (refine cR R1 ?_; refine sX ?_; try refine aA ?_)
  repeat (first | refine G_seq ?_ | refine G_block ?_ | refine G_condT rfl ?_ | refine G_condF rfl ?_ | refine G_skip ?_ | refine q_tn ?_ | refine q_bn ?_)
  refine G_reg mixed (by first | rfl | kernel_rfl) ?_
  simp (disch := omega) only [u, i64, ax, eq_self, if_true, if_false, Nat.reduceAdd, Int.reduceToNat, Int.reduceAdd, tvs, bs]
  (refine cR R2 ?_; refine sX ?_; try refine aA ?_)
  repeat (first | refine G_seq ?_ | refine G_block ?_ | refine G_condT rfl ?_ | refine G_condF rfl ?_ | refine G_skip ?_ | refine q_tn ?_ | refine q_bn ?_)
  refine G_reg mixed (by first | rfl | kernel_rfl) ?_
  simp (disch := omega) only [u, i64, ax, eq_self, if_true, if_false, Nat.reduceAdd, Int.reduceToNat, Int.reduceAdd, tvs, bs]
  (refine cR R3 ?_; refine sX ?_; try refine aA ?_)
  repeat (first | refine G_seq ?_ | refine G_block ?_ | refine G_condT rfl ?_ | refine G_condF rfl ?_ | refine G_skip ?_ | refine q_tn ?_ | refine q_bn ?_)
  refine G_reg mixed (by first | rfl | kernel_rfl) ?_
  simp (disch := omega) only [u, i64, ax, eq_self, if_true, if_false, Nat.reduceAdd, Int.reduceToNat, Int.reduceAdd, tvs, bs]
  repeat (first | (refine gC ?_; first | refine aA ?_ | ((first | refine cR hAd ?_ | refine cR F1 ?_ | refine cR hMu ?_ | refine cR F2 ?_ | refine cR hA2 ?_ | refine cR F3 ?_ | refine cR hW ?_); refine sX ?_; try refine aA ?_)) | ((first | refine cR hAd ?_ | refine cR F1 ?_ | refine cR hMu ?_ | refine cR F2 ?_ | refine cR hA2 ?_ | refine cR F3 ?_ | refine cR hW ?_); refine sX ?_; try refine aA ?_) | refine gS ?_)
  (refine FinQ hQ (congrArg Array.toList Tryz.results14) _ _ ?_); simp (disch := omega) only [u, i64, ax, if_true, forall_const, reduceCtorEq, implies_true, tvs, bf]
theorem exact_tail3 {Q : Exit → St → Prop} {p g r : Int} {k1 e1 k2 e2 k3 e3 : Int} {n1 n2 n3 : Bool} {c1 c2 c3 : List Nat} {a1 a2 a3 h1 h2 h3 w1 w2 w3 : Int} {b1 b2 b3 o1 o2 o3 o4 o5 o6 : Bool} {f1 f2 f3 m1 m2 m3 m4 m5 m6 d1 d2 d3 d4 d5 d6 : Nat}
    (R1 : Ret Tryz.prog GEs 50 [.agg [i64 p, i64 g, i64 r], .agg [i64 k1, .bool n1, ws c1, i64 e1], .agg [i64 k2, .bool n2, ws c2, i64 e2]] (.tup [.agg [i64 a1, .bool b1, nat f1, i64 h1], i64 w1, i64 0]))
    (R2 : Ret Tryz.prog GEs 57 [.agg [i64 p, i64 g, i64 r], .agg [i64 k1, .bool n1, ws c1, i64 e1], .agg [i64 k2, .bool n2, ws c2, i64 e2]] (.tup [.agg [i64 a2, .bool b2, nat f2, i64 h2], i64 w2, i64 0]))
    (R3 : Ret Tryz.prog GEs 59 [.agg [i64 p, i64 g, i64 r], .agg [i64 k1, .bool n1, ws c1, i64 e1], .agg [i64 k2, .bool n2, ws c2, i64 e2], .agg [i64 k3, .bool n3, ws c3, i64 e3]] (.tup [.agg [i64 a3, .bool b3, nat f3, i64 h3], i64 w3, i64 0]))
    (hAd : Ret Tryz.prog GEs 64 [.agg [.bool o1, nat m1, nat d1], .agg [.bool o2, nat m2, nat d2]] (.agg [.bool o4, nat m4, nat d4]))
    (hMu : Ret Tryz.prog GEs 65 [.agg [.bool o1, nat m1, nat d1], .agg [.bool o2, nat m2, nat d2]] (.agg [.bool o5, nat m5, nat d5]))
    (hA2 : Ret Tryz.prog GEs 64 [.agg [.bool o5, nat m5, nat d5], .agg [.bool o3, nat m3, nat d3]] (.agg [.bool o6, nat m6, nat d6]))
    (F1 : Ret Tryz.prog GEs 63 [.agg [i64 p, i64 g, i64 r], .agg [i64 a1, .bool b1, nat f1, i64 h1], i64 w1, i64 0, .agg [.bool o4, nat m4, nat d4]] (.bool true))
    (F2 : Ret Tryz.prog GEs 63 [.agg [i64 p, i64 g, i64 r], .agg [i64 a2, .bool b2, nat f2, i64 h2], i64 w2, i64 0, .agg [.bool o5, nat m5, nat d5]] (.bool true))
    (F3 : Ret Tryz.prog GEs 63 [.agg [i64 p, i64 g, i64 r], .agg [i64 a3, .bool b3, nat f3, i64 h3], i64 w3, i64 0, .agg [.bool o6, nat m6, nat d6]] (.bool true))
    (hW : Ret Tryz.prog GEs 43 [] (.bool true))
    (hQ : ∀ s, FinN Tryz.prog Tryz.f14 (.bool true) s → Q .ret s) :
    AWp Tryz.prog GEs ((Tryz.f14.body.bind (aftR 3)).getD .skip) Q (mk 112 [(4, .ptr 0 0 0), (5, .ptr 1 0 0), (6, .ptr 2 0 0), (7, .ptr 3 0 0), (8, .bool false), (9, .ptr 5 0 0), (10, .ptr 4 0 0), (11, .ptr 6 0 0)]
      [⟨0, true, [i64 p, i64 g, i64 r]⟩, ⟨0, true, [i64 k1, .bool n1, ws c1, i64 e1]⟩, ⟨0, true, [i64 k2, .bool n2, ws c2, i64 e2]⟩, ⟨0, true, [i64 k3, .bool n3, ws c3, i64 e3]⟩, ⟨0, true, [.bool o2, nat m2, nat d2]⟩, ⟨0, true, [.bool o1, nat m1, nat d1]⟩, ⟨0, true, [.bool o3, nat m3, nat d3]⟩]) := by
  simp only [u, i64, Nat.reduceSub, Nat.reduceAdd, bm]
  repeat (first | refine G_seq ?_ | refine G_block ?_ | refine G_condT rfl ?_ | refine G_condF rfl ?_ | refine G_skip ?_ | refine q_tn ?_ | refine q_bn ?_)
  refine G_reg mixed (by first | rfl | kernel_rfl) ?_
  simp (disch := omega) only [u, i64, ax, eq_self, if_true, if_false, Nat.reduceAdd, Int.reduceToNat, Int.reduceAdd, tvs, bs]
  (refine cR R1 ?_; refine sX ?_; try refine aA ?_)
  repeat (first | refine G_seq ?_ | refine G_block ?_ | refine G_condT rfl ?_ | refine G_condF rfl ?_ | refine G_skip ?_ | refine q_tn ?_ | refine q_bn ?_)
  refine G_reg mixed (by first | rfl | kernel_rfl) ?_
  simp (disch := omega) only [u, i64, ax, eq_self, if_true, if_false, Nat.reduceAdd, Int.reduceToNat, Int.reduceAdd, tvs, bs]
  (refine cR R2 ?_; refine sX ?_; try refine aA ?_)
  repeat (first | refine G_seq ?_ | refine G_block ?_ | refine G_condT rfl ?_ | refine G_condF rfl ?_ | refine G_skip ?_ | refine q_tn ?_ | refine q_bn ?_)
  refine G_reg mixed (by first | rfl | kernel_rfl) ?_
  simp (disch := omega) only [u, i64, ax, eq_self, if_true, if_false, Nat.reduceAdd, Int.reduceToNat, Int.reduceAdd, tvs, bs]
  (refine cR R3 ?_; refine sX ?_; try refine aA ?_)
  repeat (first | refine G_seq ?_ | refine G_block ?_ | refine G_condT rfl ?_ | refine G_condF rfl ?_ | refine G_skip ?_ | refine q_tn ?_ | refine q_bn ?_)
  refine G_reg mixed (by first | rfl | kernel_rfl) ?_
  simp (disch := omega) only [u, i64, ax, eq_self, if_true, if_false, Nat.reduceAdd, Int.reduceToNat, Int.reduceAdd, tvs, bs]
  repeat (first | (refine gC ?_; first | refine aA ?_ | ((first | refine cR hAd ?_ | refine cR F1 ?_ | refine cR hMu ?_ | refine cR F2 ?_ | refine cR hA2 ?_ | refine cR F3 ?_ | refine cR hW ?_); refine sX ?_; try refine aA ?_)) | ((first | refine cR hAd ?_ | refine cR F1 ?_ | refine cR hMu ?_ | refine cR F2 ?_ | refine cR hA2 ?_ | refine cR F3 ?_ | refine cR hW ?_); refine sX ?_; try refine aA ?_) | refine gS ?_)
  (refine FinQ hQ (congrArg Array.toList Tryz.results14) _ _ ?_); simp (disch := omega) only [u, i64, ax, if_true, forall_const, reduceCtorEq, implies_true, tvs, bf]
theorem exact_tail4 {Q : Exit → St → Prop} {p g r : Int} {k1 e1 k2 e2 k3 e3 : Int} {n1 n2 n3 : Bool} {c1 c2 c3 : List Nat} {a1 a2 a3 h1 h2 h3 w1 w2 w3 : Int} {b1 b2 b3 o1 o2 o3 o4 o5 o6 : Bool} {f1 f2 f3 m1 m2 m3 m4 m5 m6 d1 d2 d3 d4 d5 d6 : Nat}
    (R1 : Ret Tryz.prog GEs 50 [.agg [i64 p, i64 g, i64 r], .agg [i64 k1, .bool n1, ws c1, i64 e1], .agg [i64 k2, .bool n2, ws c2, i64 e2]] (.tup [.agg [i64 a1, .bool b1, nat f1, i64 h1], i64 w1, i64 0]))
    (R2 : Ret Tryz.prog GEs 57 [.agg [i64 p, i64 g, i64 r], .agg [i64 k1, .bool n1, ws c1, i64 e1], .agg [i64 k2, .bool n2, ws c2, i64 e2]] (.tup [.agg [i64 a2, .bool b2, nat f2, i64 h2], i64 w2, i64 0]))
    (R3 : Ret Tryz.prog GEs 59 [.agg [i64 p, i64 g, i64 r], .agg [i64 k1, .bool n1, ws c1, i64 e1], .agg [i64 k2, .bool n2, ws c2, i64 e2], .agg [i64 k3, .bool n3, ws c3, i64 e3]] (.tup [.agg [i64 a3, .bool b3, nat f3, i64 h3], i64 w3, i64 0]))
    (hAd : Ret Tryz.prog GEs 64 [.agg [.bool o1, nat m1, nat d1], .agg [.bool o2, nat m2, nat d2]] (.agg [.bool o4, nat m4, nat d4]))
    (hMu : Ret Tryz.prog GEs 65 [.agg [.bool o1, nat m1, nat d1], .agg [.bool o2, nat m2, nat d2]] (.agg [.bool o5, nat m5, nat d5]))
    (hA2 : Ret Tryz.prog GEs 64 [.agg [.bool o5, nat m5, nat d5], .agg [.bool o3, nat m3, nat d3]] (.agg [.bool o6, nat m6, nat d6]))
    (F1 : Ret Tryz.prog GEs 63 [.agg [i64 p, i64 g, i64 r], .agg [i64 a1, .bool b1, nat f1, i64 h1], i64 w1, i64 0, .agg [.bool o4, nat m4, nat d4]] (.bool true))
    (F2 : Ret Tryz.prog GEs 63 [.agg [i64 p, i64 g, i64 r], .agg [i64 a2, .bool b2, nat f2, i64 h2], i64 w2, i64 0, .agg [.bool o5, nat m5, nat d5]] (.bool true))
    (F3 : Ret Tryz.prog GEs 63 [.agg [i64 p, i64 g, i64 r], .agg [i64 a3, .bool b3, nat f3, i64 h3], i64 w3, i64 0, .agg [.bool o6, nat m6, nat d6]] (.bool true))
    (hW : Ret Tryz.prog GEs 43 [] (.bool true))
    (hQ : ∀ s, FinN Tryz.prog Tryz.f14 (.bool true) s → Q .ret s) :
    AWp Tryz.prog GEs ((Tryz.f14.body.bind (aftR 3)).getD .skip) Q (mk 112 [(4, .ptr 0 0 0), (5, .ptr 1 0 0), (6, .ptr 2 0 0), (7, .ptr 3 0 0), (8, .bool false), (9, .ptr 6 0 0), (10, .ptr 4 0 0), (11, .ptr 5 0 0)]
      [⟨0, true, [i64 p, i64 g, i64 r]⟩, ⟨0, true, [i64 k1, .bool n1, ws c1, i64 e1]⟩, ⟨0, true, [i64 k2, .bool n2, ws c2, i64 e2]⟩, ⟨0, true, [i64 k3, .bool n3, ws c3, i64 e3]⟩, ⟨0, true, [.bool o2, nat m2, nat d2]⟩, ⟨0, true, [.bool o3, nat m3, nat d3]⟩, ⟨0, true, [.bool o1, nat m1, nat d1]⟩]) := by
  simp only [u, i64, Nat.reduceSub, Nat.reduceAdd, bm]
  repeat (first | refine G_seq ?_ | refine G_block ?_ | refine G_condT rfl ?_ | refine G_condF rfl ?_ | refine G_skip ?_ | refine q_tn ?_ | refine q_bn ?_)
  refine G_reg mixed (by first | rfl | kernel_rfl) ?_
  simp (disch := omega) only [u, i64, ax, eq_self, if_true, if_false, Nat.reduceAdd, Int.reduceToNat, Int.reduceAdd, tvs, bs]
  (refine cR R1 ?_; refine sX ?_; try refine aA ?_)
  repeat (first | refine G_seq ?_ | refine G_block ?_ | refine G_condT rfl ?_ | refine G_condF rfl ?_ | refine G_skip ?_ | refine q_tn ?_ | refine q_bn ?_)
  refine G_reg mixed (by first | rfl | kernel_rfl) ?_
  simp (disch := omega) only [u, i64, ax, eq_self, if_true, if_false, Nat.reduceAdd, Int.reduceToNat, Int.reduceAdd, tvs, bs]
  (refine cR R2 ?_; refine sX ?_; try refine aA ?_)
  repeat (first | refine G_seq ?_ | refine G_block ?_ | refine G_condT rfl ?_ | refine G_condF rfl ?_ | refine G_skip ?_ | refine q_tn ?_ | refine q_bn ?_)
  refine G_reg mixed (by first | rfl | kernel_rfl) ?_
  simp (disch := omega) only [u, i64, ax, eq_self, if_true, if_false, Nat.reduceAdd, Int.reduceToNat, Int.reduceAdd, tvs, bs]
  (refine cR R3 ?_; refine sX ?_; try refine aA ?_)
  repeat (first | refine G_seq ?_ | refine G_block ?_ | refine G_condT rfl ?_ | refine G_condF rfl ?_ | refine G_skip ?_ | refine q_tn ?_ | refine q_bn ?_)
  refine G_reg mixed (by first | rfl | kernel_rfl) ?_
  simp (disch := omega) only [u, i64, ax, eq_self, if_true, if_false, Nat.reduceAdd, Int.reduceToNat, Int.reduceAdd, tvs, bs]
  repeat (first | (refine gC ?_; first | refine aA ?_ | ((first | refine cR hAd ?_ | refine cR F1 ?_ | refine cR hMu ?_ | refine cR F2 ?_ | refine cR hA2 ?_ | refine cR F3 ?_ | refine cR hW ?_); refine sX ?_; try refine aA ?_)) | ((first | refine cR hAd ?_ | refine cR F1 ?_ | refine cR hMu ?_ | refine cR F2 ?_ | refine cR hA2 ?_ | refine cR F3 ?_ | refine cR hW ?_); refine sX ?_; try refine aA ?_) | refine gS ?_)
  (refine FinQ hQ (congrArg Array.toList Tryz.results14) _ _ ?_); simp (disch := omega) only [u, i64, ax, if_true, forall_const, reduceCtorEq, implies_true, tvs, bf]
theorem exact_tail5 {Q : Exit → St → Prop} {p g r : Int} {k1 e1 k2 e2 k3 e3 : Int} {n1 n2 n3 : Bool} {c1 c2 c3 : List Nat} {a1 a2 a3 h1 h2 h3 w1 w2 w3 : Int} {b1 b2 b3 o1 o2 o3 o4 o5 o6 : Bool} {f1 f2 f3 m1 m2 m3 m4 m5 m6 d1 d2 d3 d4 d5 d6 : Nat}
    (R1 : Ret Tryz.prog GEs 50 [.agg [i64 p, i64 g, i64 r], .agg [i64 k1, .bool n1, ws c1, i64 e1], .agg [i64 k2, .bool n2, ws c2, i64 e2]] (.tup [.agg [i64 a1, .bool b1, nat f1, i64 h1], i64 w1, i64 0]))
    (R2 : Ret Tryz.prog GEs 57 [.agg [i64 p, i64 g, i64 r], .agg [i64 k1, .bool n1, ws c1, i64 e1], .agg [i64 k2, .bool n2, ws c2, i64 e2]] (.tup [.agg [i64 a2, .bool b2, nat f2, i64 h2], i64 w2, i64 0]))
    (R3 : Ret Tryz.prog GEs 59 [.agg [i64 p, i64 g, i64 r], .agg [i64 k1, .bool n1, ws c1, i64 e1], .agg [i64 k2, .bool n2, ws c2, i64 e2], .agg [i64 k3, .bool n3, ws c3, i64 e3]] (.tup [.agg [i64 a3, .bool b3, nat f3, i64 h3], i64 w3, i64 0]))
    (hAd : Ret Tryz.prog GEs 64 [.agg [.bool o1, nat m1, nat d1], .agg [.bool o2, nat m2, nat d2]] (.agg [.bool o4, nat m4, nat d4]))
    (hMu : Ret Tryz.prog GEs 65 [.agg [.bool o1, nat m1, nat d1], .agg [.bool o2, nat m2, nat d2]] (.agg [.bool o5, nat m5, nat d5]))
    (hA2 : Ret Tryz.prog GEs 64 [.agg [.bool o5, nat m5, nat d5], .agg [.bool o3, nat m3, nat d3]] (.agg [.bool o6, nat m6, nat d6]))
    (F1 : Ret Tryz.prog GEs 63 [.agg [i64 p, i64 g, i64 r], .agg [i64 a1, .bool b1, nat f1, i64 h1], i64 w1, i64 0, .agg [.bool o4, nat m4, nat d4]] (.bool true))
    (F2 : Ret Tryz.prog GEs 63 [.agg [i64 p, i64 g, i64 r], .agg [i64 a2, .bool b2, nat f2, i64 h2], i64 w2, i64 0, .agg [.bool o5, nat m5, nat d5]] (.bool true))
    (F3 : Ret Tryz.prog GEs 63 [.agg [i64 p, i64 g, i64 r], .agg [i64 a3, .bool b3, nat f3, i64 h3], i64 w3, i64 0, .agg [.bool o6, nat m6, nat d6]] (.bool true))
    (hW : Ret Tryz.prog GEs 43 [] (.bool true))
    (hQ : ∀ s, FinN Tryz.prog Tryz.f14 (.bool true) s → Q .ret s) :
    AWp Tryz.prog GEs ((Tryz.f14.body.bind (aftR 3)).getD .skip) Q (mk 112 [(4, .ptr 0 0 0), (5, .ptr 1 0 0), (6, .ptr 2 0 0), (7, .ptr 3 0 0), (8, .bool false), (9, .ptr 5 0 0), (10, .ptr 6 0 0), (11, .ptr 4 0 0)]
      [⟨0, true, [i64 p, i64 g, i64 r]⟩, ⟨0, true, [i64 k1, .bool n1, ws c1, i64 e1]⟩, ⟨0, true, [i64 k2, .bool n2, ws c2, i64 e2]⟩, ⟨0, true, [i64 k3, .bool n3, ws c3, i64 e3]⟩, ⟨0, true, [.bool o3, nat m3, nat d3]⟩, ⟨0, true, [.bool o1, nat m1, nat d1]⟩, ⟨0, true, [.bool o2, nat m2, nat d2]⟩]) := by
  simp only [u, i64, Nat.reduceSub, Nat.reduceAdd, bm]
  repeat (first | refine G_seq ?_ | refine G_block ?_ | refine G_condT rfl ?_ | refine G_condF rfl ?_ | refine G_skip ?_ | refine q_tn ?_ | refine q_bn ?_)
  refine G_reg mixed (by first | rfl | kernel_rfl) ?_
  simp (disch := omega) only [u, i64, ax, eq_self, if_true, if_false, Nat.reduceAdd, Int.reduceToNat, Int.reduceAdd, tvs, bs]
  (refine cR R1 ?_; refine sX ?_; try refine aA ?_)
  repeat (first | refine G_seq ?_ | refine G_block ?_ | refine G_condT rfl ?_ | refine G_condF rfl ?_ | refine G_skip ?_ | refine q_tn ?_ | refine q_bn ?_)
  refine G_reg mixed (by first | rfl | kernel_rfl) ?_
  simp (disch := omega) only [u, i64, ax, eq_self, if_true, if_false, Nat.reduceAdd, Int.reduceToNat, Int.reduceAdd, tvs, bs]
  (refine cR R2 ?_; refine sX ?_; try refine aA ?_)
  repeat (first | refine G_seq ?_ | refine G_block ?_ | refine G_condT rfl ?_ | refine G_condF rfl ?_ | refine G_skip ?_ | refine q_tn ?_ | refine q_bn ?_)
  refine G_reg mixed (by first | rfl | kernel_rfl) ?_
  simp (disch := omega) only [u, i64, ax, eq_self, if_true, if_false, Nat.reduceAdd, Int.reduceToNat, Int.reduceAdd, tvs, bs]
  (refine cR R3 ?_; refine sX ?_; try refine aA ?_)
  repeat (first | refine G_seq ?_ | refine G_block ?_ | refine G_condT rfl ?_ | refine G_condF rfl ?_ | refine G_skip ?_ | refine q_tn ?_ | refine q_bn ?_)
  refine G_reg mixed (by first | rfl | kernel_rfl) ?_
  simp (disch := omega) only [u, i64, ax, eq_self, if_true, if_false, Nat.reduceAdd, Int.reduceToNat, Int.reduceAdd, tvs, bs]
  repeat (first | (refine gC ?_; first | refine aA ?_ | ((first | refine cR hAd ?_ | refine cR F1 ?_ | refine cR hMu ?_ | refine cR F2 ?_ | refine cR hA2 ?_ | refine cR F3 ?_ | refine cR hW ?_); refine sX ?_; try refine aA ?_)) | ((first | refine cR hAd ?_ | refine cR F1 ?_ | refine cR hMu ?_ | refine cR F2 ?_ | refine cR hA2 ?_ | refine cR F3 ?_ | refine cR hW ?_); refine sX ?_; try refine aA ?_) | refine gS ?_)
  (refine FinQ hQ (congrArg Array.toList Tryz.results14) _ _ ?_); simp (disch := omega) only [u, i64, ax, if_true, forall_const, reduceCtorEq, implies_true, tvs, bf]
theorem exact_tail6 {Q : Exit → St → Prop} {p g r : Int} {k1 e1 k2 e2 k3 e3 : Int} {n1 n2 n3 : Bool} {c1 c2 c3 : List Nat} {a1 a2 a3 h1 h2 h3 w1 w2 w3 : Int} {b1 b2 b3 o1 o2 o3 o4 o5 o6 : Bool} {f1 f2 f3 m1 m2 m3 m4 m5 m6 d1 d2 d3 d4 d5 d6 : Nat}
    (R1 : Ret Tryz.prog GEs 50 [.agg [i64 p, i64 g, i64 r], .agg [i64 k1, .bool n1, ws c1, i64 e1], .agg [i64 k2, .bool n2, ws c2, i64 e2]] (.tup [.agg [i64 a1, .bool b1, nat f1, i64 h1], i64 w1, i64 0]))
    (R2 : Ret Tryz.prog GEs 57 [.agg [i64 p, i64 g, i64 r], .agg [i64 k1, .bool n1, ws c1, i64 e1], .agg [i64 k2, .bool n2, ws c2, i64 e2]] (.tup [.agg [i64 a2, .bool b2, nat f2, i64 h2], i64 w2, i64 0]))
    (R3 : Ret Tryz.prog GEs 59 [.agg [i64 p, i64 g, i64 r], .agg [i64 k1, .bool n1, ws c1, i64 e1], .agg [i64 k2, .bool n2, ws c2, i64 e2], .agg [i64 k3, .bool n3, ws c3, i64 e3]] (.tup [.agg [i64 a3, .bool b3, nat f3, i64 h3], i64 w3, i64 0]))
    (hAd : Ret Tryz.prog GEs 64 [.agg [.bool o1, nat m1, nat d1], .agg [.bool o2, nat m2, nat d2]] (.agg [.bool o4, nat m4, nat d4]))
    (hMu : Ret Tryz.prog GEs 65 [.agg [.bool o1, nat m1, nat d1], .agg [.bool o2, nat m2, nat d2]] (.agg [.bool o5, nat m5, nat d5]))
    (hA2 : Ret Tryz.prog GEs 64 [.agg [.bool o5, nat m5, nat d5], .agg [.bool o3, nat m3, nat d3]] (.agg [.bool o6, nat m6, nat d6]))
    (F1 : Ret Tryz.prog GEs 63 [.agg [i64 p, i64 g, i64 r], .agg [i64 a1, .bool b1, nat f1, i64 h1], i64 w1, i64 0, .agg [.bool o4, nat m4, nat d4]] (.bool true))
    (F2 : Ret Tryz.prog GEs 63 [.agg [i64 p, i64 g, i64 r], .agg [i64 a2, .bool b2, nat f2, i64 h2], i64 w2, i64 0, .agg [.bool o5, nat m5, nat d5]] (.bool true))
    (F3 : Ret Tryz.prog GEs 63 [.agg [i64 p, i64 g, i64 r], .agg [i64 a3, .bool b3, nat f3, i64 h3], i64 w3, i64 0, .agg [.bool o6, nat m6, nat d6]] (.bool true))
    (hW : Ret Tryz.prog GEs 43 [] (.bool true))
    (hQ : ∀ s, FinN Tryz.prog Tryz.f14 (.bool true) s → Q .ret s) :
    AWp Tryz.prog GEs ((Tryz.f14.body.bind (aftR 3)).getD .skip) Q (mk 112 [(4, .ptr 0 0 0), (5, .ptr 1 0 0), (6, .ptr 2 0 0), (7, .ptr 3 0 0), (8, .bool false), (9, .ptr 6 0 0), (10, .ptr 5 0 0), (11, .ptr 4 0 0)]
      [⟨0, true, [i64 p, i64 g, i64 r]⟩, ⟨0, true, [i64 k1, .bool n1, ws c1, i64 e1]⟩, ⟨0, true, [i64 k2, .bool n2, ws c2, i64 e2]⟩, ⟨0, true, [i64 k3, .bool n3, ws c3, i64 e3]⟩, ⟨0, true, [.bool o3, nat m3, nat d3]⟩, ⟨0, true, [.bool o2, nat m2, nat d2]⟩, ⟨0, true, [.bool o1, nat m1, nat d1]⟩]) := by
  simp only [u, i64, Nat.reduceSub, Nat.reduceAdd, bm]
  repeat (first | refine G_seq ?_ | refine G_block ?_ | refine G_condT rfl ?_ | refine G_condF rfl ?_ | refine G_skip ?_ | refine q_tn ?_ | refine q_bn ?_)
  refine G_reg mixed (by first | rfl | kernel_rfl) ?_
  simp (disch := omega) only [u, i64, ax, eq_self, if_true, if_false, Nat.reduceAdd, Int.reduceToNat, Int.reduceAdd, tvs, bs]
  (refine cR R1 ?_; refine sX ?_; try refine aA ?_)
  repeat (first | refine G_seq ?_ | refine G_block ?_ | refine G_condT rfl ?_ | refine G_condF rfl ?_ | refine G_skip ?_ | refine q_tn ?_ | refine q_bn ?_)
  refine G_reg mixed (by first | rfl | kernel_rfl) ?_
  simp (disch := omega) only [u, i64, ax, eq_self, if_true, if_false, Nat.reduceAdd, Int.reduceToNat, Int.reduceAdd, tvs, bs]
  (refine cR R2 ?_; refine sX ?_; try refine aA ?_)
  repeat (first | refine G_seq ?_ | refine G_block ?_ | refine G_condT rfl ?_ | refine G_condF rfl ?_ | refine G_skip ?_ | refine q_tn ?_ | refine q_bn ?_)
  refine G_reg mixed (by first | rfl | kernel_rfl) ?_
  simp (disch := omega) only [u, i64, ax, eq_self, if_true, if_false, Nat.reduceAdd, Int.reduceToNat, Int.reduceAdd, tvs, bs]
  (refine cR R3 ?_; refine sX ?_; try refine aA ?_)
  repeat (first | refine G_seq ?_ | refine G_block ?_ | refine G_condT rfl ?_ | refine G_condF rfl ?_ | refine G_skip ?_ | refine q_tn ?_ | refine q_bn ?_)
  refine G_reg mixed (by first | rfl | kernel_rfl) ?_
  simp (disch := omega) only [u, i64, ax, eq_self, if_true, if_false, Nat.reduceAdd, Int.reduceToNat, Int.reduceAdd, tvs, bs]
  repeat (first | (refine gC ?_; first | refine aA ?_ | ((first | refine cR hAd ?_ | refine cR F1 ?_ | refine cR hMu ?_ | refine cR F2 ?_ | refine cR hA2 ?_ | refine cR F3 ?_ | refine cR hW ?_); refine sX ?_; try refine aA ?_)) | ((first | refine cR hAd ?_ | refine cR F1 ?_ | refine cR hMu ?_ | refine cR F2 ?_ | refine cR hA2 ?_ | refine cR F3 ?_ | refine cR hW ?_); refine sX ?_; try refine aA ?_) | refine gS ?_)
  (refine FinQ hQ (congrArg Array.toList Tryz.results14) _ _ ?_); simp (disch := omega) only [u, i64, ax, if_true, forall_const, reduceCtorEq, implies_true, tvs, bf]
end Go.Proofs
