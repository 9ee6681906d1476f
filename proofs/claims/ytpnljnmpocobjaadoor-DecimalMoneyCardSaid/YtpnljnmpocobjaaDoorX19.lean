/-
  Contracts of functions of the program, each proved by a walk.
-/
import Derived.Test.YtpnljnmpocobjaaDoorX18
set_option maxRecDepth 100000
set_option linter.unusedVariables false
set_option linter.unusedSimpArgs false
set_option maxRecDepth 100000
set_option maxHeartbeats 4000000
namespace Go.Proofs
open Go.Ax
theorem leT_self : ∀ t : List AV, leT t t
  | [] => trivial
  | x :: xs => ⟨.inr (.inl rfl), leT_self xs⟩
/-- The first loop of a code. -/
def loop1 : Code → Option Code
  | .seq x y => (loop1 x).orElse fun _ => loop1 y
  | .block _ c => loop1 c
  | .cond _ x y => (loop1 x).orElse fun _ => loop1 y
  | .loop c => some c
  | _ => none
set_option maxHeartbeats 8000000 in
theorem money_roundT (K : St → Prop) (Q : Exit → St → Prop) (p g r : Int) (n i : Nat) (cs rest : List AV) (hi : i < n) (hn : n ≤ 20) (hlen : cs.length = n * 4) (hc : refsL 3 cs = true)
    (xk xe : Int) (xn : Bool) (xc : List Nat) (hd : cs.drop (i * 4) = i64 xk :: .bool xn :: ws xc :: i64 xe :: rest) (e low : Int) (hmin : min e xe = low) (sn nz rn ny n1 n2 : Bool) (sc : List Nat) (mz m1 m2 my : Nat)
    (A1 : Ret Tryd.prog GEs 38 [.agg [i64 0, .bool nz, nat mz, i64 e], i64 low] (.agg [.bool n1, nat m1]))
    (tx : Ret Tryd.prog GEs 39 [.agg [i64 xk, .bool xn, ws xc, i64 xe]] (.agg [i64 xk, .bool xn, ws xc, i64 xe]))
    (A2 : Ret Tryd.prog GEs 38 [.agg [i64 xk, .bool xn, ws xc, i64 xe], i64 low] (.agg [.bool n2, nat m2]))
    (hAd : Ret Tryd.prog GEs 40 [.agg [.bool n1, nat m1], .agg [.bool n2, nat m2]] (.agg [.bool ny, nat my]))
    (D1 : Ret Tryd.prog GEs 41 [.agg [i64 p, i64 g, i64 r], .agg [i64 0, .bool sn, ws sc, i64 e], .agg [i64 xk, .bool xn, ws xc, i64 xe]] (.tup [.agg [i64 0, .bool rn, nat my, i64 low], i64 0, i64 0]))
    (hX : Ret Tryd.prog GEs 43 [.agg [i64 p, i64 g, i64 r]] (.agg [i64 p, i64 g, i64 r]))
    (hI : Ret Tryd.prog GEs 42 [.agg [i64 p, i64 g, i64 r], .agg [i64 0, .bool false, nat my, i64 low]] (.bool true))
    (hIs : Ret Tryd.prog GEs 44 [nat my, nat my] (.bool true))
    (hr : 0 < (words my).length → rn = ny)
    (hK : ∀ s, leS s (mk 139 [(1, .lst n cs), (2, .ptr 0 0 0), (4, .bool false), (5, .ptr 1 0 0), (6, i64 low), (7, .ptr 2 0 0), (8, i64 ((i + 1 : Nat) : Int))] [⟨0, true, [i64 p, i64 g, i64 r]⟩, ⟨0, true, [i64 0, .bool rn, nat my, i64 low]⟩, ⟨0, true, [.bool ny, nat my]⟩]) → K s) :
    AWp Tryd.prog GEs ((Tryd.f7.body.bind loop1).getD .skip) (thenA K Q) (mk 139 [(1, .lst n cs), (2, .ptr 0 0 0), (4, .bool false), (5, .ptr 1 0 0), (6, i64 e), (7, .ptr 2 0 0), (8, i64 i)] [⟨0, true, [i64 p, i64 g, i64 r]⟩, ⟨0, true, [i64 0, .bool sn, ws sc, i64 e]⟩, ⟨0, true, [.bool nz, nat mz]⟩]) := by
  by_cases hy : 0 < (words my).length
  · have hne : (rn != ny) = false := by rw [hr hy]; cases ny <;> rfl
    clear hr
    simp only [u, i64, Nat.reduceSub, Nat.reduceAdd, bm]
    repeat (first | refine G_seq ?_ | refine G_block ?_ | refine G_condT rfl ?_ | refine G_condF rfl ?_ | refine G_skip ?_ | refine q_tn ?_ | refine q_bn ?_)
    refine G_reg mixed (by first | rfl | kernel_rfl) ?_
    simp (disch := omega) only [u, i64, ax, eq_self, if_true, if_false, Nat.reduceAdd, Int.reduceToNat, Int.reduceAdd, tvs, bs, hlen, hd, hmin]
    refine aft_any ?_
    repeat (first | refine G_seq ?_ | refine G_block ?_ | refine G_condT rfl ?_ | refine G_condF rfl ?_ | refine G_skip ?_ | refine q_tn ?_ | refine q_bn ?_)
    refine G_reg mixed (by first | rfl | kernel_rfl) ?_
    simp (disch := omega) only [u, i64, ax, eq_self, if_true, if_false, Nat.reduceAdd, Int.reduceToNat, Int.reduceAdd, tvs, bs, hlen, hd, hmin]
    refine aft_any ?_
    repeat (first | refine G_seq ?_ | refine G_block ?_ | refine G_condT rfl ?_ | refine G_condF rfl ?_ | refine G_skip ?_ | refine q_tn ?_ | refine q_bn ?_)
    refine G_reg mixed (by first | rfl | kernel_rfl) ?_
    simp (disch := omega) only [u, i64, ax, eq_self, if_true, if_false, Nat.reduceAdd, Int.reduceToNat, Int.reduceAdd, tvs, bs, hlen, hd, hmin]
    (refine cR A1 ?_; refine sX ?_; try refine aA ?_)
    simp (disch := omega) only [u, i64, ax, eq_self, if_true, if_false, Nat.reduceAdd, Int.reduceToNat, Int.reduceAdd, tvs, bs, hlen, hd, hmin]
    (refine cR tx ?_; refine sX ?_; try refine aA ?_)
    (refine cR A2 ?_; refine sX ?_; try refine aA ?_)
    (refine cR hAd ?_; refine sX ?_; try refine aA ?_)
    repeat (first | refine G_seq ?_ | refine G_block ?_ | refine G_condT rfl ?_ | refine G_condF rfl ?_ | refine G_skip ?_ | refine q_tn ?_ | refine q_bn ?_)
    refine G_reg mixed (by first | rfl | kernel_rfl) ?_
    simp (disch := omega) only [u, i64, ax, eq_self, if_true, if_false, Nat.reduceAdd, Int.reduceToNat, Int.reduceAdd, tvs, bs, hlen, hd, hmin]
    refine aft_any ?_
    repeat (first | refine G_seq ?_ | refine G_block ?_ | refine G_condT rfl ?_ | refine G_condF rfl ?_ | refine G_skip ?_ | refine q_tn ?_ | refine q_bn ?_)
    refine G_reg mixed (by first | rfl | kernel_rfl) ?_
    simp (disch := omega) only [u, i64, ax, eq_self, if_true, if_false, Nat.reduceAdd, Int.reduceToNat, Int.reduceAdd, tvs, bs, hlen, hd, hmin]
    (refine cR D1 ?_; refine sX ?_; try refine aA ?_)
    repeat (first | refine G_seq ?_ | refine G_block ?_ | refine G_condT rfl ?_ | refine G_condF rfl ?_ | refine G_skip ?_ | refine q_tn ?_ | refine q_bn ?_)
    refine G_reg mixed (by first | rfl | kernel_rfl) ?_
    simp (disch := omega) only [u, i64, ax, eq_self, if_true, if_false, Nat.reduceAdd, Int.reduceToNat, Int.reduceAdd, tvs, bs, hlen, hd, hmin]
    refine aft_any ?_
    repeat (first | refine G_seq ?_ | refine G_block ?_ | refine G_condT rfl ?_ | refine G_condF rfl ?_ | refine G_skip ?_ | refine q_tn ?_ | refine q_bn ?_)
    refine G_reg mixed (by first | rfl | kernel_rfl) ?_
    simp (disch := omega) only [u, i64, ax, eq_self, if_true, if_false, Nat.reduceAdd, Int.reduceToNat, Int.reduceAdd, tvs, bs, hlen, hd, hmin]
    (refine cR hX ?_; refine sX ?_; try refine aA ?_)
    (refine cR hI ?_; refine sX ?_; try refine aA ?_)
    repeat (first | refine G_seq ?_ | refine G_block ?_ | refine G_condT rfl ?_ | refine G_condF rfl ?_ | refine G_skip ?_ | refine q_tn ?_ | refine q_bn ?_)
    refine G_reg mixed (by first | rfl | kernel_rfl) ?_
    simp (disch := omega) only [u, i64, ax, eq_self, if_true, if_false, Nat.reduceAdd, Int.reduceToNat, Int.reduceAdd, tvs, bs, hlen, hd, hmin]
    (refine cR hIs ?_; refine sX ?_; try refine aA ?_)
    simp (disch := omega) only [u, i64, ax, eq_self, if_true, if_false, Nat.reduceAdd, Int.reduceToNat, Int.reduceAdd, tvs, bs, hne]
    try refine aft_any ?_
    repeat (first | refine G_seq ?_ | refine G_block ?_ | refine G_condT rfl ?_ | refine G_condF rfl ?_ | refine G_skip ?_ | refine q_tn ?_ | refine q_bn ?_)
    refine G_reg mixed (by first | rfl | kernel_rfl) ?_
    simp (disch := omega) only [u, i64, ax, eq_self, if_true, if_false, Nat.reduceAdd, Int.reduceToNat, Int.reduceAdd, tvs, bs, hlen, hd, hmin]
    refine aft_any ?_
    repeat (first | refine G_seq ?_ | refine G_block ?_ | refine G_condT rfl ?_ | refine G_condF rfl ?_ | refine G_skip ?_ | refine q_tn ?_ | refine q_bn ?_)
    refine AWp_le (s' := mk 139 [(1, .lst n cs), (2, .ptr 0 0 0), (4, .bool false), (5, .ptr 1 0 0), (6, i64 low), (7, .ptr 2 0 0), (8, i64 i)] [⟨0, true, [i64 p, i64 g, i64 r]⟩, ⟨0, true, [i64 0, .bool rn, nat my, i64 low]⟩, ⟨0, true, [.bool ny, nat my]⟩, ⟨0, true, [i64 0, .bool rn, nat my, i64 low]⟩]) (by simp only [u, i64, Nat.reduceSub, Nat.reduceAdd, bm]) ?_
    simp only [u, i64, Nat.reduceSub, Nat.reduceAdd, bm]
    refine G_forget [⟨0, true, [i64 p, i64 g, i64 r]⟩, ⟨0, true, [i64 0, .bool rn, nat my, i64 low]⟩, ⟨0, true, [.bool ny, nat my]⟩] [⟨0, true, [i64 0, .bool rn, nat my, i64 low]⟩] ⟨leT_self _, rfl⟩ (Nat.succ_pos _) (by simp only [List.length_cons, List.length_nil, Nat.reduceAdd, refsL, refs, hc, Bool.and_true, Nat.reduceLT, decide_true]) (by simp only [List.length_cons, List.length_nil, Nat.reduceAdd, refsR, refsL, refs, refsL_us, i64, Bool.and_true]) ?_
    refine G_reg mixed (by first | rfl | kernel_rfl) ?_
    simp (disch := omega) only [u, i64, ax, eq_self, if_true, if_false, Nat.reduceAdd, Int.reduceToNat, Int.reduceAdd, tvs, bs, hlen, hd, hmin]
    refine aft_any ?_
    repeat (first | refine G_seq ?_ | refine G_block ?_ | refine G_condT rfl ?_ | refine G_condF rfl ?_ | refine G_skip ?_ | refine q_tn ?_ | refine q_bn ?_)
    exact hK _ (by simp only [u, i64, Nat.reduceSub, Nat.reduceAdd, bm])
  · clear hr
    simp only [u, i64, Nat.reduceSub, Nat.reduceAdd, bm]
    repeat (first | refine G_seq ?_ | refine G_block ?_ | refine G_condT rfl ?_ | refine G_condF rfl ?_ | refine G_skip ?_ | refine q_tn ?_ | refine q_bn ?_)
    refine G_reg mixed (by first | rfl | kernel_rfl) ?_
    simp (disch := omega) only [u, i64, ax, eq_self, if_true, if_false, Nat.reduceAdd, Int.reduceToNat, Int.reduceAdd, tvs, bs, hlen, hd, hmin]
    refine aft_any ?_
    repeat (first | refine G_seq ?_ | refine G_block ?_ | refine G_condT rfl ?_ | refine G_condF rfl ?_ | refine G_skip ?_ | refine q_tn ?_ | refine q_bn ?_)
    refine G_reg mixed (by first | rfl | kernel_rfl) ?_
    simp (disch := omega) only [u, i64, ax, eq_self, if_true, if_false, Nat.reduceAdd, Int.reduceToNat, Int.reduceAdd, tvs, bs, hlen, hd, hmin]
    refine aft_any ?_
    repeat (first | refine G_seq ?_ | refine G_block ?_ | refine G_condT rfl ?_ | refine G_condF rfl ?_ | refine G_skip ?_ | refine q_tn ?_ | refine q_bn ?_)
    refine G_reg mixed (by first | rfl | kernel_rfl) ?_
    simp (disch := omega) only [u, i64, ax, eq_self, if_true, if_false, Nat.reduceAdd, Int.reduceToNat, Int.reduceAdd, tvs, bs, hlen, hd, hmin]
    (refine cR A1 ?_; refine sX ?_; try refine aA ?_)
    simp (disch := omega) only [u, i64, ax, eq_self, if_true, if_false, Nat.reduceAdd, Int.reduceToNat, Int.reduceAdd, tvs, bs, hlen, hd, hmin]
    (refine cR tx ?_; refine sX ?_; try refine aA ?_)
    (refine cR A2 ?_; refine sX ?_; try refine aA ?_)
    (refine cR hAd ?_; refine sX ?_; try refine aA ?_)
    repeat (first | refine G_seq ?_ | refine G_block ?_ | refine G_condT rfl ?_ | refine G_condF rfl ?_ | refine G_skip ?_ | refine q_tn ?_ | refine q_bn ?_)
    refine G_reg mixed (by first | rfl | kernel_rfl) ?_
    simp (disch := omega) only [u, i64, ax, eq_self, if_true, if_false, Nat.reduceAdd, Int.reduceToNat, Int.reduceAdd, tvs, bs, hlen, hd, hmin]
    refine aft_any ?_
    repeat (first | refine G_seq ?_ | refine G_block ?_ | refine G_condT rfl ?_ | refine G_condF rfl ?_ | refine G_skip ?_ | refine q_tn ?_ | refine q_bn ?_)
    refine G_reg mixed (by first | rfl | kernel_rfl) ?_
    simp (disch := omega) only [u, i64, ax, eq_self, if_true, if_false, Nat.reduceAdd, Int.reduceToNat, Int.reduceAdd, tvs, bs, hlen, hd, hmin]
    (refine cR D1 ?_; refine sX ?_; try refine aA ?_)
    repeat (first | refine G_seq ?_ | refine G_block ?_ | refine G_condT rfl ?_ | refine G_condF rfl ?_ | refine G_skip ?_ | refine q_tn ?_ | refine q_bn ?_)
    refine G_reg mixed (by first | rfl | kernel_rfl) ?_
    simp (disch := omega) only [u, i64, ax, eq_self, if_true, if_false, Nat.reduceAdd, Int.reduceToNat, Int.reduceAdd, tvs, bs, hlen, hd, hmin]
    refine aft_any ?_
    repeat (first | refine G_seq ?_ | refine G_block ?_ | refine G_condT rfl ?_ | refine G_condF rfl ?_ | refine G_skip ?_ | refine q_tn ?_ | refine q_bn ?_)
    refine G_reg mixed (by first | rfl | kernel_rfl) ?_
    simp (disch := omega) only [u, i64, ax, eq_self, if_true, if_false, Nat.reduceAdd, Int.reduceToNat, Int.reduceAdd, tvs, bs, hlen, hd, hmin]
    (refine cR hX ?_; refine sX ?_; try refine aA ?_)
    (refine cR hI ?_; refine sX ?_; try refine aA ?_)
    repeat (first | refine G_seq ?_ | refine G_block ?_ | refine G_condT rfl ?_ | refine G_condF rfl ?_ | refine G_skip ?_ | refine q_tn ?_ | refine q_bn ?_)
    refine G_reg mixed (by first | rfl | kernel_rfl) ?_
    simp (disch := omega) only [u, i64, ax, eq_self, if_true, if_false, Nat.reduceAdd, Int.reduceToNat, Int.reduceAdd, tvs, bs, hlen, hd, hmin]
    (refine cR hIs ?_; refine sX ?_; try refine aA ?_)
    try refine aft_any ?_
    repeat (first | refine G_seq ?_ | refine G_block ?_ | refine G_condT rfl ?_ | refine G_condF rfl ?_ | refine G_skip ?_ | refine q_tn ?_ | refine q_bn ?_)
    refine G_reg mixed (by first | rfl | kernel_rfl) ?_
    simp (disch := omega) only [u, i64, ax, eq_self, if_true, if_false, Nat.reduceAdd, Int.reduceToNat, Int.reduceAdd, tvs, bs, hlen, hd, hmin]
    refine aft_any ?_
    repeat (first | refine G_seq ?_ | refine G_block ?_ | refine G_condT rfl ?_ | refine G_condF rfl ?_ | refine G_skip ?_ | refine q_tn ?_ | refine q_bn ?_)
    refine AWp_le (s' := mk 139 [(1, .lst n cs), (2, .ptr 0 0 0), (4, .bool false), (5, .ptr 1 0 0), (6, i64 low), (7, .ptr 2 0 0), (8, i64 i)] [⟨0, true, [i64 p, i64 g, i64 r]⟩, ⟨0, true, [i64 0, .bool rn, nat my, i64 low]⟩, ⟨0, true, [.bool ny, nat my]⟩, ⟨0, true, [i64 0, .bool rn, nat my, i64 low]⟩]) (by simp only [u, i64, Nat.reduceSub, Nat.reduceAdd, bm]) ?_
    simp only [u, i64, Nat.reduceSub, Nat.reduceAdd, bm]
    refine G_forget [⟨0, true, [i64 p, i64 g, i64 r]⟩, ⟨0, true, [i64 0, .bool rn, nat my, i64 low]⟩, ⟨0, true, [.bool ny, nat my]⟩] [⟨0, true, [i64 0, .bool rn, nat my, i64 low]⟩] ⟨leT_self _, rfl⟩ (Nat.succ_pos _) (by simp only [List.length_cons, List.length_nil, Nat.reduceAdd, refsL, refs, hc, Bool.and_true, Nat.reduceLT, decide_true]) (by simp only [List.length_cons, List.length_nil, Nat.reduceAdd, refsR, refsL, refs, refsL_us, i64, Bool.and_true]) ?_
    refine G_reg mixed (by first | rfl | kernel_rfl) ?_
    simp (disch := omega) only [u, i64, ax, eq_self, if_true, if_false, Nat.reduceAdd, Int.reduceToNat, Int.reduceAdd, tvs, bs, hlen, hd, hmin]
    refine aft_any ?_
    repeat (first | refine G_seq ?_ | refine G_block ?_ | refine G_condT rfl ?_ | refine G_condF rfl ?_ | refine G_skip ?_ | refine q_tn ?_ | refine q_bn ?_)
    exact hK _ (by simp only [u, i64, Nat.reduceSub, Nat.reduceAdd, bm])
set_option maxHeartbeats 8000000 in
theorem money_roundF (K : St → Prop) (Q : Exit → St → Prop) (p g r : Int) (n i : Nat) (cs rest : List AV) (hi : i < n) (hn : n ≤ 20) (hlen : cs.length = n * 4)
    (xk xe : Int) (xn : Bool) (xc : List Nat) (hd : cs.drop (i * 4) = i64 xk :: .bool xn :: ws xc :: i64 xe :: rest) (e low : Int) (hmin : min e xe = low) (sn nz rn ny n1 n2 : Bool) (sc : List Nat) (mz m1 m2 my rc : Nat) (rk re fl : Int)
    (A1 : Ret Tryd.prog GEs 38 [.agg [i64 0, .bool nz, nat mz, i64 e], i64 low] (.agg [.bool n1, nat m1]))
    (tx : Ret Tryd.prog GEs 39 [.agg [i64 xk, .bool xn, ws xc, i64 xe]] (.agg [i64 xk, .bool xn, ws xc, i64 xe]))
    (A2 : Ret Tryd.prog GEs 38 [.agg [i64 xk, .bool xn, ws xc, i64 xe], i64 low] (.agg [.bool n2, nat m2]))
    (hAd : Ret Tryd.prog GEs 40 [.agg [.bool n1, nat m1], .agg [.bool n2, nat m2]] (.agg [.bool ny, nat my]))
    (D1 : Ret Tryd.prog GEs 41 [.agg [i64 p, i64 g, i64 r], .agg [i64 0, .bool sn, ws sc, i64 e], .agg [i64 xk, .bool xn, ws xc, i64 xe]] (.tup [.agg [i64 rk, .bool rn, nat rc, i64 re], i64 fl, i64 0]))
    (hX : Ret Tryd.prog GEs 43 [.agg [i64 p, i64 g, i64 r]] (.agg [i64 p, i64 g, i64 r]))
    (hI : Ret Tryd.prog GEs 42 [.agg [i64 p, i64 g, i64 r], .agg [i64 0, .bool false, nat my, i64 low]] (.bool false))
    (hW : Ret Tryd.prog GEs 37 [] (.bool true))
    (hQ : ∀ s, FinN Tryd.prog Tryd.f7 (.bool true) s → Q .ret s) :
    AWp Tryd.prog GEs ((Tryd.f7.body.bind loop1).getD .skip) (thenA K Q) (mk 139 [(1, .lst n cs), (2, .ptr 0 0 0), (4, .bool false), (5, .ptr 1 0 0), (6, i64 e), (7, .ptr 2 0 0), (8, i64 i)] [⟨0, true, [i64 p, i64 g, i64 r]⟩, ⟨0, true, [i64 0, .bool sn, ws sc, i64 e]⟩, ⟨0, true, [.bool nz, nat mz]⟩]) := by
  simp only [u, i64, Nat.reduceSub, Nat.reduceAdd, bm]
  repeat (first | refine G_seq ?_ | refine G_block ?_ | refine G_condT rfl ?_ | refine G_condF rfl ?_ | refine G_skip ?_ | refine q_tn ?_ | refine q_bn ?_)
  refine G_reg mixed (by first | rfl | kernel_rfl) ?_
  simp (disch := omega) only [u, i64, ax, eq_self, if_true, if_false, Nat.reduceAdd, Int.reduceToNat, Int.reduceAdd, tvs, bs, hlen, hd, hmin]
  refine aft_any ?_
  repeat (first | refine G_seq ?_ | refine G_block ?_ | refine G_condT rfl ?_ | refine G_condF rfl ?_ | refine G_skip ?_ | refine q_tn ?_ | refine q_bn ?_)
  refine G_reg mixed (by first | rfl | kernel_rfl) ?_
  simp (disch := omega) only [u, i64, ax, eq_self, if_true, if_false, Nat.reduceAdd, Int.reduceToNat, Int.reduceAdd, tvs, bs, hlen, hd, hmin]
  refine aft_any ?_
  repeat (first | refine G_seq ?_ | refine G_block ?_ | refine G_condT rfl ?_ | refine G_condF rfl ?_ | refine G_skip ?_ | refine q_tn ?_ | refine q_bn ?_)
  refine G_reg mixed (by first | rfl | kernel_rfl) ?_
  simp (disch := omega) only [u, i64, ax, eq_self, if_true, if_false, Nat.reduceAdd, Int.reduceToNat, Int.reduceAdd, tvs, bs, hlen, hd, hmin]
  (refine cR A1 ?_; refine sX ?_; try refine aA ?_)
  simp (disch := omega) only [u, i64, ax, eq_self, if_true, if_false, Nat.reduceAdd, Int.reduceToNat, Int.reduceAdd, tvs, bs, hlen, hd, hmin]
  (refine cR tx ?_; refine sX ?_; try refine aA ?_)
  (refine cR A2 ?_; refine sX ?_; try refine aA ?_)
  (refine cR hAd ?_; refine sX ?_; try refine aA ?_)
  repeat (first | refine G_seq ?_ | refine G_block ?_ | refine G_condT rfl ?_ | refine G_condF rfl ?_ | refine G_skip ?_ | refine q_tn ?_ | refine q_bn ?_)
  refine G_reg mixed (by first | rfl | kernel_rfl) ?_
  simp (disch := omega) only [u, i64, ax, eq_self, if_true, if_false, Nat.reduceAdd, Int.reduceToNat, Int.reduceAdd, tvs, bs, hlen, hd, hmin]
  refine aft_any ?_
  repeat (first | refine G_seq ?_ | refine G_block ?_ | refine G_condT rfl ?_ | refine G_condF rfl ?_ | refine G_skip ?_ | refine q_tn ?_ | refine q_bn ?_)
  refine G_reg mixed (by first | rfl | kernel_rfl) ?_
  simp (disch := omega) only [u, i64, ax, eq_self, if_true, if_false, Nat.reduceAdd, Int.reduceToNat, Int.reduceAdd, tvs, bs, hlen, hd, hmin]
  (refine cR D1 ?_; refine sX ?_; try refine aA ?_)
  repeat (first | refine G_seq ?_ | refine G_block ?_ | refine G_condT rfl ?_ | refine G_condF rfl ?_ | refine G_skip ?_ | refine q_tn ?_ | refine q_bn ?_)
  refine G_reg mixed (by first | rfl | kernel_rfl) ?_
  simp (disch := omega) only [u, i64, ax, eq_self, if_true, if_false, Nat.reduceAdd, Int.reduceToNat, Int.reduceAdd, tvs, bs, hlen, hd, hmin]
  refine aft_any ?_
  repeat (first | refine G_seq ?_ | refine G_block ?_ | refine G_condT rfl ?_ | refine G_condF rfl ?_ | refine G_skip ?_ | refine q_tn ?_ | refine q_bn ?_)
  refine G_reg mixed (by first | rfl | kernel_rfl) ?_
  simp (disch := omega) only [u, i64, ax, eq_self, if_true, if_false, Nat.reduceAdd, Int.reduceToNat, Int.reduceAdd, tvs, bs, hlen, hd, hmin]
  (refine cR hX ?_; refine sX ?_; try refine aA ?_)
  (refine cR hI ?_; refine sX ?_; try refine aA ?_)
  repeat (first | refine G_seq ?_ | refine G_block ?_ | refine G_condT rfl ?_ | refine G_condF rfl ?_ | refine G_skip ?_ | refine q_tn ?_ | refine q_bn ?_)
  repeat (first | (refine gC ?_; first | refine aA ?_ | (refine cR hW ?_; refine sX ?_; try refine aA ?_)) | (refine cR hW ?_; refine sX ?_; try refine aA ?_) | refine gS ?_)
  (refine FinQ hQ (congrArg Array.toList Tryd.results7) _ _ ?_); simp (disch := omega) only [u, i64, ax, if_true, forall_const, reduceCtorEq, implies_true, tvs, bf]
end Go.Proofs
