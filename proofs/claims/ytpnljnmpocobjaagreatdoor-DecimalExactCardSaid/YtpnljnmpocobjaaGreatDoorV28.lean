/-
  Contracts of functions of the program, each proved by a walk.
-/
import Derived.Test.YtpnljnmpocobjaaGreatDoorX17
import Derived.Test.YtpnljnmpocobjaaGreatDoorX26
import Derived.Test.YtpnljnmpocobjaaGreatDoorX27
set_option maxRecDepth 100000
set_option linter.unusedVariables false
set_option linter.unusedSimpArgs false
set_option maxHeartbeats 1000000
namespace Go.Proofs
open Go.Ax
end Go.Proofs
set_option linter.unusedVariables false
set_option linter.unusedSimpArgs false
set_option maxRecDepth 100000
set_option maxHeartbeats 1000000
namespace Go.Proofs
open Go.Ax
/-- Of the type. -/
structure DI.pra (d : DI) : Prop where
  k1 : -9223372036854775808 ≤ d.k
  k2 : d.k < 9223372036854775808
  e1 : -9223372036854775808 ≤ d.e
  e2 : d.e < 9223372036854775808
  wd : Wd d.cs
  len : d.cs.length ≤ 9223372036854775807
theorem DI.pra.ok {d : DI} (h : d.pra) (hl : d.cs.length ≤ 40) : d.ok := ⟨h.k1, h.k2, h.e1, h.e2, h.wd, hl⟩
end Go.Proofs
set_option linter.unusedVariables false
set_option linter.unusedSimpArgs false
set_option maxRecDepth 100000
set_option maxHeartbeats 1000000
namespace Go.Proofs
open Go.Ax
end Go.Proofs
set_option linter.unusedVariables false
set_option linter.unusedSimpArgs false
set_option maxRecDepth 100000
set_option maxHeartbeats 1000000
namespace Go.Proofs
open Go.Ax
set_option maxHeartbeats 8000000 in
theorem ret_Check22_3 (p : Nat) (g : Int) (r : Nat) (hp : 1 ≤ p ∧ p ≤ 400) (hg : 1 ≤ g ∧ g ≤ 6000) (hr : r ≤ 4) (d c b : DI) (h1 : d.ok) (h2 : c.ok) (h3 : b.ok) :
    Ret Tryz.prog GEs 122 [cx p g r, .lst 3 [i64 d.k, .bool d.neg, ws d.cs, i64 d.e, i64 c.k, .bool c.neg, ws c.cs, i64 c.e, i64 b.k, .bool b.neg, ws b.cs, i64 b.e]] (i64 (if d.okIn p g ∧ c.okIn p g ∧ b.okIn p g then 0 else 221)) := by
  have hR := ret_Right22 p g r (by omega) (by omega)
  rw [decT (show okC p g r from ⟨by omega, hg, by omega⟩)] at hR
  have l1 := ret_rLarge d.cs (by have := h1.len; omega)
  rw [decF (show ¬ 4096 < d.cs.length by have := h1.len; omega)] at l1
  have o1 := one_of22 p g r hp hg d h1
  have l2 := ret_rLarge c.cs (by have := h2.len; omega)
  rw [decF (show ¬ 4096 < c.cs.length by have := h2.len; omega)] at l2
  have o2 := one_of22 p g r hp hg c h2
  have l3 := ret_rLarge b.cs (by have := h3.len; omega)
  rw [decF (show ¬ 4096 < b.cs.length by have := h3.len; omega)] at l3
  have o3 := one_of22 p g r hp hg b h3
  obtain ⟨k1, n1, c1, e1⟩ := d
  obtain ⟨k2, n2, c2, e2⟩ := c
  obtain ⟨k3, n3, c3, e3⟩ := b
  simp only at *
  unfold cx at *
  rcases o1 with ⟨g1, a1⟩ | ⟨g1, a1, b1⟩
  · skip
    rw [if_neg (show ¬ (DI.okIn p g ⟨k1, n1, c1, e1⟩ ∧ DI.okIn p g ⟨k2, n2, c2, e2⟩ ∧ DI.okIn p g ⟨k3, n3, c3, e3⟩) from fun h => g1 h.1.1)]
    refine RetN_start Tryz.func122 (by kernel_rfl) rfl fun Q hQ hQ2 => ?_; rw [Tryz.ntmps122]; simp only [u, i64, Nat.reduceSub, Nat.reduceAdd, bm]
    (refine gO ?_)
    refine G_loop ?_
    refine G_round ?_
    repeat (first | (refine gC ?_; first | refine aA ?_ | (refine cR l1 ?_; refine sX ?_; try refine aA ?_)) | (refine cR l1 ?_; refine sX ?_; try refine aA ?_) | refine gS ?_)
    refine G_round ?_
    repeat (first | (refine gC ?_; first | refine aA ?_ | (refine cR l2 ?_; refine sX ?_; try refine aA ?_)) | (refine cR l2 ?_; refine sX ?_; try refine aA ?_) | refine gS ?_)
    refine G_round ?_
    repeat (first | (refine gC ?_; first | refine aA ?_ | (refine cR l3 ?_; refine sX ?_; try refine aA ?_)) | (refine cR l3 ?_; refine sX ?_; try refine aA ?_) | refine gS ?_)
    refine G_round ?_
    repeat (first | (refine gC ?_; first | refine aA ?_ | (refine cR hR ?_; refine sX ?_; try refine aA ?_)) | (refine cR hR ?_; refine sX ?_; try refine aA ?_) | refine gS ?_)
    refine G_loop ?_
    refine G_round ?_
    repeat (first | (refine gC ?_; first | refine aA ?_ | (refine cR a1 ?_; refine sX ?_; try refine aA ?_)) | (refine cR a1 ?_; refine sX ?_; try refine aA ?_) | refine gS ?_)
    (refine FinQ hQ (congrArg Array.toList Tryz.results122) _ _ ?_); simp (disch := omega) only [u, i64, ax, if_true, forall_const, reduceCtorEq, implies_true, tvs, bf]
  · by_cases q1 : inD p g (DI.D ⟨k1, n1, c1, e1⟩)
    · rw [decT q1] at b1
      rcases o2 with ⟨g2, a2⟩ | ⟨g2, a2, b2⟩
      · skip
        rw [if_neg (show ¬ (DI.okIn p g ⟨k1, n1, c1, e1⟩ ∧ DI.okIn p g ⟨k2, n2, c2, e2⟩ ∧ DI.okIn p g ⟨k3, n3, c3, e3⟩) from fun h => g2 h.2.1.1)]
        refine RetN_start Tryz.func122 (by kernel_rfl) rfl fun Q hQ hQ2 => ?_; rw [Tryz.ntmps122]; simp only [u, i64, Nat.reduceSub, Nat.reduceAdd, bm]
        (refine gO ?_)
        refine G_loop ?_
        refine G_round ?_
        repeat (first | (refine gC ?_; first | refine aA ?_ | (refine cR l1 ?_; refine sX ?_; try refine aA ?_)) | (refine cR l1 ?_; refine sX ?_; try refine aA ?_) | refine gS ?_)
        refine G_round ?_
        repeat (first | (refine gC ?_; first | refine aA ?_ | (refine cR l2 ?_; refine sX ?_; try refine aA ?_)) | (refine cR l2 ?_; refine sX ?_; try refine aA ?_) | refine gS ?_)
        refine G_round ?_
        repeat (first | (refine gC ?_; first | refine aA ?_ | (refine cR l3 ?_; refine sX ?_; try refine aA ?_)) | (refine cR l3 ?_; refine sX ?_; try refine aA ?_) | refine gS ?_)
        refine G_round ?_
        repeat (first | (refine gC ?_; first | refine aA ?_ | (refine cR hR ?_; refine sX ?_; try refine aA ?_)) | (refine cR hR ?_; refine sX ?_; try refine aA ?_) | refine gS ?_)
        refine G_loop ?_
        refine G_round ?_
        repeat (first | (refine gC ?_; first | refine aA ?_ | ((first | refine cR a1 ?_ | refine cR b1 ?_); refine sX ?_; try refine aA ?_)) | ((first | refine cR a1 ?_ | refine cR b1 ?_); refine sX ?_; try refine aA ?_) | refine gS ?_)
        refine G_round ?_
        repeat (first | (refine gC ?_; first | refine aA ?_ | (refine cR a2 ?_; refine sX ?_; try refine aA ?_)) | (refine cR a2 ?_; refine sX ?_; try refine aA ?_) | refine gS ?_)
        (refine FinQ hQ (congrArg Array.toList Tryz.results122) _ _ ?_); simp (disch := omega) only [u, i64, ax, if_true, forall_const, reduceCtorEq, implies_true, tvs, bf]
      · by_cases q2 : inD p g (DI.D ⟨k2, n2, c2, e2⟩)
        · rw [decT q2] at b2
          rcases o3 with ⟨g3, a3⟩ | ⟨g3, a3, b3⟩
          · skip
            rw [if_neg (show ¬ (DI.okIn p g ⟨k1, n1, c1, e1⟩ ∧ DI.okIn p g ⟨k2, n2, c2, e2⟩ ∧ DI.okIn p g ⟨k3, n3, c3, e3⟩) from fun h => g3 h.2.2.1)]
            refine RetN_start Tryz.func122 (by kernel_rfl) rfl fun Q hQ hQ2 => ?_; rw [Tryz.ntmps122]; simp only [u, i64, Nat.reduceSub, Nat.reduceAdd, bm]
            (refine gO ?_)
            refine G_loop ?_
            refine G_round ?_
            repeat (first | (refine gC ?_; first | refine aA ?_ | (refine cR l1 ?_; refine sX ?_; try refine aA ?_)) | (refine cR l1 ?_; refine sX ?_; try refine aA ?_) | refine gS ?_)
            refine G_round ?_
            repeat (first | (refine gC ?_; first | refine aA ?_ | (refine cR l2 ?_; refine sX ?_; try refine aA ?_)) | (refine cR l2 ?_; refine sX ?_; try refine aA ?_) | refine gS ?_)
            refine G_round ?_
            repeat (first | (refine gC ?_; first | refine aA ?_ | (refine cR l3 ?_; refine sX ?_; try refine aA ?_)) | (refine cR l3 ?_; refine sX ?_; try refine aA ?_) | refine gS ?_)
            refine G_round ?_
            repeat (first | (refine gC ?_; first | refine aA ?_ | (refine cR hR ?_; refine sX ?_; try refine aA ?_)) | (refine cR hR ?_; refine sX ?_; try refine aA ?_) | refine gS ?_)
            refine G_loop ?_
            refine G_round ?_
            repeat (first | (refine gC ?_; first | refine aA ?_ | ((first | refine cR a1 ?_ | refine cR b1 ?_); refine sX ?_; try refine aA ?_)) | ((first | refine cR a1 ?_ | refine cR b1 ?_); refine sX ?_; try refine aA ?_) | refine gS ?_)
            refine G_round ?_
            repeat (first | (refine gC ?_; first | refine aA ?_ | ((first | refine cR a2 ?_ | refine cR b2 ?_); refine sX ?_; try refine aA ?_)) | ((first | refine cR a2 ?_ | refine cR b2 ?_); refine sX ?_; try refine aA ?_) | refine gS ?_)
            refine G_round ?_
            repeat (first | (refine gC ?_; first | refine aA ?_ | (refine cR a3 ?_; refine sX ?_; try refine aA ?_)) | (refine cR a3 ?_; refine sX ?_; try refine aA ?_) | refine gS ?_)
            (refine FinQ hQ (congrArg Array.toList Tryz.results122) _ _ ?_); simp (disch := omega) only [u, i64, ax, if_true, forall_const, reduceCtorEq, implies_true, tvs, bf]
          · by_cases q3 : inD p g (DI.D ⟨k3, n3, c3, e3⟩)
            · rw [decT q3] at b3
              rw [if_pos (show DI.okIn p g ⟨k1, n1, c1, e1⟩ ∧ DI.okIn p g ⟨k2, n2, c2, e2⟩ ∧ DI.okIn p g ⟨k3, n3, c3, e3⟩ from ⟨⟨g1, q1⟩, ⟨g2, q2⟩, ⟨g3, q3⟩⟩)]
              refine RetN_start Tryz.func122 (by kernel_rfl) rfl fun Q hQ hQ2 => ?_; rw [Tryz.ntmps122]; simp only [u, i64, Nat.reduceSub, Nat.reduceAdd, bm]
              (refine gO ?_)
              refine G_loop ?_
              refine G_round ?_
              repeat (first | (refine gC ?_; first | refine aA ?_ | (refine cR l1 ?_; refine sX ?_; try refine aA ?_)) | (refine cR l1 ?_; refine sX ?_; try refine aA ?_) | refine gS ?_)
              refine G_round ?_
              repeat (first | (refine gC ?_; first | refine aA ?_ | (refine cR l2 ?_; refine sX ?_; try refine aA ?_)) | (refine cR l2 ?_; refine sX ?_; try refine aA ?_) | refine gS ?_)
              refine G_round ?_
              repeat (first | (refine gC ?_; first | refine aA ?_ | (refine cR l3 ?_; refine sX ?_; try refine aA ?_)) | (refine cR l3 ?_; refine sX ?_; try refine aA ?_) | refine gS ?_)
              refine G_round ?_
              repeat (first | (refine gC ?_; first | refine aA ?_ | (refine cR hR ?_; refine sX ?_; try refine aA ?_)) | (refine cR hR ?_; refine sX ?_; try refine aA ?_) | refine gS ?_)
              refine G_loop ?_
              refine G_round ?_
              repeat (first | (refine gC ?_; first | refine aA ?_ | ((first | refine cR a1 ?_ | refine cR b1 ?_); refine sX ?_; try refine aA ?_)) | ((first | refine cR a1 ?_ | refine cR b1 ?_); refine sX ?_; try refine aA ?_) | refine gS ?_)
              refine G_round ?_
              repeat (first | (refine gC ?_; first | refine aA ?_ | ((first | refine cR a2 ?_ | refine cR b2 ?_); refine sX ?_; try refine aA ?_)) | ((first | refine cR a2 ?_ | refine cR b2 ?_); refine sX ?_; try refine aA ?_) | refine gS ?_)
              refine G_round ?_
              repeat (first | (refine gC ?_; first | refine aA ?_ | ((first | refine cR a3 ?_ | refine cR b3 ?_); refine sX ?_; try refine aA ?_)) | ((first | refine cR a3 ?_ | refine cR b3 ?_); refine sX ?_; try refine aA ?_) | refine gS ?_)
              refine G_round ?_
              (refine gO ?_)
              (refine FinQ hQ (congrArg Array.toList Tryz.results122) _ _ ?_); simp (disch := omega) only [u, i64, ax, if_true, forall_const, reduceCtorEq, implies_true, tvs, bf]
            · rw [decF q3] at b3
              rw [if_neg (show ¬ (DI.okIn p g ⟨k1, n1, c1, e1⟩ ∧ DI.okIn p g ⟨k2, n2, c2, e2⟩ ∧ DI.okIn p g ⟨k3, n3, c3, e3⟩) from fun h => q3 h.2.2.2)]
              refine RetN_start Tryz.func122 (by kernel_rfl) rfl fun Q hQ hQ2 => ?_; rw [Tryz.ntmps122]; simp only [u, i64, Nat.reduceSub, Nat.reduceAdd, bm]
              (refine gO ?_)
              refine G_loop ?_
              refine G_round ?_
              repeat (first | (refine gC ?_; first | refine aA ?_ | (refine cR l1 ?_; refine sX ?_; try refine aA ?_)) | (refine cR l1 ?_; refine sX ?_; try refine aA ?_) | refine gS ?_)
              refine G_round ?_
              repeat (first | (refine gC ?_; first | refine aA ?_ | (refine cR l2 ?_; refine sX ?_; try refine aA ?_)) | (refine cR l2 ?_; refine sX ?_; try refine aA ?_) | refine gS ?_)
              refine G_round ?_
              repeat (first | (refine gC ?_; first | refine aA ?_ | (refine cR l3 ?_; refine sX ?_; try refine aA ?_)) | (refine cR l3 ?_; refine sX ?_; try refine aA ?_) | refine gS ?_)
              refine G_round ?_
              repeat (first | (refine gC ?_; first | refine aA ?_ | (refine cR hR ?_; refine sX ?_; try refine aA ?_)) | (refine cR hR ?_; refine sX ?_; try refine aA ?_) | refine gS ?_)
              refine G_loop ?_
              refine G_round ?_
              repeat (first | (refine gC ?_; first | refine aA ?_ | ((first | refine cR a1 ?_ | refine cR b1 ?_); refine sX ?_; try refine aA ?_)) | ((first | refine cR a1 ?_ | refine cR b1 ?_); refine sX ?_; try refine aA ?_) | refine gS ?_)
              refine G_round ?_
              repeat (first | (refine gC ?_; first | refine aA ?_ | ((first | refine cR a2 ?_ | refine cR b2 ?_); refine sX ?_; try refine aA ?_)) | ((first | refine cR a2 ?_ | refine cR b2 ?_); refine sX ?_; try refine aA ?_) | refine gS ?_)
              refine G_round ?_
              repeat (first | (refine gC ?_; first | refine aA ?_ | ((first | refine cR a3 ?_ | refine cR b3 ?_); refine sX ?_; try refine aA ?_)) | ((first | refine cR a3 ?_ | refine cR b3 ?_); refine sX ?_; try refine aA ?_) | refine gS ?_)
              (refine FinQ hQ (congrArg Array.toList Tryz.results122) _ _ ?_); simp (disch := omega) only [u, i64, ax, if_true, forall_const, reduceCtorEq, implies_true, tvs, bf]
        · rw [decF q2] at b2
          rw [if_neg (show ¬ (DI.okIn p g ⟨k1, n1, c1, e1⟩ ∧ DI.okIn p g ⟨k2, n2, c2, e2⟩ ∧ DI.okIn p g ⟨k3, n3, c3, e3⟩) from fun h => q2 h.2.1.2)]
          refine RetN_start Tryz.func122 (by kernel_rfl) rfl fun Q hQ hQ2 => ?_; rw [Tryz.ntmps122]; simp only [u, i64, Nat.reduceSub, Nat.reduceAdd, bm]
          (refine gO ?_)
          refine G_loop ?_
          refine G_round ?_
          repeat (first | (refine gC ?_; first | refine aA ?_ | (refine cR l1 ?_; refine sX ?_; try refine aA ?_)) | (refine cR l1 ?_; refine sX ?_; try refine aA ?_) | refine gS ?_)
          refine G_round ?_
          repeat (first | (refine gC ?_; first | refine aA ?_ | (refine cR l2 ?_; refine sX ?_; try refine aA ?_)) | (refine cR l2 ?_; refine sX ?_; try refine aA ?_) | refine gS ?_)
          refine G_round ?_
          repeat (first | (refine gC ?_; first | refine aA ?_ | (refine cR l3 ?_; refine sX ?_; try refine aA ?_)) | (refine cR l3 ?_; refine sX ?_; try refine aA ?_) | refine gS ?_)
          refine G_round ?_
          repeat (first | (refine gC ?_; first | refine aA ?_ | (refine cR hR ?_; refine sX ?_; try refine aA ?_)) | (refine cR hR ?_; refine sX ?_; try refine aA ?_) | refine gS ?_)
          refine G_loop ?_
          refine G_round ?_
          repeat (first | (refine gC ?_; first | refine aA ?_ | ((first | refine cR a1 ?_ | refine cR b1 ?_); refine sX ?_; try refine aA ?_)) | ((first | refine cR a1 ?_ | refine cR b1 ?_); refine sX ?_; try refine aA ?_) | refine gS ?_)
          refine G_round ?_
          repeat (first | (refine gC ?_; first | refine aA ?_ | ((first | refine cR a2 ?_ | refine cR b2 ?_); refine sX ?_; try refine aA ?_)) | ((first | refine cR a2 ?_ | refine cR b2 ?_); refine sX ?_; try refine aA ?_) | refine gS ?_)
          (refine FinQ hQ (congrArg Array.toList Tryz.results122) _ _ ?_); simp (disch := omega) only [u, i64, ax, if_true, forall_const, reduceCtorEq, implies_true, tvs, bf]
    · rw [decF q1] at b1
      rw [if_neg (show ¬ (DI.okIn p g ⟨k1, n1, c1, e1⟩ ∧ DI.okIn p g ⟨k2, n2, c2, e2⟩ ∧ DI.okIn p g ⟨k3, n3, c3, e3⟩) from fun h => q1 h.1.2)]
      refine RetN_start Tryz.func122 (by kernel_rfl) rfl fun Q hQ hQ2 => ?_; rw [Tryz.ntmps122]; simp only [u, i64, Nat.reduceSub, Nat.reduceAdd, bm]
      (refine gO ?_)
      refine G_loop ?_
      refine G_round ?_
      repeat (first | (refine gC ?_; first | refine aA ?_ | (refine cR l1 ?_; refine sX ?_; try refine aA ?_)) | (refine cR l1 ?_; refine sX ?_; try refine aA ?_) | refine gS ?_)
      refine G_round ?_
      repeat (first | (refine gC ?_; first | refine aA ?_ | (refine cR l2 ?_; refine sX ?_; try refine aA ?_)) | (refine cR l2 ?_; refine sX ?_; try refine aA ?_) | refine gS ?_)
      refine G_round ?_
      repeat (first | (refine gC ?_; first | refine aA ?_ | (refine cR l3 ?_; refine sX ?_; try refine aA ?_)) | (refine cR l3 ?_; refine sX ?_; try refine aA ?_) | refine gS ?_)
      refine G_round ?_
      repeat (first | (refine gC ?_; first | refine aA ?_ | (refine cR hR ?_; refine sX ?_; try refine aA ?_)) | (refine cR hR ?_; refine sX ?_; try refine aA ?_) | refine gS ?_)
      refine G_loop ?_
      refine G_round ?_
      repeat (first | (refine gC ?_; first | refine aA ?_ | ((first | refine cR a1 ?_ | refine cR b1 ?_); refine sX ?_; try refine aA ?_)) | ((first | refine cR a1 ?_ | refine cR b1 ?_); refine sX ?_; try refine aA ?_) | refine gS ?_)
      (refine FinQ hQ (congrArg Array.toList Tryz.results122) _ _ ?_); simp (disch := omega) only [u, i64, ax, if_true, forall_const, reduceCtorEq, implies_true, tvs, bf]
theorem ret_Check22b_3 (p g r : Int) (r1 : -9223372036854775808 ≤ r) (r2 : r < 9223372036854775808) (hb : ¬ okC p g r) (d c b : DI) (h1 : d.ok) (h2 : c.ok) (h3 : b.ok) :
    Ret Tryz.prog GEs 122 [cx p g r, .lst 3 [i64 d.k, .bool d.neg, ws d.cs, i64 d.e, i64 c.k, .bool c.neg, ws c.cs, i64 c.e, i64 b.k, .bool b.neg, ws b.cs, i64 b.e]] (i64 220) := by
  have hR := ret_Right22 p g r r1 r2
  rw [decF hb] at hR
  have l1 := ret_rLarge d.cs (by have := h1.len; omega)
  rw [decF (show ¬ 4096 < d.cs.length by have := h1.len; omega)] at l1
  have l2 := ret_rLarge c.cs (by have := h2.len; omega)
  rw [decF (show ¬ 4096 < c.cs.length by have := h2.len; omega)] at l2
  have l3 := ret_rLarge b.cs (by have := h3.len; omega)
  rw [decF (show ¬ 4096 < b.cs.length by have := h3.len; omega)] at l3
  clear hb
  unfold cx at *
  refine RetN_start Tryz.func122 (by kernel_rfl) rfl fun Q hQ hQ2 => ?_; rw [Tryz.ntmps122]; simp only [u, i64, Nat.reduceSub, Nat.reduceAdd, bm]
  (refine gO ?_)
  refine G_loop ?_
  refine G_round ?_
  repeat (first | (refine gC ?_; first | refine aA ?_ | (refine cR l1 ?_; refine sX ?_; try refine aA ?_)) | (refine cR l1 ?_; refine sX ?_; try refine aA ?_) | refine gS ?_)
  refine G_round ?_
  repeat (first | (refine gC ?_; first | refine aA ?_ | (refine cR l2 ?_; refine sX ?_; try refine aA ?_)) | (refine cR l2 ?_; refine sX ?_; try refine aA ?_) | refine gS ?_)
  refine G_round ?_
  repeat (first | (refine gC ?_; first | refine aA ?_ | (refine cR l3 ?_; refine sX ?_; try refine aA ?_)) | (refine cR l3 ?_; refine sX ?_; try refine aA ?_) | refine gS ?_)
  refine G_round ?_
  repeat (first | (refine gC ?_; first | refine aA ?_ | (refine cR hR ?_; refine sX ?_; try refine aA ?_)) | (refine cR hR ?_; refine sX ?_; try refine aA ?_) | refine gS ?_)
  (refine FinQ hQ (congrArg Array.toList Tryz.results122) _ _ ?_); simp (disch := omega) only [u, i64, ax, if_true, forall_const, reduceCtorEq, implies_true, tvs, bf]
end Go.Proofs
set_option linter.unusedVariables false
set_option linter.unusedSimpArgs false
set_option maxRecDepth 100000
set_option maxHeartbeats 1000000
namespace Go.Proofs
open Go.Ax
end Go.Proofs
