/-
  Contracts of functions of the program, each proved by a walk.
-/
import Derived.Test.YtpnljnmpocobjaaGreatDoorX17
import Derived.Test.YtpnljnmpocobjaaGreatDoorX26
import Derived.Test.YtpnljnmpocobjaaGreatDoorX27
set_option maxRecDepth 100000
set_option linter.unusedVariables false
set_option linter.unusedSimpArgs false
set_option maxHeartbeats 1000000
namespace Go.Proofs
open Go.Ax
set_option maxRecDepth 100000 in
set_option maxHeartbeats 4000000 in
theorem ret_DPlus (p : Nat) (g : Int) (r : Nat) (hp : 1 ≤ p ∧ p ≤ 400) (hg : 1 ≤ g ∧ g ≤ 6000) (hr : r ≤ 4) (d : DI) (h : d.ok) :
    Ret Tryz.prog GEs 54 [cx p g r, d.av] (if d.good then .tup [dv (plusD p g r d.D).1, i64 (plusD p g r d.D).2, i64 0] else .tup [dv zD, i64 0, i64 221]) := by
  have hK := ret_DCheck p g r (by omega) (by omega)
  rw [if_pos (show okC p g r from ⟨by omega, hg, by omega⟩)] at hK
  obtain ⟨k', n', v', e', hC, hE⟩ := ret_dcanonical d.k d.neg d.cs d.e h.k1 h.k2 h.e1 h.e2 h.wd (Nat.le_trans h.len (by decide))
  have hl := d.len_le h
  have hlen := h.len
  by_cases hg' : d.good
  · obtain ⟨rfl, rfl, rfl, rfl⟩ := hE hg'
    have hgg : goodD d.k d.neg (val d.cs) d.e := hg'
    rw [decT hgg] at hC
    rw [if_pos hg']
    obtain ⟨q1, q2, q3⟩ := goodD_right hgg
    have hk : ((d.D.kind : Nat) : Int) = d.k := by show ((d.k.toNat : Nat) : Int) = d.k; omega
    have hb : d.k = 0 → -1000000 ≤ d.e ∧ d.e ≤ 1000000 := fun h0 => by unfold goodD at hgg; omega
    have hD : d.D = ⟨d.k.toNat, d.neg, val d.cs, d.e⟩ := rfl
    unfold plusD
    by_cases k0 : d.k = 0
    · have hF := ret_dFinish p g r d.neg (val d.cs) d.e d.e hp hg hr (by have : (words (val d.cs)).length ≤ 40 := hl; omega) (by have := hb k0; omega) (by have := hb k0; omega)
      rw [if_pos (show d.D.kind = 0 by omega)]
      rw [show d.D.neg = d.neg from rfl, show d.D.coef = val d.cs from rfl, show d.D.exp = d.e from rfl]
      clear hb hgg hE q1 hD hk
      unfold DI.av
      generalize d.k = dk at *
      generalize d.neg = dn at *
      generalize val d.cs = v at *
      generalize d.e = de at *
      generalize finD0 p g r dn v de de = z at *
      unfold dv cx at *
      refine RetN_start Tryz.func54 (by kernel_rfl) rfl fun Q hQ hQ2 => ?_; rw [Tryz.ntmps54]; simp only [u, i64, Nat.reduceSub, Nat.reduceAdd, bm]
      repeat (first | (refine gC ?_; first | refine aA ?_ | ((first | refine cR hK ?_ | refine cR hC ?_ | refine cR hF ?_); refine sX ?_; try refine aA ?_)) | ((first | refine cR hK ?_ | refine cR hC ?_ | refine cR hF ?_); refine sX ?_; try refine aA ?_) | refine gS ?_)
      (refine FinQ hQ (congrArg Array.toList Tryz.results54) _ _ ?_); simp (disch := omega) only [u, i64, ax, if_true, forall_const, reduceCtorEq, implies_true, tvs, bf]
      all_goals rfl
    · rw [if_neg (show ¬ d.D.kind = 0 by omega)]
      rw [DI.dv_eq hg']
      clear hb hgg hE q1 hD hk
      unfold DI.av
      generalize d.k = dk at *
      generalize d.neg = dn at *
      generalize val d.cs = v at *
      generalize d.e = de at *
      unfold cx at *
      refine RetN_start Tryz.func54 (by kernel_rfl) rfl fun Q hQ hQ2 => ?_; rw [Tryz.ntmps54]; simp only [u, i64, Nat.reduceSub, Nat.reduceAdd, bm]
      repeat (first | (refine gC ?_; first | refine aA ?_ | ((first | refine cR hK ?_ | refine cR hC ?_); refine sX ?_; try refine aA ?_)) | ((first | refine cR hK ?_ | refine cR hC ?_); refine sX ?_; try refine aA ?_) | refine gS ?_)
      (refine FinQ hQ (congrArg Array.toList Tryz.results54) _ _ ?_); simp (disch := omega) only [u, i64, ax, if_true, forall_const, reduceCtorEq, implies_true, tvs, bf]
      all_goals rfl
  · have hgg : ¬ goodD d.k d.neg (val d.cs) d.e := hg'
    rw [decF hgg] at hC
    rw [if_neg hg', dvz]
    clear hE hgg
    unfold DI.av cx at *
    refine RetN_start Tryz.func54 (by kernel_rfl) rfl fun Q hQ hQ2 => ?_; rw [Tryz.ntmps54]; simp only [u, i64, Nat.reduceSub, Nat.reduceAdd, bm]
    repeat (first | (refine gC ?_; first | refine aA ?_ | ((first | refine cR hK ?_ | refine cR hC ?_); refine sX ?_; try refine aA ?_)) | ((first | refine cR hK ?_ | refine cR hC ?_); refine sX ?_; try refine aA ?_) | refine gS ?_)
    (refine FinQ hQ (congrArg Array.toList Tryz.results54) _ _ ?_); simp (disch := omega) only [u, i64, ax, if_true, forall_const, reduceCtorEq, implies_true, tvs, bf]
    all_goals rfl
end Go.Proofs
set_option linter.unusedVariables false
set_option linter.unusedSimpArgs false
set_option maxRecDepth 100000
set_option maxHeartbeats 1000000
namespace Go.Proofs
open Go.Ax
/-- Of the type. -/
structure DI.pra (d : DI) : Prop where
  k1 : -9223372036854775808 ≤ d.k
  k2 : d.k < 9223372036854775808
  e1 : -9223372036854775808 ≤ d.e
  e2 : d.e < 9223372036854775808
  wd : Wd d.cs
  len : d.cs.length ≤ 9223372036854775807
theorem DI.pra.ok {d : DI} (h : d.pra) (hl : d.cs.length ≤ 40) : d.ok := ⟨h.k1, h.k2, h.e1, h.e2, h.wd, hl⟩
theorem FitsErz (w : Nat) (hw : w ≠ 0) (hw2 : w < 1000) : Ret Tryz.prog GEs 46 [.agg [i64 0, .bool false, .lst 0 [], i64 0], i64 0, i64 w, .agg [i64 0, .bool false, .emp, i64 0], i64 0, i64 w] (.bool true) :=
  Ret_nil (ret_FitsErr w hw hw2) rfl
theorem in_len2 {p : Nat} {g : Int} {x : DV} (hp : p ≤ 400) (hr : rightD x) (h : inD p g x) : (words x.coef).length ≤ 100000 := by
  have hb := bl_le_dg x.coef
  rcases h with h | h | h
  · have h0 : x.coef = 0 := by
      rcases hr with hr | hr | hr
      · exact absurd hr.1 h
      · exact hr.2.2
      · exact hr.2.2.2
    rw [h0]; decide
  · rw [h.1]; decide
  · exact Nat.le_trans (length_bl (k := 25) (by omega)) (by decide)
theorem plusD_in (p : Nat) (g : Int) (r : Nat) (x : DV) (hp : 1 ≤ p ∧ p ≤ 400) (hg : 1 ≤ g ∧ g ≤ 6000) (hx : rightD x) : rightD (plusD p g r x).1 ∧ inD p g (plusD p g r x).1 := by
  unfold plusD
  split
  · exact finD0_in p g r _ _ _ _ hp.1 hp.2 hg.1 hg.2
  · rename_i h; exact ⟨hx, .inl h⟩
set_option maxHeartbeats 8000000 in
theorem ret_LawDecimalPlus (p g r : Int) (r1 : -9223372036854775808 ≤ r) (r2 : r < 9223372036854775808) (d : DI) (hd : d.pra) : Ret Tryz.prog GEs 11 [cx p g r, d.av] (.bool true) := by
  have hS := ret_Short1 d hd.len
  by_cases hs : d.cs.length ≤ 40
  · rw [decT hs] at hS
    have h1 := hd.ok hs
    have hT := ret_TheirD d.k d.e d.neg d.cs
    have hX := ret_Ctx p g r
    by_cases hC : okC p g r
    · obtain ⟨hp, hg, hr⟩ := hC
      obtain ⟨p, rfl⟩ := Int.eq_ofNat_of_zero_le (show 0 ≤ p by omega)
      obtain ⟨r, rfl⟩ := Int.eq_ofNat_of_zero_le (show 0 ≤ r by omega)
      have hR := ret_DPlus p g r (by omega) hg (by omega) d h1
      have hA := ret_Args22_0 p g r _ (ret_Check22_0 p g r (by omega) hg (by omega))
      have hG := ret_Good22 d.k d.e d.neg d.cs h1.k1 h1.k2 h1.e1 h1.e2 h1.wd (by omega)
      by_cases hb : d.good
      · rw [if_pos hb] at hR
        rw [decT (show goodD d.k d.neg (val d.cs) d.e from hb)] at hG
        have rd := (goodD_right hb).1
        have h22 := ret_Plus22 p g r (by omega) hg (by omega) d.k d.e d.neg d.cs (goodD_right hb).2 h1.wd (by omega) (by have := hb; unfold DI.good goodD at this; omega)
        rw [show mkD d.k d.neg (val d.cs) d.e = d.D from rfl] at h22
        obtain ⟨i1, i2⟩ := plusD_in p g r d.D (by omega) hg rd
        have hF := ret_FitsOk (plusD p g r d.D).1 (plusD p g r d.D).2 (in_len2 (by omega) i1 i2)
        generalize plusD p g r d.D = y at *
        clear rd i1 i2 hb h1
        unfold DI.av dv cx at *
        refine RetN_start Tryz.func11 (by kernel_rfl) rfl fun Q hQ hQ2 => ?_; rw [Tryz.ntmps11]; simp only [u, i64, Nat.reduceSub, Nat.reduceAdd, bm]
        (refine gO ?_)
        (refine gC ?_)
        simp (disch := omega) only [u, i64, ax, eq_self, if_true, if_false, Nat.reduceAdd, Int.reduceToNat, Int.reduceAdd, tvs, bs, Nat.reduceMul, List.take_succ_cons, List.take_zero, List.nil_append, List.cons_append, List.append_nil, Nat.reduceLeDiff]
        repeat (first | (refine gC ?_; first | refine aA ?_ | ((first | refine cR hS ?_ | refine cR hR ?_ | refine cR hA ?_ | refine cR hT ?_ | refine cR hG ?_ | refine cR hX ?_ | refine cR h22 ?_ | refine cR hF ?_ | refine cR ret_awake22 ?_); refine sX ?_; try refine aA ?_)) | ((first | refine cR hS ?_ | refine cR hR ?_ | refine cR hA ?_ | refine cR hT ?_ | refine cR hG ?_ | refine cR hX ?_ | refine cR h22 ?_ | refine cR hF ?_ | refine cR ret_awake22 ?_); refine sX ?_; try refine aA ?_) | refine gS ?_)
        (refine FinQ hQ (congrArg Array.toList Tryz.results11) _ _ ?_); simp (disch := omega) only [u, i64, ax, if_true, forall_const, reduceCtorEq, implies_true, tvs, bf]
      · rw [if_neg hb, dvz] at hR
        rw [decF (show ¬ goodD d.k d.neg (val d.cs) d.e from hb)] at hG
        have hF := FitsErz 221 (by decide) (by decide)
        clear hb h1
        unfold DI.av cx at *
        refine RetN_start Tryz.func11 (by kernel_rfl) rfl fun Q hQ hQ2 => ?_; rw [Tryz.ntmps11]; simp only [u, i64, Nat.reduceSub, Nat.reduceAdd, bm]
        (refine gO ?_)
        (refine gC ?_)
        simp (disch := omega) only [u, i64, ax, eq_self, if_true, if_false, Nat.reduceAdd, Int.reduceToNat, Int.reduceAdd, tvs, bs, Nat.reduceMul, List.take_succ_cons, List.take_zero, List.nil_append, List.cons_append, List.append_nil, Nat.reduceLeDiff]
        repeat (first | (refine gC ?_; first | refine aA ?_ | ((first | refine cR hS ?_ | refine cR hR ?_ | refine cR hA ?_ | refine cR hT ?_ | refine cR hG ?_ | refine cR hF ?_ | refine cR ret_awake22 ?_); refine sX ?_; try refine aA ?_)) | ((first | refine cR hS ?_ | refine cR hR ?_ | refine cR hA ?_ | refine cR hT ?_ | refine cR hG ?_ | refine cR hF ?_ | refine cR ret_awake22 ?_); refine sX ?_; try refine aA ?_) | refine gS ?_)
        (refine FinQ hQ (congrArg Array.toList Tryz.results11) _ _ ?_); simp (disch := omega) only [u, i64, ax, if_true, forall_const, reduceCtorEq, implies_true, tvs, bf]
    · have hR := ret_DPlusB p g r r1 r2 hC d h1
      have hA := ret_Args22_0 p g r _ (ret_Check22b_0 p g r r1 r2 hC)
      have hF := FitsErz 220 (by decide) (by decide)
      rw [dvz] at hR
      clear hC h1
      unfold DI.av cx at *
      refine RetN_start Tryz.func11 (by kernel_rfl) rfl fun Q hQ hQ2 => ?_; rw [Tryz.ntmps11]; simp only [u, i64, Nat.reduceSub, Nat.reduceAdd, bm]
      (refine gO ?_)
      (refine gC ?_)
      simp (disch := omega) only [u, i64, ax, eq_self, if_true, if_false, Nat.reduceAdd, Int.reduceToNat, Int.reduceAdd, tvs, bs, Nat.reduceMul, List.take_succ_cons, List.take_zero, List.nil_append, List.cons_append, List.append_nil, Nat.reduceLeDiff]
      repeat (first | (refine gC ?_; first | refine aA ?_ | ((first | refine cR hS ?_ | refine cR hR ?_ | refine cR hA ?_ | refine cR hF ?_ | refine cR ret_awake22 ?_); refine sX ?_; try refine aA ?_)) | ((first | refine cR hS ?_ | refine cR hR ?_ | refine cR hA ?_ | refine cR hF ?_ | refine cR ret_awake22 ?_); refine sX ?_; try refine aA ?_) | refine gS ?_)
      (refine FinQ hQ (congrArg Array.toList Tryz.results11) _ _ ?_); simp (disch := omega) only [u, i64, ax, if_true, forall_const, reduceCtorEq, implies_true, tvs, bf]
  · rw [decF hs] at hS
    unfold DI.av cx at *
    refine RetN_start Tryz.func11 (by kernel_rfl) rfl fun Q hQ hQ2 => ?_; rw [Tryz.ntmps11]; simp only [u, i64, Nat.reduceSub, Nat.reduceAdd, bm]
    (refine gO ?_)
    (refine gC ?_)
    simp (disch := omega) only [u, i64, ax, eq_self, if_true, if_false, Nat.reduceAdd, Int.reduceToNat, Int.reduceAdd, tvs, bs, Nat.reduceMul, List.take_succ_cons, List.take_zero, List.nil_append, List.cons_append, List.append_nil, Nat.reduceLeDiff]
    repeat (first | (refine gC ?_; first | refine aA ?_ | ((first | refine cR hS ?_ | refine cR ret_awake22 ?_); refine sX ?_; try refine aA ?_)) | ((first | refine cR hS ?_ | refine cR ret_awake22 ?_); refine sX ?_; try refine aA ?_) | refine gS ?_)
    (refine FinQ hQ (congrArg Array.toList Tryz.results11) _ _ ?_); simp (disch := omega) only [u, i64, ax, if_true, forall_const, reduceCtorEq, implies_true, tvs, bf]
theorem addD_in2 (p : Nat) (g : Int) (r : Nat) (x y : DV) (hp : 1 ≤ p ∧ p ≤ 400) (hg : 1 ≤ g ∧ g ≤ 6000) (hx : x.kind ≠ 0 → rightD x) (hy : y.kind ≠ 0 → rightD y) : rightD (addD p g r x y).1 ∧ inD p g (addD p g r x y).1 := by
  have hn : rightD nanD ∧ inD p g nanD := ⟨.inr (.inr ⟨rfl, rfl, rfl, rfl⟩), .inl (by show 2 ≠ 0; decide)⟩
  unfold addD
  split
  · exact hn
  · split
    · exact hn
    · split
      · rename_i h; exact ⟨hx (by omega), .inl (by show x.kind ≠ 0; omega)⟩
      · split
        · rename_i h; exact ⟨hy (by omega), .inl (by show y.kind ≠ 0; omega)⟩
        · exact finD0_in p g r _ _ _ _ hp.1 hp.2 hg.1 hg.2
theorem timesD_right (x y : DV) (h : (timesD x y).1.kind ≠ 0) : rightD (timesD x y).1 := by
  revert h
  unfold timesD
  split
  · exact fun _ => .inr (.inr ⟨rfl, rfl, rfl, rfl⟩)
  · split
    · exact fun _ => .inr (.inl ⟨rfl, rfl, rfl⟩)
    · exact fun h => absurd rfl h
theorem mulD_in2 (p : Nat) (g : Int) (r : Nat) (x y : DV) (hp : 1 ≤ p ∧ p ≤ 400) (hg : 1 ≤ g ∧ g ≤ 6000) : rightD (mulD p g r x y).1 ∧ inD p g (mulD p g r x y).1 := by
  have hn : rightD nanD ∧ inD p g nanD := ⟨.inr (.inr ⟨rfl, rfl, rfl, rfl⟩), .inl (by show 2 ≠ 0; decide)⟩
  unfold mulD
  split
  · unfold plusD
    split
    · exact finD0_in p g r _ _ _ _ hp.1 hp.2 hg.1 hg.2
    · rename_i h1 h2
      exact ⟨timesD_right x y h2, .inl h2⟩
  · exact hn
theorem fusedD_in (p : Nat) (g : Int) (r : Nat) (x y z : DV) (hp : 1 ≤ p ∧ p ≤ 400) (hg : 1 ≤ g ∧ g ≤ 6000) (hz : rightD z) : rightD (fusedD p g r x y z).1 ∧ inD p g (fusedD p g r x y z).1 := by
  have hn : rightD nanD ∧ inD p g nanD := ⟨.inr (.inr ⟨rfl, rfl, rfl, rfl⟩), .inl (by show 2 ≠ 0; decide)⟩
  unfold fusedD
  split
  · exact hn
  · split
    · exact addD_in2 p g r _ z hp hg (timesD_right x y) (fun _ => hz)
    · exact hn
theorem DI.okIn_D {p : Nat} {g : Int} {d : DI} (h : d.okIn p g) : rightD d.D ∧ (0 ≤ d.k ∧ d.k ≤ 2) := goodD_right h.1
set_option maxHeartbeats 16000000 in
theorem ret_LawDecimalMuls (p g r : Int) (r1 : -9223372036854775808 ≤ r) (r2 : r < 9223372036854775808) (d c : DI) (hd : d.pra) (hc : c.pra) : Ret Tryz.prog GEs 12 [cx p g r, d.av, c.av] (.bool true) := by
  have hS := ret_Short2 d c hd.len hc.len
  by_cases hs : d.cs.length ≤ 40 ∧ c.cs.length ≤ 40
  · rw [decT hs] at hS
    have h1 := hd.ok hs.1
    have h2 := hc.ok hs.2
    have t1 := ret_TheirD d.k d.e d.neg d.cs
    have t2 := ret_TheirD c.k c.e c.neg c.cs
    have hX := ret_Ctx p g r
    by_cases hC : okC p g r
    · obtain ⟨hp, hg, hr⟩ := hC
      obtain ⟨p, rfl⟩ := Int.eq_ofNat_of_zero_le (show 0 ≤ p by omega)
      obtain ⟨r, rfl⟩ := Int.eq_ofNat_of_zero_le (show 0 ≤ r by omega)
      have hR := ret_DMul p g r (by omega) hg (by omega) d c h1 h2
      have hA := ret_Args22_2 p g r _ d c (ret_Check22_2 p g r (by omega) hg (by omega) d c h1 h2)
      by_cases hb : d.okIn p g ∧ c.okIn p g
      · rw [if_pos hb] at hR hA
        have x1 := dexp_b (by omega) hg hb.1
        have x2 := dexp_b (by omega) hg hb.2
        have h22 := ret_Mul22 p g r (by omega) hg (by omega) d.k d.e d.neg d.cs c.k c.e c.neg c.cs (DI.okIn_D hb.1).2 (DI.okIn_D hb.2).2 h1.wd h2.wd h1.len h2.len x1 x2
        rw [show mkD d.k d.neg (val d.cs) d.e = d.D from rfl, show mkD c.k c.neg (val c.cs) c.e = c.D from rfl] at h22
        obtain ⟨i1, i2⟩ := mulD_in2 p g r d.D c.D (by omega) hg
        have hF := ret_FitsOk (mulD p g r d.D c.D).1 (mulD p g r d.D c.D).2 (in_len2 (by omega) i1 i2)
        generalize mulD p g r d.D c.D = y at *
        clear i1 i2 hb h1 h2 x1 x2
        unfold DI.av dv cx at *
        refine RetN_start Tryz.func12 (by kernel_rfl) rfl fun Q hQ hQ2 => ?_; rw [Tryz.ntmps12]; simp only [u, i64, Nat.reduceSub, Nat.reduceAdd, bm]
        (refine gO ?_)
        (refine gC ?_)
        simp (disch := omega) only [u, i64, ax, eq_self, if_true, if_false, Nat.reduceAdd, Int.reduceToNat, Int.reduceAdd, tvs, bs, Nat.reduceMul, List.take_succ_cons, List.take_zero, List.nil_append, List.cons_append, List.append_nil, Nat.reduceLeDiff]
        repeat (first | (refine gC ?_; first | refine aA ?_ | ((first | refine cR hS ?_ | refine cR hR ?_); refine sX ?_; try refine aA ?_)) | ((first | refine cR hS ?_ | refine cR hR ?_); refine sX ?_; try refine aA ?_) | refine gS ?_)
        (refine gC ?_)
        simp (disch := omega) only [u, i64, ax, eq_self, if_true, if_false, Nat.reduceAdd, Int.reduceToNat, Int.reduceAdd, tvs, bs, Nat.reduceMul, List.take_succ_cons, List.take_zero, List.nil_append, List.cons_append, List.append_nil, Nat.reduceLeDiff]
        repeat (first | (refine gC ?_; first | refine aA ?_ | (refine cR hA ?_; refine sX ?_; try refine aA ?_)) | (refine cR hA ?_; refine sX ?_; try refine aA ?_) | refine gS ?_)
        (refine gC ?_)
        (refine cR hX ?_; refine sX ?_; try refine aA ?_)
        (refine cR t1 ?_; refine sX ?_; try refine aA ?_)
        skip
        repeat (first | (refine gC ?_; first | refine aA ?_ | ((first | refine cR t2 ?_ | refine cR h22 ?_ | refine cR hF ?_ | refine cR ret_awake22 ?_); refine sX ?_; try refine aA ?_)) | ((first | refine cR t2 ?_ | refine cR h22 ?_ | refine cR hF ?_ | refine cR ret_awake22 ?_); refine sX ?_; try refine aA ?_) | refine gS ?_)
        (refine FinQ hQ (congrArg Array.toList Tryz.results12) _ _ ?_); simp (disch := omega) only [u, i64, ax, if_true, forall_const, reduceCtorEq, implies_true, tvs, bf]
      · rw [if_neg hb] at hR hA
        have hF := FitsErz 221 (by decide) (by decide)
        rw [dvz] at hR
        clear hb h1 h2
        unfold DI.av cx at *
        refine RetN_start Tryz.func12 (by kernel_rfl) rfl fun Q hQ hQ2 => ?_; rw [Tryz.ntmps12]; simp only [u, i64, Nat.reduceSub, Nat.reduceAdd, bm]
        (refine gO ?_)
        (refine gC ?_)
        simp (disch := omega) only [u, i64, ax, eq_self, if_true, if_false, Nat.reduceAdd, Int.reduceToNat, Int.reduceAdd, tvs, bs, Nat.reduceMul, List.take_succ_cons, List.take_zero, List.nil_append, List.cons_append, List.append_nil, Nat.reduceLeDiff]
        repeat (first | (refine gC ?_; first | refine aA ?_ | ((first | refine cR hS ?_ | refine cR hR ?_); refine sX ?_; try refine aA ?_)) | ((first | refine cR hS ?_ | refine cR hR ?_); refine sX ?_; try refine aA ?_) | refine gS ?_)
        (refine gC ?_)
        simp (disch := omega) only [u, i64, ax, eq_self, if_true, if_false, Nat.reduceAdd, Int.reduceToNat, Int.reduceAdd, tvs, bs, Nat.reduceMul, List.take_succ_cons, List.take_zero, List.nil_append, List.cons_append, List.append_nil, Nat.reduceLeDiff]
        repeat (first | (refine gC ?_; first | refine aA ?_ | ((first | refine cR hA ?_ | refine cR hF ?_ | refine cR ret_awake22 ?_); refine sX ?_; try refine aA ?_)) | ((first | refine cR hA ?_ | refine cR hF ?_ | refine cR ret_awake22 ?_); refine sX ?_; try refine aA ?_) | refine gS ?_)
        (refine FinQ hQ (congrArg Array.toList Tryz.results12) _ _ ?_); simp (disch := omega) only [u, i64, ax, if_true, forall_const, reduceCtorEq, implies_true, tvs, bf]
    · have hR := ret_DMulB p g r r1 r2 hC d c h1 h2
      have hA := ret_Args22_2 p g r _ d c (ret_Check22b_2 p g r r1 r2 hC d c h1 h2)
      have hF := FitsErz 220 (by decide) (by decide)
      rw [dvz] at hR
      clear hC h1 h2
      unfold DI.av cx at *
      refine RetN_start Tryz.func12 (by kernel_rfl) rfl fun Q hQ hQ2 => ?_; rw [Tryz.ntmps12]; simp only [u, i64, Nat.reduceSub, Nat.reduceAdd, bm]
      (refine gO ?_)
      (refine gC ?_)
      simp (disch := omega) only [u, i64, ax, eq_self, if_true, if_false, Nat.reduceAdd, Int.reduceToNat, Int.reduceAdd, tvs, bs, Nat.reduceMul, List.take_succ_cons, List.take_zero, List.nil_append, List.cons_append, List.append_nil, Nat.reduceLeDiff]
      repeat (first | (refine gC ?_; first | refine aA ?_ | ((first | refine cR hS ?_ | refine cR hR ?_); refine sX ?_; try refine aA ?_)) | ((first | refine cR hS ?_ | refine cR hR ?_); refine sX ?_; try refine aA ?_) | refine gS ?_)
      (refine gC ?_)
      simp (disch := omega) only [u, i64, ax, eq_self, if_true, if_false, Nat.reduceAdd, Int.reduceToNat, Int.reduceAdd, tvs, bs, Nat.reduceMul, List.take_succ_cons, List.take_zero, List.nil_append, List.cons_append, List.append_nil, Nat.reduceLeDiff]
      repeat (first | (refine gC ?_; first | refine aA ?_ | ((first | refine cR hA ?_ | refine cR hF ?_ | refine cR ret_awake22 ?_); refine sX ?_; try refine aA ?_)) | ((first | refine cR hA ?_ | refine cR hF ?_ | refine cR ret_awake22 ?_); refine sX ?_; try refine aA ?_) | refine gS ?_)
      (refine FinQ hQ (congrArg Array.toList Tryz.results12) _ _ ?_); simp (disch := omega) only [u, i64, ax, if_true, forall_const, reduceCtorEq, implies_true, tvs, bf]
  · rw [decF hs] at hS
    unfold DI.av cx at *
    refine RetN_start Tryz.func12 (by kernel_rfl) rfl fun Q hQ hQ2 => ?_; rw [Tryz.ntmps12]; simp only [u, i64, Nat.reduceSub, Nat.reduceAdd, bm]
    (refine gO ?_)
    (refine gC ?_)
    simp (disch := omega) only [u, i64, ax, eq_self, if_true, if_false, Nat.reduceAdd, Int.reduceToNat, Int.reduceAdd, tvs, bs, Nat.reduceMul, List.take_succ_cons, List.take_zero, List.nil_append, List.cons_append, List.append_nil, Nat.reduceLeDiff]
    repeat (first | (refine gC ?_; first | refine aA ?_ | ((first | refine cR hS ?_ | refine cR ret_awake22 ?_); refine sX ?_; try refine aA ?_)) | ((first | refine cR hS ?_ | refine cR ret_awake22 ?_); refine sX ?_; try refine aA ?_) | refine gS ?_)
    (refine FinQ hQ (congrArg Array.toList Tryz.results12) _ _ ?_); simp (disch := omega) only [u, i64, ax, if_true, forall_const, reduceCtorEq, implies_true, tvs, bf]
end Go.Proofs
set_option linter.unusedVariables false
set_option linter.unusedSimpArgs false
set_option maxRecDepth 100000
set_option maxHeartbeats 1000000
namespace Go.Proofs
open Go.Ax
theorem minD_mk (k e : Int) (neg : Bool) (v : Nat) (hk : 0 ≤ k ∧ k ≤ 2) : mkD k (!neg && decide (k ≠ 2)) v e = minD (mkD k neg v e) := by
  unfold minD mkD
  simp only
  have h : decide (k ≠ 2) = decide (k.toNat ≠ 2) := by rw [decide_eq_decide]; omega
  rw [h]
theorem ret_dsub1 (p : Nat) (g : Int) (r : Nat) (x y : DV) (hp : 1 ≤ p ∧ p ≤ 400) (hg : 1 ≤ g ∧ g ≤ 6000) (hr : r ≤ 4) (hx : x.kind ≤ 2) (hy : y.kind ≤ 2) (lx : (words x.coef).length ≤ 90) (ly : (words y.coef).length ≤ 90) (ex : -13000 ≤ x.exp ∧ x.exp ≤ 13000) (ey : -13000 ≤ y.exp ∧ y.exp ≤ 13000) :
    Ret Tryz.prog GEs 132 [cx p g r, dv x, dv y] (.tup [dv (addD p g r x (minD y)).1, i64 (addD p g r x (minD y)).2]) := by
  have hA := ret_dadd p g r x (minD y) hp hg hr hx (show (minD y).kind ≤ 2 from hy) lx ly ex ey
  generalize addD p g r x (minD y) = z at *
  obtain ⟨k2, n2, c2, e2⟩ := y
  unfold minD at hA
  simp only at *
  by_cases h2 : k2 = 2
  · rw [decF (show ¬ k2 ≠ 2 from fun h => h h2), Bool.and_false] at hA
    unfold dv cx at *
    simp only at *
    refine RetN_start Tryz.func132 (by kernel_rfl) rfl fun Q hQ hQ2 => ?_; rw [Tryz.ntmps132]; simp only [u, i64, Nat.reduceSub, Nat.reduceAdd, bm]
    repeat (first | (refine gC ?_; first | refine aA ?_ | (refine cR hA ?_; refine sX ?_; try refine aA ?_)) | (refine cR hA ?_; refine sX ?_; try refine aA ?_) | refine gS ?_)
    (refine FinQ hQ (congrArg Array.toList Tryz.results132) _ _ ?_); simp (disch := omega) only [u, i64, ax, if_true, forall_const, reduceCtorEq, implies_true, tvs, bf]
    all_goals rfl
  · rw [decT h2, Bool.and_true] at hA
    unfold dv cx at *
    simp only at *
    refine RetN_start Tryz.func132 (by kernel_rfl) rfl fun Q hQ hQ2 => ?_; rw [Tryz.ntmps132]; simp only [u, i64, Nat.reduceSub, Nat.reduceAdd, bm]
    repeat (first | (refine gC ?_; first | refine aA ?_ | (refine cR hA ?_; refine sX ?_; try refine aA ?_)) | (refine cR hA ?_; refine sX ?_; try refine aA ?_) | refine gS ?_)
    (refine FinQ hQ (congrArg Array.toList Tryz.results132) _ _ ?_); simp (disch := omega) only [u, i64, ax, if_true, forall_const, reduceCtorEq, implies_true, tvs, bf]
    all_goals rfl
theorem ret_DSub (p : Nat) (g : Int) (r : Nat) (hp : 1 ≤ p ∧ p ≤ 400) (hg : 1 ≤ g ∧ g ≤ 6000) (hr : r ≤ 4) (d c : DI) (h1 : d.ok) (h2 : c.ok) :
    Ret Tryz.prog GEs 51 [cx p g r, d.av, c.av] (if d.okIn p g ∧ c.okIn p g then .tup [dv (addD p g r d.D (minD c.D)).1, i64 (addD p g r d.D (minD c.D)).2, i64 0] else .tup [dv zD, i64 0, i64 221]) := by
  have hT := ret_two p g r hp hg hr d c h1 h2 132 _ _ (fun h => by
    obtain ⟨a1, a2, a3, a4⟩ := okIn_facts hp hg h.1
    obtain ⟨b1, b2, b3, b4⟩ := okIn_facts hp hg h.2
    exact ret_dsub1 p g r d.D c.D hp hg hr a1 b1 (Nat.le_trans (d.len_le h1) (by decide)) (Nat.le_trans (c.len_le h2) (by decide)) (by omega) (by omega))
  generalize addD p g r d.D (minD c.D) = z at *
  by_cases h : d.okIn p g ∧ c.okIn p g
  · rw [if_pos h] at hT ⊢
    unfold DI.av dv cx at *
    refine RetN_start Tryz.func51 (by kernel_rfl) rfl fun Q hQ hQ2 => ?_; rw [Tryz.ntmps51]; simp only [u, i64, Nat.reduceSub, Nat.reduceAdd, bm]
    repeat (first | (refine gC ?_; first | refine aA ?_ | (refine cR hT ?_; refine sX ?_; try refine aA ?_)) | (refine cR hT ?_; refine sX ?_; try refine aA ?_) | refine gS ?_)
    (refine FinQ hQ (congrArg Array.toList Tryz.results51) _ _ ?_); simp (disch := omega) only [u, i64, ax, if_true, forall_const, reduceCtorEq, implies_true, tvs, bf]
  · rw [if_neg h] at hT ⊢
    rw [dvz] at *
    unfold DI.av cx at *
    refine RetN_start Tryz.func51 (by kernel_rfl) rfl fun Q hQ hQ2 => ?_; rw [Tryz.ntmps51]; simp only [u, i64, Nat.reduceSub, Nat.reduceAdd, bm]
    repeat (first | (refine gC ?_; first | refine aA ?_ | (refine cR hT ?_; refine sX ?_; try refine aA ?_)) | (refine cR hT ?_; refine sX ?_; try refine aA ?_) | refine gS ?_)
    (refine FinQ hQ (congrArg Array.toList Tryz.results51) _ _ ?_); simp (disch := omega) only [u, i64, ax, if_true, forall_const, reduceCtorEq, implies_true, tvs, bf]
theorem ret_DSubB (p g r : Int) (r1 : -9223372036854775808 ≤ r) (r2 : r < 9223372036854775808) (hb : ¬ okC p g r) (d c : DI) (h1 : d.ok) (h2 : c.ok) : Ret Tryz.prog GEs 51 [cx p g r, d.av, c.av] (.tup [dv zD, i64 0, i64 220]) := by
  have hT := ret_twoB p g r r1 r2 hb d c h1 h2 132
  rw [dvz] at *
  clear hb
  unfold DI.av cx at *
  refine RetN_start Tryz.func51 (by kernel_rfl) rfl fun Q hQ hQ2 => ?_; rw [Tryz.ntmps51]; simp only [u, i64, Nat.reduceSub, Nat.reduceAdd, bm]
  repeat (first | (refine gC ?_; first | refine aA ?_ | (refine cR hT ?_; refine sX ?_; try refine aA ?_)) | (refine cR hT ?_; refine sX ?_; try refine aA ?_) | refine gS ?_)
  (refine FinQ hQ (congrArg Array.toList Tryz.results51) _ _ ?_); simp (disch := omega) only [u, i64, ax, if_true, forall_const, reduceCtorEq, implies_true, tvs, bf]
theorem minD_right {x : DV} (h : rightD x) : rightD (minD x) := by
  unfold rightD minD at *
  simp only
  rcases h with h | h | h
  · exact .inl h
  · exact .inr (.inl h)
  · refine .inr (.inr ⟨h.1, ?_, h.2.2⟩)
    rw [decF (show ¬ x.kind ≠ 2 from fun h' => h' h.1), Bool.and_false]
set_option maxHeartbeats 16000000 in
theorem ret_LawDecimalAdds (p g r : Int) (r1 : -9223372036854775808 ≤ r) (r2 : r < 9223372036854775808) (d c : DI) (hd : d.pra) (hc : c.pra) : Ret Tryz.prog GEs 10 [cx p g r, d.av, c.av] (.bool true) := by
  have hS := ret_Short2 d c hd.len hc.len
  by_cases hs : d.cs.length ≤ 40 ∧ c.cs.length ≤ 40
  · rw [decT hs] at hS
    have h1 := hd.ok hs.1
    have h2 := hc.ok hs.2
    have t1 := ret_TheirD d.k d.e d.neg d.cs
    have t2 := ret_TheirD c.k c.e c.neg c.cs
    have hX := ret_Ctx p g r
    by_cases hC : okC p g r
    · obtain ⟨hp, hg, hr⟩ := hC
      obtain ⟨p, rfl⟩ := Int.eq_ofNat_of_zero_le (show 0 ≤ p by omega)
      obtain ⟨r, rfl⟩ := Int.eq_ofNat_of_zero_le (show 0 ≤ r by omega)
      have hR := ret_DAdd p g r (by omega) hg (by omega) d c h1 h2
      have hB := ret_DSub p g r (by omega) hg (by omega) d c h1 h2
      have hA := ret_Args22_2 p g r _ d c (ret_Check22_2 p g r (by omega) hg (by omega) d c h1 h2)
      by_cases hb : d.okIn p g ∧ c.okIn p g
      · rw [if_pos hb] at hR hA hB
        have x1 := dexp_b (by omega) hg hb.1
        have x2 := dexp_b (by omega) hg hb.2
        have o1 := (DI.okIn_D hb.1)
        have o2 := (DI.okIn_D hb.2)
        have l1 := h1.len
        have l2 := h2.len
        have l3 := length_words_val_le h2.wd
        have hM := ret_Minus22 c.k c.e c.neg c.cs h2.wd (by omega)
        have b1 : -6500 ≤ d.e ∧ d.e ≤ 6500 := x1
        have b2 : -6500 ≤ c.e ∧ c.e ≤ 6500 := x2
        have h22 := ret_Sum22 p g r (by omega) hg (by omega) d.k d.e d.neg d.cs c.k c.e c.neg c.cs o1.2 o2.2 h1.wd h2.wd (by omega) (by omega) (by omega) (by omega)
        have h23 := ret_Sum22 p g r (by omega) hg (by omega) d.k d.e d.neg d.cs c.k c.e (!c.neg && decide (c.k ≠ 2)) (words (val c.cs)) o1.2 o2.2 h1.wd (Wd_words _) (by omega) (by omega) (by omega) (by omega)
        rw [val_words, minD_mk _ _ _ _ o2.2, show ws (words (val c.cs)) = nat (val c.cs) from rfl] at h23
        rw [show mkD d.k d.neg (val d.cs) d.e = d.D from rfl, show mkD c.k c.neg (val c.cs) c.e = c.D from rfl] at h22 h23
        obtain ⟨i1, i2⟩ := addD_in2 p g r d.D c.D (by omega) hg (fun _ => o1.1) (fun _ => o2.1)
        have hF := ret_FitsOk (addD p g r d.D c.D).1 (addD p g r d.D c.D).2 (in_len2 (by omega) i1 i2)
        obtain ⟨j1, j2⟩ := addD_in2 p g r d.D (minD c.D) (by omega) hg (fun _ => o1.1) (fun _ => minD_right o2.1)
        have hG := ret_FitsOk (addD p g r d.D (minD c.D)).1 (addD p g r d.D (minD c.D)).2 (in_len2 (by omega) j1 j2)
        generalize addD p g r d.D c.D = y at *
        generalize addD p g r d.D (minD c.D) = z at *
        generalize (!c.neg && decide (c.k ≠ 2)) = ng at *
        clear i1 i2 hb h1 h2 x1 x2 j1 j2 o1 o2 b1 b2 l1 l2 l3
        unfold DI.av dv cx at *
        refine RetN_start Tryz.func10 (by kernel_rfl) rfl fun Q hQ hQ2 => ?_; rw [Tryz.ntmps10]; simp only [u, i64, Nat.reduceSub, Nat.reduceAdd, bm]
        (refine gO ?_)
        (refine gC ?_)
        simp (disch := omega) only [u, i64, ax, eq_self, if_true, if_false, Nat.reduceAdd, Int.reduceToNat, Int.reduceAdd, tvs, bs, Nat.reduceMul, List.take_succ_cons, List.take_zero, List.nil_append, List.cons_append, List.append_nil, Nat.reduceLeDiff]
        repeat (first | (refine gC ?_; first | refine aA ?_ | ((first | refine cR hS ?_ | refine cR hR ?_ | refine cR hB ?_); refine sX ?_; try refine aA ?_)) | ((first | refine cR hS ?_ | refine cR hR ?_ | refine cR hB ?_); refine sX ?_; try refine aA ?_) | refine gS ?_)
        (refine gC ?_)
        simp (disch := omega) only [u, i64, ax, eq_self, if_true, if_false, Nat.reduceAdd, Int.reduceToNat, Int.reduceAdd, tvs, bs, Nat.reduceMul, List.take_succ_cons, List.take_zero, List.nil_append, List.cons_append, List.append_nil, Nat.reduceLeDiff]
        repeat (first | (refine gC ?_; first | refine aA ?_ | (refine cR hA ?_; refine sX ?_; try refine aA ?_)) | (refine cR hA ?_; refine sX ?_; try refine aA ?_) | refine gS ?_)
        (refine gC ?_)
        (refine cR hX ?_; refine sX ?_; try refine aA ?_)
        skip
        (refine cR t1 ?_; refine sX ?_; try refine aA ?_)
        skip
        (refine cR t2 ?_; refine sX ?_; try refine aA ?_)
        skip
        repeat (first | (refine gC ?_; first | refine aA ?_ | (refine cR h22 ?_; refine sX ?_; try refine aA ?_)) | (refine cR h22 ?_; refine sX ?_; try refine aA ?_) | refine gS ?_)
        (refine gC ?_)
        (refine cR hX ?_; refine sX ?_; try refine aA ?_)
        skip
        (refine cR t1 ?_; refine sX ?_; try refine aA ?_)
        skip
        (refine cR t2 ?_; refine sX ?_; try refine aA ?_)
        skip
        (refine cR hM ?_; refine sX ?_; try refine aA ?_)
        skip
        repeat (first | (refine gC ?_; first | refine aA ?_ | (refine cR h23 ?_; refine sX ?_; try refine aA ?_)) | (refine cR h23 ?_; refine sX ?_; try refine aA ?_) | refine gS ?_)
        (refine gC ?_)
        (refine cR hF ?_; refine sX ?_; try refine aA ?_)
        skip
        (refine cR hG ?_; refine sX ?_; try refine aA ?_)
        skip
        repeat (first | (refine gC ?_; first | refine aA ?_ | (refine cR ret_awake22 ?_; refine sX ?_; try refine aA ?_)) | (refine cR ret_awake22 ?_; refine sX ?_; try refine aA ?_) | refine gS ?_)
        (refine FinQ hQ (congrArg Array.toList Tryz.results10) _ _ ?_); simp (disch := omega) only [u, i64, ax, if_true, forall_const, reduceCtorEq, implies_true, tvs, bf]
      · rw [if_neg hb] at hR hA hB
        have hF := FitsErz 221 (by decide) (by decide)
        rw [dvz] at hR hB
        clear hb h1 h2
        unfold DI.av cx at *
        refine RetN_start Tryz.func10 (by kernel_rfl) rfl fun Q hQ hQ2 => ?_; rw [Tryz.ntmps10]; simp only [u, i64, Nat.reduceSub, Nat.reduceAdd, bm]
        (refine gO ?_)
        (refine gC ?_)
        simp (disch := omega) only [u, i64, ax, eq_self, if_true, if_false, Nat.reduceAdd, Int.reduceToNat, Int.reduceAdd, tvs, bs, Nat.reduceMul, List.take_succ_cons, List.take_zero, List.nil_append, List.cons_append, List.append_nil, Nat.reduceLeDiff]
        repeat (first | (refine gC ?_; first | refine aA ?_ | ((first | refine cR hS ?_ | refine cR hR ?_ | refine cR hB ?_); refine sX ?_; try refine aA ?_)) | ((first | refine cR hS ?_ | refine cR hR ?_ | refine cR hB ?_); refine sX ?_; try refine aA ?_) | refine gS ?_)
        (refine gC ?_)
        simp (disch := omega) only [u, i64, ax, eq_self, if_true, if_false, Nat.reduceAdd, Int.reduceToNat, Int.reduceAdd, tvs, bs, Nat.reduceMul, List.take_succ_cons, List.take_zero, List.nil_append, List.cons_append, List.append_nil, Nat.reduceLeDiff]
        repeat (first | (refine gC ?_; first | refine aA ?_ | ((first | refine cR hA ?_ | refine cR hF ?_ | refine cR ret_awake22 ?_); refine sX ?_; try refine aA ?_)) | ((first | refine cR hA ?_ | refine cR hF ?_ | refine cR ret_awake22 ?_); refine sX ?_; try refine aA ?_) | refine gS ?_)
        (refine FinQ hQ (congrArg Array.toList Tryz.results10) _ _ ?_); simp (disch := omega) only [u, i64, ax, if_true, forall_const, reduceCtorEq, implies_true, tvs, bf]
    · have hR := ret_DAddB p g r r1 r2 hC d c h1 h2
      have hB := ret_DSubB p g r r1 r2 hC d c h1 h2
      have hA := ret_Args22_2 p g r _ d c (ret_Check22b_2 p g r r1 r2 hC d c h1 h2)
      have hF := FitsErz 220 (by decide) (by decide)
      rw [dvz] at hR hB
      clear hC h1 h2
      unfold DI.av cx at *
      refine RetN_start Tryz.func10 (by kernel_rfl) rfl fun Q hQ hQ2 => ?_; rw [Tryz.ntmps10]; simp only [u, i64, Nat.reduceSub, Nat.reduceAdd, bm]
      (refine gO ?_)
      (refine gC ?_)
      simp (disch := omega) only [u, i64, ax, eq_self, if_true, if_false, Nat.reduceAdd, Int.reduceToNat, Int.reduceAdd, tvs, bs, Nat.reduceMul, List.take_succ_cons, List.take_zero, List.nil_append, List.cons_append, List.append_nil, Nat.reduceLeDiff]
      repeat (first | (refine gC ?_; first | refine aA ?_ | ((first | refine cR hS ?_ | refine cR hR ?_ | refine cR hB ?_); refine sX ?_; try refine aA ?_)) | ((first | refine cR hS ?_ | refine cR hR ?_ | refine cR hB ?_); refine sX ?_; try refine aA ?_) | refine gS ?_)
      (refine gC ?_)
      simp (disch := omega) only [u, i64, ax, eq_self, if_true, if_false, Nat.reduceAdd, Int.reduceToNat, Int.reduceAdd, tvs, bs, Nat.reduceMul, List.take_succ_cons, List.take_zero, List.nil_append, List.cons_append, List.append_nil, Nat.reduceLeDiff]
      repeat (first | (refine gC ?_; first | refine aA ?_ | ((first | refine cR hA ?_ | refine cR hF ?_ | refine cR ret_awake22 ?_); refine sX ?_; try refine aA ?_)) | ((first | refine cR hA ?_ | refine cR hF ?_ | refine cR ret_awake22 ?_); refine sX ?_; try refine aA ?_) | refine gS ?_)
      (refine FinQ hQ (congrArg Array.toList Tryz.results10) _ _ ?_); simp (disch := omega) only [u, i64, ax, if_true, forall_const, reduceCtorEq, implies_true, tvs, bf]
  · rw [decF hs] at hS
    unfold DI.av cx at *
    refine RetN_start Tryz.func10 (by kernel_rfl) rfl fun Q hQ hQ2 => ?_; rw [Tryz.ntmps10]; simp only [u, i64, Nat.reduceSub, Nat.reduceAdd, bm]
    (refine gO ?_)
    (refine gC ?_)
    simp (disch := omega) only [u, i64, ax, eq_self, if_true, if_false, Nat.reduceAdd, Int.reduceToNat, Int.reduceAdd, tvs, bs, Nat.reduceMul, List.take_succ_cons, List.take_zero, List.nil_append, List.cons_append, List.append_nil, Nat.reduceLeDiff]
    repeat (first | (refine gC ?_; first | refine aA ?_ | ((first | refine cR hS ?_ | refine cR ret_awake22 ?_); refine sX ?_; try refine aA ?_)) | ((first | refine cR hS ?_ | refine cR ret_awake22 ?_); refine sX ?_; try refine aA ?_) | refine gS ?_)
    (refine FinQ hQ (congrArg Array.toList Tryz.results10) _ _ ?_); simp (disch := omega) only [u, i64, ax, if_true, forall_const, reduceCtorEq, implies_true, tvs, bf]
end Go.Proofs
set_option linter.unusedVariables false
set_option linter.unusedSimpArgs false
set_option maxRecDepth 100000
set_option maxHeartbeats 1000000
namespace Go.Proofs
open Go.Ax
set_option maxHeartbeats 8000000 in
theorem ret_Check22_3 (p : Nat) (g : Int) (r : Nat) (hp : 1 ≤ p ∧ p ≤ 400) (hg : 1 ≤ g ∧ g ≤ 6000) (hr : r ≤ 4) (d c b : DI) (h1 : d.ok) (h2 : c.ok) (h3 : b.ok) :
    Ret Tryz.prog GEs 122 [cx p g r, .lst 3 [i64 d.k, .bool d.neg, ws d.cs, i64 d.e, i64 c.k, .bool c.neg, ws c.cs, i64 c.e, i64 b.k, .bool b.neg, ws b.cs, i64 b.e]] (i64 (if d.okIn p g ∧ c.okIn p g ∧ b.okIn p g then 0 else 221)) := by
  have hR := ret_Right22 p g r (by omega) (by omega)
  rw [decT (show okC p g r from ⟨by omega, hg, by omega⟩)] at hR
  have l1 := ret_rLarge d.cs (by have := h1.len; omega)
  rw [decF (show ¬ 4096 < d.cs.length by have := h1.len; omega)] at l1
  have o1 := one_of22 p g r hp hg d h1
  have l2 := ret_rLarge c.cs (by have := h2.len; omega)
  rw [decF (show ¬ 4096 < c.cs.length by have := h2.len; omega)] at l2
  have o2 := one_of22 p g r hp hg c h2
  have l3 := ret_rLarge b.cs (by have := h3.len; omega)
  rw [decF (show ¬ 4096 < b.cs.length by have := h3.len; omega)] at l3
  have o3 := one_of22 p g r hp hg b h3
  obtain ⟨k1, n1, c1, e1⟩ := d
  obtain ⟨k2, n2, c2, e2⟩ := c
  obtain ⟨k3, n3, c3, e3⟩ := b
  simp only at *
  unfold cx at *
  rcases o1 with ⟨g1, a1⟩ | ⟨g1, a1, b1⟩
  · skip
    rw [if_neg (show ¬ (DI.okIn p g ⟨k1, n1, c1, e1⟩ ∧ DI.okIn p g ⟨k2, n2, c2, e2⟩ ∧ DI.okIn p g ⟨k3, n3, c3, e3⟩) from fun h => g1 h.1.1)]
    refine RetN_start Tryz.func122 (by kernel_rfl) rfl fun Q hQ hQ2 => ?_; rw [Tryz.ntmps122]; simp only [u, i64, Nat.reduceSub, Nat.reduceAdd, bm]
    (refine gO ?_)
    refine G_loop ?_
    refine G_round ?_
    repeat (first | (refine gC ?_; first | refine aA ?_ | (refine cR l1 ?_; refine sX ?_; try refine aA ?_)) | (refine cR l1 ?_; refine sX ?_; try refine aA ?_) | refine gS ?_)
    refine G_round ?_
    repeat (first | (refine gC ?_; first | refine aA ?_ | (refine cR l2 ?_; refine sX ?_; try refine aA ?_)) | (refine cR l2 ?_; refine sX ?_; try refine aA ?_) | refine gS ?_)
    refine G_round ?_
    repeat (first | (refine gC ?_; first | refine aA ?_ | (refine cR l3 ?_; refine sX ?_; try refine aA ?_)) | (refine cR l3 ?_; refine sX ?_; try refine aA ?_) | refine gS ?_)
    refine G_round ?_
    repeat (first | (refine gC ?_; first | refine aA ?_ | (refine cR hR ?_; refine sX ?_; try refine aA ?_)) | (refine cR hR ?_; refine sX ?_; try refine aA ?_) | refine gS ?_)
    refine G_loop ?_
    refine G_round ?_
    repeat (first | (refine gC ?_; first | refine aA ?_ | (refine cR a1 ?_; refine sX ?_; try refine aA ?_)) | (refine cR a1 ?_; refine sX ?_; try refine aA ?_) | refine gS ?_)
    (refine FinQ hQ (congrArg Array.toList Tryz.results122) _ _ ?_); simp (disch := omega) only [u, i64, ax, if_true, forall_const, reduceCtorEq, implies_true, tvs, bf]
  · by_cases q1 : inD p g (DI.D ⟨k1, n1, c1, e1⟩)
    · rw [decT q1] at b1
      rcases o2 with ⟨g2, a2⟩ | ⟨g2, a2, b2⟩
      · skip
        rw [if_neg (show ¬ (DI.okIn p g ⟨k1, n1, c1, e1⟩ ∧ DI.okIn p g ⟨k2, n2, c2, e2⟩ ∧ DI.okIn p g ⟨k3, n3, c3, e3⟩) from fun h => g2 h.2.1.1)]
        refine RetN_start Tryz.func122 (by kernel_rfl) rfl fun Q hQ hQ2 => ?_; rw [Tryz.ntmps122]; simp only [u, i64, Nat.reduceSub, Nat.reduceAdd, bm]
        (refine gO ?_)
        refine G_loop ?_
        refine G_round ?_
        repeat (first | (refine gC ?_; first | refine aA ?_ | (refine cR l1 ?_; refine sX ?_; try refine aA ?_)) | (refine cR l1 ?_; refine sX ?_; try refine aA ?_) | refine gS ?_)
        refine G_round ?_
        repeat (first | (refine gC ?_; first | refine aA ?_ | (refine cR l2 ?_; refine sX ?_; try refine aA ?_)) | (refine cR l2 ?_; refine sX ?_; try refine aA ?_) | refine gS ?_)
        refine G_round ?_
        repeat (first | (refine gC ?_; first | refine aA ?_ | (refine cR l3 ?_; refine sX ?_; try refine aA ?_)) | (refine cR l3 ?_; refine sX ?_; try refine aA ?_) | refine gS ?_)
        refine G_round ?_
        repeat (first | (refine gC ?_; first | refine aA ?_ | (refine cR hR ?_; refine sX ?_; try refine aA ?_)) | (refine cR hR ?_; refine sX ?_; try refine aA ?_) | refine gS ?_)
        refine G_loop ?_
        refine G_round ?_
        repeat (first | (refine gC ?_; first | refine aA ?_ | ((first | refine cR a1 ?_ | refine cR b1 ?_); refine sX ?_; try refine aA ?_)) | ((first | refine cR a1 ?_ | refine cR b1 ?_); refine sX ?_; try refine aA ?_) | refine gS ?_)
        refine G_round ?_
        repeat (first | (refine gC ?_; first | refine aA ?_ | (refine cR a2 ?_; refine sX ?_; try refine aA ?_)) | (refine cR a2 ?_; refine sX ?_; try refine aA ?_) | refine gS ?_)
        (refine FinQ hQ (congrArg Array.toList Tryz.results122) _ _ ?_); simp (disch := omega) only [u, i64, ax, if_true, forall_const, reduceCtorEq, implies_true, tvs, bf]
      · by_cases q2 : inD p g (DI.D ⟨k2, n2, c2, e2⟩)
        · rw [decT q2] at b2
          rcases o3 with ⟨g3, a3⟩ | ⟨g3, a3, b3⟩
          · skip
            rw [if_neg (show ¬ (DI.okIn p g ⟨k1, n1, c1, e1⟩ ∧ DI.okIn p g ⟨k2, n2, c2, e2⟩ ∧ DI.okIn p g ⟨k3, n3, c3, e3⟩) from fun h => g3 h.2.2.1)]
            refine RetN_start Tryz.func122 (by kernel_rfl) rfl fun Q hQ hQ2 => ?_; rw [Tryz.ntmps122]; simp only [u, i64, Nat.reduceSub, Nat.reduceAdd, bm]
            (refine gO ?_)
            refine G_loop ?_
            refine G_round ?_
            repeat (first | (refine gC ?_; first | refine aA ?_ | (refine cR l1 ?_; refine sX ?_; try refine aA ?_)) | (refine cR l1 ?_; refine sX ?_; try refine aA ?_) | refine gS ?_)
            refine G_round ?_
            repeat (first | (refine gC ?_; first | refine aA ?_ | (refine cR l2 ?_; refine sX ?_; try refine aA ?_)) | (refine cR l2 ?_; refine sX ?_; try refine aA ?_) | refine gS ?_)
            refine G_round ?_
            repeat (first | (refine gC ?_; first | refine aA ?_ | (refine cR l3 ?_; refine sX ?_; try refine aA ?_)) | (refine cR l3 ?_; refine sX ?_; try refine aA ?_) | refine gS ?_)
            refine G_round ?_
            repeat (first | (refine gC ?_; first | refine aA ?_ | (refine cR hR ?_; refine sX ?_; try refine aA ?_)) | (refine cR hR ?_; refine sX ?_; try refine aA ?_) | refine gS ?_)
            refine G_loop ?_
            refine G_round ?_
            repeat (first | (refine gC ?_; first | refine aA ?_ | ((first | refine cR a1 ?_ | refine cR b1 ?_); refine sX ?_; try refine aA ?_)) | ((first | refine cR a1 ?_ | refine cR b1 ?_); refine sX ?_; try refine aA ?_) | refine gS ?_)
            refine G_round ?_
            repeat (first | (refine gC ?_; first | refine aA ?_ | ((first | refine cR a2 ?_ | refine cR b2 ?_); refine sX ?_; try refine aA ?_)) | ((first | refine cR a2 ?_ | refine cR b2 ?_); refine sX ?_; try refine aA ?_) | refine gS ?_)
            refine G_round ?_
            repeat (first | (refine gC ?_; first | refine aA ?_ | (refine cR a3 ?_; refine sX ?_; try refine aA ?_)) | (refine cR a3 ?_; refine sX ?_; try refine aA ?_) | refine gS ?_)
            (refine FinQ hQ (congrArg Array.toList Tryz.results122) _ _ ?_); simp (disch := omega) only [u, i64, ax, if_true, forall_const, reduceCtorEq, implies_true, tvs, bf]
          · by_cases q3 : inD p g (DI.D ⟨k3, n3, c3, e3⟩)
            · rw [decT q3] at b3
              rw [if_pos (show DI.okIn p g ⟨k1, n1, c1, e1⟩ ∧ DI.okIn p g ⟨k2, n2, c2, e2⟩ ∧ DI.okIn p g ⟨k3, n3, c3, e3⟩ from ⟨⟨g1, q1⟩, ⟨g2, q2⟩, ⟨g3, q3⟩⟩)]
              refine RetN_start Tryz.func122 (by kernel_rfl) rfl fun Q hQ hQ2 => ?_; rw [Tryz.ntmps122]; simp only [u, i64, Nat.reduceSub, Nat.reduceAdd, bm]
              (refine gO ?_)
              refine G_loop ?_
              refine G_round ?_
              repeat (first | (refine gC ?_; first | refine aA ?_ | (refine cR l1 ?_; refine sX ?_; try refine aA ?_)) | (refine cR l1 ?_; refine sX ?_; try refine aA ?_) | refine gS ?_)
              refine G_round ?_
              repeat (first | (refine gC ?_; first | refine aA ?_ | (refine cR l2 ?_; refine sX ?_; try refine aA ?_)) | (refine cR l2 ?_; refine sX ?_; try refine aA ?_) | refine gS ?_)
              refine G_round ?_
              repeat (first | (refine gC ?_; first | refine aA ?_ | (refine cR l3 ?_; refine sX ?_; try refine aA ?_)) | (refine cR l3 ?_; refine sX ?_; try refine aA ?_) | refine gS ?_)
              refine G_round ?_
              repeat (first | (refine gC ?_; first | refine aA ?_ | (refine cR hR ?_; refine sX ?_; try refine aA ?_)) | (refine cR hR ?_; refine sX ?_; try refine aA ?_) | refine gS ?_)
              refine G_loop ?_
              refine G_round ?_
              repeat (first | (refine gC ?_; first | refine aA ?_ | ((first | refine cR a1 ?_ | refine cR b1 ?_); refine sX ?_; try refine aA ?_)) | ((first | refine cR a1 ?_ | refine cR b1 ?_); refine sX ?_; try refine aA ?_) | refine gS ?_)
              refine G_round ?_
              repeat (first | (refine gC ?_; first | refine aA ?_ | ((first | refine cR a2 ?_ | refine cR b2 ?_); refine sX ?_; try refine aA ?_)) | ((first | refine cR a2 ?_ | refine cR b2 ?_); refine sX ?_; try refine aA ?_) | refine gS ?_)
              refine G_round ?_
              repeat (first | (refine gC ?_; first | refine aA ?_ | ((first | refine cR a3 ?_ | refine cR b3 ?_); refine sX ?_; try refine aA ?_)) | ((first | refine cR a3 ?_ | refine cR b3 ?_); refine sX ?_; try refine aA ?_) | refine gS ?_)
              refine G_round ?_
              (refine gO ?_)
              (refine FinQ hQ (congrArg Array.toList Tryz.results122) _ _ ?_); simp (disch := omega) only [u, i64, ax, if_true, forall_const, reduceCtorEq, implies_true, tvs, bf]
            · rw [decF q3] at b3
              rw [if_neg (show ¬ (DI.okIn p g ⟨k1, n1, c1, e1⟩ ∧ DI.okIn p g ⟨k2, n2, c2, e2⟩ ∧ DI.okIn p g ⟨k3, n3, c3, e3⟩) from fun h => q3 h.2.2.2)]
              refine RetN_start Tryz.func122 (by kernel_rfl) rfl fun Q hQ hQ2 => ?_; rw [Tryz.ntmps122]; simp only [u, i64, Nat.reduceSub, Nat.reduceAdd, bm]
              (refine gO ?_)
              refine G_loop ?_
              refine G_round ?_
              repeat (first | (refine gC ?_; first | refine aA ?_ | (refine cR l1 ?_; refine sX ?_; try refine aA ?_)) | (refine cR l1 ?_; refine sX ?_; try refine aA ?_) | refine gS ?_)
              refine G_round ?_
              repeat (first | (refine gC ?_; first | refine aA ?_ | (refine cR l2 ?_; refine sX ?_; try refine aA ?_)) | (refine cR l2 ?_; refine sX ?_; try refine aA ?_) | refine gS ?_)
              refine G_round ?_
              repeat (first | (refine gC ?_; first | refine aA ?_ | (refine cR l3 ?_; refine sX ?_; try refine aA ?_)) | (refine cR l3 ?_; refine sX ?_; try refine aA ?_) | refine gS ?_)
              refine G_round ?_
              repeat (first | (refine gC ?_; first | refine aA ?_ | (refine cR hR ?_; refine sX ?_; try refine aA ?_)) | (refine cR hR ?_; refine sX ?_; try refine aA ?_) | refine gS ?_)
              refine G_loop ?_
              refine G_round ?_
              repeat (first | (refine gC ?_; first | refine aA ?_ | ((first | refine cR a1 ?_ | refine cR b1 ?_); refine sX ?_; try refine aA ?_)) | ((first | refine cR a1 ?_ | refine cR b1 ?_); refine sX ?_; try refine aA ?_) | refine gS ?_)
              refine G_round ?_
              repeat (first | (refine gC ?_; first | refine aA ?_ | ((first | refine cR a2 ?_ | refine cR b2 ?_); refine sX ?_; try refine aA ?_)) | ((first | refine cR a2 ?_ | refine cR b2 ?_); refine sX ?_; try refine aA ?_) | refine gS ?_)
              refine G_round ?_
              repeat (first | (refine gC ?_; first | refine aA ?_ | ((first | refine cR a3 ?_ | refine cR b3 ?_); refine sX ?_; try refine aA ?_)) | ((first | refine cR a3 ?_ | refine cR b3 ?_); refine sX ?_; try refine aA ?_) | refine gS ?_)
              (refine FinQ hQ (congrArg Array.toList Tryz.results122) _ _ ?_); simp (disch := omega) only [u, i64, ax, if_true, forall_const, reduceCtorEq, implies_true, tvs, bf]
        · rw [decF q2] at b2
          rw [if_neg (show ¬ (DI.okIn p g ⟨k1, n1, c1, e1⟩ ∧ DI.okIn p g ⟨k2, n2, c2, e2⟩ ∧ DI.okIn p g ⟨k3, n3, c3, e3⟩) from fun h => q2 h.2.1.2)]
          refine RetN_start Tryz.func122 (by kernel_rfl) rfl fun Q hQ hQ2 => ?_; rw [Tryz.ntmps122]; simp only [u, i64, Nat.reduceSub, Nat.reduceAdd, bm]
          (refine gO ?_)
          refine G_loop ?_
          refine G_round ?_
          repeat (first | (refine gC ?_; first | refine aA ?_ | (refine cR l1 ?_; refine sX ?_; try refine aA ?_)) | (refine cR l1 ?_; refine sX ?_; try refine aA ?_) | refine gS ?_)
          refine G_round ?_
          repeat (first | (refine gC ?_; first | refine aA ?_ | (refine cR l2 ?_; refine sX ?_; try refine aA ?_)) | (refine cR l2 ?_; refine sX ?_; try refine aA ?_) | refine gS ?_)
          refine G_round ?_
          repeat (first | (refine gC ?_; first | refine aA ?_ | (refine cR l3 ?_; refine sX ?_; try refine aA ?_)) | (refine cR l3 ?_; refine sX ?_; try refine aA ?_) | refine gS ?_)
          refine G_round ?_
          repeat (first | (refine gC ?_; first | refine aA ?_ | (refine cR hR ?_; refine sX ?_; try refine aA ?_)) | (refine cR hR ?_; refine sX ?_; try refine aA ?_) | refine gS ?_)
          refine G_loop ?_
          refine G_round ?_
          repeat (first | (refine gC ?_; first | refine aA ?_ | ((first | refine cR a1 ?_ | refine cR b1 ?_); refine sX ?_; try refine aA ?_)) | ((first | refine cR a1 ?_ | refine cR b1 ?_); refine sX ?_; try refine aA ?_) | refine gS ?_)
          refine G_round ?_
          repeat (first | (refine gC ?_; first | refine aA ?_ | ((first | refine cR a2 ?_ | refine cR b2 ?_); refine sX ?_; try refine aA ?_)) | ((first | refine cR a2 ?_ | refine cR b2 ?_); refine sX ?_; try refine aA ?_) | refine gS ?_)
          (refine FinQ hQ (congrArg Array.toList Tryz.results122) _ _ ?_); simp (disch := omega) only [u, i64, ax, if_true, forall_const, reduceCtorEq, implies_true, tvs, bf]
    · rw [decF q1] at b1
      rw [if_neg (show ¬ (DI.okIn p g ⟨k1, n1, c1, e1⟩ ∧ DI.okIn p g ⟨k2, n2, c2, e2⟩ ∧ DI.okIn p g ⟨k3, n3, c3, e3⟩) from fun h => q1 h.1.2)]
      refine RetN_start Tryz.func122 (by kernel_rfl) rfl fun Q hQ hQ2 => ?_; rw [Tryz.ntmps122]; simp only [u, i64, Nat.reduceSub, Nat.reduceAdd, bm]
      (refine gO ?_)
      refine G_loop ?_
      refine G_round ?_
      repeat (first | (refine gC ?_; first | refine aA ?_ | (refine cR l1 ?_; refine sX ?_; try refine aA ?_)) | (refine cR l1 ?_; refine sX ?_; try refine aA ?_) | refine gS ?_)
      refine G_round ?_
      repeat (first | (refine gC ?_; first | refine aA ?_ | (refine cR l2 ?_; refine sX ?_; try refine aA ?_)) | (refine cR l2 ?_; refine sX ?_; try refine aA ?_) | refine gS ?_)
      refine G_round ?_
      repeat (first | (refine gC ?_; first | refine aA ?_ | (refine cR l3 ?_; refine sX ?_; try refine aA ?_)) | (refine cR l3 ?_; refine sX ?_; try refine aA ?_) | refine gS ?_)
      refine G_round ?_
      repeat (first | (refine gC ?_; first | refine aA ?_ | (refine cR hR ?_; refine sX ?_; try refine aA ?_)) | (refine cR hR ?_; refine sX ?_; try refine aA ?_) | refine gS ?_)
      refine G_loop ?_
      refine G_round ?_
      repeat (first | (refine gC ?_; first | refine aA ?_ | ((first | refine cR a1 ?_ | refine cR b1 ?_); refine sX ?_; try refine aA ?_)) | ((first | refine cR a1 ?_ | refine cR b1 ?_); refine sX ?_; try refine aA ?_) | refine gS ?_)
      (refine FinQ hQ (congrArg Array.toList Tryz.results122) _ _ ?_); simp (disch := omega) only [u, i64, ax, if_true, forall_const, reduceCtorEq, implies_true, tvs, bf]
theorem ret_Check22b_3 (p g r : Int) (r1 : -9223372036854775808 ≤ r) (r2 : r < 9223372036854775808) (hb : ¬ okC p g r) (d c b : DI) (h1 : d.ok) (h2 : c.ok) (h3 : b.ok) :
    Ret Tryz.prog GEs 122 [cx p g r, .lst 3 [i64 d.k, .bool d.neg, ws d.cs, i64 d.e, i64 c.k, .bool c.neg, ws c.cs, i64 c.e, i64 b.k, .bool b.neg, ws b.cs, i64 b.e]] (i64 220) := by
  have hR := ret_Right22 p g r r1 r2
  rw [decF hb] at hR
  have l1 := ret_rLarge d.cs (by have := h1.len; omega)
  rw [decF (show ¬ 4096 < d.cs.length by have := h1.len; omega)] at l1
  have l2 := ret_rLarge c.cs (by have := h2.len; omega)
  rw [decF (show ¬ 4096 < c.cs.length by have := h2.len; omega)] at l2
  have l3 := ret_rLarge b.cs (by have := h3.len; omega)
  rw [decF (show ¬ 4096 < b.cs.length by have := h3.len; omega)] at l3
  clear hb
  unfold cx at *
  refine RetN_start Tryz.func122 (by kernel_rfl) rfl fun Q hQ hQ2 => ?_; rw [Tryz.ntmps122]; simp only [u, i64, Nat.reduceSub, Nat.reduceAdd, bm]
  (refine gO ?_)
  refine G_loop ?_
  refine G_round ?_
  repeat (first | (refine gC ?_; first | refine aA ?_ | (refine cR l1 ?_; refine sX ?_; try refine aA ?_)) | (refine cR l1 ?_; refine sX ?_; try refine aA ?_) | refine gS ?_)
  refine G_round ?_
  repeat (first | (refine gC ?_; first | refine aA ?_ | (refine cR l2 ?_; refine sX ?_; try refine aA ?_)) | (refine cR l2 ?_; refine sX ?_; try refine aA ?_) | refine gS ?_)
  refine G_round ?_
  repeat (first | (refine gC ?_; first | refine aA ?_ | (refine cR l3 ?_; refine sX ?_; try refine aA ?_)) | (refine cR l3 ?_; refine sX ?_; try refine aA ?_) | refine gS ?_)
  refine G_round ?_
  repeat (first | (refine gC ?_; first | refine aA ?_ | (refine cR hR ?_; refine sX ?_; try refine aA ?_)) | (refine cR hR ?_; refine sX ?_; try refine aA ?_) | refine gS ?_)
  (refine FinQ hQ (congrArg Array.toList Tryz.results122) _ _ ?_); simp (disch := omega) only [u, i64, ax, if_true, forall_const, reduceCtorEq, implies_true, tvs, bf]
end Go.Proofs
set_option linter.unusedVariables false
set_option linter.unusedSimpArgs false
set_option maxRecDepth 100000
set_option maxHeartbeats 1000000
namespace Go.Proofs
open Go.Ax
set_option maxHeartbeats 16000000 in
theorem ret_LawDecimalFused (p g r : Int) (r1 : -9223372036854775808 ≤ r) (r2 : r < 9223372036854775808) (d c b : DI) (hd : d.pra) (hc : c.pra) (hbb : b.pra) : Ret Tryz.prog GEs 13 [cx p g r, d.av, c.av, b.av] (.bool true) := by
  have hS := ret_Short3 d c b hd.len hc.len hbb.len
  by_cases hs : d.cs.length ≤ 40 ∧ c.cs.length ≤ 40 ∧ b.cs.length ≤ 40
  · rw [decT hs] at hS
    have h1 := hd.ok hs.1
    have h2 := hc.ok hs.2.1
    have h3 := hbb.ok hs.2.2
    have t1 := ret_TheirD d.k d.e d.neg d.cs
    have t2 := ret_TheirD c.k c.e c.neg c.cs
    have t3 := ret_TheirD b.k b.e b.neg b.cs
    have hX := ret_Ctx p g r
    by_cases hC : okC p g r
    · obtain ⟨hp, hg, hr⟩ := hC
      obtain ⟨p, rfl⟩ := Int.eq_ofNat_of_zero_le (show 0 ≤ p by omega)
      obtain ⟨r, rfl⟩ := Int.eq_ofNat_of_zero_le (show 0 ≤ r by omega)
      have hR := ret_DFused p g r (by omega) hg (by omega) d c b h1 h2 h3
      have hA := ret_Args22_3 p g r _ d c b (ret_Check22_3 p g r (by omega) hg (by omega) d c b h1 h2 h3)
      by_cases hb : d.okIn p g ∧ c.okIn p g ∧ b.okIn p g
      · rw [if_pos hb] at hR hA
        have x1 := dexp_b (by omega) hg hb.1
        have x2 := dexp_b (by omega) hg hb.2.1
        have x3 := dexp_b (by omega) hg hb.2.2
        have h22 := ret_Fused22 p g r (by omega) hg (by omega) d.k d.e d.neg d.cs c.k c.e c.neg c.cs b.k b.e b.neg b.cs (DI.okIn_D hb.1).2 (DI.okIn_D hb.2.1).2 (DI.okIn_D hb.2.2).2 h1.wd h2.wd h3.wd h1.len h2.len h3.len x1 x2 x3
        rw [show mkD d.k d.neg (val d.cs) d.e = d.D from rfl, show mkD c.k c.neg (val c.cs) c.e = c.D from rfl, show mkD b.k b.neg (val b.cs) b.e = b.D from rfl] at h22
        obtain ⟨i1, i2⟩ := fusedD_in p g r d.D c.D b.D (by omega) hg (DI.okIn_D hb.2.2).1
        have hF := ret_FitsOk (fusedD p g r d.D c.D b.D).1 (fusedD p g r d.D c.D b.D).2 (in_len2 (by omega) i1 i2)
        generalize fusedD p g r d.D c.D b.D = y at *
        clear i1 i2 hb h1 h2 h3 x1 x2 x3
        unfold DI.av dv cx at *
        refine RetN_start Tryz.func13 (by kernel_rfl) rfl fun Q hQ hQ2 => ?_; rw [Tryz.ntmps13]; simp only [u, i64, Nat.reduceSub, Nat.reduceAdd, bm]
        (refine gO ?_)
        (refine gC ?_)
        simp (disch := omega) only [u, i64, ax, eq_self, if_true, if_false, Nat.reduceAdd, Int.reduceToNat, Int.reduceAdd, tvs, bs, Nat.reduceMul, List.take_succ_cons, List.take_zero, List.nil_append, List.cons_append, List.append_nil, Nat.reduceLeDiff]
        repeat (first | (refine gC ?_; first | refine aA ?_ | ((first | refine cR hS ?_ | refine cR hR ?_); refine sX ?_; try refine aA ?_)) | ((first | refine cR hS ?_ | refine cR hR ?_); refine sX ?_; try refine aA ?_) | refine gS ?_)
        (refine gC ?_)
        simp (disch := omega) only [u, i64, ax, eq_self, if_true, if_false, Nat.reduceAdd, Int.reduceToNat, Int.reduceAdd, tvs, bs, Nat.reduceMul, List.take_succ_cons, List.take_zero, List.nil_append, List.cons_append, List.append_nil, Nat.reduceLeDiff]
        repeat (first | (refine gC ?_; first | refine aA ?_ | (refine cR hA ?_; refine sX ?_; try refine aA ?_)) | (refine cR hA ?_; refine sX ?_; try refine aA ?_) | refine gS ?_)
        (refine gC ?_)
        (refine cR hX ?_; refine sX ?_; try refine aA ?_)
        (refine cR t1 ?_; refine sX ?_; try refine aA ?_)
        skip
        (refine cR t2 ?_; refine sX ?_; try refine aA ?_)
        skip
        repeat (first | (refine gC ?_; first | refine aA ?_ | ((first | refine cR t3 ?_ | refine cR h22 ?_ | refine cR hF ?_ | refine cR ret_awake22 ?_); refine sX ?_; try refine aA ?_)) | ((first | refine cR t3 ?_ | refine cR h22 ?_ | refine cR hF ?_ | refine cR ret_awake22 ?_); refine sX ?_; try refine aA ?_) | refine gS ?_)
        (refine FinQ hQ (congrArg Array.toList Tryz.results13) _ _ ?_); simp (disch := omega) only [u, i64, ax, if_true, forall_const, reduceCtorEq, implies_true, tvs, bf]
      · rw [if_neg hb] at hR hA
        have hF := FitsErz 221 (by decide) (by decide)
        rw [dvz] at hR
        clear hb h1 h2 h3
        unfold DI.av cx at *
        refine RetN_start Tryz.func13 (by kernel_rfl) rfl fun Q hQ hQ2 => ?_; rw [Tryz.ntmps13]; simp only [u, i64, Nat.reduceSub, Nat.reduceAdd, bm]
        (refine gO ?_)
        (refine gC ?_)
        simp (disch := omega) only [u, i64, ax, eq_self, if_true, if_false, Nat.reduceAdd, Int.reduceToNat, Int.reduceAdd, tvs, bs, Nat.reduceMul, List.take_succ_cons, List.take_zero, List.nil_append, List.cons_append, List.append_nil, Nat.reduceLeDiff]
        repeat (first | (refine gC ?_; first | refine aA ?_ | ((first | refine cR hS ?_ | refine cR hR ?_); refine sX ?_; try refine aA ?_)) | ((first | refine cR hS ?_ | refine cR hR ?_); refine sX ?_; try refine aA ?_) | refine gS ?_)
        (refine gC ?_)
        simp (disch := omega) only [u, i64, ax, eq_self, if_true, if_false, Nat.reduceAdd, Int.reduceToNat, Int.reduceAdd, tvs, bs, Nat.reduceMul, List.take_succ_cons, List.take_zero, List.nil_append, List.cons_append, List.append_nil, Nat.reduceLeDiff]
        repeat (first | (refine gC ?_; first | refine aA ?_ | ((first | refine cR hA ?_ | refine cR hF ?_ | refine cR ret_awake22 ?_); refine sX ?_; try refine aA ?_)) | ((first | refine cR hA ?_ | refine cR hF ?_ | refine cR ret_awake22 ?_); refine sX ?_; try refine aA ?_) | refine gS ?_)
        (refine FinQ hQ (congrArg Array.toList Tryz.results13) _ _ ?_); simp (disch := omega) only [u, i64, ax, if_true, forall_const, reduceCtorEq, implies_true, tvs, bf]
    · have hR := ret_DFusedB p g r r1 r2 hC d c b h1 h2 h3
      have hA := ret_Args22_3 p g r _ d c b (ret_Check22b_3 p g r r1 r2 hC d c b h1 h2 h3)
      have hF := FitsErz 220 (by decide) (by decide)
      rw [dvz] at hR
      clear hC h1 h2 h3
      unfold DI.av cx at *
      refine RetN_start Tryz.func13 (by kernel_rfl) rfl fun Q hQ hQ2 => ?_; rw [Tryz.ntmps13]; simp only [u, i64, Nat.reduceSub, Nat.reduceAdd, bm]
      (refine gO ?_)
      (refine gC ?_)
      simp (disch := omega) only [u, i64, ax, eq_self, if_true, if_false, Nat.reduceAdd, Int.reduceToNat, Int.reduceAdd, tvs, bs, Nat.reduceMul, List.take_succ_cons, List.take_zero, List.nil_append, List.cons_append, List.append_nil, Nat.reduceLeDiff]
      repeat (first | (refine gC ?_; first | refine aA ?_ | ((first | refine cR hS ?_ | refine cR hR ?_); refine sX ?_; try refine aA ?_)) | ((first | refine cR hS ?_ | refine cR hR ?_); refine sX ?_; try refine aA ?_) | refine gS ?_)
      (refine gC ?_)
      simp (disch := omega) only [u, i64, ax, eq_self, if_true, if_false, Nat.reduceAdd, Int.reduceToNat, Int.reduceAdd, tvs, bs, Nat.reduceMul, List.take_succ_cons, List.take_zero, List.nil_append, List.cons_append, List.append_nil, Nat.reduceLeDiff]
      repeat (first | (refine gC ?_; first | refine aA ?_ | ((first | refine cR hA ?_ | refine cR hF ?_ | refine cR ret_awake22 ?_); refine sX ?_; try refine aA ?_)) | ((first | refine cR hA ?_ | refine cR hF ?_ | refine cR ret_awake22 ?_); refine sX ?_; try refine aA ?_) | refine gS ?_)
      (refine FinQ hQ (congrArg Array.toList Tryz.results13) _ _ ?_); simp (disch := omega) only [u, i64, ax, if_true, forall_const, reduceCtorEq, implies_true, tvs, bf]
  · rw [decF hs] at hS
    unfold DI.av cx at *
    refine RetN_start Tryz.func13 (by kernel_rfl) rfl fun Q hQ hQ2 => ?_; rw [Tryz.ntmps13]; simp only [u, i64, Nat.reduceSub, Nat.reduceAdd, bm]
    (refine gO ?_)
    (refine gC ?_)
    simp (disch := omega) only [u, i64, ax, eq_self, if_true, if_false, Nat.reduceAdd, Int.reduceToNat, Int.reduceAdd, tvs, bs, Nat.reduceMul, List.take_succ_cons, List.take_zero, List.nil_append, List.cons_append, List.append_nil, Nat.reduceLeDiff]
    repeat (first | (refine gC ?_; first | refine aA ?_ | ((first | refine cR hS ?_ | refine cR ret_awake22 ?_); refine sX ?_; try refine aA ?_)) | ((first | refine cR hS ?_ | refine cR ret_awake22 ?_); refine sX ?_; try refine aA ?_) | refine gS ?_)
    (refine FinQ hQ (congrArg Array.toList Tryz.results13) _ _ ?_); simp (disch := omega) only [u, i64, ax, if_true, forall_const, reduceCtorEq, implies_true, tvs, bf]
theorem quantN_len (r : Nat) (x : DV) (exp : Int) (hl : (words x.coef).length ≤ 40) (he : -6500 ≤ x.exp ∧ x.exp ≤ 6500) (hx : -6500 ≤ exp ∧ exp ≤ 6500) : (words (quantN r x exp)).length ≤ 2000 := by
  have tl : ∀ k : Nat, k ≤ 14000 → (words (10 ^ k)).length ≤ 900 := fun k hk => le_pow_words (ten_le k) (by omega)
  unfold quantN
  split
  · have h1 := length_mono (quoN_small r x.neg x.coef (10 ^ (exp - x.exp).toNat))
    have h2 := length_add x.coef 1
    have h3 : (words 1).length ≤ 1 := length_le (by decide)
    omega
  · have h1 := length_mul x.coef (10 ^ (x.exp - exp).toNat)
    have h2 := tl (x.exp - exp).toNat (by omega)
    omega
theorem quant_ref (r : Nat) (hr : r ≤ 4) (x : DV) (exp : Int) (hm : x.coef ≠ 0) :
    rndR r x.neg (stQ x.coef (x.exp - exp) / 2) (decide (stQ x.coef (x.exp - exp) % 2 = 1)) (stR x.coef (x.exp - exp)) = quantN r x exp ∧ (!(decide (stQ x.coef (x.exp - exp) % 2 = 1)) && !(stR x.coef (x.exp - exp))) = quantX x exp := by
  unfold quantN quantX
  by_cases h : x.exp < exp
  · rw [if_pos h, if_pos h]
    obtain ⟨k1, k2⟩ := st_neg r hr x.neg x.coef x.exp exp hm h
    refine ⟨k1, k2.trans ?_⟩
    rw [decide_eq_decide, st_dvd hm]
    omega
  · rw [if_neg h, if_neg h]
    exact st_pos r hr x.neg x.coef x.exp exp hm (by omega)
theorem quantD_in (p : Nat) (g : Int) (r : Nat) (x : DV) (exp : Int) (hp : 1 ≤ p ∧ p ≤ 400) (hg : 1 ≤ g ∧ g ≤ 6000) (hx : rightD x) : rightD (quantD p g r x exp).1 ∧ inD p g (quantD p g r x exp).1 := by
  have hn : rightD nanD ∧ inD p g nanD := ⟨.inr (.inr ⟨rfl, rfl, rfl, rfl⟩), .inl (by show 2 ≠ 0; decide)⟩
  unfold quantD
  split
  · rename_i h; exact ⟨hx, .inl (by show x.kind ≠ 0; omega)⟩
  · split
    · exact hn
    · rename_i h
      split
      · rename_i h2; exact ⟨.inl ⟨rfl, by show -1000000 ≤ exp; omega, by show exp ≤ 1000000; omega⟩, h2⟩
      · exact hn
set_option maxHeartbeats 16000000 in
theorem ret_Quantize22 (p : Nat) (g : Int) (r : Nat) (hp : 1 ≤ p ∧ p ≤ 400) (hg : 1 ≤ g ∧ g ≤ 6000) (hr : r ≤ 4) (d : DI) (h : d.ok) (hin : d.okIn p g) (exp : Int) (e1 : -9223372036854775808 ≤ exp) (e2 : exp < 9223372036854775808) :
    Ret Tryz.prog GEs 47 [cx p g r, d.av, i64 exp] (.tup [dv (quantD p g r d.D exp).1, i64 (quantD p g r d.D exp).2]) := by
  obtain ⟨rd, k1, k2⟩ := (DI.okIn_D hin)
  have ex := dexp_b hp hg hin
  have hl := d.len_le h
  have hT := ret_Tiny22 p g r (by omega) hg
  have hZ := ret_Zero22 d.k d.e d.neg d.cs h.wd (by have := h.len; omega)
  have hO := ret_Of22 d.k d.e d.neg d.cs h.wd (by have := h.len; omega)
  have hD : d.D = ⟨d.k.toNat, d.neg, val d.cs, d.e⟩ := rfl
  unfold quantD
  by_cases c2 : d.D.kind = 2
  · rw [if_pos c2, nanD_of rd c2]
    have kk : d.k = 2 := by have : d.k.toNat = 2 := c2; omega
    clear hZ hO hT hD c2 rd hl ex
    unfold nanD dv DI.av cx
    simp only
    refine RetN_start Tryz.func47 (by kernel_rfl) rfl fun Q hQ hQ2 => ?_; rw [Tryz.ntmps47]; simp only [u, i64, Nat.reduceSub, Nat.reduceAdd, bm]
    (refine gO ?_)
    (refine FinQ hQ (congrArg Array.toList Tryz.results47) _ _ ?_); simp (disch := omega) only [u, i64, ax, if_true, forall_const, reduceCtorEq, implies_true, tvs, bf]
    all_goals rfl
  · rw [if_neg c2]
    have kk : ¬ d.k = 2 := by have : ¬ d.k.toNat = 2 := c2; omega
    by_cases c1 : d.D.kind = 1 ∨ exp < 1 - g - (p - 1) ∨ g < exp
    · rw [if_pos c1]
      clear hZ hO
      have hTb : 1 - g - ((p : Int) - 1) ≤ 1 := by omega
      unfold nanD dv DI.av cx at *
      simp only
      by_cases q1 : d.k = 1
      · clear hD c1 c2 rd hl ex
        generalize 1 - g - ((p : Int) - 1) = T at *
        refine RetN_start Tryz.func47 (by kernel_rfl) rfl fun Q hQ hQ2 => ?_; rw [Tryz.ntmps47]; simp only [u, i64, Nat.reduceSub, Nat.reduceAdd, bm]
        (refine gO ?_)
        (refine FinQ hQ (congrArg Array.toList Tryz.results47) _ _ ?_); simp (disch := omega) only [u, i64, ax, if_true, forall_const, reduceCtorEq, implies_true, tvs, bf]
        all_goals rfl
      · have q0 : ¬ d.D.kind = 1 := by show ¬ d.k.toNat = 1; omega
        by_cases q2 : exp < 1 - g - (p - 1)
        · clear hD c1 c2 rd hl ex q0
          generalize 1 - g - ((p : Int) - 1) = T at *
          refine RetN_start Tryz.func47 (by kernel_rfl) rfl fun Q hQ hQ2 => ?_; rw [Tryz.ntmps47]; simp only [u, i64, Nat.reduceSub, Nat.reduceAdd, bm]
          repeat (first | (refine gC ?_; first | refine aA ?_ | (refine cR hT ?_; refine sX ?_; try refine aA ?_)) | (refine cR hT ?_; refine sX ?_; try refine aA ?_) | refine gS ?_)
          (refine FinQ hQ (congrArg Array.toList Tryz.results47) _ _ ?_); simp (disch := omega) only [u, i64, ax, if_true, forall_const, reduceCtorEq, implies_true, tvs, bf]
          all_goals rfl
        · have q3 : g < exp := by omega
          clear hD c1 c2 rd hl ex q0
          generalize 1 - g - ((p : Int) - 1) = T at *
          refine RetN_start Tryz.func47 (by kernel_rfl) rfl fun Q hQ hQ2 => ?_; rw [Tryz.ntmps47]; simp only [u, i64, Nat.reduceSub, Nat.reduceAdd, bm]
          repeat (first | (refine gC ?_; first | refine aA ?_ | (refine cR hT ?_; refine sX ?_; try refine aA ?_)) | (refine cR hT ?_; refine sX ?_; try refine aA ?_) | refine gS ?_)
          (refine FinQ hQ (congrArg Array.toList Tryz.results47) _ _ ?_); simp (disch := omega) only [u, i64, ax, if_true, forall_const, reduceCtorEq, implies_true, tvs, bf]
          all_goals rfl
    · rw [if_neg c1]
      have q0 : d.k = 0 := by have : ¬ d.k.toNat = 1 := fun h => c1 (.inl h); omega
      have q2 : ¬ exp < 1 - g - ((p : Int) - 1) := fun h => c1 (.inr (.inl h))
      have q3 : ¬ g < exp := fun h => c1 (.inr (.inr h))
      have hb := quantN_len r d.D exp hl ex (by omega)
      have hI := ret_In22 p g r hp hg 0 exp d.neg (words (quantN r d.D exp)) (by decide) (by omega) (Wd_words _) hb
      rw [val_words, show mkD 0 d.neg (quantN r d.D exp) exp = ⟨0, d.D.neg, quantN r d.D exp, exp⟩ from rfl] at hI
      by_cases z0 : val d.cs = 0
      · rw [decT (show d.k = 0 ∧ val d.cs = 0 from ⟨q0, z0⟩)] at hZ
        have e1 : quantN r d.D exp = 0 := by
          have hc0 : d.D.coef = 0 := z0
          unfold quantN
          rw [hc0]
          split
          · have := quoN_exact r d.D.neg 0 (10 ^ (exp - d.D.exp).toNat) (ten_pos _)
            rwa [Nat.zero_mul] at this
          · exact Nat.zero_mul _
        have e2 : quantX d.D exp = true := by
          have hc0 : d.D.coef = 0 := z0
          unfold quantX
          rw [hc0]
          split
          · rw [Nat.zero_mod]; rfl
          · rfl
        rw [e1, e2, if_pos (show inD p g ⟨0, d.D.neg, 0, exp⟩ from .inr (.inl ⟨rfl, by show 1 - g - ((p : Int) - 1) ≤ exp; omega, by show exp ≤ g; omega⟩)), if_pos rfl, show d.D.neg = d.neg from rfl]
        clear hI hb hO hD c1 c2 rd hl ex e1 e2 z0
        unfold dv DI.av cx at *
        simp only
        generalize 1 - g - ((p : Int) - 1) = T at *
        refine RetN_start Tryz.func47 (by kernel_rfl) rfl fun Q hQ hQ2 => ?_; rw [Tryz.ntmps47]; simp only [u, i64, Nat.reduceSub, Nat.reduceAdd, bm]
        repeat (first | (refine gC ?_; first | refine aA ?_ | ((first | refine cR hT ?_ | refine cR hZ ?_); refine sX ?_; try refine aA ?_)) | ((first | refine cR hT ?_ | refine cR hZ ?_); refine sX ?_; try refine aA ?_) | refine gS ?_)
        (refine FinQ hQ (congrArg Array.toList Tryz.results47) _ _ ?_); simp (disch := omega) only [u, i64, ax, if_true, forall_const, reduceCtorEq, implies_true, tvs, bf]
        all_goals rfl
      · rw [decF (show ¬ (d.k = 0 ∧ val d.cs = 0) from fun h => z0 h.2)] at hZ
        have hSt := ret_Steps22 d.neg (val d.cs) d.e exp z0 (by show (words d.D.coef).length ≤ 2000; omega) (by have : -6500 ≤ d.e ∧ d.e ≤ 6500 := ex; omega) (by omega) (by have : -6500 ≤ d.e ∧ d.e ≤ 6500 := ex; omega)
        have hRd := ret_Rounded r hr d.neg (stQ (val d.cs) (d.e - exp) / 2) (decide (stQ (val d.cs) (d.e - exp) % 2 = 1)) (stR (val d.cs) (d.e - exp)) (Nat.le_trans (stQ_len (val d.cs) (d.e - exp) (by show (words d.D.coef).length ≤ 2000; omega) (by have : -6500 ≤ d.e ∧ d.e ≤ 6500 := ex; omega)) (by decide))
        obtain ⟨x1, x2⟩ := quant_ref r hr d.D exp z0
        have hRd2 : Ret Tryz.prog GEs 126 [i64 r, .bool d.neg, .agg [nat (stQ (val d.cs) (d.e - exp) / 2), .bool (decide (stQ (val d.cs) (d.e - exp) % 2 = 1)), .bool (stR (val d.cs) (d.e - exp))]] (.tup [nat (quantN r d.D exp), .bool (quantX d.D exp)]) := by
          rw [← x1, ← x2]; exact hRd
        have hRd := hRd2
        clear hRd2 x1 x2 hb c1 c2 rd hl ex
        rw [show d.D.neg = d.neg from rfl] at hI ⊢
        generalize quantN r d.D exp = N at *
        generalize quantX d.D exp = X at *
        clear hD
        generalize stQ (val d.cs) (d.e - exp) = Q1 at *
        generalize stR (val d.cs) (d.e - exp) = R1 at *
        by_cases hi : inD p g ⟨0, d.neg, N, exp⟩
        · rw [if_pos hi]
          rw [decT hi] at hI
          clear hi
          unfold dv DI.av cx rl22 at *
          simp only
          generalize 1 - g - ((p : Int) - 1) = T at *
          cases X with
          | true =>
            refine RetN_start Tryz.func47 (by kernel_rfl) rfl fun Q hQ hQ2 => ?_; rw [Tryz.ntmps47]; simp only [u, i64, Nat.reduceSub, Nat.reduceAdd, bm]
            repeat (first | (refine gC ?_; first | refine aA ?_ | ((first | refine cR hT ?_ | refine cR hZ ?_ | refine cR hO ?_ | refine cR hSt ?_ | refine cR hRd ?_ | refine cR hI ?_); refine sX ?_; try refine aA ?_)) | ((first | refine cR hT ?_ | refine cR hZ ?_ | refine cR hO ?_ | refine cR hSt ?_ | refine cR hRd ?_ | refine cR hI ?_); refine sX ?_; try refine aA ?_) | refine gS ?_)
            (refine FinQ hQ (congrArg Array.toList Tryz.results47) _ _ ?_); simp (disch := omega) only [u, i64, ax, if_true, forall_const, reduceCtorEq, implies_true, tvs, bf]
            all_goals rfl
          | false =>
            refine RetN_start Tryz.func47 (by kernel_rfl) rfl fun Q hQ hQ2 => ?_; rw [Tryz.ntmps47]; simp only [u, i64, Nat.reduceSub, Nat.reduceAdd, bm]
            repeat (first | (refine gC ?_; first | refine aA ?_ | ((first | refine cR hT ?_ | refine cR hZ ?_ | refine cR hO ?_ | refine cR hSt ?_ | refine cR hRd ?_ | refine cR hI ?_); refine sX ?_; try refine aA ?_)) | ((first | refine cR hT ?_ | refine cR hZ ?_ | refine cR hO ?_ | refine cR hSt ?_ | refine cR hRd ?_ | refine cR hI ?_); refine sX ?_; try refine aA ?_) | refine gS ?_)
            (refine FinQ hQ (congrArg Array.toList Tryz.results47) _ _ ?_); simp (disch := omega) only [u, i64, ax, if_true, forall_const, reduceCtorEq, implies_true, tvs, bf]
            all_goals rfl
        · rw [if_neg hi]
          rw [decF hi] at hI
          clear hi
          unfold nanD dv DI.av cx rl22 at *
          simp only
          generalize 1 - g - ((p : Int) - 1) = T at *
          refine RetN_start Tryz.func47 (by kernel_rfl) rfl fun Q hQ hQ2 => ?_; rw [Tryz.ntmps47]; simp only [u, i64, Nat.reduceSub, Nat.reduceAdd, bm]
          repeat (first | (refine gC ?_; first | refine aA ?_ | ((first | refine cR hT ?_ | refine cR hZ ?_ | refine cR hO ?_ | refine cR hSt ?_ | refine cR hRd ?_ | refine cR hI ?_); refine sX ?_; try refine aA ?_)) | ((first | refine cR hT ?_ | refine cR hZ ?_ | refine cR hO ?_ | refine cR hSt ?_ | refine cR hRd ?_ | refine cR hI ?_); refine sX ?_; try refine aA ?_) | refine gS ?_)
          (refine FinQ hQ (congrArg Array.toList Tryz.results47) _ _ ?_); simp (disch := omega) only [u, i64, ax, if_true, forall_const, reduceCtorEq, implies_true, tvs, bf]
          all_goals rfl
set_option maxHeartbeats 16000000 in
theorem ret_LawDecimalQuantizes (p g r : Int) (r1 : -9223372036854775808 ≤ r) (r2 : r < 9223372036854775808) (d : DI) (hd : d.pra) (exp : Int) (e1 : -9223372036854775808 ≤ exp) (e2 : exp < 9223372036854775808) : Ret Tryz.prog GEs 9 [cx p g r, d.av, i64 exp] (.bool true) := by
  have hS := ret_Short1 d hd.len
  by_cases hs : d.cs.length ≤ 40
  · rw [decT hs] at hS
    have h1 := hd.ok hs
    have hT := ret_TheirD d.k d.e d.neg d.cs
    have hX := ret_Ctx p g r
    have hA0 : ∃ z : Nat, Ret Tryz.prog GEs 45 [cx p g r, .lst 1 [i64 d.k, .bool d.neg, ws d.cs, i64 d.e]] (i64 z) := by
      by_cases hC : okC p g r
      · obtain ⟨hp, hg, hr⟩ := hC
        obtain ⟨p, rfl⟩ := Int.eq_ofNat_of_zero_le (show 0 ≤ p by omega)
        obtain ⟨r, rfl⟩ := Int.eq_ofNat_of_zero_le (show 0 ≤ r by omega)
        exact ⟨if d.okIn p g then 0 else 221, by have := ret_Args22_1 p g r _ d (ret_Check22_1 p g r (by omega) hg (by omega) d h1); split <;> (rename_i h; first | rwa [if_pos h] at this | rwa [if_neg h] at this)⟩
      · exact ⟨220, ret_Args22_1 p g r _ d (ret_Check22b_1 p g r r1 r2 hC d h1)⟩
    by_cases he : -1000000 ≤ exp ∧ exp ≤ 1000000
    · have hq1 : ¬ exp < -1000000 := by omega
      have hq2 : ¬ 1000000 < exp := by omega
      by_cases hC : okC p g r
      · obtain ⟨hp, hg, hr⟩ := hC
        obtain ⟨p, rfl⟩ := Int.eq_ofNat_of_zero_le (show 0 ≤ p by omega)
        obtain ⟨r, rfl⟩ := Int.eq_ofNat_of_zero_le (show 0 ≤ r by omega)
        have hR := ret_DQuantize p g r (by omega) hg (by omega) d h1 exp he
        have hA := ret_Args22_1 p g r _ d (ret_Check22_1 p g r (by omega) hg (by omega) d h1)
        by_cases hb : d.okIn p g
        · rw [if_pos hb] at hR hA
          have h22 := ret_Quantize22 p g r (by omega) hg (by omega) d h1 hb exp e1 e2
          obtain ⟨i1, i2⟩ := quantD_in p g r d.D exp (by omega) hg (DI.okIn_D hb).1
          have hF := ret_FitsOk (quantD p g r d.D exp).1 (quantD p g r d.D exp).2 (in_len2 (by omega) i1 i2)
          generalize quantD p g r d.D exp = y at *
          clear i1 i2 hb h1 hA0
          unfold DI.av dv cx at *
          refine RetN_start Tryz.func9 (by kernel_rfl) rfl fun Q hQ hQ2 => ?_; rw [Tryz.ntmps9]; simp only [u, i64, Nat.reduceSub, Nat.reduceAdd, bm]
          (refine gO ?_)
          (refine gC ?_)
          simp (disch := omega) only [u, i64, ax, eq_self, if_true, if_false, Nat.reduceAdd, Int.reduceToNat, Int.reduceAdd, tvs, bs, Nat.reduceMul, List.take_succ_cons, List.take_zero, List.nil_append, List.cons_append, List.append_nil, Nat.reduceLeDiff]
          repeat (first | (refine gC ?_; first | refine aA ?_ | ((first | refine cR hS ?_ | refine cR hR ?_); refine sX ?_; try refine aA ?_)) | ((first | refine cR hS ?_ | refine cR hR ?_); refine sX ?_; try refine aA ?_) | refine gS ?_)
          (refine gC ?_)
          simp (disch := omega) only [u, i64, ax, eq_self, if_true, if_false, Nat.reduceAdd, Int.reduceToNat, Int.reduceAdd, tvs, bs, Nat.reduceMul, List.take_succ_cons, List.take_zero, List.nil_append, List.cons_append, List.append_nil, Nat.reduceLeDiff]
          repeat (first | (refine gC ?_; first | refine aA ?_ | ((first | refine cR hA ?_ | refine cR hX ?_ | refine cR hT ?_ | refine cR h22 ?_ | refine cR hF ?_ | refine cR ret_awake22 ?_); refine sX ?_; try refine aA ?_)) | ((first | refine cR hA ?_ | refine cR hX ?_ | refine cR hT ?_ | refine cR h22 ?_ | refine cR hF ?_ | refine cR ret_awake22 ?_); refine sX ?_; try refine aA ?_) | refine gS ?_)
          (refine FinQ hQ (congrArg Array.toList Tryz.results9) _ _ ?_); simp (disch := omega) only [u, i64, ax, if_true, forall_const, reduceCtorEq, implies_true, tvs, bf]
        · rw [if_neg hb] at hR hA
          have hF := FitsErz 221 (by decide) (by decide)
          rw [dvz] at hR
          clear hb h1 hA0
          unfold DI.av cx at *
          refine RetN_start Tryz.func9 (by kernel_rfl) rfl fun Q hQ hQ2 => ?_; rw [Tryz.ntmps9]; simp only [u, i64, Nat.reduceSub, Nat.reduceAdd, bm]
          (refine gO ?_)
          (refine gC ?_)
          simp (disch := omega) only [u, i64, ax, eq_self, if_true, if_false, Nat.reduceAdd, Int.reduceToNat, Int.reduceAdd, tvs, bs, Nat.reduceMul, List.take_succ_cons, List.take_zero, List.nil_append, List.cons_append, List.append_nil, Nat.reduceLeDiff]
          repeat (first | (refine gC ?_; first | refine aA ?_ | ((first | refine cR hS ?_ | refine cR hR ?_); refine sX ?_; try refine aA ?_)) | ((first | refine cR hS ?_ | refine cR hR ?_); refine sX ?_; try refine aA ?_) | refine gS ?_)
          (refine gC ?_)
          simp (disch := omega) only [u, i64, ax, eq_self, if_true, if_false, Nat.reduceAdd, Int.reduceToNat, Int.reduceAdd, tvs, bs, Nat.reduceMul, List.take_succ_cons, List.take_zero, List.nil_append, List.cons_append, List.append_nil, Nat.reduceLeDiff]
          repeat (first | (refine gC ?_; first | refine aA ?_ | ((first | refine cR hA ?_ | refine cR hF ?_ | refine cR ret_awake22 ?_); refine sX ?_; try refine aA ?_)) | ((first | refine cR hA ?_ | refine cR hF ?_ | refine cR ret_awake22 ?_); refine sX ?_; try refine aA ?_) | refine gS ?_)
          (refine FinQ hQ (congrArg Array.toList Tryz.results9) _ _ ?_); simp (disch := omega) only [u, i64, ax, if_true, forall_const, reduceCtorEq, implies_true, tvs, bf]
      · have hR := ret_DQuantizeB p g r r1 r2 hC d h1 exp he
        have hA := ret_Args22_1 p g r _ d (ret_Check22b_1 p g r r1 r2 hC d h1)
        have hF := FitsErz 220 (by decide) (by decide)
        rw [dvz] at hR
        clear hC h1 hA0
        unfold DI.av cx at *
        refine RetN_start Tryz.func9 (by kernel_rfl) rfl fun Q hQ hQ2 => ?_; rw [Tryz.ntmps9]; simp only [u, i64, Nat.reduceSub, Nat.reduceAdd, bm]
        (refine gO ?_)
        (refine gC ?_)
        simp (disch := omega) only [u, i64, ax, eq_self, if_true, if_false, Nat.reduceAdd, Int.reduceToNat, Int.reduceAdd, tvs, bs, Nat.reduceMul, List.take_succ_cons, List.take_zero, List.nil_append, List.cons_append, List.append_nil, Nat.reduceLeDiff]
        repeat (first | (refine gC ?_; first | refine aA ?_ | ((first | refine cR hS ?_ | refine cR hR ?_); refine sX ?_; try refine aA ?_)) | ((first | refine cR hS ?_ | refine cR hR ?_); refine sX ?_; try refine aA ?_) | refine gS ?_)
        (refine gC ?_)
        simp (disch := omega) only [u, i64, ax, eq_self, if_true, if_false, Nat.reduceAdd, Int.reduceToNat, Int.reduceAdd, tvs, bs, Nat.reduceMul, List.take_succ_cons, List.take_zero, List.nil_append, List.cons_append, List.append_nil, Nat.reduceLeDiff]
        repeat (first | (refine gC ?_; first | refine aA ?_ | ((first | refine cR hA ?_ | refine cR hF ?_ | refine cR ret_awake22 ?_); refine sX ?_; try refine aA ?_)) | ((first | refine cR hA ?_ | refine cR hF ?_ | refine cR ret_awake22 ?_); refine sX ?_; try refine aA ?_) | refine gS ?_)
        (refine FinQ hQ (congrArg Array.toList Tryz.results9) _ _ ?_); simp (disch := omega) only [u, i64, ax, if_true, forall_const, reduceCtorEq, implies_true, tvs, bf]
    · obtain ⟨z, hA⟩ := hA0
      have hR := ret_DQuantizeO p g r d h1 exp e1 e2 he
      have hF := FitsErz 1 (by decide) (by decide)
      rw [dvz] at hR
      clear h1 hX hT
      unfold DI.av cx at *
      by_cases hq1 : exp < -1000000
      · refine RetN_start Tryz.func9 (by kernel_rfl) rfl fun Q hQ hQ2 => ?_; rw [Tryz.ntmps9]; simp only [u, i64, Nat.reduceSub, Nat.reduceAdd, bm]
        (refine gO ?_)
        (refine gC ?_)
        simp (disch := omega) only [u, i64, ax, eq_self, if_true, if_false, Nat.reduceAdd, Int.reduceToNat, Int.reduceAdd, tvs, bs, Nat.reduceMul, List.take_succ_cons, List.take_zero, List.nil_append, List.cons_append, List.append_nil, Nat.reduceLeDiff]
        repeat (first | (refine gC ?_; first | refine aA ?_ | ((first | refine cR hS ?_ | refine cR hR ?_); refine sX ?_; try refine aA ?_)) | ((first | refine cR hS ?_ | refine cR hR ?_); refine sX ?_; try refine aA ?_) | refine gS ?_)
        (refine gC ?_)
        simp (disch := omega) only [u, i64, ax, eq_self, if_true, if_false, Nat.reduceAdd, Int.reduceToNat, Int.reduceAdd, tvs, bs, Nat.reduceMul, List.take_succ_cons, List.take_zero, List.nil_append, List.cons_append, List.append_nil, Nat.reduceLeDiff]
        repeat (first | (refine gC ?_; first | refine aA ?_ | ((first | refine cR hA ?_ | refine cR hF ?_ | refine cR ret_awake22 ?_); refine sX ?_; try refine aA ?_)) | ((first | refine cR hA ?_ | refine cR hF ?_ | refine cR ret_awake22 ?_); refine sX ?_; try refine aA ?_) | refine gS ?_)
        (refine FinQ hQ (congrArg Array.toList Tryz.results9) _ _ ?_); simp (disch := omega) only [u, i64, ax, if_true, forall_const, reduceCtorEq, implies_true, tvs, bf]
      · have hq2 : 1000000 < exp := by omega
        refine RetN_start Tryz.func9 (by kernel_rfl) rfl fun Q hQ hQ2 => ?_; rw [Tryz.ntmps9]; simp only [u, i64, Nat.reduceSub, Nat.reduceAdd, bm]
        (refine gO ?_)
        (refine gC ?_)
        simp (disch := omega) only [u, i64, ax, eq_self, if_true, if_false, Nat.reduceAdd, Int.reduceToNat, Int.reduceAdd, tvs, bs, Nat.reduceMul, List.take_succ_cons, List.take_zero, List.nil_append, List.cons_append, List.append_nil, Nat.reduceLeDiff]
        repeat (first | (refine gC ?_; first | refine aA ?_ | ((first | refine cR hS ?_ | refine cR hR ?_); refine sX ?_; try refine aA ?_)) | ((first | refine cR hS ?_ | refine cR hR ?_); refine sX ?_; try refine aA ?_) | refine gS ?_)
        (refine gC ?_)
        simp (disch := omega) only [u, i64, ax, eq_self, if_true, if_false, Nat.reduceAdd, Int.reduceToNat, Int.reduceAdd, tvs, bs, Nat.reduceMul, List.take_succ_cons, List.take_zero, List.nil_append, List.cons_append, List.append_nil, Nat.reduceLeDiff]
        repeat (first | (refine gC ?_; first | refine aA ?_ | ((first | refine cR hA ?_ | refine cR hF ?_ | refine cR ret_awake22 ?_); refine sX ?_; try refine aA ?_)) | ((first | refine cR hA ?_ | refine cR hF ?_ | refine cR ret_awake22 ?_); refine sX ?_; try refine aA ?_) | refine gS ?_)
        (refine FinQ hQ (congrArg Array.toList Tryz.results9) _ _ ?_); simp (disch := omega) only [u, i64, ax, if_true, forall_const, reduceCtorEq, implies_true, tvs, bf]
  · rw [decF hs] at hS
    unfold DI.av cx at *
    refine RetN_start Tryz.func9 (by kernel_rfl) rfl fun Q hQ hQ2 => ?_; rw [Tryz.ntmps9]; simp only [u, i64, Nat.reduceSub, Nat.reduceAdd, bm]
    (refine gO ?_)
    (refine gC ?_)
    simp (disch := omega) only [u, i64, ax, eq_self, if_true, if_false, Nat.reduceAdd, Int.reduceToNat, Int.reduceAdd, tvs, bs, Nat.reduceMul, List.take_succ_cons, List.take_zero, List.nil_append, List.cons_append, List.append_nil, Nat.reduceLeDiff]
    repeat (first | (refine gC ?_; first | refine aA ?_ | ((first | refine cR hS ?_ | refine cR ret_awake22 ?_); refine sX ?_; try refine aA ?_)) | ((first | refine cR hS ?_ | refine cR ret_awake22 ?_); refine sX ?_; try refine aA ?_) | refine gS ?_)
    (refine FinQ hQ (congrArg Array.toList Tryz.results9) _ _ ?_); simp (disch := omega) only [u, i64, ax, if_true, forall_const, reduceCtorEq, implies_true, tvs, bf]
end Go.Proofs
