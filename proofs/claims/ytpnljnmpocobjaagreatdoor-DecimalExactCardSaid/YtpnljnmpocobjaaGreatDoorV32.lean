/-
  Contracts of functions of the program, each proved by a walk.
-/
import Derived.Test.YtpnljnmpocobjaaGreatDoorV31
set_option maxRecDepth 100000
set_option maxHeartbeats 4000000
set_option linter.unusedVariables false
set_option linter.unusedSimpArgs false
set_option maxRecDepth 100000
namespace Go.Proofs
open Go.Ax
set_option maxHeartbeats 200000000 in
theorem ret_LawDecimalExact (p g r : Int) (r1 : -9223372036854775808 ≤ r) (r2 : r < 9223372036854775808) (d c b : DI) (hd : d.pra) (hc : c.pra) (hbb : b.pra) : Ret Tryz.prog GEs 14 [cx p g r, d.av, c.av, b.av] (.bool true) := by
  have hS := ret_Short3 d c b hd.len hc.len hbb.len
  by_cases hs : d.cs.length ≤ 40 ∧ c.cs.length ≤ 40 ∧ b.cs.length ≤ 40
  · rw [decT hs] at hS
    have h1 := hd.ok hs.1
    have h2 := hc.ok hs.2.1
    have h3 := hbb.ok hs.2.2
    by_cases hC : okC p g r
    · obtain ⟨hp, hg, hr⟩ := hC
      obtain ⟨p, rfl⟩ := Int.eq_ofNat_of_zero_le (show 0 ≤ p by omega)
      obtain ⟨r, rfl⟩ := Int.eq_ofNat_of_zero_le (show 0 ≤ r by omega)
      have hA := ret_Args22_3 p g r _ d c b (ret_Check22_3 p g r (by omega) hg (by omega) d c b h1 h2 h3)
      by_cases hb : d.okIn p g ∧ c.okIn p g ∧ b.okIn p g
      · rw [if_pos hb] at hA
        have hN := ret_near3 d c b
        by_cases hn : nearP d ∧ nearP c ∧ nearP b
        · rw [decT hn] at hN
          have t1 := ret_TheirD d.k d.e d.neg d.cs
          have t2 := ret_TheirD c.k c.e c.neg c.cs
          have t3 := ret_TheirD b.k b.e b.neg b.cs
          obtain ⟨⟨dk, de1, de2⟩, ⟨ck, ce1, ce2⟩, ⟨bk, be1, be2⟩⟩ := hn
          obtain ⟨z1, d1, hV1, v1, n1, lz1, ld1⟩ := ret_ValueQ d.k d.e d.neg d.cs dk h1.wd h1.len (by omega)
          obtain ⟨z2, d2, hV2, v2, n2, lz2, ld2⟩ := ret_ValueQ c.k c.e c.neg c.cs ck h2.wd h2.len (by omega)
          obtain ⟨z3, d3, hV3, v3, n3, lz3, ld3⟩ := ret_ValueQ b.k b.e b.neg b.cs bk h3.wd h3.len (by omega)
          have tl : ∀ k : Nat, k ≤ 2000 → (words (10 ^ k)).length ≤ 126 := fun k hk => le_pow_words (ten_le k) (by omega)
          have tl2 : ∀ k : Nat, k ≤ 8000 → (words (10 ^ k)).length ≤ 501 := fun k hk => le_pow_words (ten_le k) (by omega)
          have a1 := tl d.e.toNat (by omega)
          have a2 := tl (-d.e).toNat (by omega)
          have a3 := tl c.e.toNat (by omega)
          have a4 := tl (-c.e).toNat (by omega)
          have a5 := tl b.e.toNat (by omega)
          have a6 := tl (-b.e).toNat (by omega)
          have b1 : (words z1.natAbs).length ≤ 170 := by omega
          have b2 : (words d1).length ≤ 170 := by omega
          have b3 : (words z2.natAbs).length ≤ 170 := by omega
          have b4 : (words d2).length ≤ 170 := by omega
          have b5 : (words z3.natAbs).length ≤ 170 := by omega
          have b6 : (words d3).length ≤ 170 := by omega
          clear a1 a2 a3 a4 a5 a6 lz1 lz2 lz3 ld1 ld2 ld3
          obtain ⟨z4, d4, g4, w4, hAd⟩ := ret_Add12z z1 d1 z2 d2 (by omega) (by omega) (by omega) (by omega) n1 n2
          obtain ⟨z5, d5, g5, w5, hMu⟩ := ret_Mul12 z1 d1 z2 d2 (by omega) (by omega) (by omega) (by omega) n1 n2
          obtain ⟨q1, q2⟩ := add_len z1 z2 d1 d2 b1 b2 b3 b4
          obtain ⟨c1, c2⟩ := low_len w4 (L := 400) (by omega) (by omega)
          have m1 := length_mul z1.natAbs z2.natAbs
          rw [← Int.natAbs_mul] at m1
          obtain ⟨c3, c4⟩ := low_len w5 (L := 400) (by omega) (by omega)
          obtain ⟨z6, d6, g6, w6, hA2⟩ := ret_Add12z z5 d5 z3 d3 (by omega) (by omega) (by omega) (by omega) w5.dnz n3
          obtain ⟨q3, q4⟩ := add_len z5 z3 d5 d3 (L := 400) c3 c4 (by omega) (by omega)
          obtain ⟨c5, c6⟩ := low_len w6 (L := 900) (by omega) (by omega)
          have x4 := sum_val r v1 v2 w4
          have x5 : val10 z5 d5 (sg (d.neg != c.neg) (val d.cs * val c.cs)) (d.e + c.e) := by
            rw [sg_mul]
            exact val10_low (val10_mul v1 v2) w5.g0 w5.num w5.den
          have x6 := sum_val r x5 v3 w6
          have l1 : (words (val d.cs)).length ≤ 40 := d.len_le h1
          have l2 : (words (val c.cs)).length ≤ 40 := c.len_le h2
          have l3 : (words (val b.cs)).length ≤ 40 := b.len_le h3
          have kd : d.D.kind = 0 := by show d.k.toNat = 0; omega
          have kc : c.D.kind = 0 := by show c.k.toNat = 0; omega
          have kb : b.D.kind = 0 := by show b.k.toNat = 0; omega
          have f1 : addD p g r d.D c.D = finD0 p g r (sumN r d.neg (val d.cs * 10 ^ (d.e - min d.e c.e).toNat) c.neg (val c.cs * 10 ^ (c.e - min d.e c.e).toNat)) (sumM d.neg (val d.cs * 10 ^ (d.e - min d.e c.e).toNat) c.neg (val c.cs * 10 ^ (c.e - min d.e c.e).toNat)) (min d.e c.e) (min d.e c.e) := by
            unfold addD
            rw [if_neg (by omega), if_neg (fun h => by omega), if_neg (by omega), if_neg (by omega)]
            rfl
          have f0 : timesD d.D c.D = (⟨0, d.neg != c.neg, val d.cs * val c.cs, d.e + c.e⟩, true) := by
            unfold timesD
            rw [if_neg (by omega), if_neg (by omega)]
            rfl
          have f2 : mulD p g r d.D c.D = finD0 p g r (d.neg != c.neg) (val d.cs * val c.cs) (d.e + c.e) (d.e + c.e) := by
            unfold mulD
            rw [f0, if_pos rfl]
            unfold plusD
            rw [if_pos rfl]
          have f3 : fusedD p g r d.D c.D b.D = finD0 p g r (sumN r (d.neg != c.neg) (val d.cs * val c.cs * 10 ^ (d.e + c.e - min (d.e + c.e) b.e).toNat) b.neg (val b.cs * 10 ^ (b.e - min (d.e + c.e) b.e).toNat)) (sumM (d.neg != c.neg) (val d.cs * val c.cs * 10 ^ (d.e + c.e - min (d.e + c.e) b.e).toNat) b.neg (val b.cs * 10 ^ (b.e - min (d.e + c.e) b.e).toNat)) (min (d.e + c.e) b.e) (min (d.e + c.e) b.e) := by
            unfold fusedD
            rw [if_neg (by omega), f0, if_pos rfl]
            unfold addD
            rw [if_neg (fun h => by rcases h with h | h; cases h; omega), if_neg (fun h => by cases h.1), if_neg (fun h => by cases h), if_neg (by omega)]
            rfl
          have m2 := length_mul (val d.cs) (val c.cs)
          have y1 := length_mul (val d.cs) (10 ^ (d.e - min d.e c.e).toNat)
          have y2 := length_mul (val c.cs) (10 ^ (c.e - min d.e c.e).toNat)
          have y3 := length_mul (val d.cs * val c.cs) (10 ^ (d.e + c.e - min (d.e + c.e) b.e).toNat)
          have y4 := length_mul (val b.cs) (10 ^ (b.e - min (d.e + c.e) b.e).toNat)
          have y5 := tl2 (d.e - min d.e c.e).toNat (by omega)
          have y6 := tl2 (c.e - min d.e c.e).toNat (by omega)
          have y7 := tl2 (d.e + c.e - min (d.e + c.e) b.e).toNat (by omega)
          have y8 := tl2 (b.e - min (d.e + c.e) b.e).toNat (by omega)
          have s1 := sumM_len d.neg (val d.cs * 10 ^ (d.e - min d.e c.e).toNat) c.neg (val c.cs * 10 ^ (c.e - min d.e c.e).toNat)
          have s2 := sumM_len (d.neg != c.neg) (val d.cs * val c.cs * 10 ^ (d.e + c.e - min (d.e + c.e) b.e).toNat) b.neg (val b.cs * 10 ^ (b.e - min (d.e + c.e) b.e).toNat)
          have F1 := ret_fine p g r (by omega) hg (by omega) _ _ _ (min d.e c.e) (by omega) (by omega) z4 d4 x4 w4.dnz (by omega) (by omega)
          have F2 := ret_fine p g r (by omega) hg (by omega) _ _ _ (d.e + c.e) (by omega) (by omega) z5 d5 x5 w5.dnz (by omega) (by omega)
          have F3 := ret_fine p g r (by omega) hg (by omega) _ _ _ (min (d.e + c.e) b.e) (by omega) (by omega) z6 d6 x6 w6.dnz (by omega) (by omega)
          rw [← f1] at F1
          rw [← f2] at F2
          rw [← f3] at F3
          have R1 := ret_DAdd p g r (by omega) hg (by omega) d c h1 h2
          have R2 := ret_DMul p g r (by omega) hg (by omega) d c h1 h2
          have R3 := ret_DFused p g r (by omega) hg (by omega) d c b h1 h2 h3
          rw [if_pos ⟨hb.1, hb.2.1⟩] at R1 R2
          rw [if_pos hb] at R3
          clear f0 f1 f2 f3 x4 x5 x6 y1 y2 y3 y4 y5 y6 y7 y8 s1 s2 m1 m2 q1 q2 q3 q4 c1 c2 c3 c4 c5 c6 w4 w5 w6 v1 v2 v3 b1 b2 b3 b4 b5 b6 l1 l2 l3 kd kc kb tl tl2 n1 n2 n3 h1 h2 h3 hb de1 de2 ce1 ce2 be1 be2
          generalize addD p g r d.D c.D = u1 at *
          generalize mulD p g r d.D c.D = u2 at *
          generalize fusedD p g r d.D c.D b.D = u3 at *
          clear hs
          unfold DI.av dv cx qz at *
          generalize decide (z1 < 0) = o1 at *
          generalize decide (z2 < 0) = o2 at *
          generalize decide (z3 < 0) = o3 at *
          generalize decide (z4 < 0) = o4 at *
          generalize decide (z5 < 0) = o5 at *
          generalize decide (z6 < 0) = o6 at *
          generalize z1.natAbs = m1 at *
          generalize z2.natAbs = m2 at *
          generalize z3.natAbs = m3 at *
          generalize z4.natAbs = m4 at *
          generalize z5.natAbs = m5 at *
          generalize z6.natAbs = m6 at *
          refine RetN_start Tryz.func14 (by kernel_rfl) rfl fun Q hQ hQ2 => ?_; rw [Tryz.ntmps14]; simp only [u, i64, Nat.reduceSub, Nat.reduceAdd, bm]
          repeat (first | ((first | refine Gs ?_ | refine Gr ?_); simp (disch := omega) only [u, i64, ax, eq_self, if_true, if_false, Nat.reduceAdd, Int.reduceToNat, Int.reduceAdd, tvs, bs]; refine aA ?_) | refine G_seq ?_ | refine G_block ?_ | refine G_condT rfl ?_ | refine G_condF rfl ?_ | refine G_skip ?_ | refine G_ret ?_ | refine G_exit ?_ | refine q_tn ?_ | refine q_tr ?_ | refine q_tx ?_ | refine q_bn ?_ | refine q_br ?_ | refine q_bx ?_ | refine q_by (by decide) ?_)
          ((first | refine Gs ?_ | refine Gr ?_); simp (disch := omega) only [u, i64, ax, eq_self, if_true, if_false, Nat.reduceAdd, Int.reduceToNat, Int.reduceAdd, tvs, bs])
          simp (disch := omega) only [u, i64, ax, eq_self, if_true, if_false, Nat.reduceAdd, Int.reduceToNat, Int.reduceAdd, tvs, bs, Nat.reduceMul, List.take_succ_cons, List.take_zero, List.nil_append, List.cons_append, List.append_nil, Nat.reduceLeDiff]
          (refine cR hS ?_; simp (disch := omega) only [u, i64, ax, eq_self, if_true, if_false, Nat.reduceAdd, Int.reduceToNat, Int.reduceAdd, tvs, bs]; try refine aA ?_)
          simp (disch := omega) only [u, i64, ax, eq_self, if_true, if_false, Nat.reduceAdd, Int.reduceToNat, Int.reduceAdd, tvs, bs, Nat.reduceMul, List.take_succ_cons, List.take_zero, List.nil_append, List.cons_append, List.append_nil, Nat.reduceLeDiff]
          (refine cR hA ?_; simp (disch := omega) only [u, i64, ax, eq_self, if_true, if_false, Nat.reduceAdd, Int.reduceToNat, Int.reduceAdd, tvs, bs]; try refine aA ?_)
          simp (disch := omega) only [u, i64, ax, eq_self, if_true, if_false, Nat.reduceAdd, Int.reduceToNat, Int.reduceAdd, tvs, bs, Nat.reduceMul, List.take_succ_cons, List.take_zero, List.nil_append, List.cons_append, List.append_nil, Nat.reduceLeDiff]
          repeat (first | ((first | refine Gs ?_ | refine Gr ?_); simp (disch := omega) only [u, i64, ax, eq_self, if_true, if_false, Nat.reduceAdd, Int.reduceToNat, Int.reduceAdd, tvs, bs]; first | refine aA ?_ | (refine cR hN ?_; simp (disch := omega) only [u, i64, ax, eq_self, if_true, if_false, Nat.reduceAdd, Int.reduceToNat, Int.reduceAdd, tvs, bs]; try refine aA ?_)) | (refine cR hN ?_; simp (disch := omega) only [u, i64, ax, eq_self, if_true, if_false, Nat.reduceAdd, Int.reduceToNat, Int.reduceAdd, tvs, bs]; try refine aA ?_) | refine G_seq ?_ | refine G_block ?_ | refine G_condT rfl ?_ | refine G_condF rfl ?_ | refine G_skip ?_ | refine G_ret ?_ | refine G_exit ?_ | refine q_tn ?_ | refine q_tr ?_ | refine q_tx ?_ | refine q_bn ?_ | refine q_br ?_ | refine q_bx ?_ | refine q_by (by decide) ?_)
          (first | refine G_stree (.step 0 (.step 1 (.step 2 (.step 3 (.step 4 (.step 5 (.step 6 (.step 7 (.step 8 (.alt 9 (.alt 10 (.step 11 (.step 12 (.step 13 (.step 14 .done)))) (.alt 11 (.step 10 (.step 12 (.step 13 (.step 14 .done)))) .stop)) (.alt 10 (.alt 9 (.step 11 (.step 12 (.step 13 (.step 14 .done)))) (.alt 11 (.step 9 (.step 12 (.step 13 (.step 14 .done)))) .stop)) (.alt 11 (.alt 9 (.step 10 (.step 12 (.step 13 (.step 14 .done)))) (.alt 10 (.step 9 (.step 12 (.step 13 (.step 14 .done)))) .stop)) .stop)))))))))))) mixed (by kernel_rfl) ?_ | refine G_tree (.step 0 (.step 1 (.step 2 (.step 3 (.step 4 (.step 5 (.step 6 (.step 7 (.step 8 (.alt 9 (.alt 10 (.step 11 (.step 12 (.step 13 (.step 14 .done)))) (.alt 11 (.step 10 (.step 12 (.step 13 (.step 14 .done)))) .stop)) (.alt 10 (.alt 9 (.step 11 (.step 12 (.step 13 (.step 14 .done)))) (.alt 11 (.step 9 (.step 12 (.step 13 (.step 14 .done)))) .stop)) (.alt 11 (.alt 9 (.step 10 (.step 12 (.step 13 (.step 14 .done)))) (.alt 10 (.step 9 (.step 12 (.step 13 (.step 14 .done)))) .stop)) .stop)))))))))))) mixed (by kernel_rfl) ?_); simp (disch := omega) only [u, i64, ax, eq_self, if_true, if_false, Nat.reduceAdd, Int.reduceToNat, Int.reduceAdd, tvs, bs, x_done, x_step, x_alt, x_stop, lk_0, lk_S, mpD_nil, mpD_cons]
          refine callK_ret (t1) (by (simp (disch := omega) only [if_true, forall_const, reduceCtorEq, implies_true, bz]) <;> rfl) ?_; simp (disch := omega) only [u, i64, ax, eq_self, if_true, if_false, Nat.reduceAdd, Int.reduceToNat, Int.reduceAdd, tvs, bs, x_done, x_step, x_alt, x_stop, lk_0, lk_S, mpD_nil, mpD_cons]
          refine callK_ret (hV1) (by (simp (disch := omega) only [if_true, forall_const, reduceCtorEq, implies_true, bz]) <;> rfl) ?_; simp (disch := omega) only [u, i64, ax, eq_self, if_true, if_false, Nat.reduceAdd, Int.reduceToNat, Int.reduceAdd, tvs, bs, x_done, x_step, x_alt, x_stop, lk_0, lk_S, mpD_nil, mpD_cons]
          refine callK_ret (t2) (by (simp (disch := omega) only [if_true, forall_const, reduceCtorEq, implies_true, bz]) <;> rfl) ?_; simp (disch := omega) only [u, i64, ax, eq_self, if_true, if_false, Nat.reduceAdd, Int.reduceToNat, Int.reduceAdd, tvs, bs, x_done, x_step, x_alt, x_stop, lk_0, lk_S, mpD_nil, mpD_cons]
          refine callK_ret (hV2) (by (simp (disch := omega) only [if_true, forall_const, reduceCtorEq, implies_true, bz]) <;> rfl) ?_; simp (disch := omega) only [u, i64, ax, eq_self, if_true, if_false, Nat.reduceAdd, Int.reduceToNat, Int.reduceAdd, tvs, bs, x_done, x_step, x_alt, x_stop, lk_0, lk_S, mpD_nil, mpD_cons]
          refine callK_ret (t3) (by (simp (disch := omega) only [if_true, forall_const, reduceCtorEq, implies_true, bz]) <;> rfl) ?_; simp (disch := omega) only [u, i64, ax, eq_self, if_true, if_false, Nat.reduceAdd, Int.reduceToNat, Int.reduceAdd, tvs, bs, x_done, x_step, x_alt, x_stop, lk_0, lk_S, mpD_nil, mpD_cons]
          refine callK_ret (hV3) (by (simp (disch := omega) only [if_true, forall_const, reduceCtorEq, implies_true, bz]) <;> rfl) ?_; simp (disch := omega) only [u, i64, ax, eq_self, if_true, if_false, Nat.reduceAdd, Int.reduceToNat, Int.reduceAdd, tvs, bs, x_done, x_step, x_alt, x_stop, lk_0, lk_S, mpD_nil, mpD_cons]
          repeat' apply And.intro
          · refine aft_any ?_
            refine AWp_le (s' := mk 112 [(4, .ptr 0 0 0), (5, .ptr 1 0 0), (6, .ptr 2 0 0), (7, .ptr 3 0 0), (8, .bool false), (9, .ptr 4 0 0), (10, .ptr 5 0 0), (11, .ptr 6 0 0)] [⟨0, true, [i64 p, i64 g, i64 r]⟩, ⟨0, true, [i64 d.k, .bool d.neg, ws d.cs, i64 d.e]⟩, ⟨0, true, [i64 c.k, .bool c.neg, ws c.cs, i64 c.e]⟩, ⟨0, true, [i64 b.k, .bool b.neg, ws b.cs, i64 b.e]⟩, ⟨0, true, [.bool o1, nat m1, nat d1]⟩, ⟨0, true, [.bool o2, nat m2, nat d2]⟩, ⟨0, true, [.bool o3, nat m3, nat d3]⟩]) (by simp only [u, i64, Nat.reduceSub, Nat.reduceAdd, bm]) ?_
            exact exact_tail1 R1 R2 R3 hAd hMu hA2 F1 F2 F3 ret_awake22 hQ
          · refine aft_any ?_
            refine AWp_le (s' := mk 112 [(4, .ptr 0 0 0), (5, .ptr 1 0 0), (6, .ptr 2 0 0), (7, .ptr 3 0 0), (8, .bool false), (9, .ptr 4 0 0), (10, .ptr 6 0 0), (11, .ptr 5 0 0)] [⟨0, true, [i64 p, i64 g, i64 r]⟩, ⟨0, true, [i64 d.k, .bool d.neg, ws d.cs, i64 d.e]⟩, ⟨0, true, [i64 c.k, .bool c.neg, ws c.cs, i64 c.e]⟩, ⟨0, true, [i64 b.k, .bool b.neg, ws b.cs, i64 b.e]⟩, ⟨0, true, [.bool o1, nat m1, nat d1]⟩, ⟨0, true, [.bool o3, nat m3, nat d3]⟩, ⟨0, true, [.bool o2, nat m2, nat d2]⟩]) (by simp only [u, i64, Nat.reduceSub, Nat.reduceAdd, bm]) ?_
            exact exact_tail2 R1 R2 R3 hAd hMu hA2 F1 F2 F3 ret_awake22 hQ
          · refine aft_any ?_
            refine AWp_le (s' := mk 112 [(4, .ptr 0 0 0), (5, .ptr 1 0 0), (6, .ptr 2 0 0), (7, .ptr 3 0 0), (8, .bool false), (9, .ptr 5 0 0), (10, .ptr 4 0 0), (11, .ptr 6 0 0)] [⟨0, true, [i64 p, i64 g, i64 r]⟩, ⟨0, true, [i64 d.k, .bool d.neg, ws d.cs, i64 d.e]⟩, ⟨0, true, [i64 c.k, .bool c.neg, ws c.cs, i64 c.e]⟩, ⟨0, true, [i64 b.k, .bool b.neg, ws b.cs, i64 b.e]⟩, ⟨0, true, [.bool o2, nat m2, nat d2]⟩, ⟨0, true, [.bool o1, nat m1, nat d1]⟩, ⟨0, true, [.bool o3, nat m3, nat d3]⟩]) (by simp only [u, i64, Nat.reduceSub, Nat.reduceAdd, bm]) ?_
            exact exact_tail3 R1 R2 R3 hAd hMu hA2 F1 F2 F3 ret_awake22 hQ
          · refine aft_any ?_
            refine AWp_le (s' := mk 112 [(4, .ptr 0 0 0), (5, .ptr 1 0 0), (6, .ptr 2 0 0), (7, .ptr 3 0 0), (8, .bool false), (9, .ptr 6 0 0), (10, .ptr 4 0 0), (11, .ptr 5 0 0)] [⟨0, true, [i64 p, i64 g, i64 r]⟩, ⟨0, true, [i64 d.k, .bool d.neg, ws d.cs, i64 d.e]⟩, ⟨0, true, [i64 c.k, .bool c.neg, ws c.cs, i64 c.e]⟩, ⟨0, true, [i64 b.k, .bool b.neg, ws b.cs, i64 b.e]⟩, ⟨0, true, [.bool o2, nat m2, nat d2]⟩, ⟨0, true, [.bool o3, nat m3, nat d3]⟩, ⟨0, true, [.bool o1, nat m1, nat d1]⟩]) (by simp only [u, i64, Nat.reduceSub, Nat.reduceAdd, bm]) ?_
            exact exact_tail4 R1 R2 R3 hAd hMu hA2 F1 F2 F3 ret_awake22 hQ
          · refine aft_any ?_
            refine AWp_le (s' := mk 112 [(4, .ptr 0 0 0), (5, .ptr 1 0 0), (6, .ptr 2 0 0), (7, .ptr 3 0 0), (8, .bool false), (9, .ptr 5 0 0), (10, .ptr 6 0 0), (11, .ptr 4 0 0)] [⟨0, true, [i64 p, i64 g, i64 r]⟩, ⟨0, true, [i64 d.k, .bool d.neg, ws d.cs, i64 d.e]⟩, ⟨0, true, [i64 c.k, .bool c.neg, ws c.cs, i64 c.e]⟩, ⟨0, true, [i64 b.k, .bool b.neg, ws b.cs, i64 b.e]⟩, ⟨0, true, [.bool o3, nat m3, nat d3]⟩, ⟨0, true, [.bool o1, nat m1, nat d1]⟩, ⟨0, true, [.bool o2, nat m2, nat d2]⟩]) (by simp only [u, i64, Nat.reduceSub, Nat.reduceAdd, bm]) ?_
            exact exact_tail5 R1 R2 R3 hAd hMu hA2 F1 F2 F3 ret_awake22 hQ
          · refine aft_any ?_
            refine AWp_le (s' := mk 112 [(4, .ptr 0 0 0), (5, .ptr 1 0 0), (6, .ptr 2 0 0), (7, .ptr 3 0 0), (8, .bool false), (9, .ptr 6 0 0), (10, .ptr 5 0 0), (11, .ptr 4 0 0)] [⟨0, true, [i64 p, i64 g, i64 r]⟩, ⟨0, true, [i64 d.k, .bool d.neg, ws d.cs, i64 d.e]⟩, ⟨0, true, [i64 c.k, .bool c.neg, ws c.cs, i64 c.e]⟩, ⟨0, true, [i64 b.k, .bool b.neg, ws b.cs, i64 b.e]⟩, ⟨0, true, [.bool o3, nat m3, nat d3]⟩, ⟨0, true, [.bool o2, nat m2, nat d2]⟩, ⟨0, true, [.bool o1, nat m1, nat d1]⟩]) (by simp only [u, i64, Nat.reduceSub, Nat.reduceAdd, bm]) ?_
            exact exact_tail6 R1 R2 R3 hAd hMu hA2 F1 F2 F3 ret_awake22 hQ
        · rw [decF hn] at hN
          clear hn hb h1 h2 h3
          unfold DI.av cx at *
          refine RetN_start Tryz.func14 (by kernel_rfl) rfl fun Q hQ hQ2 => ?_; rw [Tryz.ntmps14]; simp only [u, i64, Nat.reduceSub, Nat.reduceAdd, bm]
          repeat (first | ((first | refine Gs ?_ | refine Gr ?_); simp (disch := omega) only [u, i64, ax, eq_self, if_true, if_false, Nat.reduceAdd, Int.reduceToNat, Int.reduceAdd, tvs, bs]; refine aA ?_) | refine G_seq ?_ | refine G_block ?_ | refine G_condT rfl ?_ | refine G_condF rfl ?_ | refine G_skip ?_ | refine G_ret ?_ | refine G_exit ?_ | refine q_tn ?_ | refine q_tr ?_ | refine q_tx ?_ | refine q_bn ?_ | refine q_br ?_ | refine q_bx ?_ | refine q_by (by decide) ?_)
          ((first | refine Gs ?_ | refine Gr ?_); simp (disch := omega) only [u, i64, ax, eq_self, if_true, if_false, Nat.reduceAdd, Int.reduceToNat, Int.reduceAdd, tvs, bs])
          simp (disch := omega) only [u, i64, ax, eq_self, if_true, if_false, Nat.reduceAdd, Int.reduceToNat, Int.reduceAdd, tvs, bs, Nat.reduceMul, List.take_succ_cons, List.take_zero, List.nil_append, List.cons_append, List.append_nil, Nat.reduceLeDiff]
          (refine cR hS ?_; simp (disch := omega) only [u, i64, ax, eq_self, if_true, if_false, Nat.reduceAdd, Int.reduceToNat, Int.reduceAdd, tvs, bs]; try refine aA ?_)
          simp (disch := omega) only [u, i64, ax, eq_self, if_true, if_false, Nat.reduceAdd, Int.reduceToNat, Int.reduceAdd, tvs, bs, Nat.reduceMul, List.take_succ_cons, List.take_zero, List.nil_append, List.cons_append, List.append_nil, Nat.reduceLeDiff]
          (refine cR hA ?_; simp (disch := omega) only [u, i64, ax, eq_self, if_true, if_false, Nat.reduceAdd, Int.reduceToNat, Int.reduceAdd, tvs, bs]; try refine aA ?_)
          simp (disch := omega) only [u, i64, ax, eq_self, if_true, if_false, Nat.reduceAdd, Int.reduceToNat, Int.reduceAdd, tvs, bs, Nat.reduceMul, List.take_succ_cons, List.take_zero, List.nil_append, List.cons_append, List.append_nil, Nat.reduceLeDiff]
          repeat (first | ((first | refine Gs ?_ | refine Gr ?_); simp (disch := omega) only [u, i64, ax, eq_self, if_true, if_false, Nat.reduceAdd, Int.reduceToNat, Int.reduceAdd, tvs, bs]; first | refine aA ?_ | ((first | refine cR hN ?_ | refine cR ret_awake22 ?_); simp (disch := omega) only [u, i64, ax, eq_self, if_true, if_false, Nat.reduceAdd, Int.reduceToNat, Int.reduceAdd, tvs, bs]; try refine aA ?_)) | ((first | refine cR hN ?_ | refine cR ret_awake22 ?_); simp (disch := omega) only [u, i64, ax, eq_self, if_true, if_false, Nat.reduceAdd, Int.reduceToNat, Int.reduceAdd, tvs, bs]; try refine aA ?_) | refine G_seq ?_ | refine G_block ?_ | refine G_condT rfl ?_ | refine G_condF rfl ?_ | refine G_skip ?_ | refine G_ret ?_ | refine G_exit ?_ | refine q_tn ?_ | refine q_tr ?_ | refine q_tx ?_ | refine q_bn ?_ | refine q_br ?_ | refine q_bx ?_ | refine q_by (by decide) ?_)
          (refine FinQ hQ (congrArg Array.toList Tryz.results14) _ _ ?_); simp (disch := omega) only [u, i64, ax, if_true, forall_const, reduceCtorEq, implies_true, tvs, bf]
      · rw [if_neg hb] at hA
        clear hb h1 h2 h3
        unfold DI.av cx at *
        refine RetN_start Tryz.func14 (by kernel_rfl) rfl fun Q hQ hQ2 => ?_; rw [Tryz.ntmps14]; simp only [u, i64, Nat.reduceSub, Nat.reduceAdd, bm]
        repeat (first | ((first | refine Gs ?_ | refine Gr ?_); simp (disch := omega) only [u, i64, ax, eq_self, if_true, if_false, Nat.reduceAdd, Int.reduceToNat, Int.reduceAdd, tvs, bs]; refine aA ?_) | refine G_seq ?_ | refine G_block ?_ | refine G_condT rfl ?_ | refine G_condF rfl ?_ | refine G_skip ?_ | refine G_ret ?_ | refine G_exit ?_ | refine q_tn ?_ | refine q_tr ?_ | refine q_tx ?_ | refine q_bn ?_ | refine q_br ?_ | refine q_bx ?_ | refine q_by (by decide) ?_)
        ((first | refine Gs ?_ | refine Gr ?_); simp (disch := omega) only [u, i64, ax, eq_self, if_true, if_false, Nat.reduceAdd, Int.reduceToNat, Int.reduceAdd, tvs, bs])
        simp (disch := omega) only [u, i64, ax, eq_self, if_true, if_false, Nat.reduceAdd, Int.reduceToNat, Int.reduceAdd, tvs, bs, Nat.reduceMul, List.take_succ_cons, List.take_zero, List.nil_append, List.cons_append, List.append_nil, Nat.reduceLeDiff]
        (refine cR hS ?_; simp (disch := omega) only [u, i64, ax, eq_self, if_true, if_false, Nat.reduceAdd, Int.reduceToNat, Int.reduceAdd, tvs, bs]; try refine aA ?_)
        simp (disch := omega) only [u, i64, ax, eq_self, if_true, if_false, Nat.reduceAdd, Int.reduceToNat, Int.reduceAdd, tvs, bs, Nat.reduceMul, List.take_succ_cons, List.take_zero, List.nil_append, List.cons_append, List.append_nil, Nat.reduceLeDiff]
        repeat (first | ((first | refine Gs ?_ | refine Gr ?_); simp (disch := omega) only [u, i64, ax, eq_self, if_true, if_false, Nat.reduceAdd, Int.reduceToNat, Int.reduceAdd, tvs, bs]; first | refine aA ?_ | ((first | refine cR hA ?_ | refine cR ret_awake22 ?_); simp (disch := omega) only [u, i64, ax, eq_self, if_true, if_false, Nat.reduceAdd, Int.reduceToNat, Int.reduceAdd, tvs, bs]; try refine aA ?_)) | ((first | refine cR hA ?_ | refine cR ret_awake22 ?_); simp (disch := omega) only [u, i64, ax, eq_self, if_true, if_false, Nat.reduceAdd, Int.reduceToNat, Int.reduceAdd, tvs, bs]; try refine aA ?_) | refine G_seq ?_ | refine G_block ?_ | refine G_condT rfl ?_ | refine G_condF rfl ?_ | refine G_skip ?_ | refine G_ret ?_ | refine G_exit ?_ | refine q_tn ?_ | refine q_tr ?_ | refine q_tx ?_ | refine q_bn ?_ | refine q_br ?_ | refine q_bx ?_ | refine q_by (by decide) ?_)
        (refine FinQ hQ (congrArg Array.toList Tryz.results14) _ _ ?_); simp (disch := omega) only [u, i64, ax, if_true, forall_const, reduceCtorEq, implies_true, tvs, bf]
    · have hA := ret_Args22_3 p g r _ d c b (ret_Check22b_3 p g r r1 r2 hC d c b h1 h2 h3)
      clear hC h1 h2 h3
      unfold DI.av cx at *
      refine RetN_start Tryz.func14 (by kernel_rfl) rfl fun Q hQ hQ2 => ?_; rw [Tryz.ntmps14]; simp only [u, i64, Nat.reduceSub, Nat.reduceAdd, bm]
      repeat (first | ((first | refine Gs ?_ | refine Gr ?_); simp (disch := omega) only [u, i64, ax, eq_self, if_true, if_false, Nat.reduceAdd, Int.reduceToNat, Int.reduceAdd, tvs, bs]; refine aA ?_) | refine G_seq ?_ | refine G_block ?_ | refine G_condT rfl ?_ | refine G_condF rfl ?_ | refine G_skip ?_ | refine G_ret ?_ | refine G_exit ?_ | refine q_tn ?_ | refine q_tr ?_ | refine q_tx ?_ | refine q_bn ?_ | refine q_br ?_ | refine q_bx ?_ | refine q_by (by decide) ?_)
      ((first | refine Gs ?_ | refine Gr ?_); simp (disch := omega) only [u, i64, ax, eq_self, if_true, if_false, Nat.reduceAdd, Int.reduceToNat, Int.reduceAdd, tvs, bs])
      simp (disch := omega) only [u, i64, ax, eq_self, if_true, if_false, Nat.reduceAdd, Int.reduceToNat, Int.reduceAdd, tvs, bs, Nat.reduceMul, List.take_succ_cons, List.take_zero, List.nil_append, List.cons_append, List.append_nil, Nat.reduceLeDiff]
      (refine cR hS ?_; simp (disch := omega) only [u, i64, ax, eq_self, if_true, if_false, Nat.reduceAdd, Int.reduceToNat, Int.reduceAdd, tvs, bs]; try refine aA ?_)
      simp (disch := omega) only [u, i64, ax, eq_self, if_true, if_false, Nat.reduceAdd, Int.reduceToNat, Int.reduceAdd, tvs, bs, Nat.reduceMul, List.take_succ_cons, List.take_zero, List.nil_append, List.cons_append, List.append_nil, Nat.reduceLeDiff]
      repeat (first | ((first | refine Gs ?_ | refine Gr ?_); simp (disch := omega) only [u, i64, ax, eq_self, if_true, if_false, Nat.reduceAdd, Int.reduceToNat, Int.reduceAdd, tvs, bs]; first | refine aA ?_ | ((first | refine cR hA ?_ | refine cR ret_awake22 ?_); simp (disch := omega) only [u, i64, ax, eq_self, if_true, if_false, Nat.reduceAdd, Int.reduceToNat, Int.reduceAdd, tvs, bs]; try refine aA ?_)) | ((first | refine cR hA ?_ | refine cR ret_awake22 ?_); simp (disch := omega) only [u, i64, ax, eq_self, if_true, if_false, Nat.reduceAdd, Int.reduceToNat, Int.reduceAdd, tvs, bs]; try refine aA ?_) | refine G_seq ?_ | refine G_block ?_ | refine G_condT rfl ?_ | refine G_condF rfl ?_ | refine G_skip ?_ | refine G_ret ?_ | refine G_exit ?_ | refine q_tn ?_ | refine q_tr ?_ | refine q_tx ?_ | refine q_bn ?_ | refine q_br ?_ | refine q_bx ?_ | refine q_by (by decide) ?_)
      (refine FinQ hQ (congrArg Array.toList Tryz.results14) _ _ ?_); simp (disch := omega) only [u, i64, ax, if_true, forall_const, reduceCtorEq, implies_true, tvs, bf]
  · rw [decF hs] at hS
    unfold DI.av cx at *
    refine RetN_start Tryz.func14 (by kernel_rfl) rfl fun Q hQ hQ2 => ?_; rw [Tryz.ntmps14]; simp only [u, i64, Nat.reduceSub, Nat.reduceAdd, bm]
    repeat (first | ((first | refine Gs ?_ | refine Gr ?_); simp (disch := omega) only [u, i64, ax, eq_self, if_true, if_false, Nat.reduceAdd, Int.reduceToNat, Int.reduceAdd, tvs, bs]; refine aA ?_) | refine G_seq ?_ | refine G_block ?_ | refine G_condT rfl ?_ | refine G_condF rfl ?_ | refine G_skip ?_ | refine G_ret ?_ | refine G_exit ?_ | refine q_tn ?_ | refine q_tr ?_ | refine q_tx ?_ | refine q_bn ?_ | refine q_br ?_ | refine q_bx ?_ | refine q_by (by decide) ?_)
    ((first | refine Gs ?_ | refine Gr ?_); simp (disch := omega) only [u, i64, ax, eq_self, if_true, if_false, Nat.reduceAdd, Int.reduceToNat, Int.reduceAdd, tvs, bs])
    simp (disch := omega) only [u, i64, ax, eq_self, if_true, if_false, Nat.reduceAdd, Int.reduceToNat, Int.reduceAdd, tvs, bs, Nat.reduceMul, List.take_succ_cons, List.take_zero, List.nil_append, List.cons_append, List.append_nil, Nat.reduceLeDiff]
    repeat (first | ((first | refine Gs ?_ | refine Gr ?_); simp (disch := omega) only [u, i64, ax, eq_self, if_true, if_false, Nat.reduceAdd, Int.reduceToNat, Int.reduceAdd, tvs, bs]; first | refine aA ?_ | ((first | refine cR hS ?_ | refine cR ret_awake22 ?_); simp (disch := omega) only [u, i64, ax, eq_self, if_true, if_false, Nat.reduceAdd, Int.reduceToNat, Int.reduceAdd, tvs, bs]; try refine aA ?_)) | ((first | refine cR hS ?_ | refine cR ret_awake22 ?_); simp (disch := omega) only [u, i64, ax, eq_self, if_true, if_false, Nat.reduceAdd, Int.reduceToNat, Int.reduceAdd, tvs, bs]; try refine aA ?_) | refine G_seq ?_ | refine G_block ?_ | refine G_condT rfl ?_ | refine G_condF rfl ?_ | refine G_skip ?_ | refine G_ret ?_ | refine G_exit ?_ | refine q_tn ?_ | refine q_tr ?_ | refine q_tx ?_ | refine q_bn ?_ | refine q_br ?_ | refine q_bx ?_ | refine q_by (by decide) ?_)
    (refine FinQ hQ (congrArg Array.toList Tryz.results14) _ _ ?_); simp (disch := omega) only [u, i64, ax, if_true, forall_const, reduceCtorEq, implies_true, tvs, bf]
end Go.Proofs
