/-
  Contracts of functions of the program, each proved by a walk.
-/
import Derived.Test.YtpnljnmpocobjaaDoorX19
set_option maxRecDepth 100000
set_option linter.unusedVariables false
set_option linter.unusedSimpArgs false
set_option maxRecDepth 100000
set_option maxHeartbeats 8000000
namespace Go.Proofs
open Go.Ax
theorem sg_mulx (neg : Bool) (n k : Nat) : sg neg (n * k) = sg neg n * k := by
  unfold sg
  cases neg <;> simp [Int.neg_mul]
theorem sg_sumM (r : Nat) (na : Bool) (a : Nat) (nb : Bool) (b : Nat) : sumM na a nb b = (sg na a + sg nb b).natAbs ∧ (sg na a + sg nb b ≠ 0 → sumN r na a nb b = decide (sg na a + sg nb b < 0)) := by
  obtain ⟨s1, s2, s3⟩ := sum_ref r na a nb b
  change (sg na a + sg nb b).natAbs = _ at s1
  change (sg na a + sg nb b) ≠ 0 → decide (sg na a + sg nb b < 0) = _ at s2
  exact ⟨s1.symm, fun h => (s2 h).symm⟩
theorem inD_neg {p : Nat} {g : Int} {a b : Bool} {m : Nat} {e : Int} (h : inD p g ⟨0, a, m, e⟩) : inD p g ⟨0, b, m, e⟩ := h
theorem refsL_dcs (n : Nat) (l : List DI) : refsL n (dcs l) = true := by
  induction l with
  | nil => rfl
  | cons d l ih => simp [dcs, refsL, refs, refsL_us, ih, i64]
/-- A running sum and what it stands for. -/
structure Run (p : Nat) (g : Int) (s : DI) (z : Int) : Prop where
  ok : s.ok
  inn : s.okIn p g
  k : s.k = 0
  e1 : -2000 ≤ s.e
  e2 : s.e ≤ 2000
  mag : val s.cs = z.natAbs
  neg : z ≠ 0 → s.neg = decide (z < 0)
theorem Run.sg {p : Nat} {g : Int} {s : DI} {z : Int} (h : Run p g s z) : sg s.neg (val s.cs) = z := by
  rw [h.mag]
  by_cases h0 : z = 0
  · subst h0; unfold Go.Proofs.sg; cases s.neg <;> rfl
  · rw [h.neg h0, sg_zv]
set_option maxHeartbeats 16000000 in
theorem ret_LawDecimalMoney (p g r : Int) (r1 : -9223372036854775808 ≤ r) (r2 : r < 9223372036854775808) (l : List DI) (hpre : ∀ d ∈ l, d.pre) (hll : l.length ≤ 9223372036854775807) : Ret Tryd.prog GEs 7 [cx p g r, .lst l.length (dcs l)] (.bool true) := by
  by_cases h20 : l.length ≤ 20
  · have hS := ret_ShortL l h20 (fun d hd => (hpre d hd).len)
    by_cases hs : shortP l
    · rw [decT hs] at hS
      have hok : ∀ d ∈ l, d.ok := fun d hd => (hpre d hd).ok (hs d hd)
      by_cases hC : okC p g r
      · obtain ⟨hp, hg, hr⟩ := hC
        obtain ⟨p, rfl⟩ := Int.eq_ofNat_of_zero_le (show 0 ≤ p by omega)
        obtain ⟨r, rfl⟩ := Int.eq_ofNat_of_zero_le (show 0 ≤ r by omega)
        have hA := ret_Args22L p g r _ l h20 (ret_Check22L p g r (by omega) hg (by omega) l h20 hok) (fun he => by
          have h0 := ret_Check22_0 p g r (by omega) hg (by omega)
          rw [if_pos (show okL p g l by subst he; intro d hd; cases hd)]
          exact h0)
        by_cases hb : okL p g l
        · rw [if_pos hb] at hA
          have hN := ret_nearL l h20
          by_cases hn : nearL l
          · rw [decT hn] at hN
            by_cases h0 : l.length = 0
            · unfold cx at *
              refine RetN_start Tryd.func7 (by kernel_rfl) rfl fun Q hQ hQ2 => ?_; rw [Tryd.ntmps7]; simp only [u, i64, Nat.reduceSub, Nat.reduceAdd, bm]
              (refine gO ?_)
              skip
              (refine gC ?_)
              refine callK_ret hS (by (simp (disch := omega) only [if_true, forall_const, reduceCtorEq, implies_true, bz]); rw [dcs_pure]; rfl) ?_
              simp (disch := omega) only [u, i64, ax, eq_self, if_true, if_false, Nat.reduceAdd, Int.reduceToNat, Int.reduceAdd, tvs, bs]
              try refine aft_any ?_
              refine callK_ret hA (by (simp (disch := omega) only [if_true, forall_const, reduceCtorEq, implies_true, bz]); rw [dcs_pure]; rfl) ?_
              simp (disch := omega) only [u, i64, ax, eq_self, if_true, if_false, Nat.reduceAdd, Int.reduceToNat, Int.reduceAdd, tvs, bs]
              try refine aft_any ?_
              refine callK_ret hN (by (simp (disch := omega) only [if_true, forall_const, reduceCtorEq, implies_true, bz]); rw [dcs_pure]; rfl) ?_
              simp (disch := omega) only [u, i64, ax, eq_self, if_true, if_false, Nat.reduceAdd, Int.reduceToNat, Int.reduceAdd, tvs, bs]
              try refine aft_any ?_
              repeat (first | (refine gC ?_; first | refine aA ?_ | (refine cR ret_awake22 ?_; refine sX ?_; try refine aA ?_)) | (refine cR ret_awake22 ?_; refine sX ?_; try refine aA ?_) | refine gS ?_)
              (refine FinQ hQ (congrArg Array.toList Tryd.results7) _ _ ?_); simp (disch := omega) only [u, i64, ax, if_true, forall_const, reduceCtorEq, implies_true, tvs, bf]
            · have h00 : 0 < l.length := by omega
              have t0 := ret_TheirD (l.getD 0 dI0).k (l.getD 0 dI0).e (l.getD 0 dI0).neg (l.getD 0 dI0).cs
              have m0 := getD_mem h00
              have ok0 := hok _ m0
              have in0 := hb _ m0
              have n0 := hn _ m0
              have at0 := ret_At22z (l.getD 0 dI0).k (l.getD 0 dI0).e (l.getD 0 dI0).e (l.getD 0 dI0).neg (l.getD 0 dI0).cs n0.1 ok0.wd (by have := ok0.len; omega) (by omega) (by omega) (by have := n0.2; omega)
              rw [Int.sub_self, Int.toNat_zero, Nat.pow_zero, Nat.mul_one] at at0
              have run0 : Run p g (l.getD 0 dI0) (sg (l.getD 0 dI0).neg (val (l.getD 0 dI0).cs)) := ⟨ok0, in0, n0.1, n0.2.1, n0.2.2, (sg_abs _ _).symm, fun hz => by
                have := (sg_lt (l.getD 0 dI0).neg (val (l.getD 0 dI0).cs)).1
                rw [← this]
                have h2 : val (l.getD 0 dI0).cs ≠ 0 := fun h2 => hz (by rw [h2]; unfold sg; cases (l.getD 0 dI0).neg <;> rfl)
                rw [decT h2, Bool.and_true]⟩
              have hX := ret_Ctx p g r
              have haw := ret_awake22
              unfold cx zv at *
              refine RetN_start Tryd.func7 (by kernel_rfl) rfl fun Q hQ hQ2 => ?_; rw [Tryd.ntmps7]; simp only [u, i64, Nat.reduceSub, Nat.reduceAdd, bm]
              (refine gO ?_)
              skip
              (refine gC ?_)
              refine callK_ret hS (by (simp (disch := omega) only [if_true, forall_const, reduceCtorEq, implies_true, bz]); rw [dcs_pure]; rfl) ?_
              simp (disch := omega) only [u, i64, ax, eq_self, if_true, if_false, Nat.reduceAdd, Int.reduceToNat, Int.reduceAdd, tvs, bs]
              try refine aft_any ?_
              refine callK_ret hA (by (simp (disch := omega) only [if_true, forall_const, reduceCtorEq, implies_true, bz]); rw [dcs_pure]; rfl) ?_
              simp (disch := omega) only [u, i64, ax, eq_self, if_true, if_false, Nat.reduceAdd, Int.reduceToNat, Int.reduceAdd, tvs, bs]
              try refine aft_any ?_
              refine callK_ret hN (by (simp (disch := omega) only [if_true, forall_const, reduceCtorEq, implies_true, bz]); rw [dcs_pure]; rfl) ?_
              simp (disch := omega) only [u, i64, ax, eq_self, if_true, if_false, Nat.reduceAdd, Int.reduceToNat, Int.reduceAdd, tvs, bs]
              try refine aft_any ?_
              (refine gO ?_)
              refine G_tree (.step 0 (.step 1 (.step 2 (.step 3 (.alt 4 (.alt 5 (.alt 6 (.step 7 (.step 8 (.step 9 .done))) (.alt 7 (.alt 6 (.step 8 (.step 9 .done)) (.alt 8 (.step 6 (.step 9 .done)) .stop)) .stop)) (.alt 7 (.alt 5 (.alt 6 (.step 8 (.step 9 .done)) (.alt 8 (.step 6 (.step 9 .done)) .stop)) (.alt 8 (.step 5 (.step 6 (.step 9 .done))) .stop)) .stop)) (.alt 7 (.alt 4 (.alt 5 (.alt 6 (.step 8 (.step 9 .done)) (.alt 8 (.step 6 (.step 9 .done)) .stop)) (.alt 8 (.step 5 (.step 6 (.step 9 .done))) .stop)) (.alt 8 (.step 4 (.step 5 (.step 6 (.step 9 .done)))) .stop)) .stop)))))) mixed (by kernel_rfl) ?_
              simp (disch := omega) only [u, i64, ax, eq_self, if_true, if_false, Nat.reduceAdd, Int.reduceToNat, Int.reduceAdd, tvs, bs, x_done, x_step, x_alt, x_stop, lk_0, lk_S, mpD_nil, mpD_cons, dcs_len, dcs_drop l 0 h00, Nat.zero_mul, List.drop_zero, and_self]
              refine aft_any ?_
              (first | refine G_sreg mixed (by first | rfl | kernel_rfl) ?_ | refine G_reg mixed (by first | rfl | kernel_rfl) ?_)
              simp (disch := omega) only [u, i64, ax, eq_self, if_true, if_false, Nat.reduceAdd, Int.reduceToNat, Int.reduceAdd, tvs, bs, dcs_len, dcs_drop l 0 h00, Nat.zero_mul, List.drop_zero]
              repeat (first | (refine gC ?_; first | refine aA ?_ | ((first | refine cR t0 ?_ | refine cR at0 ?_); refine sX ?_; try refine aA ?_)) | ((first | refine cR t0 ?_ | refine cR at0 ?_); refine sX ?_; try refine aA ?_) | refine gS ?_)
              refine AWp_loop (fun w : Nat × DI × Int => mk 139 [(1, .lst l.length (dcs l)), (2, .ptr 0 0 0), (4, .bool false), (5, .ptr 1 0 0), (6, i64 w.2.1.e), (7, .ptr 2 0 0), (8, i64 w.1)] [⟨0, true, [i64 p, i64 g, i64 r]⟩, ⟨0, true, [i64 w.2.1.k, .bool w.2.1.neg, ws w.2.1.cs, i64 w.2.1.e]⟩, ⟨0, true, [.bool (decide (w.2.2 < 0)), nat w.2.2.natAbs]⟩]) (fun w => 1 ≤ w.1 ∧ w.1 ≤ l.length ∧ Run p g w.2.1 w.2.2) (fun w => l.length - w.1) (1, l.getD 0 dI0, sg (l.getD 0 dI0).neg (val (l.getD 0 dI0).cs)) ?_ ⟨Nat.le_refl _, h00, run0⟩ ?_
              · simp only [u, i64, Nat.reduceSub, Nat.reduceAdd, bm]
              clear run0 t0 at0 ok0 in0 n0 m0
              rintro ⟨i, s, z⟩ ⟨hi1, hi2, hrun⟩
              simp only at hi1 hi2 hrun
              by_cases hi : i < l.length
              · have mx := getD_mem hi
                have okx := hok _ mx
                have inx := hb _ mx
                have nx := hn _ mx
                have hsl := hrun.ok.len
                have hxl := okx.len
                have tx := ret_TheirD (l.getD i dI0).k (l.getD i dI0).e (l.getD i dI0).neg (l.getD i dI0).cs
                have rsg := hrun.sg
                have hzl : (words z.natAbs).length ≤ 40 := by
                  rw [← hrun.mag]
                  exact Nat.le_trans (length_words_val_le hrun.ok.wd) hsl
                have e1 := hrun.e1
                have e2 := hrun.e2
                have e3 := nx.2.1
                have e4 := nx.2.2
                have A1 := ret_At22z 0 s.e (min s.e (l.getD i dI0).e) (decide (z < 0)) (words z.natAbs) rfl (Wd_words _) (by omega) (by omega) (by omega) (by omega)
                rw [val_words, sg_mulx, sg_zv] at A1
                have A2 := ret_At22z (l.getD i dI0).k (l.getD i dI0).e (min s.e (l.getD i dI0).e) (l.getD i dI0).neg (l.getD i dI0).cs nx.1 okx.wd (by omega) (by omega) (by omega) (by omega)
                have tl : ∀ k : Nat, k ≤ 4000 → (words (10 ^ k)).length ≤ 251 := fun k hk => le_pow_words (ten_le k) (by omega)
                have t1 := tl (s.e - min s.e (l.getD i dI0).e).toNat (by omega)
                have t2 := tl ((l.getD i dI0).e - min s.e (l.getD i dI0).e).toNat (by omega)
                have hvx := length_words_val_le okx.wd
                have b1 := length_mul z.natAbs (10 ^ (s.e - min s.e (l.getD i dI0).e).toNat)
                have b2 := length_mul (val (l.getD i dI0).cs) (10 ^ ((l.getD i dI0).e - min s.e (l.getD i dI0).e).toNat)
                have b3 : (words (z * ((10 ^ (s.e - min s.e (l.getD i dI0).e).toNat : Nat) : Int)).natAbs).length ≤ 300 := by
                  rw [Int.natAbs_mul, Int.natAbs_natCast]
                  omega
                have b4 : (words (sg (l.getD i dI0).neg (val (l.getD i dI0).cs * 10 ^ ((l.getD i dI0).e - min s.e (l.getD i dI0).e).toNat)).natAbs).length ≤ 300 := by
                  rw [sg_abs]
                  omega
                obtain ⟨q1, q2⟩ := sg_sumM r s.neg (val s.cs * 10 ^ (s.e - min s.e (l.getD i dI0).e).toNat) (l.getD i dI0).neg (val (l.getD i dI0).cs * 10 ^ ((l.getD i dI0).e - min s.e (l.getD i dI0).e).toNat)
                rw [sg_mulx, rsg] at q1 q2
                have D1 := ret_DAdd p g r (by omega) hg (by omega) s (l.getD i dI0) hrun.ok okx
                rw [if_pos ⟨hrun.inn, inx⟩] at D1
                have hadd : addD p g r s.D (l.getD i dI0).D = finD0 p g r (sumN r s.neg (val s.cs * 10 ^ (s.e - min s.e (l.getD i dI0).e).toNat) (l.getD i dI0).neg (val (l.getD i dI0).cs * 10 ^ ((l.getD i dI0).e - min s.e (l.getD i dI0).e).toNat)) (sumM s.neg (val s.cs * 10 ^ (s.e - min s.e (l.getD i dI0).e).toNat) (l.getD i dI0).neg (val (l.getD i dI0).cs * 10 ^ ((l.getD i dI0).e - min s.e (l.getD i dI0).e).toNat)) (min s.e (l.getD i dI0).e) (min s.e (l.getD i dI0).e) := by
                  have k1 : s.D.kind = 0 := by show s.k.toNat = 0; rw [hrun.k]; rfl
                  have k2 : (l.getD i dI0).D.kind = 0 := by show (l.getD i dI0).k.toNat = 0; rw [nx.1]; rfl
                  unfold addD
                  rw [if_neg (by omega), if_neg (fun h => by omega), if_neg (by omega), if_neg (by omega)]
                  rfl
                generalize sumN r s.neg (val s.cs * 10 ^ (s.e - min s.e (l.getD i dI0).e).toNat) (l.getD i dI0).neg (val (l.getD i dI0).cs * 10 ^ ((l.getD i dI0).e - min s.e (l.getD i dI0).e).toNat) = N at *
                generalize sumM s.neg (val s.cs * 10 ^ (s.e - min s.e (l.getD i dI0).e).toNat) (l.getD i dI0).neg (val (l.getD i dI0).cs * 10 ^ ((l.getD i dI0).e - min s.e (l.getD i dI0).e).toNat) = M at *
                generalize z * ((10 ^ (s.e - min s.e (l.getD i dI0).e).toNat : Nat) : Int) = z1 at *
                generalize sg (l.getD i dI0).neg (val (l.getD i dI0).cs * 10 ^ ((l.getD i dI0).e - min s.e (l.getD i dI0).e).toNat) = z2 at *
                have hAd := ret_Add11 (decide (z1 < 0)) (decide (z2 < 0)) (words z1.natAbs) (words z2.natAbs) (Wd_words _) (Wd_words _) (by omega) (by omega)
                rw [val_words, val_words, sg_zv, sg_zv] at hAd
                have b5 : (words (z1 + z2).natAbs).length ≤ 301 := by
                  have := length_mono (Int.natAbs_add_le z1 z2)
                  have := length_add z1.natAbs z2.natAbs
                  omega
                have hI := ret_In22 p g r (by omega) hg 0 (min s.e (l.getD i dI0).e) false (words (z1 + z2).natAbs) (by decide) (by omega) (Wd_words _) (by omega)
                rw [val_words, show mkD 0 false (z1 + z2).natAbs (min s.e (l.getD i dI0).e) = ⟨0, false, (z1 + z2).natAbs, min s.e (l.getD i dI0).e⟩ from rfl] at hI
                have hkk := hrun.k
                clear t1 t2 tl b1 b2 b3 b4 hvx rsg
                by_cases hin : inD p g ⟨0, false, (z1 + z2).natAbs, min s.e (l.getD i dI0).e⟩
                · rw [hadd, q1] at D1
                  generalize z1 + z2 = y at *
                  rw [decT hin] at hI
                  have hself := finD0_self p g r ⟨0, N, y.natAbs, min s.e (l.getD i dI0).e⟩ rfl (inD_neg hin)
                  simp only at hself
                  rw [hself] at D1
                  have hIs := ret_rIs y.natAbs (words y.natAbs) (Wd_words _) (by omega) (by omega)
                  rw [val_words, decT rfl] at hIs
                  have hrd : rightD ⟨0, N, y.natAbs, min s.e (l.getD i dI0).e⟩ := .inl ⟨rfl, by show -1000000 ≤ min s.e (l.getD i dI0).e; omega, by show min s.e (l.getD i dI0).e ≤ 1000000; omega⟩
                  have hil := in_len (p := p) (g := g) (by omega) hrd (inD_neg hin)
                  have hrun2 : Run p g ⟨0, N, words y.natAbs, min s.e (l.getD i dI0).e⟩ y := ⟨toDI_ok hrd hil, ⟨toDI_good hrd, by have := toDI_D ⟨0, N, y.natAbs, min s.e (l.getD i dI0).e⟩; show inD p g (toDI ⟨0, N, y.natAbs, min s.e (l.getD i dI0).e⟩).D; rw [this]; exact inD_neg hin⟩, rfl, by show -2000 ≤ min s.e (l.getD i dI0).e; omega, by show min s.e (l.getD i dI0).e ≤ 2000; omega, val_words _, q2⟩
                  have hcmp : (0 < (words y.natAbs).length → N = decide (y < 0)) := fun h => q2 fun h0 => by rw [h0] at h; exact absurd h (by decide)
                  clear hrd hil hself q1 q2 hrun inx okx mx hin hzl
                  obtain ⟨sk, sn, sc, se⟩ := s
                  unfold DI.av dv zv cx at *
                  simp only [Int.natCast_zero] at *
                  subst hkk
                  refine money_roundT _ _ p g r l.length i (dcs l) _ hi h20 (dcs_len l) (refsL_dcs 3 l) _ _ _ _ (dcs_drop l i hi) se _ rfl sn _ N _ _ _ sc z.natAbs _ _ y.natAbs A1 tx A2 hAd D1 hX hI hIs hcmp ?_
                  exact fun s' hs => ⟨(i + 1, ⟨0, N, words y.natAbs, min se (l.getD i dI0).e⟩, y), hs, ⟨Nat.le_add_left 1 i, hi, hrun2⟩, Nat.sub_lt_sub_left hi (Nat.lt_succ_self i)⟩
                · rw [decF hin] at hI
                  clear hadd q1 q2 hin
                  generalize addD p g r s.D (l.getD i dI0).D = R at *
                  generalize z1 + z2 = y at *
                  obtain ⟨sk, sn, sc, se⟩ := s
                  unfold DI.av dv zv cx at *
                  simp only [Int.natCast_zero] at *
                  subst hkk
                  exact money_roundF _ _ p g r l.length i (dcs l) _ hi h20 (dcs_len l) _ _ _ _ (dcs_drop l i hi) se _ rfl sn _ _ _ _ _ sc z.natAbs _ _ y.natAbs _ _ _ _ A1 tx A2 hAd D1 hX hI haw (fun s hs => q_br (q_tr (hQ s hs)))
              · clear hX hN hS hA hb hn hok hpre hrun
                simp only [u, i64, Nat.reduceSub, Nat.reduceAdd, bm]
                repeat (first | (refine gC ?_; first | refine aA ?_ | (refine cR haw ?_; refine sX ?_; try refine aA ?_)) | (refine cR haw ?_; refine sX ?_; try refine aA ?_) | refine gS ?_)
                (refine FinQ hQ (congrArg Array.toList Tryd.results7) _ _ ?_); simp (disch := omega) only [u, i64, ax, if_true, forall_const, reduceCtorEq, implies_true, tvs, bf]
          · rw [decF hn] at hN
            unfold cx at *
            refine RetN_start Tryd.func7 (by kernel_rfl) rfl fun Q hQ hQ2 => ?_; rw [Tryd.ntmps7]; simp only [u, i64, Nat.reduceSub, Nat.reduceAdd, bm]
            (refine gO ?_)
            skip
            (refine gC ?_)
            refine callK_ret hS (by (simp (disch := omega) only [if_true, forall_const, reduceCtorEq, implies_true, bz]); rw [dcs_pure]; rfl) ?_
            simp (disch := omega) only [u, i64, ax, eq_self, if_true, if_false, Nat.reduceAdd, Int.reduceToNat, Int.reduceAdd, tvs, bs]
            try refine aft_any ?_
            refine callK_ret hA (by (simp (disch := omega) only [if_true, forall_const, reduceCtorEq, implies_true, bz]); rw [dcs_pure]; rfl) ?_
            simp (disch := omega) only [u, i64, ax, eq_self, if_true, if_false, Nat.reduceAdd, Int.reduceToNat, Int.reduceAdd, tvs, bs]
            try refine aft_any ?_
            refine callK_ret hN (by (simp (disch := omega) only [if_true, forall_const, reduceCtorEq, implies_true, bz]); rw [dcs_pure]; rfl) ?_
            simp (disch := omega) only [u, i64, ax, eq_self, if_true, if_false, Nat.reduceAdd, Int.reduceToNat, Int.reduceAdd, tvs, bs]
            try refine aft_any ?_
            repeat (first | (refine gC ?_; first | refine aA ?_ | (refine cR ret_awake22 ?_; refine sX ?_; try refine aA ?_)) | (refine cR ret_awake22 ?_; refine sX ?_; try refine aA ?_) | refine gS ?_)
            (refine FinQ hQ (congrArg Array.toList Tryd.results7) _ _ ?_); simp (disch := omega) only [u, i64, ax, if_true, forall_const, reduceCtorEq, implies_true, tvs, bf]
        · rw [if_neg hb] at hA
          unfold cx at *
          refine RetN_start Tryd.func7 (by kernel_rfl) rfl fun Q hQ hQ2 => ?_; rw [Tryd.ntmps7]; simp only [u, i64, Nat.reduceSub, Nat.reduceAdd, bm]
          (refine gO ?_)
          skip
          (refine gC ?_)
          refine callK_ret hS (by (simp (disch := omega) only [if_true, forall_const, reduceCtorEq, implies_true, bz]); rw [dcs_pure]; rfl) ?_
          simp (disch := omega) only [u, i64, ax, eq_self, if_true, if_false, Nat.reduceAdd, Int.reduceToNat, Int.reduceAdd, tvs, bs]
          try refine aft_any ?_
          refine callK_ret hA (by (simp (disch := omega) only [if_true, forall_const, reduceCtorEq, implies_true, bz]); rw [dcs_pure]; rfl) ?_
          simp (disch := omega) only [u, i64, ax, eq_self, if_true, if_false, Nat.reduceAdd, Int.reduceToNat, Int.reduceAdd, tvs, bs]
          try refine aft_any ?_
          repeat (first | (refine gC ?_; first | refine aA ?_ | (refine cR ret_awake22 ?_; refine sX ?_; try refine aA ?_)) | (refine cR ret_awake22 ?_; refine sX ?_; try refine aA ?_) | refine gS ?_)
          (refine FinQ hQ (congrArg Array.toList Tryd.results7) _ _ ?_); simp (disch := omega) only [u, i64, ax, if_true, forall_const, reduceCtorEq, implies_true, tvs, bf]
      · have hA := ret_Args22L p g r 220 l h20 (ret_Check22bL p g r r1 r2 hC l h20 hok) (fun _ => ret_Check22b_0 p g r r1 r2 hC)
        clear hC
        unfold cx at *
        refine RetN_start Tryd.func7 (by kernel_rfl) rfl fun Q hQ hQ2 => ?_; rw [Tryd.ntmps7]; simp only [u, i64, Nat.reduceSub, Nat.reduceAdd, bm]
        (refine gO ?_)
        skip
        (refine gC ?_)
        refine callK_ret hS (by (simp (disch := omega) only [if_true, forall_const, reduceCtorEq, implies_true, bz]); rw [dcs_pure]; rfl) ?_
        simp (disch := omega) only [u, i64, ax, eq_self, if_true, if_false, Nat.reduceAdd, Int.reduceToNat, Int.reduceAdd, tvs, bs]
        try refine aft_any ?_
        refine callK_ret hA (by (simp (disch := omega) only [if_true, forall_const, reduceCtorEq, implies_true, bz]); rw [dcs_pure]; rfl) ?_
        simp (disch := omega) only [u, i64, ax, eq_self, if_true, if_false, Nat.reduceAdd, Int.reduceToNat, Int.reduceAdd, tvs, bs]
        try refine aft_any ?_
        repeat (first | (refine gC ?_; first | refine aA ?_ | (refine cR ret_awake22 ?_; refine sX ?_; try refine aA ?_)) | (refine cR ret_awake22 ?_; refine sX ?_; try refine aA ?_) | refine gS ?_)
        (refine FinQ hQ (congrArg Array.toList Tryd.results7) _ _ ?_); simp (disch := omega) only [u, i64, ax, if_true, forall_const, reduceCtorEq, implies_true, tvs, bf]
    · rw [decF hs] at hS
      unfold cx at *
      refine RetN_start Tryd.func7 (by kernel_rfl) rfl fun Q hQ hQ2 => ?_; rw [Tryd.ntmps7]; simp only [u, i64, Nat.reduceSub, Nat.reduceAdd, bm]
      (refine gO ?_)
      skip
      (refine gC ?_)
      refine callK_ret hS (by (simp (disch := omega) only [if_true, forall_const, reduceCtorEq, implies_true, bz]); rw [dcs_pure]; rfl) ?_
      simp (disch := omega) only [u, i64, ax, eq_self, if_true, if_false, Nat.reduceAdd, Int.reduceToNat, Int.reduceAdd, tvs, bs]
      try refine aft_any ?_
      repeat (first | (refine gC ?_; first | refine aA ?_ | (refine cR ret_awake22 ?_; refine sX ?_; try refine aA ?_)) | (refine cR ret_awake22 ?_; refine sX ?_; try refine aA ?_) | refine gS ?_)
      (refine FinQ hQ (congrArg Array.toList Tryd.results7) _ _ ?_); simp (disch := omega) only [u, i64, ax, if_true, forall_const, reduceCtorEq, implies_true, tvs, bf]
  · have h21 : 20 < l.length := by omega
    unfold cx at *
    refine RetN_start Tryd.func7 (by kernel_rfl) rfl fun Q hQ hQ2 => ?_; rw [Tryd.ntmps7]; simp only [u, i64, Nat.reduceSub, Nat.reduceAdd, bm]
    repeat (first | (refine gC ?_; first | refine aA ?_ | (refine cR ret_awake22 ?_; refine sX ?_; try refine aA ?_)) | (refine cR ret_awake22 ?_; refine sX ?_; try refine aA ?_) | refine gS ?_)
    (refine FinQ hQ (congrArg Array.toList Tryd.results7) _ _ ?_); simp (disch := omega) only [u, i64, ax, if_true, forall_const, reduceCtorEq, implies_true, tvs, bf]
theorem keepNames : True := by
  have a1 := @ret_Add11
  have a2 := @ret_rIs
  have a3 := @G_forget
  have a4 := @refsL_us
  have a5 := @toDI_ok
  trivial
end Go.Proofs
