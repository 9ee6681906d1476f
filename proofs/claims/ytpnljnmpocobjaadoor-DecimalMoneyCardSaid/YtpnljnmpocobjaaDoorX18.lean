/-
  Contracts of functions of the program, each proved by a walk.
-/
import Derived.Test.YtpnljnmpocobjaaDoorX15
set_option maxRecDepth 100000
set_option linter.unusedVariables false
set_option linter.unusedSimpArgs false
set_option maxHeartbeats 4000000
namespace Go.Ax
open Go.RowKit

/-! ### Rows that nothing names any more are forgotten -/
mutual
/-- No row from n on is named. -/
def refs (n : Nat) : AV → Bool
  | .own r _ _ _ _ => decide (r < n)
  | .ptr r _ _ => decide (r < n)
  | .agg cs => refsL n cs
  | .tup cs => refsL n cs
  | .lst _ cs => refsL n cs
  | .lptr cs => refsL n cs
  | _ => true
def refsL (n : Nat) : List AV → Bool
  | [] => true
  | c :: cs => refs n c && refsL n cs
end
theorem refsL_append (n : Nat) (xs ys : List AV) : refsL n (xs ++ ys) = (refsL n xs && refsL n ys) := by
  induction xs with
  | nil => simp [refsL]
  | cons x xs ih => simp [refsL, ih, Bool.and_assoc]
theorem refsL_us (n : Nat) (xs : List Nat) : refsL n (us xs) = true := by
  induction xs with
  | nil => rfl
  | cons x xs ih => rw [us_cons]; simp [refsL, refs, ih, u]
section
variable {w : World} {ok ok' : Nat → Prop} {β : Nat → Nat} {pre post : List Row}
theorem pre_get {r : Nat} (h : r < pre.length) : pre[r]? = (pre ++ post)[r]? := (List.getElem?_append_left h).symm
mutual
theorem VRep.forget (hok : ∀ b, ok b → ok' b) : ∀ (x : AV) (v : Value), refs pre.length x = true → VRep w ok (pre ++ post) β x v → VRep w ok' pre β x v
  | .int _ _, _, _, h => h
  | .bool _, _, _, h => h
  | .lit _, _, _, h => h
  | .agg cs, _, hr, ⟨vs, hv, h⟩ => ⟨vs, hv, VReps.forget hok cs vs (by simpa [refs] using hr) h⟩
  | .tup cs, _, hr, ⟨vs, hv, h⟩ => ⟨vs, hv, VReps.forget hok cs vs (by simpa [refs] using hr) h⟩
  | .lst n cs, _, hr, ⟨a, cap, hv, hc, h⟩ => ⟨a, cap, hv, hc, fun hne => by
      obtain ⟨b, o, ha, hb, hm⟩ := h hne
      exact ⟨b, o, ha, hok b hb, MReps.forget hok cs b o (by simpa [refs] using hr) hm⟩⟩
  | .emp, _, _, h => h
  | .own r ver off n sz, _, hr, ⟨a, cap, hv, hc, row, hrow, hle, hh⟩ => ⟨a, cap, hv, hc, row, by rw [pre_get (of_decide_eq_true (by simpa [refs] using hr))]; exact hrow, hle, hh⟩
  | .ptr r ver off, _, hr, ⟨a, hv, row, hrow, hle, hh⟩ => ⟨a, hv, row, by rw [pre_get (of_decide_eq_true (by simpa [refs] using hr))]; exact hrow, hle, hh⟩
  | .lptr cs, _, hr, ⟨b, o, hv, h⟩ => ⟨b, o, hv, fun hne => by
      obtain ⟨hb, hm⟩ := h hne
      exact ⟨hok b hb, MReps.forget hok cs b o (by simpa [refs] using hr) hm⟩⟩
  | .any, _, _, h => h
theorem VReps.forget (hok : ∀ b, ok b → ok' b) : ∀ (cs : List AV) (vs : List Value), refsL pre.length cs = true → VReps w ok (pre ++ post) β cs vs → VReps w ok' pre β cs vs
  | [], _, _, h => h
  | c :: cs, _, hr, ⟨v, vs', hv, h1, h2⟩ => by
    simp only [refsL, Bool.and_eq_true] at hr
    exact ⟨v, vs', hv, VRep.forget hok c v hr.1 h1, VReps.forget hok cs vs' hr.2 h2⟩
theorem MReps.forget (hok : ∀ b, ok b → ok' b) : ∀ (cs : List AV) (b o : Nat), refsL pre.length cs = true → MReps w ok (pre ++ post) β cs b o → MReps w ok' pre β cs b o
  | [], _, _, _, _ => trivial
  | c :: cs, b, o, hr, ⟨⟨v, hv, h1⟩, h2⟩ => by
    simp only [refsL, Bool.and_eq_true] at hr
    exact ⟨⟨v, hv, VRep.forget hok c v hr.1 h1⟩, MReps.forget hok cs b (o + 1) hr.2 h2⟩
end
end
/-- The rows of a state name no row from n on. -/
def refsR (n : Nat) : List Row → Bool
  | [] => true
  | r :: rs => refsL n r.cells && refsR n rs
theorem refsR_get {n : Nat} {rs : List Row} (h : refsR n rs = true) : ∀ {r : Nat} {row : Row}, rs[r]? = some row → refsL n row.cells = true := by
  induction rs with
  | nil => intro r row hr; simp at hr
  | cons x rs ih =>
    intro r row hr
    simp only [refsR, Bool.and_eq_true] at h
    cases r with
    | zero => simp at hr; subst hr; exact h.1
    | succ r => exact ih h.2 (by simpa using hr)
theorem SRep.forget {w0 : World} {ok0 : Nat → Prop} {B : Option Nat} {tm : List AV} {pre post : List Row} {a : Act} {w : World} (hne : 0 < pre.length) (ht : refsL pre.length tm = true) (hr : refsR pre.length pre = true)
    (h : SRep w0 ok0 B ⟨tm, pre ++ post⟩ a w) : SRep w0 ok0 B ⟨tm, pre⟩ a w := by
  obtain ⟨β, hβ⟩ := h
  have hg : ∀ {r row}, pre[r]? = some row → (pre ++ post)[r]? = some row := fun {r row} h => by
    rw [List.getElem?_append_left (List.getElem?_eq_some_iff.1 h).1]; exact h
  have hok : ∀ b, okN w0 ok0 B (pre ++ post) β b → okN w0 ok0 B pre β b := fun b hb => ⟨hb.1, fun r row hr' hh => hb.2 r row (hg hr') hh⟩
  refine ⟨β, hβ.defers, VReps.forget hok _ _ ht hβ.tmps, fun r row hrow => ?_, fun r r' row row' h1 h2 he => hβ.inj r r' row row' (hg h1) (hg h2) he, hβ.os, hβ.tape, hβ.output, hβ.size, hβ.block, fun b hb => ?_⟩
  · obtain ⟨h1, h2, h3⟩ := hβ.row r row (hg hrow)
    exact ⟨h1, MReps.forget hok _ _ _ (refsR_get hr hrow) h2, h3⟩
  · obtain ⟨row, h1, h2⟩ := hβ.home b hb
    exact ⟨row, by rw [show (⟨tm, pre⟩ : St).rows[0]? = (pre ++ post)[0]? from pre_get hne]; exact h1, h2⟩
section
variable {P : Program} {GE : Nat → Option (List AV)} {Q : Exit → St → Prop}
/-- The rows `post` are forgotten; what named them is any value by now. -/
theorem G_forget {c : Code} {tm tm' : List AV} (pre post : List Row) (hl : leT tm tm' ∧ tm.length = tm'.length) (hne : 0 < pre.length) (ht : refsL pre.length tm' = true) (hr : refsR pre.length pre = true)
    (h : AWp P GE c Q ⟨tm', pre⟩) : AWp P GE c Q ⟨tm, pre ++ post⟩ := fun w0 ok0 B hB hG a w hS => h w0 ok0 B hB hG a w (SRep.forget hne ht hr (hS.le (s' := ⟨tm', pre ++ post⟩) ⟨hl.1, hl.2, rfl⟩))
end
end Go.Ax
namespace Go.Proofs
open Go.Ax
theorem len_pos (n : Nat) : decide (0 < (words n).length) = decide (n ≠ 0) := by
  by_cases h : n = 0
  · subst h; rw [words_zero]; rfl
  · have : 0 < (words n).length := List.length_pos_iff.2 fun h0 => h (words_eq_nil.1 h0)
    rw [decT this, decT h]
set_option maxRecDepth 100000 in
theorem ret_Make (neg : Bool) (xs : List Nat) (hx : Wd xs) (hl : xs.length ≤ 34359738368) : Ret Tryd.prog GEs 136 [.bool neg, ws xs] (.agg [.bool (neg && decide (val xs ≠ 0)), nat (val xs)]) := by
  have hxl := length_words_val_le hx
  rw [← len_pos]
  refine RetN_start Tryd.func136 (by kernel_rfl) rfl fun Q hQ hQ2 => ?_; rw [Tryd.ntmps136]; simp only [u, i64, Nat.reduceSub, Nat.reduceAdd, bm]
  (refine gO ?_)
  (refine gC ?_)
  (refine cR (ret_rTrim xs hx hl) ?_; refine sX ?_; try refine aA ?_)
  cases neg with
  | true =>
    by_cases h : 0 < (words (val xs)).length
    · (refine gO ?_)
      (refine FinQ hQ (congrArg Array.toList Tryd.results136) _ _ ?_); simp (disch := omega) only [u, i64, ax, if_true, forall_const, reduceCtorEq, implies_true, tvs, bf, decT h]
    · (refine gO ?_)
      (refine FinQ hQ (congrArg Array.toList Tryd.results136) _ _ ?_); simp (disch := omega) only [u, i64, ax, if_true, forall_const, reduceCtorEq, implies_true, tvs, bf, decF h]
  | false =>
    (refine gO ?_)
    (refine FinQ hQ (congrArg Array.toList Tryd.results136) _ _ ?_); simp (disch := omega) only [u, i64, ax, if_true, forall_const, reduceCtorEq, implies_true, tvs, bf]
    all_goals rfl
set_option maxRecDepth 100000 in
theorem ret_Make11 (neg : Bool) (xs : List Nat) (hx : Wd xs) (hl : xs.length ≤ 34359738368) : Ret Tryd.prog GEs 69 [.bool neg, ws xs] (.agg [.bool (neg && decide (val xs ≠ 0)), nat (val xs)]) := by
  refine RetN_start Tryd.func69 (by kernel_rfl) rfl fun Q hQ hQ2 => ?_; rw [Tryd.ntmps69]; simp only [u, i64, Nat.reduceSub, Nat.reduceAdd, bm]
  repeat (first | (refine gC ?_; first | refine aA ?_ | (refine cR (ret_Make neg xs hx hl) ?_; refine sX ?_; try refine aA ?_)) | (refine cR (ret_Make neg xs hx hl) ?_; refine sX ?_; try refine aA ?_) | refine gS ?_)
  (refine FinQ hQ (congrArg Array.toList Tryd.results69) _ _ ?_); simp (disch := omega) only [u, i64, ax, if_true, forall_const, reduceCtorEq, implies_true, tvs, bf]
def sgI (neg : Bool) (n : Nat) : Int := if neg = true then -(n : Int) else n
theorem sum_ref (r : Nat) (na : Bool) (a : Nat) (nb : Bool) (b : Nat) : (sgI na a + sgI nb b).natAbs = sumM na a nb b ∧ (sgI na a + sgI nb b ≠ 0 → decide (sgI na a + sgI nb b < 0) = sumN r na a nb b) ∧ (sgI na a + sgI nb b = 0 → sumM na a nb b = 0 ∧ sumN r na a nb b = if na = nb then na else decide (r = 4)) := by
  unfold sgI sumM sumN
  cases na <;> cases nb <;> simp only [Bool.false_eq_true, if_true, if_false, reduceCtorEq]
  · refine ⟨by omega, fun h => decF (by omega), fun h => ⟨by omega, by first | rfl | trivial⟩⟩
  · rcases Nat.lt_trichotomy a b with h | h | h
    · rw [if_neg (by omega), if_neg (by omega), if_pos h]
      exact ⟨by omega, fun _ => decT (by omega), fun h' => by omega⟩
    · subst h
      rw [if_neg (by omega), if_neg (by omega), if_neg (by omega)]
      exact ⟨by omega, fun h' => by omega, fun _ => ⟨by omega, rfl⟩⟩
    · rw [if_pos h, if_pos h]
      exact ⟨by omega, fun _ => decF (by omega), fun h' => by omega⟩
  · rcases Nat.lt_trichotomy a b with h | h | h
    · rw [if_neg (by omega), if_neg (by omega), if_pos h]
      exact ⟨by omega, fun _ => decF (by omega), fun h' => by omega⟩
    · subst h
      rw [if_neg (by omega), if_neg (by omega), if_neg (by omega)]
      exact ⟨by omega, fun h' => by omega, fun _ => ⟨by omega, rfl⟩⟩
    · rw [if_pos h, if_pos h]
      exact ⟨by omega, fun _ => decT (by omega), fun h' => by omega⟩
  · refine ⟨by omega, fun h => decT (by omega), fun h => ⟨by omega, by first | rfl | trivial⟩⟩
end Go.Proofs
namespace Go.Ax
open Go.Ax
end Go.Ax
namespace Go.Proofs
open Go.Ax
set_option maxRecDepth 100000 in
theorem ret_Same (xs ys : List Nat) (hl : xs.length ≤ 1099511627776) (hl2 : ys.length ≤ 1099511627776) : Ret Tryd.prog GEs 104 [ws xs, ws ys] (.bool (decide (xs = ys))) := by
  refine RetN_start Tryd.func104 (by kernel_rfl) rfl fun Q hQ hQ2 => ?_; rw [Tryd.ntmps104]; simp only [u, i64, Nat.reduceSub, Nat.reduceAdd, bm]
  by_cases hlen : xs.length = ys.length
  · (refine gO ?_)
    refine AWp_loop (fun n : Nat => mk 26 [(0, ws xs), (1, ws ys), (5, i64 n)] []) (fun n => n ≤ xs.length ∧ ∀ i, i < n → xs.getD i 0 = ys.getD i 0) (fun n => xs.length - n) 0 ?_ ⟨Nat.zero_le _, fun i hi => by omega⟩ fun n hn => ?_
    · simp only [u, i64, Nat.reduceSub, Nat.reduceAdd, bm]
    simp only [u, i64, Nat.reduceSub, Nat.reduceAdd, bm]
    by_cases h : n < xs.length
    · by_cases he : xs.getD n 0 = ys.getD n 0
      · (refine gO ?_)
        refine ⟨n + 1, ?_, ⟨h, fun i hi => ?_⟩, by omega⟩
        · simp only [u, i64, Nat.reduceSub, Nat.reduceAdd, bm]
        · rcases Nat.lt_or_ge i n with h1 | h1
          · exact hn.2 i h1
          · rw [show i = n by omega]; exact he
      · (refine gO ?_)
        (refine FinQ hQ (congrArg Array.toList Tryd.results104) _ _ ?_); simp (disch := omega) only [u, i64, ax, if_true, forall_const, reduceCtorEq, implies_true, tvs, bf, decF (show ¬ xs = ys from fun h => he (by rw [h]))]
    · (refine gO ?_)
      (refine FinQ hQ (congrArg Array.toList Tryd.results104) _ _ ?_); simp (disch := omega) only [u, i64, ax, if_true, forall_const, reduceCtorEq, implies_true, tvs, bf, decT (eq_of_getD hlen fun i hi => hn.2 i (by omega))]
  · (refine gO ?_)
    (refine FinQ hQ (congrArg Array.toList Tryd.results104) _ _ ?_); simp (disch := omega) only [u, i64, ax, if_true, forall_const, reduceCtorEq, implies_true, tvs, bf, decF (show ¬ xs = ys from fun h => hlen (by rw [h]))]
theorem dplus_step {K p s c a b x y : Nat} (h : s + c * p = a + b) : s + p * ((c + x + y) % K) + (c + x + y) / K * (p * K) = a + p * x + (b + p * y) := by
  have e : p * ((c + x + y) % K) + (c + x + y) / K * (p * K) = p * (c + x + y) := by
    rw [Nat.mul_comm ((c + x + y) / K), Nat.mul_assoc, ← Nat.mul_add, Nat.mod_add_div]
  rw [Nat.add_assoc, e, Nat.mul_add, Nat.mul_add, Nat.mul_comm p c]
  omega
set_option maxRecDepth 100000 in
set_option maxHeartbeats 1000000 in
theorem ret_Plus (a b : List Nat) (ha : Ds 4294967296 a) (hb : Ds 4294967296 b) (hla : a.length ≤ 1099511627775) (hlb : b.length ≤ 1099511627775) :
    Ret Tryd.prog GEs 173 [ws a, ws b] (ws (wfb 4294967296 (max a.length b.length + 1) (vb 4294967296 a + vb 4294967296 b))) := by
  refine RetN_start Tryd.func173 (by kernel_rfl) rfl fun Q hQ hQ2 => ?_; rw [Tryd.ntmps173]; simp only [u, i64, Nat.reduceSub, Nat.reduceAdd, bm]
  (refine gO ?_)
  refine AWp_loop (fun i : Nat × List Nat × Nat => mk 40 [(0, ws a), (1, ws b), (5, gA i.2.1 i.1), (6, u i.2.2), (7, i64 i.1)] (gR i.2.1 i.1))
    (fun i => i.1 ≤ max a.length b.length ∧ i.2.1.length = i.1 ∧ Ds 4294967296 i.2.1 ∧ i.2.2 ≤ 1 ∧ vb 4294967296 i.2.1 + i.2.2 * 4294967296 ^ i.1 = vb 4294967296 (a.take i.1) + vb 4294967296 (b.take i.1)) (fun i => max a.length b.length - i.1) (0, [], 0) ?_
    ⟨Nat.zero_le _, rfl, Ds_nil, by simp, by simp [vb]⟩ ?_
  · simp only [u, i64, Nat.reduceSub, Nat.reduceAdd, bm]
  rintro ⟨k, os, c⟩ ⟨h1, h2, h3, h4, h5⟩
  simp only at h1 h2 h3 h4 h5
  have e1 := vb_take_getD (K := 4294967296) a k
  have e2 := vb_take_getD (K := 4294967296) b k
  have ga := ha.getD (by decide) k
  have gb := hb.getD (by decide) k
  have e3 := dplus_step (K := 4294967296) (x := a.getD k 0) (y := b.getD k 0) h5
  rw [← e1, ← e2, ← Nat.pow_succ] at e3
  by_cases hn : k < max a.length b.length
  · have hor : k < a.length ∨ k < b.length := by omega
    have hs := vb_snoc (K := 4294967296) os ((c + a.getD k 0 + b.getD k 0) % 4294967296)
    rw [h2] at hs
    rw [← hs] at e3
    have hI : k + 1 ≤ max a.length b.length ∧ (os ++ [(c + a.getD k 0 + b.getD k 0) % 4294967296]).length = k + 1 ∧ Ds 4294967296 (os ++ [(c + a.getD k 0 + b.getD k 0) % 4294967296]) ∧ (c + a.getD k 0 + b.getD k 0) / 4294967296 ≤ 1 ∧
        vb 4294967296 (os ++ [(c + a.getD k 0 + b.getD k 0) % 4294967296]) + (c + a.getD k 0 + b.getD k 0) / 4294967296 * 4294967296 ^ (k + 1) = vb 4294967296 (a.take (k + 1)) + vb 4294967296 (b.take (k + 1)) :=
      ⟨hn, by simp [h2], Ds_snoc h3 (Nat.mod_lt _ (by decide)), by omega, e3⟩
    clear e3 hs e1 e2
    by_cases hka : k < a.length
    · cases k with
      | zero =>
        have h0 : os = [] := List.eq_nil_of_length_eq_zero h2
        subst h0
        simp only [u, i64, Nat.reduceSub, Nat.reduceAdd, bm]
        repeat (first | (refine gC ?_; first | refine aA ?_ | ((first | refine cR (ret_digit a 0 (by omega)) ?_ | refine cR (ret_digit b 0 (by omega)) ?_); refine sX ?_; try refine aA ?_)) | ((first | refine cR (ret_digit a 0 (by omega)) ?_ | refine cR (ret_digit b 0 (by omega)) ?_); refine sX ?_; try refine aA ?_) | refine gS ?_)
        refine ⟨(1, [(c + a.getD 0 0 + b.getD 0 0) % 4294967296], (c + a.getD 0 0 + b.getD 0 0) / 4294967296), ?_, hI, by simp only; omega⟩
        simp only [u, i64, Nat.reduceSub, Nat.reduceAdd, bm]
      | succ k =>
        simp only [u, i64, Nat.reduceSub, Nat.reduceAdd, bm]
        repeat (first | (refine gC ?_; first | refine aA ?_ | ((first | refine cR (ret_digit a (k + 1) (by omega)) ?_ | refine cR (ret_digit b (k + 1) (by omega)) ?_); refine sX ?_; try refine aA ?_)) | ((first | refine cR (ret_digit a (k + 1) (by omega)) ?_ | refine cR (ret_digit b (k + 1) (by omega)) ?_); refine sX ?_; try refine aA ?_) | refine gS ?_)
        refine ⟨(k + 2, os ++ [(c + a.getD (k + 1) 0 + b.getD (k + 1) 0) % 4294967296], (c + a.getD (k + 1) 0 + b.getD (k + 1) 0) / 4294967296), ?_, hI, by simp only; omega⟩
        simp only [u, i64, Nat.reduceSub, Nat.reduceAdd, bm]
    · have hkb : k < b.length := by omega
      cases k with
      | zero =>
        have h0 : os = [] := List.eq_nil_of_length_eq_zero h2
        subst h0
        simp only [u, i64, Nat.reduceSub, Nat.reduceAdd, bm]
        repeat (first | (refine gC ?_; first | refine aA ?_ | ((first | refine cR (ret_digit a 0 (by omega)) ?_ | refine cR (ret_digit b 0 (by omega)) ?_); refine sX ?_; try refine aA ?_)) | ((first | refine cR (ret_digit a 0 (by omega)) ?_ | refine cR (ret_digit b 0 (by omega)) ?_); refine sX ?_; try refine aA ?_) | refine gS ?_)
        refine ⟨(1, [(c + a.getD 0 0 + b.getD 0 0) % 4294967296], (c + a.getD 0 0 + b.getD 0 0) / 4294967296), ?_, hI, by simp only; omega⟩
        simp only [u, i64, Nat.reduceSub, Nat.reduceAdd, bm]
      | succ k =>
        simp only [u, i64, Nat.reduceSub, Nat.reduceAdd, bm]
        repeat (first | (refine gC ?_; first | refine aA ?_ | ((first | refine cR (ret_digit a (k + 1) (by omega)) ?_ | refine cR (ret_digit b (k + 1) (by omega)) ?_); refine sX ?_; try refine aA ?_)) | ((first | refine cR (ret_digit a (k + 1) (by omega)) ?_ | refine cR (ret_digit b (k + 1) (by omega)) ?_); refine sX ?_; try refine aA ?_) | refine gS ?_)
        refine ⟨(k + 2, os ++ [(c + a.getD (k + 1) 0 + b.getD (k + 1) 0) % 4294967296], (c + a.getD (k + 1) 0 + b.getD (k + 1) 0) / 4294967296), ?_, hI, by simp only; omega⟩
        simp only [u, i64, Nat.reduceSub, Nat.reduceAdd, bm]
  · have hk0 : k = max a.length b.length := by omega
    rw [List.take_of_length_le (by omega), List.take_of_length_le (by omega)] at h5
    have hend : os ++ [c] = wfb 4294967296 (max a.length b.length + 1) (vb 4294967296 a + vb 4294967296 b) :=
      wfb_of (by decide) (Ds_snoc h3 (by omega)) (by simp [h2, hk0]) (by rw [vb_snoc, h2, Nat.mul_comm, h5])
    rw [← hend] at hQ
    have hna : ¬ k < a.length := by omega
    have hnb : ¬ k < b.length := by omega
    cases k with
    | zero =>
      have h0 : os = [] := List.eq_nil_of_length_eq_zero h2
      subst h0
      simp only [u, i64, Nat.reduceSub, Nat.reduceAdd, bm]
      (refine gO ?_)
      (refine FinQ hQ (congrArg Array.toList Tryd.results173) _ _ ?_); simp (disch := omega) only [u, i64, ax, if_true, forall_const, reduceCtorEq, implies_true, tvs, bf]
      rfl
    | succ k =>
      simp only [u, i64, Nat.reduceSub, Nat.reduceAdd, bm]
      (refine gO ?_)
      have hlen : (os ++ [c]).length = os.length + 1 := by simp
      rw [← us_snoc1 os c]
      (refine FinQ hQ (congrArg Array.toList Tryd.results173) _ _ ?_); simp (disch := omega) only [u, i64, ax, if_true, forall_const, reduceCtorEq, implies_true, tvs, bf]
theorem ret_Minus (a b : List Nat) (ha : Ds 4294967296 a) (hb : Ds 4294967296 b) (h0 : a ≠ []) (hla : a.length ≤ 1099511627775) (hlb : b.length ≤ 1099511627775) :
    Ret Tryd.prog GEs 190 [ws a, ws b] (.tup [ws (mdiff 4294967296 a.length (vb 4294967296 a) (vb 4294967296 (b.take a.length))), .bool (decide (vb 4294967296 a < vb 4294967296 (b.take a.length)))]) := by
  have := (retT_Minus a b ha hb h0 hla hlb).ret
  rwa [us_length] at this
set_option maxRecDepth 100000 in
theorem ret_rCanonical (n : Nat) (hl : (words n).length ≤ 34359738368) : Ret Tryd.prog GEs 103 [nat n] (.bool true) := by
  refine RetN_start Tryd.func103 (by kernel_rfl) rfl fun Q hQ hQ2 => ?_; rw [Tryd.ntmps103]; simp only [u, i64, Nat.reduceSub, Nat.reduceAdd, bm]
  by_cases h : 0 < (words n).length
  · have hne : words n ≠ [] := List.length_pos_iff.1 h
    have hc := Canon_words n hne
    rw [List.getLast_eq_getElem] at hc
    have hc2 : (words n).getD ((words n).length - 1) 0 ≠ 0 := by
      rw [List.getD_eq_getElem?_getD, List.getElem?_eq_getElem (by omega)]; exact hc
    (refine gO ?_)
    (refine FinQ hQ (congrArg Array.toList Tryd.results103) _ _ ?_); simp (disch := omega) only [u, i64, ax, if_true, forall_const, reduceCtorEq, implies_true, tvs, bf]
    all_goals simp
  · (refine gO ?_)
    (refine FinQ hQ (congrArg Array.toList Tryd.results103) _ _ ?_); simp (disch := omega) only [u, i64, ax, if_true, forall_const, reduceCtorEq, implies_true, tvs, bf]
theorem words_inj {a b : Nat} : words a = words b ↔ a = b := ⟨fun h => by rw [← val_words a, h, val_words], fun h => by rw [h]⟩
set_option maxRecDepth 100000 in
theorem ret_rIs (n : Nat) (ys : List Nat) (hy : Wd ys) (hl : (words n).length ≤ 34359738368) (hly : ys.length ≤ 34359738368) : Ret Tryd.prog GEs 44 [nat n, ws ys] (.bool (decide (n = val ys))) := by
  have hyl := length_words_val_le hy
  refine RetN_start Tryd.func44 (by kernel_rfl) rfl fun Q hQ hQ2 => ?_; rw [Tryd.ntmps44]; simp only [u, i64, Nat.reduceSub, Nat.reduceAdd, bm]
  (refine gO ?_)
  (refine gC ?_)
  (refine cR (ret_rCanonical n hl) ?_; refine sX ?_; try refine aA ?_)
  (refine cR (ret_rTrim ys hy hly) ?_; refine sX ?_; try refine aA ?_)
  (refine cR (ret_Same (words n) (words (val ys)) (by omega) (by omega)) ?_; refine sX ?_; try refine aA ?_)
  simp only [words_inj]
  (refine gO ?_)
  (refine FinQ hQ (congrArg Array.toList Tryd.results44) _ _ ?_); simp (disch := omega) only [u, i64, ax, if_true, forall_const, reduceCtorEq, implies_true, tvs, bf]
set_option maxRecDepth 100000 in
theorem ret_rAdd (xs ys : List Nat) (hx : Wd xs) (hy : Wd ys) (hlx : xs.length ≤ 34359738368) (hly : ys.length ≤ 34359738368) : Ret Tryd.prog GEs 133 [ws xs, ws ys] (nat (val xs + val ys)) := by
  have hb : vb 4294967296 (digs xs) + vb 4294967296 (digs ys) < 4294967296 ^ (max (digs xs).length (digs ys).length + 1) := by
    have h1 := Nat.lt_of_lt_of_le (vb_lt (digs_Ds hx)) (Nat.pow_le_pow_right (n := 4294967296) (by decide) (Nat.le_max_left _ (digs ys).length))
    have h2 := Nat.lt_of_lt_of_le (vb_lt (digs_Ds hy)) (Nat.pow_le_pow_right (n := 4294967296) (by decide) (Nat.le_max_right (digs xs).length _))
    rw [Nat.pow_succ]; omega
  refine RetN_start Tryd.func133 (by kernel_rfl) rfl fun Q hQ hQ2 => ?_; rw [Tryd.ntmps133]; simp only [u, i64, Nat.reduceSub, Nat.reduceAdd, bm]
  (refine gO ?_)
  (refine gC ?_)
  (refine cR (ret_Digits xs hx (by omega)) ?_; refine sX ?_; try refine aA ?_)
  (refine cR (ret_Digits ys hy (by omega)) ?_; refine sX ?_; try refine aA ?_)
  (refine cR (ret_Plus (digs xs) (digs ys) (digs_Ds hx) (digs_Ds hy) (by rw [digs_length]; omega) (by rw [digs_length]; omega)) ?_; refine sX ?_; try refine aA ?_)
  (refine cR (ret_nat (wfb 4294967296 (max (digs xs).length (digs ys).length + 1) (vb 4294967296 (digs xs) + vb 4294967296 (digs ys))) (wfb_Ds (by decide) _ _) (by rw [wfb_length, digs_length, digs_length]; omega)) ?_; refine sX ?_; try refine aA ?_)
  rw [vb_wfb (by decide) _ _ hb, digs_val, digs_val]
  (refine gO ?_)
  (refine FinQ hQ (congrArg Array.toList Tryd.results133) _ _ ?_); simp (disch := omega) only [u, i64, ax, if_true, forall_const, reduceCtorEq, implies_true, tvs, bf]
set_option maxRecDepth 100000 in
set_option maxHeartbeats 2000000 in
theorem ret_rSub (xs ys : List Nat) (hx : Wd xs) (hy : Wd ys) (hne : xs ≠ []) (hl : xs.length ≤ 34359738368) (hl2 : ys.length ≤ 34359738368) (hle : val ys ≤ val xs) : Ret Tryd.prog GEs 159 [ws xs, ws ys] (nat (val xs - val ys)) := by
  have h1 := ret_Digits xs hx (by omega)
  have h2 := ret_rTrim ys hy hl2
  have hyl := length_words_val_le hy
  have h3 := ret_Digits (words (val ys)) (Wd_words _) (by omega)
  have hdn : digs xs ≠ [] := fun h => by
    have := digs_length xs
    rw [h] at this
    have : xs.length = 0 := by simp at this; omega
    exact hne (List.eq_nil_of_length_eq_zero this)
  have h4 := ret_Minus (digs xs) (digs (words (val ys))) (digs_Ds hx) (digs_Ds (Wd_words _)) hdn (by rw [digs_length]; omega) (by rw [digs_length]; omega)
  have hyl2 := length_mono hle
  have hxl := length_words_val_le hx
  rw [List.take_of_length_le (by rw [digs_length, digs_length]; omega), digs_val, digs_val, val_words] at h4
  have hlt : val xs - val ys < 4294967296 ^ (digs xs).length := by
    have := vb_lt (digs_Ds hx)
    rw [digs_val] at this
    omega
  have hv : vb 4294967296 (mdiff 4294967296 (digs xs).length (val xs) (val ys)) = val xs - val ys := by
    unfold mdiff
    rw [if_pos hle]
    exact vb_wfb (by decide) _ _ hlt
  have hds : Ds 4294967296 (mdiff 4294967296 (digs xs).length (val xs) (val ys)) := wfb_Ds (by decide) _ _
  have hml : (mdiff 4294967296 (digs xs).length (val xs) (val ys)).length = (digs xs).length := wfb_length _ _
  have h5 := ret_nat (mdiff 4294967296 (digs xs).length (val xs) (val ys)) hds (by rw [hml, digs_length]; omega)
  rw [hv] at h5
  generalize mdiff 4294967296 (digs xs).length (val xs) (val ys) = dd at *
  refine RetN_start Tryd.func159 (by kernel_rfl) rfl fun Q hQ hQ2 => ?_; rw [Tryd.ntmps159]; simp only [u, i64, Nat.reduceSub, Nat.reduceAdd, bm]
  repeat (first | (refine gC ?_; first | refine aA ?_ | ((first | refine cR h1 ?_ | refine cR h2 ?_ | refine cR h3 ?_ | refine cR h4 ?_ | refine cR h5 ?_); refine sX ?_; try refine aA ?_)) | ((first | refine cR h1 ?_ | refine cR h2 ?_ | refine cR h3 ?_ | refine cR h4 ?_ | refine cR h5 ?_); refine sX ?_; try refine aA ?_) | refine gS ?_)
  (refine FinQ hQ (congrArg Array.toList Tryd.results159) _ _ ?_); simp (disch := omega) only [u, i64, ax, if_true, forall_const, reduceCtorEq, implies_true, tvs, bf]
/-- A canonical integer. -/
def zv (z : Int) : AV := .agg [.bool (decide (z < 0)), nat z.natAbs]
/-- The value of a sign and a size. -/
def sg (neg : Bool) (n : Nat) : Int := if neg = true then -(n : Int) else n
theorem mk_zv (neg : Bool) (n : Nat) : AV.agg [.bool (neg && decide (n ≠ 0)), nat n] = zv (sg neg n) := by
  unfold zv sg
  cases neg with
  | true =>
    rw [if_pos rfl, Int.natAbs_neg, Int.natAbs_natCast, Bool.true_and]
    congr 3
    simp only [decide_eq_decide]
    omega
  | false =>
    rw [if_neg (by decide), Int.natAbs_natCast, Bool.false_and, decF (show ¬ (n : Int) < 0 by omega)]
theorem sg_zv (z : Int) : sg (decide (z < 0)) z.natAbs = z := by
  unfold sg
  by_cases h : z < 0
  · rw [decT h, if_pos rfl]; omega
  · rw [decF h, if_neg (by decide)]; omega
theorem ret_Make03 (neg : Bool) (xs : List Nat) (hx : Wd xs) (hl : xs.length ≤ 34359738368) : Ret Tryd.prog GEs 136 [.bool neg, ws xs] (zv (sg neg (val xs))) := mk_zv neg (val xs) ▸ ret_Make neg xs hx hl
theorem ret_Minus0 (b : List Nat) (hl : b.length ≤ 1000000) : Ret Tryd.prog GEs 190 [ws [], ws b] (.tup [ws [], .bool false]) := by
  refine RetN_start Tryd.func190 (by kernel_rfl) rfl fun Q hQ hQ2 => ?_; rw [Tryd.ntmps190]; simp only [u, i64, Nat.reduceSub, Nat.reduceAdd, bm]
  (refine gO ?_)
  refine AWp_loop (fun _ : Unit => mk 38 [(0, ws []), (1, ws b), (6, .emp), (7, .int .u64 0), (8, i64 0)] []) (fun _ => True) (fun _ => 0) () ?_ trivial ?_
  · simp only [u, i64, Nat.reduceSub, Nat.reduceAdd, bm]
  intro _ _
  simp only [u, i64, Nat.reduceSub, Nat.reduceAdd, bm]
  (refine gO ?_)
  (refine FinQ hQ (congrArg Array.toList Tryd.results190) _ _ ?_); simp (disch := omega) only [u, i64, ax, if_true, forall_const, reduceCtorEq, implies_true, tvs, bf]
  all_goals rfl
theorem ret_rSub0 (ys : List Nat) (hy : Wd ys) (hl : ys.length ≤ 100000) : Ret Tryd.prog GEs 159 [ws [], ws ys] (nat 0) := by
  have h1 := ret_Digits [] (fun x hx => by cases hx) (by decide)
  have h2 := ret_rTrim ys hy (by omega)
  have hyl := length_words_val_le hy
  have h3 := ret_Digits (words (val ys)) (Wd_words _) (by omega)
  have h4 := ret_Minus0 (digs (words (val ys))) (by rw [digs_length]; omega)
  have h5 := ret_nat [] (fun x hx => by cases hx) (by decide)
  rw [show digs [] = [] from rfl] at h1
  rw [show vb 4294967296 [] = 0 from rfl] at h5
  generalize digs (words (val ys)) = dd at *
  refine RetN_start Tryd.func159 (by kernel_rfl) rfl fun Q hQ hQ2 => ?_; rw [Tryd.ntmps159]; simp only [u, i64, Nat.reduceSub, Nat.reduceAdd, bm]
  repeat (first | (refine gC ?_; first | refine aA ?_ | ((first | refine cR h1 ?_ | refine cR h2 ?_ | refine cR h3 ?_ | refine cR h4 ?_ | refine cR h5 ?_); refine sX ?_; try refine aA ?_)) | ((first | refine cR h1 ?_ | refine cR h2 ?_ | refine cR h3 ?_ | refine cR h4 ?_ | refine cR h5 ?_); refine sX ?_; try refine aA ?_) | refine gS ?_)
  (refine FinQ hQ (congrArg Array.toList Tryd.results159) _ _ ?_); simp (disch := omega) only [u, i64, ax, if_true, forall_const, reduceCtorEq, implies_true, tvs, bf]
theorem ret_rSubA (xs ys : List Nat) (hx : Wd xs) (hy : Wd ys) (hl : xs.length ≤ 100000) (hl2 : ys.length ≤ 100000) (hle : val ys ≤ val xs) : Ret Tryd.prog GEs 159 [ws xs, ws ys] (nat (val xs - val ys)) := by
  by_cases h : xs = []
  · subst h
    have : val ys = 0 := by have : val [] = 0 := rfl; omega
    rw [this]
    exact ret_rSub0 ys hy hl2
  · exact ret_rSub xs ys hx hy h (by omega) (by omega) hle
theorem ret_rAddA (xs ys : List Nat) (hx : Wd xs) (hy : Wd ys) (hl : xs.length ≤ 100000) (hl2 : ys.length ≤ 100000) : Ret Tryd.prog GEs 133 [ws xs, ws ys] (nat (val xs + val ys)) := ret_rAdd xs ys hx hy (by omega) (by omega)
set_option maxRecDepth 100000 in
set_option maxHeartbeats 2000000 in
theorem ret_Add03 (a b : Bool) (xs ys : List Nat) (hx : Wd xs) (hy : Wd ys) (hl : xs.length ≤ 10000) (hl2 : ys.length ≤ 10000) : Ret Tryd.prog GEs 99 [.agg [.bool a, ws xs], .agg [.bool b, ws ys]] (zv (sg a (val xs) + sg b (val ys))) := by
  have h1 := length_words_val_le hx
  have h2 := length_words_val_le hy
  have hA := ret_rAddA xs ys hx hy (by omega) (by omega)
  have hAl := length_add (val xs) (val ys)
  have hC := ret_rCmp xs ys hx hy (by omega) (by omega)
  have hC2 : ∃ z : Int, (z < 0 ↔ val xs < val ys) ∧ Ret Tryd.prog GEs 158 [ws xs, ws ys] (i64 z) := ⟨_, by unfold cmpI; split <;> (try split) <;> omega, hC⟩
  obtain ⟨z, hz, hC⟩ := hC2
  have key : ∀ a : Bool, Ret Tryd.prog GEs 99 [.agg [.bool a, ws xs], .agg [.bool a, ws ys]] (zv (sg a (val xs) + sg a (val ys))) := fun a => by
    have hM := ret_Make03 a (words (val xs + val ys)) (Wd_words _) (by omega)
    rw [val_words, show sg a (val xs + val ys) = sg a (val xs) + sg a (val ys) by unfold sg; cases a <;> simp <;> omega] at hM
    generalize sg a (val xs) + sg a (val ys) = w at *
    unfold zv at *
    cases a with
    | true =>
      refine RetN_start Tryd.func99 (by kernel_rfl) rfl fun Q hQ hQ2 => ?_; rw [Tryd.ntmps99]; simp only [u, i64, Nat.reduceSub, Nat.reduceAdd, bm]
      repeat (first | (refine gC ?_; first | refine aA ?_ | ((first | refine cR hA ?_ | refine cR hM ?_); refine sX ?_; try refine aA ?_)) | ((first | refine cR hA ?_ | refine cR hM ?_); refine sX ?_; try refine aA ?_) | refine gS ?_)
      (refine FinQ hQ (congrArg Array.toList Tryd.results99) _ _ ?_); simp (disch := omega) only [u, i64, ax, if_true, forall_const, reduceCtorEq, implies_true, tvs, bf]
    | false =>
      refine RetN_start Tryd.func99 (by kernel_rfl) rfl fun Q hQ hQ2 => ?_; rw [Tryd.ntmps99]; simp only [u, i64, Nat.reduceSub, Nat.reduceAdd, bm]
      repeat (first | (refine gC ?_; first | refine aA ?_ | ((first | refine cR hA ?_ | refine cR hM ?_); refine sX ?_; try refine aA ?_)) | ((first | refine cR hA ?_ | refine cR hM ?_); refine sX ?_; try refine aA ?_) | refine gS ?_)
      (refine FinQ hQ (congrArg Array.toList Tryd.results99) _ _ ?_); simp (disch := omega) only [u, i64, ax, if_true, forall_const, reduceCtorEq, implies_true, tvs, bf]
  have key2 : ∀ a : Bool, Ret Tryd.prog GEs 99 [.agg [.bool a, ws xs], .agg [.bool (!a), ws ys]] (zv (sg a (val xs) + sg (!a) (val ys))) := fun a => by
    by_cases hlt : val xs < val ys
    · have hzz : z < 0 := hz.2 hlt
      have hS := ret_rSubA ys xs hy hx (by omega) (by omega) (by omega)
      have hSl := length_mono (Nat.sub_le (val ys) (val xs))
      have hM := ret_Make03 (!a) (words (val ys - val xs)) (Wd_words _) (by omega)
      rw [val_words, show sg (!a) (val ys - val xs) = sg a (val xs) + sg (!a) (val ys) by unfold sg; cases a <;> simp <;> omega] at hM
      generalize sg a (val xs) + sg (!a) (val ys) = w at *
      unfold zv at *
      cases a with
      | true =>
        rw [show (!true) = false from rfl] at hM ⊢
        refine RetN_start Tryd.func99 (by kernel_rfl) rfl fun Q hQ hQ2 => ?_; rw [Tryd.ntmps99]; simp only [u, i64, Nat.reduceSub, Nat.reduceAdd, bm]
        repeat (first | (refine gC ?_; first | refine aA ?_ | ((first | refine cR hC ?_ | refine cR hS ?_ | refine cR hM ?_); refine sX ?_; try refine aA ?_)) | ((first | refine cR hC ?_ | refine cR hS ?_ | refine cR hM ?_); refine sX ?_; try refine aA ?_) | refine gS ?_)
        (refine FinQ hQ (congrArg Array.toList Tryd.results99) _ _ ?_); simp (disch := omega) only [u, i64, ax, if_true, forall_const, reduceCtorEq, implies_true, tvs, bf]
      | false =>
        rw [show (!false) = true from rfl] at hM ⊢
        refine RetN_start Tryd.func99 (by kernel_rfl) rfl fun Q hQ hQ2 => ?_; rw [Tryd.ntmps99]; simp only [u, i64, Nat.reduceSub, Nat.reduceAdd, bm]
        repeat (first | (refine gC ?_; first | refine aA ?_ | ((first | refine cR hC ?_ | refine cR hS ?_ | refine cR hM ?_); refine sX ?_; try refine aA ?_)) | ((first | refine cR hC ?_ | refine cR hS ?_ | refine cR hM ?_); refine sX ?_; try refine aA ?_) | refine gS ?_)
        (refine FinQ hQ (congrArg Array.toList Tryd.results99) _ _ ?_); simp (disch := omega) only [u, i64, ax, if_true, forall_const, reduceCtorEq, implies_true, tvs, bf]
    · have hzz : ¬ z < 0 := fun h => hlt (hz.1 h)
      have hS := ret_rSubA xs ys hx hy (by omega) (by omega) (by omega)
      have hSl := length_mono (Nat.sub_le (val xs) (val ys))
      have hM := ret_Make03 a (words (val xs - val ys)) (Wd_words _) (by omega)
      rw [val_words, show sg a (val xs - val ys) = sg a (val xs) + sg (!a) (val ys) by unfold sg; cases a <;> simp <;> omega] at hM
      generalize sg a (val xs) + sg (!a) (val ys) = w at *
      unfold zv at *
      cases a with
      | true =>
        rw [show (!true) = false from rfl]
        refine RetN_start Tryd.func99 (by kernel_rfl) rfl fun Q hQ hQ2 => ?_; rw [Tryd.ntmps99]; simp only [u, i64, Nat.reduceSub, Nat.reduceAdd, bm]
        repeat (first | (refine gC ?_; first | refine aA ?_ | ((first | refine cR hC ?_ | refine cR hS ?_ | refine cR hM ?_); refine sX ?_; try refine aA ?_)) | ((first | refine cR hC ?_ | refine cR hS ?_ | refine cR hM ?_); refine sX ?_; try refine aA ?_) | refine gS ?_)
        (refine FinQ hQ (congrArg Array.toList Tryd.results99) _ _ ?_); simp (disch := omega) only [u, i64, ax, if_true, forall_const, reduceCtorEq, implies_true, tvs, bf]
      | false =>
        rw [show (!false) = true from rfl]
        refine RetN_start Tryd.func99 (by kernel_rfl) rfl fun Q hQ hQ2 => ?_; rw [Tryd.ntmps99]; simp only [u, i64, Nat.reduceSub, Nat.reduceAdd, bm]
        repeat (first | (refine gC ?_; first | refine aA ?_ | ((first | refine cR hC ?_ | refine cR hS ?_ | refine cR hM ?_); refine sX ?_; try refine aA ?_)) | ((first | refine cR hC ?_ | refine cR hS ?_ | refine cR hM ?_); refine sX ?_; try refine aA ?_) | refine gS ?_)
        (refine FinQ hQ (congrArg Array.toList Tryd.results99) _ _ ?_); simp (disch := omega) only [u, i64, ax, if_true, forall_const, reduceCtorEq, implies_true, tvs, bf]
  cases a <;> cases b
  · exact key false
  · exact key2 false
  · exact key2 true
  · exact key true
theorem sg_lt (neg : Bool) (n : Nat) : (neg && decide (n ≠ 0)) = decide (sg neg n < 0) ∧ (sg neg n).natAbs = n := by
  unfold sg
  cases neg with
  | true =>
    rw [if_pos rfl, Bool.true_and, Int.natAbs_neg, Int.natAbs_natCast]
    refine ⟨?_, rfl⟩
    simp only [decide_eq_decide]
    omega
  | false =>
    rw [if_neg (by decide), Bool.false_and, Int.natAbs_natCast, decF (show ¬ (n : Int) < 0 by omega)]
    exact ⟨rfl, rfl⟩
/-- What a fraction in lowest terms has to do with the one before. -/
structure Low (z0 : Int) (d0 : Nat) (z : Int) (d g : Nat) : Prop where
  g0 : 0 < g
  dnz : d ≠ 0
  num : z0 = z * g
  den : d0 = d * g
theorem ret_Add11 (a b : Bool) (xs ys : List Nat) (hx : Wd xs) (hy : Wd ys) (hl : xs.length ≤ 10000) (hl2 : ys.length ≤ 10000) : Ret Tryd.prog GEs 40 [.agg [.bool a, ws xs], .agg [.bool b, ws ys]] (zv (sg a (val xs) + sg b (val ys))) := by
  have hA := ret_Add03 a b xs ys hx hy hl hl2
  generalize sg a (val xs) + sg b (val ys) = w at *
  unfold zv at *
  refine RetN_start Tryd.func40 (by kernel_rfl) rfl fun Q hQ hQ2 => ?_; rw [Tryd.ntmps40]; simp only [u, i64, Nat.reduceSub, Nat.reduceAdd, bm]
  repeat (first | (refine gC ?_; first | refine aA ?_ | (refine cR hA ?_; refine sX ?_; try refine aA ?_)) | (refine cR hA ?_; refine sX ?_; try refine aA ?_) | refine gS ?_)
  (refine FinQ hQ (congrArg Array.toList Tryd.results40) _ _ ?_); simp (disch := omega) only [u, i64, ax, if_true, forall_const, reduceCtorEq, implies_true, tvs, bf]
theorem sg_abs (a : Bool) (n : Nat) : (sg a n).natAbs = n := (sg_lt a n).2
theorem Low.le {z0 z0' : Int} {d0 d0' : Nat} {z z' : Int} {d d' g g' : Nat} (h : Low z0 d0 z d g) (h' : Low z0' d0' z' d' g') (hle : z0 * d0' ≤ z0' * d0) : z * d' - z' * d ≤ 0 := by
  rw [h.num, h'.num, h.den, h'.den, Int.natCast_mul, Int.natCast_mul] at hle
  have e1 : z * g * (d' * g') = z * d' * (g * g' : Int) := by
    rw [Int.mul_assoc, Int.mul_assoc]; congr 1; rw [Int.mul_left_comm]
  have e2 : z' * g' * (d * g) = z' * d * (g * g' : Int) := by
    rw [Int.mul_assoc, Int.mul_assoc]; congr 1; rw [Int.mul_left_comm, Int.mul_comm (g' : Int)]
  rw [e1, e2] at hle
  have hp : (0 : Int) < g * g' := Int.mul_pos (by have := h.g0; omega) (by have := h'.g0; omega)
  have := Int.le_of_mul_le_mul_right hle hp
  omega
set_option maxHeartbeats 2000000 in
theorem ret_Check22_0 (p : Nat) (g : Int) (r : Nat) (hp : 1 ≤ p ∧ p ≤ 400) (hg : 1 ≤ g ∧ g ≤ 6000) (hr : r ≤ 4)  :
    Ret Tryd.prog GEs 45 [cx p g r, .emp] (i64 (0)) := by
  have hR := ret_Right22 p g r (by omega) (by omega)
  rw [decT (show okC p g r from ⟨by omega, hg, by omega⟩)] at hR
  unfold cx at *
  refine RetN_start Tryd.func45 (by kernel_rfl) rfl fun Q hQ hQ2 => ?_; rw [Tryd.ntmps45]; simp only [u, i64, Nat.reduceSub, Nat.reduceAdd, bm]
  (refine gO ?_)
  refine G_loop ?_
  refine G_round ?_
  repeat (first | (refine gC ?_; first | refine aA ?_ | (refine cR hR ?_; refine sX ?_; try refine aA ?_)) | (refine cR hR ?_; refine sX ?_; try refine aA ?_) | refine gS ?_)
  refine G_loop ?_
  refine G_round ?_
  (refine gO ?_)
  (refine FinQ hQ (congrArg Array.toList Tryd.results45) _ _ ?_); simp (disch := omega) only [u, i64, ax, if_true, forall_const, reduceCtorEq, implies_true, tvs, bf]
theorem ret_Check22b_0 (p g r : Int) (r1 : -9223372036854775808 ≤ r) (r2 : r < 9223372036854775808) (hb : ¬ okC p g r)  :
    Ret Tryd.prog GEs 45 [cx p g r, .emp] (i64 220) := by
  have hR := ret_Right22 p g r r1 r2
  rw [decF hb] at hR
  clear hb
  unfold cx at *
  refine RetN_start Tryd.func45 (by kernel_rfl) rfl fun Q hQ hQ2 => ?_; rw [Tryd.ntmps45]; simp only [u, i64, Nat.reduceSub, Nat.reduceAdd, bm]
  (refine gO ?_)
  refine G_loop ?_
  refine G_round ?_
  repeat (first | (refine gC ?_; first | refine aA ?_ | (refine cR hR ?_; refine sX ?_; try refine aA ?_)) | (refine cR hR ?_; refine sX ?_; try refine aA ?_) | refine gS ?_)
  (refine FinQ hQ (congrArg Array.toList Tryd.results45) _ _ ?_); simp (disch := omega) only [u, i64, ax, if_true, forall_const, reduceCtorEq, implies_true, tvs, bf]
theorem ret_From0 : Ret Tryd.prog GEs 96 [i64 0] (.agg [.bool false, nat 0]) := by
  have hF := ret_rFromWord 0 (by decide)
  have hM := ret_Make false (words 0) (Wd_words _) (by decide)
  rw [val_words] at hM
  have h3 : Ret Tryd.prog GEs 153 [i64 0] (.agg [.bool false, nat 0]) := by
    refine RetN_start Tryd.func153 (by kernel_rfl) rfl fun Q hQ hQ2 => ?_; rw [Tryd.ntmps153]; simp only [u, i64, Nat.reduceSub, Nat.reduceAdd, bm]
    repeat (first | (refine gC ?_; first | refine aA ?_ | ((first | refine cR hF ?_ | refine cR hM ?_); refine sX ?_; try refine aA ?_)) | ((first | refine cR hF ?_ | refine cR hM ?_); refine sX ?_; try refine aA ?_) | refine gS ?_)
    (refine FinQ hQ (congrArg Array.toList Tryd.results153) _ _ ?_); simp (disch := omega) only [u, i64, ax, if_true, forall_const, reduceCtorEq, implies_true, tvs, bf]
    all_goals rfl
  refine RetN_start Tryd.func96 (by kernel_rfl) rfl fun Q hQ hQ2 => ?_; rw [Tryd.ntmps96]; simp only [u, i64, Nat.reduceSub, Nat.reduceAdd, bm]
  repeat (first | (refine gC ?_; first | refine aA ?_ | (refine cR h3 ?_; refine sX ?_; try refine aA ?_)) | (refine cR h3 ?_; refine sX ?_; try refine aA ?_) | refine gS ?_)
  (refine FinQ hQ (congrArg Array.toList Tryd.results96) _ _ ?_); simp (disch := omega) only [u, i64, ax, if_true, forall_const, reduceCtorEq, implies_true, tvs, bf]
/-- A finite number as an integer times a lower power of 10. -/
theorem ret_At22z (k e low : Int) (neg : Bool) (cs : List Nat) (hk : k = 0) (hc : Wd cs) (hl : cs.length ≤ 10000) (hj : low ≤ e) (hj2 : e - low ≤ 100000) (he : -3000000 ≤ e ∧ e ≤ 3000000) :
    Ret Tryd.prog GEs 38 [.agg [i64 k, .bool neg, ws cs, i64 e], i64 low] (zv (sg neg (val cs * 10 ^ (e - low).toNat))) := by
  have hZ := ret_Zero22 k e neg cs hc (by omega)
  subst hk
  rw [← mk_zv]
  by_cases h0 : val cs = 0
  · rw [decT (show (0 : Int) = 0 ∧ val cs = 0 from ⟨rfl, h0⟩)] at hZ
    rw [h0, Nat.zero_mul, decF (show ¬ (0 : Nat) ≠ 0 from fun h => h rfl), Bool.and_false]
    have hF := ret_From0
    refine RetN_start Tryd.func38 (by kernel_rfl) rfl fun Q hQ hQ2 => ?_; rw [Tryd.ntmps38]; simp only [u, i64, Nat.reduceSub, Nat.reduceAdd, bm]
    repeat (first | (refine gC ?_; first | refine aA ?_ | ((first | refine cR hZ ?_ | refine cR hF ?_); refine sX ?_; try refine aA ?_)) | ((first | refine cR hZ ?_ | refine cR hF ?_); refine sX ?_; try refine aA ?_) | refine gS ?_)
    (refine FinQ hQ (congrArg Array.toList Tryd.results38) _ _ ?_); simp (disch := omega) only [u, i64, ax, if_true, forall_const, reduceCtorEq, implies_true, tvs, bf]
  · rw [decF (show ¬ ((0 : Int) = 0 ∧ val cs = 0) from fun h => h0 h.2)] at hZ
    have hs : e - low = (((e - low).toNat : Nat) : Int) := by omega
    generalize (e - low).toNat = j at *
    have hT := ret_rTen j (by omega)
    have htl := ten_len (k := j) (by omega)
    have hM := ret_rMul cs (words (10 ^ j)) hc (Wd_words _) (by omega) (by omega)
    rw [val_words] at hM
    have hm0 : val cs * 10 ^ j ≠ 0 := Nat.mul_ne_zero h0 (Nat.ne_of_gt (Nat.pow_pos (by decide)))
    have hml : (words (val cs * 10 ^ j)).length ≤ 34359738368 := by
      have := length_mul (val cs) (10 ^ j)
      have := length_words_val_le hc
      omega
    have hK := ret_Make11 neg (words (val cs * 10 ^ j)) (Wd_words _) hml
    rw [val_words, decT hm0, Bool.and_true] at hK
    rw [decT hm0, Bool.and_true]
    clear htl hml hm0 h0
    generalize val cs * 10 ^ j = m at *
    generalize 10 ^ j = t at *
    refine RetN_start Tryd.func38 (by kernel_rfl) rfl fun Q hQ hQ2 => ?_; rw [Tryd.ntmps38]; simp only [u, i64, Nat.reduceSub, Nat.reduceAdd, bm]
    repeat (first | (refine gC ?_; first | refine aA ?_ | (refine cR hZ ?_; refine sX ?_; try refine aA ?_)) | (refine cR hZ ?_; refine sX ?_; try refine aA ?_) | refine gS ?_)
    (refine gC ?_)
    rw [hs]
    repeat (first | (refine gC ?_; first | refine aA ?_ | ((first | refine cR hT ?_ | refine cR hM ?_ | refine cR hK ?_); refine sX ?_; try refine aA ?_)) | ((first | refine cR hT ?_ | refine cR hM ?_ | refine cR hK ?_); refine sX ?_; try refine aA ?_) | refine gS ?_)
    (refine FinQ hQ (congrArg Array.toList Tryd.results38) _ _ ?_); simp (disch := omega) only [u, i64, ax, if_true, forall_const, reduceCtorEq, implies_true, tvs, bf]
def dcs : List DI → List AV
  | [] => []
  | d :: l => i64 d.k :: .bool d.neg :: ws d.cs :: i64 d.e :: dcs l
def dI0 : DI := ⟨0, false, [], 0⟩
theorem dcs_len (l : List DI) : (dcs l).length = l.length * 4 := by
  induction l with
  | nil => rfl
  | cons d l ih => simp only [dcs, List.length_cons, ih]; omega
theorem dcs_drop (l : List DI) (j : Nat) (h : j < l.length) : (dcs l).drop (j * 4) = i64 (l.getD j dI0).k :: .bool (l.getD j dI0).neg :: ws (l.getD j dI0).cs :: i64 (l.getD j dI0).e :: dcs (l.drop (j + 1)) := by
  induction l generalizing j with
  | nil => cases h
  | cons d l ih =>
    cases j with
    | zero => rfl
    | succ j =>
      have := ih j (by simpa using h)
      rw [Nat.succ_mul]
      simpa [dcs] using this
theorem getD_mem {l : List DI} {j : Nat} (h : j < l.length) : l.getD j dI0 ∈ l := by
  rw [List.getD_eq_getElem?_getD, List.getElem?_eq_getElem h, Option.getD_some]
  exact List.getElem_mem h
def shortP (l : List DI) : Prop := ∀ d ∈ l, d.cs.length ≤ 40
instance (l : List DI) : Decidable (shortP l) := by unfold shortP; infer_instance
theorem all_of_lt {Pd : DI → Prop} {l : List DI} (h : ∀ j, j < l.length → Pd (l.getD j dI0)) : ∀ d ∈ l, Pd d := fun d hd => by
  obtain ⟨j, hj, rfl⟩ := List.getElem_of_mem hd
  have := h j hj
  rwa [List.getD_eq_getElem?_getD, List.getElem?_eq_getElem hj, Option.getD_some] at this
theorem ret_ShortL (l : List DI) (hl : l.length ≤ 20) (hp : ∀ d ∈ l, d.cs.length ≤ 9223372036854775807) : Ret Tryd.prog GEs 34 [.lst l.length (dcs l)] (.bool (decide (shortP l))) := by
  refine RetN_start Tryd.func34 (by kernel_rfl) rfl fun Q hQ hQ2 => ?_; rw [Tryd.ntmps34]; simp only [u, i64, Nat.reduceSub, Nat.reduceAdd, bm]
  (refine gO ?_)
  refine AWp_loop (fun i : Nat => mk 17 [(0, .lst l.length (dcs l)), (2, .bool false), (3, i64 i)] []) (fun i => i ≤ l.length ∧ ∀ j, j < i → (l.getD j dI0).cs.length ≤ 40) (fun i => l.length - i) 0 ?_ ⟨Nat.zero_le _, fun j hj => absurd hj (Nat.not_lt_zero j)⟩ ?_
  · simp only [u, i64, Nat.reduceSub, Nat.reduceAdd, bm]
  rintro i ⟨hi1, hi2⟩
  simp only [u, i64, Nat.reduceSub, Nat.reduceAdd, bm]
  by_cases hi : i < l.length
  · have hb := hp _ (getD_mem hi)
    by_cases hs : (l.getD i dI0).cs.length ≤ 40
    · (refine gO ?_)
      (first | refine G_sreg mixed (by first | rfl | kernel_rfl) ?_ | refine G_reg mixed (by first | rfl | kernel_rfl) ?_)
      simp (disch := omega) only [u, i64, ax, eq_self, if_true, if_false, Nat.reduceAdd, Int.reduceToNat, Int.reduceAdd, tvs, bs, dcs_len, dcs_drop l i hi]
      refine aft_any ?_
      (refine gO ?_)
      refine ⟨i + 1, ?_, ⟨by omega, fun j hj => ?_⟩, by omega⟩
      · simp only [u, i64, Nat.reduceSub, Nat.reduceAdd, bm]
      · rcases Nat.lt_succ_iff_lt_or_eq.1 hj with h | rfl
        · exact hi2 j h
        · exact hs
    · rw [decF (show ¬ shortP l from fun h => hs (h _ (getD_mem hi)))] at hQ
      (refine gO ?_)
      (first | refine G_sreg mixed (by first | rfl | kernel_rfl) ?_ | refine G_reg mixed (by first | rfl | kernel_rfl) ?_)
      simp (disch := omega) only [u, i64, ax, eq_self, if_true, if_false, Nat.reduceAdd, Int.reduceToNat, Int.reduceAdd, tvs, bs, dcs_len, dcs_drop l i hi]
      refine aft_any ?_
      (refine gO ?_)
      (refine FinQ hQ (congrArg Array.toList Tryd.results34) _ _ ?_); simp (disch := omega) only [u, i64, ax, if_true, forall_const, reduceCtorEq, implies_true, tvs, bf]
  · have e : i = l.length := by omega
    subst e
    rw [decT (show shortP l from all_of_lt hi2)] at hQ
    (refine gO ?_)
    (refine FinQ hQ (congrArg Array.toList Tryd.results34) _ _ ?_); simp (disch := omega) only [u, i64, ax, if_true, forall_const, reduceCtorEq, implies_true, tvs, bf]
def nearQ (d : DI) : Prop := d.k = 0 ∧ -2000 ≤ d.e ∧ d.e ≤ 2000
instance (d : DI) : Decidable (nearQ d) := by unfold nearQ; infer_instance
def nearL (l : List DI) : Prop := ∀ d ∈ l, nearQ d
instance (l : List DI) : Decidable (nearL l) := by unfold nearL; infer_instance
theorem ret_nearL (l : List DI) (hl : l.length ≤ 20) : Ret Tryd.prog GEs 36 [.lst l.length (dcs l)] (.bool (decide (nearL l))) := by
  refine RetN_start Tryd.func36 (by kernel_rfl) rfl fun Q hQ hQ2 => ?_; rw [Tryd.ntmps36]; simp only [u, i64, Nat.reduceSub, Nat.reduceAdd, bm]
  (refine gO ?_)
  refine AWp_loop (fun i : Nat => mk 32 [(0, .lst l.length (dcs l)), (2, .bool false), (3, i64 i)] []) (fun i => i ≤ l.length ∧ ∀ j, j < i → nearQ (l.getD j dI0)) (fun i => l.length - i) 0 ?_ ⟨Nat.zero_le _, fun j hj => absurd hj (Nat.not_lt_zero j)⟩ ?_
  · simp only [u, i64, Nat.reduceSub, Nat.reduceAdd, bm]
  rintro i ⟨hi1, hi2⟩
  simp only [u, i64, Nat.reduceSub, Nat.reduceAdd, bm]
  by_cases hi : i < l.length
  · by_cases h1 : (l.getD i dI0).k = 0
    · by_cases h2 : -2000 ≤ (l.getD i dI0).e
      · by_cases h3 : (l.getD i dI0).e ≤ 2000
        · (refine gO ?_)
          (first | refine G_sreg mixed (by first | rfl | kernel_rfl) ?_ | refine G_reg mixed (by first | rfl | kernel_rfl) ?_)
          simp (disch := omega) only [u, i64, ax, eq_self, if_true, if_false, Nat.reduceAdd, Int.reduceToNat, Int.reduceAdd, tvs, bs, dcs_len, dcs_drop l i hi]
          refine aft_any ?_
          (refine gO ?_)
          refine ⟨i + 1, ?_, ⟨by omega, fun j hj => ?_⟩, by omega⟩
          · simp only [u, i64, Nat.reduceSub, Nat.reduceAdd, bm]
          · rcases Nat.lt_succ_iff_lt_or_eq.1 hj with h | rfl
            · exact hi2 j h
            · exact ⟨h1, h2, h3⟩
        · rw [decF (show ¬ nearL l from fun h => h3 (h _ (getD_mem hi)).2.2)] at hQ
          (refine gO ?_)
          (first | refine G_sreg mixed (by first | rfl | kernel_rfl) ?_ | refine G_reg mixed (by first | rfl | kernel_rfl) ?_)
          simp (disch := omega) only [u, i64, ax, eq_self, if_true, if_false, Nat.reduceAdd, Int.reduceToNat, Int.reduceAdd, tvs, bs, dcs_len, dcs_drop l i hi]
          refine aft_any ?_
          (refine gO ?_)
          (refine FinQ hQ (congrArg Array.toList Tryd.results36) _ _ ?_); simp (disch := omega) only [u, i64, ax, if_true, forall_const, reduceCtorEq, implies_true, tvs, bf]
      · rw [decF (show ¬ nearL l from fun h => h2 (h _ (getD_mem hi)).2.1)] at hQ
        (refine gO ?_)
        (first | refine G_sreg mixed (by first | rfl | kernel_rfl) ?_ | refine G_reg mixed (by first | rfl | kernel_rfl) ?_)
        simp (disch := omega) only [u, i64, ax, eq_self, if_true, if_false, Nat.reduceAdd, Int.reduceToNat, Int.reduceAdd, tvs, bs, dcs_len, dcs_drop l i hi]
        refine aft_any ?_
        (refine gO ?_)
        (refine FinQ hQ (congrArg Array.toList Tryd.results36) _ _ ?_); simp (disch := omega) only [u, i64, ax, if_true, forall_const, reduceCtorEq, implies_true, tvs, bf]
    · rw [decF (show ¬ nearL l from fun h => h1 (h _ (getD_mem hi)).1)] at hQ
      (refine gO ?_)
      (first | refine G_sreg mixed (by first | rfl | kernel_rfl) ?_ | refine G_reg mixed (by first | rfl | kernel_rfl) ?_)
      simp (disch := omega) only [u, i64, ax, eq_self, if_true, if_false, Nat.reduceAdd, Int.reduceToNat, Int.reduceAdd, tvs, bs, dcs_len, dcs_drop l i hi]
      refine aft_any ?_
      (refine gO ?_)
      (refine FinQ hQ (congrArg Array.toList Tryd.results36) _ _ ?_); simp (disch := omega) only [u, i64, ax, if_true, forall_const, reduceCtorEq, implies_true, tvs, bf]
  · have e : i = l.length := by omega
    subst e
    rw [decT (show nearL l from all_of_lt hi2)] at hQ
    (refine gO ?_)
    (refine FinQ hQ (congrArg Array.toList Tryd.results36) _ _ ?_); simp (disch := omega) only [u, i64, ax, if_true, forall_const, reduceCtorEq, implies_true, tvs, bf]
def okL (p : Nat) (g : Int) (l : List DI) : Prop := ∀ d ∈ l, d.okIn p g
instance (p : Nat) (g : Int) (l : List DI) : Decidable (okL p g l) := by unfold okL; infer_instance
theorem ret_Check22L (p : Nat) (g : Int) (r : Nat) (hp : 1 ≤ p ∧ p ≤ 400) (hg : 1 ≤ g ∧ g ≤ 6000) (hr : r ≤ 4) (l : List DI) (hl : l.length ≤ 20) (hok : ∀ d ∈ l, d.ok) :
    Ret Tryd.prog GEs 45 [cx p g r, .lst l.length (dcs l)] (i64 (if okL p g l then 0 else 221)) := by
  have hR := ret_Right22 p g r (by omega) (by omega)
  rw [decT (show okC p g r from ⟨by omega, hg, by omega⟩)] at hR
  unfold cx at *
  refine RetN_start Tryd.func45 (by kernel_rfl) rfl fun Q hQ hQ2 => ?_; rw [Tryd.ntmps45]; simp only [u, i64, Nat.reduceSub, Nat.reduceAdd, bm]
  (refine gO ?_)
  refine AWp_loop (fun i : Nat => mk 43 [(1, .lst l.length (dcs l)), (2, .ptr 0 0 0), (4, i64 0), (5, i64 i)] [⟨0, true, [i64 p, i64 g, i64 r]⟩]) (fun i => i ≤ l.length) (fun i => l.length - i) 0 ?_ (Nat.zero_le _) ?_
  · simp only [u, i64, Nat.reduceSub, Nat.reduceAdd, bm]
  intro i hi1
  simp only [u, i64, Nat.reduceSub, Nat.reduceAdd, bm]
  by_cases hi : i < l.length
  · have hd := hok _ (getD_mem hi)
    have hlen := hd.len
    have hLg := ret_rLarge (l.getD i dI0).cs (by omega)
    rw [decF (show ¬ 4096 < (l.getD i dI0).cs.length by omega)] at hLg
    (refine gO ?_)
    (first | refine G_sreg mixed (by first | rfl | kernel_rfl) ?_ | refine G_reg mixed (by first | rfl | kernel_rfl) ?_)
    simp (disch := omega) only [u, i64, ax, eq_self, if_true, if_false, Nat.reduceAdd, Int.reduceToNat, Int.reduceAdd, tvs, bs, dcs_len, dcs_drop l i hi]
    repeat (first | (refine gC ?_; first | refine aA ?_ | (refine cR hLg ?_; refine sX ?_; try refine aA ?_)) | (refine cR hLg ?_; refine sX ?_; try refine aA ?_) | refine gS ?_)
    refine ⟨i + 1, ?_, by omega, by omega⟩
    simp only [u, i64, Nat.reduceSub, Nat.reduceAdd, bm]
  · repeat (first | (refine gC ?_; first | refine aA ?_ | (refine cR hR ?_; refine sX ?_; try refine aA ?_)) | (refine cR hR ?_; refine sX ?_; try refine aA ?_) | refine gS ?_)
    refine AWp_loop (fun i : Nat => mk 43 [(1, .lst l.length (dcs l)), (2, .ptr 0 0 0), (4, i64 0), (6, i64 i)] [⟨0, true, [i64 p, i64 g, i64 r]⟩]) (fun i => i ≤ l.length ∧ ∀ j, j < i → (l.getD j dI0).okIn p g) (fun i => l.length - i) 0 ?_ ⟨Nat.zero_le _, fun j hj => absurd hj (Nat.not_lt_zero j)⟩ ?_
    · simp only [u, i64, Nat.reduceSub, Nat.reduceAdd, bm]
    clear hi hi1 i
    rintro i ⟨hi1, hi2⟩
    simp only [u, i64, Nat.reduceSub, Nat.reduceAdd, bm]
    by_cases hi : i < l.length
    · have hd := hok _ (getD_mem hi)
      have o1 := one_of22 p g r hp hg (l.getD i dI0) hd
      unfold cx at o1
      rcases o1 with ⟨g1, a1⟩ | ⟨g1, a1, b1⟩
      · rw [if_neg (show ¬ okL p g l from fun h => g1 (h _ (getD_mem hi)).1)] at hQ
        (refine gO ?_)
        (first | refine G_sreg mixed (by first | rfl | kernel_rfl) ?_ | refine G_reg mixed (by first | rfl | kernel_rfl) ?_)
        simp (disch := omega) only [u, i64, ax, eq_self, if_true, if_false, Nat.reduceAdd, Int.reduceToNat, Int.reduceAdd, tvs, bs, dcs_len, dcs_drop l i hi]
        repeat (first | (refine gC ?_; first | refine aA ?_ | (refine cR a1 ?_; refine sX ?_; try refine aA ?_)) | (refine cR a1 ?_; refine sX ?_; try refine aA ?_) | refine gS ?_)
        (refine FinQ hQ (congrArg Array.toList Tryd.results45) _ _ ?_); simp (disch := omega) only [u, i64, ax, if_true, forall_const, reduceCtorEq, implies_true, tvs, bf]
      · by_cases q1 : inD p g (l.getD i dI0).D
        · rw [decT q1] at b1
          (refine gO ?_)
          (first | refine G_sreg mixed (by first | rfl | kernel_rfl) ?_ | refine G_reg mixed (by first | rfl | kernel_rfl) ?_)
          simp (disch := omega) only [u, i64, ax, eq_self, if_true, if_false, Nat.reduceAdd, Int.reduceToNat, Int.reduceAdd, tvs, bs, dcs_len, dcs_drop l i hi]
          (refine cR a1 ?_; refine sX ?_; try refine aA ?_)
          simp (disch := omega) only [u, i64, ax, eq_self, if_true, if_false, Nat.reduceAdd, Int.reduceToNat, Int.reduceAdd, tvs, bs, dcs_len, dcs_drop l i hi]
          repeat (first | (refine gC ?_; first | refine aA ?_ | (refine cR b1 ?_; refine sX ?_; try refine aA ?_)) | (refine cR b1 ?_; refine sX ?_; try refine aA ?_) | refine gS ?_)
          refine ⟨i + 1, ?_, ⟨by omega, fun j hj => ?_⟩, by omega⟩
          · simp only [u, i64, Nat.reduceSub, Nat.reduceAdd, bm]
          · rcases Nat.lt_succ_iff_lt_or_eq.1 hj with h | rfl
            · exact hi2 j h
            · exact ⟨g1, q1⟩
        · rw [decF q1] at b1
          rw [if_neg (show ¬ okL p g l from fun h => q1 (h _ (getD_mem hi)).2)] at hQ
          (refine gO ?_)
          (first | refine G_sreg mixed (by first | rfl | kernel_rfl) ?_ | refine G_reg mixed (by first | rfl | kernel_rfl) ?_)
          simp (disch := omega) only [u, i64, ax, eq_self, if_true, if_false, Nat.reduceAdd, Int.reduceToNat, Int.reduceAdd, tvs, bs, dcs_len, dcs_drop l i hi]
          (refine cR a1 ?_; refine sX ?_; try refine aA ?_)
          simp (disch := omega) only [u, i64, ax, eq_self, if_true, if_false, Nat.reduceAdd, Int.reduceToNat, Int.reduceAdd, tvs, bs, dcs_len, dcs_drop l i hi]
          repeat (first | (refine gC ?_; first | refine aA ?_ | (refine cR b1 ?_; refine sX ?_; try refine aA ?_)) | (refine cR b1 ?_; refine sX ?_; try refine aA ?_) | refine gS ?_)
          (refine FinQ hQ (congrArg Array.toList Tryd.results45) _ _ ?_); simp (disch := omega) only [u, i64, ax, if_true, forall_const, reduceCtorEq, implies_true, tvs, bf]
    · have e : i = l.length := by omega
      subst e
      rw [if_pos (show okL p g l from all_of_lt hi2)] at hQ
      (refine gO ?_)
      (refine FinQ hQ (congrArg Array.toList Tryd.results45) _ _ ?_); simp (disch := omega) only [u, i64, ax, if_true, forall_const, reduceCtorEq, implies_true, tvs, bf]
theorem ret_Check22bL (p g r : Int) (r1 : -9223372036854775808 ≤ r) (r2 : r < 9223372036854775808) (hb : ¬ okC p g r) (l : List DI) (hl : l.length ≤ 20) (hok : ∀ d ∈ l, d.ok) :
    Ret Tryd.prog GEs 45 [cx p g r, .lst l.length (dcs l)] (i64 220) := by
  have hR := ret_Right22 p g r r1 r2
  rw [decF hb] at hR
  clear hb
  unfold cx at *
  refine RetN_start Tryd.func45 (by kernel_rfl) rfl fun Q hQ hQ2 => ?_; rw [Tryd.ntmps45]; simp only [u, i64, Nat.reduceSub, Nat.reduceAdd, bm]
  (refine gO ?_)
  refine AWp_loop (fun i : Nat => mk 43 [(1, .lst l.length (dcs l)), (2, .ptr 0 0 0), (4, i64 0), (5, i64 i)] [⟨0, true, [i64 p, i64 g, i64 r]⟩]) (fun i => i ≤ l.length) (fun i => l.length - i) 0 ?_ (Nat.zero_le _) ?_
  · simp only [u, i64, Nat.reduceSub, Nat.reduceAdd, bm]
  intro i hi1
  simp only [u, i64, Nat.reduceSub, Nat.reduceAdd, bm]
  by_cases hi : i < l.length
  · have hd := hok _ (getD_mem hi)
    have hlen := hd.len
    have hLg := ret_rLarge (l.getD i dI0).cs (by omega)
    rw [decF (show ¬ 4096 < (l.getD i dI0).cs.length by omega)] at hLg
    (refine gO ?_)
    (first | refine G_sreg mixed (by first | rfl | kernel_rfl) ?_ | refine G_reg mixed (by first | rfl | kernel_rfl) ?_)
    simp (disch := omega) only [u, i64, ax, eq_self, if_true, if_false, Nat.reduceAdd, Int.reduceToNat, Int.reduceAdd, tvs, bs, dcs_len, dcs_drop l i hi]
    repeat (first | (refine gC ?_; first | refine aA ?_ | (refine cR hLg ?_; refine sX ?_; try refine aA ?_)) | (refine cR hLg ?_; refine sX ?_; try refine aA ?_) | refine gS ?_)
    refine ⟨i + 1, ?_, by omega, by omega⟩
    simp only [u, i64, Nat.reduceSub, Nat.reduceAdd, bm]
  · repeat (first | (refine gC ?_; first | refine aA ?_ | (refine cR hR ?_; refine sX ?_; try refine aA ?_)) | (refine cR hR ?_; refine sX ?_; try refine aA ?_) | refine gS ?_)
    (refine FinQ hQ (congrArg Array.toList Tryd.results45) _ _ ?_); simp (disch := omega) only [u, i64, ax, if_true, forall_const, reduceCtorEq, implies_true, tvs, bf]
theorem dcs_snoc (l : List DI) (j : Nat) (h : j < l.length) : dcs (l.take (j + 1)) = dcs (l.take j) ++ [i64 (l.getD j dI0).k, .bool (l.getD j dI0).neg, ws (l.getD j dI0).cs, i64 (l.getD j dI0).e] := by
  induction l generalizing j with
  | nil => cases h
  | cons d l ih =>
    cases j with
    | zero => rfl
    | succ j =>
      have := ih j (by simpa using h)
      simp only [List.take_succ_cons, dcs, this, List.cons_append, List.getD_cons_succ]
theorem dcs_pure (l : List DI) : pureAs (dcs l) = true := by
  induction l with
  | nil => rfl
  | cons d l ih => simp only [dcs, pAs_cons, pA_int, pA_bool, pA_lst, us_pure, Bool.and_true, Bool.true_and, ih, i64]
/-- The law's list as the reference has it. -/
def argF (p g r : Int) (l : List DI) : Nat → St
  | 0 => mk 25 [(1, .lst l.length (dcs l)), (2, .ptr 0 0 0), (4, i64 0), (5, .emp), (6, i64 0)] [⟨0, true, [i64 p, i64 g, i64 r]⟩]
  | j + 1 => mk 25 [(1, .lst l.length (dcs l)), (2, .ptr 0 0 0), (4, i64 0), (5, .own 1 j 0 (j + 1) 4), (6, i64 ((j + 1 : Nat) : Int))] [⟨0, true, [i64 p, i64 g, i64 r]⟩, ⟨j, true, dcs (l.take (j + 1))⟩]
theorem argF_0 (p g r : Int) (l : List DI) : argF p g r l 0 = mk 25 [(1, .lst l.length (dcs l)), (2, .ptr 0 0 0), (4, i64 0), (5, .emp), (6, i64 0)] [⟨0, true, [i64 p, i64 g, i64 r]⟩] := rfl
theorem argF_S (p g r : Int) (l : List DI) (j : Nat) : argF p g r l (j + 1) = mk 25 [(1, .lst l.length (dcs l)), (2, .ptr 0 0 0), (4, i64 0), (5, .own 1 j 0 (j + 1) 4), (6, i64 ((j + 1 : Nat) : Int))] [⟨0, true, [i64 p, i64 g, i64 r]⟩, ⟨j, true, dcs (l.take (j + 1))⟩] := rfl
theorem ret_Args22L (p g r z : Int) (l : List DI) (hl : l.length ≤ 20) (hC : Ret Tryd.prog GEs 45 [cx p g r, .lst l.length (dcs l)] (i64 z)) (hE : l = [] → Ret Tryd.prog GEs 45 [cx p g r, .emp] (i64 z)) :
    Ret Tryd.prog GEs 35 [cx p g r, .lst l.length (dcs l)] (i64 z) := by
  have hX := ret_Ctx p g r
  unfold cx at *
  refine RetN_start Tryd.func35 (by kernel_rfl) rfl fun Q hQ hQ2 => ?_; rw [Tryd.ntmps35]; simp only [u, i64, Nat.reduceSub, Nat.reduceAdd, bm]
  (refine gO ?_)
  refine AWp_loop (argF p g r l) (fun i => i ≤ l.length) (fun i => l.length - i) 0 ?_ (Nat.zero_le _) ?_
  · rw [argF_0]
    simp only [u, i64, Nat.reduceSub, Nat.reduceAdd, bm]
  intro i hi1
  by_cases hi : i < l.length
  · have t1 := ret_TheirD (l.getD i dI0).k (l.getD i dI0).e (l.getD i dI0).neg (l.getD i dI0).cs
    cases i with
    | zero =>
      rw [argF_0]
      simp only [u, i64, Nat.reduceSub, Nat.reduceAdd, bm]
      (refine gO ?_)
      (first | refine G_sreg mixed (by first | rfl | kernel_rfl) ?_ | refine G_reg mixed (by first | rfl | kernel_rfl) ?_)
      simp (disch := omega) only [u, i64, ax, eq_self, if_true, if_false, Nat.reduceAdd, Int.reduceToNat, Int.reduceAdd, tvs, bs, dcs_len, dcs_drop l 0 hi, Nat.zero_mul, List.drop_zero]
      (refine cR t1 ?_; refine sX ?_; try refine aA ?_)
      refine ⟨⟨rfl, rfl⟩, ?_⟩
      simp (disch := omega) only [u, i64, ax, eq_self, if_true, if_false, Nat.reduceAdd, Int.reduceToNat, Int.reduceAdd, tvs, bs, Nat.reduceMul, List.take_succ_cons, List.take_zero, List.nil_append, List.cons_append, List.append_nil, Nat.reduceLeDiff]
      refine aft_any ?_
      (refine gO ?_)
      refine ⟨1, ?_, by omega, by omega⟩
      rw [argF_S, dcs_snoc l 0 hi]
      simp only [u, i64, Nat.reduceSub, Nat.reduceAdd, bm]
      exact ⟨trivial, trivial, rfl⟩
    | succ j =>
      rw [argF_S]
      simp only [u, i64, Nat.reduceSub, Nat.reduceAdd, bm]
      (refine gO ?_)
      (first | refine G_sreg mixed (by first | rfl | kernel_rfl) ?_ | refine G_reg mixed (by first | rfl | kernel_rfl) ?_)
      simp (disch := omega) only [u, i64, ax, eq_self, if_true, if_false, Nat.reduceAdd, Int.reduceToNat, Int.reduceAdd, tvs, bs, dcs_len, dcs_drop l (j + 1) hi]
      (refine cR t1 ?_; refine sX ?_; try refine aA ?_)
      refine ⟨⟨rfl, rfl⟩, ⟨by rw [dcs_len, List.length_take]; omega, by omega⟩, ?_⟩
      simp (disch := omega) only [u, i64, ax, eq_self, if_true, if_false, Nat.reduceAdd, Int.reduceToNat, Int.reduceAdd, tvs, bs, Nat.reduceMul, List.take_succ_cons, List.take_zero, List.nil_append, List.cons_append, List.append_nil, Nat.reduceLeDiff]
      refine aft_any ?_
      (refine gO ?_)
      refine ⟨j + 1 + 1, ?_, by omega, by omega⟩
      rw [argF_S, dcs_snoc l (j + 1) hi]
      simp only [u, i64, Nat.reduceSub, Nat.reduceAdd, bm]
      all_goals rfl
  · cases i with
    | zero =>
      have hl0 : l = [] := List.eq_nil_of_length_eq_zero (by omega)
      have hE := hE hl0
      rw [argF_0]
      simp only [u, i64, Nat.reduceSub, Nat.reduceAdd, bm]
      repeat (first | (refine gC ?_; first | refine aA ?_ | ((first | refine cR hX ?_ | refine cR hE ?_); refine sX ?_; try refine aA ?_)) | ((first | refine cR hX ?_ | refine cR hE ?_); refine sX ?_; try refine aA ?_) | refine gS ?_)
      (refine FinQ hQ (congrArg Array.toList Tryd.results35) _ _ ?_); simp (disch := omega) only [u, i64, ax, if_true, forall_const, reduceCtorEq, implies_true, tvs, bf]
    | succ j =>
      have e : j + 1 = l.length := by omega
      have et : l.take (j + 1) = l := List.take_of_length_le (by omega)
      rw [argF_S, et, e]
      simp only [u, i64, Nat.reduceSub, Nat.reduceAdd, bm]
      (refine gO ?_)
      refine G_cool1 ?_
      (refine gC ?_)
      (refine cR hX ?_; refine sX ?_; try refine aA ?_)
      refine callK_ret hC (by (simp (disch := omega) only [if_true, forall_const, reduceCtorEq, implies_true, bz]); rw [fzO_allS _ _ _ _ _ (by rw [dcs_len]) (dcs_pure l)]; rfl) ?_
      simp (disch := omega) only [u, i64, ax, eq_self, if_true, if_false, Nat.reduceAdd, Int.reduceToNat, Int.reduceAdd, tvs, bs]
      refine aft_any ?_
      (refine gO ?_)
      (refine FinQ hQ (congrArg Array.toList Tryd.results35) _ _ ?_); simp (disch := omega) only [u, i64, ax, if_true, forall_const, reduceCtorEq, implies_true, tvs, bf]
end Go.Proofs
