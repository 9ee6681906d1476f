/-
  The framework of this work: abstract values and states, operations, regions, code, functions: proved sound over the model.
-/
import Derived.Test.YtenfiehjbeojeaaGreatDoorX5
import Derived.KernelRfl
set_option linter.unusedVariables false
set_option linter.unusedSimpArgs false
namespace Go.Ax
open Go.RowKit
def val : List Nat → Nat
  | [] => 0
  | x :: xs => x + 18446744073709551616 * val xs
def wordsF : Nat → Nat → List Nat
  | 0, _ => []
  | f + 1, n => if n = 0 then [] else n % 18446744073709551616 :: wordsF f (n / 18446744073709551616)
/-- The words of a number, without zeros at the end. -/
def words (n : Nat) : List Nat := wordsF (n.log2 / 64 + 1) n
/-- Words: each is less than 2^64. -/
def Wd (xs : List Nat) : Prop := ∀ x ∈ xs, x < 18446744073709551616
def us (xs : List Nat) : List AV := xs.map u
/-- A slice of words. -/
abbrev ws (xs : List Nat) : AV := .lst xs.length (us xs)
/-- A number in canonical form. -/
abbrev nat (n : Nat) : AV := ws (words n)
theorem wordsF_val : ∀ (f n : Nat), n < 18446744073709551616 ^ f → val (wordsF f n) = n
  | 0, n, h => by simp only [Nat.pow_zero] at h; simp [wordsF, val]; omega
  | f + 1, n, h => by
    unfold wordsF
    by_cases h0 : n = 0
    · simp [h0, val]
    · rw [if_neg h0]
      have : n / 18446744073709551616 < 18446744073709551616 ^ f := by rw [Nat.div_lt_iff_lt_mul (by decide)]; rw [Nat.pow_succ] at h; exact h
      simp only [val, wordsF_val f _ this]
      exact Nat.mod_add_div n 18446744073709551616
theorem lt_pow_log2 (n : Nat) : n < 18446744073709551616 ^ (n.log2 / 64 + 1) := by
  have h : n < 2 ^ (n.log2 + 1) := Nat.lt_log2_self
  have hB : 18446744073709551616 = 2 ^ 64 := by decide
  rw [hB, ← Nat.pow_mul]
  exact Nat.lt_of_lt_of_le h (Nat.pow_le_pow_right (by decide) (by omega))
theorem val_words (n : Nat) : val (words n) = n := wordsF_val _ _ (lt_pow_log2 n)
theorem wordsF_Wd : ∀ (f n : Nat), Wd (wordsF f n)
  | 0, n, x, h => by simp [wordsF] at h
  | f + 1, n, x, h => by
    unfold wordsF at h
    split at h
    · simp at h
    · rcases List.mem_cons.1 h with rfl | h
      · exact Nat.mod_lt _ (by decide)
      · exact wordsF_Wd f _ x h
theorem Wd_words (n : Nat) : Wd (words n) := wordsF_Wd _ _
theorem Wd_nil : Wd [] := fun x h => by simp at h
theorem Wd_cons {x : Nat} {xs : List Nat} (hx : x < 18446744073709551616) (h : Wd xs) : Wd (x :: xs) := fun y hy => by
  rcases List.mem_cons.1 hy with rfl | hy
  · exact hx
  · exact h y hy
theorem Wd.tail {x : Nat} {xs : List Nat} (h : Wd (x :: xs)) : Wd xs := fun y hy => h y (List.mem_cons_of_mem _ hy)
theorem Wd.head {x : Nat} {xs : List Nat} (h : Wd (x :: xs)) : x < 18446744073709551616 := h x (List.mem_cons_self ..)
theorem Wd.append {xs ys : List Nat} (h : Wd xs) (k : Wd ys) : Wd (xs ++ ys) := fun y hy => by
  rcases List.mem_append.1 hy with hy | hy
  · exact h y hy
  · exact k y hy
theorem Wd.take {xs : List Nat} (h : Wd xs) (n : Nat) : Wd (xs.take n) := fun y hy => h y (List.mem_of_mem_take hy)
theorem Wd.drop {xs : List Nat} (h : Wd xs) (n : Nat) : Wd (xs.drop n) := fun y hy => h y (List.mem_of_mem_drop hy)
theorem Wd.set {xs : List Nat} (h : Wd xs) (i : Nat) {v : Nat} (hv : v < 18446744073709551616) : Wd (xs.set i v) := fun y hy => by
  rcases List.mem_or_eq_of_mem_set hy with hy | rfl
  · exact h y hy
  · exact hv
theorem Wd.getD {xs : List Nat} (h : Wd xs) (i : Nat) : xs.getD i 0 < 18446744073709551616 := by
  rw [List.getD_eq_getElem?_getD]
  cases hx : xs[i]? with
  | none => decide
  | some x => exact h x (List.mem_of_getElem? hx)
theorem Wd_replicate (n : Nat) {v : Nat} (hv : v < 18446744073709551616) : Wd (List.replicate n v) := fun y hy => by
  rw [List.eq_of_mem_replicate hy]; exact hv
theorem val_lt : ∀ {xs : List Nat}, Wd xs → val xs < 18446744073709551616 ^ xs.length
  | [], _ => by simp [val]
  | x :: xs, h => by
    have h1 := val_lt h.tail
    have h2 := h.head
    simp only [val, List.length_cons, Nat.pow_succ]
    have : 18446744073709551616 * val xs + 18446744073709551616 ≤ 18446744073709551616 * 18446744073709551616 ^ xs.length := by
      rw [← Nat.mul_succ]; exact Nat.mul_le_mul_left _ h1
    rw [Nat.mul_comm (18446744073709551616 ^ xs.length)]
    omega
theorem val_append : ∀ (xs ys : List Nat), val (xs ++ ys) = val xs + 18446744073709551616 ^ xs.length * val ys
  | [], ys => by simp [val]
  | x :: xs, ys => by
    simp only [List.cons_append, val, val_append xs ys, List.length_cons, Nat.pow_succ, Nat.mul_add]
    rw [Nat.add_assoc, ← Nat.mul_assoc, Nat.mul_comm 18446744073709551616 (18446744073709551616 ^ xs.length)]
theorem val_replicate_zero : ∀ n, val (List.replicate n 0) = 0
  | 0 => rfl
  | n + 1 => by simp [List.replicate_succ, val, val_replicate_zero n]
/-- Canonical: no zero at the end. -/
def Canon (xs : List Nat) : Prop := ∀ h : xs ≠ [], xs.getLast h ≠ 0
theorem Canon.tail {x : Nat} {xs : List Nat} (h : Canon (x :: xs)) : Canon xs := fun hne => by
  have := h (by simp)
  rwa [List.getLast_cons hne] at this
theorem val_eq_zero : ∀ {xs : List Nat}, Canon xs → val xs = 0 → xs = []
  | [], _, _ => rfl
  | [x], hc, h => by
    have := hc (by simp)
    simp [val] at h
    simp [h] at this
  | x :: y :: ys, hc, h => by
    simp only [val] at h
    have h1 : val (y :: ys) = 0 := by
      have h2 : 18446744073709551616 * val (y :: ys) = 0 := by simp only [val]; omega
      rcases Nat.mul_eq_zero.1 h2 with h3 | h3
      · exact absurd h3 (by decide)
      · exact h3
    have := val_eq_zero hc.tail h1
    cases this
theorem wordsF_of : ∀ (xs : List Nat) (f : Nat), Wd xs → Canon xs → xs.length ≤ f → wordsF f (val xs) = xs
  | [], 0, _, _, _ => rfl
  | [], f + 1, _, _, _ => by simp [wordsF, val]
  | x :: xs, 0, _, _, h => by simp at h
  | x :: xs, f + 1, hw, hc, h => by
    unfold wordsF
    have hne : val (x :: xs) ≠ 0 := fun h0 => by cases val_eq_zero hc h0
    rw [if_neg hne]
    have h1 : val (x :: xs) % 18446744073709551616 = x := by
      simp only [val]; rw [Nat.add_mul_mod_self_left]; exact Nat.mod_eq_of_lt hw.head
    have h2 : val (x :: xs) / 18446744073709551616 = val xs := by
      simp only [val]
      have := hw.head
      rw [Nat.add_mul_div_left _ _ (by decide), Nat.div_eq_of_lt this, Nat.zero_add]
    rw [h1, h2, wordsF_of xs f hw.tail hc.tail (by simpa using h)]
theorem wordsF_more : ∀ (f g n : Nat), n < 18446744073709551616 ^ f → n < 18446744073709551616 ^ g → wordsF f n = wordsF g n
  | 0, 0, n, _, _ => rfl
  | 0, g + 1, n, h, _ => by
    have : n = 0 := by simpa using h
    simp [wordsF, this]
  | f + 1, 0, n, _, h => by
    have : n = 0 := by simpa using h
    simp [wordsF, this]
  | f + 1, g + 1, n, h, h' => by
    unfold wordsF
    split
    · rfl
    · rw [wordsF_more f g (n / 18446744073709551616) (by rw [Nat.div_lt_iff_lt_mul (by decide), ← Nat.pow_succ]; exact h) (by rw [Nat.div_lt_iff_lt_mul (by decide), ← Nat.pow_succ]; exact h')]
theorem words_val {xs : List Nat} (hw : Wd xs) (hc : Canon xs) : words (val xs) = xs := by
  unfold words
  rw [wordsF_more _ xs.length _ (lt_pow_log2 _) (val_lt hw)]
  exact wordsF_of xs _ hw hc (Nat.le_refl _)
theorem Canon_wordsF : ∀ (f n : Nat), n < 18446744073709551616 ^ f → Canon (wordsF f n)
  | 0, n, h => fun hne => by simp [wordsF] at hne
  | f + 1, n, h => fun hne => by
    by_cases h0 : n = 0
    · simp [wordsF, h0] at hne
    · have hlt : n / 18446744073709551616 < 18446744073709551616 ^ f := by rw [Nat.div_lt_iff_lt_mul (by decide)]; rw [Nat.pow_succ] at h; exact h
      simp only [wordsF, if_neg h0]
      by_cases h1 : wordsF f (n / 18446744073709551616) = []
      · have h2 : n / 18446744073709551616 = 0 := by
          have := wordsF_val f (n / 18446744073709551616) hlt
          rw [h1] at this
          exact this.symm
        simp only [h1, List.getLast_singleton]
        have := Nat.mod_add_div n 18446744073709551616
        rw [h2] at this
        omega
      · rw [List.getLast_cons h1]; exact Canon_wordsF f _ hlt h1
theorem Canon_words (n : Nat) : Canon (words n) := Canon_wordsF _ _ (lt_pow_log2 n)
theorem words_zero : words 0 = [] := by decide
theorem words_eq_nil {n : Nat} : words n = [] ↔ n = 0 := by
  constructor
  · intro h; have := val_words n; rw [h] at this; exact this.symm
  · rintro rfl; exact words_zero
theorem lt_pow_of_length {n k : Nat} (h : (words n).length ≤ k) : n < 18446744073709551616 ^ k := by
  have h1 := val_lt (Wd_words n)
  rw [val_words] at h1
  exact Nat.lt_of_lt_of_le h1 (Nat.pow_le_pow_right (by decide) h)
theorem le_val_of_can : ∀ {xs : List Nat}, Canon xs → xs ≠ [] → 18446744073709551616 ^ (xs.length - 1) ≤ val xs
  | [], _, h => absurd rfl h
  | [x], hc, _ => by
    have := hc (by simp)
    simp only [List.getLast_singleton] at this
    simp [val]; omega
  | x :: y :: ys, hc, _ => by
    have ih := le_val_of_can hc.tail (by simp)
    simp only [List.length_cons, Nat.add_sub_cancel] at ih ⊢
    rw [Nat.pow_succ, Nat.mul_comm]
    have := Nat.mul_le_mul_left 18446744073709551616 ih
    rw [show val (x :: y :: ys) = x + 18446744073709551616 * val (y :: ys) from rfl]
    omega
theorem length_le {n k : Nat} (h : n < 18446744073709551616 ^ k) : (words n).length ≤ k := by
  rcases Nat.lt_or_ge k (words n).length with hk | hk
  · have hne : words n ≠ [] := fun h0 => by rw [h0] at hk; simp at hk
    have h1 := le_val_of_can (Canon_words n) hne
    rw [val_words] at h1
    have h2 : 18446744073709551616 ^ k ≤ 18446744073709551616 ^ ((words n).length - 1) := Nat.pow_le_pow_right (by decide) (by omega)
    omega
  · exact hk
theorem length_words_val_le {xs : List Nat} (h : Wd xs) : (words (val xs)).length ≤ xs.length := length_le (val_lt h)
theorem length_mono {m n : Nat} (h : m ≤ n) : (words m).length ≤ (words n).length := length_le (Nat.lt_of_le_of_lt h (lt_pow_of_length (Nat.le_refl _)))
theorem length_mul (a b : Nat) : (words (a * b)).length ≤ (words a).length + (words b).length := length_le (by
  rw [Nat.pow_add]
  have ha := lt_pow_of_length (Nat.le_refl (words a).length)
  have hb := lt_pow_of_length (Nat.le_refl (words b).length)
  exact Nat.mul_lt_mul'' ha hb)
theorem length_add (a b : Nat) : (words (a + b)).length ≤ max (words a).length (words b).length + 1 := length_le (by
  have ha := Nat.lt_of_lt_of_le (lt_pow_of_length (Nat.le_refl (words a).length)) (Nat.pow_le_pow_right (n := 18446744073709551616) (by decide) (Nat.le_max_left _ (words b).length))
  have hb := Nat.lt_of_lt_of_le (lt_pow_of_length (Nat.le_refl (words b).length)) (Nat.pow_le_pow_right (n := 18446744073709551616) (by decide) (Nat.le_max_right (words a).length _))
  rw [Nat.pow_succ]
  have : 2 ≤ 18446744073709551616 := by decide
  have := Nat.mul_le_mul_left (18446744073709551616 ^ max (words a).length (words b).length) this
  omega)
theorem us_nil : us [] = [] := rfl
theorem us_cons (x : Nat) (xs : List Nat) : us (x :: xs) = u x :: us xs := rfl
theorem us_length (xs : List Nat) : (us xs).length = xs.length := by simp [us]
theorem us_take (xs : List Nat) (n : Nat) : (us xs).take n = us (xs.take n) := by simp [us, List.map_take]
theorem us_drop (xs : List Nat) (n : Nat) : (us xs).drop n = us (xs.drop n) := by simp [us, List.map_drop]
theorem us_append (xs ys : List Nat) : us xs ++ us ys = us (xs ++ ys) := by simp [us]
theorem us_set (xs : List Nat) (i v : Nat) : (us xs).set i (.int .u64 (v : Int)) = us (xs.set i v) := by simp [us, List.map_set]
theorem us_cell1 (xs : List Nat) : (us xs).all cell1 = true := by simp [us, cell1]
theorem us_pure (xs : List Nat) : pureAs (us xs) = true := pureAs_of fun x hx => by
  simp only [us, List.mem_map] at hx
  obtain ⟨n, _, rfl⟩ := hx
  rfl
theorem us_get (xs : List Nat) (j : Nat) (h : j < xs.length) : (us (xs.drop j))[0]? = some (u (xs.getD j 0)) := by
  simp [us, List.getElem?_drop, List.getD_eq_getElem?_getD, List.getElem?_eq_getElem h]
theorem us_get0 (xs : List Nat) (h : 0 < xs.length) : (us xs)[0]? = some (u (xs.getD 0 0)) := by
  have := us_get xs 0 h
  simpa using this
theorem us_zeros (n : Nat) : (List.replicate n [AV.int .u64 0]).flatten = us (List.replicate n 0) := by
  induction n with
  | zero => rfl
  | succ n ih => rw [List.replicate_succ, List.flatten_cons, ih]; rfl
theorem us_rep1 : us (List.replicate 1 0) = [u 0] := rfl
theorem us_rep2 : us (List.replicate 2 0) = [u 0, u 0] := rfl
theorem us_rep3 : us (List.replicate 3 0) = [u 0, u 0, u 0] := rfl
theorem wrapI (x : Int) (h1 : -9223372036854775808 ≤ x) (h2 : x < 9223372036854775808) : IntKind.i64.wrap x = x := by
  rw [IntKind.wrap_i64]; omega
end Go.Ax
set_option linter.unusedVariables false
set_option linter.unusedSimpArgs false
namespace Go.Ax
open Go.RowKit
def fzC (x : Option AV) (xs : Option (List AV)) : Option (List AV) := match x, xs with
  | some x, some xs => some (x :: xs)
  | _, _ => none
def fzO (strict : Bool) (ver off n sz : Nat) : Option Row → Option AV
  | some row => if row.ver = ver ∧ (strict = true → row.hot = false) ∧ off + n * sz ≤ row.cells.length ∧ pureAs row.cells = true then some (.lst n ((row.cells.drop off).take (n * sz))) else none
  | none => none
def fzA (x : Option (List AV)) : Option AV := x.map .agg
def fzT (x : Option (List AV)) : Option AV := x.map .tup
def fzL (n : Nat) (cs : List AV) (b : Bool) : Option AV := if b then some (.lst n cs) else none
theorem fzs_nil (s : Bool) (rows : List Row) : fzs s rows [] = some [] := rfl
theorem fzs_cons (s : Bool) (rows : List Row) (c : AV) (cs : List AV) : fzs s rows (c :: cs) = fzC (fz s rows c) (fzs s rows cs) := by
  simp only [fzs]; unfold fzC; cases fz s rows c <;> cases fzs s rows cs <;> rfl
theorem fzC_some (x : AV) (xs : List AV) : fzC (some x) (some xs) = some (x :: xs) := rfl
theorem fz_int (s : Bool) (rows : List Row) (k : IntKind) (n : Int) : fz s rows (.int k n) = some (.int k n) := rfl
theorem fz_bool (s : Bool) (rows : List Row) (b : Bool) : fz s rows (.bool b) = some (.bool b) := rfl
theorem fz_lit (s : Bool) (rows : List Row) (v : Value) : fz s rows (.lit v) = some (.lit v) := rfl
theorem fz_emp (s : Bool) (rows : List Row) : fz s rows .emp = some .emp := rfl
theorem fz_agg (s : Bool) (rows : List Row) (cs : List AV) : fz s rows (.agg cs) = fzA (fzs s rows cs) := rfl
theorem fz_tup (s : Bool) (rows : List Row) (cs : List AV) : fz s rows (.tup cs) = fzT (fzs s rows cs) := rfl
theorem fzA_some (cs : List AV) : fzA (some cs) = some (.agg cs) := rfl
theorem fzT_some (cs : List AV) : fzT (some cs) = some (.tup cs) := rfl
theorem fz_lst (s : Bool) (rows : List Row) (n : Nat) (cs : List AV) : fz s rows (.lst n cs) = fzL n cs (pureAs cs) := by simp only [fz, fzL]
theorem fzL_t (n : Nat) (cs : List AV) : fzL n cs true = some (.lst n cs) := rfl
theorem fz_own (s : Bool) (rows : List Row) (r ver off n sz : Nat) : fz s rows (.own r ver off n sz) = fzO s ver off n sz rows[r]? := by
  simp only [fz]; cases rows[r]? <;> rfl
theorem fzO_some (s : Bool) (ver ver' off n sz : Nat) (hot : Bool) (cs : List AV) : fzO s ver off n sz (some ⟨ver', hot, cs⟩) = if ver' = ver ∧ (s = true → hot = false) ∧ off + n * sz ≤ cs.length ∧ pureAs cs = true then some (.lst n ((cs.drop off).take (n * sz))) else none := rfl
theorem fzO_us (s : Bool) (ver n : Nat) (os : List Nat) (h : n = os.length) : fzO s ver 0 n 1 (some ⟨ver, false, us os⟩) = some (ws os) := by
  subst h; rw [fzO_some, if_pos ⟨rfl, fun _ => rfl, by simp [us_length], us_pure _⟩, List.drop_zero, Nat.mul_one, us_take, List.take_length]
theorem fzO_usH (ver n : Nat) (hot : Bool) (os : List Nat) (h : n = os.length) : fzO false ver 0 n 1 (some ⟨ver, hot, us os⟩) = some (ws os) := by
  subst h; rw [fzO_some, if_pos ⟨rfl, (fun h => absurd h (by decide)), by simp [us_length], us_pure _⟩, List.drop_zero, Nat.mul_one, us_take, List.take_length]
theorem rget0 (x : Row) (l : List Row) : (x :: l)[0]? = some x := rfl
theorem rgetS (x : Row) (l : List Row) (n : Nat) : (x :: l)[n + 1]? = l[n]? := rfl
theorem pAs_nil : pureAs [] = true := rfl
theorem pAs_cons (c : AV) (cs : List AV) : pureAs (c :: cs) = (pureA c && pureAs cs) := rfl
theorem pA_int (k : IntKind) (n : Int) : pureA (.int k n) = true := rfl
theorem pA_bool (b : Bool) : pureA (.bool b) = true := rfl
theorem pA_lit (v : Value) : pureA (.lit v) = true := rfl
theorem pA_emp : pureA .emp = true := rfl
theorem pA_lst (n : Nat) (cs : List AV) : pureA (.lst n cs) = pureAs cs := rfl
theorem pA_agg (cs : List AV) : pureA (.agg cs) = pureAs cs := rfl
theorem pAs_app (xs ys : List AV) : pureAs (xs ++ ys) = (pureAs xs && pureAs ys) := by
  induction xs with
  | nil => simp [pureAs]
  | cons x xs ih => simp only [List.cons_append, pAs_cons, ih, Bool.and_assoc]
theorem nrm_int (k : IntKind) (n : Int) : nrm (.int k n) = .int k n := rfl
theorem nrm_bool (b : Bool) : nrm (.bool b) = .bool b := rfl
theorem nrm_lit (v : Value) : nrm (.lit v) = .lit v := rfl
theorem nrm_emp : nrm .emp = .lst 0 [] := rfl
theorem nrm_agg (cs : List AV) : nrm (.agg cs) = .agg (nrms cs) := rfl
theorem nrm_tup (cs : List AV) : nrm (.tup cs) = .tup (nrms cs) := rfl
theorem nrm_lst (n : Nat) (cs : List AV) : nrm (.lst n cs) = .lst n (nrms cs) := rfl
theorem nrms_nil : nrms [] = [] := rfl
theorem nrms_cons (c : AV) (cs : List AV) : nrms (c :: cs) = nrm c :: nrms cs := rfl
theorem nrms_us (xs : List Nat) : nrms (us xs) = us xs := by
  induction xs with
  | nil => rfl
  | cons x xs ih => rw [us_cons, nrms_cons, ih]; rfl
section
variable {P : Program} {GE : Nat → Option (List AV)}
theorem callK_ret {rows : List Row} {g : FuncId} {args args' : List AV} {r : AV} {k : AV → Prop} (h : Ret P GE g args' r) (hf : fzs true rows args = some args') (hk : k r) : callK P GE rows (.lit (.func (.func g) #[] #[])) args k :=
  ⟨r, ⟨g, rfl, .inl ⟨args', hf, h⟩⟩, hk⟩
theorem callK_mem {rows : List Row} {g : FuncId} {args args' : List AV} {r : AV} {k : AV → Prop} (h : Ret P GE g args' r) (hr : noMem r = true) (hf : fzs false rows args = some args') (hk : k r) : callK P GE rows (.lit (.func (.func g) #[] #[])) args k :=
  ⟨r, ⟨g, rfl, .inr (.inl ⟨args', hf, h, hr⟩)⟩, hk⟩
theorem callK_ext {rows : List Row} {g : FuncId} {args args' : List AV} {r : AV} {k : AV → Prop} (h : RetX P g args' r) (hr : noMem r = true) (hf : fzs false rows args = some args') (hk : k r) : callK P GE rows (.lit (.func (.func g) #[] #[])) args k :=
  ⟨r, ⟨g, rfl, .inr (.inr ⟨args', hf, h, hr⟩)⟩, hk⟩
def aresC (x : Option AV) (xs : Option (List AV)) : Option (List AV) := match x, xs with
  | some x, some xs => some (x :: xs)
  | _, _ => none
def aresO (tv : Option TV) (cs : Option (List AV)) : Option AV := match tv, cs with
  | some tv, some cs => readAs tv cs
  | _, _ => none
theorem aress_nil (s : St) : aress P s [] = some [] := rfl
theorem aress_cons (s : St) (x : ResultVar) (xs : List ResultVar) : aress P s (x :: xs) = aresC (ares P s x) (aress P s xs) := by
  simp only [aress]; unfold aresC; cases ares P s x <;> cases aress P s xs <;> rfl
theorem aresC_some (x : AV) (xs : List AV) : aresC (some x) (some xs) = some (x :: xs) := rfl
theorem ares_tmp (tm : List AV) (rows : List Row) (t : Tmp) : ares P ⟨tm, rows⟩ (.tmp t) = some (tm.getD t .any) := rfl
theorem ares_cell (tm : List AV) (rows : List Row) (p : Tmp) (t : TypeId) : ares P ⟨tm, rows⟩ (.cell p t) = aresO (tvOf P t) (cellsAt rows (tm.getD p .any)) := by
  simp only [ares]; unfold aresO; rfl
theorem aresO_some (tv : TV) (cs : List AV) : aresO (some tv) (some cs) = readAs tv cs := rfl
def FinY (r' : Option AV) (r : AV) : Prop := match r' with
  | some r' => nrm r' = r
  | none => False
def FinX (rows : List Row) (o : Option (List AV)) (r : AV) : Prop := match o with
  | some vs => FinY (fz false rows (oneA vs)) r
  | none => False
theorem FinN_eq {fn : Func} {r : AV} {l : List ResultVar} (hl : fn.results.toList = l) (tm : List AV) (rows : List Row) (h : FinX rows (aress P ⟨tm, rows⟩ l) r) : FinN P fn r ⟨tm, rows⟩ := by
  subst hl
  unfold FinX at h
  split at h
  · rename_i vs hv
    unfold FinY at h
    split at h
    · rename_i r' hr; exact ⟨vs, r', hv, hr, h⟩
    · exact h.elim
  · exact h.elim
theorem finX_some (rows : List Row) (vs : List AV) (r : AV) : FinX rows (some vs) r = FinY (fz false rows (oneA vs)) r := rfl
theorem finY_some (r' r : AV) : FinY (some r') r = (nrm r' = r) := rfl
theorem one_1 (v : AV) : oneA [v] = v := rfl
theorem one_0 : oneA [] = .tup [] := rfl
theorem one_2 (v x : AV) (l : List AV) : oneA (v :: x :: l) = .tup (v :: x :: l) := rfl
end
/-- A state: of so many slots, some are known. -/
def mk (n : Nat) (l : List (Nat × AV)) (rows : List Row) : St := ⟨l.foldl (fun t p => t.set p.1 p.2) (List.replicate n .any), rows⟩
theorem mk_eq (n : Nat) (l : List (Nat × AV)) (rows : List Row) : mk n l rows = ⟨l.foldl (fun t p => t.set p.1 p.2) (List.replicate n .any), rows⟩ := rfl
theorem fold0 (t : List AV) : List.foldl (fun (t : List AV) (p : Nat × AV) => t.set p.1 p.2) t [] = t := rfl
theorem foldS (t : List AV) (i : Nat) (v : AV) (l : List (Nat × AV)) : List.foldl (fun (t : List AV) (p : Nat × AV) => t.set p.1 p.2) t ((i, v) :: l) = List.foldl (fun (t : List AV) (p : Nat × AV) => t.set p.1 p.2) (t.set i v) l := rfl
theorem rep0A : List.replicate 0 AV.any = [] := rfl
theorem repSA (n : Nat) : List.replicate (n + 1) AV.any = .any :: List.replicate n .any := rfl
theorem sA_eq (args : List AV) (n : Nat) : StartA args n = ⟨args ++ List.replicate (n - args.length) .any, []⟩ := rfl
theorem leS_eq (s t : List AV) (rs rt : List Row) : leS ⟨s, rs⟩ ⟨t, rt⟩ = (leT s t ∧ s.length = t.length ∧ rs = rt) := rfl
theorem leT_nil : leT [] [] = True := rfl
theorem leT_cons (x y : AV) (xs ys : List AV) : leT (x :: xs) (y :: ys) = ((y = .any ∨ x = y ∨ nrm x = y) ∧ leT xs ys) := rfl
theorem leT_any (x : AV) (xs ys : List AV) : leT (x :: xs) (.any :: ys) = leT xs ys := by rw [leT_cons]; simp
theorem leT_same (x : AV) (xs ys : List AV) : leT (x :: xs) (x :: ys) = leT xs ys := by rw [leT_cons]; simp
end Go.Ax
set_option linter.unusedVariables false
set_option linter.unusedSimpArgs false
namespace Go.Ax
open Go.RowKit
theorem andC {c k : Prop} (h : c) : (c ∧ k) = k := propext ⟨fun x => x.2, fun x => ⟨h, x⟩⟩
theorem decT {c : Prop} [Decidable c] (h : c) : decide c = true := decide_eq_true h
theorem decF {c : Prop} [Decidable c] (h : ¬ c) : decide c = false := decide_eq_false h
theorem beqT {a b : Int} (h : a = b) : (a == b) = true := by simp [h]
theorem beqF {a b : Int} (h : a ≠ b) : (a == b) = false := by simp [h]
theorem bneT {a b : Int} (h : a ≠ b) : (a != b) = true := by simp [h]
theorem bneF {a b : Int} (h : a = b) : (a != b) = false := by simp [h]
theorem iteT {α : Type} {c : Prop} [Decidable c] {a b : α} (h : c) : (if c then a else b) = a := if_pos h
theorem iteF {α : Type} {c : Prop} [Decidable c] {a b : α} (h : ¬ c) : (if c then a else b) = b := if_neg h
theorem litU (xs : List Nat) (j : Nat) (h : j < xs.length) : (us (xs.drop j))[0]? = some (u (xs.getD j 0)) := us_get xs j h
theorem isub (a : Nat) (h : 1 ≤ a) : (a : Int) - 1 = ((a - 1 : Nat) : Int) := by omega
theorem isub2 (a : Nat) (h : 2 ≤ a) : (a : Int) - 2 = ((a - 2 : Nat) : Int) := by omega
theorem iadd (a : Nat) : (a : Int) + 1 = ((a + 1 : Nat) : Int) := by omega
theorem tnat (n : Nat) : ((n : Nat) : Int).toNat = n := by simp
theorem wrapU_sub (a b : Nat) (h : b ≤ 18446744073709551616) : IntKind.u64.wrap ((a : Int) - (b : Int)) = (((a + 18446744073709551616 - b) % 18446744073709551616 : Nat) : Int) := by rw [IntKind.wrap_u64]; omega
theorem icast_add (a b : Nat) : (a : Int) + (b : Int) = ((a + b : Nat) : Int) := by omega
theorem icast_mul (a b : Nat) : (a : Int) * (b : Int) = ((a * b : Nat) : Int) := (Int.natCast_mul a b).symm
theorem wrapU_mod (a : Nat) : IntKind.u64.wrap (a : Int) = ((a % 18446744073709551616 : Nat) : Int) := by rw [IntKind.wrap_u64]; omega
theorem modS (a : Nat) (h : a < 18446744073709551616) : a % 18446744073709551616 = a := Nat.mod_eq_of_lt h
theorem tdivC (a b : Nat) : ((a : Int).tdiv (b : Int)) = ((a / b : Nat) : Int) := rfl
theorem tmodC (a b : Nat) : ((a : Int).tmod (b : Int)) = ((a % b : Nat) : Int) := rfl
theorem lit32 (a : Nat) : (4294967296 : Int) * (a : Int) = ((4294967296 * a : Nat) : Int) := by omega
theorem lit32r (a : Nat) : (a : Int) * (4294967296 : Int) = ((a * 4294967296 : Nat) : Int) := by omega
theorem toNat32 : (32 : Int).toNat = 32 := rfl
theorem pow32 : (2 : Nat) ^ 32 = 4294967296 := by decide
theorem tdiv64 (a : Nat) : ((a : Int).tdiv 64) = ((a / 64 : Nat) : Int) := rfl
theorem tmod64 (a : Nat) : ((a : Int).tmod 64) = ((a % 64 : Nat) : Int) := rfl
theorem minU (b : Nat) (h : b ≤ 64) : min b IntKind.u64.bits = b := Nat.min_eq_left h
theorem ipow2 (b : Nat) : (2 : Int) ^ b = ((2 ^ b : Nat) : Int) := by simp
theorem fdivC (a b : Nat) : ((a : Int).fdiv (b : Int)) = ((a / b : Nat) : Int) := by
  rw [Int.fdiv_eq_ediv_of_nonneg _ (by omega)]; exact (Int.natCast_ediv a b).symm
theorem isubn (a b : Nat) (h : b ≤ a) : (a : Int) - (b : Int) = ((a - b : Nat) : Int) := by omega
theorem i64sub (b : Nat) (h : b ≤ 64) : (64 : Int) - (b : Int) = ((64 - b : Nat) : Int) := by omega
theorem toNatU (a : Nat) (h : a < 18446744073709551616) : (BitVec.ofInt 64 (a : Int)).toNat = a := by
  rw [BitVec.ofInt_natCast, BitVec.toNat_ofNat]; exact Nat.mod_eq_of_lt h
theorem orU (a b : Nat) (ha : a < 18446744073709551616) (hb : b < 18446744073709551616) : bits .or .u64 (a : Int) (b : Int) = ((a ||| b : Nat) : Int) := by
  have hx : a ||| b < 2 ^ 64 := Nat.or_lt_two_pow ha hb
  show IntKind.u64.wrap ((BitVec.ofInt 64 (a : Int) ||| BitVec.ofInt 64 (b : Int)).toNat : Int) = _
  rw [BitVec.toNat_or, toNatU a ha, toNatU b hb, wrapU_mod, Nat.mod_eq_of_lt hx]
theorem andU (a b : Nat) (ha : a < 18446744073709551616) (hb : b < 18446744073709551616) : bits .and .u64 (a : Int) (b : Int) = ((a &&& b : Nat) : Int) := by
  have hx : a &&& b < 2 ^ 64 := Nat.and_lt_two_pow _ hb
  show IntKind.u64.wrap ((BitVec.ofInt 64 (a : Int) &&& BitVec.ofInt 64 (b : Int)).toNat : Int) = _
  rw [BitVec.toNat_and, toNatU a ha, toNatU b hb, wrapU_mod, Nat.mod_eq_of_lt hx]
theorem and1U (a : Nat) (ha : a < 18446744073709551616) : bits .and .u64 (a : Int) 1 = ((a % 2 : Nat) : Int) := by
  have := andU a 1 ha (by decide)
  rw [Nat.and_one_is_mod] at this
  exact this
theorem and32U (a : Nat) (ha : a < 18446744073709551616) : bits .and .u64 (a : Int) 4294967295 = ((a % 4294967296 : Nat) : Int) := by
  have := andU a 4294967295 ha (by decide)
  rw [show a &&& 4294967295 = a % 4294967296 from Nat.and_two_pow_sub_one_eq_mod a 32] at this
  exact this
theorem ix_us (rows : List Row) (n : Nat) (xs : List Nat) (e sz by_ : Nat) (z : Value) (j : Nat) (k : AV → Prop) (h1 : j < n) (h2 : j < xs.length) : indexK rows (.lst n (us xs)) ⟨.slice e, sz, by_, z⟩ 1 j k = k (.lptr (us (xs.drop j))) := by
  rw [r_ix_lst, Nat.mul_one, us_length, us_drop]; exact andC ⟨h1, h2⟩
theorem ix_ownU (rows : List Row) (r ver off n : Nat) (e sz by_ : Nat) (z : Value) (j : Nat) (k : AV → Prop) (h : j < n) : indexK rows (.own r ver off n 1) ⟨.slice e, sz, by_, z⟩ 1 j k = rowIs rows r ver (fun _ => k (.ptr r ver (off + j))) := by
  rw [r_ix_own]; unfold rowIs; cases rows[r]? <;> simp [h, hid]
theorem make_us (k k' : IntKind) (n : Nat) (d : TD) (z : Value) (f : Nat → Prop) (h : n ≤ 35184372088832) (hz : z.cells.size = 1) : makeK (.int k (n : Int)) (.int k' (n : Int)) ⟨d, 1, 8, z⟩ f = f n := by
  rw [r_make_ii]
  refine propext ⟨fun x => by simpa using x.2.2.2.2.2.2, fun x => ⟨by decide, rfl, by omega, by omega, by omega, hz, by simpa using x⟩⟩
theorem nat_nat (k : IntKind) (n : Nat) (f : Nat → Prop) : natK (.int k (n : Int)) f = f n := by
  rw [r_nat_int]; exact propext ⟨fun x => by simpa using x.2, fun x => ⟨by omega, by simpa using x⟩⟩
theorem as_nat (k : IntKind) (n : Nat) : asNat (.int k (n : Int)) = some n := by simp [asNat]
theorem slice_lo (l n : Nat) (xs : List Nat) (k : IntKind) (f : AV → Prop) (h1 : l ≤ n) (h2 : n = xs.length) : sliceK (.lst n (us xs)) (.int k (l : Int)) none none 1 f = f (.lst (n - l) (us (xs.drop l))) := by
  unfold sliceK
  have e : ((us xs).drop (l * 1)).take ((n - l) * 1) = us (xs.drop l) := by
    rw [Nat.mul_one, Nat.mul_one, us_drop, us_take, List.take_of_length_le (by rw [List.length_drop]; omega)]
  simp only [r_lenA_lst, as_nat, hiV, mxOk, true_and, asliceA, h1, Nat.le_refl, and_self, if_true, r_opt_some, e]
theorem beq1 (a : Nat) : ((a : Int) == 1) = decide (a = 1) := by
  by_cases h : a = 1
  · subst h; rfl
  · rw [decide_eq_false h]; exact beqF (by omega)
theorem slice3_us (n h : Nat) (xs : List Nat) (k k' k'' : IntKind) (f : AV → Prop) (h4 : h ≤ n) : sliceK (.lst n (us xs)) (.int k 0) (some (.int k' (h : Int))) (some (.int k'' (h : Int))) 1 f = f (.lst h (us (xs.take h))) := by
  unfold sliceK
  simp [r_lenA_lst, asNat, hiV, mxOk, asliceA, h4, optK, us_take]
theorem slice_ownLH (r ver off n l h : Nat) (k k' : IntKind) (f : AV → Prop) (h1 : l < h) (h2 : h ≤ n) : sliceK (.own r ver off n 1) (.int k (l : Int)) (some (.int k' (h : Int))) none 1 f = f (.own r ver (off + l) (h - l) 1) := by
  unfold sliceK
  have h3 : l ≤ h := Nat.le_of_lt h1
  by_cases h0 : l = 0
  · subst h0
    simp [asNat, hiV, mxOk, asliceA, lenA, h2, optK]
  · simp [asNat, hiV, mxOk, asliceA, lenA, h2, h3, h0, h1, optK]
theorem slice_ownH (r ver off n h : Nat) (k k' : IntKind) (f : AV → Prop) (h2 : h ≤ n) : sliceK (.own r ver off n 1) (.int k 0) (some (.int k' (h : Int))) none 1 f = f (.own r ver off h 1) := by
  unfold sliceK
  simp [asNat, hiV, mxOk, asliceA, lenA, h2, optK]
theorem slice_lstH (n h : Nat) (xs : List Nat) (k k' : IntKind) (f : AV → Prop) (h4 : h ≤ n) : sliceK (.lst n (us xs)) (.int k 0) (some (.int k' (h : Int))) none 1 f = f (.lst h (us (xs.take h))) := by
  unfold sliceK
  simp [r_lenA_lst, asNat, hiV, mxOk, asliceA, h4, optK, us_take]
theorem slice_lstLH (n l h : Nat) (xs : List Nat) (k k' : IntKind) (f : AV → Prop) (h3 : l ≤ h) (h4 : h ≤ n) : sliceK (.lst n (us xs)) (.int k (l : Int)) (some (.int k' (h : Int))) none 1 f = f (.lst (h - l) (us ((xs.drop l).take (h - l)))) := by
  unfold sliceK
  simp [r_lenA_lst, asNat, hiV, mxOk, asliceA, h3, h4, optK, us_take, us_drop]
theorem fzO_usT (strict : Bool) (ver n : Nat) (os : List Nat) (h : n ≤ os.length) : fzO strict ver 0 n 1 (some ⟨ver, false, us os⟩) = some (ws (os.take n)) := by
  rw [fzO_some, if_pos ⟨rfl, fun _ => rfl, by simp [us_length]; exact h, us_pure _⟩, List.drop_zero, Nat.mul_one, us_take]
  simp [Nat.min_eq_left h]
theorem tdivL (a n : Nat) : ((a : Int).tdiv (no_index (OfNat.ofNat n))) = ((a / OfNat.ofNat n : Nat) : Int) := rfl
theorem tmodL (a n : Nat) : ((a : Int).tmod (no_index (OfNat.ofNat n))) = ((a % OfNat.ofNat n : Nat) : Int) := rfl
theorem us_snoc1 (ds : List Nat) (a : Nat) : us (ds ++ [a]) = us ds ++ [AV.int .u64 (a : Int)] := by simp [us]
theorem us_snoc2 (ds : List Nat) (a b : Nat) : us (ds ++ [a, b]) = us ds ++ [AV.int .u64 (a : Int), AV.int .u64 (b : Int)] := by simp [us]
def gA (ds : List Nat) (k : Nat) : AV := if k = 0 then .emp else .own 0 (k - 1) 0 ds.length 1
def gR (xs : List Nat) (k : Nat) : List Row := if k = 0 then [] else [⟨k - 1, true, us xs⟩]
theorem gA_0 (n : List Nat) : gA n 0 = .emp := rfl
theorem gA_S (n : List Nat) (k : Nat) : gA n (k + 1) = .own 0 k 0 n.length 1 := rfl
theorem gR_0 (xs : List Nat) : gR xs 0 = [] := rfl
theorem gR_S (xs : List Nat) (k : Nat) : gR xs (k + 1) = [⟨k, true, us xs⟩] := rfl
theorem iaddL (a n : Nat) : (a : Int) + (no_index (OfNat.ofNat n)) = ((a + OfNat.ofNat n : Nat) : Int) := rfl
theorem imulL (a n : Nat) : (a : Int) * (no_index (OfNat.ofNat n)) = ((a * OfNat.ofNat n : Nat) : Int) := rfl
theorem imulR (a n : Nat) : (no_index (OfNat.ofNat n)) * (a : Int) = ((OfNat.ofNat n * a : Nat) : Int) := rfl
theorem lsubL (a n : Nat) (h : a ≤ OfNat.ofNat n) : (no_index (OfNat.ofNat n)) - (a : Int) = ((OfNat.ofNat n - a : Nat) : Int) := by
  have e : (OfNat.ofNat n : Int) = ((OfNat.ofNat n : Nat) : Int) := rfl
  rw [e]; omega
theorem iminL (a n : Nat) : min (a : Int) (no_index (OfNat.ofNat n)) = ((min a (OfNat.ofNat n) : Nat) : Int) := by
  have e : (OfNat.ofNat n : Int) = ((OfNat.ofNat n : Nat) : Int) := rfl
  rw [e]; omega
theorem imin2 (a b : Nat) : min (a : Int) (b : Int) = ((min a b : Nat) : Int) := by omega
theorem imax2 (a b : Nat) : max (a : Int) (b : Int) = ((max a b : Nat) : Int) := by omega
theorem imaxZ (a : Nat) : max (0 : Int) (a : Int) = (a : Int) := by omega
theorem imaxN (a : Int) (h : a ≤ 0) : max (0 : Int) a = 0 := by omega
theorem make_us0 (k k' : IntKind) (d : TD) (z : Value) (f : Nat → Prop) (hz : z.cells.size = 1) : makeK (.int k 0) (.int k' 0) ⟨d, 1, 8, z⟩ f = f 0 := make_us k k' 0 d z f (by omega) hz
theorem drop03 (l : List AV) : l.drop (0 * 3) = l := by simp
theorem drop04 (l : List AV) : l.drop (0 * 4) = l := by simp
theorem take3 (a b c : AV) : List.take 3 [a, b, c] = [a, b, c] := rfl
theorem take4 (a b c d : AV) : List.take 4 [a, b, c, d] = [a, b, c, d] := rfl
end Go.Ax
set_option linter.unusedVariables false
set_option linter.unusedSimpArgs false
namespace Go.Ax
open Go.RowKit
section
variable {P : Program} {GE : Nat → Option (List AV)} {Q : Exit → St → Prop}
/-- What follows, as it stands. -/
def aft (K : St → Prop) (_ : Dum K) : St → Prop := K
theorem aft_any {K : St → Prop} {s : St} {d : Dum K} (h : K s) : aft K d s := h
theorem G_sreg {id : Nat} {ops : Array Oper} {draw : Bool} {y : Code} {st : St} (hm : P.follows .mixedOrders = true) (hd : (!draw || lexA ops) = true)
    (h : XOps P GE [] ops.toList st (aft (AWp P GE y Q) ⟨⟩)) : AWp P GE (.seq (.region id ops draw) y) Q st :=
  AWp_seq (W_region hm hd h)
theorem G_reg {id : Nat} {ops : Array Oper} {draw : Bool} {st : St} (hm : P.follows .mixedOrders = true) (hd : (!draw || lexA ops) = true)
    (h : XOps P GE [] ops.toList st (aft (Q .normal) ⟨⟩)) : AWp P GE (.region id ops draw) Q st := W_region hm hd h
theorem G_seq {x y : Code} {st : St} (h : AWp P GE x (thenA (AWp P GE y Q) Q) st) : AWp P GE (.seq x y) Q st := AWp_seq h
theorem G_block {id : Nat} {c : Code} {st : St} (h : AWp P GE c (blockA id Q) st) : AWp P GE (.block id c) Q st := AWp_block h
theorem G_condT {c : Operand} {x y : Code} {st : St} (hc : eval GE st c = .bool true) (h : AWp P GE x Q st) : AWp P GE (.cond c x y) Q st := AWp_cond hc (fun _ => h) (fun h => by cases h)
theorem G_condF {c : Operand} {x y : Code} {st : St} (hc : eval GE st c = .bool false) (h : AWp P GE y Q st) : AWp P GE (.cond c x y) Q st := AWp_cond hc (fun h => by cases h) (fun _ => h)
theorem G_skip {st : St} (h : Q .normal st) : AWp P GE .skip Q st := AWp_skip h
theorem G_ret {st : St} (h : Q .ret st) : AWp P GE .ret Q st := AWp_ret h
theorem G_exit {id : Nat} {st : St} (h : Q (.exit id) st) : AWp P GE (.exit id) Q st := AWp_exit h
theorem G_cool0 {c : Code} {tm : List AV} {v : Nat} {b : Bool} {cs : List AV} {rows : List Row} (h : AWp P GE c Q ⟨tm, ⟨v, false, cs⟩ :: rows⟩) : AWp P GE c Q ⟨tm, ⟨v, b, cs⟩ :: rows⟩ := AWp_cool 0 h
theorem G_cool1 {c : Code} {tm : List AV} {v : Nat} {b : Bool} {cs : List AV} {r : Row} {rows : List Row} (h : AWp P GE c Q ⟨tm, r :: ⟨v, false, cs⟩ :: rows⟩) : AWp P GE c Q ⟨tm, r :: ⟨v, b, cs⟩ :: rows⟩ := AWp_cool 1 h
theorem q_tn {A : St → Prop} {s : St} (h : A s) : thenA A Q .normal s := h
theorem q_tr {A : St → Prop} {s : St} (h : Q .ret s) : thenA A Q .ret s := h
theorem q_tx {A : St → Prop} {s : St} {id : Nat} (h : Q (.exit id) s) : thenA A Q (.exit id) s := h
theorem q_bn {id : Nat} {s : St} (h : Q .normal s) : blockA id Q .normal s := h
theorem q_br {id : Nat} {s : St} (h : Q .ret s) : blockA id Q .ret s := h
theorem q_bx {id : Nat} {s : St} (h : Q .normal s) : blockA id Q (.exit id) s := by simp only [blockA, if_true]; exact h
theorem q_by {id id' : Nat} {s : St} (hne : id' ≠ id) (h : Q (.exit id') s) : blockA id Q (.exit id') s := by simp only [blockA, if_neg hne]; exact h
end
theorem FinQ {P : Program} {fn : Func} {r : AV} {l : List ResultVar} {K : St → Prop} (hK : ∀ s, FinN P fn r s → K s) (hl : fn.results.toList = l) (tm : List AV) (rows : List Row) (h : FinX rows (aress P ⟨tm, rows⟩ l) r) : K ⟨tm, rows⟩ :=
  hK _ (FinN_eq hl tm rows h)
end Go.Ax
set_option linter.unusedVariables false
set_option linter.unusedSimpArgs false
namespace Go.Ax
open Go.RowKit
section
variable {P : Program} {GE : Nat → Option (List AV)} {ops : Array Oper} {w0 : World} {ok0 : Nat → Prop} {B : Option Nat} {β : Nat → Nat} {st : St} {a : Act} {w : World}
def chainFrom (md : Region.Mode) (ops : Array Oper) : Nat → Nat → Array Bool → Bool
  | 0, _, listed => (Region.ready md ops listed).isEmpty
  | fuel + 1, k, listed => (Region.ready md ops listed == [k]) && chainFrom md ops fuel (k + 1) (listed.setIfInBounds k true)
/-- The region has one order. -/
def chainA (ops : Array Oper) : Bool := chainFrom .any ops ops.size 0 (Array.replicate ops.size false)
theorem wpAny_chain {Q : Exit → Act → World → Prop} {md : Region.Mode} : ∀ (fuel k : Nat) (listed : Array Bool) (a : Act) (w : World), chainFrom md ops fuel k listed = true → wpOps P ops Q (List.range' k fuel) a w → wpAny P md ops Q fuel listed a w
  | 0, k, listed, a, w, hc, h => ⟨by simpa [chainFrom] using hc, by simpa [wpOps] using h⟩
  | fuel + 1, k, listed, a, w, hc, h => by
    simp only [chainFrom, Bool.and_eq_true, beq_iff_eq] at hc
    obtain ⟨hr, hc⟩ := hc
    rw [List.range'_succ, wpOps_cons] at h
    refine ⟨fun h0 => (by rw [hr] at h0; cases h0), fun i hi => ?_⟩
    rw [hr] at hi
    obtain rfl := List.mem_singleton.1 hi
    exact wpOp_mono (fun a w hh => wpAny_chain fuel (i + 1) _ a w hc hh) h
theorem wp_region_one {id : Nat} {draw : Bool} {Q : Exit → Act → World → Prop} (hm : P.follows .mixedOrders = true) (hd : (!draw || chainA ops) = true)
    (h : ∀ w', (w' = w ∨ w' = w.drew) → wpList P ops Q ops.toList a w') : (Code.region id ops draw).wp P Q a w := by
  cases draw with
  | false => exact wp_region_list (h w (.inl rfl))
  | true =>
    have e := wpOps_eq_wpList (P := P) (Q := Q) (ops := ops) ops.toList 0 (by simp)
    rw [Array.length_toList] at e
    refine wp_region_any hm (wpAny_chain _ 0 _ a _ (by simpa [chainA] using hd) ?_)
    rw [e]
    exact h w.drew (.inr rfl)
/-- One operation that may change rows. -/
def LStep (P : Program) (GE : Nat → Option (List AV)) (o : Oper) (st : St) (K : St → Prop) : Prop :=
  ∀ (w0 : World) (ok0 : Nat → Prop) (B : Option Nat), (∀ k, B = some k → ¬ ok0 k) → GRep GE w0 ok0 → ∀ (β : Nat → Nat) (a : Act) (w : World), SR w0 ok0 B β st a w →
    ∀ Q : Exit → Act → World → Prop, o.wp P a w (fun a' w' => ∃ s', K s' ∧ SRep w0 ok0 B s' a' w') Q
theorem AOps_rest (hB : ∀ k, B = some k → ¬ ok0 k) (hG : GRep GE w0 ok0) {Q : Exit → Act → World → Prop} {K : St → Prop} {rest : List Oper} (hQ : ∀ β st a w, K st → SR w0 ok0 B β st a w → wpList P ops Q rest a w) :
    ∀ (l : List Oper) {β : Nat → Nat} {st : St} {a : Act} {w : World}, SR w0 ok0 B β st a w → AOps P GE ops l st K → wpList P ops Q (l ++ rest) a w
  | [], β, st, a, w, h, hk => hQ β st a w hk h
  | o :: os, β, st, a, w, h, hk => by
    obtain ⟨st', hs, hk'⟩ := AGOp_iff.1 hk
    have := AGStep_sound (P := P) h hB hG hs (K := wpList P ops Q (os ++ rest)) (Q := Q) (fun β' a' w' h' => AOps_rest hB hG hQ os h' hk')
    rw [List.cons_append]
    unfold wpList
    split at this
    · rename_i hw; rw [if_pos hw]; exact .inl this
    · rename_i hw; rw [if_neg hw]; exact this
theorem XOps_sound2 : ∀ (l pre rest : List Oper), ops.toList = pre ++ (l ++ rest) → ∀ {st : St} {K : St → Prop}, XOps P GE (pre.map (·.dst)) l st K → AOps P GE ops l st K
  | [], _, _, _, st, K, h => h
  | o :: os, pre, rest, hp, st, K, h => by
    have hp' : ops.toList = (pre ++ [o]) ++ (os ++ rest) := by rw [hp]; simp
    have ih : ∀ {st : St} {K : St → Prop}, XOps P GE (pre.map (·.dst) ++ [o.dst]) os st K → AOps P GE ops os st K := fun {st K} h' => XOps_sound2 os (pre ++ [o]) rest hp' (by simpa using h')
    unfold XOps XGOp at h
    unfold AOps AGOp
    split at h
    · rename_i hg; simp only [hg]; exact XOp_mono (fun s hs => ih hs) h
    · rename_i j want hg
      simp only [hg]
      split at h
      · rename_i b hb
        simp only [gvalL_eq hp hb]
        split at h
        · rename_i hbw; rw [if_pos hbw]; exact XOp_mono (fun s hs => ih hs) h
        · rename_i hbw; rw [if_neg hbw]; exact ih h
      · exact h.elim
/-- A region of one order; its i-th operation is a call that changes rows. -/
theorem AWp_regL {id : Nat} {draw : Bool} {pre post : List Oper} {o : Oper} {Q : Exit → St → Prop} (hm : P.follows .mixedOrders = true) (hd : (!draw || chainA ops) = true) (hs : ops.toList = pre ++ o :: post) (hg : o.guard = none)
    (h : XOps P GE [] pre st (fun s => LStep P GE o s (fun s' => XOps P GE (pre.map (·.dst) ++ [o.dst]) post s' (Q .normal)))) : AWp P GE (.region id ops draw) Q st := fun w0 ok0 B hB hG a w hS => by
  obtain ⟨β, hβ⟩ := hS
  refine wp_region_one hm hd fun w' hw => ?_
  have hβ' : SR w0 ok0 B β st a w' := by
    rcases hw with rfl | rfl
    · exact hβ
    · exact hβ.keep ((Below.refl _ _).drew)
  rw [hs]
  refine AOps_rest hB hG (fun β1 s1 a1 w1 hk1 hs1 => ?_) pre hβ' (XOps_sound2 pre [] (o :: post) (by simpa using hs) h)
  have hk := hk1 w0 ok0 B hB hG β1 a1 w1 hs1 (fun e a' w' => ∃ st', Q e st' ∧ SRep w0 ok0 B st' a' w')
  unfold wpList
  rw [if_pos (by simp [Region.wanted, hg])]
  refine .inl (Oper.wp_mono (fun a2 w2 h2 => ?_) hk)
  obtain ⟨s2, h2, β2, hs2⟩ := h2
  have := AOps_rest (rest := []) (Q := fun e a' w' => ∃ st', Q e st' ∧ SRep w0 ok0 B st' a' w') hB hG (fun β3 s3 a3 w3 h3 hs3 => ⟨s3, h3, β3, hs3⟩) post hs2 (XOps_sound2 post (pre ++ [o]) [] (by rw [hs]; simp) (by simpa using h2))
  rwa [List.append_nil] at this
theorem G_regL {id : Nat} {draw : Bool} (i : Nat) {post : List Oper} {o : Oper} {Q : Exit → St → Prop} (hm : P.follows .mixedOrders = true) (hd : (!draw || chainA ops) = true) (hs : ops.toList.drop i = o :: post) (hg : o.guard = none)
    (h : XOps P GE [] (ops.toList.take i) st (aft (fun s => LStep P GE o s (fun s' => XOps P GE ((ops.toList.take i).map (·.dst) ++ [o.dst]) post s' (aft (Q .normal) ⟨⟩))) ⟨⟩)) : AWp P GE (.region id ops draw) Q st :=
  AWp_regL (pre := ops.toList.take i) hm hd (by rw [← hs, List.take_append_drop]) hg h
theorem G_sregL {id : Nat} {draw : Bool} (i : Nat) {post : List Oper} {o : Oper} {y : Code} {Q : Exit → St → Prop} (hm : P.follows .mixedOrders = true) (hd : (!draw || chainA ops) = true) (hs : ops.toList.drop i = o :: post) (hg : o.guard = none)
    (h : XOps P GE [] (ops.toList.take i) st (aft (fun s => LStep P GE o s (fun s' => XOps P GE ((ops.toList.take i).map (·.dst) ++ [o.dst]) post s' (aft (AWp P GE y Q) ⟨⟩))) ⟨⟩)) : AWp P GE (.seq (.region id ops draw) y) Q st :=
  AWp_seq (G_regL i hm hd hs hg h)
theorem MReps.noMem {ok ok' : Nat → Prop} {rows rows' : List Row} {β β' : Nat → Nat} {cs : List AV} {b o : Nat} (hn : noMems cs = true) (h : MReps w ok rows β cs b o) : MReps w ok' rows' β' cs b o := by
  obtain ⟨vs, h1, h2⟩ := h.vals
  exact MReps.of_vals (VReps.noMem _ _ hn h1) h2
theorem SR.adopt (h : SR w0 ok0 B β st a w) {w' : World} (hb : Below w.heap.size w w') {b : Nat} {c : Array Value} {e : TypeId} (hbn : w.heap.size ≤ b) (hcb : w'.heap[b]? = some (.cells c e (0, 0))) {cs : List AV} (hn : noMems cs = true)
    {ok1 : Nat → Prop} {rows1 : List Row} {β1 : Nat → Nat} (hcs : MReps w' ok1 rows1 β1 cs b 0) (ver : Nat) (hot : Bool) :
    SR w0 ok0 B (fun r => if r = st.rows.length then b else β r) { st with rows := st.rows ++ [⟨ver, hot, cs⟩] } a w' := by
  have hold : ∀ r row, st.rows[r]? = some row → r ≠ st.rows.length := fun r row hr he => by subst he; simp at hr
  have key : ∀ q rw, (st.rows ++ [(⟨ver, hot, cs⟩ : Row)])[q]? = some rw → q ≠ st.rows.length → st.rows[q]? = some rw := fun q rw hq hne => by
    rw [List.getElem?_append_left (by
      have := (List.getElem?_eq_some_iff.1 hq).1
      simp only [List.length_append, List.length_singleton] at this
      omega)] at hq
    exact hq
  have hm : Mono w (okN w0 ok0 B st.rows β) st.rows β w' (okN w0 ok0 B (st.rows ++ [⟨ver, hot, cs⟩]) (fun r => if r = st.rows.length then b else β r)) (st.rows ++ [⟨ver, hot, cs⟩]) (fun r => if r = st.rows.length then b else β r) := by
    refine ⟨fun b o u _ hc => by rw [← hc]; exact hb.cell (p := ⟨b, o, none⟩) (World.block_lt_of_cell? w _ hc), fun k hok hlt => ⟨hok.1, fun r row hr hh => ?_⟩, fun r row hr => ?_⟩
    · by_cases he : r = st.rows.length
      · simp only [he, if_true]; omega
      · simp only [he, if_false]
        exact hok.2 r row (key r row hr he) hh
    · refine ⟨row, ?_, Nat.le_refl _, fun _ => ⟨by simp [hold r row hr], fun c' e' hc' => ⟨c', e', ?_, Nat.le_refl _⟩⟩⟩
      · rw [List.getElem?_append_left (List.getElem?_eq_some_iff.1 hr).1]; exact hr
      · rw [hb.block _ (heap_lt hc')]; exact hc'
  refine ⟨h.defers, VReps.mono hm _ _ h.tmps, fun r row hr => ?_, fun r r' row row' hr hr' he => ?_, hb.os.trans h.os, hb.tape.trans h.tape, hb.output.trans h.output, Nat.le_trans h.size hb.size,
    fun k hk hB => (hb.block k (Nat.lt_of_lt_of_le hk h.size)).trans (h.block k hk hB), fun b' hb' => ?_⟩
  · by_cases he : r = st.rows.length
    · subst he
      simp at hr
      subst hr
      simp only [if_true]
      exact ⟨⟨c, e, hcb⟩, MReps.noMem hn hcs, .inr (Nat.le_trans h.size hbn)⟩
    · have hr' := key r row hr he
      simp only [he, if_false]
      obtain ⟨⟨c', e', hc'⟩, hmr, hB⟩ := h.row r row hr'
      refine ⟨⟨c', e', by rw [hb.block _ (heap_lt hc')]; exact hc'⟩, ?_, hB⟩
      refine MReps.of_get fun i x hx => ?_
      obtain ⟨v, hv, hr⟩ := hmr.get hx
      exact ⟨v, by rw [← hv]; exact hb.cell (p := ⟨β r, 0 + i, none⟩) (heap_lt hc'), VRep.mono hm _ _ hr⟩
  · by_cases h1 : r = st.rows.length <;> by_cases h2 : r' = st.rows.length
    · omega
    · simp only [h1, if_true, h2, if_false] at he
      have := h.lt (key r' row' hr' h2)
      omega
    · simp only [h1, if_false, h2, if_true] at he
      have := h.lt (key r row hr h1)
      omega
    · simp only [h1, if_false, h2, if_false] at he
      exact h.inj r r' row row' (key r row hr h1) (key r' row' hr' h2) he
  · obtain ⟨row, h0, h1⟩ := h.home b' hb'
    have hlt := (List.getElem?_eq_some_iff.1 h0).1
    exact ⟨row, by rw [List.getElem?_append_left hlt]; exact h0, fun hv => ⟨by rw [if_neg (by omega)]; exact (h1 hv).1, fun c e hc => by
      obtain ⟨c', e', hc', hle⟩ := (h1 hv).2 c e hc
      exact ⟨c', e', by rw [hb.block _ (heap_lt hc')]; exact hc', hle⟩⟩⟩
/-- Called with these values the function hands back a slice of new memory. -/
def RetF (P : Program) (GE : Nat → Option (List AV)) (f : FuncId) (args cs : List AV) : Prop :=
  Callable P f ∧ ∀ (w : World) (ok : Nat → Prop) (vargs : List Value), GRep GE w ok → VReps w ok [] (fun _ => 0) args vargs →
    Calls P f vargs.toArray w fun e w' => Below w.heap.size w w' ∧ ∃ b cap c e', e = .returned (.slice (some ⟨b, 0, none⟩) cs.length cap) ∧ cs.length ≤ cap ∧ w.heap.size ≤ b ∧ w'.heap[b]? = some (.cells c e' (0, 0)) ∧ cap ≤ c.size ∧
      MReps w' (fun k => (ok k ∧ k < w.heap.size) ∨ w.heap.size ≤ k) [] (fun _ => 0) cs b 0
theorem RetF.ret {f : FuncId} {args cs : List AV} (h : RetF P GE f args cs) : Ret P GE f args (.lst cs.length cs) :=
  ⟨h.1, fun w ok vargs hG hv => (h.2 w ok vargs hG hv).mono fun e w' ⟨hb, b, cap, c, e', he, hcap, hbn, hcell, hsz, hm⟩ =>
    ⟨_, he, ⟨some ⟨b, 0, none⟩, cap, rfl, hcap, fun _ => ⟨b, 0, rfl, .inr hbn, hm⟩⟩, hb⟩⟩
theorem exec_call {o : Oper} {f : Operand} {args : Array Operand} {ats : Array TypeId} {g : FuncId} (hop : o.op = .call ⟨.value f, args, ats⟩) (hfv : a.eval f = .func (.func g) #[] #[]) :
    (execOp a.eval o).run P w = (callFunc g (args.map a.eval)).run P w := by
  simp [execOp, hop, resolve, hfv, Deferred.ofValue, invoke]
theorem call_enter {g : FuncId} {vs : Array Value} (h : Callable P g) : (callFunc g vs).run P w = .ok (.enter g vs) w := by
  obtain ⟨fn, hfn, hname, hbody⟩ := h
  have hn' : ¬ (fn.name = "runtime.NumGoroutine") := by simpa using hname
  have hb' : ¬ (fn.body = none) := fun he => by rw [he] at hbody; cases hbody
  simp [callFunc, hfn, hn', hb']
theorem LStep_fresh {o : Oper} {f : Operand} {args : Array Operand} {ats : Array TypeId} {g : FuncId} {args' cs : List AV} {K : St → Prop} (hop : o.op = .call ⟨.value f, args, ats⟩) (hf : eval GE st f = .lit (.func (.func g) #[] #[]))
    (hz : fzs false st.rows (args.toList.map (eval GE st)) = some args') (hn : noMems cs = true) (h : RetF P GE g args' cs)
    (hK : K (({ st with rows := st.rows ++ [⟨0, true, cs⟩] } : St).put o.dst (.own st.rows.length 0 0 cs.length 1))) : LStep P GE o st K := fun w0 ok0 B hB hG β a w hS Q => by
  have hfv := eval_sound hS hB hG f
  rw [hf] at hfv
  have hargs := args_sound hS hB hG args.toList
  have heq : (args.toList.map a.eval).toArray = args.map a.eval := by apply Array.ext'; simp
  have hcalls := h.2 w (okC false w0 ok0 B st.rows β) _ (GRep.later hS hB hG fun k hk _ => hk) (fzs_sound hS false _ _ _ hargs hz)
  unfold Oper.wp
  rw [exec_call hop hfv.1, call_enter h.1]
  simp only [Oper.upon]
  rw [heq] at hcalls
  refine hcalls.mono fun e w' ⟨hb, b, cap, c, e', he, hcap, hbn, hcell, hsz, hm⟩ => ?_
  subst he
  have hS' := hS.adopt hb hbn hcell hn hm 0 true
  refine ⟨_, hK, _, hS'.put o.dst ?_⟩
  exact ⟨some ⟨b, 0, none⟩, cap, rfl, hcap, ⟨0, true, cs⟩, by simp, Nat.le_refl _, fun _ => ⟨by simp, c, e', by simpa using hcell, by omega⟩⟩
/-- What is asked at the end of a function that hands back new memory. -/
def FinF (P : Program) (fn : Func) (cs : List AV) (s : St) : Prop := ∃ r ver n row, aress P s fn.results.toList = some [.own r ver 0 n 1] ∧ s.rows[r]? = some row ∧ row.ver = ver ∧ n = cs.length ∧ row.cells.take n = cs ∧ noMems cs = true
theorem start_SR {w : World} {ok : Nat → Prop} {args : List AV} {vargs : List Value} (n : Nat) (hargs : VReps w ok [] (fun _ => 0) args vargs) :
    SRep w ok none (StartA args n) { tmps := vargs.toArray ++ Array.replicate (n - vargs.toArray.size) undef, defers := [] } w := by
  have hm : Mono w ok [] (fun _ => 0) w (okN w ok none [] (fun _ => 0)) [] (fun _ => 0) := ⟨fun _ _ _ _ hc => hc, fun k hk hlt => ⟨.inl ⟨hk, hlt⟩, fun r row hr => by simp at hr⟩, fun r row hr => by simp at hr⟩
  have hl := hargs.length_eq
  refine ⟨fun _ => 0, rfl, ?_, fun r row hr => by simp [StartA] at hr, fun r r' row row' hr => by simp [StartA] at hr, rfl, rfl, rfl, Nat.le_refl _, fun _ _ _ => rfl, fun _ hb => by cases hb⟩
  simp only [StartA, Array.toList_append, List.size_toArray, Array.toList_replicate]
  rw [hl]
  exact (VReps.mono hm _ _ hargs).append (VReps_any _ _ _ _ _ _)
theorem RetF_start {f : FuncId} {fn : Func} {c : Code} {args cs : List AV} (hf : P.funcs[f]? = some fn) (hn : (fn.name == "runtime.NumGoroutine") = false) (hb : fn.body = some c)
    (h : ∀ Q : Exit → St → Prop, (∀ s, FinF P fn cs s → Q .ret s) → (∀ s, FinF P fn cs s → Q .normal s) → AWp P GE c Q (StartA args fn.ntmps)) : RetF P GE f args cs := by
  refine ⟨⟨fn, hf, hn, by rw [hb]; rfl⟩, fun w ok vargs hG hargs => ?_⟩
  refine calls_of_wp hf hb ?_
  refine wp_mono (h (fun e s => (e = .normal ∨ e = .ret) ∧ FinF P fn cs s) (fun s hs => ⟨.inr rfl, hs⟩) (fun s hs => ⟨.inl rfl, hs⟩) w ok none (fun _ hk => by cases hk) hG _ w (start_SR _ hargs)) ?_
  rintro e a' w' ⟨s, ⟨he, r, ver, n, row, hv, hrow, hver, hn, hcs, hno⟩, β, hs⟩
  obtain ⟨u, h1, h2⟩ := results_sound hs hv
  obtain ⟨ad, cap, rfl, hcap, row', hr', hle, hh⟩ := h2
  obtain rfl : row' = row := Option.some.inj (hr'.symm.trans hrow)
  obtain ⟨rfl, c', e', hc', hsz⟩ := hh hver
  have hbl : Below w.heap.size w w' := ⟨hs.os, hs.tape, hs.output, hs.size, fun k hk => hs.block k hk (by simp)⟩
  have hge : w.heap.size ≤ β r := by
    rcases (hs.row r _ hrow).2.2 with h | h
    · cases h
    · exact h
  have hm := ((hs.row r _ hrow).2.1).take n
  rw [hcs] at hm
  subst hn
  have hfin : Below w.heap.size w w' ∧ ∃ b cap' c e', (Ending.returned (Value.slice (some ⟨β r, 0, none⟩) cs.length cap)) = .returned (.slice (some ⟨b, 0, none⟩) cs.length cap') ∧ cs.length ≤ cap' ∧ w.heap.size ≤ b ∧ w'.heap[b]? = some (.cells c e' (0, 0)) ∧ cap' ≤ c.size ∧
      MReps w' (fun k => (ok k ∧ k < w.heap.size) ∨ w.heap.size ≤ k) [] (fun _ => 0) cs b 0 := ⟨hbl, β r, cap, c', e', rfl, hcap, hge, hc', by omega, MReps.noMem hno hm⟩
  rcases he with rfl | rfl
  · exact ⟨hs.defers, _, h1, hfin⟩
  · exact ⟨hs.defers, _, h1, hfin⟩
def RetT (P : Program) (GE : Nat → Option (List AV)) (f : FuncId) (args cs rs : List AV) : Prop :=
  Callable P f ∧ ∀ (w : World) (ok : Nat → Prop) (vargs : List Value), GRep GE w ok → VReps w ok [] (fun _ => 0) args vargs →
    Calls P f vargs.toArray w fun e w' => Below w.heap.size w w' ∧ ∃ b cap c e' vs, e = .returned (.tuple (Value.slice (some ⟨b, 0, none⟩) cs.length cap :: vs).toArray) ∧ cs.length ≤ cap ∧ w.heap.size ≤ b ∧ w'.heap[b]? = some (.cells c e' (0, 0)) ∧ cap ≤ c.size ∧
      MReps w' (fun k => (ok k ∧ k < w.heap.size) ∨ w.heap.size ≤ k) [] (fun _ => 0) cs b 0 ∧ VReps w' (fun k => (ok k ∧ k < w.heap.size) ∨ w.heap.size ≤ k) [] (fun _ => 0) rs vs
theorem RetT.ret {f : FuncId} {args cs rs : List AV} (h : RetT P GE f args cs rs) : Ret P GE f args (.tup (.lst cs.length cs :: rs)) :=
  ⟨h.1, fun w ok vargs hG hv => (h.2 w ok vargs hG hv).mono fun e w' ⟨hb, b, cap, c, e', vs, he, hcap, hbn, hcell, hsz, hm, hvs⟩ =>
    ⟨_, he, ⟨_, rfl, _, vs, rfl, ⟨some ⟨b, 0, none⟩, cap, rfl, hcap, fun _ => ⟨b, 0, rfl, .inr hbn, hm⟩⟩, hvs⟩, hb⟩⟩
/-- Called with these values, the first one a slice of the row of cells, the function hands back that value, and the row's cells are others from then on. -/
def RetM (P : Program) (GE : Nat → Option (List AV)) (f : FuncId) (args cells cells' : List AV) (r : AV) : Prop :=
  Callable P f ∧ ∀ (w : World) (ok : Nat → Prop) (b : Nat) (vargs : List Value), GRep GE w ok → ¬ ok b → (∃ c e, w.heap[b]? = some (.cells c e (0, 0))) →
    MReps w (okN w ok (some b) [⟨0, true, cells⟩] (fun _ => b)) [⟨0, true, cells⟩] (fun _ => b) cells b 0 → VReps w (okN w ok (some b) [⟨0, true, cells⟩] (fun _ => b)) [⟨0, true, cells⟩] (fun _ => b) args vargs →
    Calls P f vargs.toArray w fun e w' => ∃ v, e = .returned v ∧ VRep w' (fun _ => True) [] (fun _ => 0) r v ∧ w'.os = w.os ∧ w'.tape = w.tape ∧ w'.output = w.output ∧ w.heap.size ≤ w'.heap.size ∧
      (∀ k, k < w.heap.size → k ≠ b → w'.heap[k]? = w.heap[k]?) ∧ ∃ c' e', w'.heap[b]? = some (.cells c' e' (0, 0)) ∧ (∀ c e, w.heap[b]? = some (.cells c e (0, 0)) → c.size ≤ c'.size) ∧
        MReps w' (fun _ => True) [] (fun _ => 0) cells' b 0
def StartM (args cells : List AV) (n : Nat) : St := ⟨args ++ List.replicate (n - args.length) .any, [⟨0, true, cells⟩]⟩
def FinM (P : Program) (fn : Func) (r : AV) (cells' : List AV) (s : St) : Prop := FinN P fn r s ∧ ∃ hot, s.rows[0]? = some ⟨0, hot, cells'⟩ ∧ noMems cells' = true
theorem RetM_start {f : FuncId} {fn : Func} {c : Code} {args cells cells' : List AV} {r : AV} (hf : P.funcs[f]? = some fn) (hn : (fn.name == "runtime.NumGoroutine") = false) (hb : fn.body = some c)
    (h : ∀ Q : Exit → St → Prop, (∀ s, FinM P fn r cells' s → Q .ret s) → (∀ s, FinM P fn r cells' s → Q .normal s) → AWp P GE c Q (StartM args cells fn.ntmps)) : RetM P GE f args cells cells' r := by
  refine ⟨⟨fn, hf, hn, by rw [hb]; rfl⟩, fun w ok b vargs hG hok hcb hcells hargs => ?_⟩
  refine calls_of_wp hf hb ?_
  have hl := hargs.length_eq
  have hS : SRep w ok (some b) (StartM args cells fn.ntmps) { tmps := vargs.toArray ++ Array.replicate (fn.ntmps - vargs.toArray.size) undef, defers := [] } w := by
    refine ⟨fun _ => b, rfl, ?_, fun r row hr => ?_, fun r r' row row' hr hr' _ => ?_, rfl, rfl, rfl, Nat.le_refl _, fun _ _ _ => rfl, fun b' hb' => ?_⟩
    · simp only [StartM, Array.toList_append, List.size_toArray, Array.toList_replicate]
      rw [hl]
      exact hargs.append (VReps_any _ _ _ _ _ _)
    · cases r with
      | zero => simp [StartM] at hr; subst hr; exact ⟨hcb, hcells, .inl rfl⟩
      | succ r => simp [StartM] at hr
    · cases r with
      | zero =>
        cases r' with
        | zero => rfl
        | succ r' => simp [StartM] at hr'
      | succ r => simp [StartM] at hr
    · cases hb'
      exact ⟨_, rfl, fun _ => ⟨rfl, fun c e hc => ⟨c, e, hc, Nat.le_refl _⟩⟩⟩
  refine wp_mono (h (fun e s => (e = .normal ∨ e = .ret) ∧ FinM P fn r cells' s) (fun s hs => ⟨.inr rfl, hs⟩) (fun s hs => ⟨.inl rfl, hs⟩) w ok (some b) (fun k hk => by cases hk; exact hok) hG _ w hS) ?_
  rintro e a' w' ⟨s, ⟨he, ⟨vs, r', hv, hfz, hnr⟩, hot, hrow, hno⟩, β, hs⟩
  obtain ⟨u, h1, h2⟩ := results_sound hs hv
  have hfin : VRep w' (fun _ => True) [] (fun _ => 0) r u := hnr ▸ VRep.nrm r' u (fz_sound' hs false (ok' := fun _ => True) (fun _ _ => trivial) (fun _ _ _ _ => trivial) _ _ _ h2 hfz)
  obtain ⟨row, h3, h4⟩ := hs.home b rfl
  obtain rfl : row = ⟨0, hot, cells'⟩ := Option.some.inj (h3.symm.trans hrow)
  obtain ⟨h5, h6⟩ := h4 rfl
  obtain ⟨c0, e0, hc0⟩ := hcb
  obtain ⟨c', e', hc', hle⟩ := h6 c0 e0 hc0
  have hm := (hs.row 0 _ hrow).2.1
  rw [h5] at hm
  have hall : ∃ v, Ending.returned u = .returned v ∧ VRep w' (fun _ => True) [] (fun _ => 0) r v ∧ w'.os = w.os ∧ w'.tape = w.tape ∧ w'.output = w.output ∧ w.heap.size ≤ w'.heap.size ∧
      (∀ k, k < w.heap.size → k ≠ b → w'.heap[k]? = w.heap[k]?) ∧ ∃ c' e', w'.heap[b]? = some (.cells c' e' (0, 0)) ∧ (∀ c e, w.heap[b]? = some (.cells c e (0, 0)) → c.size ≤ c'.size) ∧
        MReps w' (fun _ => True) [] (fun _ => 0) cells' b 0 :=
    ⟨u, rfl, hfin, hs.os, hs.tape, hs.output, hs.size, fun k hk hne => hs.block k hk (fun h => hne (Option.some.inj h).symm), c', e', hc', fun c e hc => by rw [hc0] at hc; cases hc; exact hle, MReps.noMem hno hm⟩
  rcases he with rfl | rfl
  · exact ⟨hs.defers, u, h1, hall⟩
  · exact ⟨hs.defers, u, h1, hall⟩
theorem LStep_mut {o : Oper} {f : Operand} {args : Array Operand} {ats : Array TypeId} {g : FuncId} {r ver off n sz : Nat} {rest rest' cells cells' : List AV} {res : AV} {K : St → Prop} (hop : o.op = .call ⟨.value f, args, ats⟩) (hf : eval GE st f = .lit (.func (.func g) #[] #[]))
    (ha : args.toList.map (eval GE st) = .own r ver off n sz :: rest) (hrow : st.rows[r]? = some ⟨ver, true, cells⟩) (hz : fzs true st.rows rest = some rest') (hpc : pureAs cells = true) (hn : noMems cells' = true) (hr : noMem res = true)
    (h : RetM P GE g (.own 0 0 off n sz :: rest') cells cells' res)
    (hK : K (({ st with rows := st.rows.set r ⟨ver, true, cells'⟩ } : St).put o.dst res)) : LStep P GE o st K := fun w0 ok0 B hB hG β a w hS Q => by
  have hfv := eval_sound hS hB hG f
  rw [hf] at hfv
  have hargs := args_sound hS hB hG args.toList
  have heq : (args.toList.map a.eval).toArray = args.map a.eval := by apply Array.ext'; simp
  rw [ha] at hargs
  obtain ⟨v0, vs, hvs, hv0, hrest⟩ := hargs
  have hnok : ¬ okN w0 ok0 B st.rows β (β r) := fun hk => hk.2 r _ hrow rfl rfl
  have hto : ∀ k, okN w0 ok0 B st.rows β k → okN w (okN w0 ok0 B st.rows β) (some (β r)) [⟨0, true, cells⟩] (fun _ => β r) k := fun k hk => by
    refine ⟨?_, fun q row hq _ he => ?_⟩
    · rcases Nat.lt_or_ge k w.heap.size with hlt | hge
      · exact .inl ⟨hk, hlt⟩
      · exact .inr (.inl hge)
    · exact hk.2 r _ hrow rfl he
  obtain ⟨hcb, hcells, _⟩ := hS.row r _ hrow
  have hcells' := MReps.pure (rows' := [⟨0, true, cells⟩]) (β' := fun _ => β r) hto cells (β r) 0 hpc hcells
  have hr1 := fzs_sound' hS true (ok' := okN w (okN w0 ok0 B st.rows β) (some (β r)) [⟨0, true, cells⟩] (fun _ => β r)) hto (fun q row hq hcool => by
    have hne : q ≠ r := fun he => by subst he; rw [hrow] at hq; cases hq; exact absurd (hcool rfl) (by simp)
    refine hto _ ⟨row_first hS hq, fun q' rw' hq' hhot he => ?_⟩
    have := hS.inj q' q rw' row hq' hq he
    subst this
    rw [hq'] at hq
    cases hq
    rw [hcool rfl] at hhot
    cases hhot) rest rest' vs hrest hz
  have hr2 : VReps w (okN w (okN w0 ok0 B st.rows β) (some (β r)) [⟨0, true, cells⟩] (fun _ => β r)) [⟨0, true, cells⟩] (fun _ => β r) rest' vs :=
    VReps.mono ⟨fun _ _ _ _ hc => hc, fun k hk _ => hk, fun r row hr => by simp at hr⟩ _ _ hr1
  obtain ⟨ad, cap, hv0e, hcap, row, hrow', hle, hh⟩ := hv0
  obtain rfl : row = ⟨ver, true, cells⟩ := Option.some.inj (hrow'.symm.trans hrow)
  have hcalls := h.2 w (okN w0 ok0 B st.rows β) (β r) (v0 :: vs) (GRep.later hS hB hG fun k hk => hk) hnok hcb hcells'
    ⟨v0, vs, rfl, ⟨ad, cap, hv0e, hcap, ⟨0, true, cells⟩, rfl, Nat.le_refl _, fun _ => hh rfl⟩, hr2⟩
  unfold Oper.wp
  rw [exec_call hop hfv.1, call_enter h.1]
  simp only [Oper.upon]
  rw [← hvs, heq] at hcalls
  refine hcalls.mono fun e w' ⟨v, he, hv, hos, htape, hout, hsize, hblk, c', e', hc', hsz, hm⟩ => ?_
  subst he
  obtain ⟨us, hus, hcu⟩ := hm.vals
  have hS' := (hS.renew (w' := w') (g := β r) (ver := ver) (c' := c') (e := e') (cells := cells') (vs := us) hrow rfl (Nat.le_refl _) (.inl rfl) hc' (fun _ => ⟨rfl, hsz⟩) hblk hos htape hout hsize
    (VReps.noMem _ _ hn hus) (fun i v hv => by
      have := hcu i v hv
      rw [cell_of_row _ _ _ c' e' (0, 0) hc', Nat.zero_add] at this
      exact this)).1
  exact ⟨_, hK, _, hS'.put o.dst (VRep.noMem _ _ hr hv)⟩
theorem tk_0 (l : List Oper) : l.take 0 = [] := rfl
theorem tk_S (x : Oper) (l : List Oper) (n : Nat) : (x :: l).take (n + 1) = x :: l.take n := rfl
theorem mp_0 : List.map (fun x : Oper => x.dst) [] = [] := rfl
theorem mp_S (x : Oper) (l : List Oper) : List.map (fun x : Oper => x.dst) (x :: l) = x.dst :: l.map (fun x : Oper => x.dst) := rfl
theorem ap_0 (x : Row) : ([] : List Row) ++ [x] = [x] := rfl
theorem ap_S (x y : Row) (l : List Row) : (x :: l) ++ [y] = x :: (l ++ [y]) := rfl
theorem sM_eq (args cells : List AV) (n : Nat) : StartM args cells n = ⟨args ++ List.replicate (n - args.length) .any, [⟨0, true, cells⟩]⟩ := rfl
theorem us_noMem : ∀ xs : List Nat, noMems (us xs) = true
  | [] => rfl
  | x :: xs => us_noMem xs
theorem FinQM {fn : Func} {r : AV} {l : List ResultVar} {K : St → Prop} {cells' : List AV} {hot : Bool} (hK : ∀ s, FinM P fn r cells' s → K s) (hl : fn.results.toList = l) (tm : List AV) (rows : List Row) (hr : rows[0]? = some ⟨0, hot, cells'⟩) (hn : noMems cells' = true)
    (h : FinX rows (aress P ⟨tm, rows⟩ l) r) : K ⟨tm, rows⟩ := hK _ ⟨FinN_eq hl tm rows h, hot, hr, hn⟩
theorem FinQF {fn : Func} {l : List ResultVar} {K : St → Prop} {cs : List AV} (hK : ∀ s, FinF P fn cs s → K s) (hl : fn.results.toList = l) (tm : List AV) (rows : List Row) (r ver n : Nat) (hot : Bool) (cells : List AV) (hv : aress P ⟨tm, rows⟩ l = some [.own r ver 0 n 1])
    (hr : rows[r]? = some ⟨ver, hot, cells⟩) (hn : n = cs.length) (hc : cells.take n = cs) (ho : noMems cs = true) : K ⟨tm, rows⟩ := hK _ ⟨r, ver, n, _, by rw [hl]; exact hv, hr, rfl, hn, hc, ho⟩
end
end Go.Ax
