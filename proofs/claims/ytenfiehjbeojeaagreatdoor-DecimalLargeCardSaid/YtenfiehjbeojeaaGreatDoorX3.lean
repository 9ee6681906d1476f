/-
  The framework of this work: abstract values and states, operations, regions, code, functions: proved sound over the model.
-/
import Derived.Test.YtenfiehjbeojeaaGreatDoorX2
set_option linter.unusedVariables false
set_option linter.unusedSimpArgs false
namespace Go.Ax
open Go.RowKit
mutual
/-- A nil slice is an empty one. -/
def nrm : AV → AV
  | .emp => .lst 0 []
  | .agg cs => .agg (nrms cs)
  | .tup cs => .tup (nrms cs)
  | .lst n cs => .lst n (nrms cs)
  | x => x
def nrms : List AV → List AV
  | [] => []
  | c :: cs => nrm c :: nrms cs
end
mutual
theorem VRep.nrm {w : World} {ok : Nat → Prop} {rows : List Row} {β : Nat → Nat} : ∀ (x : AV) (v : Value), VRep w ok rows β x v → VRep w ok rows β (nrm x) v
  | .emp, v, h => by
    unfold Ax.nrm
    obtain ⟨a, rfl⟩ := h
    exact ⟨a, 0, rfl, Nat.le_refl _, fun h => absurd rfl h⟩
  | .agg cs, v, ⟨vs, hv, h⟩ => ⟨vs, hv, VReps.nrm cs vs h⟩
  | .tup cs, v, ⟨vs, hv, h⟩ => ⟨vs, hv, VReps.nrm cs vs h⟩
  | .lst n cs, v, ⟨a, cap, hv, hc, h⟩ => ⟨a, cap, hv, hc, fun hne => by
      have hne' : cs ≠ [] := by rintro rfl; exact hne rfl
      obtain ⟨b, o, h1, h2, h3⟩ := h hne'
      exact ⟨b, o, h1, h2, MReps.nrm cs b o h3⟩⟩
  | .int _ _, _, h => h
  | .bool _, _, h => h
  | .lit _, _, h => h
  | .own .., _, h => h
  | .ptr .., _, h => h
  | .lptr _, _, h => h
  | .any, _, h => h
theorem VReps.nrm {w : World} {ok : Nat → Prop} {rows : List Row} {β : Nat → Nat} : ∀ (xs : List AV) (vs : List Value), VReps w ok rows β xs vs → VReps w ok rows β (nrms xs) vs
  | [], _, h => h
  | x :: xs, _, ⟨v, vs', he, h, hs⟩ => ⟨v, vs', he, VRep.nrm x v h, VReps.nrm xs vs' hs⟩
theorem MReps.nrm {w : World} {ok : Nat → Prop} {rows : List Row} {β : Nat → Nat} : ∀ (xs : List AV) (b o : Nat), MReps w ok rows β xs b o → MReps w ok rows β (nrms xs) b o
  | [], _, _, _ => trivial
  | x :: xs, b, o, ⟨⟨u, hu, h⟩, hs⟩ => ⟨⟨u, hu, VRep.nrm x u h⟩, MReps.nrm xs b (o + 1) hs⟩
end
section
variable {P : Program} {GE : Nat → Option (List AV)} {ops : Array Oper} {w0 : World} {ok0 : Nat → Prop} {B : Option Nat}
/-- A region's operations, one after the other. -/
def AOps (P : Program) (GE : Nat → Option (List AV)) (ops : Array Oper) : List Oper → St → (St → Prop) → Prop
  | [], st, K => K st
  | o :: os, st, K => AGOp P GE ops o st fun s => AOps P GE ops os s K
def AGi (P : Program) (GE : Nat → Option (List AV)) (ops : Array Oper) (i : Nat) (st : St) (K : St → Prop) : Prop :=
  match ops[i]? with
  | none => K st
  | some o => AGOp P GE ops o st K
def AnyA (P : Program) (GE : Nat → Option (List AV)) (md : Region.Mode) (ops : Array Oper) (K : St → Prop) : Nat → Array Bool → St → Prop
  | 0, listed, st => Region.ready md ops listed = [] ∧ K st
  | fuel + 1, listed, st => (Region.ready md ops listed = [] → K st) ∧ ∀ i ∈ Region.ready md ops listed, AGi P GE ops i st (AnyA P GE md ops K fuel (listed.setIfInBounds i true))
theorem gval_sound {β : Nat → Nat} {st : St} {a : Act} {w : World} (h : SR w0 ok0 B β st a w) {j : Nat} {b : Option Bool} (hg : gval ops st j = some b) : yielded ops a.tmps j = b := by
  unfold gval at hg
  unfold yielded
  split at hg
  · rename_i d hd
    split at hg
    · rename_i b' hb
      cases hg
      have hv := h.get d
      rw [hb] at hv
      have hv' : a.tmps.getD d undef = .bool b' := hv
      rw [hd]
      simp only [Option.bind_some]
      cases hx : a.tmps[d]? with
      | none =>
        rw [Array.getD_eq_getD_getElem?, hx] at hv'
        cases hv'
      | some v =>
        rw [Array.getD_eq_getD_getElem?, hx] at hv'
        simp only [Option.getD_some] at hv'
        rw [hv']
    · rename_i hb
      cases hg
      have hv := h.get d
      rw [hb] at hv
      obtain ⟨vs, hv1, hv2⟩ := hv
      have hv' : a.tmps.getD d undef = .tuple #[] := by rw [hv1, show vs = [] from hv2]
      rw [hd]
      simp only [Option.bind_some]
      cases hx : a.tmps[d]? with
      | none => rfl
      | some v =>
        rw [Array.getD_eq_getD_getElem?, hx] at hv'
        simp only [Option.getD_some] at hv'
        rw [hv']
    · cases hg
  · cases hg
theorem AGStep_sound {β : Nat → Nat} {st st' : St} {a : Act} {w : World} (h : SR w0 ok0 B β st a w) (hB : ∀ k, B = some k → ¬ ok0 k) (hG : GRep GE w0 ok0) {o : Oper} (hs : AGStep P GE ops o st st')
    {K : Act → World → Prop} {Q : Exit → Act → World → Prop} (hK : ∀ β' a' w', SR w0 ok0 B β' st' a' w' → K a' w') :
    if Region.wanted o (yielded ops a.tmps) then o.wp P a w K Q else K (a.put o.dst undef) w := by
  unfold AGStep AGOp at hs
  unfold Region.wanted
  cases hgd : o.guard with
  | none =>
    simp only [hgd] at hs ⊢
    exact AStep_sound h hB hG hs hK
  | some jw =>
    obtain ⟨j, want⟩ := jw
    simp only [hgd] at hs ⊢
    cases hv : gval ops st j with
    | none => simp [hv] at hs
    | some b =>
      simp only [hv] at hs
      have hy := gval_sound h hv
      simp only [hy]
      by_cases hb : b = some want
      · rw [if_pos hb] at hs
        rw [if_pos (by simp [hb])]
        exact AStep_sound h hB hG hs hK
      · rw [if_neg hb] at hs
        rw [if_neg (by simpa using hb)]
        subst hs
        exact hK β _ w (h.put o.dst (x := .tup []) ⟨[], rfl, rfl⟩)
theorem AOps_sound (hB : ∀ k, B = some k → ¬ ok0 k) (hG : GRep GE w0 ok0) {Q : Exit → Act → World → Prop} {K : St → Prop} (hQ : ∀ β st a w, K st → SR w0 ok0 B β st a w → Q .normal a w) :
    ∀ (l : List Oper) {β : Nat → Nat} {st : St} {a : Act} {w : World}, SR w0 ok0 B β st a w → AOps P GE ops l st K → wpList P ops Q l a w
  | [], β, st, a, w, h, hk => hQ β st a w hk h
  | o :: os, β, st, a, w, h, hk => by
    obtain ⟨st', hs, hk'⟩ := AGOp_iff.1 hk
    have := AGStep_sound (P := P) h hB hG hs (K := wpList P ops Q os) (Q := Q) (fun β' a' w' h' => AOps_sound hB hG hQ os h' hk')
    unfold wpList
    split at this
    · rename_i hw; rw [if_pos hw]; exact .inl this
    · rename_i hw; rw [if_neg hw]; exact this
theorem AnyA_sound (hB : ∀ k, B = some k → ¬ ok0 k) (hG : GRep GE w0 ok0) {Q : Exit → Act → World → Prop} {K : St → Prop} {md : Region.Mode} (hQ : ∀ β st a w, K st → SR w0 ok0 B β st a w → Q .normal a w) :
    ∀ (fuel : Nat) (listed : Array Bool) {β : Nat → Nat} {st : St} {a : Act} {w : World}, SR w0 ok0 B β st a w → AnyA P GE md ops K fuel listed st → wpAny P md ops Q fuel listed a w
  | 0, listed, β, st, a, w, h, hk => ⟨hk.1, hQ β st a w hk.2 h⟩
  | fuel + 1, listed, β, st, a, w, h, hk => by
    refine ⟨fun h0 => hQ β st a w (hk.1 h0) h, fun i hi => ?_⟩
    have h1 := hk.2 i hi
    unfold AGi at h1
    unfold wpOp
    cases ho : ops[i]? with
    | none => simp only [ho] at h1 ⊢; exact AnyA_sound hB hG hQ fuel _ h h1
    | some o =>
      simp only [ho] at h1 ⊢
      obtain ⟨st', hs, hk'⟩ := AGOp_iff.1 h1
      have := AGStep_sound (P := P) h hB hG hs (K := wpAny P md ops Q fuel (listed.setIfInBounds i true)) (Q := Q) (fun β' a' w' h' => AnyA_sound hB hG hQ fuel _ h' hk')
      split at this
      · rename_i hw; rw [if_pos hw]; exact .inl this
      · rename_i hw; rw [if_neg hw]; exact this
theorem AnyA_first {md : Region.Mode} {K : St → Prop} {i : Nat} {oi : Oper} (hi : ops[i]? = some oi) (D : Nat → Bool)
    (hD : ∀ j, D j = true → ∃ oj, ops[j]? = some oj ∧ ∃ e ∈ oj.after, Region.binds md e = true ∧ (e.on = i ∨ D e.on = true)) :
    ∀ (fuel : Nat) (listed : Array Bool) (st s1 : St),
      (∀ j oj, ops[j]? = some oj → j ≠ i → listed.getD j true = false → D j = false → oi.apart ops oj = true ∧ compat (cls oi.op) (cls oj.op) = true) →
      (∀ j, D j = true → listed.getD j true = false) →
      i ∈ Region.ready md ops listed → AGStep P GE ops oi st s1 →
      AnyA P GE md ops K fuel (listed.setIfInBounds i true) s1 → AnyA P GE md ops K (fuel + 1) listed st := by
  intro fuel
  induction fuel with
  | zero =>
    intro listed st s1 _ _ hr hy H
    refine ⟨fun h => (by rw [h] at hr; cases hr), fun j hj => ?_⟩
    by_cases hji : j = i
    · subst hji; unfold AGi; simp only [hi]; exact AGOp_iff.2 ⟨s1, hy, H⟩
    · have := ready_mono hj hji
      rw [H.1] at this
      cases this
  | succ fuel ih =>
    intro listed st s1 hfree hDl hr hy H
    refine ⟨fun h => (by rw [h] at hr; cases hr), fun j hj => ?_⟩
    by_cases hji : j = i
    · subst hji; unfold AGi; simp only [hi]; exact AGOp_iff.2 ⟨s1, hy, H⟩
    · have h1 := H.2 j (ready_mono hj hji)
      obtain ⟨hjun, oj, hoj, hall⟩ := mem_ready.1 hj
      have hout : ∀ k, listed.getD k true = false → listed.getD k false = true → False := fun k h0 h1 => by
        rcases Nat.lt_or_ge k listed.size with h' | h'
        · simp [h'] at h0 h1; rw [h0] at h1; cases h1
        · simp [Array.getElem?_eq_none h'] at h1
      have hnot : D j = false := by
        cases hd : D j with
        | false => rfl
        | true =>
          obtain ⟨oj', hoj', e, he, hb, hon⟩ := hD j hd
          obtain rfl : oj' = oj := Option.some.inj (hoj'.symm.trans hoj)
          have h1 := hall e he hb
          rcases hon with hon | hon
          · rw [hon] at h1
            exact (hout i (mem_ready.1 hr).1 h1).elim
          · exact (hout _ (hDl _ hon) h1).elim
      unfold AGi at h1 ⊢
      simp only [hoj] at h1 ⊢
      obtain ⟨s2, hs2, hk⟩ := AGOp_iff.1 h1
      obtain ⟨hap, hcp⟩ := hfree j oj hoj hji hjun hnot
      obtain ⟨s1', h3, h4⟩ := AGStep_comm hap hcp hy hs2
      refine AGOp_iff.2 ⟨s1', h3, ih (listed.setIfInBounds j true) s1' s2 (fun k ok hk' hki hun hno => ?_) (fun k hk => ?_) (ready_mono hr (Ne.symm hji)) h4 ?_⟩
      · refine hfree k ok hk' hki ?_ hno
        by_cases hjk : j = k
        · subst hjk; exact hjun
        · rw [getD_set_ne true hjk] at hun; exact hun
      · have hjk : j ≠ k := fun he => by subst he; rw [hnot] at hk; cases hk
        rw [getD_set_ne true hjk]; exact hDl k hk
      · rw [Array.setIfInBounds_comm _ _ hji]
        exact hk
/-- What waits for the i-th operation, directly or through others. -/
def depG (md : Region.Mode) (ops : Array Oper) (i : Nat) : List Nat → Array Bool → Array Bool
  | [], D => D
  | j :: js, D => depG md ops i js (match ops[j]? with
    | some oj => if oj.after.any (fun e => Region.binds md e && (e.on == i || D.getD e.on false)) then D.setIfInBounds j true else D
    | none => D)
def depA (md : Region.Mode) (ops : Array Oper) (i : Nat) : Array Bool := depG md ops i (List.range ops.size) (Array.replicate ops.size false)
theorem getD_set_true {D : Array Bool} {j k : Nat} (h : (D.setIfInBounds j true).getD k false = true) : k = j ∨ D.getD k false = true := by
  by_cases hjk : j = k
  · exact .inl hjk.symm
  · right
    rw [getD_set_ne false hjk] at h
    exact h
theorem getD_set_keep {D : Array Bool} {j k : Nat} (h : D.getD k false = true) : (D.setIfInBounds j true).getD k false = true := by
  by_cases hjk : j = k
  · subst hjk
    have hlt : j < D.size := by
      rcases Nat.lt_or_ge j D.size with h' | h'
      · exact h'
      · simp [Array.getElem?_eq_none h'] at h
    simp [hlt]
  · rw [getD_set_ne false hjk]; exact h
theorem depG_spec {md : Region.Mode} {i : Nat} : ∀ (l : List Nat) (D : Array Bool),
    (∀ j, D.getD j false = true → ∃ oj, ops[j]? = some oj ∧ ∃ e ∈ oj.after, Region.binds md e = true ∧ (e.on = i ∨ D.getD e.on false = true)) →
    ∀ j, (depG md ops i l D).getD j false = true → ∃ oj, ops[j]? = some oj ∧ ∃ e ∈ oj.after, Region.binds md e = true ∧ (e.on = i ∨ (depG md ops i l D).getD e.on false = true)
  | [], D, h => h
  | k :: ks, D, h => by
    unfold depG
    refine depG_spec ks _ ?_
    split
    · rename_i ok hok
      split
      · rename_i hany
        intro j hj
        rcases getD_set_true hj with rfl | hj
        · obtain ⟨e, he, hb⟩ := Array.any_eq_true'.1 hany
          simp only [Bool.and_eq_true, Bool.or_eq_true, beq_iff_eq] at hb
          exact ⟨ok, hok, e, he, hb.1, hb.2.imp id getD_set_keep⟩
        · obtain ⟨oj, h1, e, h2, h3, h4⟩ := h j hj
          exact ⟨oj, h1, e, h2, h3, h4.imp id getD_set_keep⟩
      · exact h
    · exact h
def freeA (md : Region.Mode) (ops : Array Oper) (listed : Array Bool) (i : Nat) : Bool :=
  match ops[i]? with
  | none => false
  | some oi => (List.range ops.size).all fun j => j == i || (if (depA md ops i).getD j false then !listed.getD j true else listed.getD j true || match ops[j]? with
      | some oj => oi.apart ops oj && compat (cls oi.op) (cls oj.op)
      | none => true)
theorem freeA_spec {md : Region.Mode} {i : Nat} {oi : Oper} {listed : Array Bool} (hi : ops[i]? = some oi) (h : freeA md ops listed i = true) (j : Nat) (oj : Oper)
    (hj : ops[j]? = some oj) (hne : j ≠ i) (hun : listed.getD j true = false) (hno : (depA md ops i).getD j false = false) :
    oi.apart ops oj = true ∧ compat (cls oi.op) (cls oj.op) = true := by
  simp only [freeA, hi, List.all_eq_true, List.mem_range] at h
  have h1 := h j (Array.getElem?_eq_some_iff.1 hj).1
  simpa only [hj, Bool.or_eq_true, beq_iff_eq, hne, false_or, hno, hun, Bool.false_eq_true, if_false, Bool.and_eq_true] using h1
theorem freeA_dep {md : Region.Mode} {i : Nat} {oi : Oper} {listed : Array Bool} (hi : ops[i]? = some oi) (hr : listed.getD i true = false) (h : freeA md ops listed i = true) (j : Nat)
    (hd : (depA md ops i).getD j false = true) : listed.getD j true = false := by
  by_cases hne : j = i
  · subst hne; exact hr
  simp only [freeA, hi, List.all_eq_true, List.mem_range] at h
  obtain ⟨oj, hj, _⟩ := depG_spec (ops := ops) (md := md) (i := i) (List.range ops.size) (Array.replicate ops.size false) (fun j h => by
    simp only [Array.getD_eq_getD_getElem?, Array.getElem?_replicate] at h
    split at h <;> simp at h) j hd
  have h1 := h j (Array.getElem?_eq_some_iff.1 hj).1
  simpa only [Bool.or_eq_true, beq_iff_eq, hne, false_or, hd, if_true, Bool.not_eq_true'] using h1
def lexFromA (md : Region.Mode) (ops : Array Oper) : Nat → Nat → Array Bool → Bool
  | 0, _, listed => (Region.ready md ops listed).isEmpty
  | fuel + 1, k, listed => (Region.ready md ops listed).contains k && freeA md ops listed k && lexFromA md ops fuel (k + 1) (listed.setIfInBounds k true)
/-- May the region be done in the text's order, whatever order is drawn? -/
def lexA (ops : Array Oper) : Bool := lexFromA .any ops ops.size 0 (Array.replicate ops.size false)
theorem AnyA_lex {md : Region.Mode} {K : St → Prop} : ∀ (l : List Oper) (k : Nat) (listed : Array Bool) (st : St), (∀ j : Nat, l[j]? = ops[k + j]?) →
    lexFromA md ops l.length k listed = true → AOps P GE ops l st K → AnyA P GE md ops K l.length listed st
  | [], _, _, _, _, hB, h => ⟨by simpa [lexFromA] using hB, h⟩
  | o :: l, k, listed, st, hl, hB, h => by
    have h0 : ops[k]? = some o := by simpa using (hl 0).symm
    simp only [List.length_cons, lexFromA, Bool.and_eq_true] at hB
    obtain ⟨⟨hr, hf⟩, hB'⟩ := hB
    obtain ⟨s1, hs, hk⟩ := AGOp_iff.1 h
    exact AnyA_first h0 (fun j => (depA md ops k).getD j false) (depG_spec _ _ (fun j h => by
      simp only [Array.getD_eq_getD_getElem?, Array.getElem?_replicate] at h
      split at h <;> simp at h)) l.length listed st s1 (freeA_spec h0 hf) (freeA_dep h0 (mem_ready.1 (by simpa using hr)).1 hf) (by simpa using hr) hs
      (AnyA_lex l (k + 1) _ _ (fun j => by have := hl (j + 1); simpa [Nat.add_assoc, Nat.add_comm 1 j] using this) hB' hk)
/-- Running code from a state ends in a state of which Q holds. -/
def AWp (P : Program) (GE : Nat → Option (List AV)) (c : Code) (Q : Exit → St → Prop) (st : St) : Prop :=
  ∀ (w0 : World) (ok0 : Nat → Prop) (B : Option Nat), (∀ k, B = some k → ¬ ok0 k) → GRep GE w0 ok0 → ∀ (a : Act) (w : World), SRep w0 ok0 B st a w → c.wp P (fun e a' w' => ∃ st', Q e st' ∧ SRep w0 ok0 B st' a' w') a w
variable {Q : Exit → St → Prop} {st : St}
theorem AWp_mono {c : Code} {Q' : Exit → St → Prop} (h : AWp P GE c Q st) (hq : ∀ e s, Q e s → Q' e s) : AWp P GE c Q' st := fun w0 ok0 B hB hG a w hS =>
  wp_mono (h w0 ok0 B hB hG a w hS) fun e a' w' ⟨s, h1, h2⟩ => ⟨s, hq e s h1, h2⟩
theorem AWp_skip (h : Q .normal st) : AWp P GE .skip Q st := fun w0 ok0 B hB hG a w hS => wp_skip ⟨st, h, hS⟩
theorem AWp_ret (h : Q .ret st) : AWp P GE .ret Q st := fun w0 ok0 B hB hG a w hS => wp_ret ⟨st, h, hS⟩
theorem AWp_exit {id : Nat} (h : Q (.exit id) st) : AWp P GE (.exit id) Q st := fun w0 ok0 B hB hG a w hS => wp_exit ⟨st, h, hS⟩
def thenA (next : St → Prop) (Q : Exit → St → Prop) : Exit → St → Prop
  | .normal, s => next s
  | e, s => Q e s
def blockA (id : Nat) (Q : Exit → St → Prop) : Exit → St → Prop
  | .exit id', s => if id' = id then Q .normal s else Q (.exit id') s
  | e, s => Q e s
theorem AWp_seq {x y : Code} (h : AWp P GE x (thenA (AWp P GE y Q) Q) st) : AWp P GE (.seq x y) Q st := fun w0 ok0 B hB hG a w hS =>
  wp_seq (wp_mono (h w0 ok0 B hB hG a w hS) fun e a' w' ⟨s, h1, h2⟩ => by
    cases e with
    | normal => exact h1 w0 ok0 B hB hG a' w' h2
    | _ => exact ⟨s, h1, h2⟩)
theorem AWp_block {id : Nat} {c : Code} (h : AWp P GE c (blockA id Q) st) : AWp P GE (.block id c) Q st := fun w0 ok0 B hB hG a w hS =>
  wp_block (wp_mono (h w0 ok0 B hB hG a w hS) fun e a' w' ⟨s, h1, h2⟩ => by
    cases e with
    | exit id' =>
      simp only [blockA] at h1
      simp only [Exit.inBlock]
      split at h1
      · rename_i hid; rw [if_pos hid]; exact ⟨s, h1, h2⟩
      · rename_i hid; rw [if_neg hid]; exact ⟨s, h1, h2⟩
    | _ => exact ⟨s, h1, h2⟩)
theorem AWp_cond {c : Operand} {x y : Code} {t : Bool} (hc : eval GE st c = .bool t) (h1 : t = true → AWp P GE x Q st) (h2 : t = false → AWp P GE y Q st) : AWp P GE (.cond c x y) Q st := fun w0 ok0 B hB hG a w hS => by
  obtain ⟨β, hβ⟩ := hS
  have hv := eval_sound hβ hB hG c
  rw [hc] at hv
  have hv' : a.eval c = .bool t := hv
  exact wp_cond_split hv' (fun ht => h1 ht w0 ok0 B hB hG a w ⟨β, hβ⟩) (fun ht => h2 ht w0 ok0 B hB hG a w ⟨β, hβ⟩)
theorem AWp_region {id : Nat} {ops : Array Oper} {draw : Bool} (hm : P.follows .mixedOrders = true) (hd : draw = true → lexA ops = true) (h : AOps P GE ops ops.toList st (Q .normal)) : AWp P GE (.region id ops draw) Q st := fun w0 ok0 B hB hG a w hS => by
  obtain ⟨β, hβ⟩ := hS
  cases draw with
  | false => exact wp_region_list (AOps_sound hB hG (fun β' s a' w' hk hs => ⟨s, hk, β', hs⟩) ops.toList hβ h)
  | true =>
    have hl := hd rfl
    unfold lexA at hl
    have hany := AnyA_lex (md := .any) ops.toList 0 (Array.replicate ops.size false) st (by simp) (by simpa using hl) h
    simp only [Array.length_toList] at hany
    have hb : Below w.heap.size w w.drew := (Below.refl _ _).drew
    exact wp_region_any hm (AnyA_sound hB hG (fun β' s a' w' hk hs => ⟨s, hk, β', hs⟩) _ _ (hβ.keep hb) hany)
/-- A state says less than another one: slots are forgotten. -/
def leT : List AV → List AV → Prop
  | _, [] => True
  | [], _ :: _ => False
  | x :: xs, y :: ys => (y = .any ∨ x = y ∨ nrm x = y) ∧ leT xs ys
theorem leT_sound {w : World} {ok : Nat → Prop} {rows : List Row} {β : Nat → Nat} : ∀ {xs ys : List AV} {vs : List Value}, leT xs ys → xs.length = ys.length → VReps w ok rows β xs vs → VReps w ok rows β ys vs
  | [], [], vs, _, _, h => h
  | x :: xs, y :: ys, vs, ⟨hx, hs⟩, hl, ⟨v, vs', he, hv, hvs⟩ => ⟨v, vs', he, by rcases hx with rfl | rfl | rfl; exact trivial; exact hv; exact VRep.nrm _ _ hv, leT_sound hs (by simpa using hl) hvs⟩
  | [], _ :: _, vs, h, _, _ => h.elim
  | _ :: _, [], _, _, hl, _ => by simp at hl
def leS (s s' : St) : Prop := leT s.tmps s'.tmps ∧ s.tmps.length = s'.tmps.length ∧ s.rows = s'.rows
theorem SRep.le {w0 : World} {ok0 : Nat → Prop} {B : Option Nat} {s s' : St} {a : Act} {w : World} (h : SRep w0 ok0 B s a w) (hl : leS s s') : SRep w0 ok0 B s' a w := by
  obtain ⟨β, hβ⟩ := h
  obtain ⟨h1, h2, h3⟩ := hl
  obtain ⟨tm', rows'⟩ := s'
  simp only at h3
  subst h3
  exact ⟨β, hβ.defers, leT_sound h1 h2 hβ.tmps, hβ.row, hβ.inj, hβ.os, hβ.tape, hβ.output, hβ.size, hβ.block, hβ.home⟩
theorem AWp_le {c : Code} {s' : St} (hl : leS st s') (h : AWp P GE c Q s') : AWp P GE c Q st := fun w0 ok0 B hB hG a w hS => h w0 ok0 B hB hG a w (hS.le hl)
theorem AWp_cool {c : Code} (r : Nat) (h : AWp P GE c Q { st with rows := st.rows.modify r fun row => { row with hot := false } }) : AWp P GE c Q st := fun w0 ok0 B hB hG a w hS => by
  obtain ⟨β, hβ⟩ := hS
  exact h w0 ok0 B hB hG a w ⟨β, hβ.cool r⟩
/-- A loop: a family of states, and what is counted down. -/
theorem AWp_loop {c : Code} {ι : Type} (F : ι → St) (I : ι → Prop) (μ : ι → Nat) (i0 : ι) (h0 : leS st (F i0)) (hi0 : I i0)
    (h : ∀ i, I i → AWp P GE c (thenA (fun s => ∃ j, leS s (F j) ∧ I j ∧ μ j < μ i) Q) (F i)) : AWp P GE (.loop c) Q st := fun w0 ok0 B hB hG a w hS => by
  intro b k cs
  have key : ∀ n a w, (∃ i, I i ∧ SRep w0 ok0 B (F i) a w ∧ μ i = n) →
      ∃ e a' w', (∃ st', Q e st' ∧ SRep w0 ok0 B st' a' w') ∧ Arrives P (lone (b.at a (.code c :: .inLoop c :: k)) cs w) b k cs e a' w' := by
    intro n
    induction n using Nat.strongRecOn with
    | _ n ih =>
      rintro a w ⟨i, hI, hSi, rfl⟩
      obtain ⟨e, a1, w1, ⟨s, hq, hs⟩, harr⟩ := h i hI w0 ok0 B hB hG a w hSi b (.inLoop c :: k) cs
      cases e with
      | normal =>
        obtain ⟨j, hl, hIj, hlt⟩ := hq
        obtain ⟨e2, a2, w2, hq2, harr2⟩ := ih (μ j) hlt a1 w1 ⟨j, hIj, hs.le hl, rfl⟩
        exact ⟨e2, a2, w2, hq2, .of_steps (Steps.trans harr (.one step_inLoop)) harr2⟩
      | exit id => exact ⟨_, a1, w1, ⟨s, hq, hs⟩, .pass (x := .inLoop c) rfl (fun _ _ => .inl (by simp)) harr⟩
      | goto l => exact ⟨_, a1, w1, ⟨s, hq, hs⟩, .pass (x := .inLoop c) rfl (fun _ _ => .inl (by simp)) harr⟩
      | ret => exact ⟨_, a1, w1, ⟨s, hq, hs⟩, .pass (x := .inLoop c) rfl (fun _ _ => .inl (by simp)) harr⟩
      | panic ch => exact ⟨_, a1, w1, ⟨s, hq, hs⟩, .pass (x := .inLoop c) rfl (fun _ _ => .inl (by simp)) harr⟩
      | outgrown => exact ⟨_, a1, w1, ⟨s, hq, hs⟩, .pass (x := .inLoop c) rfl (fun _ _ => .inl (by simp)) harr⟩
  obtain ⟨e, a', w', hq, harr⟩ := key _ a w ⟨i0, hi0, hS.le h0, rfl⟩
  exact ⟨e, a', w', hq, .of_steps (.one step_loop) harr⟩
end
end Go.Ax
set_option linter.unusedVariables false
set_option linter.unusedSimpArgs false
namespace Go.Ax
open Go.RowKit
section
variable {P : Program} {GE : Nat → Option (List AV)} {w0 : World} {ok0 : Nat → Prop} {B : Option Nat}
def ares (P : Program) (s : St) : ResultVar → Option AV
  | .tmp t => some (s.get t)
  | .cell p t => match tvOf P t, cellsAt s.rows (s.get p) with
    | some tv, some cs => readAs tv cs
    | _, _ => none
def aress (P : Program) (s : St) : List ResultVar → Option (List AV)
  | [] => some []
  | x :: xs => match ares P s x, aress P s xs with
    | some v, some vs => some (v :: vs)
    | _, _ => none
def oneA : List AV → AV
  | [v] => v
  | vs => .tup vs
theorem aress_sound {β : Nat → Nat} {s : St} {a : Act} {w : World} (h : SR w0 ok0 B β s a w) : ∀ (xs : List ResultVar) (vs : List AV), aress P s xs = some vs →
    ∃ us : List Value, (xs.mapM fun x => match x with | .tmp t => pure (a.tmps.getD t undef) | .cell p t => do loadVar t (← asAddr (a.tmps.getD p undef)) : Sem (List Value)).run P w = .ok us w ∧ VReps w (okN w0 ok0 B s.rows β) s.rows β vs us
  | [], vs, hv => by simp [aress] at hv; subst hv; exact ⟨[], rfl, rfl⟩
  | x :: xs, vs, hv => by
    simp only [aress] at hv
    split at hv
    · rename_i v vs' h1 h2
      cases hv
      obtain ⟨us, h3, h4⟩ := aress_sound h xs vs' h2
      have hone : ∃ u, ((match x with | .tmp t => pure (a.tmps.getD t undef) | .cell p t => do loadVar t (← asAddr (a.tmps.getD p undef)) : Sem Value)).run P w = .ok u w ∧ VRep w (okN w0 ok0 B s.rows β) s.rows β v u := by
        cases x with
        | tmp t => simp [ares] at h1; subst h1; exact ⟨_, rfl, h.get t⟩
        | cell p t =>
          simp only [ares] at h1
          split at h1
          · rename_i tv cs ht hc
            obtain ⟨b, o, he, hm⟩ := cellsAt_sound h (h.get p) hc
            obtain ⟨u, hu, hr⟩ := load_sound ht hm h1
            exact ⟨u, by simp only [he, asAddr, Sem.run_bind, Sem.run_pure, Result.andThen_ok, hu], hr⟩
          · cases h1
      obtain ⟨u, hu, hr⟩ := hone
      refine ⟨u :: us, ?_, u, us, rfl, hr, h4⟩
      rw [List.mapM_cons, Sem.run_bind, hu]
      simp only [Result.andThen_ok, Sem.run_bind]
      rw [h3]
      rfl
    · cases hv
theorem results_sound {β : Nat → Nat} {s : St} {a : Act} {w : World} {fn : Func} (h : SR w0 ok0 B β s a w) {vs : List AV} (hv : aress P s fn.results.toList = some vs) :
    ∃ u, (results fn a.tmps).run P w = .ok u w ∧ VRep w (okN w0 ok0 B s.rows β) s.rows β (oneA vs) u := by
  obtain ⟨us, h1, h2⟩ := aress_sound h fn.results.toList vs hv
  refine ⟨if hh : us.length = 1 then us[0] else .tuple us.toArray, ?_, ?_⟩
  · unfold results
    rw [Array.mapM_eq_mapM_toList, Sem.run_bind, Sem.run_map]
    erw [h1]
    simp
  · match vs, us, h2 with
    | [], us, h2 => rw [show us = [] from h2]; exact ⟨[], rfl, rfl⟩
    | [x], us, h2 => obtain ⟨u, us', rfl, hx, hs⟩ := h2; rw [show us' = [] from hs]; exact hx
    | x :: y :: zs, us, h2 =>
      have hl := h2.length_eq
      simp only [List.length_cons] at hl
      rw [dif_neg (by omega)]
      exact ⟨us, rfl, h2⟩
def StartA (args : List AV) (n : Nat) : St := ⟨args ++ List.replicate (n - args.length) .any, []⟩
theorem VReps_any (w : World) (ok : Nat → Prop) (rows : List Row) (β : Nat → Nat) (v : Value) : ∀ n, VReps w ok rows β (List.replicate n .any) (List.replicate n v)
  | 0 => rfl
  | n + 1 => ⟨v, _, rfl, trivial, VReps_any w ok rows β v n⟩
end
end Go.Ax
set_option linter.unusedVariables false
set_option linter.unusedSimpArgs false
namespace Go.Ax
open Go.RowKit
section
variable {P : Program} {GE : Nat → Option (List AV)}
def viaO (r : Option (St × AV)) (dst : Option Tmp) (K : St → Prop) : Prop := match r with
  | some (s, x) => K (s.put dst x)
  | none => False
/-- An operation, ready to be evaluated. -/
def XOp (P : Program) (GE : Nat → Option (List AV)) (op : Op) (dst : Option Tmp) (st : St) (K : St → Prop) : Prop :=
  match op with
  | .call { callee := .value f, args, .. } => ∃ r, ACall P GE st (eval GE st f) (args.toList.map (eval GE st)) r ∧ K (st.put dst r)
  | op => viaO (aexec P GE st op) dst K
def gvalL (ds : List (Option Tmp)) (st : St) (j : Nat) : Option (Option Bool) :=
  match ds.getD j none with
  | some d => match st.get d with
    | .bool b => some (some b)
    | .tup [] => some none
    | _ => none
  | none => none
def XGOp (P : Program) (GE : Nat → Option (List AV)) (ds : List (Option Tmp)) (op : Op) (dst : Option Tmp) (g : Option (Nat × Bool)) (st : St) (K : St → Prop) : Prop :=
  match g with
  | none => XOp P GE op dst st K
  | some (j, want) => match gvalL ds st j with
    | some b => if b = some want then XOp P GE op dst st K else K (st.put dst (.tup []))
    | none => False
def XOps (P : Program) (GE : Nat → Option (List AV)) (ds : List (Option Tmp)) : List Oper → St → (St → Prop) → Prop
  | [], st, K => K st
  | o :: os, st, K => XGOp P GE ds o.op o.dst o.guard st fun s => XOps P GE (ds ++ [o.dst]) os s K
theorem XOp_mono {op : Op} {dst : Option Tmp} {st : St} {K K' : St → Prop} (hK : ∀ s, K s → K' s) (h : XOp P GE op dst st K) : AOp P GE op dst st K' := by
  unfold XOp at h
  unfold AOp
  split at h
  · obtain ⟨r, h1, h2⟩ := h; exact ⟨r, h1, hK _ h2⟩
  · rename_i op hop
    unfold viaO at h
    split at h
    · rename_i s x hx
      split
      · rename_i f args ats; exact absurd rfl (hop f args ats)
      · exact ⟨s, x, hx, hK _ h⟩
    · exact h.elim
theorem gvalL_eq {ops : Array Oper} {pre post : List Oper} (h : ops.toList = pre ++ post) {st : St} {j : Nat} {b : Option Bool} (hb : gvalL (pre.map (·.dst)) st j = some b) : gval ops st j = some b := by
  unfold gvalL at hb
  unfold gval
  have hlt : j < pre.length := by
    rcases Nat.lt_or_ge j pre.length with h | h
    · exact h
    · have : (pre.map (·.dst)).getD j none = none := by
        rw [List.getD_eq_getElem?_getD, List.getElem?_eq_none (by simpa using h)]; rfl
      rw [this] at hb
      cases hb
  have hj : ops[j]? = some pre[j] := by
    rw [← Array.getElem?_toList, h, List.getElem?_append_left hlt, List.getElem?_eq_getElem hlt]
  rw [hj]
  have : (pre.map (·.dst)).getD j none = (pre[j]).dst := by
    rw [List.getD_eq_getElem?_getD, List.getElem?_map, List.getElem?_eq_getElem hlt]; rfl
  rw [this] at hb
  exact hb
theorem XOps_sound' {ops : Array Oper} : ∀ (l pre : List Oper), ops.toList = pre ++ l → ∀ {st : St} {K : St → Prop}, XOps P GE (pre.map (·.dst)) l st K → AOps P GE ops l st K
  | [], _, _, st, K, h => h
  | o :: os, pre, hp, st, K, h => by
    have hp' : ops.toList = (pre ++ [o]) ++ os := by rw [hp]; simp
    have ih : ∀ {st : St} {K : St → Prop}, XOps P GE (pre.map (·.dst) ++ [o.dst]) os st K → AOps P GE ops os st K := fun {st K} h' => XOps_sound' os (pre ++ [o]) hp' (by simpa using h')
    unfold XOps XGOp at h
    unfold AOps AGOp
    split at h
    · rename_i hg; simp only [hg]; exact XOp_mono (fun s hs => ih hs) h
    · rename_i j want hg
      simp only [hg]
      split at h
      · rename_i b hb
        simp only [gvalL_eq hp hb]
        split at h
        · rename_i hbw; rw [if_pos hbw]; exact XOp_mono (fun s hs => ih hs) h
        · rename_i hbw; rw [if_neg hbw]; exact ih h
      · exact h.elim
theorem XOps_sound {ops : Array Oper} {st : St} {K : St → Prop} (h : XOps P GE [] ops.toList st K) : AOps P GE ops ops.toList st K := XOps_sound' ops.toList [] rfl h
theorem W_region {id : Nat} {ops : Array Oper} {draw : Bool} {Q : Exit → St → Prop} {st : St} (hm : P.follows .mixedOrders = true) (hd : (!draw || lexA ops) = true) (h : XOps P GE [] ops.toList st (Q .normal)) :
    AWp P GE (.region id ops draw) Q st := AWp_region hm (fun hdr => by rw [hdr] at hd; simpa using hd) (XOps_sound h)
end
end Go.Ax
