/-
  The framework of this work: abstract values and states, operations, regions, code, functions: proved sound over the model.
-/
import Derived.WalkKit
import Derived.Still
set_option linter.unusedVariables false
set_option linter.unusedSimpArgs false
namespace Go.Ax
open Go.RowKit
inductive AV where
  | int (k : IntKind) (n : Int)
  | bool (b : Bool)
  | lit (v : Value)
  | agg (cs : List AV)
  | tup (cs : List AV)
  | lst (n : Nat) (cs : List AV)
  | emp
  | own (r ver off n sz : Nat)
  | ptr (r ver off : Nat)
  | lptr (cs : List AV)
  | any
  deriving Inhabited
structure Row where
  ver : Nat
  hot : Bool
  cells : List AV
  deriving Inhabited
structure St where
  tmps : List AV
  rows : List Row
  deriving Inhabited
section rep
variable (w : World) (ok : Nat → Prop) (rows : List Row) (β : Nat → Nat)
mutual
def VRep : AV → Value → Prop
  | .int k n, v => v = .int k n
  | .bool b, v => v = .bool b
  | .lit x, v => v = x ∧ x.oneCell' = true
  | .agg cs, v => ∃ vs : List Value, v = .agg vs.toArray ∧ VReps cs vs
  | .tup cs, v => ∃ vs : List Value, v = .tuple vs.toArray ∧ VReps cs vs
  | .lst n cs, v => ∃ a cap, v = .slice a n cap ∧ n ≤ cap ∧ (cs ≠ [] → ∃ b o, a = some ⟨b, o, none⟩ ∧ ok b ∧ MReps cs b o)
  | .emp, v => ∃ a, v = .slice a 0 0
  | .own r ver off n sz, v => ∃ a cap, v = .slice a n cap ∧ n ≤ cap ∧ ∃ row, rows[r]? = some row ∧ ver ≤ row.ver ∧
      (row.ver = ver → a = some ⟨β r, off, none⟩ ∧ ∃ c e, w.heap[β r]? = some (.cells c e (0, 0)) ∧ off + cap * sz ≤ c.size)
  | .ptr r ver off, v => ∃ a, v = .pointer a ∧ ∃ row, rows[r]? = some row ∧ ver ≤ row.ver ∧ (row.ver = ver → a = some ⟨β r, off, none⟩)
  | .lptr cs, v => ∃ b o, v = .pointer (some ⟨b, o, none⟩) ∧ (cs ≠ [] → ok b ∧ MReps cs b o)
  | .any, _ => True
def VReps : List AV → List Value → Prop
  | [], vs => vs = []
  | c :: cs, vs => ∃ v vs', vs = v :: vs' ∧ VRep c v ∧ VReps cs vs'
def MReps : List AV → Nat → Nat → Prop
  | [], _, _ => True
  | c :: cs, b, o => (∃ u, w.cell? ⟨b, o, none⟩ = some u ∧ VRep c u) ∧ MReps cs b (o + 1)
end
end rep
/-- What is needed to carry a reading from one world to a later one. -/
structure Mono (w : World) (ok : Nat → Prop) (rows : List Row) (β : Nat → Nat) (w' : World) (ok' : Nat → Prop) (rows' : List Row) (β' : Nat → Nat) : Prop where
  cell : ∀ b o u, ok b → w.cell? ⟨b, o, none⟩ = some u → w'.cell? ⟨b, o, none⟩ = some u
  ok : ∀ b, ok b → b < w.heap.size → ok' b
  row : ∀ r row, rows[r]? = some row → ∃ row', rows'[r]? = some row' ∧ row.ver ≤ row'.ver ∧
    (row'.ver = row.ver → β' r = β r ∧ ∀ c e, w.heap[β r]? = some (.cells c e (0, 0)) → ∃ c' e', w'.heap[β r]? = some (.cells c' e' (0, 0)) ∧ c.size ≤ c'.size)
section mono
variable {w : World} {ok : Nat → Prop} {rows : List Row} {β : Nat → Nat} {w' : World} {ok' : Nat → Prop} {rows' : List Row} {β' : Nat → Nat}
mutual
theorem VRep.mono (m : Mono w ok rows β w' ok' rows' β') : ∀ (x : AV) (v : Value), VRep w ok rows β x v → VRep w' ok' rows' β' x v
  | .int _ _, _, h => h
  | .bool _, _, h => h
  | .lit _, _, h => h
  | .agg cs, _, ⟨vs, hv, h⟩ => ⟨vs, hv, VReps.mono m cs vs h⟩
  | .tup cs, _, ⟨vs, hv, h⟩ => ⟨vs, hv, VReps.mono m cs vs h⟩
  | .lst n [], _, ⟨a, cap, hv, hc, _⟩ => ⟨a, cap, hv, hc, fun h => absurd rfl h⟩
  | .lst n (c :: cs), _, ⟨a, cap, hv, hc, h⟩ => by
    obtain ⟨b, o, ha, hok, hm⟩ := h (by simp)
    have hm' := MReps.mono m (c :: cs) b o hok hm
    refine ⟨a, cap, hv, hc, fun _ => ⟨b, o, ha, ?_, hm'⟩⟩
    obtain ⟨⟨u, hu, _⟩, _⟩ := hm
    exact m.ok b hok (World.block_lt_of_cell? w _ hu)
  | .emp, _, h => h
  | .own r ver off n sz, v, ⟨a, cap, hv, hc, row, hr, hle, hh⟩ => by
    obtain ⟨row', hr', hle', hm⟩ := m.row r row hr
    refine ⟨a, cap, hv, hc, row', hr', Nat.le_trans hle hle', fun he => ?_⟩
    have h1 : row'.ver = row.ver := by omega
    have h2 : row.ver = ver := by omega
    obtain ⟨hb, hx⟩ := hm h1
    obtain ⟨ha, c, e, hcell, hsz⟩ := hh h2
    obtain ⟨c', e', hcell', hsz'⟩ := hx c e hcell
    exact ⟨by rw [hb]; exact ha, c', e', by rw [hb]; exact hcell', by omega⟩
  | .ptr r ver off, v, ⟨a, hv, row, hr, hle, hh⟩ => by
    obtain ⟨row', hr', hle', hm⟩ := m.row r row hr
    refine ⟨a, hv, row', hr', Nat.le_trans hle hle', fun he => ?_⟩
    have h1 : row'.ver = row.ver := by omega
    rw [(hm h1).1]
    exact hh (by omega)
  | .lptr [], v, ⟨b, o, hv, _⟩ => ⟨b, o, hv, fun h => absurd rfl h⟩
  | .lptr (c :: cs), v, ⟨b, o, hv, h⟩ => by
    obtain ⟨hok, hm⟩ := h (by simp)
    have hm' := MReps.mono m (c :: cs) b o hok hm
    obtain ⟨⟨u, hu, _⟩, _⟩ := hm
    exact ⟨b, o, hv, fun _ => ⟨m.ok b hok (World.block_lt_of_cell? w _ hu), hm'⟩⟩
  | .any, _, _ => trivial
theorem VReps.mono (m : Mono w ok rows β w' ok' rows' β') : ∀ (xs : List AV) (vs : List Value), VReps w ok rows β xs vs → VReps w' ok' rows' β' xs vs
  | [], _, h => h
  | x :: xs, _, ⟨v, vs', he, h, hs⟩ => ⟨v, vs', he, VRep.mono m x v h, VReps.mono m xs vs' hs⟩
theorem MReps.mono (m : Mono w ok rows β w' ok' rows' β') : ∀ (xs : List AV) (b o : Nat), ok b → MReps w ok rows β xs b o → MReps w' ok' rows' β' xs b o
  | [], _, _, _, _ => trivial
  | x :: xs, b, o, hok, ⟨⟨u, hu, h⟩, hs⟩ => ⟨⟨u, m.cell b o u hok hu, VRep.mono m x u h⟩, MReps.mono m xs b (o + 1) hok hs⟩
end
end mono
section lists
variable {w : World} {ok : Nat → Prop} {rows : List Row} {β : Nat → Nat}
theorem VReps.length_eq : ∀ {xs : List AV} {vs : List Value}, VReps w ok rows β xs vs → xs.length = vs.length
  | [], _, h => by rw [show _ = [] from h]; rfl
  | _ :: xs, _, ⟨v, vs', he, _, hs⟩ => by subst he; simp [VReps.length_eq hs]
theorem VReps.get : ∀ {xs : List AV} {vs : List Value}, VReps w ok rows β xs vs → ∀ {i : Nat} {x : AV}, xs[i]? = some x → ∃ v, vs[i]? = some v ∧ VRep w ok rows β x v
  | [], _, _, _, _, hx => by simp at hx
  | _ :: xs, _, ⟨v, vs', he, h, hs⟩, 0, x, hx => by subst he; simp at hx; subst hx; exact ⟨v, by simp, h⟩
  | _ :: xs, _, ⟨v, vs', he, h, hs⟩, i + 1, x, hx => by
    subst he
    simp only [List.getElem?_cons_succ] at hx ⊢
    exact VReps.get hs hx
theorem VReps.of_get : ∀ {xs : List AV} {vs : List Value}, xs.length = vs.length → (∀ (i : Nat) (x : AV) (v : Value), xs[i]? = some x → vs[i]? = some v → VRep w ok rows β x v) → VReps w ok rows β xs vs
  | [], [], _, _ => rfl
  | x :: xs, v :: vs, hl, h => ⟨v, vs, rfl, h 0 x v rfl rfl, VReps.of_get (by simpa using hl) fun i a b ha hb => h (i + 1) a b (by simpa using ha) (by simpa using hb)⟩
  | [], _ :: _, hl, _ => by simp at hl
  | _ :: _, [], hl, _ => by simp at hl
theorem VReps.append {xs ys : List AV} {vs us : List Value} (h : VReps w ok rows β xs vs) (k : VReps w ok rows β ys us) : VReps w ok rows β (xs ++ ys) (vs ++ us) := by
  induction xs generalizing vs with
  | nil => rw [show vs = [] from h]; exact k
  | cons x xs ih => obtain ⟨v, vs', rfl, h1, h2⟩ := h; exact ⟨v, vs' ++ us, rfl, h1, ih h2⟩
theorem VReps.take {xs : List AV} {vs : List Value} (h : VReps w ok rows β xs vs) (n : Nat) : VReps w ok rows β (xs.take n) (vs.take n) := by
  induction xs generalizing vs n with
  | nil => rw [show vs = [] from h]; simp [VReps]
  | cons x xs ih =>
    obtain ⟨v, vs', rfl, h1, h2⟩ := h
    cases n with
    | zero => simp [VReps]
    | succ n => exact ⟨v, vs'.take n, by simp, h1, ih h2 n⟩
theorem VReps.drop {xs : List AV} {vs : List Value} (h : VReps w ok rows β xs vs) (n : Nat) : VReps w ok rows β (xs.drop n) (vs.drop n) := by
  induction xs generalizing vs n with
  | nil => rw [show vs = [] from h]; simp [VReps]
  | cons x xs ih =>
    obtain ⟨v, vs', rfl, h1, h2⟩ := h
    cases n with
    | zero => exact ⟨v, vs', by simp, h1, h2⟩
    | succ n => exact ih h2 n
theorem VReps.set {xs : List AV} {vs : List Value} (h : VReps w ok rows β xs vs) (i : Nat) {x : AV} {v : Value} (hx : VRep w ok rows β x v) : VReps w ok rows β (xs.set i x) (vs.set i v) := by
  induction xs generalizing vs i with
  | nil => rw [show vs = [] from h]; simp [VReps]
  | cons y xs ih =>
    obtain ⟨u, vs', rfl, h1, h2⟩ := h
    cases i with
    | zero => exact ⟨v, vs', by simp, hx, h2⟩
    | succ i => exact ⟨u, vs'.set i v, by simp, h1, ih h2 i⟩
theorem MReps.get {xs : List AV} {b o : Nat} (h : MReps w ok rows β xs b o) {i : Nat} {x : AV} (hx : xs[i]? = some x) : ∃ v, w.cell? ⟨b, o + i, none⟩ = some v ∧ VRep w ok rows β x v := by
  induction xs generalizing o i with
  | nil => simp at hx
  | cons y xs ih =>
    obtain ⟨⟨u, hu, hr⟩, hs⟩ := h
    cases i with
    | zero => simp at hx; subst hx; exact ⟨u, hu, hr⟩
    | succ i =>
      simp only [List.getElem?_cons_succ] at hx
      obtain ⟨v, hv, h2⟩ := ih hs hx
      exact ⟨v, by rw [← hv]; congr 2; omega, h2⟩
theorem MReps.of_get {xs : List AV} {b o : Nat} (h : ∀ (i : Nat) (x : AV), xs[i]? = some x → ∃ v, w.cell? ⟨b, o + i, none⟩ = some v ∧ VRep w ok rows β x v) : MReps w ok rows β xs b o := by
  induction xs generalizing o with
  | nil => trivial
  | cons y xs ih =>
    obtain ⟨v, hv, hr⟩ := h 0 y rfl
    refine ⟨⟨v, by simpa using hv, hr⟩, ih fun i x hx => ?_⟩
    obtain ⟨v, hv, hr⟩ := h (i + 1) x (by simpa using hx)
    exact ⟨v, by rw [← hv]; congr 2; omega, hr⟩
theorem MReps.take {xs : List AV} {b o : Nat} (h : MReps w ok rows β xs b o) (n : Nat) : MReps w ok rows β (xs.take n) b o :=
  MReps.of_get fun i x hx => h.get (by rw [List.getElem?_take] at hx; split at hx <;> simp_all)
theorem MReps.drop {xs : List AV} {b o : Nat} (h : MReps w ok rows β xs b o) (n : Nat) : MReps w ok rows β (xs.drop n) b (o + n) :=
  MReps.of_get fun i x hx => by
    rw [List.getElem?_drop] at hx
    obtain ⟨v, hv, hr⟩ := h.get hx
    exact ⟨v, by rw [← hv]; congr 2; omega, hr⟩
/-- The values in a row's cells. -/
theorem MReps.vals {xs : List AV} {b o : Nat} (h : MReps w ok rows β xs b o) : ∃ vs : List Value, VReps w ok rows β xs vs ∧ ∀ i v, vs[i]? = some v → w.cell? ⟨b, o + i, none⟩ = some v := by
  induction xs generalizing o with
  | nil => exact ⟨[], rfl, fun i v hv => by simp at hv⟩
  | cons y xs ih =>
    obtain ⟨⟨u, hu, hr⟩, hs⟩ := h
    obtain ⟨vs, h1, h2⟩ := ih hs
    refine ⟨u :: vs, ⟨u, vs, rfl, hr, h1⟩, fun i v hv => ?_⟩
    cases i with
    | zero => simp at hv; subst hv; exact hu
    | succ i => simp only [List.getElem?_cons_succ] at hv; rw [← h2 i v hv]; congr 2; omega
theorem MReps.of_vals {xs : List AV} {vs : List Value} (h : VReps w ok rows β xs vs) {b o : Nat} (hc : ∀ i v, vs[i]? = some v → w.cell? ⟨b, o + i, none⟩ = some v) : MReps w ok rows β xs b o :=
  MReps.of_get fun i x hx => by obtain ⟨v, hv, hr⟩ := h.get hx; exact ⟨v, hc i v hv, hr⟩
end lists
def okN (w0 : World) (ok0 : Nat → Prop) (B : Option Nat) (rows : List Row) (β : Nat → Nat) (k : Nat) : Prop :=
  ((ok0 k ∧ k < w0.heap.size) ∨ w0.heap.size ≤ k ∨ B = some k) ∧ ∀ r row, rows[r]? = some row → row.hot = true → β r ≠ k
structure SR (w0 : World) (ok0 : Nat → Prop) (B : Option Nat) (β : Nat → Nat) (st : St) (a : Act) (w : World) : Prop where
  defers : a.defers = []
  tmps : VReps w (okN w0 ok0 B st.rows β) st.rows β st.tmps a.tmps.toList
  row : ∀ r row, st.rows[r]? = some row → (∃ c e, w.heap[β r]? = some (.cells c e (0, 0))) ∧ MReps w (okN w0 ok0 B st.rows β) st.rows β row.cells (β r) 0 ∧ (B = some (β r) ∨ w0.heap.size ≤ β r)
  inj : ∀ r r' row row', st.rows[r]? = some row → st.rows[r']? = some row' → β r = β r' → r = r'
  os : w.os = w0.os
  tape : w.tape = w0.tape
  output : w.output = w0.output
  size : w0.heap.size ≤ w.heap.size
  block : ∀ k, k < w0.heap.size → B ≠ some k → w.heap[k]? = w0.heap[k]?
  home : ∀ b, B = some b → ∃ row, st.rows[0]? = some row ∧ (row.ver = 0 → β 0 = b ∧ ∀ c e, w0.heap[b]? = some (.cells c e (0, 0)) → ∃ c' e', w.heap[b]? = some (.cells c' e' (0, 0)) ∧ c.size ≤ c'.size)
def SRep (w0 : World) (ok0 : Nat → Prop) (B : Option Nat) (st : St) (a : Act) (w : World) : Prop := ∃ β, SR w0 ok0 B β st a w
def St.get (s : St) (t : Nat) : AV := s.tmps.getD t .any
def St.put (s : St) (d : Option Nat) (v : AV) : St := match d with | some t => { s with tmps := s.tmps.set t v } | none => s
section state
variable {w0 : World} {ok0 : Nat → Prop} {B : Option Nat} {β : Nat → Nat} {st : St} {a : Act} {w : World}
theorem heap_lt {w : World} {k : Nat} {o : Obj} (h : w.heap[k]? = some o) : k < w.heap.size := (Array.getElem?_eq_some_iff.1 h).1
theorem SR.lt (h : SR w0 ok0 B β st a w) {r : Nat} {row : Row} (hr : st.rows[r]? = some row) : β r < w.heap.size := by
  obtain ⟨⟨c, e, hc⟩, _⟩ := h.row r row hr
  exact heap_lt hc
theorem SR.get (h : SR w0 ok0 B β st a w) (t : Nat) : VRep w (okN w0 ok0 B st.rows β) st.rows β (st.get t) (a.tmps.getD t undef) := by
  unfold St.get
  cases hx : st.tmps[t]? with
  | none => simp [List.getD, hx, VRep]
  | some x =>
    obtain ⟨v, hv, hr⟩ := h.tmps.get hx
    have hv' : a.tmps[t]? = some v := by simpa using hv
    simp [List.getD, hx, hv', hr]
theorem SR.put (h : SR w0 ok0 B β st a w) (d : Option Nat) {x : AV} {v : Value} (hx : VRep w (okN w0 ok0 B st.rows β) st.rows β x v) : SR w0 ok0 B β (st.put d x) (a.put d v) w := by
  cases d with
  | none => exact h
  | some d => exact ⟨h.defers, by simpa [St.put, Act.put] using h.tmps.set d hx, h.row, h.inj, h.os, h.tape, h.output, h.size, h.block, h.home⟩
/-- What holds of the blocks when nothing of the old ones is changed. -/
theorem SR.monoBelow (h : SR w0 ok0 B β st a w) {w' : World} (hb : Below w.heap.size w w') : Mono w (okN w0 ok0 B st.rows β) st.rows β w' (okN w0 ok0 B st.rows β) st.rows β where
  cell b o u _ hc := by rw [← hc]; exact hb.cell (p := ⟨b, o, none⟩) (World.block_lt_of_cell? w _ hc)
  ok b hb _ := hb
  row r row hr := ⟨row, hr, Nat.le_refl _, fun _ => ⟨rfl, fun c e hc => ⟨c, e, by rw [hb.block _ (heap_lt hc)]; exact hc, Nat.le_refl _⟩⟩⟩
theorem SR.keep (h : SR w0 ok0 B β st a w) {w' : World} (hb : Below w.heap.size w w') : SR w0 ok0 B β st a w' where
  defers := h.defers
  tmps := VReps.mono (h.monoBelow hb) _ _ h.tmps
  row r row hr := by
    obtain ⟨⟨c, e, hc⟩, hm, hB⟩ := h.row r row hr
    refine ⟨⟨c, e, by rw [hb.block _ (heap_lt hc)]; exact hc⟩, ?_, hB⟩
    refine MReps.of_get fun i x hx => ?_
    obtain ⟨v, hv, hr⟩ := hm.get hx
    exact ⟨v, by rw [← hv]; exact hb.cell (p := ⟨β r, 0 + i, none⟩) (heap_lt hc), VRep.mono (h.monoBelow hb) _ _ hr⟩
  inj := h.inj
  os := hb.os.trans h.os
  tape := hb.tape.trans h.tape
  output := hb.output.trans h.output
  size := Nat.le_trans h.size hb.size
  block k hk hB := (hb.block k (Nat.lt_of_lt_of_le hk h.size)).trans (h.block k hk hB)
  home b hb' := by
    obtain ⟨row, h0, h1⟩ := h.home b hb'
    exact ⟨row, h0, fun hv => ⟨(h1 hv).1, fun c e hc => by
      obtain ⟨c', e', hc', hle⟩ := (h1 hv).2 c e hc
      exact ⟨c', e', by rw [hb.block _ (heap_lt hc')]; exact hc', hle⟩⟩⟩
/-- A new block that is a row of the frame's own. -/
theorem SR.push (h : SR w0 ok0 B β st a w) {c : Array Value} {e : TypeId} {ver : Nat} {hot : Bool} {cells : List AV} {vs : List Value}
    (hc : VReps w (okN w0 ok0 B st.rows β) st.rows β cells vs) (hvs : ∀ (i : Nat) (v : Value), vs[i]? = some v → c[i]? = some v) :
    SR w0 ok0 B (fun r => if r = st.rows.length then w.heap.size else β r) { st with rows := st.rows ++ [⟨ver, hot, cells⟩] } a (w.alloc (.cells c e)) ∧
    Mono w (okN w0 ok0 B st.rows β) st.rows β (w.alloc (.cells c e)) (okN w0 ok0 B (st.rows ++ [⟨ver, hot, cells⟩]) (fun r => if r = st.rows.length then w.heap.size else β r)) (st.rows ++ [⟨ver, hot, cells⟩]) (fun r => if r = st.rows.length then w.heap.size else β r) := by
  have hb : Below w.heap.size w (w.alloc (.cells c e)) := (Below.refl _ _).alloc (Nat.le_refl _) _
  have hold : ∀ r row, st.rows[r]? = some row → r ≠ st.rows.length := fun r row hr he => by subst he; simp at hr
  have hm : Mono w (okN w0 ok0 B st.rows β) st.rows β (w.alloc (.cells c e)) (okN w0 ok0 B (st.rows ++ [⟨ver, hot, cells⟩]) (fun r => if r = st.rows.length then w.heap.size else β r)) (st.rows ++ [⟨ver, hot, cells⟩]) (fun r => if r = st.rows.length then w.heap.size else β r) := by
    refine ⟨fun b o u _ hc => by rw [← hc]; exact hb.cell (p := ⟨b, o, none⟩) (World.block_lt_of_cell? w _ hc), fun b hok hlt => ⟨hok.1, fun r row hr hh => ?_⟩, fun r row hr => ?_⟩
    · by_cases he : r = st.rows.length
      · simp only [he, if_true]; omega
      · simp only [he, if_false]
        rw [List.getElem?_append_left (by
          have := (List.getElem?_eq_some_iff.1 hr).1
          simp only [List.length_append, List.length_singleton] at this
          omega)] at hr
        exact hok.2 r row hr hh
    · refine ⟨row, ?_, Nat.le_refl _, fun _ => ⟨by simp [hold r row hr], fun c' e' hc' => ⟨c', e', ?_, Nat.le_refl _⟩⟩⟩
      · rw [List.getElem?_append_left (List.getElem?_eq_some_iff.1 hr).1]; exact hr
      · rw [hb.block _ (heap_lt hc')]; exact hc'
  refine ⟨⟨h.defers, VReps.mono hm _ _ h.tmps, fun r row hr => ?_, fun r r' row row' hr hr' he => ?_, h.os, h.tape, h.output, Nat.le_trans h.size hb.size, fun k hk hB => (hb.block k (Nat.lt_of_lt_of_le hk h.size)).trans (h.block k hk hB), fun b hb' => ?_⟩, hm⟩
  · by_cases he : r = st.rows.length
    · subst he
      simp at hr
      subst hr
      simp only [if_true]
      refine ⟨⟨c, e, heap_alloc_new w _⟩, ?_, .inr h.size⟩
      refine MReps.of_vals (VReps.mono hm _ _ hc) fun i v hv => ?_
      rw [cell_of_row _ _ _ c e (0, 0) (heap_alloc_new w _), Nat.zero_add]
      exact hvs i v hv
    · have hr' : st.rows[r]? = some row := by
        rw [List.getElem?_append_left (by
          have := (List.getElem?_eq_some_iff.1 hr).1
          simp only [List.length_append, List.length_singleton] at this
          omega)] at hr
        exact hr
      simp only [he, if_false]
      obtain ⟨⟨c', e', hc'⟩, hmr, hB⟩ := h.row r row hr'
      refine ⟨⟨c', e', by rw [hb.block _ (heap_lt hc')]; exact hc'⟩, ?_, hB⟩
      refine MReps.of_get fun i x hx => ?_
      obtain ⟨v, hv, hr⟩ := hmr.get hx
      exact ⟨v, by rw [← hv]; exact hb.cell (p := ⟨β r, 0 + i, none⟩) (heap_lt hc'), VRep.mono hm _ _ hr⟩
  · have key : ∀ q rw, (st.rows ++ [(⟨ver, hot, cells⟩ : Row)])[q]? = some rw → q ≠ st.rows.length → st.rows[q]? = some rw := fun q rw hq hne => by
      rw [List.getElem?_append_left (by
        have := (List.getElem?_eq_some_iff.1 hq).1
        simp only [List.length_append, List.length_singleton] at this
        omega)] at hq
      exact hq
    by_cases h1 : r = st.rows.length <;> by_cases h2 : r' = st.rows.length
    · omega
    · simp only [h1, if_true, h2, if_false] at he
      have := h.lt (key r' row' hr' h2)
      omega
    · simp only [h1, if_false, h2, if_true] at he
      have := h.lt (key r row hr h1)
      omega
    · simp only [h1, if_false, h2, if_false] at he
      exact h.inj r r' row row' (key r row hr h1) (key r' row' hr' h2) he
  · obtain ⟨row, h0, h1⟩ := h.home b hb'
    have hlt := (List.getElem?_eq_some_iff.1 h0).1
    exact ⟨row, by rw [List.getElem?_append_left hlt]; exact h0, fun hv => ⟨by rw [if_neg (by omega)]; exact (h1 hv).1, fun c e hc => by
      obtain ⟨c', e', hc', hle⟩ := (h1 hv).2 c e hc
      exact ⟨c', e', by rw [hb.block _ (heap_lt hc')]; exact hc', hle⟩⟩⟩
theorem set_get {l : List Row} {r q : Nat} {x y : Row} (h : (l.set r x)[q]? = some y) : (q = r ∧ y = x ∧ r < l.length) ∨ (q ≠ r ∧ l[q]? = some y) := by
  rw [List.getElem?_set] at h
  by_cases he : r = q
  · subst he
    by_cases hl : r < l.length
    · simp [hl] at h; exact .inl ⟨rfl, h.symm, hl⟩
    · simp [hl] at h
  · simp [he] at h; exact .inr ⟨fun e => he e.symm, h⟩
/-- A row of the frame's own is written, or lies in another block from now on. -/
theorem SR.renew (h : SR w0 ok0 B β st a w) {r : Nat} {row : Row} (hr : st.rows[r]? = some row) (hhot : row.hot = true) {w' : World} {g ver : Nat} {c' : Array Value} {e : TypeId}
    (hver : row.ver ≤ ver) (hg : g = β r ∨ w.heap.size ≤ g) (hgc : w'.heap[g]? = some (.cells c' e (0, 0)))
    (hsame : ver = row.ver → g = β r ∧ ∀ c e, w.heap[β r]? = some (.cells c e (0, 0)) → c.size ≤ c'.size)
    (hblk : ∀ k, k < w.heap.size → k ≠ β r → w'.heap[k]? = w.heap[k]?) (hos : w'.os = w.os) (htape : w'.tape = w.tape) (hout : w'.output = w.output) (hsize : w.heap.size ≤ w'.heap.size)
    {cells : List AV} {vs : List Value} (hc : VReps w (okN w0 ok0 B st.rows β) st.rows β cells vs) (hvs : ∀ (i : Nat) (v : Value), vs[i]? = some v → c'[i]? = some v) :
    SR w0 ok0 B (fun q => if q = r then g else β q) { st with rows := st.rows.set r ⟨ver, true, cells⟩ } a w' ∧
    Mono w (okN w0 ok0 B st.rows β) st.rows β w' (okN w0 ok0 B (st.rows.set r ⟨ver, true, cells⟩) (fun q => if q = r then g else β q)) (st.rows.set r ⟨ver, true, cells⟩) (fun q => if q = r then g else β q) := by
  have hlen : r < st.rows.length := (List.getElem?_eq_some_iff.1 hr).1
  have hm : Mono w (okN w0 ok0 B st.rows β) st.rows β w' (okN w0 ok0 B (st.rows.set r ⟨ver, true, cells⟩) (fun q => if q = r then g else β q)) (st.rows.set r ⟨ver, true, cells⟩) (fun q => if q = r then g else β q) := by
    refine ⟨fun b o u hok hcell => ?_, fun b hok hlt => ⟨hok.1, fun q rw hq hh => ?_⟩, fun q rw hq => ?_⟩
    · rw [← hcell]
      have hlt : b < w.heap.size := World.block_lt_of_cell? w _ hcell
      exact World.cell?_of_block (a := ⟨b, o, none⟩) (hblk b hlt (fun he => hok.2 r row hr hhot he.symm))
    · rcases set_get hq with ⟨rfl, _, _⟩ | ⟨hne, hq'⟩
      · simp only [if_true]
        rcases hg with rfl | hg
        · exact hok.2 q row hr hhot
        · omega
      · simp only [hne, if_false]
        exact hok.2 q rw hq' hh
    · by_cases hqr : q = r
      · subst hqr
        have : rw = row := by rw [hr] at hq; exact (Option.some.inj hq).symm
        subst this
        refine ⟨⟨ver, true, cells⟩, by simp [hlen], hver, fun he => ?_⟩
        obtain ⟨h1, h2⟩ := hsame he
        subst h1
        exact ⟨by simp, fun c e' hce => ⟨c', e, hgc, h2 c e' hce⟩⟩
      · refine ⟨rw, by rw [List.getElem?_set_ne (Ne.symm hqr)]; exact hq, Nat.le_refl _, fun _ => ⟨by simp [hqr], fun c e' hce => ⟨c, e', ?_, Nat.le_refl _⟩⟩⟩
        rw [hblk _ (heap_lt hce) (fun he => hqr (h.inj q r rw row hq hr he))]
        exact hce
  refine ⟨⟨h.defers, VReps.mono hm _ _ h.tmps, fun q rw hq => ?_, fun q q' rw rw' hq hq' he => ?_, hos.trans h.os, htape.trans h.tape, hout.trans h.output, Nat.le_trans h.size hsize, fun k hk hB => ?_, fun b hb' => ?_⟩, hm⟩
  · rcases set_get hq with ⟨rfl, rfl, _⟩ | ⟨hne, hq'⟩
    · simp only [if_true]
      refine ⟨⟨c', e, hgc⟩, ?_, ?_⟩
      · refine MReps.of_vals (VReps.mono hm _ _ hc) fun i v hv => ?_
        rw [cell_of_row _ _ _ c' e (0, 0) hgc, Nat.zero_add]
        exact hvs i v hv
      · rcases hg with rfl | hg
        · exact (h.row q row hr).2.2
        · exact .inr (Nat.le_trans h.size hg)
    · simp only [hne, if_false]
      obtain ⟨⟨c, e', hce⟩, hmr, hB⟩ := h.row q rw hq'
      have hkeep := hblk _ (heap_lt hce) (fun he => hne (h.inj q r rw row hq' hr he))
      refine ⟨⟨c, e', by rw [hkeep]; exact hce⟩, ?_, hB⟩
      refine MReps.of_get fun i x hx => ?_
      obtain ⟨v, hv, hvr⟩ := hmr.get hx
      exact ⟨v, by rw [← hv]; exact World.cell?_of_block (a := ⟨β q, 0 + i, none⟩) hkeep, VRep.mono hm _ _ hvr⟩
  · rcases set_get hq with ⟨rfl, _, _⟩ | ⟨hne, hq1⟩ <;> rcases set_get hq' with ⟨rfl, _, _⟩ | ⟨hne', hq1'⟩
    · rfl
    · simp only [if_true, hne', if_false] at he
      rcases hg with rfl | hg
      · exact h.inj _ _ _ _ hr hq1' he
      · have := h.lt hq1'; omega
    · simp only [if_true, hne, if_false] at he
      rcases hg with rfl | hg
      · exact h.inj _ _ _ _ hq1 hr he
      · have := h.lt hq1; omega
    · simp only [hne, hne', if_false] at he
      exact h.inj _ _ _ _ hq1 hq1' he
  · rw [hblk k (Nat.lt_of_lt_of_le hk h.size) (fun he => ?_)]
    · exact h.block k hk hB
    · rcases (h.row r row hr).2.2 with hB' | hB'
      · exact hB (by rw [hB', he])
      · omega
  · obtain ⟨row0, h0, h1⟩ := h.home b hb'
    by_cases h00 : r = 0
    · subst h00
      obtain rfl : row0 = row := Option.some.inj (h0.symm.trans hr)
      refine ⟨⟨ver, true, cells⟩, by simp [hlen], fun hv => ?_⟩
      have hv' : ver = 0 := hv
      obtain ⟨hgb, hgs⟩ := hsame (by omega)
      obtain ⟨h2, h3⟩ := h1 (by omega)
      refine ⟨by rw [if_pos rfl, hgb]; exact h2, fun c e' hc0 => ?_⟩
      obtain ⟨c1, e1, hc1, hle⟩ := h3 c e' hc0
      rw [← h2] at hc1
      have := hgs c1 e1 hc1
      exact ⟨c', e, by rw [← h2, ← hgb]; exact hgc, by omega⟩
    · refine ⟨row0, by rw [List.getElem?_set_ne h00]; exact h0, fun hv => ⟨by rw [if_neg (fun e => h00 e.symm)]; exact (h1 hv).1, fun c e' hc0 => ?_⟩⟩
      obtain ⟨c1, e1, hc1, hle⟩ := (h1 hv).2 c e' hc0
      have hne : b ≠ β r := fun he => h00 (h.inj r 0 row row0 hr h0 (by rw [(h1 hv).1, he]))
      exact ⟨c1, e1, by rw [hblk b (heap_lt hc1) hne]; exact hc1, hle⟩
/-- A row is written no more. -/
theorem SR.cool (h : SR w0 ok0 B β st a w) (r : Nat) : SR w0 ok0 B β { st with rows := st.rows.modify r fun row => { row with hot := false } } a w := by
  have hget : ∀ (q : Nat) (rw : Row), (st.rows.modify r fun row => { row with hot := false })[q]? = some rw → ∃ rw' : Row, st.rows[q]? = some rw' ∧ rw'.ver = rw.ver ∧ rw'.cells = rw.cells ∧ (rw.hot = true → rw'.hot = true) := fun q rw hq => by
    rw [List.getElem?_modify] at hq
    cases hx : st.rows[q]? with
    | none => simp [hx] at hq
    | some y =>
      simp [hx] at hq
      refine ⟨y, rfl, ?_⟩
      subst hq
      split <;> simp
  have hput : ∀ (q : Nat) (rw : Row), st.rows[q]? = some rw → ∃ rw' : Row, (st.rows.modify r fun row => { row with hot := false })[q]? = some rw' ∧ rw'.ver = rw.ver := fun q rw hq => by
    rw [List.getElem?_modify, hq]
    exact ⟨_, rfl, by split <;> rfl⟩
  have hm : Mono w (okN w0 ok0 B st.rows β) st.rows β w (okN w0 ok0 B (st.rows.modify r fun row => { row with hot := false }) β) (st.rows.modify r fun row => { row with hot := false }) β :=
    ⟨fun _ _ _ _ hc => hc, fun b hb _ => ⟨hb.1, fun q rw hq hh => by obtain ⟨rw', h1, _, _, h4⟩ := hget q rw hq; exact hb.2 q rw' h1 (h4 hh)⟩,
     fun q rw hq => by obtain ⟨rw', h1, h2⟩ := hput q rw hq; exact ⟨rw', h1, by omega, fun _ => ⟨rfl, fun c e hc => ⟨c, e, hc, Nat.le_refl _⟩⟩⟩⟩
  refine ⟨h.defers, VReps.mono hm _ _ h.tmps, fun q rw hq => ?_, fun q q' rw rw' hq hq' he => ?_, h.os, h.tape, h.output, h.size, h.block, fun b hb => by obtain ⟨row, h1, h2⟩ := h.home b hb; obtain ⟨row', h3, h4⟩ := hput 0 row h1; exact ⟨row', h3, fun hv => h2 (by omega)⟩⟩
  · obtain ⟨rw', h1, h2, h3, _⟩ := hget q rw hq
    obtain ⟨hb, hmr, hB⟩ := h.row q rw' h1
    rw [h3] at hmr
    refine ⟨hb, MReps.of_get fun i x hx => ?_, hB⟩
    obtain ⟨v, hv, hvr⟩ := hmr.get hx
    exact ⟨v, hv, VRep.mono hm _ _ hvr⟩
  · obtain ⟨y, h1, _⟩ := hget q rw hq
    obtain ⟨y', h1', _⟩ := hget q' rw' hq'
    exact h.inj q q' y y' h1 h1' he
end state
end Go.Ax
set_option linter.unusedVariables false
set_option linter.unusedSimpArgs false
namespace Go.Ax
open Go.RowKit
inductive TD where
  | bool
  | int (k : IntKind)
  | slice (e : TypeId)
  | struct (fs : List (Nat × TypeId))
  | array (n : Nat) (e : TypeId)
  | other
  deriving Inhabited
structure TV where
  d : TD
  size : Nat
  bytes : Nat
  z : Value
  deriving Inhabited
def tdOf : TypeDesc → TD
  | .bool => .bool
  | .int k => .int k
  | .slice e => .slice e
  | .struct fs => .struct (fs.toList.map fun f => (f.offset, f.type))
  | .array n e => .array n e
  | _ => .other
def tvOf (P : Program) (t : TypeId) : Option TV :=
  match P.info? t, P.underlying t with
  | some i, some d => i.zero.map fun z => ⟨tdOf d, i.size, i.bytes, z⟩
  | _, _ => none
def absC : Value → AV
  | .int k n => .int k n
  | .bool b => .bool b
  | .slice a 0 0 => .emp
  | .agg _ => .any
  | .tuple _ => .any
  | v => .lit v
/-- A constant. -/
def absV : Value → AV
  | .agg cs => .agg (cs.toList.map absC)
  | v => absC v
def eval (GE : Nat → Option (List AV)) (st : St) : Operand → AV
  | .tmp t => st.get t
  | .const v => absV v
  | .global g => match GE g with | some cs => .lptr cs | none => .any
  | .func f => .lit (.func (.func f) #[] #[])
def vcells : AV → Option (List AV)
  | .agg cs => some cs
  | .tup _ => none
  | .any => none
  | v => some [v]
def cell1 : AV → Bool
  | .agg _ => false
  | .tup _ => false
  | .any => false
  | _ => true
def overwrite (cells : List AV) (off : Nat) (vs : List AV) : List AV :=
  match vs with
  | [v] => cells.set off v
  | _ => cells.take off ++ vs ++ cells.drop (off + vs.length)
def bits (op : BinOp) (k : IntKind) (x y : Int) : Int :=
  k.wrap (match op with
    | .and => (BitVec.ofInt k.bits x &&& BitVec.ofInt k.bits y).toNat
    | .or => (BitVec.ofInt k.bits x ||| BitVec.ofInt k.bits y).toNat
    | .xor => (BitVec.ofInt k.bits x ^^^ BitVec.ofInt k.bits y).toNat
    | _ => (BitVec.ofInt k.bits x &&& ~~~ BitVec.ofInt k.bits y).toNat)
def abin (d : TD) (op : BinOp) (x y : AV) : Option AV :=
  match x, y with
  | .int k a, .int k' b =>
    match op with
    | .shl => if 0 ≤ b then some (.int k (k.wrap (a * 2 ^ (min b.toNat k.bits)))) else none
    | .shr => if 0 ≤ b then some (.int k (a.fdiv (2 ^ (min b.toNat k.bits)))) else none
    | .add => if k = k' then some (.int k (k.wrap (a + b))) else none
    | .sub => if k = k' then some (.int k (k.wrap (a - b))) else none
    | .mul => if k = k' then some (.int k (k.wrap (a * b))) else none
    | .quo => if k = k' ∧ b ≠ 0 then some (.int k (k.wrap (a.tdiv b))) else none
    | .rem => if k = k' ∧ b ≠ 0 then some (.int k (a.tmod b)) else none
    | .and => if k = k' then some (.int k (bits .and k a b)) else none
    | .or => if k = k' then some (.int k (bits .or k a b)) else none
    | .xor => if k = k' then some (.int k (bits .xor k a b)) else none
    | .andNot => if k = k' then some (.int k (bits .andNot k a b)) else none
    | .eql => if k = k' then some (.bool (a == b)) else none
    | .neq => if k = k' then some (.bool (a != b)) else none
    | .lss => if k = k' then some (.bool (decide (a < b))) else none
    | .leq => if k = k' then some (.bool (decide (a ≤ b))) else none
    | .gtr => if k = k' then some (.bool (decide (b < a))) else none
    | .geq => if k = k' then some (.bool (decide (b ≤ a))) else none
  | .bool a, .bool b =>
    match d, op with
    | .bool, .eql => some (.bool (a == b))
    | .bool, .neq => some (.bool (a != b))
    | _, _ => none
  | _, _ => none
def aun (op : UnOp) (x : AV) : Option AV :=
  match op, x with
  | .not, .bool b => some (.bool !b)
  | .neg, .int k n => some (.int k (k.wrap (0 - n)))
  | .xor, .int k n => some (.int k (bits .xor k (if k.signed then -1 else k.max) n))
  | _, _ => none
def cellsAt (rows : List Row) : AV → Option (List AV)
  | .lptr cs => some cs
  | .ptr r ver off => match rows[r]? with
    | some row => if row.ver = ver then some (row.cells.drop off) else none
    | none => none
  | _ => none
def isAggD : TD → Bool
  | .struct _ => true
  | .array _ _ => true
  | _ => false
def readAs (tv : TV) (cs : List AV) : Option AV :=
  if isAggD tv.d then (if tv.size ≤ cs.length then some (.agg (cs.take tv.size)) else none) else cs[0]?
def zeros (tv : TV) : List AV := tv.z.cells.toList.map absC
/-- The elements of a slice: their number and their cells. -/
def elems (rows : List Row) : AV → Option (Nat × List AV)
  | .lst n cs => some (n, cs)
  | .emp => some (0, [])
  | .own r ver off n sz => match rows[r]? with
    | some row => if row.ver = ver ∧ off + n * sz ≤ row.cells.length then some (n, (row.cells.drop off).take (n * sz)) else none
    | none => none
  | _ => none
def fillA (place : Nat → Option (Nat × Nat)) (cells : List AV) : List (Nat × AV) → Option (List AV)
  | [] => some cells
  | (i, v) :: rest => match place i, vcells v with
    | some (off, size), some vs => if vs.length = size ∧ off + size ≤ cells.length then fillA place (overwrite cells off vs) rest else none
    | _, _ => none
def fieldPlaceA (P : Program) (fs : List (Nat × TypeId)) (i : Nat) : Option (Nat × Nat) :=
  match fs[i]? with
  | some (off, t) => (tvOf P t).map fun tv => (off, tv.size)
  | none => none
def placesA (P : Program) : List (Nat × TypeId) → Option (List (Nat × Nat))
  | [] => some []
  | (off, t) :: fs => match tvOf P t, placesA P fs with
    | some tv, some r => some ((off, tv.size) :: r)
    | _, _ => none
def asNat : AV → Option Nat
  | .int _ n => if 0 ≤ n then some n.toNat else none
  | _ => none
def boundA (GE : Nat → Option (List AV)) (st : St) (n : Nat) : Option Operand → Option Nat
  | some q => asNat (eval GE st q)
  | none => some n
def asliceA (sz : Nat) (x : AV) (l h : Nat) : Option AV :=
  match x with
  | .lst n cs => if l ≤ h ∧ h ≤ n then some (.lst (h - l) ((cs.drop (l * sz)).take ((h - l) * sz))) else none
  | .emp => if l = 0 ∧ h = 0 then some .emp else none
  | .own r ver off n sz' => if sz' = sz ∧ l ≤ h ∧ h ≤ n then
      (if l = 0 then some (.own r ver off h sz) else if l < h then some (.own r ver (off + l * sz) (h - l) sz) else some (.lst 0 [])) else none
  | _ => none
def lenA : AV → Option Nat
  | .lst n _ => some n
  | .emp => some 0
  | .own _ _ _ n _ => some n
  | _ => none
def foldMM (f : Int → Int → Int) : AV → List AV → Option AV
  | .int k x, [] => some (.int k x)
  | .int k x, .int _ y :: rest => foldMM f (.int k (f x y)) rest
  | _, _ => none
def appendA (tv : TV) (st : St) (s x : AV) : Option (St × AV) :=
  match elems st.rows x with
  | some (m, cs) =>
    if cs.length = m * tv.size ∧ 0 < tv.size ∧ cs.all cell1 then
      match s with
      | .emp => if m = 0 then some (st, .emp) else if m * tv.bytes ≤ 140737488355328 ∧ m ≤ 9223372036854775807 then
          some ({ st with rows := st.rows ++ [⟨0, true, cs⟩] }, .own st.rows.length 0 0 m tv.size) else none
      | .own r ver off n sz => match st.rows[r]? with
        | some row => if row.ver = ver ∧ row.hot = true ∧ off = 0 ∧ sz = tv.size ∧ row.cells.length = n * sz ∧ (n + m) * tv.bytes ≤ 140737488355328 ∧ n + m ≤ 9223372036854775807 then
            some ({ st with rows := st.rows.set r ⟨ver + 1, true, row.cells ++ cs⟩ }, .own r (ver + 1) 0 (n + m) sz) else none
        | none => none
      | _ => none
    else none
  | none => none
/-- One operation that is no call of a Go function. -/
def aexec (P : Program) (GE : Nat → Option (List AV)) (st : St) (op : Op) : Option (St × AV) :=
  match op with
  | .move x => some (st, eval GE st x)
  | .assign x => some (st, eval GE st x)
  | .pick c a b => match eval GE st c with
    | .bool t => some (st, if t then eval GE st a else eval GE st b)
    | _ => none
  | .alloc e => match tvOf P e with
    | some tv => some ({ st with rows := st.rows ++ [⟨0, true, zeros tv⟩] }, .ptr st.rows.length 0 0)
    | none => none
  | .box e x => match vcells (eval GE st x) with
    | some vs => some ({ st with rows := st.rows ++ [⟨0, true, vs⟩] }, .ptr st.rows.length 0 0)
    | none => none
  | .build t parts => match tvOf P t with
    | some tv => match tv.d with
      | .struct fs => match placesA P fs with
        | some places => (fillA (fun i => places[i]?) (zeros tv) (parts.toList.map fun p => (p.1, eval GE st p.2))).map fun cs => (st, .agg cs)
        | none => none
      | _ => none
    | none => none
  | .buildSlice t len parts => match tvOf P t with
    | some tv => match tv.d with
      | .slice e => match tvOf P e with
        | some etv => if 0 < etv.size ∧ len * etv.size ≤ 16777216 ∧ etv.z.cells.size = etv.size then
            (fillA (fun i => some (i * etv.size, etv.size)) ((List.replicate len (zeros etv)).flatten) (parts.toList.map fun p => (p.1, eval GE st p.2))).map
              fun cs => (st, if len = 0 then .emp else .lst len cs) else none
        | none => none
      | _ => none
    | none => none
  | .load t p => match tvOf P t, cellsAt st.rows (eval GE st p) with
    | some tv, some cs => (readAs tv cs).map fun v => (st, v)
    | _, _ => none
  | .store t p x => match tvOf P t, eval GE st p, vcells (eval GE st x) with
    | some tv, .ptr r ver off, some vs => match st.rows[r]? with
      | some row => if row.ver = ver ∧ row.hot = true ∧ vs.length = tv.size ∧ off + vs.length ≤ row.cells.length ∧ vs.all cell1 then
          some ({ st with rows := st.rows.set r ⟨ver, true, overwrite row.cells off vs⟩ }, .any) else none
      | none => none
    | _, _, _ => none
  | .binOp op t x y _ => match tvOf P t with
    | some tv => (abin tv.d op (eval GE st x) (eval GE st y)).map fun v => (st, v)
    | none => (abin .other op (eval GE st x) (eval GE st y)).map fun v => (st, v)
  | .unOp op _ x => (aun op (eval GE st x)).map fun v => (st, v)
  | .convert src dst x => match tvOf P src, tvOf P dst, eval GE st x with
    | some _, some tv, .int _ n => match tv.d with
      | .int k => some (st, .int k (k.wrap n))
      | _ => none
    | _, _, _ => none
  | .makeSlice t l c => match tvOf P t, eval GE st l, eval GE st c with
    | some tv, .int _ n, .int _ m => match tv.d with
      | .slice e => match tvOf P e with
        | some etv => if 0 < etv.size ∧ n = m ∧ 0 ≤ n ∧ etv.bytes * n ≤ 281474976710656 ∧ n ≤ 9223372036854775807 ∧ etv.z.cells.size = etv.size then
            some ({ st with rows := st.rows ++ [⟨0, true, (List.replicate n.toNat (zeros etv)).flatten⟩] }, .own st.rows.length 0 0 n.toNat etv.size) else none
        | none => none
      | _ => none
    | _, _, _ => none
  | .slice t x lo hi mx => match tvOf P t, lenA (eval GE st x) with
    | some tv, some n => match tv.d with
      | .slice e => match tvOf P e with
        | some etv =>
          match boundA GE st n hi, boundA GE st 0 lo with
          | some h, some l =>
            match mx, hi with
            | none, _ => (asliceA etv.size (eval GE st x) l h).map fun v => (st, v)
            | some o, some _ => match asNat (eval GE st o) with
              | some m => if h ≤ m ∧ m ≤ n then (asliceA etv.size (eval GE st x) l h).map fun v => (st, v) else none
              | none => none
            | some _, none => none
          | _, _ => none
        | none => none
      | _ => none
    | _, _ => none
  | .fieldAddr s p f => match tvOf P s with
    | some tv => match tv.d with
      | .struct fs => match fieldPlaceA P fs f with
        | some (off, size) => if size ≠ 0 then
            (match eval GE st p with
            | .ptr r ver o => match st.rows[r]? with
              | some row => if row.ver = ver then some (st, .ptr r ver (o + off)) else none
              | none => none
            | .lptr cs => some (st, .lptr (cs.drop off))
            | _ => none) else none
        | none => none
      | _ => none
    | none => none
  | .field s x f => match tvOf P s with
    | some tv => match tv.d, eval GE st x with
      | .struct fs, .agg cs => match fs[f]? with
        | some (off, t) => match tvOf P t with
          | some ftv => (readAs ftv (cs.drop off)).map fun v => (st, v)
          | none => none
        | none => none
      | _, _ => none
    | none => none
  | .indexAddr t x i => match tvOf P t, asNat (eval GE st i) with
    | some tv, some j => match tv.d with
      | .slice e => match tvOf P e with
        | some etv => (match eval GE st x with
          | .lst n cs => if j < n ∧ j * etv.size < cs.length then some (st, .lptr (cs.drop (j * etv.size))) else none
          | .own r ver off n sz => match st.rows[r]? with
            | some row => if row.ver = ver ∧ j < n ∧ sz = etv.size then some (st, .ptr r ver (off + j * etv.size)) else none
            | none => none
          | _ => none)
        | none => none
      | .array n e => match tvOf P e with
        | some etv => (match eval GE st x with
          | .lptr cs => if j < n then some (st, .lptr (cs.drop (j * etv.size))) else none
          | _ => none)
        | none => none
      | _ => none
    | _, _ => none
  | .index t x i => match tvOf P t, asNat (eval GE st i), eval GE st x with
    | some tv, some j, .agg cs => match tv.d with
      | .array n e => match tvOf P e with
        | some etv => if j < n then (readAs etv (cs.drop (j * etv.size))).map fun v => (st, v) else none
        | none => none
      | _ => none
    | _, _, _ => none
  | .extract x i => match eval GE st x with
    | .tup vs => (vs[i]?).map fun v => (st, v)
    | _ => none
  | .call c => match c.callee with
    | .builtin .len => match c.args.toList.map (eval GE st), c.argTypes.toList with
      | [x], [t] => match tvOf P t, lenA x with
        | some tv, some n => match tv.d with
          | .slice _ => some (st, .int .i64 n)
          | _ => none
        | _, _ => none
      | _, _ => none
    | .builtin .max => match c.args.toList.map (eval GE st) with
      | x :: rest => (foldMM (fun x y => max x y) x rest).map fun v => (st, v)
      | _ => none
    | .builtin .min => match c.args.toList.map (eval GE st) with
      | x :: rest => (foldMM (fun x y => min x y) x rest).map fun v => (st, v)
      | _ => none
    | .builtin .append => match c.args.toList.map (eval GE st), c.argTypes.toList with
      | [s, x], [t, u] => if t = u then (match tvOf P t with
        | some tv => match tv.d with
          | .slice e => match tvOf P e with
            | some etv => if etv.z.cells.size = etv.size then appendA etv st s x else none
            | none => none
          | _ => none
        | none => none) else none
      | _, _ => none
    | _ => none
  | _ => none
end Go.Ax
set_option linter.unusedVariables false
set_option linter.unusedSimpArgs false
namespace Go.Ax
open Go.RowKit
section
variable {P : Program} {GE : Nat → Option (List AV)} {w0 : World} {ok0 : Nat → Prop} {B : Option Nat} {β : Nat → Nat} {st : St} {a : Act} {w : World}
def GRep (GE : Nat → Option (List AV)) (w : World) (ok : Nat → Prop) : Prop := ∀ g cs, GE g = some cs → cs ≠ [] → ok g ∧ MReps w ok [] (fun _ => 0) cs g 0
theorem SR.mono0 (h : SR w0 ok0 B β st a w) (hB : ∀ k, B = some k → ¬ ok0 k) (rows' : List Row) (β' : Nat → Nat) : Mono w0 ok0 [] (fun _ => 0) w (okN w0 ok0 B st.rows β) rows' β' where
  cell b o u hok hc := by
    rw [← hc]
    exact World.cell?_of_block (a := ⟨b, o, none⟩) (h.block b (World.block_lt_of_cell? w0 _ hc) (fun he => hB b he hok))
  ok b hok hlt := ⟨.inl ⟨hok, hlt⟩, fun r row hr hh he => by
    rcases (h.row r row hr).2.2 with hx | hx
    · rw [he] at hx; exact hB b hx hok
    · omega⟩
  row r row hr := by simp at hr
abbrev VS (w0 : World) (ok0 : Nat → Prop) (B : Option Nat) (β : Nat → Nat) (st : St) (w : World) (x : AV) (v : Value) : Prop := VRep w (okN w0 ok0 B st.rows β) st.rows β x v
theorem VRep_absC (ok : Nat → Prop) (rows : List Row) (w : World) (v : Value) : VRep w ok rows β (absC v) v := by
  unfold absC
  split <;> simp [VRep]
  cases v <;> simp_all [Value.oneCell']
theorem VReps_absC (ok : Nat → Prop) (rows : List Row) (w : World) : ∀ (vs : List Value), VReps w ok rows β (vs.map absC) vs
  | [] => rfl
  | v :: vs => ⟨v, vs, rfl, VRep_absC ok rows w v, VReps_absC ok rows w vs⟩
theorem VRep_absV (ok : Nat → Prop) (rows : List Row) (w : World) (v : Value) : VRep w ok rows β (absV v) v := by
  unfold absV
  split
  · rename_i cs
    exact ⟨cs.toList, by simp, VReps_absC ok rows w cs.toList⟩
  · exact VRep_absC ok rows w v
theorem eval_sound (h : SR w0 ok0 B β st a w) (hB : ∀ k, B = some k → ¬ ok0 k) (hG : GRep GE w0 ok0) (x : Operand) : VS w0 ok0 B β st w (eval GE st x) (a.eval x) := by
  cases x with
  | tmp t => exact h.get t
  | const v => exact VRep_absV _ _ _ v
  | func f => exact ⟨rfl, rfl⟩
  | global g =>
    simp only [eval]
    cases hg : GE g with
    | none => trivial
    | some cs =>
      refine ⟨g, 0, rfl, fun hne => ?_⟩
      obtain ⟨hok, hm⟩ := hG g cs hg hne
      have hm' := MReps.mono (h.mono0 hB st.rows β) cs g 0 hok hm
      refine ⟨(h.mono0 hB st.rows β).ok g hok ?_, hm'⟩
      cases cs with
      | nil => exact absurd rfl hne
      | cons c cs => obtain ⟨⟨u, hu, _⟩, _⟩ := hm; exact World.block_lt_of_cell? w0 _ hu
theorem vcells_sound {ok : Nat → Prop} {rows : List Row} {x : AV} {v : Value} {cs : List AV} (h : VRep w ok rows β x v) (hc : vcells x = some cs) : VReps w ok rows β cs v.cells.toList := by
  cases x <;> simp [vcells] at hc
  case agg cs' => subst hc; obtain ⟨vs, rfl, h⟩ := h; simpa [Value.cells] using h
  case lit x => subst hc; obtain ⟨rfl, h1⟩ := h; refine ⟨v, [], ?_, ⟨rfl, h1⟩, rfl⟩; cases v <;> simp_all [Value.cells, Value.oneCell']
  case int => subst hc; obtain rfl := h; exact ⟨_, [], by simp [Value.cells], rfl, rfl⟩
  case bool => subst hc; obtain rfl := h; exact ⟨_, [], by simp [Value.cells], rfl, rfl⟩
  case lst => subst hc; have h' := h; obtain ⟨_, _, rfl, _⟩ := h; exact ⟨_, [], by simp [Value.cells], h', rfl⟩
  case emp => subst hc; have h' := h; obtain ⟨_, rfl⟩ := h; exact ⟨_, [], by simp [Value.cells], h', rfl⟩
  case own => subst hc; have h' := h; obtain ⟨_, _, rfl, _⟩ := h; exact ⟨_, [], by simp [Value.cells], h', rfl⟩
  case ptr => subst hc; have h' := h; obtain ⟨_, rfl, _⟩ := h; exact ⟨_, [], by simp [Value.cells], h', rfl⟩
  case lptr => subst hc; have h' := h; obtain ⟨_, _, rfl, _⟩ := h; exact ⟨_, [], by simp [Value.cells], h', rfl⟩
theorem cell1_sound {ok : Nat → Prop} {rows : List Row} {x : AV} {v : Value} (h : VRep w ok rows β x v) (hc : cell1 x = true) : v.oneCell' = true := by
  cases x <;> simp [cell1] at hc
  case int => obtain rfl := h; rfl
  case bool => obtain rfl := h; rfl
  case lit => exact h.1 ▸ h.2
  case lst => obtain ⟨_, _, rfl, _⟩ := h; rfl
  case emp => obtain ⟨_, rfl⟩ := h; rfl
  case own => obtain ⟨_, _, rfl, _⟩ := h; rfl
  case ptr => obtain ⟨_, rfl, _⟩ := h; rfl
  case lptr => obtain ⟨_, _, rfl, _⟩ := h; rfl
theorem cells1_sound {ok : Nat → Prop} {rows : List Row} {xs : List AV} {vs : List Value} (h : VReps w ok rows β xs vs) (hc : xs.all cell1 = true) : ∀ v ∈ vs, v.oneCell' = true := by
  induction xs generalizing vs with
  | nil => rw [show vs = [] from h]; simp
  | cons x xs ih =>
    obtain ⟨v, vs', rfl, h1, h2⟩ := h
    simp at hc
    intro u hu
    simp at hu
    rcases hu with rfl | hu
    · exact cell1_sound h1 hc.1
    · exact ih h2 (by simpa using hc.2) u hu
/-- Reading through a pointer. -/
theorem cellsAt_sound (h : SR w0 ok0 B β st a w) {x : AV} {v : Value} {cs : List AV} (hx : VS w0 ok0 B β st w x v) (hc : cellsAt st.rows x = some cs) :
    ∃ b o, v = .pointer (some ⟨b, o, none⟩) ∧ MReps w (okN w0 ok0 B st.rows β) st.rows β cs b o := by
  cases x <;> simp [cellsAt] at hc
  case lptr cs' =>
    subst hc
    obtain ⟨b, o, rfl, hm⟩ := hx
    refine ⟨b, o, rfl, ?_⟩
    cases cs' with
    | nil => trivial
    | cons c cs => exact (hm (by simp)).2
  case ptr r ver off =>
    obtain ⟨aa, rfl, row, hr, hle, hh⟩ := hx
    rw [hr] at hc
    simp at hc
    obtain ⟨hv, rfl⟩ := hc
    rw [hh hv]
    refine ⟨β r, off, rfl, ?_⟩
    have := (h.row r row hr).2.1.drop off
    simpa using this
theorem run_loadCells_at {b o n : Nat} {vs : List Value} (hl : vs.length = n) (h : ∀ (i : Nat) (v : Value), vs[i]? = some v → w.cell? ⟨b, o + i, none⟩ = some v) : (loadCells ⟨b, o, none⟩ n).run P w = .ok vs.toArray w := by
  subst hl
  exact run_loadCells_list (P := P) w ⟨b, o, none⟩ vs fun j v hv => by rw [Addr.add_lit]; exact h j v hv
theorem tvOf_spec {t : TypeId} {tv : TV} (h : tvOf P t = some tv) : ∃ i d, P.info? t = some i ∧ P.underlying t = some d ∧ tdOf d = tv.d ∧ i.size = tv.size ∧ i.bytes = tv.bytes ∧ i.zero = some tv.z := by
  unfold tvOf at h
  cases hi : P.info? t with
  | none => simp [hi] at h
  | some i =>
    cases hd : P.underlying t with
    | none => simp [hi, hd] at h
    | some d =>
      simp only [hi, hd] at h
      cases hz : i.zero with
      | none => simp [hz] at h
      | some z => simp [hz] at h; subst h; exact ⟨i, d, rfl, rfl, rfl, rfl, rfl, hz⟩
theorem run_isAgg {t : TypeId} {tv : TV} (h : tvOf P t = some tv) : (isAgg t).run P w = .ok (isAggD tv.d) w := by
  obtain ⟨i, d, hi, hd, htd, _⟩ := tvOf_spec h
  unfold isAgg
  rw [Sem.run_bind, run_underlying hd w, ← htd]
  cases d <;> simp [tdOf, isAggD]
theorem run_sizeOf' {t : TypeId} {tv : TV} (h : tvOf P t = some tv) : (sizeOf t).run P w = .ok tv.size w := by
  obtain ⟨i, d, hi, hd, htd, hs, _⟩ := tvOf_spec h
  simp [sizeOf, typeInfo, hi, hs]
theorem run_zeroValue' {t : TypeId} {tv : TV} (h : tvOf P t = some tv) : (zeroValue t).run P w = .ok tv.z w := by
  obtain ⟨i, d, hi, hd, htd, hs, hb, hz⟩ := tvOf_spec h
  simp [zeroValue, typeInfo, hi, hz]
theorem load_sound {t : TypeId} {tv : TV} (ht : tvOf P t = some tv) {ok : Nat → Prop} {rows : List Row} {cs : List AV} {b o : Nat} (hm : MReps w ok rows β cs b o) {x : AV} (hx : readAs tv cs = some x) :
    ∃ v, (loadVar t ⟨b, o, none⟩).run P w = .ok v w ∧ VRep w ok rows β x v := by
  unfold readAs at hx
  by_cases hd : isAggD tv.d = true
  · simp only [hd, if_true] at hx
    split at hx
    · rename_i hle
      simp at hx
      subst hx
      obtain ⟨vs, h1, h2⟩ := (hm.take tv.size).vals
      have hl : vs.length = tv.size := by rw [← h1.length_eq, List.length_take]; omega
      refine ⟨.agg vs.toArray, ?_, ⟨vs, rfl, h1⟩⟩
      simp [loadVar, run_isAgg ht, hd, run_sizeOf' ht, run_loadCells_at hl h2]
    · simp at hx
  · simp only [hd] at hx
    simp at hx
    obtain ⟨v, hv, hr⟩ := hm.get hx
    refine ⟨v, ?_, hr⟩
    have hd' : isAggD tv.d = false := by simpa using hd
    simp only [Nat.add_zero] at hv
    simp [loadVar, run_isAgg ht, hd', run_load, hv]
theorem abin_sound {d : TD} {t : TypeId} {op : BinOp} {x y z : AV} {vx vy : Value} {ok : Nat → Prop} {rows : List Row} (hd : ∀ tv, tvOf P t = some tv → tv.d = d) (hd' : tvOf P t = none → d = .other)
    (hz : abin d op x y = some z) (hx : VRep w ok rows β x vx) (hy : VRep w ok rows β y vy) (ox oy : Operand) :
    ∃ v, (do eqGuard op t ox oy vx vy; binOp op t vx vy : Sem Value).run P w = .ok v w ∧ VRep w ok rows β z v := by
  cases x <;> cases y <;> simp [abin] at hz
  case int.int k p k' q =>
    obtain rfl := hx
    obtain rfl := hy
    have hg : eqGuard op t ox oy (.int k p) (.int k' q) = pure () := eqGuard_at_int ..
    rw [hg]
    cases op <;> simp at hz
    case shl => obtain ⟨h, rfl⟩ := hz; exact ⟨_, by simp [binOp, Op.shift, show ¬ q < 0 by omega], rfl⟩
    case shr => obtain ⟨h, rfl⟩ := hz; exact ⟨_, by simp [binOp, Op.shift, show ¬ q < 0 by omega], rfl⟩
    case quo => obtain ⟨⟨rfl, h⟩, rfl⟩ := hz; exact ⟨_, by simp [binOp, Op.intDiv, h], rfl⟩
    case rem => obtain ⟨⟨rfl, h⟩, rfl⟩ := hz; exact ⟨_, by simp [binOp, Op.intDiv, h], rfl⟩
    all_goals
      obtain ⟨rfl, rfl⟩ := hz
      exact ⟨_, by simp [binOp, Op.intArith, Op.intBits, Op.intCmp, bits], rfl⟩
  case bool.bool p q =>
    obtain rfl := hx
    obtain rfl := hy
    have hg : eqGuard op t ox oy (.bool p) (.bool q) = pure () := eqGuard_at_bool ..
    rw [hg]
    cases htv : tvOf P t with
    | none => rw [hd' htv] at hz; simp at hz
    | some tv =>
      obtain ⟨i, dd, hi, hu, htd, _⟩ := tvOf_spec htv
      have := hd tv htv
      subst this
      cases hdd : tv.d <;> rw [hdd] at hz <;> try (simp at hz; done)
      have hub : P.underlying t = some .bool := by rw [hu]; congr 1; rw [hdd] at htd; cases dd <;> simp [tdOf] at htd; rfl
      cases op <;> simp at hz <;> subst hz
      · exact ⟨_, by rw [Sem.run_bind, Sem.run_pure, Result.andThen_ok, run_eql_bool w t p q hub], rfl⟩
      · exact ⟨_, by rw [Sem.run_bind, Sem.run_pure, Result.andThen_ok, run_neq_bool w t p q hub]; rfl, rfl⟩
end
end Go.Ax
set_option linter.unusedVariables false
set_option linter.unusedSimpArgs false
namespace Go.Ax
open Go.RowKit
section
variable {P : Program} {GE : Nat → Option (List AV)} {w0 : World} {ok0 : Nat → Prop} {B : Option Nat} {β : Nat → Nat} {st : St} {a : Act} {w : World}
def Done (P : Program) (w0 : World) (ok0 : Nat → Prop) (B : Option Nat) (o : Oper) (a : Act) (w : World) (st' : St) (x : AV) : Prop :=
  ∃ β' v w' nx, (execOp a.eval o).run P w = .ok nx w' ∧ (nx = .value v ∨ (nx = .skip ∧ v = undef)) ∧ SR w0 ok0 B β' st' a w' ∧ VRep w' (okN w0 ok0 B st'.rows β') st'.rows β' x v
theorem Done.same (h : SR w0 ok0 B β st a w) {o : Oper} {v : Value} {x : AV} (hr : (execOp a.eval o).run P w = .ok (.value v) w) (hx : VS w0 ok0 B β st w x v) : Done P w0 ok0 B o a w st x :=
  ⟨β, v, w, _, hr, .inl rfl, h, hx⟩
theorem run_fieldAt' {s : TypeId} {tv : TV} {fs : List (Nat × TypeId)} {f off size : Nat} (hs : tvOf P s = some tv) (hd : tv.d = .struct fs) (hf : fieldPlaceA P fs f = some (off, size)) (hne : size ≠ 0) (b o : Nat) :
    (Instr.fieldAt s (.pointer (some ⟨b, o, none⟩)) f).run P w = .ok (.pointer (some ⟨b, o + off, none⟩)) w := by
  obtain ⟨i, d, hi, hu, htd, _⟩ := tvOf_spec hs
  rw [hd] at htd
  cases d <;> simp [tdOf] at htd
  rename_i fields
  unfold fieldPlaceA at hf
  subst htd
  simp only [List.getElem?_map] at hf
  cases hff : fields[f]? with
  | none => simp [hff] at hf
  | some fl =>
    simp [hff] at hf
    obtain ⟨ftv, hftv, rfl, rfl⟩ := hf
    simp only [Instr.fieldAt, Sem.run_bind, run_underlying hu, Result.andThen_ok, Instr.sureAddr, hff, Sem.run_pure, fieldPlace, run_sizeOf' hftv]
    simp [hne, Addr.add_lit]
theorem run_indexAt_slice' {t e : TypeId} {tv etv : TV} (ht : tvOf P t = some tv) (hd : tv.d = .slice e) (he : tvOf P e = some etv) (b o n cap : Nat) (k : IntKind) (i : Int) (h0 : 0 ≤ i) (h1 : i < n) :
    (Instr.indexAt t (.slice (some ⟨b, o, none⟩) n cap) (.int k i)).run P w = .ok (.pointer (some ⟨b, o + i.toNat * etv.size, none⟩)) w := by
  obtain ⟨_, d, hi, hu, htd, _⟩ := tvOf_spec ht
  rw [hd] at htd
  cases d <;> simp [tdOf] at htd
  subst htd
  simp [Instr.indexAt, asIntOf, run_underlying hu, run_sizeOf' he, h0, h1, Addr.add_lit]
theorem run_indexAt_array' {t e : TypeId} {tv etv : TV} {n : Nat} (ht : tvOf P t = some tv) (hd : tv.d = .array n e) (he : tvOf P e = some etv) (b o : Nat) (k : IntKind) (i : Int) (h0 : 0 ≤ i) (h1 : i < n) :
    (Instr.indexAt t (.pointer (some ⟨b, o, none⟩)) (.int k i)).run P w = .ok (.pointer (some ⟨b, o + i.toNat * etv.size, none⟩)) w := by
  obtain ⟨_, d, hi, hu, htd, _⟩ := tvOf_spec ht
  rw [hd] at htd
  cases d <;> simp [tdOf] at htd
  obtain ⟨rfl, rfl⟩ := htd
  simp [Instr.indexAt, asIntOf, run_underlying hu, run_sizeOf' he, h0, h1, Addr.add_lit, Instr.sureAddr]
theorem asNat_spec {x : AV} {v : Value} {j : Nat} {ok : Nat → Prop} {rows : List Row} (h : asNat x = some j) (hx : VRep w ok rows β x v) : ∃ k, v = .int k (j : Int) := by
  cases x <;> simp [asNat] at h
  obtain ⟨h1, rfl⟩ := h
  obtain rfl := hx
  rename_i k n
  exact ⟨k, by rw [Int.toNat_of_nonneg h1]⟩
theorem fill_sound {ok : Nat → Prop} {rows : List Row} {place : Nat → Option (Nat × Nat)} : ∀ (parts : List (Nat × AV)) (vparts : List (Nat × Value)) (cells cells' : List AV) (vcs : Array Value),
    (parts.map (·.1) = vparts.map (·.1)) → VReps w ok rows β (parts.map (·.2)) (vparts.map (·.2)) → VReps w ok rows β cells vcs.toList → fillA place cells parts = some cells' →
    ∃ vcs', Instr.fill place vcs vparts = some vcs' ∧ VReps w ok rows β cells' vcs'.toList
  | [], [], cells, cells', vcs, _, _, hc, hf => by simp [fillA] at hf; subst hf; exact ⟨vcs, rfl, hc⟩
  | [], _ :: _, _, _, _, hl, _, _, _ => by simp at hl
  | _ :: _, [], _, _, _, hl, _, _, _ => by simp at hl
  | (i, x) :: parts, (j, v) :: vparts, cells, cells', vcs, hl, hv, hc, hf => by
    simp at hl
    obtain ⟨rfl, hl⟩ := hl
    obtain ⟨v', vs', he, hx, hvs⟩ := hv
    simp at he
    obtain ⟨rfl, rfl⟩ := he
    unfold fillA at hf
    cases hp : place i with
    | none => simp [hp] at hf
    | some os =>
      obtain ⟨off, size⟩ := os
      cases hvc : vcells x with
      | none => simp [hp, hvc] at hf
      | some vs =>
        simp only [hp, hvc] at hf
        split at hf
        · rename_i hcond
          obtain ⟨h1, h2⟩ := hcond
          have hxs := vcells_sound hx hvc
          have hlen := hxs.length_eq
          have hclen := hc.length_eq
          simp only [Array.length_toList] at hlen hclen
          have key : ∀ (us : List Value) (ys : List AV) (off : Nat) (zs : List AV) (arr : Array Value), VReps w ok rows β ys us → VReps w ok rows β zs arr.toList → off + ys.length ≤ zs.length →
              VReps w ok rows β (overwrite zs off ys) ((us.zipIdx.foldl (fun cs (c, j) => cs.setIfInBounds (off + j) c) arr).toList) := by
            intro us ys off zs arr hys hzs hle
            have hov : overwrite zs off ys = zs.take off ++ ys ++ zs.drop (off + ys.length) := by
              unfold overwrite
              split
              · rename_i y
                simp at hle
                rw [List.set_eq_take_append_cons_drop]
                simp [show off < zs.length by omega]
              · rfl
            have hfold : ∀ (us : List Value) (k : Nat) (arr : Array Value), off + k + us.length ≤ arr.size →
                ((us.zipIdx k).foldl (fun cs (c, j) => cs.setIfInBounds (off + j) c) arr).toList = arr.toList.take (off + k) ++ us ++ arr.toList.drop (off + k + us.length) := by
              intro us
              induction us with
              | nil => intro k arr hk; simp
              | cons u us ih =>
                intro k arr hk
                simp only [List.length_cons] at hk
                simp only [List.zipIdx_cons, List.foldl_cons]
                rw [ih (k + 1) _ (by simp; omega)]
                have := list_seg_step arr.toList (off + k) u us (by simp; omega)
                simp only [Array.toList_setIfInBounds, List.length_cons]
                rw [← this]
                simp [Nat.add_assoc]
            have hl1 := hys.length_eq
            have hl2 := hzs.length_eq
            simp only [Array.length_toList] at hl2
            rw [hov, hfold us 0 arr (by omega), Nat.add_zero, hl1]
            exact ((hzs.take off).append hys).append (hzs.drop (off + us.length))
          have hnew := key v.cells.toList vs off cells vcs hxs hc (by omega)
          obtain ⟨vcs', h3, h4⟩ := fill_sound parts vparts (overwrite cells off vs) cells' _ hl hvs hnew hf
          refine ⟨vcs', ?_, h4⟩
          unfold Instr.fill
          simp only [hp]
          have c1 : ¬ (v.cells.size ≠ size || off + v.cells.size > vcs.size) = true := by
            simp
            omega
          rw [if_neg (by simpa using c1)]
          rw [← h3]
          congr 1
          rw [← Array.foldl_toList, Array.toList_zipIdx]
        · simp at hf
end
end Go.Ax
set_option linter.unusedVariables false
set_option linter.unusedSimpArgs false
namespace Go.Ax
open Go.RowKit
section
variable {P : Program} {GE : Nat → Option (List AV)} {w0 : World} {ok0 : Nat → Prop} {B : Option Nat} {β : Nat → Nat} {st : St} {a : Act} {w : World}
theorem elems_sound (h : SR w0 ok0 B β st a w) {x : AV} {v : Value} {n : Nat} {cs : List AV} (hx : VS w0 ok0 B β st w x v) (he : elems st.rows x = some (n, cs)) :
    ∃ ad cap, v = .slice ad n cap ∧ n ≤ cap ∧ (cs ≠ [] → ∃ b o, ad = some ⟨b, o, none⟩ ∧ MReps w (okN w0 ok0 B st.rows β) st.rows β cs b o) := by
  cases x <;> simp [elems] at he
  case lst n' cs' =>
    obtain ⟨rfl, rfl⟩ := he
    obtain ⟨ad, cap, rfl, hc, hm⟩ := hx
    exact ⟨ad, cap, rfl, hc, fun hne => by obtain ⟨b, o, h1, _, h3⟩ := hm hne; exact ⟨b, o, h1, h3⟩⟩
  case emp =>
    obtain ⟨rfl, rfl⟩ := he
    obtain ⟨ad, rfl⟩ := hx
    exact ⟨ad, 0, rfl, Nat.le_refl _, fun hne => absurd rfl hne⟩
  case own r ver off n' sz =>
    obtain ⟨ad, cap, rfl, hc, row, hr, hle, hh⟩ := hx
    simp only [hr] at he
    split at he
    · rename_i hcond
      simp at he
      obtain ⟨rfl, rfl⟩ := he
      obtain ⟨rfl, _⟩ := hh hcond.1
      refine ⟨_, cap, rfl, hc, fun _ => ⟨β r, off, rfl, ?_⟩⟩
      have := ((h.row r row hr).2.1.drop off).take (n' * sz)
      simpa using this
    · simp at he
theorem foldMM_sound {ok : Nat → Prop} {rows : List Row} (g : Value → Value → Sem Value) (f : Int → Int → Int) (hg : ∀ k x k' y, (g (.int k x) (.int k' y)).run P w = .ok (.int k (f x y)) w) :
    ∀ (xs : List AV) (vs : List Value) (x z : AV) (v : Value), VRep w ok rows β x v → VReps w ok rows β xs vs → foldMM f x xs = some z → ∃ u, (vs.foldlM g v).run P w = .ok u w ∧ VRep w ok rows β z u := by
  intro xs
  induction xs with
  | nil =>
    intro vs x z v hx hvs hz
    rw [show vs = [] from hvs]
    cases x <;> simp [foldMM] at hz
    subst hz
    exact ⟨v, rfl, hx⟩
  | cons y ys ih =>
    intro vs x z v hx hvs hz
    obtain ⟨u, us, rfl, hy, hus⟩ := hvs
    cases x <;> cases y <;> simp [foldMM] at hz
    obtain rfl := hx
    obtain rfl := hy
    obtain ⟨r, h1, h2⟩ := ih us _ z _ (show VRep w ok rows β (.int _ _) (.int _ _) from rfl) hus hz
    refine ⟨r, ?_, h2⟩
    simp only [List.foldlM_cons, Sem.run_bind, hg, Result.andThen_ok]
    exact h1
theorem asliceA_sound {sz l hh n m : Nat} {x z : AV} {ad : Option Addr} {cap : Nat} (hx : VS w0 ok0 B β st w x (.slice ad n cap)) (hl : lenA x = some n) (hz : asliceA sz x l hh = some z) (hm : hh ≤ m) (hm' : m ≤ cap) :
    VS w0 ok0 B β st w z (.slice (if m = l then ad else ad.map (·.add (l * sz))) (hh - l) (m - l)) := by
  cases x <;> simp [asliceA] at hz
  case lst n' cs =>
    obtain ⟨⟨h1, h2⟩, rfl⟩ := hz
    obtain ⟨ad', cap', he, hc, hmr⟩ := hx
    cases he
    refine ⟨_, _, rfl, by omega, fun hne => ?_⟩
    have hne' : cs ≠ [] := fun he => by subst he; simp at hne
    obtain ⟨b, o, rfl, hok, hmm⟩ := hmr hne'
    have hlh : l < hh := by
      rcases Nat.lt_or_ge l hh with h | h
      · exact h
      · have : hh - l = 0 := by omega
        simp [this] at hne
    rw [if_neg (by omega)]
    refine ⟨b, o + l * sz, by simp [Addr.add_lit], hok, (hmm.drop (l * sz)).take _⟩
  case emp =>
    obtain ⟨⟨rfl, rfl⟩, rfl⟩ := hz
    obtain ⟨ad', he⟩ := hx
    cases he
    have : m = 0 := by omega
    subst this
    exact ⟨_, rfl⟩
  case own r ver off n' sz' =>
    obtain ⟨⟨rfl, h1, h2⟩, hz⟩ := hz
    obtain ⟨ad', cap', he, hc, row, hr, hle, hhh⟩ := hx
    cases he
    by_cases hl0 : l = 0
    · subst hl0
      simp at hz
      subst hz
      refine ⟨_, _, rfl, by omega, row, hr, hle, fun hv => ?_⟩
      obtain ⟨rfl, c, e, h3, h4⟩ := hhh hv
      refine ⟨?_, c, e, h3, ?_⟩
      · split <;> simp [Addr.add]
      · have : (m - 0) * sz' ≤ cap * sz' := Nat.mul_le_mul_right _ (by omega)
        omega
    · simp [hl0] at hz
      by_cases hlh : l < hh
      · simp [hlh] at hz
        subst hz
        refine ⟨_, _, rfl, by omega, row, hr, hle, fun hv => ?_⟩
        obtain ⟨rfl, c, e, h3, h4⟩ := hhh hv
        rw [if_neg (by omega)]
        refine ⟨by simp [Addr.add_lit], c, e, h3, ?_⟩
        have : l * sz' + (m - l) * sz' ≤ cap * sz' := by rw [← Nat.add_mul]; exact Nat.mul_le_mul_right _ (by omega)
        omega
      · simp [hlh] at hz
        subst hz
        have : hh - l = 0 := by omega
        rw [this]
        exact ⟨_, _, rfl, by omega, fun hne => absurd rfl hne⟩
theorem madeCells_sound {ok : Nat → Prop} {rows : List Row} (tv : TV) (n : Nat) (h0 : 0 < tv.size) (hz : tv.z.cells.size = tv.size) :
    VReps w ok rows β (List.replicate n (zeros tv)).flatten (madeCells tv.z.cells (n * tv.size)).toList := by
  have hl : (zeros tv).length = tv.size := by simp [zeros, hz]
  refine VReps.of_get (by simp [hl, size_madeCells]) fun i x v hx hv => ?_
  have hi : i < n * tv.size := by
    have := (List.getElem?_eq_some_iff.1 hx).1
    simpa [hl] using this
  have hv' : v = tv.z.cells[i % tv.size]! := by
    simp [madeCells, hi] at hv
    rw [← hv, hz]
  have key : ∀ (n i : Nat), i < n * tv.size → (List.replicate n (zeros tv)).flatten[i]? = (zeros tv)[i % tv.size]? := by
    intro n
    induction n with
    | zero => intro i hi; simp at hi
    | succ n ih =>
      intro i hi
      rw [List.replicate_succ, List.flatten_cons]
      by_cases hlt : i < tv.size
      · rw [List.getElem?_append_left (by omega), Nat.mod_eq_of_lt hlt]
      · rw [List.getElem?_append_right (by omega), hl, ih (i - tv.size) (by rw [Nat.succ_mul] at hi; omega)]
        congr 1
        rw [← Nat.mod_eq_sub_mod (by omega)]
  rw [key n i hi] at hx
  have hlt : i % tv.size < tv.z.cells.size := by rw [hz]; exact Nat.mod_lt _ h0
  simp [zeros, hlt] at hx
  subst hx
  subst hv'
  rw [getElem!_pos tv.z.cells (i % tv.size) hlt]
  exact VRep_absC _ _ _ _
theorem args_sound (h : SR w0 ok0 B β st a w) (hB : ∀ k, B = some k → ¬ ok0 k) (hG : GRep GE w0 ok0) : ∀ (xs : List Operand), VReps w (okN w0 ok0 B st.rows β) st.rows β (xs.map (eval GE st)) (xs.map a.eval)
  | [] => rfl
  | x :: xs => ⟨_, _, rfl, eval_sound h hB hG x, args_sound h hB hG xs⟩
end
end Go.Ax
set_option linter.unusedVariables false
set_option linter.unusedSimpArgs false
namespace Go.Ax
open Go.RowKit
section
variable {P : Program} {GE : Nat → Option (List AV)} {w0 : World} {ok0 : Nat → Prop} {B : Option Nat} {β : Nat → Nat} {st : St} {a : Act} {w : World}
theorem done_move (h : SR w0 ok0 B β st a w) (hB : ∀ k, B = some k → ¬ ok0 k) (hG : GRep GE w0 ok0) {o : Oper} {x : Operand} (ho : o.op = .move x ∨ o.op = .assign x) :
    Done P w0 ok0 B o a w st (eval GE st x) := by
  refine Done.same h ?_ (eval_sound h hB hG x)
  rcases ho with ho | ho <;> simp [execOp, ho]
theorem done_pick (h : SR w0 ok0 B β st a w) (hB : ∀ k, B = some k → ¬ ok0 k) (hG : GRep GE w0 ok0) {o : Oper} {c x y : Operand} (ho : o.op = .pick c x y) {t : Bool} (hc : eval GE st c = .bool t) :
    Done P w0 ok0 B o a w st (if t then eval GE st x else eval GE st y) := by
  have h1 := eval_sound h hB hG c
  rw [hc] at h1
  have h1' : a.eval c = .bool t := h1
  refine Done.same (v := if t then a.eval x else a.eval y) h ?_ ?_
  · simp [execOp, ho, h1', asBool]
  · cases t
    · simpa using eval_sound h hB hG y
    · simpa using eval_sound h hB hG x
theorem done_push (h : SR w0 ok0 B β st a w) {o : Oper} {e : TypeId} {c : Array Value} {cells : List AV} {vs : List Value} {x : AV} {v : Value}
    (hc : VReps w (okN w0 ok0 B st.rows β) st.rows β cells vs) (hvs : ∀ (i : Nat) (v : Value), vs[i]? = some v → c[i]? = some v)
    {w1 : World} (hw1 : w1 = w ∨ w1 = w.drew)
    (hr : (execOp a.eval o).run P w = .ok (.value v) (w1.alloc (.cells c e)))
    (hx : (x = .ptr st.rows.length 0 0 ∧ v = .pointer (some ⟨w.heap.size, 0, none⟩)) ∨ (∃ n sz cap, x = .own st.rows.length 0 0 n sz ∧ v = .slice (some ⟨w.heap.size, 0, none⟩) n cap ∧ n ≤ cap ∧ cap * sz ≤ c.size)) :
    Done P w0 ok0 B o a w { st with rows := st.rows ++ [⟨0, true, cells⟩] } x := by
  have hbw : Below w.heap.size w w1 := by rcases hw1 with rfl | rfl; exact Below.refl _ _; exact (Below.refl _ _).drew
  have hsz : w1.heap.size = w.heap.size := by rcases hw1 with rfl | rfl <;> rfl
  have h' := h.keep hbw
  have hc' : VReps w1 (okN w0 ok0 B st.rows β) st.rows β cells vs := VReps.mono (h.monoBelow hbw) _ _ hc
  obtain ⟨h2, hm⟩ := h'.push (c := c) (e := e) (ver := 0) (hot := true) hc' hvs
  refine ⟨_, v, _, _, hr, .inl rfl, h2, ?_⟩
  rcases hx with ⟨rfl, rfl⟩ | ⟨n, sz, cap, rfl, rfl, hn, hcap⟩
  · exact ⟨_, rfl, ⟨0, true, cells⟩, by simp, Nat.le_refl _, fun _ => by simp [hsz]⟩
  · refine ⟨_, cap, rfl, hn, ⟨0, true, cells⟩, by simp, Nat.le_refl _, fun _ => ⟨by simp [hsz], c, e, ?_, by omega⟩⟩
    simp only [if_true]
    exact heap_alloc_new w1 _
theorem done_alloc (h : SR w0 ok0 B β st a w) {o : Oper} {e : TypeId} {tv : TV} (ho : o.op = .alloc e) (he : tvOf P e = some tv) :
    Done P w0 ok0 B o a w { st with rows := st.rows ++ [⟨0, true, zeros tv⟩] } (.ptr st.rows.length 0 0) := by
  refine done_push h (e := e) (c := tv.z.cells) (vs := tv.z.cells.toList) (w1 := w) (VReps_absC _ _ _ _) (by simp) (.inl rfl) ?_ (.inl ⟨rfl, rfl⟩)
  simp [execOp, ho, Instr.alloc, run_zeroValue' he, newVar, newRow]
theorem done_box (h : SR w0 ok0 B β st a w) (hB : ∀ k, B = some k → ¬ ok0 k) (hG : GRep GE w0 ok0) {o : Oper} {e : TypeId} {x : Operand} {vs : List AV} (ho : o.op = .box e x) (hv : vcells (eval GE st x) = some vs) :
    Done P w0 ok0 B o a w { st with rows := st.rows ++ [⟨0, true, vs⟩] } (.ptr st.rows.length 0 0) := by
  refine done_push h (e := e) (c := (a.eval x).cells) (vs := (a.eval x).cells.toList) (w1 := w) (vcells_sound (eval_sound h hB hG x) hv) (by simp) (.inl rfl) ?_ (.inl ⟨rfl, rfl⟩)
  simp [execOp, ho, Instr.box, newVar, newRow]
theorem parts_sound (h : SR w0 ok0 B β st a w) (hB : ∀ k, B = some k → ¬ ok0 k) (hG : GRep GE w0 ok0) : ∀ (parts : List (Nat × Operand)),
    VReps w (okN w0 ok0 B st.rows β) st.rows β ((parts.map fun p => (p.1, eval GE st p.2)).map (·.2)) ((parts.map fun p => (p.1, a.eval p.2)).map (·.2))
  | [] => rfl
  | p :: ps => ⟨_, _, rfl, eval_sound h hB hG p.2, parts_sound h hB hG ps⟩
theorem placesA_spec : ∀ (fs : List Field) (places : List (Nat × Nat)), placesA P (fs.map fun f => (f.offset, f.type)) = some places → fs.mapM (fun f => (P.info? f.type).map fun i => (f.offset, i.size)) = some places
  | [], places, h => by simp [placesA] at h; subst h; rfl
  | f :: fs, places, h => by
    simp only [List.map_cons, placesA] at h
    cases ht : tvOf P f.type with
    | none => simp [ht] at h
    | some tv =>
      cases hr : placesA P (fs.map fun f => (f.offset, f.type)) with
      | none => simp [ht, hr] at h
      | some r =>
        simp [ht, hr] at h
        subst h
        obtain ⟨i, d, hi, hu, htd, hsz, _⟩ := tvOf_spec ht
        have ih := placesA_spec fs r hr
        simp [List.mapM_cons, hi, ih, hsz]
theorem done_build (h : SR w0 ok0 B β st a w) (hB : ∀ k, B = some k → ¬ ok0 k) (hG : GRep GE w0 ok0) {o : Oper} {t : TypeId} {parts : Array (Nat × Operand)} {tv : TV} {fs : List (Nat × TypeId)} {places : List (Nat × Nat)} {cs : List AV}
    (ho : o.op = .build t parts) (ht : tvOf P t = some tv) (hd : tv.d = .struct fs) (hp : placesA P fs = some places) (hf : fillA (fun i => places[i]?) (zeros tv) (parts.toList.map fun p => (p.1, eval GE st p.2)) = some cs) :
    Done P w0 ok0 B o a w st (.agg cs) := by
  obtain ⟨i, d, hi, hu, htd, hsz, hby, hz⟩ := tvOf_spec ht
  rw [hd] at htd
  cases d <;> simp [tdOf] at htd
  rename_i fields
  subst htd
  obtain ⟨vcs, h1, h2⟩ := fill_sound (parts.toList.map fun p => (p.1, eval GE st p.2)) (parts.toList.map fun p => (p.1, a.eval p.2)) (zeros tv) cs tv.z.cells (by simp) (parts_sound h hB hG _) (VReps_absC _ _ _ _) hf
  refine Done.same (v := .agg vcs) h ?_ ⟨vcs.toList, by simp, h2⟩
  have hbuilt : P.built t (parts.map fun (i, x) => (i, a.eval x)).toList = some vcs := by
    unfold Program.built
    simp only [hi, hu, hz, placesA_spec _ _ hp]
    rw [← h1]
    congr 1
    · funext j; simp
    · simp
  simp [execOp, ho, run_build w t _ vcs hbuilt]
theorem done_buildSlice (h : SR w0 ok0 B β st a w) (hB : ∀ k, B = some k → ¬ ok0 k) (hG : GRep GE w0 ok0) {o : Oper} {t e : TypeId} {len : Nat} {parts : Array (Nat × Operand)} {tv etv : TV} {cs : List AV}
    (ho : o.op = .buildSlice t len parts) (ht : tvOf P t = some tv) (hd : tv.d = .slice e) (he : tvOf P e = some etv) (h0 : 0 < etv.size) (hl : len * etv.size ≤ 16777216) (hzs : etv.z.cells.size = etv.size)
    (hf : fillA (fun i => some (i * etv.size, etv.size)) ((List.replicate len (zeros etv)).flatten) (parts.toList.map fun p => (p.1, eval GE st p.2)) = some cs) :
    Done P w0 ok0 B o a w st (if len = 0 then .emp else .lst len cs) := by
  obtain ⟨i, d, hi, hu, htd, hsz, hby, hz⟩ := tvOf_spec ht
  rw [hd] at htd
  cases d <;> simp [tdOf] at htd
  rename_i e'
  subst htd
  obtain ⟨vcs, h1, h2⟩ := fill_sound (parts.toList.map fun p => (p.1, eval GE st p.2)) (parts.toList.map fun p => (p.1, a.eval p.2)) _ cs (madeCells etv.z.cells (len * etv.size)) (by simp) (parts_sound h hB hG _) (madeCells_sound etv len h0 hzs) hf
  have hb : Below w.heap.size w (w.alloc (.cells vcs e')) := (Below.refl _ _).alloc (Nat.le_refl _) _
  refine ⟨β, .slice (some ⟨w.heap.size, 0, none⟩) len len, w.alloc (.cells vcs e'), _, ?_, .inl rfl, h.keep hb, ?_⟩
  · have hbig : ¬ (16777216 < len * etv.size) := by omega
    have hparts : (parts.map fun (i, x) => (i, a.eval x)).toList = parts.toList.map fun p => (p.1, a.eval p.2) := by simp
    unfold madeCells at h1
    by_cases hz0 : len = 0
    · subst hz0
      have h1' : Instr.fill (fun i => some (i * etv.size, etv.size)) #[] (parts.toList.map fun p => (p.1, a.eval p.2)) = some vcs := by rw [← h1, Nat.zero_mul, Array.range_zero', Array.map_empty]
      simp [execOp, ho, Instr.buildSlice, run_underlying hu, run_sizeOf' he, Array.range_zero', h1', newRow]
    · have hz2 : ¬ (etv.size = 0) := by omega
      have hz1 : ¬ (len * etv.size = 0) := Nat.mul_ne_zero hz0 hz2
      simp [execOp, ho, Instr.buildSlice, run_underlying hu, run_sizeOf' he, hbig, hz0, hz1, hz2, run_zeroValue' he, h1, newRow]
  · by_cases hl0 : len = 0
    · subst hl0
      simp only [if_true]
      exact ⟨_, rfl⟩
    · simp only [hl0, if_false]
      refine ⟨_, _, rfl, Nat.le_refl _, fun _ => ⟨w.heap.size, 0, rfl, ⟨.inr (.inl h.size), fun r row hr hh he => by have := h.lt hr; omega⟩, ?_⟩⟩
      refine MReps.of_vals (VReps.mono (h.monoBelow hb) _ _ h2) fun j v hv => ?_
      rw [cell_of_row _ _ _ vcs e' (0, 0) (heap_alloc_new w _), Nat.zero_add]
      simpa using hv
end
end Go.Ax
