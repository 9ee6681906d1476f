/-
  How a row opens its arguments.
-/
import Derived.Test.YtpnljnmpocobjaaDoorX10
import Derived.Test.YtpnljnmpocobjaaDoorX18
set_option linter.unusedVariables false
set_option linter.unusedSimpArgs false
set_option maxRecDepth 100000
namespace Go.Proofs.YtpnljnmpocobjaaDoor.Card
open Go Go.ChangeShapes Go.WideShapes Go.ChangeAt Go.RowKit Go.Ax Go.Proofs
theorem addr_add (a : Addr) (m n : Nat) : (a.add m).add n = a.add (m + n) := by
  unfold Addr.add
  by_cases hm : m = 0 <;> by_cases hn : n = 0 <;> simp [hm, hn, Nat.add_assoc]
/-- The cells of a decimal number. -/
theorem dec_cells {H : Type} {enc : TypeId × Value → H} {W : World} {m : Nat} {cs : List Value} {x : DataW H × List MemPlace} (hl : cs.length = 4) (hf : DataW.trod enc Tryd.prog W 0 (fun _ => true) true m 77 cs = some x) :
    ∃ d : DI, d.pre ∧ VReps W (fun _ => True) [] (fun _ => 0) [i64 d.k, .bool d.neg, ws d.cs, i64 d.e] cs := by
  obtain ⟨c0, c1, c2, c3, rfl⟩ : ∃ c0 c1 c2 c3, cs = [c0, c1, c2, c3] := by
    match cs, hl with
    | [c0, c1, c2, c3], _ => exact ⟨c0, c1, c2, c3, rfl⟩
  obtain ⟨n0, y0, z0⟩ := flat_get Tryd.underlying77 hf 0 _ 0 75 rfl rfl rfl cellsKd rfl
  obtain ⟨n1, y1, z1⟩ := flat_get Tryd.underlying77 hf 1 _ 1 4 rfl rfl rfl cells4 rfl
  obtain ⟨n2, y2, z2⟩ := flat_get Tryd.underlying77 hf 2 _ 2 24 rfl rfl rfl cells24 rfl
  obtain ⟨n3, y3, z3⟩ := flat_get Tryd.underlying77 hf 3 _ 3 3 rfl rfl rfl cells3 rfl
  obtain ⟨k, rfl, k1, k2⟩ := cell_int Tryd.underlying75 z0
  obtain ⟨n, rfl⟩ := cell_bool Tryd.underlying4 z1
  obtain ⟨xs, h1, h2, h3⟩ := open_ws z2
  obtain ⟨e, rfl, e1, e2⟩ := cell_int Tryd.underlying3 z3
  exact ⟨⟨k, n, xs, e⟩, ⟨k1, k2, e1, e2, h2, h3⟩, _, _, rfl, rfl, _, _, rfl, rfl, _, _, rfl, h1, _, _, rfl, rfl, rfl⟩
/-- A list of decimal numbers, opened. -/
theorem opn_decs : Opn 72 (fun a => ∃ l : List DI, a = .lst l.length (dcs l) ∧ (∀ d ∈ l, d.pre) ∧ l.length ≤ 9223372036854775807) := fun H enc W v d ps hv hd => by
  obtain ⟨fuel, hf⟩ := hd
  obtain ⟨a, len, cap, rfl⟩ := okWide_slice Tryd.underlying72 hv
  rcases DataW.trod_slice Tryd.underlying72 hf with ⟨hc, _⟩ | ⟨a', len', cap', elems, rest, n, _, hc, _, hb, hl, hm, hlen, hel, _, _⟩
  · have hc' : [Value.slice a len cap] = [Value.slice none 0 0] := hc
    simp only [List.cons.injEq, Value.slice.injEq, and_true] at hc'
    obtain ⟨rfl, rfl, rfl⟩ := hc'
    exact ⟨_, ⟨[], rfl, (fun d hd => by cases hd), by decide⟩, none, 0, rfl, Nat.le_refl _, fun h => absurd rfl h⟩
  · have hc' : [Value.slice a len cap] = [Value.slice (some a') len' cap'] := hc
    simp only [List.cons.injEq, Value.slice.injEq, and_true] at hc'
    obtain ⟨rfl, rfl, rfl⟩ := hc'
    have each : ∀ i, i < len → ∃ x : DI, x.pre ∧ ∃ vs, VReps W (fun _ => True) [] (fun _ => 0) [i64 x.k, .bool x.neg, ws x.cs, i64 x.e] vs ∧ ∀ j v, vs[j]? = some v → W.cell? (a'.add (i * 4 + j)) = some v := fun i hi => by
      have h := hel i hi
      have hi' : i < elems.length := by omega
      rw [List.getElem?_eq_getElem hi', Option.bind_eq_some_iff, cellsDc] at h
      obtain ⟨cs, h1, h2⟩ := h
      obtain ⟨_, g1, g2⟩ := World.cells?_some h1
      obtain ⟨x, hx, hr⟩ := dec_cells g1 h2
      refine ⟨x, hx, cs, hr, fun j v hj => ?_⟩
      have hj4 : j < 4 := by rw [← g1]; exact (List.getElem?_eq_some_iff.1 hj).1
      have hg := g2 j hj4
      rw [addr_add, hj] at hg
      exact hg
    have build : ∀ k, ∀ i, i + k = len → ∃ l : List DI, l.length = k ∧ (∀ d ∈ l, d.pre) ∧ ∀ (j : Nat) (y : AV), (dcs l)[j]? = some y → ∃ v, W.cell? (a'.add (i * 4 + j)) = some v ∧ VRep W (fun _ => True) [] (fun _ => 0) y v := by
      intro k
      induction k with
      | zero => intro i hi; exact ⟨[], rfl, (fun d hd => by cases hd), fun j y h => by simp [dcs] at h⟩
      | succ k ih =>
        intro i hi
        obtain ⟨x, hx, vs, hr, hv⟩ := each i (by omega)
        obtain ⟨l, h1, h2, h3⟩ := ih (i + 1) (by omega)
        refine ⟨x :: l, by simp [h1], fun d hd => ?_, fun j y hy => ?_⟩
        · rcases List.mem_cons.1 hd with rfl | h
          · exact hx
          · exact h2 d h
        · have hy2 : ([i64 x.k, .bool x.neg, ws x.cs, i64 x.e] ++ dcs l)[j]? = some y := hy
          by_cases hj : j < 4
          · rw [List.getElem?_append_left (by simpa using hj)] at hy2
            obtain ⟨v, g1, g2⟩ := hr.get hy2
            exact ⟨v, hv j v g1, g2⟩
          · rw [List.getElem?_append_right (by simpa using Nat.not_lt.1 hj)] at hy2
            obtain ⟨v, g1, g2⟩ := h3 (j - 4) y hy2
            rw [show (i + 1) * 4 + (j - 4) = i * 4 + j by omega] at g1
            exact ⟨v, g1, g2⟩
    obtain ⟨l, h1, h2, h3⟩ := build len 0 (by omega)
    have hml : maxLen = 9223372036854775807 := rfl
    refine ⟨_, ⟨l, rfl, h2, by omega⟩, some a', cap, by rw [h1], by rw [h1]; exact hl, fun hne => ?_⟩
    have h0 : 0 < len := by
      rcases Nat.eq_zero_or_pos len with h | h
      · rw [h] at h1
        rw [List.eq_nil_of_length_eq_zero h1] at hne
        exact absurd rfl hne
      · exact h
    have hs : a'.spot = none := by
      obtain ⟨x, _, vs, hr, hv⟩ := each 0 h0
      obtain ⟨v, g1, _⟩ := hr.get (i := 0) rfl
      have := World.cell?_spot (hv 0 v g1)
      simpa [Addr.add] using this
    obtain ⟨b, o, s⟩ := a'
    simp only at hs
    subst hs
    refine ⟨b, o, rfl, trivial, MReps.of_get fun i y hy => ?_⟩
    obtain ⟨v, g1, g2⟩ := h3 i y hy
    rw [Nat.zero_mul, Nat.zero_add] at g1
    refine ⟨v, ?_, g2⟩
    cases i <;> simpa [Addr.add] using g1
end Go.Proofs.YtpnljnmpocobjaaDoor.Card
