/-
  How a row opens its arguments.
-/
import Derived.Test.YtenfiehjbeojeaaGreatDoorV10
import Derived.Test.YtenfiehjbeojeaaGreatDoorCards
import Derived.Test.YtenfiehjbeojeaaGreatDoorTie
import Derived.WalkKit
import Derived.ProofKit
import Derived.OpenShut
import Derived.Carry
import Derived.LaidMore
import Derived.Stop.Joined
import Derived.Lib.LaidTab
import Derived.Deep.DeepHandedRow
set_option linter.unusedVariables false
set_option linter.unusedSimpArgs false
set_option maxRecDepth 100000
namespace Go.Proofs.YtenfiehjbeojeaaGreatDoor.Card
open Go Go.ChangeShapes Go.WideShapes Go.ChangeAt Go.RowKit Go.Ax Go.Proofs
theorem own : ownKnob Tryz.prog.godebug = none := by kernel_rfl
theorem gTab : Tryz.prog.globalNamed "math/bits.deBruijn64tab" = some 4 := by kernel_rfl
theorem gTabT : (Tryz.prog.globals[4]?).map (·.type) = some 200 := by kernel_rfl
theorem gMore : Tryz.prog.globalNamed "reckoner/fin.more" = some 1 := by kernel_rfl
theorem gMoreT : (Tryz.prog.globals[1]?).map (·.type) = some 178 := by kernel_rfl
theorem cells200 : Tryz.prog.cellsOf 200 = 64 := by kernel_rfl
theorem cells178 : Tryz.prog.cellsOf 178 = 5 := by kernel_rfl
theorem cells177 : Tryz.prog.cellsOf 177 = 1 := by kernel_rfl
theorem cells5 : Tryz.prog.cellsOf 5 = 1 := by kernel_rfl
theorem cells30 : Tryz.prog.cellsOf 30 = 3 := by kernel_rfl
theorem cells28 : Tryz.prog.cellsOf 28 = 2 := by kernel_rfl
theorem cells26 : Tryz.prog.cellsOf 26 = 1 := by kernel_rfl
theorem cells4 : Tryz.prog.cellsOf 4 = 1 := by kernel_rfl
theorem cells65 : Tryz.prog.cellsOf 65 = 1 := by kernel_rfl
theorem laidOut : laidOutB Tryz.prog = true := by kernel_rfl
/-- The two variables avs the rows list them. -/
abbrev laid : List (String × DataW Unit) := [("math/bits.deBruijn64tab", Rows.laid_math_bits_deBruijn64tab), ("reckoner/gcd.same", Rows.laid_reckoner_gcd_same), ("reckoner/fin.more", Rows.laid_reckoner_fin_more)]
theorem laid_tab : (Rows.laid_math_bits_deBruijn64tab : DataW Unit) = Lib.tabData .u8 (Lib.deBruijn64tab.map fun (n : Nat) => (n : Int)) := rfl
theorem table {W : World} (h : laidMetH Tryz.prog laid W) : Lib.TabIs Tryz.prog W "math/bits.deBruijn64tab" .u8 (Lib.deBruijn64tab.map fun (n : Nat) => (n : Int)) := by
  have h' : laidMet Tryz.prog (laid.filter fun x => x.2.handleName?.isNone) W := by
    unfold laidMetH at h
    split at h
    · rename_i e; cases e
    · exact h.1
  have e : (laid.filter fun x => x.2.handleName?.isNone) = [("math/bits.deBruijn64tab", Lib.tabData .u8 (Lib.deBruijn64tab.map fun (n : Nat) => (n : Int))), ("reckoner/gcd.same", Rows.laid_reckoner_gcd_same)] := rfl
  rw [e] at h'
  exact Lib.tabIs_of_head gTab gTabT Tryz.underlying200 Tryz.underlying5 cells5 cells200 h'
theorem more {W : World} (h : laidMetH Tryz.prog laid W) : ∃ cs : Array Value, cs.toList = [.func (.func 206) #[] #[], .func (.func 207) #[] #[], .func (.func 208) #[] #[], .func (.func 209) #[] #[], .func (.func 210) #[] #[]] ∧ ∀ i, W.cell? ⟨1, i, none⟩ = cs[i]? := by
  obtain ⟨g, t, cs, fuel, p, hg, ht, hv, hd⟩ := h.funcs (n := "reckoner/fin.more") (List.mem_cons_of_mem _ (List.mem_cons_of_mem _ (List.mem_singleton.2 rfl)))
  obtain rfl := Option.some.inj (gMore.symm.trans hg)
  obtain rfl := Option.some.inj (gMoreT.symm.trans ht)
  obtain ⟨xs, m, rfl, hx, hl, hn, hel⟩ := DataW.trod_array Tryz.underlying178 hd
  rw [cells178] at hl
  rw [cells177] at hel
  simp only [Prod.mk.injEq] at hx
  have hx1 : xs.map (·.1) = [.held [114, 101, 99, 107, 111, 110, 101, 114, 47, 102, 105, 110, 46, 109, 111, 114, 101, 36, 49], .held [114, 101, 99, 107, 111, 110, 101, 114, 47, 102, 105, 110, 46, 109, 111, 114, 101, 36, 50], .held [114, 101, 99, 107, 111, 110, 101, 114, 47, 102, 105, 110, 46, 109, 111, 114, 101, 36, 51], .held [114, 101, 99, 107, 111, 110, 101, 114, 47, 102, 105, 110, 46, 109, 111, 114, 101, 36, 52], .held [114, 101, 99, 107, 111, 110, 101, 114, 47, 102, 105, 110, 46, 109, 111, 114, 101, 36, 53]] := (DataW.agg.inj hx.1).symm
  obtain ⟨c0, c1, c2, c3, c4, hcs⟩ : ∃ c0 c1 c2 c3 c4, cs.toList = [c0, c1, c2, c3, c4] := by
    match hh : cs.toList, hl with
    | [c0, c1, c2, c3, c4], _ => exact ⟨c0, c1, c2, c3, c4, rfl⟩
  rw [hcs] at hel
  match xs, hn, hx1, hel with
  | [x0, x1, x2, x3, x4], _, hx1, hel =>
    simp only [List.map_cons, List.map_nil, List.cons.injEq, and_true] at hx1
    obtain ⟨e0, e1, e2, e3, e4⟩ := hx1
    have k0 := hel 0 (by omega)
    have k1 := hel 1 (by omega)
    have k2 := hel 2 (by omega)
    have k3 := hel 3 (by omega)
    have k4 := hel 4 (by omega)
    simp only [Nat.zero_mul, Nat.one_mul, Nat.mul_one, List.drop, List.take, List.getElem?_cons_zero, List.getElem?_cons_succ] at k0 k1 k2 k3 k4
    obtain ⟨x0, q0⟩ := x0
    obtain ⟨x1, q1⟩ := x1
    obtain ⟨x2, q2⟩ := x2
    obtain ⟨x3, q3⟩ := x3
    obtain ⟨x4, q4⟩ := x4
    simp only at e0 e1 e2 e3 e4
    subst e0; subst e1; subst e2; subst e3; subst e4
    obtain rfl := func_of_trod (f0 := 206) Tryz.underlying177 (by kernel_rfl) k0
    obtain rfl := func_of_trod (f0 := 207) Tryz.underlying177 (by kernel_rfl) k1
    obtain rfl := func_of_trod (f0 := 208) Tryz.underlying177 (by kernel_rfl) k2
    obtain rfl := func_of_trod (f0 := 209) Tryz.underlying177 (by kernel_rfl) k3
    obtain rfl := func_of_trod (f0 := 210) Tryz.underlying177 (by kernel_rfl) k4
    exact ⟨cs, hcs, fun i => World.var?_cell gMore hv i⟩
/-- WHAT THE ROWS' LIST GIVES THE CONTRACTS. -/
theorem grep {W : World} (h : laidMetH Tryz.prog laid W) : GRep GEs W (fun _ => True) := by
  intro g cs hg hne
  refine ⟨trivial, ?_⟩
  unfold GEs at hg
  split at hg
  · rename_i e
    subst e
    obtain rfl := Option.some.inj hg
    obtain ⟨ds, h1, h2⟩ := more h
    refine MReps.of_vals (vs := ds.toList) ?_ fun i v hv => ?_
    · rw [h1]
      exact ⟨_, _, rfl, ⟨rfl, rfl⟩, _, _, rfl, ⟨rfl, rfl⟩, _, _, rfl, ⟨rfl, rfl⟩, _, _, rfl, ⟨rfl, rfl⟩, _, _, rfl, ⟨rfl, rfl⟩, rfl⟩
    · rw [Nat.zero_add, h2 i, ← hv]; simp
  · split at hg
    · rename_i e
      subst e
      obtain rfl := Option.some.inj hg
      refine MReps.of_get fun i x hx => ?_
      rw [List.getElem?_map] at hx
      obtain ⟨n, hn, rfl⟩ := Option.map_eq_some_iff.1 hx
      obtain ⟨hi, hn'⟩ := List.getElem?_eq_some_iff.1 hn
      refine ⟨.int .u8 (n : Int), ?_, rfl⟩
      rw [Nat.zero_add]
      have := (table h).cell gTab i (by simpa using hi)
      rw [this]
      simp [List.getD_eq_getElem?_getD, hi, hn']
    · cases hg
/-- A slice of words, opened. -/
theorem open_ws {H : Type} {enc : TypeId × Value → H} {W : World} {fuel : Nat} {c : Value} {x : DataW H × List MemPlace} (h : DataW.trod enc Tryz.prog W 0 (fun _ => true) true fuel 26 [c] = some x) :
    ∃ xs : List Nat, VRep W (fun _ => True) [] (fun _ => 0) (ws xs) c ∧ Wd xs ∧ xs.length ≤ 9223372036854775807 := by
  rcases open_ints Tryz.underlying26 Tryz.underlying65 cells65 h with ⟨hc, _⟩ | ⟨a, len, cap, zs, hc, _, hl, hm, hz, _, hcell, hwf⟩
  · obtain rfl := (List.cons.inj hc).1
    exact ⟨[], ⟨none, 0, rfl, Nat.le_refl _, fun h => absurd rfl h⟩, (fun x hx => by cases hx), by decide⟩
  · obtain rfl := (List.cons.inj hc).1
    simp only [if_true] at hz
    have hb : ∀ z ∈ zs, 0 ≤ z ∧ z < 18446744073709551616 := fun z hzm => by
      have := hwf z hzm
      simp [Lit.wf, IntKind.min, IntKind.max, IntKind.signed, IntKind.bits] at this
      omega
    have hlen : ((zs.take len).map Int.toNat).length = len := by rw [List.length_map, List.length_take]; omega
    refine ⟨(zs.take len).map Int.toNat, ⟨some a, cap, by rw [hlen], by rw [hlen]; exact hl, fun hne => ?_⟩, fun y hy => ?_, by rw [hlen]; have : maxLen = 9223372036854775807 := rfl; omega⟩
    · have hlen0 : 0 < len := by
        cases len with
        | zero => exact absurd rfl hne
        | succ n => omega
      have h0 := hcell 0 (by omega)
      have hs : a.spot = none := by have := World.cell?_spot h0; simpa [Addr.add] using this
      obtain ⟨b, o, s⟩ := a
      simp only at hs
      subst hs
      refine ⟨b, o, rfl, trivial, MReps.of_get fun i x hx => ?_⟩
      unfold us at hx
      rw [List.map_map, List.getElem?_map] at hx
      obtain ⟨z, hz1, rfl⟩ := Option.map_eq_some_iff.1 hx
      obtain ⟨hi, hz2⟩ := List.getElem?_eq_some_iff.1 hz1
      have hi' : i < zs.length := by rw [List.length_take] at hi; omega
      have hzi : zs[i] = z := by rw [← hz2, List.getElem_take]
      have hc := hcell i hi'
      refine ⟨.int .u64 z, ?_, ?_⟩
      · have e : zs.getD i 0 = z := by simp [List.getD_eq_getElem?_getD, hi', hzi]
        rw [e] at hc
        cases i <;> simpa [Addr.add] using hc
      · have := (hb z (hzi ▸ List.getElem_mem hi')).1
        show Value.int .u64 z = Value.int .u64 ((Int.toNat z : Nat) : Int)
        rw [Int.toNat_of_nonneg this]
    · obtain ⟨z, hz1, rfl⟩ := List.mem_map.1 hy
      have := hb z (List.mem_of_mem_take hz1)
      omega
/-! Opening what a call is given. -/
abbrev Vr (W : World) (a : AV) (v : Value) : Prop := VRep W (fun _ => True) [] (fun _ => 0) a v
/-- What a value of a type may be. -/
def Opn (t : TypeId) (S : AV → Prop) : Prop := ∀ (H : Type) (enc : TypeId × Value → H) (W : World) (v : Value) (d : DataW H) (ps : List MemPlace), Value.okWide Tryz.prog W .any 0 t v → DataW.Trod enc Tryz.prog W 0 (fun _ => true) true t v d ps → ∃ a, S a ∧ Vr W a v
def OpL (ts : List TypeId) (A : List AV → Prop) : Prop := ∀ (H : Type) (enc : TypeId × Value → H) (W : World) (vs : List Value) (ds : List (DataW H)) (ps : List MemPlace), (∀ (j : Nat) t v, ts[j]? = some t → vs[j]? = some v → Value.okWide Tryz.prog W .any 0 t v) →
  DataW.TrodAll enc Tryz.prog W 0 (fun _ => true) true ts vs ds ps → ds.length = ts.length ∧ ∃ avs, A avs ∧ VReps W (fun _ => True) [] (fun _ => 0) avs vs
theorem opL_nil : OpL [] (fun avs => avs = []) := fun H enc W vs ds ps hv hd => by
  obtain ⟨rfl, rfl, rfl⟩ := trodAll_nil hd
  exact ⟨rfl, [], rfl, rfl⟩
theorem opL_cons {t : TypeId} {ts : List TypeId} {S : AV → Prop} {A : List AV → Prop} (h : Opn t S) (hs : OpL ts A) : OpL (t :: ts) (fun avs => ∃ a bs, avs = a :: bs ∧ S a ∧ A bs) := fun H enc W vs ds ps hv hd => by
  obtain ⟨v, vs, d, ds, p, q, rfl, rfl, rfl, h1, h2⟩ := trodAll_cons hd
  obtain ⟨a, ha, hr⟩ := h H enc W v d p (hv 0 t v rfl rfl) h1
  obtain ⟨hl, avs, has, hrs⟩ := hs H enc W vs ds q (fun j t' v' ht hv' => hv (j + 1) t' v' (by simpa using ht) (by simpa using hv')) h2
  exact ⟨by simp [hl], a :: avs, ⟨a, avs, rfl, ha, has⟩, v, vs, rfl, hr, hrs⟩
theorem trodAll_later {P : Program} (hlo : laidOutB P = true) {H : Type} {enc : TypeId × Value → H} {W W' : World} (hB : Below W.heap.size W W') (ts : List TypeId) : ∀ (vs : List Value) (ds : List (DataW H)) (ps : List MemPlace), (ts.all fun t => P.readableRec t && decide (t < P.types.size)) = true →
    DataW.TrodAll enc P W 0 (fun _ => true) true ts vs ds ps → (∀ x ∈ ps, x.block < W.heap.size) → DataW.TrodAll enc P W' 0 (fun b => decide (b < W.heap.size)) true ts vs ds ps := by
  induction ts with
  | nil =>
    intro vs ds ps _ hd _
    obtain ⟨rfl, rfl, rfl⟩ := trodAll_nil hd
    exact trodAll_mk0
  | cons t ts ih =>
    intro vs ds ps hr hd hlt
    obtain ⟨v, vs, d, ds, p, q, rfl, rfl, rfl, h1, h2⟩ := trodAll_cons hd
    simp only [List.all_cons, Bool.and_eq_true, decide_eq_true_eq] at hr
    exact ⟨p, q, Below.trod hlo hr.1.1 hr.1.2 h1 hB (fun x hx => hlt x (List.mem_append_left _ hx)), ih vs ds q (by simp only [List.all_eq_true, Bool.and_eq_true, decide_eq_true_eq] at hr ⊢; exact hr.2) h2 (fun x hx => hlt x (List.mem_append_right _ hx)), rfl⟩
/-- A field of one cell. -/
theorem flat_get {H : Type} {enc : TypeId × Value → H} {W : World} {m : Nat} {t : TypeId} {cs : List Value} {x : DataW H × List MemPlace} {fs : Array Field} (hu : Tryz.prog.underlying t = some (.struct fs)) (h : DataW.trod enc Tryz.prog W 0 (fun _ => true) true m t cs = some x)
    (i : Nat) (f : Field) (o : Nat) (u : TypeId) (hf : fs[i]? = some f) (hu' : f.type = u) (ho : f.offset = o) (h1 : Tryz.prog.cellsOf u = 1) {c : Value} (hc : cs[o]? = some c) : ∃ n y, DataW.trod enc Tryz.prog W 0 (fun _ => true) true n u [c] = some y := by
  obtain ⟨xs, n, rfl, _, hl, hn, hel⟩ := DataW.trod_struct hu h
  have := hel i f hf
  rw [hu', ho, h1] at this
  have hi : i < xs.length := by rw [hn]; exact (Array.getElem?_eq_some_iff.1 hf).1
  rw [List.getElem?_eq_getElem hi] at this
  have e : (cs.drop o).take 1 = [c] := by
    obtain ⟨ho', hc'⟩ := List.getElem?_eq_some_iff.1 hc
    rw [List.drop_eq_getElem_cons ho', List.take_succ_cons, List.take_zero, hc']
  rw [e] at this
  exact ⟨n, _, this⟩
theorem cell_int {H : Type} {enc : TypeId × Value → H} {W : World} {m : Nat} {t : TypeId} {c : Value} {y : DataW H × List MemPlace} (hu : Tryz.prog.underlying t = some (.int .i64)) (h : DataW.trod enc Tryz.prog W 0 (fun _ => true) true m t [c] = some y) :
    ∃ n : Int, c = .int .i64 n ∧ -9223372036854775808 ≤ n ∧ n < 9223372036854775808 := by
  obtain ⟨n, hc, _, hw⟩ := DataW.trod_int hu h
  have := bounds_i64 hw
  exact ⟨n, (List.cons.inj hc).1, by omega, by omega⟩
theorem cell_bool {H : Type} {enc : TypeId × Value → H} {W : World} {m : Nat} {t : TypeId} {c : Value} {y : DataW H × List MemPlace} (hu : Tryz.prog.underlying t = some .bool) (h : DataW.trod enc Tryz.prog W 0 (fun _ => true) true m t [c] = some y) :
    ∃ b : Bool, c = .bool b := by
  obtain ⟨n, hc, _⟩ := DataW.trod_bool hu h
  exact ⟨n, (List.cons.inj hc).1⟩
theorem opn_int {t : TypeId} (hu : Tryz.prog.underlying t = some (.int .i64)) : Opn t (fun a => ∃ n : Int, a = i64 n ∧ -9223372036854775808 ≤ n ∧ n < 9223372036854775808) := fun H enc W v d ps hv hd => by
  obtain ⟨r, rfl, rfl, rfl, wr⟩ := open_int hu hv hd
  have := bounds_i64 wr
  exact ⟨_, ⟨r, rfl, by omega, by omega⟩, rfl⟩
theorem opn_bool {t : TypeId} (hu : Tryz.prog.underlying t = some .bool) : Opn t (fun a => ∃ b : Bool, a = .bool b) := fun H enc W v d ps hv hd => by
  obtain ⟨b, rfl⟩ := okWide_bool hu hv
  exact ⟨_, ⟨b, rfl⟩, rfl⟩
/-- Words of a slice. -/
def Wl (xs : List Nat) : Prop := Wd xs ∧ xs.length ≤ 9223372036854775807
theorem opn_nat : Opn 26 (fun a => ∃ xs, a = ws xs ∧ Wl xs) := fun H enc W v d ps hv hd => by
  obtain ⟨fuel, hf⟩ := hd
  obtain ⟨a, len, cap, rfl⟩ := okWide_slice Tryz.underlying26 hv
  obtain ⟨xs, h1, h2, h3⟩ := open_ws hf
  exact ⟨_, ⟨xs, rfl, h2, h3⟩, h1⟩
set_option maxRecDepth 100000 in
theorem opn_frac : Opn 30 (fun a => ∃ neg ns ds, a = .agg [.bool neg, ws ns, ws ds] ∧ Wl ns ∧ Wl ds) := fun H enc W v d ps hv hd => by
  obtain ⟨cs, rfl, hcs⟩ := okWide_struct Tryz.underlying30 hv
  obtain ⟨fuel, hf⟩ := hd
  have hcl : cs.toList.length = 3 := by simpa [cells30] using hcs
  obtain ⟨c0, c1, c2, hc⟩ : ∃ c0 c1 c2, cs.toList = [c0, c1, c2] := by
    match hh : cs.toList, hcl with
    | [c0, c1, c2], _ => exact ⟨c0, c1, c2, rfl⟩
  have hcv : (Value.agg cs).cells.toList = [c0, c1, c2] := hc
  rw [hcv] at hf
  obtain ⟨xs, m, rfl, _, hl, hn, hel⟩ := DataW.trod_struct Tryz.underlying30 hf
  have t0 : DataW.trod enc Tryz.prog W 0 (fun _ => true) true m 28 (([c0, c1, c2].drop 0).take (Tryz.prog.cellsOf 28)) = xs[0]? := hel 0 _ rfl
  rw [cells28] at t0
  have hx0 : 0 < xs.length := by rw [hn]; decide
  rw [List.getElem?_eq_getElem hx0] at t0
  obtain ⟨n2, y2, z2⟩ := flat_get Tryz.underlying30 hf 1 _ 2 26 rfl rfl rfl cells26 rfl
  obtain ⟨n0, y0, z0⟩ := flat_get Tryz.underlying28 t0 0 _ 0 4 rfl rfl rfl cells4 rfl
  obtain ⟨n1, y1, z1⟩ := flat_get Tryz.underlying28 t0 1 _ 1 26 rfl rfl rfl cells26 rfl
  obtain ⟨neg, rfl⟩ := cell_bool Tryz.underlying4 z0
  obtain ⟨ns, h1, h2, h3⟩ := open_ws z1
  obtain ⟨ds, g1, g2, g3⟩ := open_ws z2
  exact ⟨_, ⟨neg, ns, ds, rfl, ⟨h2, h3⟩, ⟨g2, g3⟩⟩, [.bool neg, c1, c2], congrArg Value.agg (by rw [← hc]), _, _, rfl, rfl, _, _, rfl, h1, _, _, rfl, g1, rfl⟩
theorem cells3 : Tryz.prog.cellsOf 3 = 1 := by kernel_rfl
theorem cellsFm : Tryz.prog.cellsOf 23 = 2 := by kernel_rfl
set_option maxRecDepth 100000 in
theorem opn_fmt : Opn 23 (fun a => ∃ k p : Int, a = .agg [i64 k, i64 p] ∧ (-9223372036854775808 ≤ k ∧ k < 9223372036854775808) ∧ -9223372036854775808 ≤ p ∧ p < 9223372036854775808) := fun H enc W v d ps hv hd => by
  obtain ⟨cs, rfl, hcs⟩ := okWide_struct Tryz.underlying23 hv
  obtain ⟨fuel, hf⟩ := hd
  have hcl : cs.toList.length = 2 := by simpa [cellsFm] using hcs
  obtain ⟨c0, c1, hc⟩ : ∃ c0 c1, cs.toList = [c0, c1] := by
    match hh : cs.toList, hcl with
    | [c0, c1], _ => exact ⟨c0, c1, rfl⟩
  have hcv : (Value.agg cs).cells.toList = [c0, c1] := hc
  rw [hcv] at hf
  obtain ⟨n0, y0, z0⟩ := flat_get Tryz.underlying23 hf 0 _ 0 3 rfl rfl rfl cells3 rfl
  obtain ⟨n1, y1, z1⟩ := flat_get Tryz.underlying23 hf 1 _ 1 3 rfl rfl rfl cells3 rfl
  obtain ⟨k, rfl, k1, k2⟩ := cell_int Tryz.underlying3 z0
  obtain ⟨p, rfl, p1, p2⟩ := cell_int Tryz.underlying3 z1
  exact ⟨_, ⟨k, p, rfl, ⟨k1, k2⟩, p1, p2⟩, [.int .i64 k, .int .i64 p], congrArg Value.agg (by rw [← hc]), _, _, rfl, rfl, _, _, rfl, rfl, rfl⟩
set_option maxRecDepth 100000 in
/-- WHAT A LAW's ANSWER GIVES ITS ROW. -/
theorem contract (f : FuncId) (fn : Func) (s : ChangeSpec) (ts : List TypeId) (A : List AV → Prop) (hp' : fn.params = ts.toArray) (hr : fn.resultTypes = #[4]) (hvars : s.vars = [])
    (hfn : ∀ (H : Type) (l : List (DataW H)), l.length = ts.length → (s.fn H (l ++ [])).results = [.lit (.bool true)] ∧ (s.fn H (l ++ [])).args = l ∧ (s.fn H (l ++ [])).vars = [])
    (hall : (ts.all fun t => Tryz.prog.readableRec t && decide (t < Tryz.prog.types.size)) = true) (hop : OpL ts A) (hlaw : ∀ avs, A avs → Ret Tryz.prog GEs f avs (.bool true))
    (H : Type) (enc : TypeId × Value → H) (W : World) (args : Array Value) (ds gs : List (DataW H)) (before : List MemPlace)
    (hval : ∀ (j : Nat) t v, fn.params[j]? = some t → args[j]? = some v → Value.okWide Tryz.prog W .any 0 t v)
    (hW : DataW.Whole enc Tryz.prog fn.params.toList s.vars false W args.toList ds gs before) (hL : laidMetH Tryz.prog laid W) :
    Calls Tryz.prog f args W fun e W' => ∃ v, e = .returned v ∧ s.post enc Tryz.prog fn false true false false W args v W' := by
  have hp : fn.params.toList = ts := by rw [hp']
  have hW' := hW
  obtain ⟨p, q, hA0, hV, rfl, hfz, hnd⟩ := hW
  have hA : DataW.TrodAll enc Tryz.prog W 0 (fun _ => true) true ts args.toList ds p := hp ▸ hA0
  rw [hvars] at hV
  obtain ⟨rfl, rfl⟩ := trodVars_none hV
  obtain ⟨hlen, avs, hS, hR⟩ := hop H enc W args.toList ds p (fun j t v ht hv => hval j t v (by rw [hp']; simpa using ht) (by simpa using hv)) hA
  simp only [List.append_nil] at hW'
  have hlt : ∀ x ∈ p, x.block < W.heap.size := fun x hx => by simpa using hW'.lt x (by simp [hx])
  have hcall := (hlaw avs hS).2 W (fun _ => True) args.toList (grep hL) hR
  rw [Array.toArray_toList] at hcall
  refine hcall.mono fun e W' ⟨v, he, hv, hB⟩ => ?_
  subst he
  obtain rfl : v = .bool true := hv
  refine ⟨_, rfl, _, _, _, [], p, [], hW', ?_, ?_, ?_, hB.frame _, ?_⟩
  · rw [(hfn H _ hlen).1, hr]
    exact trodAll_mk1 (shut_bool Tryz.underlying4 _)
  · rw [(hfn H _ hlen).2.1, hp]
    exact trodAll_later laidOut hB ts _ _ _ hall hA hlt
  · rw [(hfn H _ hlen).2.2, hvars]
    rfl
  · exact fun h => by cases h
/-- The door's own heap meets the condition. -/
theorem door_met (os : Os) (args : Array Value) : laidMetH Tryz.prog laid ((World.doorLaid Tryz.prog 600 os).forCall (fun _ _ => 0) ⟨#[], args, []⟩).memory :=
  laidMetH_of_parts3 (fuel := 8) (laidMet_of_run' 8 (by kernel_rfl) (by kernel_rfl)) (by kernel_rfl) (by kernel_rfl)
end Go.Proofs.YtenfiehjbeojeaaGreatDoor.Card
