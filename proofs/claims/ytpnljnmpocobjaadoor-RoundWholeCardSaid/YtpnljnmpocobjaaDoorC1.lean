/-
  The card of RoundWhole is proved: for every input the law answers true and its arguments read as before; no condition beyond the row.
-/
import Derived.Test.YtpnljnmpocobjaaDoorCards
import Derived.Test.YtpnljnmpocobjaaDoorTie
import Derived.WalkKit
import Derived.ProofKit
import Derived.OpenShut
import Derived.Carry
import Derived.LaidMore
import Derived.Stop.Joined
import Derived.Lib.LaidTab
import Derived.Deep.DeepHandedRow
import Derived.Test.YtpnljnmpocobjaaDoorR15
set_option linter.unusedVariables false
set_option linter.unusedSimpArgs false
namespace Go.Proofs.YtpnljnmpocobjaaDoor.Card
open Go Go.ChangeShapes Go.WideShapes Go.ChangeAt Go.RowKit Go.Ax Go.Proofs

theorem own : ownKnob Tryd.prog.godebug = none := by kernel_rfl
theorem gTab : Tryd.prog.globalNamed "math/bits.deBruijn64tab" = some 1 := by kernel_rfl
theorem gTabT : (Tryd.prog.globals[1]?).map (·.type) = some 225 := by kernel_rfl
theorem gMore : Tryd.prog.globalNamed "reckoner/fin.more" = some 0 := by kernel_rfl
theorem gMoreT : (Tryd.prog.globals[0]?).map (·.type) = some 222 := by kernel_rfl
theorem cells225 : Tryd.prog.cellsOf 225 = 64 := by kernel_rfl
theorem cells222 : Tryd.prog.cellsOf 222 = 5 := by kernel_rfl
theorem cells221 : Tryd.prog.cellsOf 221 = 1 := by kernel_rfl
theorem cells5 : Tryd.prog.cellsOf 5 = 1 := by kernel_rfl
theorem cells28 : Tryd.prog.cellsOf 28 = 3 := by kernel_rfl
theorem cells26 : Tryd.prog.cellsOf 26 = 2 := by kernel_rfl
theorem cells24 : Tryd.prog.cellsOf 24 = 1 := by kernel_rfl
theorem cells4 : Tryd.prog.cellsOf 4 = 1 := by kernel_rfl
theorem cells113 : Tryd.prog.cellsOf 113 = 1 := by kernel_rfl
theorem laidOut : laidOutB Tryd.prog = true := by kernel_rfl

/-- The two variables as the rows list them. -/
abbrev laid : List (String × DataW Unit) := [("math/bits.deBruijn64tab", Rows.laid_math_bits_deBruijn64tab), ("reckoner/fin.more", Rows.laid_reckoner_fin_more)]

theorem laid_tab : (Rows.laid_math_bits_deBruijn64tab : DataW Unit) = Lib.tabData .u8 (Lib.deBruijn64tab.map fun (n : Nat) => (n : Int)) := rfl

theorem table {W : World} (h : laidMetH Tryd.prog laid W) : Lib.TabIs Tryd.prog W "math/bits.deBruijn64tab" .u8 (Lib.deBruijn64tab.map fun (n : Nat) => (n : Int)) := by
  have h' : laidMet Tryd.prog (laid.filter fun x => x.2.handleName?.isNone) W := by
    unfold laidMetH at h
    split at h
    · rename_i e; cases e
    · exact h.1
  have e : (laid.filter fun x => x.2.handleName?.isNone) = [("math/bits.deBruijn64tab", Lib.tabData .u8 (Lib.deBruijn64tab.map fun (n : Nat) => (n : Int)))] := rfl
  rw [e] at h'
  exact Lib.tabIs_of_head gTab gTabT Tryd.underlying225 Tryd.underlying5 cells5 cells225 h'

theorem more {W : World} (h : laidMetH Tryd.prog laid W) : ∃ cs : Array Value, cs.toList = [.func (.func 216) #[] #[], .func (.func 217) #[] #[], .func (.func 218) #[] #[], .func (.func 219) #[] #[], .func (.func 220) #[] #[]] ∧ ∀ i, W.cell? ⟨0, i, none⟩ = cs[i]? := by
  obtain ⟨g, t, cs, fuel, p, hg, ht, hv, hd⟩ := h.funcs (n := "reckoner/fin.more") (List.mem_cons_of_mem _ (List.mem_singleton.2 rfl))
  obtain rfl := Option.some.inj (gMore.symm.trans hg)
  obtain rfl := Option.some.inj (gMoreT.symm.trans ht)
  obtain ⟨xs, m, rfl, hx, hl, hn, hel⟩ := DataW.trod_array Tryd.underlying222 hd
  rw [cells222] at hl
  rw [cells221] at hel
  simp only [Prod.mk.injEq] at hx
  have hx1 : xs.map (·.1) = [.held [114, 101, 99, 107, 111, 110, 101, 114, 47, 102, 105, 110, 46, 109, 111, 114, 101, 36, 49], .held [114, 101, 99, 107, 111, 110, 101, 114, 47, 102, 105, 110, 46, 109, 111, 114, 101, 36, 50], .held [114, 101, 99, 107, 111, 110, 101, 114, 47, 102, 105, 110, 46, 109, 111, 114, 101, 36, 51], .held [114, 101, 99, 107, 111, 110, 101, 114, 47, 102, 105, 110, 46, 109, 111, 114, 101, 36, 52], .held [114, 101, 99, 107, 111, 110, 101, 114, 47, 102, 105, 110, 46, 109, 111, 114, 101, 36, 53]] := (DataW.agg.inj hx.1).symm
  obtain ⟨c0, c1, c2, c3, c4, hcs⟩ : ∃ c0 c1 c2 c3 c4, cs.toList = [c0, c1, c2, c3, c4] := by
    match hh : cs.toList, hl with
    | [c0, c1, c2, c3, c4], _ => exact ⟨c0, c1, c2, c3, c4, rfl⟩
  rw [hcs] at hel
  match xs, hn, hx1, hel with
  | [x0, x1, x2, x3, x4], _, hx1, hel =>
    simp only [List.map_cons, List.map_nil, List.cons.injEq, and_true] at hx1
    obtain ⟨e0, e1, e2, e3, e4⟩ := hx1
    have k0 := hel 0 (by omega)
    have k1 := hel 1 (by omega)
    have k2 := hel 2 (by omega)
    have k3 := hel 3 (by omega)
    have k4 := hel 4 (by omega)
    simp only [Nat.zero_mul, Nat.one_mul, Nat.mul_one, List.drop, List.take, List.getElem?_cons_zero, List.getElem?_cons_succ] at k0 k1 k2 k3 k4
    obtain ⟨x0, q0⟩ := x0
    obtain ⟨x1, q1⟩ := x1
    obtain ⟨x2, q2⟩ := x2
    obtain ⟨x3, q3⟩ := x3
    obtain ⟨x4, q4⟩ := x4
    simp only at e0 e1 e2 e3 e4
    subst e0; subst e1; subst e2; subst e3; subst e4
    obtain rfl := func_of_trod (f0 := 216) Tryd.underlying221 (by kernel_rfl) k0
    obtain rfl := func_of_trod (f0 := 217) Tryd.underlying221 (by kernel_rfl) k1
    obtain rfl := func_of_trod (f0 := 218) Tryd.underlying221 (by kernel_rfl) k2
    obtain rfl := func_of_trod (f0 := 219) Tryd.underlying221 (by kernel_rfl) k3
    obtain rfl := func_of_trod (f0 := 220) Tryd.underlying221 (by kernel_rfl) k4
    exact ⟨cs, hcs, fun i => World.var?_cell gMore hv i⟩

/-- WHAT THE ROWS' LIST GIVES THE CONTRACTS. -/
theorem grep {W : World} (h : laidMetH Tryd.prog laid W) : GRep GEs W (fun _ => True) := by
  intro g cs hg hne
  refine ⟨trivial, ?_⟩
  unfold GEs at hg
  split at hg
  · rename_i e
    subst e
    obtain rfl := Option.some.inj hg
    obtain ⟨ds, h1, h2⟩ := more h
    refine MReps.of_vals (vs := ds.toList) ?_ fun i v hv => ?_
    · rw [h1]
      exact ⟨_, _, rfl, ⟨rfl, rfl⟩, _, _, rfl, ⟨rfl, rfl⟩, _, _, rfl, ⟨rfl, rfl⟩, _, _, rfl, ⟨rfl, rfl⟩, _, _, rfl, ⟨rfl, rfl⟩, rfl⟩
    · rw [Nat.zero_add, h2 i, ← hv]; simp
  · split at hg
    · rename_i e
      subst e
      obtain rfl := Option.some.inj hg
      refine MReps.of_get fun i x hx => ?_
      rw [List.getElem?_map] at hx
      obtain ⟨n, hn, rfl⟩ := Option.map_eq_some_iff.1 hx
      obtain ⟨hi, hn'⟩ := List.getElem?_eq_some_iff.1 hn
      refine ⟨.int .u8 (n : Int), ?_, rfl⟩
      rw [Nat.zero_add]
      have := (table h).cell gTab i (by simpa using hi)
      rw [this]
      simp [List.getD_eq_getElem?_getD, hi, hn']
    · cases hg

/-- A slice of words, opened. -/
theorem open_ws {H : Type} {enc : TypeId × Value → H} {W : World} {fuel : Nat} {c : Value} {x : DataW H × List MemPlace} (h : DataW.trod enc Tryd.prog W 0 (fun _ => true) true fuel 24 [c] = some x) :
    ∃ xs : List Nat, VRep W (fun _ => True) [] (fun _ => 0) (ws xs) c ∧ Wd xs ∧ xs.length ≤ 9223372036854775807 := by
  rcases open_ints Tryd.underlying24 Tryd.underlying113 cells113 h with ⟨hc, _⟩ | ⟨a, len, cap, zs, hc, _, hl, hm, hz, _, hcell, hwf⟩
  · obtain rfl := (List.cons.inj hc).1
    exact ⟨[], ⟨none, 0, rfl, Nat.le_refl _, fun h => absurd rfl h⟩, (fun x hx => by cases hx), by decide⟩
  · obtain rfl := (List.cons.inj hc).1
    simp only [if_true] at hz
    have hb : ∀ z ∈ zs, 0 ≤ z ∧ z < 18446744073709551616 := fun z hzm => by
      have := hwf z hzm
      simp [Lit.wf, IntKind.min, IntKind.max, IntKind.signed, IntKind.bits] at this
      omega
    have hlen : ((zs.take len).map Int.toNat).length = len := by rw [List.length_map, List.length_take]; omega
    refine ⟨(zs.take len).map Int.toNat, ⟨some a, cap, by rw [hlen], by rw [hlen]; exact hl, fun hne => ?_⟩, fun y hy => ?_, by rw [hlen]; have : maxLen = 9223372036854775807 := rfl; omega⟩
    · have hlen0 : 0 < len := by
        cases len with
        | zero => exact absurd rfl hne
        | succ n => omega
      have h0 := hcell 0 (by omega)
      have hs : a.spot = none := by have := World.cell?_spot h0; simpa [Addr.add] using this
      obtain ⟨b, o, s⟩ := a
      simp only at hs
      subst hs
      refine ⟨b, o, rfl, trivial, MReps.of_get fun i x hx => ?_⟩
      unfold us at hx
      rw [List.map_map, List.getElem?_map] at hx
      obtain ⟨z, hz1, rfl⟩ := Option.map_eq_some_iff.1 hx
      obtain ⟨hi, hz2⟩ := List.getElem?_eq_some_iff.1 hz1
      have hi' : i < zs.length := by rw [List.length_take] at hi; omega
      have hzi : zs[i] = z := by rw [← hz2, List.getElem_take]
      have hc := hcell i hi'
      refine ⟨.int .u64 z, ?_, ?_⟩
      · have e : zs.getD i 0 = z := by simp [List.getD_eq_getElem?_getD, hi', hzi]
        rw [e] at hc
        cases i <;> simpa [Addr.add] using hc
      · have := (hb z (hzi ▸ List.getElem_mem hi')).1
        show Value.int .u64 z = Value.int .u64 ((Int.toNat z : Nat) : Int)
        rw [Int.toNat_of_nonneg this]
    · obtain ⟨z, hz1, rfl⟩ := List.mem_map.1 hy
      have := hb z (List.mem_of_mem_take hz1)
      omega

set_option maxRecDepth 100000 in
/-- A fraction, opened. -/
theorem open_frac {H : Type} {enc : TypeId × Value → H} {W : World} {v : Value} {d : DataW H} {ps : List MemPlace} (hval : Value.okWide Tryd.prog W .any 0 28 v) (h : DataW.Trod enc Tryd.prog W 0 (fun _ => true) true 28 v d ps) :
    ∃ (neg : Bool) (ns ds : List Nat), VRep W (fun _ => True) [] (fun _ => 0) (.agg [.bool neg, ws ns, ws ds]) v ∧ Wd ns ∧ Wd ds ∧ ns.length ≤ 9223372036854775807 ∧ ds.length ≤ 9223372036854775807 := by
  obtain ⟨cs, rfl, hcs⟩ := okWide_struct Tryd.underlying28 hval
  obtain ⟨fuel, hf⟩ := h
  obtain ⟨xs, m, rfl, _, hl, hn, hel⟩ := DataW.trod_struct Tryd.underlying28 hf
  have hcl : cs.toList.length = 3 := by simpa [cells28] using hcs
  obtain ⟨c0, c1, c2, hc⟩ : ∃ c0 c1 c2, cs.toList = [c0, c1, c2] := by
    match hh : cs.toList, hcl with
    | [c0, c1, c2], _ => exact ⟨c0, c1, c2, rfl⟩
  have hcv : (Value.agg cs).cells.toList = [c0, c1, c2] := hc
  rw [hcv] at hel
  have t0 : DataW.trod enc Tryd.prog W 0 (fun _ => true) true m 26 (([c0, c1, c2].drop 0).take (Tryd.prog.cellsOf 26)) = xs[0]? := hel 0 _ rfl
  have t1 : DataW.trod enc Tryd.prog W 0 (fun _ => true) true m 24 (([c0, c1, c2].drop 2).take (Tryd.prog.cellsOf 24)) = xs[1]? := hel 1 _ rfl
  rw [cells26] at t0
  rw [cells24] at t1
  match xs, hn with
  | [x0, x1], _ =>
    simp only [List.drop, List.take, List.getElem?_cons_zero, List.getElem?_cons_succ] at t0 t1
    obtain ⟨ys, m', rfl, _, _, hn', hel'⟩ := DataW.trod_struct Tryd.underlying26 t0
    have s0 : DataW.trod enc Tryd.prog W 0 (fun _ => true) true m' 4 (([c0, c1].drop 0).take (Tryd.prog.cellsOf 4)) = ys[0]? := hel' 0 _ rfl
    have s1 : DataW.trod enc Tryd.prog W 0 (fun _ => true) true m' 24 (([c0, c1].drop 1).take (Tryd.prog.cellsOf 24)) = ys[1]? := hel' 1 _ rfl
    rw [cells4] at s0
    rw [cells24] at s1
    match ys, hn' with
    | [y0, y1], _ =>
      simp only [List.drop, List.take, List.getElem?_cons_zero, List.getElem?_cons_succ] at s0 s1
      obtain ⟨neg, hb, _⟩ := DataW.trod_bool Tryd.underlying4 s0
      obtain ⟨ns, hns, wns, lns⟩ := open_ws s1
      obtain ⟨ds, hds, wds, lds⟩ := open_ws t1
      obtain rfl := (List.cons.inj hb).1
      exact ⟨neg, ns, ds, ⟨[.bool neg, c1, c2], congrArg Value.agg (by rw [← hc]), _, _, rfl, rfl, _, _, rfl, hns, _, _, rfl, hds, rfl⟩, wns, wds, lns, lds⟩

set_option maxRecDepth 100000 in
/-- WHAT THE LAW's ANSWER GIVES THE ROW: for every law over a whole number and a fraction. -/
theorem contract (f : FuncId) (fn : Func) (s : ChangeSpec) (hp : fn.params.toList = [22, 28]) (hp' : fn.params = #[22, 28]) (hr : fn.resultTypes = #[4]) (hvars : s.vars = [])
    (hfn : ∀ (H : Type) (d1 d2 : DataW H), (s.fn H ([d1, d2] ++ [])).results = [.lit (.bool true)] ∧ (s.fn H ([d1, d2] ++ [])).args = [d1, d2] ∧ (s.fn H ([d1, d2] ++ [])).vars = [])
    (hlaw : ∀ (r : Int), -9223372036854775808 ≤ r → r < 9223372036854775808 → ∀ (neg : Bool) (ns ds : List Nat), Wd ns → Wd ds → ns.length ≤ 9223372036854775807 → ds.length ≤ 9223372036854775807 →
      Ret Tryd.prog GEs f [i64 r, .agg [.bool neg, ws ns, ws ds]] (.bool true))
    (H : Type) (enc : TypeId × Value → H) (W : World) (args : Array Value) (ds gs : List (DataW H)) (before : List MemPlace)
    (hval : ∀ (j : Nat) t v, fn.params[j]? = some t → args[j]? = some v → Value.okWide Tryd.prog W .any 0 t v)
    (hW : DataW.Whole enc Tryd.prog fn.params.toList s.vars false W args.toList ds gs before) (hL : laidMetH Tryd.prog laid W) :
    Calls Tryd.prog f args W fun e W' => ∃ v, e = .returned v ∧ s.post enc Tryd.prog fn false true false false W args v W' := by
  have hW' := hW
  obtain ⟨p, q, hA0, hV, rfl, hfz, hnd⟩ := hW
  have hA : DataW.TrodAll enc Tryd.prog W 0 (fun _ => true) true [22, 28] args.toList ds p := hp ▸ hA0
  rw [hp'] at hval
  rw [hvars] at hV
  obtain ⟨v0, v1, d0, d1, p0, p1, rfl, rfl, rfl, h0, h1⟩ := trodAll_two hA
  obtain ⟨rfl, rfl⟩ := trodVars_none hV
  obtain ⟨r, rfl, rfl, rfl, wr⟩ := open_int Tryd.underlying22 (hval 0 22 v0 rfl rfl) h0
  obtain ⟨neg, ns, ds', hv1, wn, wd, ln, ld⟩ := open_frac (hval 1 28 v1 rfl rfl) h1
  have hr64 := bounds_i64 wr
  simp only [List.append_nil] at hW'
  have hlt : ∀ x ∈ p1, x.block < W.heap.size := fun x hx => by simpa using hW'.lt x (by simp [hx])
  refine ((hlaw r (by omega) (by omega) neg ns ds' wn wd ln ld).2 W (fun _ => True) [_, _] (grep hL) ⟨_, _, rfl, rfl, _, _, rfl, hv1, rfl⟩).mono fun e W' ⟨v, he, hv, hB⟩ => ?_
  subst he
  obtain rfl : v = .bool true := hv
  refine ⟨_, rfl, _, _, _, [], [] ++ p1, [], hW', ?_, ?_, ?_, hB.frame _, ?_⟩
  · rw [(hfn H _ _).1, hr]
    exact trodAll_mk1 (shut_bool Tryd.underlying4 _)
  · rw [(hfn H _ _).2.1, hp]
    exact trodAll_mk2 (shut_int Tryd.underlying22 wr) (Below.trod laidOut (by kernel_rfl) (of_decide_eq_true (by kernel_rfl)) h1 hB hlt)
  · rw [(hfn H _ _).2.2, hvars]
    rfl
  · exact fun h => by cases h

/-- The door's own heap meets the condition. -/
theorem door_met (os : Os) (args : Array Value) : laidMetH Tryd.prog laid ((World.doorLaid Tryd.prog 600 os).forCall (fun _ _ => 0) ⟨#[], args, []⟩).memory :=
  laidMetH_of_parts3 (fuel := 8) (laidMet_of_run' 8 (by kernel_rfl) (by kernel_rfl)) (by kernel_rfl) (by kernel_rfl)

set_option maxRecDepth 100000 in
theorem roundWhole_lifted (os : Os) (started : os.Started) (H : Type) (enc : TypeId × Value → H) :
    ReturnsInHanded {} Tryd.checked os 3 .any (fun w args => (Rows.roundWholeSpec.pre enc Tryd.prog Tryd.f3 [] false w args ∧ laidMetH Tryd.prog laid w) ∧ sizedMet enc Tryd.prog Tryd.f3 (OpenSpec.ofChange Rows.roundWholeSpec) false w args)
      (Rows.roundWholeSpec.post enc Tryd.prog Tryd.f3 false true false false) := by
  refine returnsInHanded_of_change_and (C := Tryd.checked) (X := fun w _ => laidMetH Tryd.prog laid w) (fun _ _ _ hh h => h.of_heap hh) own started (by kernel_rfl) Tryd.func3
    (ChangeSpec.witness_shaped (enc := enc) (C := Tryd.checked) (os := os) (X := fun w _ => laidMetH Tryd.prog laid w) false (World.doorLaid Tryd.prog 600 os) #[.int .i64 0, .agg #[.bool false, .slice none 0 0, .slice none 0 0]] 8 rfl (World.shaped_of_RefB (by kernel_rfl) (by kernel_rfl)) (by kernel_rfl) (by kernel_rfl) (by kernel_rfl) (door_met os _)) ?_
  intro W base args ds gs before hval0 hW _ _ hL _
  exact contract 3 Tryd.f3 Rows.roundWholeSpec (by rw [Tryd.params3]) Tryd.params3 rfl rfl (fun _ _ _ => ⟨rfl, rfl, rfl⟩) (fun r h1 h2 neg ns ds hn hd h3 h4 => ret_LawRoundWhole r h1 h2 neg ns ds hn hd h3 h4) H enc W args ds gs before hval0 hW hL

theorem roundWhole_holds : Rows.RoundWholeSaid :=
  OpenClaim.holds_of_wide 3 Tryd.f3 rfl rfl rfl rfl rfl rfl rfl ⟨rfl, rfl, rfl, rfl, rfl⟩ rfl rfl rfl rfl rfl (by kernel_rfl) Tryd.func3 (by kernel_rfl)
    (of_decide_eq_true (by kernel_rfl)) (by unfold Func.isWrapper; first | (rw [if_pos (by decide +kernel)]; kernel_rfl) | (rw [if_neg (by decide +kernel)]; exact ⟨rfl, rfl⟩))
    (fun os started H enc _ => roundWhole_lifted os started H enc)

theorem roundWhole_plain (f : FuncId) (fn : Func) (hf : Tryd.pinned.checked.prog.funcNamed "reckoner/reckonerlaw16.RoundWhole" = some f) (hfn : Tryd.pinned.checked.prog.funcs[f]? = some fn) :
    false = Tryd.pinned.checked.prog.looks [] ∧ ∀ (j : Nat) t, fn.params[j]? = some t → Tryd.pinned.checked.prog.wantsStandIn t = false := by
  obtain rfl : f = 3 := Option.some.inj ((show Tryd.prog.funcNamed "reckoner/reckonerlaw16.RoundWhole" = some 3 by kernel_rfl).symm.trans hf) |>.symm
  obtain rfl : fn = Tryd.f3 := (Option.some.inj (Tryd.func3.symm.trans hfn)).symm
  refine ⟨by kernel_rfl, fun j t ht => ?_⟩
  rw [Tryd.params3] at ht
  have hm : t ∈ [22, 28] := by simpa using Array.mem_of_getElem? ht
  have hall : ([22, 28].all fun u => !Tryd.prog.wantsStandIn u) = true := by kernel_rfl
  exact (show Tryd.prog.wantsStandIn t = false by simpa using List.all_eq_true.1 hall t hm)

theorem roundWhole_card : Rows.RoundWholeCardSaid :=
  Claim7.holds_tied_plain_at .later [] _ _ _ _ roundWhole_holds (fun _ h => by cases h) (by kernel_rfl) (fun _ h => by cases h) roundWhole_row_tie rfl ⟨rfl, rfl⟩ (by kernel_rfl) rfl roundWhole_plain (by kernel_rfl)
end Go.Proofs.YtpnljnmpocobjaaDoor.Card
