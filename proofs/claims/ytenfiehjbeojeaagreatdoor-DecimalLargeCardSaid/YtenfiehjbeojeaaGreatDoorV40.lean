/-
  How a row opens its arguments.
-/
import Derived.Test.YtenfiehjbeojeaaGreatDoorV39
set_option linter.unusedVariables false
set_option linter.unusedSimpArgs false
set_option maxRecDepth 100000
namespace Go.Proofs.YtenfiehjbeojeaaGreatDoor.Card
open Go Go.ChangeShapes Go.WideShapes Go.ChangeAt Go.RowKit Go.Ax Go.Proofs
theorem cellsCx : Tryz.prog.cellsOf 56 = 3 := by kernel_rfl
theorem cellsRo : Tryz.prog.cellsOf 24 = 1 := by kernel_rfl
theorem cellsDc : Tryz.prog.cellsOf 59 = 4 := by kernel_rfl
theorem cellsKd : Tryz.prog.cellsOf 57 = 1 := by kernel_rfl
/-- A context, opened. -/
theorem opn_ctx : Opn 56 (fun a => ∃ p g r : Int, a = .agg [i64 p, i64 g, i64 r] ∧ (-9223372036854775808 ≤ p ∧ p < 9223372036854775808) ∧ (-9223372036854775808 ≤ g ∧ g < 9223372036854775808) ∧ -9223372036854775808 ≤ r ∧ r < 9223372036854775808) := fun H enc W v d ps hv hd => by
  obtain ⟨cs, rfl, hcs⟩ := okWide_struct Tryz.underlying56 hv
  obtain ⟨fuel, hf⟩ := hd
  have hcl : cs.toList.length = 3 := by simpa [cellsCx] using hcs
  obtain ⟨c0, c1, c2, hc⟩ : ∃ c0 c1 c2, cs.toList = [c0, c1, c2] := by
    match hh : cs.toList, hcl with
    | [c0, c1, c2], _ => exact ⟨c0, c1, c2, rfl⟩
  have hcv : (Value.agg cs).cells.toList = [c0, c1, c2] := hc
  rw [hcv] at hf
  obtain ⟨n0, y0, z0⟩ := flat_get Tryz.underlying56 hf 0 _ 0 3 rfl rfl rfl cells3 rfl
  obtain ⟨n1, y1, z1⟩ := flat_get Tryz.underlying56 hf 1 _ 1 3 rfl rfl rfl cells3 rfl
  obtain ⟨n2, y2, z2⟩ := flat_get Tryz.underlying56 hf 2 _ 2 24 rfl rfl rfl cellsRo rfl
  obtain ⟨k, rfl, k1, k2⟩ := cell_int Tryz.underlying3 z0
  obtain ⟨p, rfl, p1, p2⟩ := cell_int Tryz.underlying3 z1
  obtain ⟨r, rfl, r1, r2⟩ := cell_int Tryz.underlying24 z2
  exact ⟨_, ⟨k, p, r, rfl, ⟨k1, k2⟩, ⟨p1, p2⟩, r1, r2⟩, [.int .i64 k, .int .i64 p, .int .i64 r], congrArg Value.agg (by rw [← hc]), _, _, rfl, rfl, _, _, rfl, rfl, _, _, rfl, rfl, rfl⟩
/-- A decimal number, opened. -/
theorem opn_dec : Opn 59 (fun a => ∃ (k : Int) (n : Bool) (xs : List Nat) (e : Int), a = .agg [i64 k, .bool n, ws xs, i64 e] ∧ (-9223372036854775808 ≤ k ∧ k < 9223372036854775808) ∧ Wl xs ∧ -9223372036854775808 ≤ e ∧ e < 9223372036854775808) := fun H enc W v d ps hv hd => by
  obtain ⟨cs, rfl, hcs⟩ := okWide_struct Tryz.underlying59 hv
  obtain ⟨fuel, hf⟩ := hd
  have hcl : cs.toList.length = 4 := by simpa [cellsDc] using hcs
  obtain ⟨c0, c1, c2, c3, hc⟩ : ∃ c0 c1 c2 c3, cs.toList = [c0, c1, c2, c3] := by
    match hh : cs.toList, hcl with
    | [c0, c1, c2, c3], _ => exact ⟨c0, c1, c2, c3, rfl⟩
  have hcv : (Value.agg cs).cells.toList = [c0, c1, c2, c3] := hc
  rw [hcv] at hf
  obtain ⟨n0, y0, z0⟩ := flat_get Tryz.underlying59 hf 0 _ 0 57 rfl rfl rfl cellsKd rfl
  obtain ⟨n1, y1, z1⟩ := flat_get Tryz.underlying59 hf 1 _ 1 4 rfl rfl rfl cells4 rfl
  obtain ⟨n2, y2, z2⟩ := flat_get Tryz.underlying59 hf 2 _ 2 26 rfl rfl rfl cells26 rfl
  obtain ⟨n3, y3, z3⟩ := flat_get Tryz.underlying59 hf 3 _ 3 3 rfl rfl rfl cells3 rfl
  obtain ⟨k, rfl, k1, k2⟩ := cell_int Tryz.underlying57 z0
  obtain ⟨n, rfl⟩ := cell_bool Tryz.underlying4 z1
  obtain ⟨xs, h1, h2, h3⟩ := open_ws z2
  obtain ⟨e, rfl, e1, e2⟩ := cell_int Tryz.underlying3 z3
  exact ⟨_, ⟨k, n, xs, e, rfl, ⟨k1, k2⟩, ⟨h2, h3⟩, e1, e2⟩, [.int .i64 k, .bool n, c2, .int .i64 e], congrArg Value.agg (by rw [← hc]), _, _, rfl, rfl, _, _, rfl, rfl, _, _, rfl, h1, _, _, rfl, rfl, rfl⟩
end Go.Proofs.YtenfiehjbeojeaaGreatDoor.Card
