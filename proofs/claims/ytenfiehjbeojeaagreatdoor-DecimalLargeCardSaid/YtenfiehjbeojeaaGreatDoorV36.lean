/-
  Contracts of functions of the program, each proved by a walk.
-/
import Derived.Test.YtenfiehjbeojeaaGreatDoorV29
import Derived.Test.YtenfiehjbeojeaaGreatDoorV34
import Derived.Test.YtenfiehjbeojeaaGreatDoorV35
set_option maxRecDepth 100000
set_option linter.unusedVariables false
set_option linter.unusedSimpArgs false
namespace Go.Proofs
open Go.Ax
end Go.Proofs
set_option linter.unusedVariables false
set_option linter.unusedSimpArgs false
set_option maxRecDepth 100000
namespace Go.Proofs
open Go.Ax
/-- Of the type. -/
structure DI.pra (d : DI) : Prop where
  k1 : -9223372036854775808 ≤ d.k
  k2 : d.k < 9223372036854775808
  e1 : -9223372036854775808 ≤ d.e
  e2 : d.e < 9223372036854775808
  wd : Wd d.cs
  len : d.cs.length ≤ 9223372036854775807
theorem DI.pra.ok {d : DI} (h : d.pra) (hl : d.cs.length ≤ 40) : d.ok := ⟨h.k1, h.k2, h.e1, h.e2, h.wd, hl⟩
theorem FitsErz (w : Nat) (hw : w ≠ 0) (hw2 : w < 1000) : Ret Tryz.prog GEs 28 [.agg [i64 0, .bool false, .lst 0 [], i64 0], i64 0, i64 w, .agg [i64 0, .bool false, .emp, i64 0], i64 0, i64 w] (.bool true) :=
  Ret_nil (ret_FitsErr w hw hw2) rfl
end Go.Proofs
