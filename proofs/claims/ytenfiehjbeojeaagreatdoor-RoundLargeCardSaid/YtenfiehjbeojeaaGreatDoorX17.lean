/-
  Contracts of functions of the program, each proved by a walk.
-/
import Derived.Test.YtenfiehjbeojeaaGreatDoorX13
import Derived.Test.YtenfiehjbeojeaaGreatDoorX16
import Derived.Test.YtenfiehjbeojeaaGreatDoorX9
set_option maxRecDepth 100000
set_option linter.unusedVariables false
set_option linter.unusedSimpArgs false
namespace Go.Proofs
open Go.Ax
end Go.Proofs
