/-
  Contracts of functions of the program, each proved by a walk.
-/
import Derived.Test.YtenfiehjbeojeaaGreatDoorV22
import Derived.Test.YtenfiehjbeojeaaGreatDoorV18
import Derived.Test.YtenfiehjbeojeaaGreatDoorV31
set_option maxRecDepth 100000
set_option linter.unusedVariables false
set_option linter.unusedSimpArgs false
set_option maxRecDepth 100000
namespace Go.Proofs
open Go.Ax
end Go.Proofs
