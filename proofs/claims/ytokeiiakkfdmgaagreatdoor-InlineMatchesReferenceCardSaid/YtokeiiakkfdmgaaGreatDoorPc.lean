/-
 InlinePlaces: the plain law. Plain Lean; no program in sight.
-/
import Derived.Test.YtokeiiakkfdmgaaGreatDoorVi
import Derived.Test.YtokeiiakkfdmgaaGreatDoorFk
import Derived.Test.YtokeiiakkfdmgaaGreatDoorFi
set_option linter.unusedVariables false
set_option linter.unusedSimpArgs false
set_option maxRecDepth 100000
namespace Go.Proofs.YtokeiiakkfdmgaaGreatDoor.LG
open Go Go.LG Go.Lib

end Go.Proofs.YtokeiiakkfdmgaaGreatDoor.LG
