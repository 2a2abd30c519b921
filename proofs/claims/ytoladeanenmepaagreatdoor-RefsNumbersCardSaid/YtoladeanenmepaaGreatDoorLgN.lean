/-
 LG, part N: regions whose operations may come in several orders.
-/
import Derived.Test.YtoladeanenmepaaGreatDoorLgK
import Derived.Test.YtoladeanenmepaaGreatDoorLgM
set_option linter.unusedVariables false
set_option linter.unusedSimpArgs false
namespace Go.LG
open Go.RowKit
section
variable {r : Rg} {ins : List (Nat × Value)} {ins2 : List (Nat × Value × Nat)} {vals vals' : List (Nat × Nat × Value)} {D : Nat → Bool}
end
end Go.LG
