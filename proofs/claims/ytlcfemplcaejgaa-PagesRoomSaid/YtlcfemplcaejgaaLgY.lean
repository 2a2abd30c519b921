/-
 LG, part Y: maps whose keys are structs; an entry that is made first and filled then.
-/
import Derived.Test.YtlcfemplcaejgaaLgM
import Derived.WideKeyRuns
set_option linter.unusedVariables false
set_option linter.unusedSimpArgs false
namespace Go.LG
open Go.RowKit
section
variable {α β : Type} [DecidableEq α]
variable {P : Program} {ek : α → Value} {vk : β → Value} {ro : Option Nat} {N : Nat} {ops : Array Oper} {rest : List Oper} {Q : d6} {r : Rg} {ds : List Deferred} {w : World}
variable {d : Option Nat} {ty : TypeId} {ps : String} {af : Array Edge} {gd : Option (Nat × Bool)} {x y z : Operand} {G : Gh} {L : List dv}
end
end Go.LG
