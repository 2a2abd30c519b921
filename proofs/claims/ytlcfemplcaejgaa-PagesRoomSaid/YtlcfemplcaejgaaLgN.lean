/-
 LG, part N: regions whose operations may come in several orders.
-/
import Derived.Test.YtlcfemplcaejgaaLgK
import Derived.Test.YtlcfemplcaejgaaLgM
set_option linter.unusedVariables false
set_option linter.unusedSimpArgs false
namespace Go.LG
open Go.RowKit
section
variable {r : Rg} {ins : List (Nat × Value)} {ins2 : List (Nat × Value × Nat)} {vals vals' : List (Nat × Nat × Value)} {D : Nat → Bool}
theorem ag.re (h : ag ins ins2 vals D r) (hn : ∀ e ∈ vals', e ∈ vals ∨ D e.1 = false) : ag ins ins2 vals' D r :=
 ⟨h.ins, h.ins2, fun e he hu => by
  rcases hn e he with h' | h'
  ·exact h.vals e h' hu
  ·rw [h'] at hu; cases hu⟩
end
end Go.LG
