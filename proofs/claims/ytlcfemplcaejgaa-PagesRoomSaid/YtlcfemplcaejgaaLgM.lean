/-
 LG, part M: maps that are owned.
-/
import Derived.Test.YtlcfemplcaejgaaLgJ
set_option linter.unusedVariables false
set_option linter.unusedSimpArgs false
namespace Go.LG
open Go.RowKit
def ng (es : Array MapEntry) (c : Nat) : Prop := (es.toList.map (·.born)).Nodup ∧ ∀ b ∈ es.toList.map (·.born), b < c
theorem ng.push {es : Array MapEntry} {c : Nat} (h : ng es c) {k v : Value} : ng (es.push { key := k, val := v, born := c }) (c + 1) := by
 refine ⟨?_, fun b hb => ?_⟩
 ·rw [Array.toList_push, List.map_append]
  exact List.nodup_append.2 ⟨h.1, by simp, fun a ha b hb => by
   have := h.2 a ha
   simp at hb
   omega⟩
 ·rw [Array.toList_push, List.map_append] at hb
  rcases List.mem_append.1 hb with hb | hb
  ·exact Nat.lt_succ_of_lt (h.2 b hb)
  ·simp at hb; omega
section
variable {α β : Type} [DecidableEq α] {P : Program} {ek : α → Value} {vk : β → Value}
end
section
variable {P : Program} {ro : Option Nat} {N : Nat} {ops : Array Oper} {rest : List Oper} {Q : d6} {r : Rg} {ds : List Deferred} {w : World}
variable {d : Option Nat} {ty : TypeId} {ps : String} {af : Array Edge} {gd : Option (Nat × Bool)} {x y z : Operand} {G : Gh} {L : List dv}
end
end Go.LG
