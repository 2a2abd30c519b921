/-
 LG, part M: maps that are owned.
-/
import Derived.Test.YtoladeanenmepaaGreatDoorLgJ
set_option linter.unusedVariables false
set_option linter.unusedSimpArgs false
namespace Go.LG
open Go.RowKit
def bornOk (es : Array MapEntry) (c : Nat) : Prop := (es.toList.map (·.born)).Nodup ∧ ∀ b ∈ es.toList.map (·.born), b < c
theorem bornOk.push {es : Array MapEntry} {c : Nat} (h : bornOk es c) {k v : Value} : bornOk (es.push { key := k, val := v, born := c }) (c + 1) := by
 refine ⟨?_, fun b hb => ?_⟩
 ·rw [Array.toList_push, List.map_append]
  exact List.nodup_append.2 ⟨h.1, by simp, fun a ha b hb => by
   have := h.2 a ha
   simp at hb
   omega⟩
 ·rw [Array.toList_push, List.map_append] at hb
  rcases List.mem_append.1 hb with hb | hb
  ·exact Nat.lt_succ_of_lt (h.2 b hb)
  ·simp at hb; omega
theorem born_modify {es : Array MapEntry} {j : Nat} {f : MapEntry → MapEntry} (hf : ∀ e, (f e).born = e.born) : (es.modify j f).toList.map (·.born) = es.toList.map (·.born) := by
 apply List.ext_getElem?
 intro m
 simp only [List.getElem?_map, Array.getElem?_toList, Array.getElem?_modify]
 split
 ·cases es[m]? <;> simp [hf]
 ·rfl
theorem bornOk.modify {es : Array MapEntry} {c : Nat} (h : bornOk es c) {j : Nat} {f : MapEntry → MapEntry} (hf : ∀ e, (f e).born = e.born) : bornOk (es.modify j f) c := by
 unfold bornOk
 rw [born_modify hf]
 exact h
section
variable {α β : Type} [DecidableEq α] {P : Program} {ek : α → Value} {vk : β → Value}
end
section
variable {P : Program} {ro : Option Nat} {N : Nat} {ops : Array Oper} {rest : List Oper} {Q : Post} {r : Rg} {ds : List Deferred} {w : World}
variable {d : Option Nat} {ty : TypeId} {ps : String} {af : Array Edge} {gd : Option (Nat × Bool)} {x y z : Operand} {G : Gh} {L : List Itm}
end
end Go.LG
