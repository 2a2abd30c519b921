/-
 InlineWider: the plain law. Plain Lean; no program in sight.
-/
import Derived.Test.YtokeiiakkfdmgaaGreatDoorFu
set_option linter.unusedVariables false
set_option linter.unusedSimpArgs false
set_option maxRecDepth 100000
namespace Go.Proofs.YtokeiiakkfdmgaaGreatDoor.LG
open Go Go.LG Go.Lib

theorem within_mk (x lo hi : Int) : inline_within_int x lo hi = some (decide (lo ≤ x ∧ x ≤ hi)) := by
 have key : ∀ a b : Int, cmp_Compare_int a b = some (if a < b then -1 else if b < a then 1 else 0) := by
  intro a b
  unfold cmp_Compare_int cmp_isNaN_int
  simp
  split
  ·rfl
  ·split <;> rfl
 unfold inline_within_int
 rw [key, some_bind]
 by_cases h1 : x < lo
 ·have : ¬ (lo ≤ x ∧ x ≤ hi) := by omega
  simp [h1, this]
 ·rw [if_neg h1]
  have h0 : (0 : Int) ≤ (if lo < x then 1 else 0) := by split <;> decide
  rw [if_pos h0, key, some_bind, some_bind]
  congr 1
  by_cases h2 : x < hi
  ·have : lo ≤ x ∧ x ≤ hi := by omega
   simp [h2, this]
  ·rw [if_neg h2]
   by_cases h3 : hi < x
   ·have : ¬ (lo ≤ x ∧ x ≤ hi) := by omega
    simp [h3, this]
   ·have : lo ≤ x ∧ x ≤ hi := by omega
    simp [h3, this]
end Go.Proofs.YtokeiiakkfdmgaaGreatDoor.LG
