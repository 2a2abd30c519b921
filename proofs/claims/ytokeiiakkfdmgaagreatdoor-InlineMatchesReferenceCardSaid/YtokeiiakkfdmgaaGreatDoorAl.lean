/-
 InlineAll: the plain law. Plain Lean; no program in sight.
-/
import Derived.Test.YtokeiiakkfdmgaaGreatDoorFl
set_option linter.unusedVariables false
set_option linter.unusedSimpArgs false
set_option maxRecDepth 100000
namespace Go.Proofs.YtokeiiakkfdmgaaGreatDoor.LG
open Go Go.LG Go.Lib

theorem rest_mk (l : List UInt8) (a : Nat) : sub ⟨l.toArray⟩ (a : Int) (l.length : Int) = ⟨(l.drop a).toArray⟩ := by
 rw [sub_data]
 congr 2
 exact List.take_of_length_le (by simp)
theorem rest_ok {l : List UInt8} (ho : okS l = true) (a : Nat) : okS (l.drop a) = true := by
 have := okS_piece ho a (l.drop a).length
 rwa [List.take_length] at this
theorem lns_len (f : api_Font) (b : api_Breaks) (l : List UInt8) (sc : Int) (R : Nat → Int) : ∀ (n a i : Nat), (lns f b l sc R n a i).length ≤ n := by
 intro n
 induction n with
 | zero => intro a i; exact Nat.le_refl _
 | succ n ih =>
  intro a i
  unfold lns
  split
  ·simp
  ·have := ih (nxl f b l sc a (R i)).1 (i + 1)
   simp; exact this
end Go.Proofs.YtokeiiakkfdmgaaGreatDoor.LG
