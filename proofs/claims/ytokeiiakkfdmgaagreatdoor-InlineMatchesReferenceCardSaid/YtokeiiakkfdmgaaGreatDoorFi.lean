/-
 InlineFits: the plain law. Plain Lean; no program in sight.
-/
import Derived.Test.YtokeiiakkfdmgaaGreatDoorFh
set_option linter.unusedVariables false
set_option linter.unusedSimpArgs false
set_option maxRecDepth 100000
namespace Go.Proofs.YtokeiiakkfdmgaaGreatDoor.LG
open Go Go.LG Go.Lib

theorem bad_loop (r : List Int) (hr : r.length ≤ 1000000) : ∀ (n i : Nat), r.length - i = n → i ≤ r.length →
  ∃ o, slices_IndexFunc_int_k1_l22 r (i : Int) = some o ∧ ((r.drop i).any (fun x => !decide (0 ≤ x ∧ x ≤ 1000000000)) = true → ∃ k : Nat, o = .inl (k : Int)) ∧ ((r.drop i).any (fun x => !decide (0 ≤ x ∧ x ≤ 1000000000)) = false → o = .inr ()) := by
 intro n
 induction n with
 | zero =>
  intro i hn hi
  rw [slices_IndexFunc_int_k1_l22, if_neg (by omega), List.drop_eq_nil_of_le (by omega)]
  exact ⟨_, rfl, fun h => (by cases h), fun _ => rfl⟩
 | succ n ih =>
  intro i hn hi
  have hlt : i < r.length := by omega
  obtain ⟨o, h1, h2, h3⟩ := ih (i + 1) (by omega) (by omega)
  rw [slices_IndexFunc_int_k1_l22, if_pos (by omega), if_pos ⟨by omega, by omega⟩, getD_at r _ hlt, w64_id (n := (i : Int) + 1) (by omega) (by omega), add1, List.drop_eq_getElem_cons hlt, List.any_cons]
  unfold inline_Lines_1
  rw [within_mk]
  simp only [some_bind]
  by_cases hh : 0 ≤ r[i] ∧ r[i] ≤ 1000000000
  ·rw [decide_eq_true hh, if_neg (by decide)]
   exact ⟨o, h1, by simpa using h2, by simpa using h3⟩
  ·rw [decide_eq_false hh, if_pos (show (!false) = true from rfl)]
   exact ⟨_, rfl, fun _ => ⟨i, rfl⟩, fun h => by simp at h⟩
def badR (rooms : List Int) : Bool := decide (rooms = []) || rooms.any fun x => !decide (0 ≤ x ∧ x ≤ 1000000000)
theorem bad_mk (r : List Int) (hr : r.length ≤ 1000000) : ((if (r.length : Int) = 0 then some true else (slices_ContainsFunc_int_k1 r >>= fun y50 => some y50)) : Option Bool) = some (badR r) := by
 obtain ⟨o, h1, h2, h3⟩ := bad_loop r hr _ 0 rfl (Nat.zero_le _)
 have h1' : slices_IndexFunc_int_k1_l22 r 0 = some o := h1
 rw [List.drop_zero] at h2 h3
 unfold badR slices_ContainsFunc_int_k1 slices_IndexFunc_int_k1
 rw [h1', some_bind]
 by_cases h0 : r = []
 ·subst h0; rfl
 ·have h0' : ¬ (r.length : Int) = 0 := fun h => h0 (List.eq_nil_of_length_eq_zero (by omega))
  rw [if_neg h0', decide_eq_false h0, Bool.false_or]
  cases hh : r.any (fun x => !decide (0 ≤ x ∧ x ≤ 1000000000))
  ·rw [h3 hh]; rfl
  ·obtain ⟨k, rfl⟩ := h2 hh
   have : (0 : Int) ≤ (k : Int) := by omega
   simp [this]
end Go.Proofs.YtokeiiakkfdmgaaGreatDoor.LG
