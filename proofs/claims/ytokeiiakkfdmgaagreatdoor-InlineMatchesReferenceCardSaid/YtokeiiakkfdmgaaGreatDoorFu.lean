/-
 The guards of the laws. Plain Lean; no program in sight.
-/
import Derived.Test.YtokeiiakkfdmgaaGreatDoorFx
import Derived.Test.YtokeiiakkfdmgaaGreatDoorPe
set_option linter.unusedVariables false
set_option linter.unusedSimpArgs false
set_option maxRecDepth 100000
namespace Go.Proofs.YtokeiiakkfdmgaaGreatDoor.LG
open Go Go.LG Go.Lib

theorem head_true : formelaw17_head = some true := formelaw17_head_le (fu := 300) _ (by kernel_rfl)
theorem rglyph_loop (f : api_Font) (c : Int) (hf : f.Glyphs.length ≤ 1000000) : ∀ (n i : Nat), f.Glyphs.length - i = n → ∃ o, formeref07_Glyph_l31 f c (i : Int) = some o ∧ ∀ v, o = .inl v → 0 ≤ v ∧ v < (f.Glyphs.length : Int) := by
 intro n
 induction n with
 | zero => intro i hn; rw [formeref07_Glyph_l31, if_neg (by omega)]; exact ⟨_, rfl, fun v h => by cases h⟩
 | succ n ih =>
  intro i hn
  rw [formeref07_Glyph_l31, if_pos (by omega), if_pos ⟨by omega, by omega⟩, w64_id (n := (i : Int) + 1) (by omega) (by omega)]
  by_cases h : ((f.Glyphs.getD (Int.toNat (i : Int)) z_api_Glyph).Byte) = c
  ·rw [if_pos h]; exact ⟨_, rfl, fun v h => by cases h; omega⟩
  ·rw [if_neg h]; exact ih (i + 1) (by omega)
theorem rglyph_tot (f : api_Font) (c : Int) (hf : f.Glyphs.length ≤ 1000000) : ∃ v, formeref07_Glyph f c = some v ∧ (0 ≤ v → v < (f.Glyphs.length : Int)) := by
 obtain ⟨o, ho, h⟩ := rglyph_loop f c hf _ 0 rfl
 unfold formeref07_Glyph
 have ho' : formeref07_Glyph_l31 f c 0 = some o := ho
 rw [ho', some_bind]
 cases o with
 | inl v => exact ⟨v, rfl, fun _ => (h v rfl).2⟩
 | inr u => exact ⟨-1, rfl, fun h => by omega⟩
theorem few_mk (f : api_Font) (b : api_Breaks) (l : List UInt8) : ∃ r, formelaw17_few f b ⟨l.toArray⟩ = some r ∧ (r = true → f.Glyphs.length ≤ 100 ∧ f.Kerns.length ≤ 210 ∧ b.Keep.length ≤ 30) := by
 unfold formelaw17_few formeref07_Few
 rw [sz]
 by_cases h1 : (f.Glyphs.length : Int) ≤ 100
 ·by_cases h2 : (f.Kerns.length : Int) ≤ 210
  ·by_cases h3 : (b.Keep.length : Int) ≤ 30
   ·have ht : Tot ((if (l.length : Int) ≤ 60 then some true else ((if 2000 < (l.length : Int) then some (decide ((l.length : Int) < 3000)) else some false) >>= fun v55 => some v55)) >>= fun v48 => some v48) :=
     Tot.bind (Tot.ite (fun _ => Tot.val) fun _ => Tot.bind (Tot.ite (fun _ => Tot.val) fun _ => Tot.val) fun _ _ => Tot.val) fun _ _ => Tot.val
    obtain ⟨r, hr⟩ := ht
    simp only [if_pos h1, some_bind, h2, h3, decide_true, if_true, hr]
    exact ⟨r, rfl, fun _ => ⟨by omega, by omega, by omega⟩⟩
   ·simp [h1, h2, h3]
  ·simp [h1, h2]
 ·simp [h1]
end Go.Proofs.YtokeiiakkfdmgaaGreatDoor.LG
