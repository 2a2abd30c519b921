/-
  The guards of the laws. Plain Lean; no program in sight.
-/
import Derived.Test.YtokeiiakkfdmgaaGreatDoorFx
import Derived.Test.YtokeiiakkfdmgaaGreatDoorPe
set_option linter.unusedVariables false
set_option linter.unusedSimpArgs false
set_option maxRecDepth 100000
namespace Go.Proofs.YtokeiiakkfdmgaaGreatDoor.LG
open Go Go.LG Go.Lib

theorem head_true : formelaw17_head = some true := formelaw17_head_le (fu := 300) _ (by kernel_rfl)
theorem rglyph_loop (f : api_Font) (c : Int) (hf : f.Glyphs.length ≤ 1000000) : ∀ (n i : Nat), f.Glyphs.length - i = n → ∃ o, formeref07_Glyph_l31 f c (i : Int) = some o ∧ ∀ v, o = .inl v → 0 ≤ v ∧ v < (f.Glyphs.length : Int) := by
  intro n
  induction n with
  | zero => intro i hn; rw [formeref07_Glyph_l31, if_neg (by omega)]; exact ⟨_, rfl, fun v h => by cases h⟩
  | succ n ih =>
    intro i hn
    rw [formeref07_Glyph_l31, if_pos (by omega), if_pos ⟨by omega, by omega⟩, w64_id (n := (i : Int) + 1) (by omega) (by omega)]
    by_cases h : ((f.Glyphs.getD (Int.toNat (i : Int)) z_api_Glyph).Byte) = c
    · rw [if_pos h]; exact ⟨_, rfl, fun v h => by cases h; omega⟩
    · rw [if_neg h]; exact ih (i + 1) (by omega)
theorem rglyph_tot (f : api_Font) (c : Int) (hf : f.Glyphs.length ≤ 1000000) : ∃ v, formeref07_Glyph f c = some v ∧ (0 ≤ v → v < (f.Glyphs.length : Int)) := by
  obtain ⟨o, ho, h⟩ := rglyph_loop f c hf _ 0 rfl
  unfold formeref07_Glyph
  have ho' : formeref07_Glyph_l31 f c 0 = some o := ho
  rw [ho', some_bind]
  cases o with
  | inl v => exact ⟨v, rfl, fun _ => (h v rfl).2⟩
  | inr u => exact ⟨-1, rfl, fun h => by omega⟩
theorem rvalid45_tot (f : api_Font) (hf : f.Glyphs.length ≤ 1000000) : ∀ (n i : Nat), f.Glyphs.length - i = n → Tot (formeref07_Valid_l45 f (i : Int)) := by
  intro n
  induction n with
  | zero => intro i hn; rw [formeref07_Valid_l45, if_neg (by omega)]; exact Tot.val
  | succ n ih =>
    intro i hn
    rw [formeref07_Valid_l45, if_pos (by omega), if_pos ⟨by omega, by omega⟩, w64_id (n := (i : Int) + 1) (by omega) (by omega)]
    refine Tot.bind ?_ fun _ _ => Tot.ite (fun _ => Tot.val) fun _ => ih (i + 1) (by omega)
    refine Tot.ite (fun _ => Tot.val) fun _ => Tot.ite (fun _ => Tot.val) fun _ => Tot.ite (fun _ => Tot.val) fun _ => Tot.ite (fun _ => Tot.val) fun _ => Tot.ite (fun h => ?_) fun _ => Tot.val
    rw [w64_id (n := (i : Int) - 1) (by omega) (by omega)]
    exact Tot.sub ⟨by omega, by omega⟩ Tot.val
theorem rvalid124_tot (f : api_Font) (hf : f.Glyphs.length ≤ 1000000) (hk : f.Kerns.length ≤ 1000000) : ∀ (n i : Nat), f.Kerns.length - i = n → Tot (formeref07_Valid_l124 f (i : Int)) := by
  intro n
  induction n with
  | zero => intro i hn; rw [formeref07_Valid_l124, if_neg (by omega)]; exact Tot.val
  | succ n ih =>
    intro i hn
    rw [formeref07_Valid_l124, if_pos (by omega), if_pos ⟨by omega, by omega⟩, w64_id (n := (i : Int) + 1) (by omega) (by omega)]
    obtain ⟨u, hu, hu2⟩ := rglyph_tot f ((f.Kerns.getD (Int.toNat (i : Int)) z_api_Kern).Left) hf
    obtain ⟨v, hv, hv2⟩ := rglyph_tot f ((f.Kerns.getD (Int.toNat (i : Int)) z_api_Kern).Right) hf
    rw [hu, hv, some_bind, some_bind]
    refine Tot.bind ?_ fun _ _ => Tot.ite (fun _ => Tot.val) fun _ => Tot.bind ?_ fun _ _ => Tot.ite (fun _ => Tot.val) fun _ => ih (i + 1) (by omega)
    · exact Tot.ite (fun _ => Tot.val) fun h1 => Tot.ite (fun _ => Tot.val) fun _ => Tot.ite (fun _ => Tot.val) fun _ => Tot.ite (fun _ => Tot.val) fun _ => Tot.sub ⟨by omega, hu2 (by omega)⟩ Tot.val
    · refine Tot.ite (fun h => ?_) fun _ => Tot.val
      rw [w64_id (n := (i : Int) - 1) (by omega) (by omega)]
      exact Tot.sub ⟨by omega, by omega⟩ (Tot.ite (fun _ => Tot.val) fun _ => Tot.sub ⟨by omega, by omega⟩ (Tot.ite (fun _ => Tot.sub ⟨by omega, by omega⟩ Tot.val) fun _ => Tot.val))
theorem rvalid7_tot (f : api_Font) (hf : Sm f) : Tot (formeref07_Valid f) := by
  unfold formeref07_Valid
  refine Tot.bind (Tot.ite (fun _ => Tot.val) fun _ => Tot.val) fun _ _ => Tot.ite (fun _ => Tot.val) fun _ => Tot.bind (rvalid45_tot f hf.1 _ 0 rfl) fun o _ => ?_
  cases o
  · exact Tot.val
  · refine Tot.bind (rvalid124_tot f hf.1 hf.2 _ 0 rfl) fun o _ => ?_
    cases o <;> exact Tot.val
structure Use (f : api_Font) (b : api_Breaks) (l : List UInt8) (sc : Int) : Prop where
  hf : Sm f
  hk : b.Keep.length ≤ 30
  hl : l.length ≤ 60
  hv : vb b = true
  ho : okS l = true
  hs : 50 ≤ sc ∧ sc ≤ 300
theorem few_mk (f : api_Font) (b : api_Breaks) (l : List UInt8) : ∃ r, formelaw17_few f b ⟨l.toArray⟩ = some r ∧ (r = true → f.Glyphs.length ≤ 100 ∧ f.Kerns.length ≤ 210 ∧ b.Keep.length ≤ 30) := by
  unfold formelaw17_few formeref07_Few
  rw [sz]
  by_cases h1 : (f.Glyphs.length : Int) ≤ 100
  · by_cases h2 : (f.Kerns.length : Int) ≤ 210
    · by_cases h3 : (b.Keep.length : Int) ≤ 30
      · have ht : Tot ((if (l.length : Int) ≤ 60 then some true else ((if 2000 < (l.length : Int) then some (decide ((l.length : Int) < 3000)) else some false) >>= fun v55 => some v55)) >>= fun v48 => some v48) :=
          Tot.bind (Tot.ite (fun _ => Tot.val) fun _ => Tot.bind (Tot.ite (fun _ => Tot.val) fun _ => Tot.val) fun _ _ => Tot.val) fun _ _ => Tot.val
        obtain ⟨r, hr⟩ := ht
        simp only [if_pos h1, some_bind, h2, h3, decide_true, if_true, hr]
        exact ⟨r, rfl, fun _ => ⟨by omega, by omega, by omega⟩⟩
      · simp [h1, h2, h3]
    · simp [h1, h2]
  · simp [h1]
theorem usable_mk (f : api_Font) (b : api_Breaks) (l : List UInt8) (sc : Int) (hl : l.length ≤ 9223372036854775807) : ∃ r, formelaw17_usable f b ⟨l.toArray⟩ sc = some r ∧ (r = true → Use f b l sc) := by
  obtain ⟨r, hr, h1⟩ := few_mk f b l
  unfold formelaw17_usable
  rw [hr, some_bind, sz]
  cases r
  · simp
  · obtain ⟨g1, g2, g3⟩ := h1 rfl
    have hf : Sm f := ⟨by omega, by omega⟩
    obtain ⟨y, hy⟩ := rvalid7_tot f hf
    simp only [if_true, some_bind]
    by_cases h2 : (l.length : Int) ≤ 60
    · simp only [h2, decide_true, if_true, hy, some_bind, refvalid8 b (by omega), refValid_mk l hl]
      cases y
      · simp
      · cases hv : vb b
        · simp
        · cases ho : okS l
          · simp
          · simp only [if_true]
            by_cases h3 : 50 ≤ sc
            · by_cases h4 : sc ≤ 300
              · exact ⟨true, by simp [h3, h4], fun _ => ⟨hf, g3, by omega, hv, ho, h3, h4⟩⟩
              · simp [h3, h4]
            · simp [h3]
    · simp [h2]
end Go.Proofs.YtokeiiakkfdmgaaGreatDoor.LG
