/-
  InlineFits: the plain law. Plain Lean; no program in sight.
-/
import Derived.Test.YtokeiiakkfdmgaaGreatDoorFh
set_option linter.unusedVariables false
set_option linter.unusedSimpArgs false
set_option maxRecDepth 100000
namespace Go.Proofs.YtokeiiakkfdmgaaGreatDoor.LG
open Go Go.LG Go.Lib

theorem ends_hyph {b : api_Breaks} {l : List UInt8} {f : api_Font} (h : okP f b l = true) : hasG f l = true ∧ ∀ q ∈ ends b l, q.2 = true → hasG f [45] = true := by
  unfold okP at h
  rw [Bool.and_eq_true] at h
  refine ⟨h.1, fun q hq hy => ?_⟩
  unfold ends at hq
  rcases List.mem_append.1 hq with hq | hq
  · have : (LP b l).any (·.2) = true := List.any_eq_true.2 ⟨q, hq, hy⟩
    rw [this] at h
    simpa using h.2
  · rw [List.mem_singleton.1 hq] at hy; cases hy
theorem W_mk (f : api_Font) (hf : Sm f) (F : Fok f) (hfv : font_Valid f = some true) (b : api_Breaks) (l : List UInt8) (hl : l.length ≤ 1000) (ho : okS l = true) {sc : Int} (hsc : 50 ≤ sc ∧ sc ≤ 300) (hp : okP f b l = true) (a : Nat) {q : Nat × Bool} (hq : q ∈ ends b l) :
    font_Width f ⟨(part l a q.1 q.2).toArray⟩ sc = some (W f l sc a q, 0) := by
  obtain ⟨h1, h2⟩ := ends_hyph hp
  have h := width_e f hf F hfv (part_okS ho hl a q.1 q.2) hsc
  rw [if_pos (part_hasG h1 a q.1 q.2 (h2 q hq))] at h
  rw [h]; rfl
end Go.Proofs.YtokeiiakkfdmgaaGreatDoor.LG
