/-
 LG, part J: the whole world as a ghost; contracts of the library's own in the words of LG.
-/
import Derived.Test.YtlcfemplcaejgaaLgI
set_option linter.unusedVariables false
set_option linter.unusedSimpArgs false
namespace Go.LG
open Go.RowKit
def Gh.whole (w : World) : Gh := ⟨w.cell?, fun g => w.heap[g]?, w.os, w.tape, w.output⟩
theorem Hp.whole (w : World) : Hp (Gh.whole w) [] w :=
 ⟨rfl, rfl, rfl, fun _ _ h => h, fun _ _ h => h, (fun _ h => nomatch h), (fun _ h => nomatch h), (fun _ h => nomatch h), List.Pairwise.nil⟩
theorem Hp.to_below {G : Gh} {L : List dv} {w w' : World} (h : Hp G L w') (hG : Gh.whole w ≤ G) : Below w.heap.size w w' := {
 os := h.os.trans hG.os
 tape := h.tape.trans hG.tape
 output := h.out.trans hG.out
 size := by
  by_cases h0 : w.heap.size = 0
  ·omega
  ·have hl : w.heap.size - 1 < w.heap.size := by omega
   have e : (Gh.whole w).blk (w.heap.size - 1) = some (w.heap[w.heap.size - 1]) := by simp [Gh.whole]
   have := h.blk _ _ (hG.blk _ _ e)
   have := (Array.getElem?_eq_some_iff.1 this).1
   omega
 block := fun k hk => by
  have e : (Gh.whole w).blk k = some (w.heap[k]) := by simp [Gh.whole, hk]
  rw [h.blk _ _ (hG.blk _ _ e)]
  simp [hk] }
section
variable {P : Program} {f : FuncId} {args : Array Value} {w : World} {v : Value} {G : Gh} {L : List dv}
theorem to_below (h : Calls P f args w fun e w' => ∃ G', Gh.whole w ≤ G' ∧ Hp G' L w' ∧ e = .returned v) : Calls P f args w fun e w' => e = .returned v ∧ Below w.heap.size w w' :=
 h.mono fun e w' ⟨G', hG, I, he⟩ => ⟨he, I.to_below hG⟩
def Gl (Tab : World → Prop) (G : Gh) : Prop := ∀ w, (∀ a v, G.cel a = some v → w.cell? a = some v) → (∀ g o, G.blk g = some o → w.heap[g]? = some o) → Tab w
theorem Gl.mono {Tab : World → Prop} {G G' : Gh} (h : Gl Tab G) (hG : G ≤ G') : Gl Tab G' := fun w hw hb => h w (fun a v ha => hw a v (hG.cel a v ha)) fun g o hg => hb g o (hG.blk g o hg)
theorem Gl.get {Tab : World → Prop} {G : Gh} {L : List dv} {w : World} (h : Gl Tab G) (I : Hp G L w) : Tab w := h w I.cel I.blk
end
end Go.LG
