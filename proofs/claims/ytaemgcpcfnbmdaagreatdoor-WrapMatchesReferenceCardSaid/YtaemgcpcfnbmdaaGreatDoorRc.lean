/-
  What the rows of this seat have in common: what they list, and how their arguments are opened.
-/
import Derived.Test.YtaemgcpcfnbmdaaGreatDoorCards
import Derived.Test.YtaemgcpcfnbmdaaGreatDoorTie
import Derived.Test.YtaemgcpcfnbmdaaGreatDoorLgO
import Derived.Test.YtaemgcpcfnbmdaaGreatDoorTy
import Derived.Test.YtaemgcpcfnbmdaaGreatDoorLa
import Derived.Lib.LaidTab
import Derived.Lib.LaidU8
set_option linter.unusedVariables false
set_option linter.unusedSimpArgs false
set_option maxRecDepth 100000
namespace Go.Proofs.YtaemgcpcfnbmdaaGreatDoor
open Go.ChangeShapes Go.WideShapes Go.ChangeAt Go.RowKit Go.LG Go.Lib Go.Shelf
theorem own : ownKnob Tryz.prog.godebug = none := by kernel_rfl
theorem laidOut : laidOutB Tryz.prog = true := by kernel_rfl
def ok_api_Glyph (x : LG.aA) : Prop := (Lit.int .u8 x.Byte).wf = true ∧ (Lit.int .i64 x.Advance).wf = true
theorem op_api_Glyph {H : Type} {enc : TypeId × Value → H} {W : World} : vR enc Tryz.prog W 103 LG.au ok_api_Glyph :=
  uW (sj (na Tryz.underlying103 (by kernel_rfl) (gK rfl rfl (by kernel_rfl) (jz Tryz.underlying5) (oW rfl rfl (by kernel_rfl) (jz Tryz.underlying3)))) (fun a => ⟨a.1, a.2⟩) (fun _ => rfl)) (fun _ h => h)
def ok_api_Kern (x : LG.bX) : Prop := (Lit.int .u8 x.Left).wf = true ∧ (Lit.int .u8 x.Right).wf = true ∧ (Lit.int .i64 x.By).wf = true
theorem op_api_Kern {H : Type} {enc : TypeId × Value → H} {W : World} : vR enc Tryz.prog W 122 LG.ay ok_api_Kern :=
  uW (sj (na Tryz.underlying122 (by kernel_rfl) (gK rfl rfl (by kernel_rfl) (jz Tryz.underlying5) (gK rfl rfl (by kernel_rfl) (jz Tryz.underlying5) (oW rfl rfl (by kernel_rfl) (jz Tryz.underlying3))))) (fun a => ⟨a.1, a.2.1, a.2.2⟩) (fun _ => rfl)) (fun _ h => h)
def ok_api_Font (x : LG.ai) : Prop := (x.Glyphs.length * 16 ≤ 140737488351232 ∧ ∀ y0 ∈ x.Glyphs, ok_api_Glyph y0) ∧ (x.Kerns.length * 16 ≤ 140737488351232 ∧ ∀ y0 ∈ x.Kerns, ok_api_Kern y0)
theorem op_api_Font {H : Type} {enc : TypeId × Value → H} {W : World} : vR enc Tryz.prog W 25 LG.tP ok_api_Font :=
  uW (sj (na Tryz.underlying25 (by kernel_rfl) (gK rfl rfl (by kernel_rfl) (rD (b := 16) Tryz.underlying22 (by kernel_rfl) (by kernel_rfl) op_api_Glyph) (oW rfl rfl (by kernel_rfl) (rD (b := 16) Tryz.underlying23 (by kernel_rfl) (by kernel_rfl) op_api_Kern)))) (fun a => ⟨a.1, a.2⟩) (fun _ => rfl)) (fun _ h => h)
def ok_api_Breaks (x : LG.ak) : Prop := (Lit.int .i64 x.Before).wf = true ∧ (Lit.int .i64 x.Behind).wf = true ∧ (x.Keep.length * 16 ≤ 140737488351232 ∧ ∀ y0 ∈ x.Keep, y0.size ≤ 140737488351232)
theorem op_api_Breaks {H : Type} {enc : TypeId × Value → H} {W : World} : vR enc Tryz.prog W 28 LG.sa ok_api_Breaks :=
  uW (sj (na Tryz.underlying28 (by kernel_rfl) (gK rfl rfl (by kernel_rfl) (jz Tryz.underlying3) (gK rfl rfl (by kernel_rfl) (jz Tryz.underlying3) (oW rfl rfl (by kernel_rfl) (rD (b := 16) Tryz.underlying26 (by kernel_rfl) (by kernel_rfl) (Dl Tryz.underlying9)))))) (fun a => ⟨a.1, a.2.1, a.2.2⟩) (fun _ => rfl)) (fun _ h => h)
def ok_formelaw21_Set (x : LG.eX) : Prop := (Lit.int .i64 x.Scale).wf = true ∧ (Lit.int .i64 x.Line).wf = true ∧ (Lit.int .i64 x.Align).wf = true ∧ (Lit.int .i64 x.Dir).wf = true ∧ (Lit.int .i64 x.Width).wf = true ∧ (Lit.int .i64 x.Y).wf = true
theorem op_formelaw21_Set {H : Type} {enc : TypeId × Value → H} {W : World} : vR enc Tryz.prog W 30 LG.oU ok_formelaw21_Set :=
  uW (sj (na Tryz.underlying30 (by kernel_rfl) (gK rfl rfl (by kernel_rfl) (jz Tryz.underlying3) (gK rfl rfl (by kernel_rfl) (jz Tryz.underlying3) (gK rfl rfl (by kernel_rfl) (jz Tryz.underlying3) (gK rfl rfl (by kernel_rfl) (jz Tryz.underlying3) (gK rfl rfl (by kernel_rfl) (jz Tryz.underlying3) (oW rfl rfl (by kernel_rfl) (jz Tryz.underlying3)))))))) (fun a => ⟨a.1, a.2.1, a.2.2.1, a.2.2.2.1, a.2.2.2.2.1, a.2.2.2.2.2⟩) (fun _ => rfl)) (fun _ h => h)
def ok_api_Float (x : LG.ab) : Prop := (Lit.int .i64 x.Side).wf = true ∧ (Lit.int .i64 x.X).wf = true ∧ (Lit.int .i64 x.Y).wf = true ∧ (Lit.int .i64 x.W).wf = true ∧ (Lit.int .i64 x.H).wf = true
theorem op_api_Float {H : Type} {enc : TypeId × Value → H} {W : World} : vR enc Tryz.prog W 57 LG.bm ok_api_Float :=
  uW (sj (na Tryz.underlying57 (by kernel_rfl) (gK rfl rfl (by kernel_rfl) (jz Tryz.underlying3) (gK rfl rfl (by kernel_rfl) (jz Tryz.underlying3) (gK rfl rfl (by kernel_rfl) (jz Tryz.underlying3) (gK rfl rfl (by kernel_rfl) (jz Tryz.underlying3) (oW rfl rfl (by kernel_rfl) (jz Tryz.underlying3))))))) (fun a => ⟨a.1, a.2.1, a.2.2.1, a.2.2.2.1, a.2.2.2.2⟩) (fun _ => rfl)) (fun _ h => h)
theorem big {n : Nat} (h : n ≤ 140737488351232) : n ≤ 9223372036854775807 := by omega
theorem big2 {n : Nat} (h : n ≤ 140737488351232) : n ≤ 4611686018427387000 := by omega
theorem first_is : (Go.Pinned.utf8First : DataW Unit) = Lib.firstData := by kernel_rfl
theorem accept_is : (Rows.laid_unicode_utf8_acceptRanges : DataW Unit) = Lib.acceptData := by kernel_rfl
abbrev theLaid : List (String × DataW Unit) := [("unicode/utf8.acceptRanges", Rows.laid_unicode_utf8_acceptRanges), ("unicode/utf8.first", Rows.laid_unicode_utf8_first)]
/-- What the rows' list gives. -/
theorem tab {W : World} (hL : laidMetH Tryz.prog theLaid W) (hS : W.ShapedOpen Tryz.prog) : LG.Tab W := {
  maxlen := Tryz.lM155.s1_3 W hS }
/-- What is known stays known. -/
theorem tab_cel {W : World} (h : LG.Tab W) : LG.Gl (Gh.whole W) := fun w hw => by
  obtain ⟨⟨m, hm⟩⟩ := h
  exact ⟨⟨m, hw _ _ hm⟩⟩
/-- A world for the witness: the two tables as their initialisers lay them. -/
noncomputable def laidWorld (os : Os) : World :=
  let w0 := World.holding Tryz.prog os ⟨#[], #[], []⟩
  let put (h : Array Obj) (g : Nat) (cs : Array Value) : Array Obj := h.modify g fun
    | .cells _ t frozen => .cells cs t frozen
    | o => o
  { w0 with heap := put (put w0.heap 0 (Lib.firstTab.map fun z => Value.int .u8 z).toArray) 1 ((List.range 16).flatMap fun i => [Value.int .u8 (Lib.accLo i), Value.int .u8 (Lib.accHi i)]).toArray }
theorem laid_met (os : Os) (args : Array Value) : laidMet Tryz.prog theLaid ((laidWorld os).forCall (fun _ _ => 0) ⟨#[], args, []⟩).memory :=
  laidMet_of_run' 8 (by kernel_rfl) (by kernel_rfl)
end Go.Proofs.YtaemgcpcfnbmdaaGreatDoor
