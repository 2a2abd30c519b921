/-
  What the rows of package text have in common: the two tables that they list, and what they give.
-/
import Derived.Test.YtpefcdchjokggaaDoorCards
import Derived.Test.YtpefcdchjokggaaDoorTie
import Derived.Test.YtpefcdchjokggaaDoorSp
import Derived.Test.YtpefcdchjokggaaDoorLgR
import Derived.Test.YtpefcdchjokggaaDoorPo
import Derived.Lib.LaidTab
import Derived.Lib.LaidU8
set_option linter.unusedVariables false
set_option linter.unusedSimpArgs false
set_option maxRecDepth 100000
namespace Go.Proofs.YtpefcdchjokggaaDoor
open Go.ChangeShapes Go.WideShapes Go.ChangeAt Go.RowKit Go.LG Go.Lib Go.Shelf
open Go.ChangeMaps (open_string shut_string)

theorem own : ownKnob Tryd.prog.godebug = none := by kernel_rfl
theorem laidOut : laidOutB Tryd.prog = true := by kernel_rfl
theorem first_is : (Go.Pinned.utf8First : DataW Unit) = Lib.firstData := by kernel_rfl
theorem accept_is : (Rows.laid_unicode_utf8_acceptRanges : DataW Unit) = Lib.acceptData := by kernel_rfl
theorem u8x : U8Extra Tryd.prog Tryd.l230_ren := ⟨by kernel_rfl, by kernel_rfl, by kernel_rfl, by kernel_rfl, by kernel_rfl, by kernel_rfl, by kernel_rfl⟩
abbrev theLaid : List (String × DataW Unit) := [("unicode/utf8.acceptRanges", Rows.laid_unicode_utf8_acceptRanges), ("unicode/utf8.first", Rows.laid_unicode_utf8_first)]

/-- What the rows' list gives. -/
theorem tab {W : World} (hL : laidMetH Tryd.prog theLaid W) (hS : W.ShapedOpen Tryd.prog) : LG.Tab W := {
  maxlen := Tryd.lM143.s1_3 W hS
  utf8 := utf8Tabs_of_reads { Tryd.l230 with } u8x
    (by have := Lib.laidMet.reads hL (.tail _ (.head _)); rw [show (Rows.laid_unicode_utf8_first : DataW Unit) = Lib.firstData from first_is] at this; exact this)
    (by have := Lib.laidMet.reads hL (.head _); rw [accept_is] at this; exact this) }
/-- What is known stays known. -/
theorem tab_cel {W : World} (h : LG.Tab W) : LG.Gl (Gh.whole W) := fun w hw => by
  obtain ⟨⟨m, hm⟩, h1, h2⟩ := h
  exact ⟨⟨m, hw _ _ hm⟩, fun c hc => hw _ _ (h1 c hc), fun i hi => ⟨hw _ _ (h2 i hi).1, hw _ _ (h2 i hi).2⟩⟩

/-- A world for the witness: the two tables as their initialisers lay them. -/
noncomputable def laidWorld (os : Os) : World :=
  let w0 := World.holding Tryd.prog os ⟨#[], #[], []⟩
  let put (h : Array Obj) (g : Nat) (cs : Array Value) : Array Obj := h.modify g fun
    | .cells _ t frozen => .cells cs t frozen
    | o => o
  { w0 with heap := put (put w0.heap 1 (Lib.firstTab.map fun z => Value.int .u8 z).toArray) 2 ((List.range 16).flatMap fun i => [Value.int .u8 (Lib.accLo i), Value.int .u8 (Lib.accHi i)]).toArray }
theorem laid_met (os : Os) (args : Array Value) : laidMet Tryd.prog theLaid ((laidWorld os).forCall (fun _ _ => 0) ⟨#[], args, []⟩).memory :=
  laidMet_of_run' 8 (by kernel_rfl) (by kernel_rfl)
end Go.Proofs.YtpefcdchjokggaaDoor
