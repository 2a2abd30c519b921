/-
  DERIVED. GIVEN WITH THE SEED: THE CARDS: each row of YtokeiiakkfdmgaaGreatDoorRows.lean that lists a variable, with what it lists TIED to the program's text (the seventh form; the later family's looks); each row that meets fmt, with fmt's text TOLD by the authors' own Lean function (tested against real Go, not proved from fmt's source: count such statements apart). THE CARD IS WHAT COUNTS. Prove the row's statement (the work); the ties are given (YtokeiiakkfdmgaaGreatDoorTie.lean); close each card by the builder's one call (the guide's Derived/Test/ToyasCard.lean, 'card_holds'). Laid BY PROGRAM, IN A SANDBOX (cutbox-door.mjs). By AI agents, Wed Nov 11 2026. No macro, syntax, notation, axiom, sorry.
-/
import Derived.Test.YtokeiiakkfdmgaaGreatDoorRows
import GoSem.ClaimSeven
namespace Go.Proofs.YtokeiiakkfdmgaaGreatDoor
namespace Rows

/-- THE TIED CARD OF 'formelaw17.InlineMatchesReference'. -/
def inlineMatchesReferenceCard : Claim7 := { stood := { row := inlineMatchesReferenceRow, standIns := [], harness := (true, "7241061be95ab282b144f768ea01fcc73c78747010c9b4dec20fada420862ae5"), looks := false }, kinds := [], alts := [], laidByText := true, laidKinds := [.data, .pinned], laidTests := true, laidLooks := .later }
def InlineMatchesReferenceCardSaid : Prop := Claim7.holds Tryz.pinned (.plain (OpenSpec.ofChange inlineMatchesReferenceSpec)) inlineMatchesReferenceCard

/-- THE TIED CARD OF 'formelaw17.InlineAll'. -/
def inlineAllCard : Claim7 := { stood := { row := inlineAllRow, standIns := [], harness := (true, "7241061be95ab282b144f768ea01fcc73c78747010c9b4dec20fada420862ae5"), looks := false }, kinds := [], alts := [], laidByText := true, laidKinds := [.data, .pinned], laidTests := true, laidLooks := .later }
def InlineAllCardSaid : Prop := Claim7.holds Tryz.pinned (.plain (OpenSpec.ofChange inlineAllSpec)) inlineAllCard

/-- THE TIED CARD OF 'formelaw17.InlineFits'. -/
def inlineFitsCard : Claim7 := { stood := { row := inlineFitsRow, standIns := [], harness := (true, "7241061be95ab282b144f768ea01fcc73c78747010c9b4dec20fada420862ae5"), looks := false }, kinds := [], alts := [], laidByText := true, laidKinds := [.data, .pinned], laidTests := true, laidLooks := .later }
def InlineFitsCardSaid : Prop := Claim7.holds Tryz.pinned (.plain (OpenSpec.ofChange inlineFitsSpec)) inlineFitsCard

/-- THE TIED CARD OF 'formelaw17.InlineWider'. -/
def inlineWiderCard : Claim7 := { stood := { row := inlineWiderRow, standIns := [], harness := (true, "7241061be95ab282b144f768ea01fcc73c78747010c9b4dec20fada420862ae5"), looks := false }, kinds := [], alts := [], laidByText := true, laidKinds := [.data, .pinned], laidTests := true, laidLooks := .later }
def InlineWiderCardSaid : Prop := Claim7.holds Tryz.pinned (.plain (OpenSpec.ofChange inlineWiderSpec)) inlineWiderCard

/-- THE TIED CARD OF 'formelaw17.InlineOne'. -/
def inlineOneCard : Claim7 := { stood := { row := inlineOneRow, standIns := [], harness := (true, "7241061be95ab282b144f768ea01fcc73c78747010c9b4dec20fada420862ae5"), looks := false }, kinds := [], alts := [], laidByText := true, laidKinds := [.data, .pinned], laidTests := true, laidLooks := .later }
def InlineOneCardSaid : Prop := Claim7.holds Tryz.pinned (.plain (OpenSpec.ofChange inlineOneSpec)) inlineOneCard

/-- THE TIED CARD OF 'formelaw17.InlinePlaces'. -/
def inlinePlacesCard : Claim7 := { stood := { row := inlinePlacesRow, standIns := [], harness := (true, "7241061be95ab282b144f768ea01fcc73c78747010c9b4dec20fada420862ae5"), looks := false }, kinds := [], alts := [], laidByText := true, laidKinds := [.data, .pinned], laidTests := true, laidLooks := .later }
def InlinePlacesCardSaid : Prop := Claim7.holds Tryz.pinned (.plain (OpenSpec.ofChange inlinePlacesSpec)) inlinePlacesCard

/-- THE SECOND FORM's CARD OF 'formelaw17.InlineMatchesReference'. -/
def inlineMatchesReferenceUptoCard : Claim7 := { stood := { row := inlineMatchesReferenceUptoRow, standIns := [], harness := (true, "7241061be95ab282b144f768ea01fcc73c78747010c9b4dec20fada420862ae5"), looks := false }, kinds := [], alts := [], laidByText := true, laidKinds := [.data, .pinned], laidTests := true, laidLooks := .later }
def InlineMatchesReferenceUptoCardSaid : Prop := Claim7.holds Tryz.pinned (.plain (OpenSpec.upto inlineMatchesReferenceSpec)) inlineMatchesReferenceUptoCard

/-- THE SECOND FORM's CARD OF 'formelaw17.InlineAll'. -/
def inlineAllUptoCard : Claim7 := { stood := { row := inlineAllUptoRow, standIns := [], harness := (true, "7241061be95ab282b144f768ea01fcc73c78747010c9b4dec20fada420862ae5"), looks := false }, kinds := [], alts := [], laidByText := true, laidKinds := [.data, .pinned], laidTests := true, laidLooks := .later }
def InlineAllUptoCardSaid : Prop := Claim7.holds Tryz.pinned (.plain (OpenSpec.upto inlineAllSpec)) inlineAllUptoCard

/-- THE SECOND FORM's CARD OF 'formelaw17.InlineFits'. -/
def inlineFitsUptoCard : Claim7 := { stood := { row := inlineFitsUptoRow, standIns := [], harness := (true, "7241061be95ab282b144f768ea01fcc73c78747010c9b4dec20fada420862ae5"), looks := false }, kinds := [], alts := [], laidByText := true, laidKinds := [.data, .pinned], laidTests := true, laidLooks := .later }
def InlineFitsUptoCardSaid : Prop := Claim7.holds Tryz.pinned (.plain (OpenSpec.upto inlineFitsSpec)) inlineFitsUptoCard

/-- THE SECOND FORM's CARD OF 'formelaw17.InlineWider'. -/
def inlineWiderUptoCard : Claim7 := { stood := { row := inlineWiderUptoRow, standIns := [], harness := (true, "7241061be95ab282b144f768ea01fcc73c78747010c9b4dec20fada420862ae5"), looks := false }, kinds := [], alts := [], laidByText := true, laidKinds := [.data, .pinned], laidTests := true, laidLooks := .later }
def InlineWiderUptoCardSaid : Prop := Claim7.holds Tryz.pinned (.plain (OpenSpec.upto inlineWiderSpec)) inlineWiderUptoCard

/-- THE SECOND FORM's CARD OF 'formelaw17.InlineOne'. -/
def inlineOneUptoCard : Claim7 := { stood := { row := inlineOneUptoRow, standIns := [], harness := (true, "7241061be95ab282b144f768ea01fcc73c78747010c9b4dec20fada420862ae5"), looks := false }, kinds := [], alts := [], laidByText := true, laidKinds := [.data, .pinned], laidTests := true, laidLooks := .later }
def InlineOneUptoCardSaid : Prop := Claim7.holds Tryz.pinned (.plain (OpenSpec.upto inlineOneSpec)) inlineOneUptoCard

/-- THE SECOND FORM's CARD OF 'formelaw17.InlinePlaces'. -/
def inlinePlacesUptoCard : Claim7 := { stood := { row := inlinePlacesUptoRow, standIns := [], harness := (true, "7241061be95ab282b144f768ea01fcc73c78747010c9b4dec20fada420862ae5"), looks := false }, kinds := [], alts := [], laidByText := true, laidKinds := [.data, .pinned], laidTests := true, laidLooks := .later }
def InlinePlacesUptoCardSaid : Prop := Claim7.holds Tryz.pinned (.plain (OpenSpec.upto inlinePlacesSpec)) inlinePlacesUptoCard
end Rows
end Go.Proofs.YtokeiiakkfdmgaaGreatDoor
