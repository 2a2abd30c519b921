/-
  DERIVED. GIVEN WITH THE SEED: THE CARDS: each row of YtpefcdchjokggaaDoorRows.lean that lists a variable, with what it lists TIED to the program's text (the seventh form; the later family's looks); each row that meets fmt, with fmt's text TOLD by the authors' own Lean function (tested against real Go, not proved from fmt's source: count such statements apart). THE CARD IS WHAT COUNTS. Prove the row's statement (the work); the ties are given (YtpefcdchjokggaaDoorTie.lean); close each card by the builder's one call (the guide's Derived/Test/ToyasCard.lean, 'card_holds'). Laid BY PROGRAM, IN A SANDBOX (cutbox-door.mjs). By AI agents, Wed Nov 11 2026. No macro, syntax, notation, axiom, sorry.
-/
import Derived.Test.YtpefcdchjokggaaDoorRows
import GoSem.ClaimSeven
namespace Go.Proofs.YtpefcdchjokggaaDoor
namespace Rows

/-- THE TIED CARD OF 'formelaw06.TextMatchesReference'. -/
def textMatchesReferenceCard : Claim7 := { stood := { row := textMatchesReferenceRow, standIns := [], harness := (true, "3bf3774314149e416bc9bd37ebf75d615385e06c10f1dd67b7deb528467df842"), looks := false }, kinds := [], alts := [], laidByText := true, laidKinds := [.data, .pinned], laidTests := true, laidLooks := .later }
def TextMatchesReferenceCardSaid : Prop := Claim7.holds Tryd.pinned (.plain (OpenSpec.ofChange textMatchesReferenceSpec)) textMatchesReferenceCard

/-- THE TIED CARD OF 'formelaw06.TextParts'. -/
def textPartsCard : Claim7 := { stood := { row := textPartsRow, standIns := [], harness := (true, "3bf3774314149e416bc9bd37ebf75d615385e06c10f1dd67b7deb528467df842"), looks := false }, kinds := [], alts := [], laidByText := true, laidKinds := [.data, .pinned], laidTests := true, laidLooks := .later }
def TextPartsCardSaid : Prop := Claim7.holds Tryd.pinned (.plain (OpenSpec.ofChange textPartsSpec)) textPartsCard

/-- THE TIED CARD OF 'formelaw06.TextClasses'. -/
def textClassesCard : Claim7 := { stood := { row := textClassesRow, standIns := [], harness := (true, "3bf3774314149e416bc9bd37ebf75d615385e06c10f1dd67b7deb528467df842"), looks := false }, kinds := [], alts := [], laidByText := true, laidKinds := [.data, .pinned], laidTests := true, laidLooks := .later }
def TextClassesCardSaid : Prop := Claim7.holds Tryd.pinned (.plain (OpenSpec.ofChange textClassesSpec)) textClassesCard

/-- THE TIED CARD OF 'formelaw06.TextWords'. -/
def textWordsCard : Claim7 := { stood := { row := textWordsRow, standIns := [], harness := (true, "3bf3774314149e416bc9bd37ebf75d615385e06c10f1dd67b7deb528467df842"), looks := false }, kinds := [], alts := [], laidByText := true, laidKinds := [.data, .pinned], laidTests := true, laidLooks := .later }
def TextWordsCardSaid : Prop := Claim7.holds Tryd.pinned (.plain (OpenSpec.ofChange textWordsSpec)) textWordsCard

/-- THE TIED CARD OF 'formelaw06.TextShown'. -/
def textShownCard : Claim7 := { stood := { row := textShownRow, standIns := [], harness := (true, "3bf3774314149e416bc9bd37ebf75d615385e06c10f1dd67b7deb528467df842"), looks := false }, kinds := [], alts := [], laidByText := true, laidKinds := [.data, .pinned], laidTests := true, laidLooks := .later }
def TextShownCardSaid : Prop := Claim7.holds Tryd.pinned (.plain (OpenSpec.ofChange textShownSpec)) textShownCard

/-- THE TIED CARD OF 'formelaw06.TextTrims'. -/
def textTrimsCard : Claim7 := { stood := { row := textTrimsRow, standIns := [], harness := (true, "3bf3774314149e416bc9bd37ebf75d615385e06c10f1dd67b7deb528467df842"), looks := false }, kinds := [], alts := [], laidByText := true, laidKinds := [.data, .pinned], laidTests := true, laidLooks := .later }
def TextTrimsCardSaid : Prop := Claim7.holds Tryd.pinned (.plain (OpenSpec.ofChange textTrimsSpec)) textTrimsCard

/-- THE SECOND FORM's CARD OF 'formelaw06.TextMatchesReference'. -/
def textMatchesReferenceUptoCard : Claim7 := { stood := { row := textMatchesReferenceUptoRow, standIns := [], harness := (true, "3bf3774314149e416bc9bd37ebf75d615385e06c10f1dd67b7deb528467df842"), looks := false }, kinds := [], alts := [], laidByText := true, laidKinds := [.data, .pinned], laidTests := true, laidLooks := .later }
def TextMatchesReferenceUptoCardSaid : Prop := Claim7.holds Tryd.pinned (.plain (OpenSpec.upto textMatchesReferenceSpec)) textMatchesReferenceUptoCard

/-- THE SECOND FORM's CARD OF 'formelaw06.TextParts'. -/
def textPartsUptoCard : Claim7 := { stood := { row := textPartsUptoRow, standIns := [], harness := (true, "3bf3774314149e416bc9bd37ebf75d615385e06c10f1dd67b7deb528467df842"), looks := false }, kinds := [], alts := [], laidByText := true, laidKinds := [.data, .pinned], laidTests := true, laidLooks := .later }
def TextPartsUptoCardSaid : Prop := Claim7.holds Tryd.pinned (.plain (OpenSpec.upto textPartsSpec)) textPartsUptoCard

/-- THE SECOND FORM's CARD OF 'formelaw06.TextClasses'. -/
def textClassesUptoCard : Claim7 := { stood := { row := textClassesUptoRow, standIns := [], harness := (true, "3bf3774314149e416bc9bd37ebf75d615385e06c10f1dd67b7deb528467df842"), looks := false }, kinds := [], alts := [], laidByText := true, laidKinds := [.data, .pinned], laidTests := true, laidLooks := .later }
def TextClassesUptoCardSaid : Prop := Claim7.holds Tryd.pinned (.plain (OpenSpec.upto textClassesSpec)) textClassesUptoCard

/-- THE SECOND FORM's CARD OF 'formelaw06.TextWords'. -/
def textWordsUptoCard : Claim7 := { stood := { row := textWordsUptoRow, standIns := [], harness := (true, "3bf3774314149e416bc9bd37ebf75d615385e06c10f1dd67b7deb528467df842"), looks := false }, kinds := [], alts := [], laidByText := true, laidKinds := [.data, .pinned], laidTests := true, laidLooks := .later }
def TextWordsUptoCardSaid : Prop := Claim7.holds Tryd.pinned (.plain (OpenSpec.upto textWordsSpec)) textWordsUptoCard

/-- THE SECOND FORM's CARD OF 'formelaw06.TextShown'. -/
def textShownUptoCard : Claim7 := { stood := { row := textShownUptoRow, standIns := [], harness := (true, "3bf3774314149e416bc9bd37ebf75d615385e06c10f1dd67b7deb528467df842"), looks := false }, kinds := [], alts := [], laidByText := true, laidKinds := [.data, .pinned], laidTests := true, laidLooks := .later }
def TextShownUptoCardSaid : Prop := Claim7.holds Tryd.pinned (.plain (OpenSpec.upto textShownSpec)) textShownUptoCard

/-- THE SECOND FORM's CARD OF 'formelaw06.TextTrims'. -/
def textTrimsUptoCard : Claim7 := { stood := { row := textTrimsUptoRow, standIns := [], harness := (true, "3bf3774314149e416bc9bd37ebf75d615385e06c10f1dd67b7deb528467df842"), looks := false }, kinds := [], alts := [], laidByText := true, laidKinds := [.data, .pinned], laidTests := true, laidLooks := .later }
def TextTrimsUptoCardSaid : Prop := Claim7.holds Tryd.pinned (.plain (OpenSpec.upto textTrimsSpec)) textTrimsUptoCard
end Rows
end Go.Proofs.YtpefcdchjokggaaDoor
