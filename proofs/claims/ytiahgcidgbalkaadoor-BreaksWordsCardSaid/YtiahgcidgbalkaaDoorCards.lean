/-
  DERIVED. GIVEN WITH THE SEED: THE CARDS: each row of YtiahgcidgbalkaaDoorRows.lean that lists a variable, with what it lists TIED to the program's text (the seventh form; the later family's looks); each row that meets fmt, with fmt's text TOLD by the authors' own Lean function (tested against real Go, not proved from fmt's source: count such statements apart). THE CARD IS WHAT COUNTS. Prove the row's statement (the work); the ties are given (YtiahgcidgbalkaaDoorTie.lean); close each card by the builder's one call (the guide's Derived/Test/ToyasCard.lean, 'card_holds'). Laid BY PROGRAM, IN A SANDBOX (cutbox-door.mjs). By AI agents, Wed Nov 11 2026. No macro, syntax, notation, axiom, sorry.
-/
import Derived.Test.YtiahgcidgbalkaaDoorRows
import GoSem.ClaimSeven
namespace Go.Proofs.YtiahgcidgbalkaaDoor
namespace Rows

/-- THE TIED CARD OF 'formelaw08.BreaksMatchesReference'. -/
def breaksMatchesReferenceCard : Claim7 := { stood := { row := breaksMatchesReferenceRow, standIns := [], harness := (true, "85dc50aa638752074779fd303d9380b7a0b39c96259167c05b1083efbef93f63"), looks := false }, kinds := [], alts := [], laidByText := true, laidKinds := [.data, .pinned], laidTests := true, laidLooks := .later }
def BreaksMatchesReferenceCardSaid : Prop := Claim7.holds Tryd.pinned (.plain (OpenSpec.ofChange breaksMatchesReferenceSpec)) breaksMatchesReferenceCard

/-- THE TIED CARD OF 'formelaw08.BreaksPlaces'. -/
def breaksPlacesCard : Claim7 := { stood := { row := breaksPlacesRow, standIns := [], harness := (true, "85dc50aa638752074779fd303d9380b7a0b39c96259167c05b1083efbef93f63"), looks := false }, kinds := [], alts := [], laidByText := true, laidKinds := [.data, .pinned], laidTests := true, laidLooks := .later }
def BreaksPlacesCardSaid : Prop := Claim7.holds Tryd.pinned (.plain (OpenSpec.ofChange breaksPlacesSpec)) breaksPlacesCard

/-- THE TIED CARD OF 'formelaw08.BreaksKeeps'. -/
def breaksKeepsCard : Claim7 := { stood := { row := breaksKeepsRow, standIns := [], harness := (true, "85dc50aa638752074779fd303d9380b7a0b39c96259167c05b1083efbef93f63"), looks := false }, kinds := [], alts := [], laidByText := true, laidKinds := [.data, .pinned], laidTests := true, laidLooks := .later }
def BreaksKeepsCardSaid : Prop := Claim7.holds Tryd.pinned (.plain (OpenSpec.ofChange breaksKeepsSpec)) breaksKeepsCard

/-- THE TIED CARD OF 'formelaw08.BreaksStricter'. -/
def breaksStricterCard : Claim7 := { stood := { row := breaksStricterRow, standIns := [], harness := (true, "85dc50aa638752074779fd303d9380b7a0b39c96259167c05b1083efbef93f63"), looks := false }, kinds := [], alts := [], laidByText := true, laidKinds := [.data, .pinned], laidTests := true, laidLooks := .later }
def BreaksStricterCardSaid : Prop := Claim7.holds Tryd.pinned (.plain (OpenSpec.ofChange breaksStricterSpec)) breaksStricterCard

/-- THE TIED CARD OF 'formelaw08.BreaksJoins'. -/
def breaksJoinsCard : Claim7 := { stood := { row := breaksJoinsRow, standIns := [], harness := (true, "85dc50aa638752074779fd303d9380b7a0b39c96259167c05b1083efbef93f63"), looks := false }, kinds := [], alts := [], laidByText := true, laidKinds := [.data, .pinned], laidTests := true, laidLooks := .later }
def BreaksJoinsCardSaid : Prop := Claim7.holds Tryd.pinned (.plain (OpenSpec.ofChange breaksJoinsSpec)) breaksJoinsCard

/-- THE TIED CARD OF 'formelaw08.BreaksWords'. -/
def breaksWordsCard : Claim7 := { stood := { row := breaksWordsRow, standIns := [], harness := (true, "85dc50aa638752074779fd303d9380b7a0b39c96259167c05b1083efbef93f63"), looks := false }, kinds := [], alts := [], laidByText := true, laidKinds := [.data, .pinned], laidTests := true, laidLooks := .later }
def BreaksWordsCardSaid : Prop := Claim7.holds Tryd.pinned (.plain (OpenSpec.ofChange breaksWordsSpec)) breaksWordsCard

/-- THE SECOND FORM's CARD OF 'formelaw08.BreaksMatchesReference'. -/
def breaksMatchesReferenceUptoCard : Claim7 := { stood := { row := breaksMatchesReferenceUptoRow, standIns := [], harness := (true, "85dc50aa638752074779fd303d9380b7a0b39c96259167c05b1083efbef93f63"), looks := false }, kinds := [], alts := [], laidByText := true, laidKinds := [.data, .pinned], laidTests := true, laidLooks := .later }
def BreaksMatchesReferenceUptoCardSaid : Prop := Claim7.holds Tryd.pinned (.plain (OpenSpec.upto breaksMatchesReferenceSpec)) breaksMatchesReferenceUptoCard

/-- THE SECOND FORM's CARD OF 'formelaw08.BreaksPlaces'. -/
def breaksPlacesUptoCard : Claim7 := { stood := { row := breaksPlacesUptoRow, standIns := [], harness := (true, "85dc50aa638752074779fd303d9380b7a0b39c96259167c05b1083efbef93f63"), looks := false }, kinds := [], alts := [], laidByText := true, laidKinds := [.data, .pinned], laidTests := true, laidLooks := .later }
def BreaksPlacesUptoCardSaid : Prop := Claim7.holds Tryd.pinned (.plain (OpenSpec.upto breaksPlacesSpec)) breaksPlacesUptoCard

/-- THE SECOND FORM's CARD OF 'formelaw08.BreaksKeeps'. -/
def breaksKeepsUptoCard : Claim7 := { stood := { row := breaksKeepsUptoRow, standIns := [], harness := (true, "85dc50aa638752074779fd303d9380b7a0b39c96259167c05b1083efbef93f63"), looks := false }, kinds := [], alts := [], laidByText := true, laidKinds := [.data, .pinned], laidTests := true, laidLooks := .later }
def BreaksKeepsUptoCardSaid : Prop := Claim7.holds Tryd.pinned (.plain (OpenSpec.upto breaksKeepsSpec)) breaksKeepsUptoCard

/-- THE SECOND FORM's CARD OF 'formelaw08.BreaksStricter'. -/
def breaksStricterUptoCard : Claim7 := { stood := { row := breaksStricterUptoRow, standIns := [], harness := (true, "85dc50aa638752074779fd303d9380b7a0b39c96259167c05b1083efbef93f63"), looks := false }, kinds := [], alts := [], laidByText := true, laidKinds := [.data, .pinned], laidTests := true, laidLooks := .later }
def BreaksStricterUptoCardSaid : Prop := Claim7.holds Tryd.pinned (.plain (OpenSpec.upto breaksStricterSpec)) breaksStricterUptoCard

/-- THE SECOND FORM's CARD OF 'formelaw08.BreaksJoins'. -/
def breaksJoinsUptoCard : Claim7 := { stood := { row := breaksJoinsUptoRow, standIns := [], harness := (true, "85dc50aa638752074779fd303d9380b7a0b39c96259167c05b1083efbef93f63"), looks := false }, kinds := [], alts := [], laidByText := true, laidKinds := [.data, .pinned], laidTests := true, laidLooks := .later }
def BreaksJoinsUptoCardSaid : Prop := Claim7.holds Tryd.pinned (.plain (OpenSpec.upto breaksJoinsSpec)) breaksJoinsUptoCard

/-- THE SECOND FORM's CARD OF 'formelaw08.BreaksWords'. -/
def breaksWordsUptoCard : Claim7 := { stood := { row := breaksWordsUptoRow, standIns := [], harness := (true, "85dc50aa638752074779fd303d9380b7a0b39c96259167c05b1083efbef93f63"), looks := false }, kinds := [], alts := [], laidByText := true, laidKinds := [.data, .pinned], laidTests := true, laidLooks := .later }
def BreaksWordsUptoCardSaid : Prop := Claim7.holds Tryd.pinned (.plain (OpenSpec.upto breaksWordsSpec)) breaksWordsUptoCard
end Rows
end Go.Proofs.YtiahgcidgbalkaaDoor
