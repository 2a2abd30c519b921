/-
  DERIVED. GIVEN WITH THE SEED: THE CARDS: each row of YtoladeanenmepaaGreatDoorRows.lean that lists a variable, with what it lists TIED to the program's text (the seventh form; the later family's looks); each row that meets fmt, with fmt's text TOLD by the authors' own Lean function (tested against real Go, not proved from fmt's source: count such statements apart). THE CARD IS WHAT COUNTS. Prove the row's statement (the work); the ties are given (YtoladeanenmepaaGreatDoorTie.lean); close each card by the builder's one call (the guide's Derived/Test/ToyasCard.lean, 'card_holds'). Laid BY PROGRAM, IN A SANDBOX (cutbox-door.mjs). By AI agents, Wed Nov 11 2026. No macro, syntax, notation, axiom, sorry.
-/
import Derived.Test.YtoladeanenmepaaGreatDoorRows
import GoSem.ClaimSeven
namespace Go.Proofs.YtoladeanenmepaaGreatDoor
namespace Rows

/-- THE TIED CARD OF 'formelaw41.RefsParts'. -/
def refsPartsCard : Claim7 := { stood := { row := refsPartsRow, standIns := [], harness := (true, "dbc049222efb9a6dc1c2bfa064ae4ab9e79cf6e78c387d773ad3389ef9eb24a2"), looks := true }, kinds := [], alts := [], laidByText := true, laidKinds := [.data, .data, .data, .data, .sentinel, .sentinel, .pinned], laidTests := true, laidLooks := .later }
def RefsPartsCardSaid : Prop := Claim7.holds Tryz.pinned (.plain (OpenSpec.ofChange refsPartsSpec)) refsPartsCard

/-- THE TIED CARD OF 'formelaw41.RefsNumbers'. -/
def refsNumbersCard : Claim7 := { stood := { row := refsNumbersRow, standIns := [], harness := (true, "dbc049222efb9a6dc1c2bfa064ae4ab9e79cf6e78c387d773ad3389ef9eb24a2"), looks := true }, kinds := [], alts := [], laidByText := true, laidKinds := [.data, .data, .data, .data, .sentinel, .sentinel, .pinned], laidTests := true, laidLooks := .later }
def RefsNumbersCardSaid : Prop := Claim7.holds Tryz.pinned (.plain (OpenSpec.ofChange refsNumbersSpec)) refsNumbersCard

/-- THE SECOND FORM's CARD OF 'formelaw41.RefsParts'. -/
def refsPartsUptoCard : Claim7 := { stood := { row := refsPartsUptoRow, standIns := [], harness := (true, "dbc049222efb9a6dc1c2bfa064ae4ab9e79cf6e78c387d773ad3389ef9eb24a2"), looks := true }, kinds := [], alts := [], laidByText := true, laidKinds := [.data, .data, .data, .data, .sentinel, .sentinel, .pinned], laidTests := true, laidLooks := .later }
def RefsPartsUptoCardSaid : Prop := Claim7.holds Tryz.pinned (.plain (OpenSpec.upto refsPartsSpec)) refsPartsUptoCard

/-- THE SECOND FORM's CARD OF 'formelaw41.RefsNumbers'. -/
def refsNumbersUptoCard : Claim7 := { stood := { row := refsNumbersUptoRow, standIns := [], harness := (true, "dbc049222efb9a6dc1c2bfa064ae4ab9e79cf6e78c387d773ad3389ef9eb24a2"), looks := true }, kinds := [], alts := [], laidByText := true, laidKinds := [.data, .data, .data, .data, .sentinel, .sentinel, .pinned], laidTests := true, laidLooks := .later }
def RefsNumbersUptoCardSaid : Prop := Claim7.holds Tryz.pinned (.plain (OpenSpec.upto refsNumbersSpec)) refsNumbersUptoCard
end Rows
end Go.Proofs.YtoladeanenmepaaGreatDoor
