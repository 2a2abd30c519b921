/-
  DERIVED. GIVEN WITH THE SEED: THE CARDS: each row of YtaemgcpcfnbmdaaGreatDoorRows.lean that lists a variable, with what it lists TIED to the program's text (the seventh form; the later family's looks); each row that meets fmt, with fmt's text TOLD by the authors' own Lean function (tested against real Go, not proved from fmt's source: count such statements apart). THE CARD IS WHAT COUNTS. Prove the row's statement (the work); the ties are given (YtaemgcpcfnbmdaaGreatDoorTie.lean); close each card by the builder's one call (the guide's Derived/Test/ToyasCard.lean, 'card_holds'). Laid BY PROGRAM, IN A SANDBOX (cutbox-door.mjs). By AI agents, Wed Nov 11 2026. No macro, syntax, notation, axiom, sorry.
-/
import Derived.Test.YtaemgcpcfnbmdaaGreatDoorRows
import GoSem.ClaimSeven
namespace Go.Proofs.YtaemgcpcfnbmdaaGreatDoor
namespace Rows

/-- THE TIED CARD OF 'formelaw21.WrapMatchesReference'. -/
def wrapMatchesReferenceCard : Claim7 := { stood := { row := wrapMatchesReferenceRow, standIns := [], harness := (true, "718c072742c4112243e8184b533169bd28cf73234a460b8119d56479f0d281de"), looks := false }, kinds := [], alts := [], laidByText := true, laidKinds := [.data, .pinned], laidTests := true, laidLooks := .later }
def WrapMatchesReferenceCardSaid : Prop := Claim7.holds Tryz.pinned (.plain (OpenSpec.ofChange wrapMatchesReferenceSpec)) wrapMatchesReferenceCard

/-- THE TIED CARD OF 'formelaw21.WrapPlain'. -/
def wrapPlainCard : Claim7 := { stood := { row := wrapPlainRow, standIns := [], harness := (true, "718c072742c4112243e8184b533169bd28cf73234a460b8119d56479f0d281de"), looks := false }, kinds := [], alts := [], laidByText := true, laidKinds := [.data, .pinned], laidTests := true, laidLooks := .later }
def WrapPlainCardSaid : Prop := Claim7.holds Tryz.pinned (.plain (OpenSpec.ofChange wrapPlainSpec)) wrapPlainCard

/-- THE TIED CARD OF 'formelaw21.WrapClear'. -/
def wrapClearCard : Claim7 := { stood := { row := wrapClearRow, standIns := [], harness := (true, "718c072742c4112243e8184b533169bd28cf73234a460b8119d56479f0d281de"), looks := false }, kinds := [], alts := [], laidByText := true, laidKinds := [.data, .pinned], laidTests := true, laidLooks := .later }
def WrapClearCardSaid : Prop := Claim7.holds Tryz.pinned (.plain (OpenSpec.ofChange wrapClearSpec)) wrapClearCard

/-- THE TIED CARD OF 'formelaw21.WrapDown'. -/
def wrapDownCard : Claim7 := { stood := { row := wrapDownRow, standIns := [], harness := (true, "718c072742c4112243e8184b533169bd28cf73234a460b8119d56479f0d281de"), looks := false }, kinds := [], alts := [], laidByText := true, laidKinds := [.data, .pinned], laidTests := true, laidLooks := .later }
def WrapDownCardSaid : Prop := Claim7.holds Tryz.pinned (.plain (OpenSpec.ofChange wrapDownSpec)) wrapDownCard

/-- THE TIED CARD OF 'formelaw21.WrapLetters'. -/
def wrapLettersCard : Claim7 := { stood := { row := wrapLettersRow, standIns := [], harness := (true, "718c072742c4112243e8184b533169bd28cf73234a460b8119d56479f0d281de"), looks := false }, kinds := [], alts := [], laidByText := true, laidKinds := [.data, .pinned], laidTests := true, laidLooks := .later }
def WrapLettersCardSaid : Prop := Claim7.holds Tryz.pinned (.plain (OpenSpec.ofChange wrapLettersSpec)) wrapLettersCard

/-- THE TIED CARD OF 'formelaw21.WrapOthers'. -/
def wrapOthersCard : Claim7 := { stood := { row := wrapOthersRow, standIns := [], harness := (true, "718c072742c4112243e8184b533169bd28cf73234a460b8119d56479f0d281de"), looks := false }, kinds := [], alts := [], laidByText := true, laidKinds := [.data, .pinned], laidTests := true, laidLooks := .later }
def WrapOthersCardSaid : Prop := Claim7.holds Tryz.pinned (.plain (OpenSpec.ofChange wrapOthersSpec)) wrapOthersCard

/-- THE TIED CARD OF 'formelaw21.WrapMoves'. -/
def wrapMovesCard : Claim7 := { stood := { row := wrapMovesRow, standIns := [], harness := (true, "718c072742c4112243e8184b533169bd28cf73234a460b8119d56479f0d281de"), looks := false }, kinds := [], alts := [], laidByText := true, laidKinds := [.data, .pinned], laidTests := true, laidLooks := .later }
def WrapMovesCardSaid : Prop := Claim7.holds Tryz.pinned (.plain (OpenSpec.ofChange wrapMovesSpec)) wrapMovesCard

/-- THE SECOND FORM's CARD OF 'formelaw21.WrapMatchesReference'. -/
def wrapMatchesReferenceUptoCard : Claim7 := { stood := { row := wrapMatchesReferenceUptoRow, standIns := [], harness := (true, "718c072742c4112243e8184b533169bd28cf73234a460b8119d56479f0d281de"), looks := false }, kinds := [], alts := [], laidByText := true, laidKinds := [.data, .pinned], laidTests := true, laidLooks := .later }
def WrapMatchesReferenceUptoCardSaid : Prop := Claim7.holds Tryz.pinned (.plain (OpenSpec.upto wrapMatchesReferenceSpec)) wrapMatchesReferenceUptoCard

/-- THE SECOND FORM's CARD OF 'formelaw21.WrapPlain'. -/
def wrapPlainUptoCard : Claim7 := { stood := { row := wrapPlainUptoRow, standIns := [], harness := (true, "718c072742c4112243e8184b533169bd28cf73234a460b8119d56479f0d281de"), looks := false }, kinds := [], alts := [], laidByText := true, laidKinds := [.data, .pinned], laidTests := true, laidLooks := .later }
def WrapPlainUptoCardSaid : Prop := Claim7.holds Tryz.pinned (.plain (OpenSpec.upto wrapPlainSpec)) wrapPlainUptoCard

/-- THE SECOND FORM's CARD OF 'formelaw21.WrapClear'. -/
def wrapClearUptoCard : Claim7 := { stood := { row := wrapClearUptoRow, standIns := [], harness := (true, "718c072742c4112243e8184b533169bd28cf73234a460b8119d56479f0d281de"), looks := false }, kinds := [], alts := [], laidByText := true, laidKinds := [.data, .pinned], laidTests := true, laidLooks := .later }
def WrapClearUptoCardSaid : Prop := Claim7.holds Tryz.pinned (.plain (OpenSpec.upto wrapClearSpec)) wrapClearUptoCard

/-- THE SECOND FORM's CARD OF 'formelaw21.WrapDown'. -/
def wrapDownUptoCard : Claim7 := { stood := { row := wrapDownUptoRow, standIns := [], harness := (true, "718c072742c4112243e8184b533169bd28cf73234a460b8119d56479f0d281de"), looks := false }, kinds := [], alts := [], laidByText := true, laidKinds := [.data, .pinned], laidTests := true, laidLooks := .later }
def WrapDownUptoCardSaid : Prop := Claim7.holds Tryz.pinned (.plain (OpenSpec.upto wrapDownSpec)) wrapDownUptoCard

/-- THE SECOND FORM's CARD OF 'formelaw21.WrapLetters'. -/
def wrapLettersUptoCard : Claim7 := { stood := { row := wrapLettersUptoRow, standIns := [], harness := (true, "718c072742c4112243e8184b533169bd28cf73234a460b8119d56479f0d281de"), looks := false }, kinds := [], alts := [], laidByText := true, laidKinds := [.data, .pinned], laidTests := true, laidLooks := .later }
def WrapLettersUptoCardSaid : Prop := Claim7.holds Tryz.pinned (.plain (OpenSpec.upto wrapLettersSpec)) wrapLettersUptoCard

/-- THE SECOND FORM's CARD OF 'formelaw21.WrapOthers'. -/
def wrapOthersUptoCard : Claim7 := { stood := { row := wrapOthersUptoRow, standIns := [], harness := (true, "718c072742c4112243e8184b533169bd28cf73234a460b8119d56479f0d281de"), looks := false }, kinds := [], alts := [], laidByText := true, laidKinds := [.data, .pinned], laidTests := true, laidLooks := .later }
def WrapOthersUptoCardSaid : Prop := Claim7.holds Tryz.pinned (.plain (OpenSpec.upto wrapOthersSpec)) wrapOthersUptoCard

/-- THE SECOND FORM's CARD OF 'formelaw21.WrapMoves'. -/
def wrapMovesUptoCard : Claim7 := { stood := { row := wrapMovesUptoRow, standIns := [], harness := (true, "718c072742c4112243e8184b533169bd28cf73234a460b8119d56479f0d281de"), looks := false }, kinds := [], alts := [], laidByText := true, laidKinds := [.data, .pinned], laidTests := true, laidLooks := .later }
def WrapMovesUptoCardSaid : Prop := Claim7.holds Tryz.pinned (.plain (OpenSpec.upto wrapMovesSpec)) wrapMovesUptoCard
end Rows
end Go.Proofs.YtaemgcpcfnbmdaaGreatDoor
