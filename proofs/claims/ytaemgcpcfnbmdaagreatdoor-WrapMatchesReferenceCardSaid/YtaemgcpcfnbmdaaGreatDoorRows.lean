/-
  NARROWER THAN 'FOR EVERY INPUT', by the rows' own cells (each row's printed sentence says how): WrapMatchesReference: laid · WrapPlain: laid · WrapClear: laid · WrapDown: laid · WrapLetters: laid · WrapOthers: laid · WrapMoves: laid.
  DERIVED. THE GIVEN ROWS OF THIS SEAT. 7 by the template 'for every input the law returns true; each argument reads behind the call as it read before'; 0 by the template 'total and deterministic' (their statements: YtaemgcpcfnbmdaaGreatDoorTotals.lean).
  GIVEN WITH THE SEED: the statements are not yours to turn. If you find one false, say at which input.
  Laid BY PROGRAM, IN A SANDBOX (cutbox-rows.mjs): the forced cells as the released guide's own fill.sh prints them over the translation d7fa29b6710f581b… (all of the seat's roots in one cut). By AI agents, Wed Nov 11 2026. No macro, syntax, notation, axiom, sorry.
-/
import Derived.Test.YtaemgcpcfnbmdaaGreatDoorChecked
import GoSem.PinnedTables
import GoSem.Claim
import GoSem.ClaimJoined
import GoSem.ClaimMapViews
import Derived.JoinedTies
import Derived.KernelRfl
namespace Go.Proofs.YtaemgcpcfnbmdaaGreatDoor
/- THE CELL 'sum', in the pinned program and in every row, IS THE sha256 OF THE DUMP (.gsa) THAT YtaemgcpcfnbmdaaGreatDoorProg.lean LOADS. Nothing in Lean hashes anything: it is a label: what it is worth is what the hold of that sum in a sandbox is worth. -/
noncomputable def Tryz.pinned : Pinned := { name := "ytaemgcpcfnbmdaagreatdoor", sum := "d7fa29b6710f581b373e1cd1b363404d4e113ab5b5b1259fb54ad71c1e314277", checked := Tryz.checked }
namespace Rows
def none {H : Type} : Left H := { results := [], args := [] }

/- WHAT THE LISTED PACKAGE-LEVEL VARIABLES READ AS WHEN THE CALL BEGINS. Each datum BY PROGRAM (the guide's laid-datum.mjs) off the statement by which the dump's own 'gosem.cut.vars' lays the variable. In a bare row this is a premise. The card (YtaemgcpcfnbmdaaGreatDoorCards.lean) ties it to the program's text. -/
def laid_unicode_utf8_acceptRanges {H : Type} : DataW H := .agg [.agg [.lit (.int .u8 128), .lit (.int .u8 191)], .agg [.lit (.int .u8 160), .lit (.int .u8 191)], .agg [.lit (.int .u8 128), .lit (.int .u8 159)], .agg [.lit (.int .u8 144), .lit (.int .u8 191)], .agg [.lit (.int .u8 128), .lit (.int .u8 143)], .agg [.lit (.int .u8 0), .lit (.int .u8 0)], .agg [.lit (.int .u8 0), .lit (.int .u8 0)], .agg [.lit (.int .u8 0), .lit (.int .u8 0)], .agg [.lit (.int .u8 0), .lit (.int .u8 0)], .agg [.lit (.int .u8 0), .lit (.int .u8 0)], .agg [.lit (.int .u8 0), .lit (.int .u8 0)], .agg [.lit (.int .u8 0), .lit (.int .u8 0)], .agg [.lit (.int .u8 0), .lit (.int .u8 0)], .agg [.lit (.int .u8 0), .lit (.int .u8 0)], .agg [.lit (.int .u8 0), .lit (.int .u8 0)], .agg [.lit (.int .u8 0), .lit (.int .u8 0)]]
/-- One of Go's own tables, pinned by name: the form's constant. -/
def laid_unicode_utf8_first : DataW Unit := Go.Pinned.utf8First

/-- 'formelaw21.WrapMatchesReference': WHATEVER THE INPUT: true; the input reads as it did. -/
def wrapMatchesReferenceSpec : ChangeSpec := { name := "wrapMatchesReference", fn := fun _ => fun
  | [d1, d2, d3, d4, d5] => { results := [.lit (.bool true)], args := [d1, d2, d3, d4, d5] }
  | _ => none }
def wrapMatchesReferenceRow : OpenClaim := { program := "ytaemgcpcfnbmdaagreatdoor", sum := "d7fa29b6710f581b373e1cd1b363404d4e113ab5b5b1259fb54ad71c1e314277", func := "forme/formelaw21.WrapMatchesReference", spec := "wrapMatchesReference", inPlace := ["internal/bytealg.CountString", "internal/bytealg.IndexByteString", "internal/bytealg.IndexString", "internal/abi.NoEscape", "internal/bytealg.MakeNoZero"], unfollowed := true, recurses := true, named := ["internal/bytealg.MaxLen", "unicode/utf8.first", "unicode/utf8.acceptRanges"], apart := false, laid := [("unicode/utf8.acceptRanges", laid_unicode_utf8_acceptRanges), ("unicode/utf8.first", laid_unicode_utf8_first)] }
def WrapMatchesReferenceSaid : Prop := wrapMatchesReferenceRow.holds Tryz.pinned (OpenSpec.ofChange wrapMatchesReferenceSpec)

/-- ITS FALSE NEIGHBOUR: 'it returns false'. Refute it at one input. -/
def wrapMatchesReferenceWrong : ChangeSpec := { name := "wrapMatchesReference", fn := fun _ => fun
  | [d1, d2, d3, d4, d5] => { results := [.lit (.bool false)], args := [d1, d2, d3, d4, d5] }
  | _ => none }
def WrapMatchesReferenceWrongFalsely : Prop := wrapMatchesReferenceRow.holds Tryz.pinned (OpenSpec.ofChange wrapMatchesReferenceWrong)

/-- 'formelaw21.WrapPlain': WHATEVER THE INPUT: true; the input reads as it did. -/
def wrapPlainSpec : ChangeSpec := { name := "wrapPlain", fn := fun _ => fun
  | [d1, d2, d3, d4] => { results := [.lit (.bool true)], args := [d1, d2, d3, d4] }
  | _ => none }
def wrapPlainRow : OpenClaim := { program := "ytaemgcpcfnbmdaagreatdoor", sum := "d7fa29b6710f581b373e1cd1b363404d4e113ab5b5b1259fb54ad71c1e314277", func := "forme/formelaw21.WrapPlain", spec := "wrapPlain", inPlace := ["internal/bytealg.CountString", "internal/bytealg.IndexByteString", "internal/bytealg.IndexString", "internal/abi.NoEscape", "internal/bytealg.MakeNoZero"], unfollowed := true, recurses := true, named := ["internal/bytealg.MaxLen", "unicode/utf8.first", "unicode/utf8.acceptRanges"], apart := false, laid := [("unicode/utf8.acceptRanges", laid_unicode_utf8_acceptRanges), ("unicode/utf8.first", laid_unicode_utf8_first)] }
def WrapPlainSaid : Prop := wrapPlainRow.holds Tryz.pinned (OpenSpec.ofChange wrapPlainSpec)

/-- ITS FALSE NEIGHBOUR: 'it returns false'. Refute it at one input. -/
def wrapPlainWrong : ChangeSpec := { name := "wrapPlain", fn := fun _ => fun
  | [d1, d2, d3, d4] => { results := [.lit (.bool false)], args := [d1, d2, d3, d4] }
  | _ => none }
def WrapPlainWrongFalsely : Prop := wrapPlainRow.holds Tryz.pinned (OpenSpec.ofChange wrapPlainWrong)

/-- 'formelaw21.WrapClear': WHATEVER THE INPUT: true; the input reads as it did. -/
def wrapClearSpec : ChangeSpec := { name := "wrapClear", fn := fun _ => fun
  | [d1, d2, d3, d4, d5] => { results := [.lit (.bool true)], args := [d1, d2, d3, d4, d5] }
  | _ => none }
def wrapClearRow : OpenClaim := { program := "ytaemgcpcfnbmdaagreatdoor", sum := "d7fa29b6710f581b373e1cd1b363404d4e113ab5b5b1259fb54ad71c1e314277", func := "forme/formelaw21.WrapClear", spec := "wrapClear", inPlace := ["internal/bytealg.CountString", "internal/bytealg.IndexByteString", "internal/bytealg.IndexString", "internal/abi.NoEscape", "internal/bytealg.MakeNoZero"], unfollowed := true, recurses := true, named := ["internal/bytealg.MaxLen", "unicode/utf8.first", "unicode/utf8.acceptRanges"], apart := false, laid := [("unicode/utf8.acceptRanges", laid_unicode_utf8_acceptRanges), ("unicode/utf8.first", laid_unicode_utf8_first)] }
def WrapClearSaid : Prop := wrapClearRow.holds Tryz.pinned (OpenSpec.ofChange wrapClearSpec)

/-- ITS FALSE NEIGHBOUR: 'it returns false'. Refute it at one input. -/
def wrapClearWrong : ChangeSpec := { name := "wrapClear", fn := fun _ => fun
  | [d1, d2, d3, d4, d5] => { results := [.lit (.bool false)], args := [d1, d2, d3, d4, d5] }
  | _ => none }
def WrapClearWrongFalsely : Prop := wrapClearRow.holds Tryz.pinned (OpenSpec.ofChange wrapClearWrong)

/-- 'formelaw21.WrapDown': WHATEVER THE INPUT: true; the input reads as it did. -/
def wrapDownSpec : ChangeSpec := { name := "wrapDown", fn := fun _ => fun
  | [d1, d2, d3, d4, d5] => { results := [.lit (.bool true)], args := [d1, d2, d3, d4, d5] }
  | _ => none }
def wrapDownRow : OpenClaim := { program := "ytaemgcpcfnbmdaagreatdoor", sum := "d7fa29b6710f581b373e1cd1b363404d4e113ab5b5b1259fb54ad71c1e314277", func := "forme/formelaw21.WrapDown", spec := "wrapDown", inPlace := ["internal/bytealg.CountString", "internal/bytealg.IndexByteString", "internal/bytealg.IndexString", "internal/abi.NoEscape", "internal/bytealg.MakeNoZero"], unfollowed := true, recurses := true, named := ["internal/bytealg.MaxLen", "unicode/utf8.first", "unicode/utf8.acceptRanges"], apart := false, laid := [("unicode/utf8.acceptRanges", laid_unicode_utf8_acceptRanges), ("unicode/utf8.first", laid_unicode_utf8_first)] }
def WrapDownSaid : Prop := wrapDownRow.holds Tryz.pinned (OpenSpec.ofChange wrapDownSpec)

/-- ITS FALSE NEIGHBOUR: 'it returns false'. Refute it at one input. -/
def wrapDownWrong : ChangeSpec := { name := "wrapDown", fn := fun _ => fun
  | [d1, d2, d3, d4, d5] => { results := [.lit (.bool false)], args := [d1, d2, d3, d4, d5] }
  | _ => none }
def WrapDownWrongFalsely : Prop := wrapDownRow.holds Tryz.pinned (OpenSpec.ofChange wrapDownWrong)

/-- 'formelaw21.WrapLetters': WHATEVER THE INPUT: true; the input reads as it did. -/
def wrapLettersSpec : ChangeSpec := { name := "wrapLetters", fn := fun _ => fun
  | [d1, d2, d3, d4, d5] => { results := [.lit (.bool true)], args := [d1, d2, d3, d4, d5] }
  | _ => none }
def wrapLettersRow : OpenClaim := { program := "ytaemgcpcfnbmdaagreatdoor", sum := "d7fa29b6710f581b373e1cd1b363404d4e113ab5b5b1259fb54ad71c1e314277", func := "forme/formelaw21.WrapLetters", spec := "wrapLetters", inPlace := ["internal/bytealg.CountString", "internal/bytealg.IndexByteString", "internal/bytealg.IndexString", "internal/abi.NoEscape", "internal/bytealg.MakeNoZero"], unfollowed := true, recurses := true, named := ["internal/bytealg.MaxLen", "unicode/utf8.first", "unicode/utf8.acceptRanges"], apart := false, laid := [("unicode/utf8.acceptRanges", laid_unicode_utf8_acceptRanges), ("unicode/utf8.first", laid_unicode_utf8_first)] }
def WrapLettersSaid : Prop := wrapLettersRow.holds Tryz.pinned (OpenSpec.ofChange wrapLettersSpec)

/-- ITS FALSE NEIGHBOUR: 'it returns false'. Refute it at one input. -/
def wrapLettersWrong : ChangeSpec := { name := "wrapLetters", fn := fun _ => fun
  | [d1, d2, d3, d4, d5] => { results := [.lit (.bool false)], args := [d1, d2, d3, d4, d5] }
  | _ => none }
def WrapLettersWrongFalsely : Prop := wrapLettersRow.holds Tryz.pinned (OpenSpec.ofChange wrapLettersWrong)

/-- 'formelaw21.WrapOthers': WHATEVER THE INPUT: true; the input reads as it did. -/
def wrapOthersSpec : ChangeSpec := { name := "wrapOthers", fn := fun _ => fun
  | [d1, d2, d3, d4, d5, d6, d7] => { results := [.lit (.bool true)], args := [d1, d2, d3, d4, d5, d6, d7] }
  | _ => none }
def wrapOthersRow : OpenClaim := { program := "ytaemgcpcfnbmdaagreatdoor", sum := "d7fa29b6710f581b373e1cd1b363404d4e113ab5b5b1259fb54ad71c1e314277", func := "forme/formelaw21.WrapOthers", spec := "wrapOthers", inPlace := ["internal/bytealg.CountString", "internal/bytealg.IndexByteString", "internal/bytealg.IndexString", "internal/abi.NoEscape", "internal/bytealg.MakeNoZero"], unfollowed := true, recurses := true, named := ["internal/bytealg.MaxLen", "unicode/utf8.first", "unicode/utf8.acceptRanges"], apart := false, laid := [("unicode/utf8.acceptRanges", laid_unicode_utf8_acceptRanges), ("unicode/utf8.first", laid_unicode_utf8_first)] }
def WrapOthersSaid : Prop := wrapOthersRow.holds Tryz.pinned (OpenSpec.ofChange wrapOthersSpec)

/-- ITS FALSE NEIGHBOUR: 'it returns false'. Refute it at one input. -/
def wrapOthersWrong : ChangeSpec := { name := "wrapOthers", fn := fun _ => fun
  | [d1, d2, d3, d4, d5, d6, d7] => { results := [.lit (.bool false)], args := [d1, d2, d3, d4, d5, d6, d7] }
  | _ => none }
def WrapOthersWrongFalsely : Prop := wrapOthersRow.holds Tryz.pinned (OpenSpec.ofChange wrapOthersWrong)

/-- 'formelaw21.WrapMoves': WHATEVER THE INPUT: true; the input reads as it did. -/
def wrapMovesSpec : ChangeSpec := { name := "wrapMoves", fn := fun _ => fun
  | [d1, d2, d3, d4, d5, d6] => { results := [.lit (.bool true)], args := [d1, d2, d3, d4, d5, d6] }
  | _ => none }
def wrapMovesRow : OpenClaim := { program := "ytaemgcpcfnbmdaagreatdoor", sum := "d7fa29b6710f581b373e1cd1b363404d4e113ab5b5b1259fb54ad71c1e314277", func := "forme/formelaw21.WrapMoves", spec := "wrapMoves", inPlace := ["internal/bytealg.CountString", "internal/bytealg.IndexByteString", "internal/bytealg.IndexString", "internal/abi.NoEscape", "internal/bytealg.MakeNoZero"], unfollowed := true, recurses := true, named := ["internal/bytealg.MaxLen", "unicode/utf8.first", "unicode/utf8.acceptRanges"], apart := false, laid := [("unicode/utf8.acceptRanges", laid_unicode_utf8_acceptRanges), ("unicode/utf8.first", laid_unicode_utf8_first)] }
def WrapMovesSaid : Prop := wrapMovesRow.holds Tryz.pinned (OpenSpec.ofChange wrapMovesSpec)

/-- ITS FALSE NEIGHBOUR: 'it returns false'. Refute it at one input. -/
def wrapMovesWrong : ChangeSpec := { name := "wrapMoves", fn := fun _ => fun
  | [d1, d2, d3, d4, d5, d6] => { results := [.lit (.bool false)], args := [d1, d2, d3, d4, d5, d6] }
  | _ => none }
def WrapMovesWrongFalsely : Prop := wrapMovesRow.holds Tryz.pinned (OpenSpec.ofChange wrapMovesWrong)

/- THE SECOND FORM. 'bulk': how many values and letters a reading holds, each counted each time it is reached (what is shared counts as often as it is met; a slice's spare places count too). A statement '..UptoSaid' is the law's where the arguments, and the package variables that the reading takes, are together of bulk at most 1048576: NARROWER than '..Said'. Prove '..Said' where nothing that the law and all that it calls make is longer than what came in: it says more and counts as full. Else prove '..UptoSaid'. A law counts once. -/
mutual
def uptoBulk {H : Type} : DataW H → Nat
  | .lit (.string bytes) => bytes.length + 1
  | .lit _ => 1
  | .nil => 1
  | .ptr d => uptoBulk d + 1
  | .slice elems spare => uptoBulkAll elems + uptoBulkAll spare + 1
  | .agg parts => uptoBulkAll parts + 1
  | .iface _ d => uptoBulk d + 1
  | .map entries => uptoBulkEntries entries + 1
  | .held _ => 1
def uptoBulkAll {H : Type} : List (DataW H) → Nat
  | [] => 0
  | d :: r => uptoBulk d + uptoBulkAll r
def uptoBulkEntries {H : Type} : List (Lit × DataW H) → Nat
  | [] => 0
  | x :: r => uptoBulkEntry x + uptoBulkEntries r
def uptoBulkEntry {H : Type} : Lit × DataW H → Nat
  | (.string bytes, d) => bytes.length + uptoBulk d + 1
  | (_, d) => uptoBulk d + 1
 end
def uptoSmall : (H : Type) → List (DataW H) → Bool := fun _ ds => decide (uptoBulkAll ds ≤ 1048576)
def OpenSpec.upto (s : _root_.Go.ChangeSpec) : _root_.Go.OpenSpec := { _root_.Go.OpenSpec.ofChange s with cond := some uptoSmall }

/-- 'formelaw21.WrapMatchesReference', WHERE WHAT IT READS IS OF BULK AT MOST 1048576: true; the input reads as it did. -/
def wrapMatchesReferenceUptoRow : OpenClaim := { program := "ytaemgcpcfnbmdaagreatdoor", sum := "d7fa29b6710f581b373e1cd1b363404d4e113ab5b5b1259fb54ad71c1e314277", func := "forme/formelaw21.WrapMatchesReference", spec := "wrapMatchesReference", inPlace := ["internal/bytealg.CountString", "internal/bytealg.IndexByteString", "internal/bytealg.IndexString", "internal/abi.NoEscape", "internal/bytealg.MakeNoZero"], unfollowed := true, recurses := true, named := ["internal/bytealg.MaxLen", "unicode/utf8.first", "unicode/utf8.acceptRanges"], apart := false, laid := [("unicode/utf8.acceptRanges", laid_unicode_utf8_acceptRanges), ("unicode/utf8.first", laid_unicode_utf8_first)], narrowed := true }
def WrapMatchesReferenceUptoSaid : Prop := wrapMatchesReferenceUptoRow.holds Tryz.pinned (OpenSpec.upto wrapMatchesReferenceSpec)

/-- 'formelaw21.WrapPlain', WHERE WHAT IT READS IS OF BULK AT MOST 1048576: true; the input reads as it did. -/
def wrapPlainUptoRow : OpenClaim := { program := "ytaemgcpcfnbmdaagreatdoor", sum := "d7fa29b6710f581b373e1cd1b363404d4e113ab5b5b1259fb54ad71c1e314277", func := "forme/formelaw21.WrapPlain", spec := "wrapPlain", inPlace := ["internal/bytealg.CountString", "internal/bytealg.IndexByteString", "internal/bytealg.IndexString", "internal/abi.NoEscape", "internal/bytealg.MakeNoZero"], unfollowed := true, recurses := true, named := ["internal/bytealg.MaxLen", "unicode/utf8.first", "unicode/utf8.acceptRanges"], apart := false, laid := [("unicode/utf8.acceptRanges", laid_unicode_utf8_acceptRanges), ("unicode/utf8.first", laid_unicode_utf8_first)], narrowed := true }
def WrapPlainUptoSaid : Prop := wrapPlainUptoRow.holds Tryz.pinned (OpenSpec.upto wrapPlainSpec)

/-- 'formelaw21.WrapClear', WHERE WHAT IT READS IS OF BULK AT MOST 1048576: true; the input reads as it did. -/
def wrapClearUptoRow : OpenClaim := { program := "ytaemgcpcfnbmdaagreatdoor", sum := "d7fa29b6710f581b373e1cd1b363404d4e113ab5b5b1259fb54ad71c1e314277", func := "forme/formelaw21.WrapClear", spec := "wrapClear", inPlace := ["internal/bytealg.CountString", "internal/bytealg.IndexByteString", "internal/bytealg.IndexString", "internal/abi.NoEscape", "internal/bytealg.MakeNoZero"], unfollowed := true, recurses := true, named := ["internal/bytealg.MaxLen", "unicode/utf8.first", "unicode/utf8.acceptRanges"], apart := false, laid := [("unicode/utf8.acceptRanges", laid_unicode_utf8_acceptRanges), ("unicode/utf8.first", laid_unicode_utf8_first)], narrowed := true }
def WrapClearUptoSaid : Prop := wrapClearUptoRow.holds Tryz.pinned (OpenSpec.upto wrapClearSpec)

/-- 'formelaw21.WrapDown', WHERE WHAT IT READS IS OF BULK AT MOST 1048576: true; the input reads as it did. -/
def wrapDownUptoRow : OpenClaim := { program := "ytaemgcpcfnbmdaagreatdoor", sum := "d7fa29b6710f581b373e1cd1b363404d4e113ab5b5b1259fb54ad71c1e314277", func := "forme/formelaw21.WrapDown", spec := "wrapDown", inPlace := ["internal/bytealg.CountString", "internal/bytealg.IndexByteString", "internal/bytealg.IndexString", "internal/abi.NoEscape", "internal/bytealg.MakeNoZero"], unfollowed := true, recurses := true, named := ["internal/bytealg.MaxLen", "unicode/utf8.first", "unicode/utf8.acceptRanges"], apart := false, laid := [("unicode/utf8.acceptRanges", laid_unicode_utf8_acceptRanges), ("unicode/utf8.first", laid_unicode_utf8_first)], narrowed := true }
def WrapDownUptoSaid : Prop := wrapDownUptoRow.holds Tryz.pinned (OpenSpec.upto wrapDownSpec)

/-- 'formelaw21.WrapLetters', WHERE WHAT IT READS IS OF BULK AT MOST 1048576: true; the input reads as it did. -/
def wrapLettersUptoRow : OpenClaim := { program := "ytaemgcpcfnbmdaagreatdoor", sum := "d7fa29b6710f581b373e1cd1b363404d4e113ab5b5b1259fb54ad71c1e314277", func := "forme/formelaw21.WrapLetters", spec := "wrapLetters", inPlace := ["internal/bytealg.CountString", "internal/bytealg.IndexByteString", "internal/bytealg.IndexString", "internal/abi.NoEscape", "internal/bytealg.MakeNoZero"], unfollowed := true, recurses := true, named := ["internal/bytealg.MaxLen", "unicode/utf8.first", "unicode/utf8.acceptRanges"], apart := false, laid := [("unicode/utf8.acceptRanges", laid_unicode_utf8_acceptRanges), ("unicode/utf8.first", laid_unicode_utf8_first)], narrowed := true }
def WrapLettersUptoSaid : Prop := wrapLettersUptoRow.holds Tryz.pinned (OpenSpec.upto wrapLettersSpec)

/-- 'formelaw21.WrapOthers', WHERE WHAT IT READS IS OF BULK AT MOST 1048576: true; the input reads as it did. -/
def wrapOthersUptoRow : OpenClaim := { program := "ytaemgcpcfnbmdaagreatdoor", sum := "d7fa29b6710f581b373e1cd1b363404d4e113ab5b5b1259fb54ad71c1e314277", func := "forme/formelaw21.WrapOthers", spec := "wrapOthers", inPlace := ["internal/bytealg.CountString", "internal/bytealg.IndexByteString", "internal/bytealg.IndexString", "internal/abi.NoEscape", "internal/bytealg.MakeNoZero"], unfollowed := true, recurses := true, named := ["internal/bytealg.MaxLen", "unicode/utf8.first", "unicode/utf8.acceptRanges"], apart := false, laid := [("unicode/utf8.acceptRanges", laid_unicode_utf8_acceptRanges), ("unicode/utf8.first", laid_unicode_utf8_first)], narrowed := true }
def WrapOthersUptoSaid : Prop := wrapOthersUptoRow.holds Tryz.pinned (OpenSpec.upto wrapOthersSpec)

/-- 'formelaw21.WrapMoves', WHERE WHAT IT READS IS OF BULK AT MOST 1048576: true; the input reads as it did. -/
def wrapMovesUptoRow : OpenClaim := { program := "ytaemgcpcfnbmdaagreatdoor", sum := "d7fa29b6710f581b373e1cd1b363404d4e113ab5b5b1259fb54ad71c1e314277", func := "forme/formelaw21.WrapMoves", spec := "wrapMoves", inPlace := ["internal/bytealg.CountString", "internal/bytealg.IndexByteString", "internal/bytealg.IndexString", "internal/abi.NoEscape", "internal/bytealg.MakeNoZero"], unfollowed := true, recurses := true, named := ["internal/bytealg.MaxLen", "unicode/utf8.first", "unicode/utf8.acceptRanges"], apart := false, laid := [("unicode/utf8.acceptRanges", laid_unicode_utf8_acceptRanges), ("unicode/utf8.first", laid_unicode_utf8_first)], narrowed := true }
def WrapMovesUptoSaid : Prop := wrapMovesUptoRow.holds Tryz.pinned (OpenSpec.upto wrapMovesSpec)

end Rows
end Go.Proofs.YtaemgcpcfnbmdaaGreatDoor
