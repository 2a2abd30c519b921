/-
  NARROWER THAN 'FOR EVERY INPUT', by the rows' own cells (each row's printed sentence says how): BreaksMatchesReference: laid · BreaksPlaces: laid · BreaksKeeps: laid · BreaksStricter: laid · BreaksJoins: laid · BreaksWords: laid.
  DERIVED. THE GIVEN ROWS OF THIS SEAT. 6 by the template 'for every input the law returns true; each argument reads behind the call as it read before'; 0 by the template 'total and deterministic' (their statements: YtiahgcidgbalkaaDoorTotals.lean).
  GIVEN WITH THE SEED: the statements are not yours to turn. If you find one false, say at which input.
  Laid BY PROGRAM, IN A SANDBOX (cutbox-rows.mjs): the forced cells as the released guide's own fill.sh prints them over the translation 05706cb5d042f86b… (all of the seat's roots in one cut). By AI agents, Wed Nov 11 2026. No macro, syntax, notation, axiom, sorry.
-/
import Derived.Test.YtiahgcidgbalkaaDoorChecked
import GoSem.PinnedTables
import GoSem.Claim
import GoSem.ClaimJoined
import GoSem.ClaimMapViews
import Derived.JoinedTies
import Derived.KernelRfl
namespace Go.Proofs.YtiahgcidgbalkaaDoor
/- THE CELL 'sum', in the pinned program and in every row, IS THE sha256 OF THE DUMP (.gsa) THAT YtiahgcidgbalkaaDoorProg.lean LOADS. Nothing in Lean hashes anything: it is a label: what it is worth is what the hold of that sum in a sandbox is worth. -/
noncomputable def Tryd.pinned : Pinned := { name := "ytiahgcidgbalkaadoor", sum := "05706cb5d042f86b0605443bb91eb04b9cb1d0611a6546d8334ffd203ebecc2b", checked := Tryd.checked }
namespace Rows
def none {H : Type} : Left H := { results := [], args := [] }

/- WHAT THE LISTED PACKAGE-LEVEL VARIABLES READ AS WHEN THE CALL BEGINS. Each datum BY PROGRAM (the guide's laid-datum.mjs) off the statement by which the dump's own 'gosem.cut.vars' lays the variable. In a bare row this is a premise. The card (YtiahgcidgbalkaaDoorCards.lean) ties it to the program's text. -/
def laid_unicode_utf8_acceptRanges {H : Type} : DataW H := .agg [.agg [.lit (.int .u8 128), .lit (.int .u8 191)], .agg [.lit (.int .u8 160), .lit (.int .u8 191)], .agg [.lit (.int .u8 128), .lit (.int .u8 159)], .agg [.lit (.int .u8 144), .lit (.int .u8 191)], .agg [.lit (.int .u8 128), .lit (.int .u8 143)], .agg [.lit (.int .u8 0), .lit (.int .u8 0)], .agg [.lit (.int .u8 0), .lit (.int .u8 0)], .agg [.lit (.int .u8 0), .lit (.int .u8 0)], .agg [.lit (.int .u8 0), .lit (.int .u8 0)], .agg [.lit (.int .u8 0), .lit (.int .u8 0)], .agg [.lit (.int .u8 0), .lit (.int .u8 0)], .agg [.lit (.int .u8 0), .lit (.int .u8 0)], .agg [.lit (.int .u8 0), .lit (.int .u8 0)], .agg [.lit (.int .u8 0), .lit (.int .u8 0)], .agg [.lit (.int .u8 0), .lit (.int .u8 0)], .agg [.lit (.int .u8 0), .lit (.int .u8 0)]]
/-- One of Go's own tables, pinned by name: the form's constant. -/
def laid_unicode_utf8_first : DataW Unit := Go.Pinned.utf8First

/-- 'formelaw08.BreaksMatchesReference': WHATEVER THE INPUT: true; the input reads as it did. -/
def breaksMatchesReferenceSpec : ChangeSpec := { name := "breaksMatchesReference", fn := fun _ => fun
  | [d1, d2] => { results := [.lit (.bool true)], args := [d1, d2] }
  | _ => none }
def breaksMatchesReferenceRow : OpenClaim := { program := "ytiahgcidgbalkaadoor", sum := "05706cb5d042f86b0605443bb91eb04b9cb1d0611a6546d8334ffd203ebecc2b", func := "forme/formelaw08.BreaksMatchesReference", spec := "breaksMatchesReference", inPlace := ["internal/bytealg.CountString", "internal/bytealg.IndexByteString", "internal/bytealg.IndexString", "internal/abi.NoEscape", "internal/bytealg.MakeNoZero"], unfollowed := true, recurses := true, named := ["internal/bytealg.MaxLen", "unicode/utf8.first", "unicode/utf8.acceptRanges"], apart := false, laid := [("unicode/utf8.acceptRanges", laid_unicode_utf8_acceptRanges), ("unicode/utf8.first", laid_unicode_utf8_first)] }
def BreaksMatchesReferenceSaid : Prop := breaksMatchesReferenceRow.holds Tryd.pinned (OpenSpec.ofChange breaksMatchesReferenceSpec)

/-- ITS FALSE NEIGHBOUR: 'it returns false'. Refute it at one input. -/
def breaksMatchesReferenceWrong : ChangeSpec := { name := "breaksMatchesReference", fn := fun _ => fun
  | [d1, d2] => { results := [.lit (.bool false)], args := [d1, d2] }
  | _ => none }
def BreaksMatchesReferenceWrongFalsely : Prop := breaksMatchesReferenceRow.holds Tryd.pinned (OpenSpec.ofChange breaksMatchesReferenceWrong)

/-- 'formelaw08.BreaksPlaces': WHATEVER THE INPUT: true; the input reads as it did. -/
def breaksPlacesSpec : ChangeSpec := { name := "breaksPlaces", fn := fun _ => fun
  | [d1, d2] => { results := [.lit (.bool true)], args := [d1, d2] }
  | _ => none }
def breaksPlacesRow : OpenClaim := { program := "ytiahgcidgbalkaadoor", sum := "05706cb5d042f86b0605443bb91eb04b9cb1d0611a6546d8334ffd203ebecc2b", func := "forme/formelaw08.BreaksPlaces", spec := "breaksPlaces", inPlace := ["internal/bytealg.CountString", "internal/bytealg.IndexByteString", "internal/bytealg.IndexString", "internal/abi.NoEscape", "internal/bytealg.MakeNoZero"], unfollowed := true, recurses := true, named := ["internal/bytealg.MaxLen", "unicode/utf8.first", "unicode/utf8.acceptRanges"], apart := false, laid := [("unicode/utf8.acceptRanges", laid_unicode_utf8_acceptRanges), ("unicode/utf8.first", laid_unicode_utf8_first)] }
def BreaksPlacesSaid : Prop := breaksPlacesRow.holds Tryd.pinned (OpenSpec.ofChange breaksPlacesSpec)

/-- ITS FALSE NEIGHBOUR: 'it returns false'. Refute it at one input. -/
def breaksPlacesWrong : ChangeSpec := { name := "breaksPlaces", fn := fun _ => fun
  | [d1, d2] => { results := [.lit (.bool false)], args := [d1, d2] }
  | _ => none }
def BreaksPlacesWrongFalsely : Prop := breaksPlacesRow.holds Tryd.pinned (OpenSpec.ofChange breaksPlacesWrong)

/-- 'formelaw08.BreaksKeeps': WHATEVER THE INPUT: true; the input reads as it did. -/
def breaksKeepsSpec : ChangeSpec := { name := "breaksKeeps", fn := fun _ => fun
  | [d1, d2] => { results := [.lit (.bool true)], args := [d1, d2] }
  | _ => none }
def breaksKeepsRow : OpenClaim := { program := "ytiahgcidgbalkaadoor", sum := "05706cb5d042f86b0605443bb91eb04b9cb1d0611a6546d8334ffd203ebecc2b", func := "forme/formelaw08.BreaksKeeps", spec := "breaksKeeps", inPlace := ["internal/bytealg.CountString", "internal/bytealg.IndexByteString", "internal/bytealg.IndexString", "internal/abi.NoEscape", "internal/bytealg.MakeNoZero"], unfollowed := true, recurses := true, named := ["internal/bytealg.MaxLen", "unicode/utf8.first", "unicode/utf8.acceptRanges"], apart := false, laid := [("unicode/utf8.acceptRanges", laid_unicode_utf8_acceptRanges), ("unicode/utf8.first", laid_unicode_utf8_first)] }
def BreaksKeepsSaid : Prop := breaksKeepsRow.holds Tryd.pinned (OpenSpec.ofChange breaksKeepsSpec)

/-- ITS FALSE NEIGHBOUR: 'it returns false'. Refute it at one input. -/
def breaksKeepsWrong : ChangeSpec := { name := "breaksKeeps", fn := fun _ => fun
  | [d1, d2] => { results := [.lit (.bool false)], args := [d1, d2] }
  | _ => none }
def BreaksKeepsWrongFalsely : Prop := breaksKeepsRow.holds Tryd.pinned (OpenSpec.ofChange breaksKeepsWrong)

/-- 'formelaw08.BreaksStricter': WHATEVER THE INPUT: true; the input reads as it did. -/
def breaksStricterSpec : ChangeSpec := { name := "breaksStricter", fn := fun _ => fun
  | [d1, d2, d3, d4, d5] => { results := [.lit (.bool true)], args := [d1, d2, d3, d4, d5] }
  | _ => none }
def breaksStricterRow : OpenClaim := { program := "ytiahgcidgbalkaadoor", sum := "05706cb5d042f86b0605443bb91eb04b9cb1d0611a6546d8334ffd203ebecc2b", func := "forme/formelaw08.BreaksStricter", spec := "breaksStricter", inPlace := ["internal/bytealg.CountString", "internal/bytealg.IndexByteString", "internal/bytealg.IndexString", "internal/abi.NoEscape", "internal/bytealg.MakeNoZero"], unfollowed := true, recurses := true, named := ["internal/bytealg.MaxLen", "unicode/utf8.first", "unicode/utf8.acceptRanges"], apart := false, laid := [("unicode/utf8.acceptRanges", laid_unicode_utf8_acceptRanges), ("unicode/utf8.first", laid_unicode_utf8_first)] }
def BreaksStricterSaid : Prop := breaksStricterRow.holds Tryd.pinned (OpenSpec.ofChange breaksStricterSpec)

/-- ITS FALSE NEIGHBOUR: 'it returns false'. Refute it at one input. -/
def breaksStricterWrong : ChangeSpec := { name := "breaksStricter", fn := fun _ => fun
  | [d1, d2, d3, d4, d5] => { results := [.lit (.bool false)], args := [d1, d2, d3, d4, d5] }
  | _ => none }
def BreaksStricterWrongFalsely : Prop := breaksStricterRow.holds Tryd.pinned (OpenSpec.ofChange breaksStricterWrong)

/-- 'formelaw08.BreaksJoins': WHATEVER THE INPUT: true; the input reads as it did. -/
def breaksJoinsSpec : ChangeSpec := { name := "breaksJoins", fn := fun _ => fun
  | [d1, d2, d3] => { results := [.lit (.bool true)], args := [d1, d2, d3] }
  | _ => none }
def breaksJoinsRow : OpenClaim := { program := "ytiahgcidgbalkaadoor", sum := "05706cb5d042f86b0605443bb91eb04b9cb1d0611a6546d8334ffd203ebecc2b", func := "forme/formelaw08.BreaksJoins", spec := "breaksJoins", inPlace := ["internal/bytealg.CountString", "internal/bytealg.IndexByteString", "internal/bytealg.IndexString", "internal/abi.NoEscape", "internal/bytealg.MakeNoZero"], unfollowed := true, recurses := true, named := ["internal/bytealg.MaxLen", "unicode/utf8.first", "unicode/utf8.acceptRanges"], apart := false, laid := [("unicode/utf8.acceptRanges", laid_unicode_utf8_acceptRanges), ("unicode/utf8.first", laid_unicode_utf8_first)] }
def BreaksJoinsSaid : Prop := breaksJoinsRow.holds Tryd.pinned (OpenSpec.ofChange breaksJoinsSpec)

/-- ITS FALSE NEIGHBOUR: 'it returns false'. Refute it at one input. -/
def breaksJoinsWrong : ChangeSpec := { name := "breaksJoins", fn := fun _ => fun
  | [d1, d2, d3] => { results := [.lit (.bool false)], args := [d1, d2, d3] }
  | _ => none }
def BreaksJoinsWrongFalsely : Prop := breaksJoinsRow.holds Tryd.pinned (OpenSpec.ofChange breaksJoinsWrong)

/-- 'formelaw08.BreaksWords': WHATEVER THE INPUT: true; the input reads as it did. -/
def breaksWordsSpec : ChangeSpec := { name := "breaksWords", fn := fun _ => fun
  | [d1, d2] => { results := [.lit (.bool true)], args := [d1, d2] }
  | _ => none }
def breaksWordsRow : OpenClaim := { program := "ytiahgcidgbalkaadoor", sum := "05706cb5d042f86b0605443bb91eb04b9cb1d0611a6546d8334ffd203ebecc2b", func := "forme/formelaw08.BreaksWords", spec := "breaksWords", inPlace := ["internal/bytealg.CountString", "internal/bytealg.IndexByteString", "internal/bytealg.IndexString", "internal/abi.NoEscape", "internal/bytealg.MakeNoZero"], unfollowed := true, recurses := true, named := ["internal/bytealg.MaxLen", "unicode/utf8.first", "unicode/utf8.acceptRanges"], apart := false, laid := [("unicode/utf8.acceptRanges", laid_unicode_utf8_acceptRanges), ("unicode/utf8.first", laid_unicode_utf8_first)] }
def BreaksWordsSaid : Prop := breaksWordsRow.holds Tryd.pinned (OpenSpec.ofChange breaksWordsSpec)

/-- ITS FALSE NEIGHBOUR: 'it returns false'. Refute it at one input. -/
def breaksWordsWrong : ChangeSpec := { name := "breaksWords", fn := fun _ => fun
  | [d1, d2] => { results := [.lit (.bool false)], args := [d1, d2] }
  | _ => none }
def BreaksWordsWrongFalsely : Prop := breaksWordsRow.holds Tryd.pinned (OpenSpec.ofChange breaksWordsWrong)

/- THE SECOND FORM. 'bulk': how many values and letters a reading holds, each counted each time it is reached (what is shared counts as often as it is met; a slice's spare places count too). A statement '..UptoSaid' is the law's where the arguments, and the package variables that the reading takes, are together of bulk at most 1048576: NARROWER than '..Said'. Prove '..Said' where nothing that the law and all that it calls make is longer than what came in: it says more and counts as full. Else prove '..UptoSaid'. A law counts once. -/
mutual
def uptoBulk {H : Type} : DataW H → Nat
  | .lit (.string bytes) => bytes.length + 1
  | .lit _ => 1
  | .nil => 1
  | .ptr d => uptoBulk d + 1
  | .slice elems spare => uptoBulkAll elems + uptoBulkAll spare + 1
  | .agg parts => uptoBulkAll parts + 1
  | .iface _ d => uptoBulk d + 1
  | .map entries => uptoBulkEntries entries + 1
  | .held _ => 1
def uptoBulkAll {H : Type} : List (DataW H) → Nat
  | [] => 0
  | d :: r => uptoBulk d + uptoBulkAll r
def uptoBulkEntries {H : Type} : List (Lit × DataW H) → Nat
  | [] => 0
  | x :: r => uptoBulkEntry x + uptoBulkEntries r
def uptoBulkEntry {H : Type} : Lit × DataW H → Nat
  | (.string bytes, d) => bytes.length + uptoBulk d + 1
  | (_, d) => uptoBulk d + 1
 end
def uptoSmall : (H : Type) → List (DataW H) → Bool := fun _ ds => decide (uptoBulkAll ds ≤ 1048576)
def OpenSpec.upto (s : _root_.Go.ChangeSpec) : _root_.Go.OpenSpec := { _root_.Go.OpenSpec.ofChange s with cond := some uptoSmall }

/-- 'formelaw08.BreaksMatchesReference', WHERE WHAT IT READS IS OF BULK AT MOST 1048576: true; the input reads as it did. -/
def breaksMatchesReferenceUptoRow : OpenClaim := { program := "ytiahgcidgbalkaadoor", sum := "05706cb5d042f86b0605443bb91eb04b9cb1d0611a6546d8334ffd203ebecc2b", func := "forme/formelaw08.BreaksMatchesReference", spec := "breaksMatchesReference", inPlace := ["internal/bytealg.CountString", "internal/bytealg.IndexByteString", "internal/bytealg.IndexString", "internal/abi.NoEscape", "internal/bytealg.MakeNoZero"], unfollowed := true, recurses := true, named := ["internal/bytealg.MaxLen", "unicode/utf8.first", "unicode/utf8.acceptRanges"], apart := false, laid := [("unicode/utf8.acceptRanges", laid_unicode_utf8_acceptRanges), ("unicode/utf8.first", laid_unicode_utf8_first)], narrowed := true }
def BreaksMatchesReferenceUptoSaid : Prop := breaksMatchesReferenceUptoRow.holds Tryd.pinned (OpenSpec.upto breaksMatchesReferenceSpec)

/-- 'formelaw08.BreaksPlaces', WHERE WHAT IT READS IS OF BULK AT MOST 1048576: true; the input reads as it did. -/
def breaksPlacesUptoRow : OpenClaim := { program := "ytiahgcidgbalkaadoor", sum := "05706cb5d042f86b0605443bb91eb04b9cb1d0611a6546d8334ffd203ebecc2b", func := "forme/formelaw08.BreaksPlaces", spec := "breaksPlaces", inPlace := ["internal/bytealg.CountString", "internal/bytealg.IndexByteString", "internal/bytealg.IndexString", "internal/abi.NoEscape", "internal/bytealg.MakeNoZero"], unfollowed := true, recurses := true, named := ["internal/bytealg.MaxLen", "unicode/utf8.first", "unicode/utf8.acceptRanges"], apart := false, laid := [("unicode/utf8.acceptRanges", laid_unicode_utf8_acceptRanges), ("unicode/utf8.first", laid_unicode_utf8_first)], narrowed := true }
def BreaksPlacesUptoSaid : Prop := breaksPlacesUptoRow.holds Tryd.pinned (OpenSpec.upto breaksPlacesSpec)

/-- 'formelaw08.BreaksKeeps', WHERE WHAT IT READS IS OF BULK AT MOST 1048576: true; the input reads as it did. -/
def breaksKeepsUptoRow : OpenClaim := { program := "ytiahgcidgbalkaadoor", sum := "05706cb5d042f86b0605443bb91eb04b9cb1d0611a6546d8334ffd203ebecc2b", func := "forme/formelaw08.BreaksKeeps", spec := "breaksKeeps", inPlace := ["internal/bytealg.CountString", "internal/bytealg.IndexByteString", "internal/bytealg.IndexString", "internal/abi.NoEscape", "internal/bytealg.MakeNoZero"], unfollowed := true, recurses := true, named := ["internal/bytealg.MaxLen", "unicode/utf8.first", "unicode/utf8.acceptRanges"], apart := false, laid := [("unicode/utf8.acceptRanges", laid_unicode_utf8_acceptRanges), ("unicode/utf8.first", laid_unicode_utf8_first)], narrowed := true }
def BreaksKeepsUptoSaid : Prop := breaksKeepsUptoRow.holds Tryd.pinned (OpenSpec.upto breaksKeepsSpec)

/-- 'formelaw08.BreaksStricter', WHERE WHAT IT READS IS OF BULK AT MOST 1048576: true; the input reads as it did. -/
def breaksStricterUptoRow : OpenClaim := { program := "ytiahgcidgbalkaadoor", sum := "05706cb5d042f86b0605443bb91eb04b9cb1d0611a6546d8334ffd203ebecc2b", func := "forme/formelaw08.BreaksStricter", spec := "breaksStricter", inPlace := ["internal/bytealg.CountString", "internal/bytealg.IndexByteString", "internal/bytealg.IndexString", "internal/abi.NoEscape", "internal/bytealg.MakeNoZero"], unfollowed := true, recurses := true, named := ["internal/bytealg.MaxLen", "unicode/utf8.first", "unicode/utf8.acceptRanges"], apart := false, laid := [("unicode/utf8.acceptRanges", laid_unicode_utf8_acceptRanges), ("unicode/utf8.first", laid_unicode_utf8_first)], narrowed := true }
def BreaksStricterUptoSaid : Prop := breaksStricterUptoRow.holds Tryd.pinned (OpenSpec.upto breaksStricterSpec)

/-- 'formelaw08.BreaksJoins', WHERE WHAT IT READS IS OF BULK AT MOST 1048576: true; the input reads as it did. -/
def breaksJoinsUptoRow : OpenClaim := { program := "ytiahgcidgbalkaadoor", sum := "05706cb5d042f86b0605443bb91eb04b9cb1d0611a6546d8334ffd203ebecc2b", func := "forme/formelaw08.BreaksJoins", spec := "breaksJoins", inPlace := ["internal/bytealg.CountString", "internal/bytealg.IndexByteString", "internal/bytealg.IndexString", "internal/abi.NoEscape", "internal/bytealg.MakeNoZero"], unfollowed := true, recurses := true, named := ["internal/bytealg.MaxLen", "unicode/utf8.first", "unicode/utf8.acceptRanges"], apart := false, laid := [("unicode/utf8.acceptRanges", laid_unicode_utf8_acceptRanges), ("unicode/utf8.first", laid_unicode_utf8_first)], narrowed := true }
def BreaksJoinsUptoSaid : Prop := breaksJoinsUptoRow.holds Tryd.pinned (OpenSpec.upto breaksJoinsSpec)

/-- 'formelaw08.BreaksWords', WHERE WHAT IT READS IS OF BULK AT MOST 1048576: true; the input reads as it did. -/
def breaksWordsUptoRow : OpenClaim := { program := "ytiahgcidgbalkaadoor", sum := "05706cb5d042f86b0605443bb91eb04b9cb1d0611a6546d8334ffd203ebecc2b", func := "forme/formelaw08.BreaksWords", spec := "breaksWords", inPlace := ["internal/bytealg.CountString", "internal/bytealg.IndexByteString", "internal/bytealg.IndexString", "internal/abi.NoEscape", "internal/bytealg.MakeNoZero"], unfollowed := true, recurses := true, named := ["internal/bytealg.MaxLen", "unicode/utf8.first", "unicode/utf8.acceptRanges"], apart := false, laid := [("unicode/utf8.acceptRanges", laid_unicode_utf8_acceptRanges), ("unicode/utf8.first", laid_unicode_utf8_first)], narrowed := true }
def BreaksWordsUptoSaid : Prop := breaksWordsUptoRow.holds Tryd.pinned (OpenSpec.upto breaksWordsSpec)

end Rows
end Go.Proofs.YtiahgcidgbalkaaDoor
