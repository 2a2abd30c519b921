/-
  NARROWER THAN 'FOR EVERY INPUT', by the rows' own cells (each row's printed sentence says how): InlineMatchesReference: laid · InlineAll: laid · InlineFits: laid · InlineWider: laid · InlineOne: laid · InlinePlaces: laid.
  DERIVED. THE GIVEN ROWS OF THIS SEAT. 6 by the template 'for every input the law returns true; each argument reads behind the call as it read before'; 0 by the template 'total and deterministic' (their statements: YtokeiiakkfdmgaaGreatDoorTotals.lean).
  GIVEN WITH THE SEED: the statements are not yours to turn. If you find one false, say at which input.
  Laid BY PROGRAM, IN A SANDBOX (cutbox-rows.mjs): the forced cells as the released guide's own fill.sh prints them over the translation 849159bcd27508f5… (all of the seat's roots in one cut). By AI agents, Wed Nov 11 2026. No macro, syntax, notation, axiom, sorry.
-/
import Derived.Test.YtokeiiakkfdmgaaGreatDoorChecked
import GoSem.PinnedTables
import GoSem.Claim
import GoSem.ClaimJoined
import GoSem.ClaimMapViews
import Derived.JoinedTies
import Derived.KernelRfl
namespace Go.Proofs.YtokeiiakkfdmgaaGreatDoor
/- THE CELL 'sum', in the pinned program and in every row, IS THE sha256 OF THE DUMP (.gsa) THAT YtokeiiakkfdmgaaGreatDoorProg.lean LOADS. Nothing in Lean hashes anything: it is a label: what it is worth is what the hold of that sum in a sandbox is worth. -/
noncomputable def Tryz.pinned : Pinned := { name := "ytokeiiakkfdmgaagreatdoor", sum := "849159bcd27508f5778eddcff4dc60c196a4b0022caf66fb26baa7547490ea65", checked := Tryz.checked }
namespace Rows
def none {H : Type} : Left H := { results := [], args := [] }

/- WHAT THE LISTED PACKAGE-LEVEL VARIABLES READ AS WHEN THE CALL BEGINS. Each datum BY PROGRAM (the guide's laid-datum.mjs) off the statement by which the dump's own 'gosem.cut.vars' lays the variable. In a bare row this is a premise. The card (YtokeiiakkfdmgaaGreatDoorCards.lean) ties it to the program's text. -/
def laid_unicode_utf8_acceptRanges {H : Type} : DataW H := .agg [.agg [.lit (.int .u8 128), .lit (.int .u8 191)], .agg [.lit (.int .u8 160), .lit (.int .u8 191)], .agg [.lit (.int .u8 128), .lit (.int .u8 159)], .agg [.lit (.int .u8 144), .lit (.int .u8 191)], .agg [.lit (.int .u8 128), .lit (.int .u8 143)], .agg [.lit (.int .u8 0), .lit (.int .u8 0)], .agg [.lit (.int .u8 0), .lit (.int .u8 0)], .agg [.lit (.int .u8 0), .lit (.int .u8 0)], .agg [.lit (.int .u8 0), .lit (.int .u8 0)], .agg [.lit (.int .u8 0), .lit (.int .u8 0)], .agg [.lit (.int .u8 0), .lit (.int .u8 0)], .agg [.lit (.int .u8 0), .lit (.int .u8 0)], .agg [.lit (.int .u8 0), .lit (.int .u8 0)], .agg [.lit (.int .u8 0), .lit (.int .u8 0)], .agg [.lit (.int .u8 0), .lit (.int .u8 0)], .agg [.lit (.int .u8 0), .lit (.int .u8 0)]]
/-- One of Go's own tables, pinned by name: the form's constant. -/
def laid_unicode_utf8_first : DataW Unit := Go.Pinned.utf8First

/-- 'formelaw17.InlineMatchesReference': WHATEVER THE INPUT: true; the input reads as it did. -/
def inlineMatchesReferenceSpec : ChangeSpec := { name := "inlineMatchesReference", fn := fun _ => fun
  | [d1, d2, d3, d4, d5, d6, d7, d8, d9] => { results := [.lit (.bool true)], args := [d1, d2, d3, d4, d5, d6, d7, d8, d9] }
  | _ => none }
def inlineMatchesReferenceRow : OpenClaim := { program := "ytokeiiakkfdmgaagreatdoor", sum := "849159bcd27508f5778eddcff4dc60c196a4b0022caf66fb26baa7547490ea65", func := "forme/formelaw17.InlineMatchesReference", spec := "inlineMatchesReference", inPlace := ["internal/bytealg.CountString", "internal/bytealg.IndexByteString", "internal/bytealg.IndexString", "internal/abi.NoEscape", "internal/bytealg.MakeNoZero"], unfollowed := true, recurses := true, named := ["internal/bytealg.MaxLen", "unicode/utf8.first", "unicode/utf8.acceptRanges"], apart := false, laid := [("unicode/utf8.acceptRanges", laid_unicode_utf8_acceptRanges), ("unicode/utf8.first", laid_unicode_utf8_first)] }
def InlineMatchesReferenceSaid : Prop := inlineMatchesReferenceRow.holds Tryz.pinned (OpenSpec.ofChange inlineMatchesReferenceSpec)

/-- ITS FALSE NEIGHBOUR: 'it returns false'. Refute it at one input. -/
def inlineMatchesReferenceWrong : ChangeSpec := { name := "inlineMatchesReference", fn := fun _ => fun
  | [d1, d2, d3, d4, d5, d6, d7, d8, d9] => { results := [.lit (.bool false)], args := [d1, d2, d3, d4, d5, d6, d7, d8, d9] }
  | _ => none }
def InlineMatchesReferenceWrongFalsely : Prop := inlineMatchesReferenceRow.holds Tryz.pinned (OpenSpec.ofChange inlineMatchesReferenceWrong)

/-- 'formelaw17.InlineAll': WHATEVER THE INPUT: true; the input reads as it did. -/
def inlineAllSpec : ChangeSpec := { name := "inlineAll", fn := fun _ => fun
  | [d1, d2, d3, d4, d5] => { results := [.lit (.bool true)], args := [d1, d2, d3, d4, d5] }
  | _ => none }
def inlineAllRow : OpenClaim := { program := "ytokeiiakkfdmgaagreatdoor", sum := "849159bcd27508f5778eddcff4dc60c196a4b0022caf66fb26baa7547490ea65", func := "forme/formelaw17.InlineAll", spec := "inlineAll", inPlace := ["internal/bytealg.CountString", "internal/bytealg.IndexByteString", "internal/bytealg.IndexString", "internal/abi.NoEscape", "internal/bytealg.MakeNoZero"], unfollowed := true, recurses := true, named := ["internal/bytealg.MaxLen", "unicode/utf8.first", "unicode/utf8.acceptRanges"], apart := false, laid := [("unicode/utf8.acceptRanges", laid_unicode_utf8_acceptRanges), ("unicode/utf8.first", laid_unicode_utf8_first)] }
def InlineAllSaid : Prop := inlineAllRow.holds Tryz.pinned (OpenSpec.ofChange inlineAllSpec)

/-- ITS FALSE NEIGHBOUR: 'it returns false'. Refute it at one input. -/
def inlineAllWrong : ChangeSpec := { name := "inlineAll", fn := fun _ => fun
  | [d1, d2, d3, d4, d5] => { results := [.lit (.bool false)], args := [d1, d2, d3, d4, d5] }
  | _ => none }
def InlineAllWrongFalsely : Prop := inlineAllRow.holds Tryz.pinned (OpenSpec.ofChange inlineAllWrong)

/-- 'formelaw17.InlineFits': WHATEVER THE INPUT: true; the input reads as it did. -/
def inlineFitsSpec : ChangeSpec := { name := "inlineFits", fn := fun _ => fun
  | [d1, d2, d3, d4, d5] => { results := [.lit (.bool true)], args := [d1, d2, d3, d4, d5] }
  | _ => none }
def inlineFitsRow : OpenClaim := { program := "ytokeiiakkfdmgaagreatdoor", sum := "849159bcd27508f5778eddcff4dc60c196a4b0022caf66fb26baa7547490ea65", func := "forme/formelaw17.InlineFits", spec := "inlineFits", inPlace := ["internal/bytealg.CountString", "internal/bytealg.IndexByteString", "internal/bytealg.IndexString", "internal/abi.NoEscape", "internal/bytealg.MakeNoZero"], unfollowed := true, recurses := true, named := ["internal/bytealg.MaxLen", "unicode/utf8.first", "unicode/utf8.acceptRanges"], apart := false, laid := [("unicode/utf8.acceptRanges", laid_unicode_utf8_acceptRanges), ("unicode/utf8.first", laid_unicode_utf8_first)] }
def InlineFitsSaid : Prop := inlineFitsRow.holds Tryz.pinned (OpenSpec.ofChange inlineFitsSpec)

/-- ITS FALSE NEIGHBOUR: 'it returns false'. Refute it at one input. -/
def inlineFitsWrong : ChangeSpec := { name := "inlineFits", fn := fun _ => fun
  | [d1, d2, d3, d4, d5] => { results := [.lit (.bool false)], args := [d1, d2, d3, d4, d5] }
  | _ => none }
def InlineFitsWrongFalsely : Prop := inlineFitsRow.holds Tryz.pinned (OpenSpec.ofChange inlineFitsWrong)

/-- 'formelaw17.InlineWider': WHATEVER THE INPUT: true; the input reads as it did. -/
def inlineWiderSpec : ChangeSpec := { name := "inlineWider", fn := fun _ => fun
  | [d1, d2, d3, d4, d5, d6, d7] => { results := [.lit (.bool true)], args := [d1, d2, d3, d4, d5, d6, d7] }
  | _ => none }
def inlineWiderRow : OpenClaim := { program := "ytokeiiakkfdmgaagreatdoor", sum := "849159bcd27508f5778eddcff4dc60c196a4b0022caf66fb26baa7547490ea65", func := "forme/formelaw17.InlineWider", spec := "inlineWider", inPlace := ["internal/bytealg.CountString", "internal/bytealg.IndexByteString", "internal/bytealg.IndexString", "internal/abi.NoEscape", "internal/bytealg.MakeNoZero"], unfollowed := true, recurses := true, named := ["internal/bytealg.MaxLen", "unicode/utf8.first", "unicode/utf8.acceptRanges"], apart := false, laid := [("unicode/utf8.acceptRanges", laid_unicode_utf8_acceptRanges), ("unicode/utf8.first", laid_unicode_utf8_first)] }
def InlineWiderSaid : Prop := inlineWiderRow.holds Tryz.pinned (OpenSpec.ofChange inlineWiderSpec)

/-- ITS FALSE NEIGHBOUR: 'it returns false'. Refute it at one input. -/
def inlineWiderWrong : ChangeSpec := { name := "inlineWider", fn := fun _ => fun
  | [d1, d2, d3, d4, d5, d6, d7] => { results := [.lit (.bool false)], args := [d1, d2, d3, d4, d5, d6, d7] }
  | _ => none }
def InlineWiderWrongFalsely : Prop := inlineWiderRow.holds Tryz.pinned (OpenSpec.ofChange inlineWiderWrong)

/-- 'formelaw17.InlineOne': WHATEVER THE INPUT: true; the input reads as it did. -/
def inlineOneSpec : ChangeSpec := { name := "inlineOne", fn := fun _ => fun
  | [d1, d2, d3, d4, d5] => { results := [.lit (.bool true)], args := [d1, d2, d3, d4, d5] }
  | _ => none }
def inlineOneRow : OpenClaim := { program := "ytokeiiakkfdmgaagreatdoor", sum := "849159bcd27508f5778eddcff4dc60c196a4b0022caf66fb26baa7547490ea65", func := "forme/formelaw17.InlineOne", spec := "inlineOne", inPlace := ["internal/bytealg.CountString", "internal/bytealg.IndexByteString", "internal/bytealg.IndexString", "internal/abi.NoEscape", "internal/bytealg.MakeNoZero"], unfollowed := true, recurses := true, named := ["internal/bytealg.MaxLen", "unicode/utf8.first", "unicode/utf8.acceptRanges"], apart := false, laid := [("unicode/utf8.acceptRanges", laid_unicode_utf8_acceptRanges), ("unicode/utf8.first", laid_unicode_utf8_first)] }
def InlineOneSaid : Prop := inlineOneRow.holds Tryz.pinned (OpenSpec.ofChange inlineOneSpec)

/-- ITS FALSE NEIGHBOUR: 'it returns false'. Refute it at one input. -/
def inlineOneWrong : ChangeSpec := { name := "inlineOne", fn := fun _ => fun
  | [d1, d2, d3, d4, d5] => { results := [.lit (.bool false)], args := [d1, d2, d3, d4, d5] }
  | _ => none }
def InlineOneWrongFalsely : Prop := inlineOneRow.holds Tryz.pinned (OpenSpec.ofChange inlineOneWrong)

/-- 'formelaw17.InlinePlaces': WHATEVER THE INPUT: true; the input reads as it did. -/
def inlinePlacesSpec : ChangeSpec := { name := "inlinePlaces", fn := fun _ => fun
  | [d1, d2, d3, d4, d5, d6] => { results := [.lit (.bool true)], args := [d1, d2, d3, d4, d5, d6] }
  | _ => none }
def inlinePlacesRow : OpenClaim := { program := "ytokeiiakkfdmgaagreatdoor", sum := "849159bcd27508f5778eddcff4dc60c196a4b0022caf66fb26baa7547490ea65", func := "forme/formelaw17.InlinePlaces", spec := "inlinePlaces", inPlace := ["internal/bytealg.CountString", "internal/bytealg.IndexByteString", "internal/bytealg.IndexString", "internal/abi.NoEscape", "internal/bytealg.MakeNoZero"], unfollowed := true, recurses := true, named := ["internal/bytealg.MaxLen", "unicode/utf8.first", "unicode/utf8.acceptRanges"], apart := false, laid := [("unicode/utf8.acceptRanges", laid_unicode_utf8_acceptRanges), ("unicode/utf8.first", laid_unicode_utf8_first)] }
def InlinePlacesSaid : Prop := inlinePlacesRow.holds Tryz.pinned (OpenSpec.ofChange inlinePlacesSpec)

/-- ITS FALSE NEIGHBOUR: 'it returns false'. Refute it at one input. -/
def inlinePlacesWrong : ChangeSpec := { name := "inlinePlaces", fn := fun _ => fun
  | [d1, d2, d3, d4, d5, d6] => { results := [.lit (.bool false)], args := [d1, d2, d3, d4, d5, d6] }
  | _ => none }
def InlinePlacesWrongFalsely : Prop := inlinePlacesRow.holds Tryz.pinned (OpenSpec.ofChange inlinePlacesWrong)

/- THE SECOND FORM. 'bulk': how many values and letters a reading holds, each counted each time it is reached (what is shared counts as often as it is met; a slice's spare places count too). A statement '..UptoSaid' is the law's where the arguments, and the package variables that the reading takes, are together of bulk at most 1048576: NARROWER than '..Said'. Prove '..Said' where nothing that the law and all that it calls make is longer than what came in: it says more and counts as full. Else prove '..UptoSaid'. A law counts once. -/
mutual
def uptoBulk {H : Type} : DataW H → Nat
  | .lit (.string bytes) => bytes.length + 1
  | .lit _ => 1
  | .nil => 1
  | .ptr d => uptoBulk d + 1
  | .slice elems spare => uptoBulkAll elems + uptoBulkAll spare + 1
  | .agg parts => uptoBulkAll parts + 1
  | .iface _ d => uptoBulk d + 1
  | .map entries => uptoBulkEntries entries + 1
  | .held _ => 1
def uptoBulkAll {H : Type} : List (DataW H) → Nat
  | [] => 0
  | d :: r => uptoBulk d + uptoBulkAll r
def uptoBulkEntries {H : Type} : List (Lit × DataW H) → Nat
  | [] => 0
  | x :: r => uptoBulkEntry x + uptoBulkEntries r
def uptoBulkEntry {H : Type} : Lit × DataW H → Nat
  | (.string bytes, d) => bytes.length + uptoBulk d + 1
  | (_, d) => uptoBulk d + 1
 end
def uptoSmall : (H : Type) → List (DataW H) → Bool := fun _ ds => decide (uptoBulkAll ds ≤ 1048576)
def OpenSpec.upto (s : _root_.Go.ChangeSpec) : _root_.Go.OpenSpec := { _root_.Go.OpenSpec.ofChange s with cond := some uptoSmall }

/-- 'formelaw17.InlineMatchesReference', WHERE WHAT IT READS IS OF BULK AT MOST 1048576: true; the input reads as it did. -/
def inlineMatchesReferenceUptoRow : OpenClaim := { program := "ytokeiiakkfdmgaagreatdoor", sum := "849159bcd27508f5778eddcff4dc60c196a4b0022caf66fb26baa7547490ea65", func := "forme/formelaw17.InlineMatchesReference", spec := "inlineMatchesReference", inPlace := ["internal/bytealg.CountString", "internal/bytealg.IndexByteString", "internal/bytealg.IndexString", "internal/abi.NoEscape", "internal/bytealg.MakeNoZero"], unfollowed := true, recurses := true, named := ["internal/bytealg.MaxLen", "unicode/utf8.first", "unicode/utf8.acceptRanges"], apart := false, laid := [("unicode/utf8.acceptRanges", laid_unicode_utf8_acceptRanges), ("unicode/utf8.first", laid_unicode_utf8_first)], narrowed := true }
def InlineMatchesReferenceUptoSaid : Prop := inlineMatchesReferenceUptoRow.holds Tryz.pinned (OpenSpec.upto inlineMatchesReferenceSpec)

/-- 'formelaw17.InlineAll', WHERE WHAT IT READS IS OF BULK AT MOST 1048576: true; the input reads as it did. -/
def inlineAllUptoRow : OpenClaim := { program := "ytokeiiakkfdmgaagreatdoor", sum := "849159bcd27508f5778eddcff4dc60c196a4b0022caf66fb26baa7547490ea65", func := "forme/formelaw17.InlineAll", spec := "inlineAll", inPlace := ["internal/bytealg.CountString", "internal/bytealg.IndexByteString", "internal/bytealg.IndexString", "internal/abi.NoEscape", "internal/bytealg.MakeNoZero"], unfollowed := true, recurses := true, named := ["internal/bytealg.MaxLen", "unicode/utf8.first", "unicode/utf8.acceptRanges"], apart := false, laid := [("unicode/utf8.acceptRanges", laid_unicode_utf8_acceptRanges), ("unicode/utf8.first", laid_unicode_utf8_first)], narrowed := true }
def InlineAllUptoSaid : Prop := inlineAllUptoRow.holds Tryz.pinned (OpenSpec.upto inlineAllSpec)

/-- 'formelaw17.InlineFits', WHERE WHAT IT READS IS OF BULK AT MOST 1048576: true; the input reads as it did. -/
def inlineFitsUptoRow : OpenClaim := { program := "ytokeiiakkfdmgaagreatdoor", sum := "849159bcd27508f5778eddcff4dc60c196a4b0022caf66fb26baa7547490ea65", func := "forme/formelaw17.InlineFits", spec := "inlineFits", inPlace := ["internal/bytealg.CountString", "internal/bytealg.IndexByteString", "internal/bytealg.IndexString", "internal/abi.NoEscape", "internal/bytealg.MakeNoZero"], unfollowed := true, recurses := true, named := ["internal/bytealg.MaxLen", "unicode/utf8.first", "unicode/utf8.acceptRanges"], apart := false, laid := [("unicode/utf8.acceptRanges", laid_unicode_utf8_acceptRanges), ("unicode/utf8.first", laid_unicode_utf8_first)], narrowed := true }
def InlineFitsUptoSaid : Prop := inlineFitsUptoRow.holds Tryz.pinned (OpenSpec.upto inlineFitsSpec)

/-- 'formelaw17.InlineWider', WHERE WHAT IT READS IS OF BULK AT MOST 1048576: true; the input reads as it did. -/
def inlineWiderUptoRow : OpenClaim := { program := "ytokeiiakkfdmgaagreatdoor", sum := "849159bcd27508f5778eddcff4dc60c196a4b0022caf66fb26baa7547490ea65", func := "forme/formelaw17.InlineWider", spec := "inlineWider", inPlace := ["internal/bytealg.CountString", "internal/bytealg.IndexByteString", "internal/bytealg.IndexString", "internal/abi.NoEscape", "internal/bytealg.MakeNoZero"], unfollowed := true, recurses := true, named := ["internal/bytealg.MaxLen", "unicode/utf8.first", "unicode/utf8.acceptRanges"], apart := false, laid := [("unicode/utf8.acceptRanges", laid_unicode_utf8_acceptRanges), ("unicode/utf8.first", laid_unicode_utf8_first)], narrowed := true }
def InlineWiderUptoSaid : Prop := inlineWiderUptoRow.holds Tryz.pinned (OpenSpec.upto inlineWiderSpec)

/-- 'formelaw17.InlineOne', WHERE WHAT IT READS IS OF BULK AT MOST 1048576: true; the input reads as it did. -/
def inlineOneUptoRow : OpenClaim := { program := "ytokeiiakkfdmgaagreatdoor", sum := "849159bcd27508f5778eddcff4dc60c196a4b0022caf66fb26baa7547490ea65", func := "forme/formelaw17.InlineOne", spec := "inlineOne", inPlace := ["internal/bytealg.CountString", "internal/bytealg.IndexByteString", "internal/bytealg.IndexString", "internal/abi.NoEscape", "internal/bytealg.MakeNoZero"], unfollowed := true, recurses := true, named := ["internal/bytealg.MaxLen", "unicode/utf8.first", "unicode/utf8.acceptRanges"], apart := false, laid := [("unicode/utf8.acceptRanges", laid_unicode_utf8_acceptRanges), ("unicode/utf8.first", laid_unicode_utf8_first)], narrowed := true }
def InlineOneUptoSaid : Prop := inlineOneUptoRow.holds Tryz.pinned (OpenSpec.upto inlineOneSpec)

/-- 'formelaw17.InlinePlaces', WHERE WHAT IT READS IS OF BULK AT MOST 1048576: true; the input reads as it did. -/
def inlinePlacesUptoRow : OpenClaim := { program := "ytokeiiakkfdmgaagreatdoor", sum := "849159bcd27508f5778eddcff4dc60c196a4b0022caf66fb26baa7547490ea65", func := "forme/formelaw17.InlinePlaces", spec := "inlinePlaces", inPlace := ["internal/bytealg.CountString", "internal/bytealg.IndexByteString", "internal/bytealg.IndexString", "internal/abi.NoEscape", "internal/bytealg.MakeNoZero"], unfollowed := true, recurses := true, named := ["internal/bytealg.MaxLen", "unicode/utf8.first", "unicode/utf8.acceptRanges"], apart := false, laid := [("unicode/utf8.acceptRanges", laid_unicode_utf8_acceptRanges), ("unicode/utf8.first", laid_unicode_utf8_first)], narrowed := true }
def InlinePlacesUptoSaid : Prop := inlinePlacesUptoRow.holds Tryz.pinned (OpenSpec.upto inlinePlacesSpec)

end Rows
end Go.Proofs.YtokeiiakkfdmgaaGreatDoor
