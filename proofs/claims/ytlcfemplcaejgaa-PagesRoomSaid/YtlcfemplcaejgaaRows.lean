/-
  No cell of these rows narrows 'for every input' (looked for: loops, veiled, ifaces, maps, wideKeys, modest, calm, conditions, laid).
  DERIVED. THE GIVEN ROWS OF THIS SEAT. 3 by the template 'for every input the law returns true; each argument reads behind the call as it read before'; 0 by the template 'total and deterministic' (their statements: YtlcfemplcaejgaaTotals.lean).
  GIVEN WITH THE SEED: the statements are not yours to turn. If you find one false, say at which input.
  Laid BY PROGRAM, IN A SANDBOX (cutbox-rows.mjs): the forced cells as the released guide's own fill.sh prints them over the translation 94e703d4ce62d984… (all of the seat's roots in one cut). By AI agents, Wed Nov 11 2026. No macro, syntax, notation, axiom, sorry.
-/
import Derived.Test.YtlcfemplcaejgaaChecked
import GoSem.Claim
import GoSem.ClaimJoined
import GoSem.ClaimMapViews
import Derived.JoinedTies
import Derived.KernelRfl
namespace Go.Proofs.Ytlcfemplcaejgaa
/- THE CELL 'sum', in the pinned program and in every row, IS THE sha256 OF THE DUMP (.gsa) THAT YtlcfemplcaejgaaProg.lean LOADS. Nothing in Lean hashes anything: it is a label: what it is worth is what the hold of that sum in a sandbox is worth. -/
noncomputable def Try.pinned : Pinned := { name := "ytlcfemplcaejgaa", sum := "94e703d4ce62d98450ed441c3b1ee97ed1b5e7cc4664f1eab9457fdebc134ace", checked := Try.checked }
namespace Rows
def none {H : Type} : Left H := { results := [], args := [] }

/-- 'formelaw40.PagesOnce': WHATEVER THE INPUT: true; the input reads as it did. -/
def pagesOnceSpec : ChangeSpec := { name := "pagesOnce", fn := fun _ => fun
  | [d1, d2, d3] => { results := [.lit (.bool true)], args := [d1, d2, d3] }
  | _ => none }
def pagesOnceRow : OpenClaim := { program := "ytlcfemplcaejgaa", sum := "94e703d4ce62d98450ed441c3b1ee97ed1b5e7cc4664f1eab9457fdebc134ace", func := "forme/formelaw40.PagesOnce", spec := "pagesOnce", unfollowed := true, recurses := true, plainKeys := false, apart := false }
def PagesOnceSaid : Prop := pagesOnceRow.holds Try.pinned (OpenSpec.ofChange pagesOnceSpec)

/-- ITS FALSE NEIGHBOUR: 'it returns false'. Refute it at one input. -/
def pagesOnceWrong : ChangeSpec := { name := "pagesOnce", fn := fun _ => fun
  | [d1, d2, d3] => { results := [.lit (.bool false)], args := [d1, d2, d3] }
  | _ => none }
def PagesOnceWrongFalsely : Prop := pagesOnceRow.holds Try.pinned (OpenSpec.ofChange pagesOnceWrong)

/-- 'formelaw40.PagesRoom': WHATEVER THE INPUT: true; the input reads as it did. -/
def pagesRoomSpec : ChangeSpec := { name := "pagesRoom", fn := fun _ => fun
  | [d1, d2, d3] => { results := [.lit (.bool true)], args := [d1, d2, d3] }
  | _ => none }
def pagesRoomRow : OpenClaim := { program := "ytlcfemplcaejgaa", sum := "94e703d4ce62d98450ed441c3b1ee97ed1b5e7cc4664f1eab9457fdebc134ace", func := "forme/formelaw40.PagesRoom", spec := "pagesRoom", unfollowed := true, recurses := true, plainKeys := false, apart := false }
def PagesRoomSaid : Prop := pagesRoomRow.holds Try.pinned (OpenSpec.ofChange pagesRoomSpec)

/-- ITS FALSE NEIGHBOUR: 'it returns false'. Refute it at one input. -/
def pagesRoomWrong : ChangeSpec := { name := "pagesRoom", fn := fun _ => fun
  | [d1, d2, d3] => { results := [.lit (.bool false)], args := [d1, d2, d3] }
  | _ => none }
def PagesRoomWrongFalsely : Prop := pagesRoomRow.holds Try.pinned (OpenSpec.ofChange pagesRoomWrong)

/-- 'formelaw40.PagesBands': WHATEVER THE INPUT: true; the input reads as it did. -/
def pagesBandsSpec : ChangeSpec := { name := "pagesBands", fn := fun _ => fun
  | [d1, d2, d3, d4] => { results := [.lit (.bool true)], args := [d1, d2, d3, d4] }
  | _ => none }
def pagesBandsRow : OpenClaim := { program := "ytlcfemplcaejgaa", sum := "94e703d4ce62d98450ed441c3b1ee97ed1b5e7cc4664f1eab9457fdebc134ace", func := "forme/formelaw40.PagesBands", spec := "pagesBands", unfollowed := true, recurses := true, plainKeys := false, apart := false }
def PagesBandsSaid : Prop := pagesBandsRow.holds Try.pinned (OpenSpec.ofChange pagesBandsSpec)

/-- ITS FALSE NEIGHBOUR: 'it returns false'. Refute it at one input. -/
def pagesBandsWrong : ChangeSpec := { name := "pagesBands", fn := fun _ => fun
  | [d1, d2, d3, d4] => { results := [.lit (.bool false)], args := [d1, d2, d3, d4] }
  | _ => none }
def PagesBandsWrongFalsely : Prop := pagesBandsRow.holds Try.pinned (OpenSpec.ofChange pagesBandsWrong)

/- THE SECOND FORM. 'bulk': how many values and letters a reading holds, each counted each time it is reached (what is shared counts as often as it is met; a slice's spare places count too). A statement '..UptoSaid' is the law's where the arguments, and the package variables that the reading takes, are together of bulk at most 1048576: NARROWER than '..Said'. Prove '..Said' where nothing that the law and all that it calls make is longer than what came in: it says more and counts as full. Else prove '..UptoSaid'. A law counts once. -/
mutual
def uptoBulk {H : Type} : DataW H → Nat
  | .lit (.string bytes) => bytes.length + 1
  | .lit _ => 1
  | .nil => 1
  | .ptr d => uptoBulk d + 1
  | .slice elems spare => uptoBulkAll elems + uptoBulkAll spare + 1
  | .agg parts => uptoBulkAll parts + 1
  | .iface _ d => uptoBulk d + 1
  | .map entries => uptoBulkEntries entries + 1
  | .held _ => 1
def uptoBulkAll {H : Type} : List (DataW H) → Nat
  | [] => 0
  | d :: r => uptoBulk d + uptoBulkAll r
def uptoBulkEntries {H : Type} : List (Lit × DataW H) → Nat
  | [] => 0
  | x :: r => uptoBulkEntry x + uptoBulkEntries r
def uptoBulkEntry {H : Type} : Lit × DataW H → Nat
  | (.string bytes, d) => bytes.length + uptoBulk d + 1
  | (_, d) => uptoBulk d + 1
 end
def uptoSmall : (H : Type) → List (DataW H) → Bool := fun _ ds => decide (uptoBulkAll ds ≤ 1048576)
def OpenSpec.upto (s : _root_.Go.ChangeSpec) : _root_.Go.OpenSpec := { _root_.Go.OpenSpec.ofChange s with cond := some uptoSmall }

/-- 'formelaw40.PagesOnce', WHERE WHAT IT READS IS OF BULK AT MOST 1048576: true; the input reads as it did. -/
def pagesOnceUptoRow : OpenClaim := { program := "ytlcfemplcaejgaa", sum := "94e703d4ce62d98450ed441c3b1ee97ed1b5e7cc4664f1eab9457fdebc134ace", func := "forme/formelaw40.PagesOnce", spec := "pagesOnce", unfollowed := true, recurses := true, plainKeys := false, apart := false, narrowed := true }
def PagesOnceUptoSaid : Prop := pagesOnceUptoRow.holds Try.pinned (OpenSpec.upto pagesOnceSpec)

/-- 'formelaw40.PagesRoom', WHERE WHAT IT READS IS OF BULK AT MOST 1048576: true; the input reads as it did. -/
def pagesRoomUptoRow : OpenClaim := { program := "ytlcfemplcaejgaa", sum := "94e703d4ce62d98450ed441c3b1ee97ed1b5e7cc4664f1eab9457fdebc134ace", func := "forme/formelaw40.PagesRoom", spec := "pagesRoom", unfollowed := true, recurses := true, plainKeys := false, apart := false, narrowed := true }
def PagesRoomUptoSaid : Prop := pagesRoomUptoRow.holds Try.pinned (OpenSpec.upto pagesRoomSpec)

/-- 'formelaw40.PagesBands', WHERE WHAT IT READS IS OF BULK AT MOST 1048576: true; the input reads as it did. -/
def pagesBandsUptoRow : OpenClaim := { program := "ytlcfemplcaejgaa", sum := "94e703d4ce62d98450ed441c3b1ee97ed1b5e7cc4664f1eab9457fdebc134ace", func := "forme/formelaw40.PagesBands", spec := "pagesBands", unfollowed := true, recurses := true, plainKeys := false, apart := false, narrowed := true }
def PagesBandsUptoSaid : Prop := pagesBandsUptoRow.holds Try.pinned (OpenSpec.upto pagesBandsSpec)

end Rows
end Go.Proofs.Ytlcfemplcaejgaa
