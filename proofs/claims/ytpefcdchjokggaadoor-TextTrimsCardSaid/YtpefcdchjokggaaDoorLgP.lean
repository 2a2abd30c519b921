/-
  LG, part P: the words of the pure functions. Nothing of memory.
-/
import GoSem.Core.View
import GoSem.Core.Utf8
set_option linter.unusedVariables false
namespace Go.LG
abbrev w64 (n : Int) : Int := IntKind.wrap .i64 n
abbrev w32 (n : Int) : Int := IntKind.wrap .i32 n
abbrev wu8 (n : Int) : Int := IntKind.wrap .u8 n
/-- A string's byte. -/
def bt (s : ByteArray) (i : Int) : Int := ((s.get! i.toNat).toNat : Int)
/-- The string of some bytes. -/
def bstr (xs : List Int) : ByteArray := ⟨(xs.map fun n => UInt8.ofNat n.toNat).toArray⟩
/-- A part of a string. -/
def sub (s : ByteArray) (l h : Int) : ByteArray := s.extract l.toNat h.toNat
/-- A part of a list. -/
def cut {α : Type} (xs : List α) (l h : Int) : List α := (xs.take h.toNat).drop l.toNat
end Go.LG
