/-
 LG, part P: the words of the pure functions. Nothing of memory.
-/
import GoSem.Core.View
import GoSem.Core.Utf8
set_option linter.unusedVariables false
namespace Go.LG
abbrev aj (n : Int) : Int := IntKind.wrap .i64 n
abbrev wu8 (n : Int) : Int := IntKind.wrap .u8 n
def bt (s : ByteArray) (i : Int) : Int := ((s.get! i.toNat).toNat : Int)
def sub (s : ByteArray) (l h : Int) : ByteArray := s.extract l.toNat h.toNat
def n3 {U α : Type} (φ : U → α → Option (U × Option Nat)) (s : U × Option Nat) (x : α) : Option ((U × Option Nat) × Bool) :=
 match s.2 with
 | some _ => none
 | none => φ s.1 x >>= fun y => some (y, y.2.isNone)
end Go.LG
