/-
 LG, part P: the words of the pure functions. Nothing of memory.
-/
import GoSem.Core.View
import GoSem.Core.Utf8
set_option linter.unusedVariables false
namespace Go.LG
abbrev w64 (n : Int) : Int := IntKind.wrap .i64 n
abbrev wu8 (n : Int) : Int := IntKind.wrap .u8 n
def bt (s : ByteArray) (i : Int) : Int := ((s.get! i.toNat).toNat : Int)
def sub (s : ByteArray) (l h : Int) : ByteArray := s.extract l.toNat h.toNat
def cutl {α : Type} (xs : List α) (l h : Int) : List α := (xs.take h.toNat).drop l.toNat
def mfind {α β : Type} [DecidableEq α] : List (α × β) → α → Nat → Option (Nat × β)
 | [], _, _ => none
 | x :: l, a, i => if a = x.1 then some (i, x.2) else mfind l a (i + 1)
def mget {α β : Type} [DecidableEq α] (l : List (α × β)) (a : α) : Option β := (mfind l a 0).map (·.2)
def mput {α β : Type} [DecidableEq α] (l : List (α × β)) (a : α) (b : β) : List (α × β) :=
 match mfind l a 0 with
 | some (i, _) => l.set i (a, b)
 | none => l ++ [(a, b)]
def rnd {U α : Type} (φ : U → α → Option (U × Option Nat)) (s : U × Option Nat) (x : α) : Option ((U × Option Nat) × Bool) :=
 match s.2 with
 | some _ => none
 | none => φ s.1 x >>= fun y => some (y, y.2.isNone)
end Go.LG
