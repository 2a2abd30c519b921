/-
 LG, part Q: small laws for the plain functions. Nothing of memory.
-/
import Derived.Test.YtlcfemplcaejgaaLgP
import Derived.Lib.Strings
set_option linter.unusedVariables false
set_option linter.unusedSimpArgs false
namespace Go.LG
theorem eK {c p : Prop} [Decidable c] [Decidable p] : (if c then some (decide p) else some false) = some (decide (c ∧ p)) := by by_cases c <;> by_cases p <;> simp_all
theorem l9 {c p : Prop} [Decidable c] [Decidable p] : (if c then some true else some (decide p)) = some (decide (c ∨ p)) := by by_cases c <;> by_cases p <;> simp_all
theorem au {α β : Type} (a : α) (f : α → Option β) : (some a >>= f) = f a := rfl
theorem aG {n : Int} (h0 : -9223372036854775808 ≤ n) (h1 : n ≤ 9223372036854775807) : aj n = n := by
 simp only [aj, IntKind.wrap]
 have e : IntKind.bits .i64 = 64 := rfl
 simp [IntKind.signed, e]
 omega
theorem ql {n : Int} (h0 : 0 ≤ n) (h1 : n ≤ 255) : wu8 n = n := by
 simp only [wu8, IntKind.wrap]
 have e : IntKind.bits .u8 = 8 := rfl
 simp [IntKind.signed, e]
 omega
theorem qW (s : ByteArray) {i : Nat} (h : i < s.data.toList.length) : bt s (i : Int) = ((s.data.toList[i]).toNat : Int) := by
 unfold bt
 have : s.get! (Int.toNat (i : Int)) = s.data.toList[i] := by
  simp only [Int.toNat_natCast, ByteArray.get!]
  rw [getElem!_pos s.data i (by simpa using h)]
  simp
 rw [this]
theorem qZ (l : List UInt8) {i : Nat} (h : i < l.length) : bt ⟨l.toArray⟩ (i : Int) = ((l[i]).toNat : Int) := qW ⟨l.toArray⟩ (by simpa using h)
end Go.LG
