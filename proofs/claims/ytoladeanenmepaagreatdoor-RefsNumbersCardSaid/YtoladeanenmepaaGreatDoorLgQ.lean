/-
 LG, part Q: small laws for the plain functions. Nothing of memory.
-/
import Derived.Test.YtoladeanenmepaaGreatDoorLgP
import Derived.Lib.Strings
set_option linter.unusedVariables false
set_option linter.unusedSimpArgs false
namespace Go.LG
theorem and_some {c p : Prop} [Decidable c] [Decidable p] : (if c then some (decide p) else some false) = some (decide (c ∧ p)) := by by_cases c <;> by_cases p <;> simp_all
theorem or_some {c p : Prop} [Decidable c] [Decidable p] : (if c then some true else some (decide p)) = some (decide (c ∨ p)) := by by_cases c <;> by_cases p <;> simp_all
theorem some_bind {α β : Type} (a : α) (f : α → Option β) : (some a >>= f) = f a := rfl
theorem w64_id {n : Int} (h0 : -9223372036854775808 ≤ n) (h1 : n ≤ 9223372036854775807) : w64 n = n := by
 simp only [w64, IntKind.wrap]
 have e : IntKind.bits .i64 = 64 := rfl
 simp [IntKind.signed, e]
 omega
theorem wu8_id {n : Int} (h0 : 0 ≤ n) (h1 : n ≤ 255) : wu8 n = n := by
 simp only [wu8, IntKind.wrap]
 have e : IntKind.bits .u8 = 8 := rfl
 simp [IntKind.signed, e]
 omega
theorem bt_at (s : ByteArray) {i : Nat} (h : i < s.data.toList.length) : bt s (i : Int) = ((s.data.toList[i]).toNat : Int) := by
 unfold bt
 have : s.get! (Int.toNat (i : Int)) = s.data.toList[i] := by
  simp only [Int.toNat_natCast, ByteArray.get!]
  rw [getElem!_pos s.data i (by simpa using h)]
  simp
 rw [this]
theorem bt_mk (l : List UInt8) {i : Nat} (h : i < l.length) : bt ⟨l.toArray⟩ (i : Int) = ((l[i]).toNat : Int) := bt_at ⟨l.toArray⟩ (by simpa using h)
theorem bstr_map (l : List UInt8) : bstr (l.map fun b => (b.toNat : Int)) = ⟨l.toArray⟩ := by
 unfold bstr
 congr 1
 rw [List.map_map]
 congr 1
 conv => rhs; rw [← List.map_id l]
 apply List.map_congr_left
 intro a _
 simp
theorem sub_data (s : ByteArray) (a b : Nat) : sub s (a : Int) (b : Int) = ⟨((s.data.toList.drop a).take (b - a)).toArray⟩ := by
 unfold sub
 rw [Int.toNat_natCast, Int.toNat_natCast, Lib.extract_eq]
end Go.LG
