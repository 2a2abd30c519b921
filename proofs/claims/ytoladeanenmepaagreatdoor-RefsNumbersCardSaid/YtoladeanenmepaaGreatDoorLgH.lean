/-
 LG, part H: more operations: nil checks, strings, structs that are compared, slices of slices.
-/
import Derived.Test.YtoladeanenmepaaGreatDoorLgG
import Derived.Laws.StructEq
import Derived.Laws.Strings
set_option linter.unusedVariables false
set_option linter.unusedSimpArgs false
namespace Go.LG
open Go.RowKit
section
variable {P : Program} {ro : Option Nat} {N : Nat} {ops : Array Oper} {rest : List Oper} {Q : Post} {r : Rg} {ds : List Deferred} {w : World}
variable {d : Option Nat} {ty : TypeId} {ps : String} {af : Array Edge} {gd : Option (Nat × Bool)} {x y : Operand} {G : Gh} {L : List Itm}
theorem q_nc {a : Addr} (hx : ev N r x = .pointer (some a)) (k : wpq P ro N ops rest Q (r.putO d (.pointer (some a))) ds w) (hw : Region.wanted ⟨d, .nilCheck x, ty, ps, af, gd⟩ (yieldR ops N r) = true := by rfl) :
  wpq P ro N ops (⟨d, .nilCheck x, ty, ps, af, gd⟩ :: rest) Q r ds w := wpq_v hw (by simp) (by simp [run_program', run_pure', run_pureS, run_getProgram, andThen_ok, Sem.run_bind, execOp, hx]) k
theorem toList_inj {s t : ByteArray} : (s.toList == t.toList) = decide (s = t) := by
 by_cases h : s = t
 ·subst h; simp
 ·have : s.toList ≠ t.toList := fun e => h (by
   rw [ByteArray.toList_eq, ByteArray.toList_eq] at e
   exact ByteArray.ext (Array.toList_inj.1 e))
  simp [h, this]
theorem eqGuard_str {op : BinOp} {t : TypeId} {a b : ByteArray} : (eqGuard op t x y (.string a) (.string b)).run P w = .ok () w := by cases op <;> rfl
theorem q_str_eql {T U : TypeId} {a b : ByteArray} (hx : ev N r x = .string a) (hy : ev N r y = .string b) (kk : wpq P ro N ops rest Q (r.putO d (.bool (decide (a = b)))) ds w)
  (hw : Region.wanted ⟨d, .binOp .eql T x y U, ty, ps, af, gd⟩ (yieldR ops N r) = true := by rfl) : wpq P ro N ops (⟨d, .binOp .eql T x y U, ty, ps, af, gd⟩ :: rest) Q r ds w :=
 wpq_v (v := .bool (decide (a = b))) (w' := w) hw (by simp) (by simp [run_program', run_pure', run_pureS, run_getProgram, andThen_ok, Sem.run_bind, execOp, hx, hy, eqGuard_str, binOp, Op.stringOp, ← toList_inj]) kk
theorem q_str_neq {T U : TypeId} {a b : ByteArray} (hx : ev N r x = .string a) (hy : ev N r y = .string b) (kk : wpq P ro N ops rest Q (r.putO d (.bool (decide (¬ a = b)))) ds w)
  (hw : Region.wanted ⟨d, .binOp .neq T x y U, ty, ps, af, gd⟩ (yieldR ops N r) = true := by rfl) : wpq P ro N ops (⟨d, .binOp .neq T x y U, ty, ps, af, gd⟩ :: rest) Q r ds w :=
 wpq_v (v := .bool (decide (¬ a = b))) (w' := w) hw (by simp) (by simp [run_program', run_pure', run_pureS, run_getProgram, andThen_ok, Sem.run_bind, execOp, hx, hy, eqGuard_str, binOp, Op.stringOp, toList_inj]) kk
theorem q_str_add {T U : TypeId} {a b : ByteArray} (hx : ev N r x = .string a) (hy : ev N r y = .string b) (hl : a.size + b.size ≤ 9223372036854775807) (kk : wpq P ro N ops rest Q (r.putO d (.string (a ++ b))) ds w)
  (hw : Region.wanted ⟨d, .binOp .add T x y U, ty, ps, af, gd⟩ (yieldR ops N r) = true := by rfl) : wpq P ro N ops (⟨d, .binOp .add T x y U, ty, ps, af, gd⟩ :: rest) Q r ds w := by
 refine wpq_v (v := .string (a ++ b)) (w' := w) hw (by simp) ?_ kk
 have e : IntKind.i64.max = 9223372036854775807 := by decide
 have h2 : ¬ ((9223372036854775807 : Int) < (a.size : Int) + (b.size : Int)) := by omega
 simp [run_program', run_pure', run_pureS, run_getProgram, andThen_ok, Sem.run_bind, execOp, hx, hy, eqGuard_str, binOp, Op.stringOp, e, h2]
end
end Go.LG
