/-
 LG, part I: strings that are cut and ranged over, slices that are cut, conversions, calls into the library.
-/
import Derived.Test.YtlcfemplcaejgaaLgH
import Derived.Test.YtlcfemplcaejgaaLgP
import Derived.Laws.Slices
import Derived.Laws.BytesString
import Derived.Laws.RangeString
import Derived.Lib.OthersKept
import Derived.Below
set_option linter.unusedVariables false
set_option linter.unusedSimpArgs false
namespace Go.LG
open Go.RowKit
def intKB (P : Program) (T : TypeId) : Option IntKind :=
 match P.underlying T with
 | some (.int k) => some k
 | _ => none
section
variable {P : Program} {ro : Option Nat} {N : Nat} {ops : Array Oper} {rest : List Oper} {Q : Post} {r : Rg} {ds : List Deferred} {w w' : World}
variable {d : Option Nat} {ty : TypeId} {ps : String} {af : Array Edge} {gd : Option (Nat × Bool)} {x y : Operand} {G : Gh} {L : List Itm}
theorem intKB_open {T : TypeId} {k : IntKind} (h : intKB P T = some k) : P.underlying T = some (.int k) := by
 unfold intKB at h
 split at h
 ·rename_i k' hu; cases h; exact hu
 ·cases h
theorem q_cvi {S T : TypeId} {k k' : IntKind} {n : Int} (hS : intKB P S = some k) (hT : intKB P T = some k') (hx : ev N r x = .int k n) (kk : wpq P ro N ops rest Q (r.putO d (.int k' (k'.wrap n))) ds w)
  (hw : Region.wanted ⟨d, .convert S T x, ty, ps, af, gd⟩ (yieldR ops N r) = true := by rfl) : wpq P ro N ops (⟨d, .convert S T x, ty, ps, af, gd⟩ :: rest) Q r ds w :=
 wpq_v hw (by simp) (by simp [run_program', run_pure', run_pureS, run_getProgram, andThen_ok, Sem.run_bind, execOp, hx, convert, run_underlying (intKB_open hS), run_underlying (intKB_open hT), Conv.intToInt]) kk
theorem q_sl {S e : TypeId} {sz b n c : Nat} {A : Option Addr} {lo hi : Option Operand} {l h : Int} (hS : elemB P S = some (e, sz, b)) (hx : ev N r x = .slice A n c)
  (hl : (lo = none ∧ l = 0) ∨ ∃ o, lo = some o ∧ ev N r o = .int .i64 l) (hh : (hi = none ∧ h = n) ∨ ∃ o, hi = some o ∧ ev N r o = .int .i64 h)
  (hc : n ≤ c) (h0 : 0 ≤ l) (h1 : l ≤ h) (h2 : h ≤ (n : Int))
  (kk : wpq P ro N ops rest Q (r.putO d (.slice (if c = l.toNat then A else A.map (·.add (l.toNat * sz))) (h.toNat - l.toNat) (c - l.toNat))) ds w)
  (hw : Region.wanted ⟨d, .slice S x lo hi none, ty, ps, af, gd⟩ (yieldR ops N r) = true := by rfl) : wpq P ro N ops (⟨d, .slice S x lo hi none, ty, ps, af, gd⟩ :: rest) Q r ds w := by
 obtain ⟨hu, i, hi', hs, hb⟩ := elemB_open hS
 refine wpq_v hw (by simp) ?_ kk
 have el : (l.toNat : Int) = l := Int.toNat_of_nonneg h0
 have eh : (h.toNat : Int) = h := Int.toNat_of_nonneg (by omega)
 have h3 : 0 ≤ h := by omega
 have h4 : h ≤ (c : Int) := by omega
 have ht : P.underlying S = some (.slice e) := hu
 have hz : (sizeOf e).run P w = .ok sz w := by simp [sizeOf, run_typeInfo hi', hs]
 rcases hl with ⟨rfl, rfl⟩ | ⟨o, rfl, ho⟩ <;> rcases hh with ⟨rfl, rfl⟩ | ⟨o', rfl, ho'⟩ <;>
  simp [run_program', run_pure', run_pureS, run_getProgram, andThen_ok, Sem.run_bind, execOp, hx, *, Instr.sliceAt, Instr.slice, run_underlying ht, Instr.sliceBounds, run_sliceBound]
theorem Dat.cut {α : Type} {kd : Kd α} {A : Option Addr} {xs : List α} {c : Nat} {l h : Int} (hD : Dat kd G A xs) (hc : xs.length ≤ c) (h0 : 0 ≤ l) (h1 : l ≤ h) (h2 : h ≤ (xs.length : Int)) :
  h.toNat - l.toNat = (cutl xs l h).length ∧ (cutl xs l h).length ≤ c - l.toNat ∧ Dat kd G (if c = l.toNat then A else A.map (·.add (l.toNat * kd.sz))) (cutl xs l h) := by
 have hl : (LG.cutl xs l h).length = h.toNat - l.toNat := by simp [LG.cutl]; omega
 refine ⟨hl.symm, by omega, ?_⟩
 by_cases hk : c = l.toNat
 ·have : LG.cutl xs l h = [] := List.eq_nil_of_length_eq_zero (by omega)
  rw [this]; exact Dat.nil _ _ _
 ·rw [if_neg hk]; exact (hD.take h.toNat).drop l.toNat
theorem q_rgs (I : Hp G L w) {T : TypeId} {s : ByteArray} (hT : sortB P T = some 0) (hx : ev N r x = .string s)
  (k : ∀ g w', Hp G (ob g (.stringIter s 0) :: L) w' → wpq P ro N ops rest Q (r.putO d (.pointer (some ⟨g, 0, none⟩))) ds w') (hw : Region.wanted ⟨d, .range T x, ty, ps, af, gd⟩ (yieldR ops N r) = true := by rfl) :
  wpq P ro N ops (⟨d, .range T x, ty, ps, af, gd⟩ :: rest) Q r ds w := by
 refine wpq_v hw (by simp) (v := .pointer (some ⟨w.heap.size, 0, none⟩)) (w' := w.alloc (.stringIter s 0)) ?_ (k _ _ (I.alloc_ob _))
 have := run_range_string (P := P) w T s (sortB_str hT)
 simp only [execOp, hx, Sem.run_bind, this, andThen_ok, run_pure']
 rfl
theorem Hp.turn (h : Hp G L w) (k : Nat) {g : Nat} {o o' : Obj} (hk : L[k]? = some (ob g o)) : Hp G (L.set k (ob g o')) { w with heap := w.heap.setIfInBounds g o' } := by
 obtain ⟨o1, ho, _⟩ := h.at k hk rfl
 have hlt : g < w.heap.size := (Array.getElem?_eq_some_iff.1 ho).1
 refine h.write k hk (it' := ob g o') rfl rfl (Nat.le_refl _) rfl rfl rfl (fun j hj => ?_) (fun a ha hl => absurd hl (Nat.not_lt_zero _)) (o := o') ?_ rfl
 ·simp [Array.getElem?_setIfInBounds, Ne.symm hj]
 ·simp [hlt]
theorem q_nxy (I : Hp G L w) (i : Nat) {g : Nat} {s : ByteArray} {pos : Nat} (hk : L[i]? = some (ob g (.stringIter s pos))) (hx : ev N r x = .pointer (some ⟨g, 0, none⟩)) (hp : pos < s.size)
  (k : ∀ w', Hp G (L.set i (ob g (.stringIter s (pos + (Utf8.decode s pos).2)))) w' → wpq P ro N ops rest Q (r.putO d (.tuple #[.bool true, .int .i64 (pos : Int), .int .i32 ((Utf8.decode s pos).1 : Int)])) ds w')
  (hw : Region.wanted ⟨d, .next x true, ty, ps, af, gd⟩ (yieldR ops N r) = true := by rfl) :
  wpq P ro N ops (⟨d, .next x true, ty, ps, af, gd⟩ :: rest) Q r ds w := by
 obtain ⟨o1, ho, rfl⟩ := I.at i hk rfl
 refine wpq_v hw (by simp) (v := _) (w' := _) ?_ (k _ (I.turn i hk))
 have := Lib.run_next_any_at (P := P) w g s pos ty ho hp
 simp only [execOp, hx, Sem.run_bind, this, andThen_ok, run_pure']
 rfl
theorem q_nxn (I : Hp G L w) (i : Nat) {g : Nat} {s : ByteArray} {pos : Nat} (hk : L[i]? = some (ob g (.stringIter s pos))) (hx : ev N r x = .pointer (some ⟨g, 0, none⟩)) (hp : ¬ pos < s.size)
  (k : wpq P ro N ops rest Q (r.putO d (.tuple #[.bool false])) ds w)
  (hw : Region.wanted ⟨d, .next x true, ty, ps, af, gd⟩ (yieldR ops N r) = true := by rfl) :
  wpq P ro N ops (⟨d, .next x true, ty, ps, af, gd⟩ :: rest) Q r ds w := by
 obtain ⟨o1, ho, rfl⟩ := I.at i hk rfl
 refine wpq_v hw (by simp) ?_ k
 have := Lib.run_next_end_at (P := P) w g s pos ty ho hp
 simp only [execOp, hx, Sem.run_bind, this, andThen_ok, run_pure']
end
end Go.LG
