/-
 LG, part I: strings that are cut and ranged over, slices that are cut, conversions, calls into the library.
-/
import Derived.Test.YtlcfemplcaejgaaLgH
import Derived.Test.YtlcfemplcaejgaaLgP
import Derived.Laws.Slices
import Derived.Laws.BytesString
import Derived.Laws.RangeString
import Derived.Lib.OthersKept
import Derived.Below
set_option linter.unusedVariables false
set_option linter.unusedSimpArgs false
namespace Go.LG
open Go.RowKit
def lw (P : Program) (T : TypeId) : Option IntKind :=
 match P.underlying T with
 | some (.int k) => some k
 | _ => none
section
variable {P : Program} {ro : Option Nat} {N : Nat} {ops : Array Oper} {rest : List Oper} {Q : d6} {r : Rg} {ds : List Deferred} {w w' : World}
variable {d : Option Nat} {ty : TypeId} {ps : String} {af : Array Edge} {gd : Option (Nat × Bool)} {x y : Operand} {G : Gh} {L : List dv}
theorem kZ {T : TypeId} {k : IntKind} (h : lw P T = some k) : P.underlying T = some (.int k) := by
 unfold lw at h
 split at h
 ·rename_i k' hu; cases h; exact hu
 ·cases h
theorem qz {S T : TypeId} {k k' : IntKind} {n : Int} (hS : lw P S = some k) (hT : lw P T = some k') (hx : ev N r x = .int k n) (kk : bE P ro N ops rest Q (r.putO d (.int k' (k'.wrap n))) ds w)
  (hw : Region.wanted ⟨d, .convert S T x, ty, ps, af, gd⟩ (aC ops N r) = true := by rfl) : bE P ro N ops (⟨d, .convert S T x, ty, ps, af, gd⟩ :: rest) Q r ds w :=
 ck hw (by simp) (by simp [aB, run_pure', aL, az, andThen_ok, Sem.run_bind, execOp, hx, convert, run_underlying (kZ hS), run_underlying (kZ hT), Conv.intToInt]) kk
theorem qO (I : Hp G L w) {T : TypeId} {s : ByteArray} (hT : dj P T = some 0) (hx : ev N r x = .string s)
  (k : ∀ g w', Hp G (ob g (.stringIter s 0) :: L) w' → bE P ro N ops rest Q (r.putO d (.pointer (some ⟨g, 0, none⟩))) ds w') (hw : Region.wanted ⟨d, .range T x, ty, ps, af, gd⟩ (aC ops N r) = true := by rfl) :
  bE P ro N ops (⟨d, .range T x, ty, ps, af, gd⟩ :: rest) Q r ds w := by
 refine ck hw (by simp) (v := .pointer (some ⟨w.heap.size, 0, none⟩)) (w' := w.alloc (.stringIter s 0)) ?_ (k _ _ (I.alloc_ob _))
 have := run_range_string (P := P) w T s (km hT)
 simp only [execOp, hx, Sem.run_bind, this, andThen_ok, run_pure']
 rfl
theorem Hp.turn (h : Hp G L w) (k : Nat) {g : Nat} {o o' : Obj} (hk : L[k]? = some (ob g o)) : Hp G (L.set k (ob g o')) { w with heap := w.heap.setIfInBounds g o' } := by
 obtain ⟨o1, ho, _⟩ := h.at k hk rfl
 have hlt : g < w.heap.size := (Array.getElem?_eq_some_iff.1 ho).1
 refine h.write k hk (it' := ob g o') rfl rfl (Nat.le_refl _) rfl rfl rfl (fun j hj => ?_) (fun a ha hl => absurd hl (Nat.not_lt_zero _)) (o := o') ?_ rfl
 ·simp [Array.getElem?_setIfInBounds, Ne.symm hj]
 ·simp [hlt]
theorem qU (I : Hp G L w) (i : Nat) {g : Nat} {s : ByteArray} {pos : Nat} (hk : L[i]? = some (ob g (.stringIter s pos))) (hx : ev N r x = .pointer (some ⟨g, 0, none⟩)) (hp : pos < s.size)
  (k : ∀ w', Hp G (L.set i (ob g (.stringIter s (pos + (Utf8.decode s pos).2)))) w' → bE P ro N ops rest Q (r.putO d (.tuple #[.bool true, .int .i64 (pos : Int), .int .i32 ((Utf8.decode s pos).1 : Int)])) ds w')
  (hw : Region.wanted ⟨d, .next x true, ty, ps, af, gd⟩ (aC ops N r) = true := by rfl) :
  bE P ro N ops (⟨d, .next x true, ty, ps, af, gd⟩ :: rest) Q r ds w := by
 obtain ⟨o1, ho, rfl⟩ := I.at i hk rfl
 refine ck hw (by simp) (v := _) (w' := _) ?_ (k _ (I.turn i hk))
 have := Lib.run_next_any_at (P := P) w g s pos ty ho hp
 simp only [execOp, hx, Sem.run_bind, this, andThen_ok, run_pure']
 rfl
theorem qT (I : Hp G L w) (i : Nat) {g : Nat} {s : ByteArray} {pos : Nat} (hk : L[i]? = some (ob g (.stringIter s pos))) (hx : ev N r x = .pointer (some ⟨g, 0, none⟩)) (hp : ¬ pos < s.size)
  (k : bE P ro N ops rest Q (r.putO d (.tuple #[.bool false])) ds w)
  (hw : Region.wanted ⟨d, .next x true, ty, ps, af, gd⟩ (aC ops N r) = true := by rfl) :
  bE P ro N ops (⟨d, .next x true, ty, ps, af, gd⟩ :: rest) Q r ds w := by
 obtain ⟨o1, ho, rfl⟩ := I.at i hk rfl
 refine ck hw (by simp) ?_ k
 have := Lib.run_next_end_at (P := P) w g s pos ty ho hp
 simp only [execOp, hx, Sem.run_bind, this, andThen_ok, run_pure']
end
end Go.LG
