/-
 LG, part I: strings that are cut and ranged over, slices that are cut, conversions, calls into the library.
-/
import Derived.Test.YtoladeanenmepaaGreatDoorLgH
import Derived.Test.YtoladeanenmepaaGreatDoorLgP
import Derived.Laws.Slices
import Derived.Laws.BytesString
import Derived.Laws.RangeString
import Derived.Lib.OthersKept
import Derived.Below
set_option linter.unusedVariables false
set_option linter.unusedSimpArgs false
namespace Go.LG
open Go.RowKit
def intKB (P : Program) (T : TypeId) : Option IntKind :=
 match P.underlying T with
 | some (.int k) => some k
 | _ => none
section
variable {P : Program} {ro : Option Nat} {N : Nat} {ops : Array Oper} {rest : List Oper} {Q : Post} {r : Rg} {ds : List Deferred} {w w' : World}
variable {d : Option Nat} {ty : TypeId} {ps : String} {af : Array Edge} {gd : Option (Nat × Bool)} {x y : Operand} {G : Gh} {L : List Itm}
theorem intKB_open {T : TypeId} {k : IntKind} (h : intKB P T = some k) : P.underlying T = some (.int k) := by
 unfold intKB at h
 split at h
 ·rename_i k' hu; cases h; exact hu
 ·cases h
theorem Hp.below (h : Hp G L w) (b : Below w.heap.size w w') : Hp G L w' := {
 os := b.os.trans h.os
 tape := b.tape.trans h.tape
 out := b.output.trans h.out
 cel := fun a v ha => by
  rw [← h.cel a v ha]; unfold World.cell?; rw [b.block _ (h.cel_lt ha)]
 blk := fun g o hg => by rw [b.block _ (h.blk_lt hg)]; exact h.blk g o hg
 own := fun it hi g hg => by rw [b.block _ (h.own_lt hi hg)]; exact h.own it hi g hg
 sepB := h.sepB
 sepC := h.sepC
 sepL := h.sepL }
theorem q_cvi {S T : TypeId} {k k' : IntKind} {n : Int} (hS : intKB P S = some k) (hT : intKB P T = some k') (hx : ev N r x = .int k n) (kk : wpq P ro N ops rest Q (r.putO d (.int k' (k'.wrap n))) ds w)
  (hw : Region.wanted ⟨d, .convert S T x, ty, ps, af, gd⟩ (yieldR ops N r) = true := by rfl) : wpq P ro N ops (⟨d, .convert S T x, ty, ps, af, gd⟩ :: rest) Q r ds w :=
 wpq_v hw (by simp) (by simp [run_program', run_pure', run_pureS, run_getProgram, andThen_ok, Sem.run_bind, execOp, hx, convert, run_underlying (intKB_open hS), run_underlying (intKB_open hT), Conv.intToInt]) kk
theorem bstr_foldl : ∀ (ns : List Int) (s : ByteArray), ns.foldl (fun (r : ByteArray) n => r.push (UInt8.ofNat n.toNat)) s = ⟨s.data ++ (ns.map fun n => UInt8.ofNat n.toNat).toArray⟩
 | [], s => by cases s; simp
 | n :: ns, s => by
  rw [List.foldl_cons, bstr_foldl ns]
  simp [ByteArray.push]
theorem flat_ints {k : IntKind} : ∀ {xs : List Int} {cs : List Value}, Flat (Kd.int k) G xs cs → cs = xs.map (Value.int k)
 | [], cs, h => h
 | x :: xs, cs, ⟨c1, c2, h, h1, h2⟩ => by
  have e1 : c1 = [.int k x] := h1
  rw [h, e1, flat_ints h2]; rfl
theorem run_loadCells_cel {a : Addr} {cs : List Value} {n : Nat} (hl : cs.length = n) (hc : ∀ j v, cs[j]? = some v → w.cell? (a.add j) = some v) : (loadCells a n).run P w = .ok cs.toArray w := by
 subst hl
 have h0 : (loadCells a cs.length).run P w = .ok cs.toArray w := by
  have := run_firstCells_some (P := P) w 1 cs.length a cs.length cs.length cs (by simp) hc
  simpa [Builtin.firstCells] using this
 exact h0
theorem q_cvb {S T e : TypeId} {s b n c : Nat} {A : Option Addr} {xs : List Int} (I : Hp G L w) (hS : elemB P S = some (e, s, b)) (he : intKB P e = some .u8) (hT : sortB P T = some 0) (hx : ev N r x = .slice A n c) (hn : n = xs.length)
  (hD : Dat (Kd.int .u8) G A xs) (kk : wpq P ro N ops rest Q (r.putO d (.string (bstr xs))) ds w)
  (hw : Region.wanted ⟨d, .convert S T x, ty, ps, af, gd⟩ (yieldR ops N r) = true := by rfl) : wpq P ro N ops (⟨d, .convert S T x, ty, ps, af, gd⟩ :: rest) Q r ds w := by
 subst hn
 refine wpq_v hw (by simp) ?_ kk
 have hu := (elemB_open hS).1
 by_cases hy : xs = []
 ·subst hy
  cases A with
  | none => simp [run_program', run_pure', run_pureS, run_getProgram, andThen_ok, Sem.run_bind, execOp, hx, convert, run_underlying hu, run_underlying (sortB_str hT), run_underlying (intKB_open he), Conv.bytesToString, bstr]; rfl
  | some a =>
   have hl : (loadCells a 0).run P w = .ok (([] : List Int).map (Value.int .u8)).toArray w := run_loadCells_cel (cs := []) rfl (by simp)
   have := run_bytesToString (P := P) w a 0 c [] hl
   simp only [execOp, hx, convert, Sem.run_bind, run_underlying hu, run_underlying (sortB_str hT), run_underlying (intKB_open he), andThen_ok, List.length_nil, this, run_pure', bstr_foldl]
   rfl
 ·obtain ⟨a, ha, h⟩ := hD hy
  subst ha
  obtain ⟨cs, hf, hcs⟩ := Dat.flat h
  have e1 := flat_ints hf
  have e2 : cs.length = xs.length := by rw [e1, List.length_map]
  have hl : (loadCells a xs.length).run P w = .ok (xs.map (Value.int .u8)).toArray w := by rw [← e1]; exact run_loadCells_cel e2 fun j v hv => I.cel _ _ (hcs j v hv)
  have := run_bytesToString (P := P) w a xs.length c xs hl
  simp only [execOp, hx, convert, Sem.run_bind, run_underlying hu, run_underlying (sortB_str hT), run_underlying (intKB_open he), andThen_ok, this, run_pure', bstr_foldl]
  simp [bstr]
theorem q_ss {T : TypeId} {s : ByteArray} {lo hi : Option Operand} {l h : Int} (hT : sortB P T = some 0) (hx : ev N r x = .string s)
  (hl : (lo = none ∧ l = 0) ∨ ∃ o, lo = some o ∧ ev N r o = .int .i64 l) (hh : (hi = none ∧ h = s.size) ∨ ∃ o, hi = some o ∧ ev N r o = .int .i64 h)
  (h0 : 0 ≤ l) (h1 : l ≤ h) (h2 : h ≤ (s.size : Int)) (kk : wpq P ro N ops rest Q (r.putO d (.string (sub s l h))) ds w)
  (hw : Region.wanted ⟨d, .slice T x lo hi none, ty, ps, af, gd⟩ (yieldR ops N r) = true := by rfl) : wpq P ro N ops (⟨d, .slice T x lo hi none, ty, ps, af, gd⟩ :: rest) Q r ds w := by
 have ht := sortB_str hT
 refine wpq_v hw (by simp) ?_ kk
 have el : (l.toNat : Int) = l := Int.toNat_of_nonneg h0
 have eh : (h.toNat : Int) = h := Int.toNat_of_nonneg (by omega)
 have h3 : 0 ≤ h := by omega
 rcases hl with ⟨rfl, rfl⟩ | ⟨o, rfl, ho⟩ <;> rcases hh with ⟨rfl, rfl⟩ | ⟨o', rfl, ho'⟩ <;>
  simp [run_program', run_pure', run_pureS, run_getProgram, andThen_ok, Sem.run_bind, execOp, hx, *, run_sliceAt_string (P := P) w T _ _ _ _ ht, Instr.slice, run_underlying ht, Instr.sliceBounds, run_sliceBound, sub]
theorem q_rgs (I : Hp G L w) {T : TypeId} {s : ByteArray} (hT : sortB P T = some 0) (hx : ev N r x = .string s)
  (k : ∀ g w', Hp G (ob g (.stringIter s 0) :: L) w' → wpq P ro N ops rest Q (r.putO d (.pointer (some ⟨g, 0, none⟩))) ds w') (hw : Region.wanted ⟨d, .range T x, ty, ps, af, gd⟩ (yieldR ops N r) = true := by rfl) :
  wpq P ro N ops (⟨d, .range T x, ty, ps, af, gd⟩ :: rest) Q r ds w := by
 refine wpq_v hw (by simp) (v := .pointer (some ⟨w.heap.size, 0, none⟩)) (w' := w.alloc (.stringIter s 0)) ?_ (k _ _ (I.alloc_ob _))
 have := run_range_string (P := P) w T s (sortB_str hT)
 simp only [execOp, hx, Sem.run_bind, this, andThen_ok, run_pure']
 rfl
theorem Hp.turn (h : Hp G L w) (k : Nat) {g : Nat} {o o' : Obj} (hk : L[k]? = some (ob g o)) : Hp G (L.set k (ob g o')) { w with heap := w.heap.setIfInBounds g o' } := by
 obtain ⟨o1, ho, _⟩ := h.at k hk rfl
 have hlt : g < w.heap.size := (Array.getElem?_eq_some_iff.1 ho).1
 refine h.write k hk (it' := ob g o') rfl rfl (Nat.le_refl _) rfl rfl rfl (fun j hj => ?_) (fun a ha hl => absurd hl (Nat.not_lt_zero _)) (o := o') ?_ rfl
 ·simp [Array.getElem?_setIfInBounds, Ne.symm hj]
 ·simp [hlt]
theorem q_nxy (I : Hp G L w) (i : Nat) {g : Nat} {s : ByteArray} {pos : Nat} (hk : L[i]? = some (ob g (.stringIter s pos))) (hx : ev N r x = .pointer (some ⟨g, 0, none⟩)) (hp : pos < s.size)
  (k : ∀ w', Hp G (L.set i (ob g (.stringIter s (pos + (Utf8.decode s pos).2)))) w' → wpq P ro N ops rest Q (r.putO d (.tuple #[.bool true, .int .i64 (pos : Int), .int .i32 ((Utf8.decode s pos).1 : Int)])) ds w')
  (hw : Region.wanted ⟨d, .next x true, ty, ps, af, gd⟩ (yieldR ops N r) = true := by rfl) :
  wpq P ro N ops (⟨d, .next x true, ty, ps, af, gd⟩ :: rest) Q r ds w := by
 obtain ⟨o1, ho, rfl⟩ := I.at i hk rfl
 refine wpq_v hw (by simp) (v := _) (w' := _) ?_ (k _ (I.turn i hk))
 have := Lib.run_next_any_at (P := P) w g s pos ty ho hp
 simp only [execOp, hx, Sem.run_bind, this, andThen_ok, run_pure']
 rfl
theorem q_nxn (I : Hp G L w) (i : Nat) {g : Nat} {s : ByteArray} {pos : Nat} (hk : L[i]? = some (ob g (.stringIter s pos))) (hx : ev N r x = .pointer (some ⟨g, 0, none⟩)) (hp : ¬ pos < s.size)
  (k : wpq P ro N ops rest Q (r.putO d (.tuple #[.bool false])) ds w)
  (hw : Region.wanted ⟨d, .next x true, ty, ps, af, gd⟩ (yieldR ops N r) = true := by rfl) :
  wpq P ro N ops (⟨d, .next x true, ty, ps, af, gd⟩ :: rest) Q r ds w := by
 obtain ⟨o1, ho, rfl⟩ := I.at i hk rfl
 refine wpq_v hw (by simp) ?_ k
 have := Lib.run_next_end_at (P := P) w g s pos ty ho hp
 simp only [execOp, hx, Sem.run_bind, this, andThen_ok, run_pure']
end
end Go.LG
