/-
 LG, part M: maps that are owned.
-/
import Derived.Test.YtlcfemplcaejgaaLgJ
set_option linter.unusedVariables false
set_option linter.unusedSimpArgs false
namespace Go.LG
open Go.RowKit
def bornOk (es : Array MapEntry) (c : Nat) : Prop := (es.toList.map (·.born)).Nodup ∧ ∀ b ∈ es.toList.map (·.born), b < c
theorem bornOk.push {es : Array MapEntry} {c : Nat} (h : bornOk es c) {k v : Value} : bornOk (es.push { key := k, val := v, born := c }) (c + 1) := by
 refine ⟨?_, fun b hb => ?_⟩
 ·rw [Array.toList_push, List.map_append]
  exact List.nodup_append.2 ⟨h.1, by simp, fun a ha b hb => by
   have := h.2 a ha
   simp at hb
   omega⟩
 ·rw [Array.toList_push, List.map_append] at hb
  rcases List.mem_append.1 hb with hb | hb
  ·exact Nat.lt_succ_of_lt (h.2 b hb)
  ·simp at hb; omega
theorem born_modify {es : Array MapEntry} {j : Nat} {f : MapEntry → MapEntry} (hf : ∀ e, (f e).born = e.born) : (es.modify j f).toList.map (·.born) = es.toList.map (·.born) := by
 apply List.ext_getElem?
 intro m
 simp only [List.getElem?_map, Array.getElem?_toList, Array.getElem?_modify]
 split
 ·cases es[m]? <;> simp [hf]
 ·rfl
theorem bornOk.modify {es : Array MapEntry} {c : Nat} (h : bornOk es c) {j : Nat} {f : MapEntry → MapEntry} (hf : ∀ e, (f e).born = e.born) : bornOk (es.modify j f) c := by
 unfold bornOk
 rw [born_modify hf]
 exact h
def mpI {α β : Type} (g : Nat) (ek : α → Value) (vk : β → Value) (l : List (α × β)) : Itm :=
 ⟨some g, 0, fun o => ∃ es c, o = .map es c ∧ es.toList.map (fun e => (e.key, e.val)) = (l.map fun x => (ek x.1, vk x.2)) ∧ bornOk es c⟩
structure Ky {α : Type} [DecidableEq α] (P : Program) (T : TypeId) (ek : α → Value) : Prop where
 find : ∀ {β : Type} (vk : β → Value) (w : World) (a : α) (es : List MapEntry) (l : List (α × β)), es.map (fun e => (e.key, e.val)) = l.map (fun x => (ek x.1, vk x.2)) →
  (Instr.findKey T (ek a) es).run P w = .ok ((mfind l a 0).map fun x => (x.1, vk x.2)) w
 bits : ∀ a, Instr.sameBits 10000 (ek a) (ek a) = true
 check : ∀ a b w, (Instr.checkKey b 10000 T (ek a)).run P w = .ok () w
theorem beq_ba (a b : ByteArray) : (a == b) = decide (a = b) := by
 have e : (a == b) = (a.data == b.data) := rfl
 rw [e]
 by_cases h : a = b
 ·subst h; simp
 ·have h2 : a.data ≠ b.data := fun e => h (ByteArray.ext e)
  simp [h, h2]
section
variable {α β : Type} [DecidableEq α] {P : Program} {ek : α → Value} {vk : β → Value}
theorem run_findKey_is {w : World} {T : TypeId} (hk : Ky P T ek) (a : α) (es : List MapEntry) (l : List (α × β)) (h : es.map (fun e => (e.key, e.val)) = l.map (fun x => (ek x.1, vk x.2))) :
  (Instr.findKey T (ek a) es).run P w = .ok ((mfind l a 0).map fun x => (x.1, vk x.2)) w := hk.find vk w a es l h
theorem mfind_lt (a : α) : ∀ (l : List (α × β)) (i j : Nat) (b : β), mfind l a i = some (j, b) → i ≤ j ∧ ∃ y, l[j - i]? = some y ∧ y.1 = a
 | [], i, j, b, h => by cases h
 | x :: l, i, j, b, h => by
  simp only [mfind] at h
  split at h
  ·rename_i hx
   cases h
   exact ⟨Nat.le_refl _, x, by simp, hx.symm⟩
  ·obtain ⟨h1, y, h2, h3⟩ := mfind_lt a l (i + 1) j b h
   refine ⟨by omega, y, ?_, h3⟩
   rw [show j - i = (j - (i + 1)) + 1 by omega, List.getElem?_cons_succ]
   exact h2
end
def mapB (P : Program) (T : TypeId) : Option (TypeId × TypeId) :=
 match P.underlying T with
 | some (.map k e) => some (k, e)
 | _ => none
section
variable {P : Program} {ro : Option Nat} {N : Nat} {ops : Array Oper} {rest : List Oper} {Q : Post} {r : Rg} {ds : List Deferred} {w : World}
variable {d : Option Nat} {ty : TypeId} {ps : String} {af : Array Edge} {gd : Option (Nat × Bool)} {x y z : Operand} {G : Gh} {L : List Itm}
theorem mapB_open {T K V : TypeId} (h : mapB P T = some (K, V)) : P.underlying T = some (.map K V) := by
 unfold mapB at h
 split at h
 ·rename_i k e hu; cases h; exact hu
 ·cases h
theorem q_mmk {α β : Type} (ek : α → Value) (vk : β → Value) (I : Hp G L w) {T : TypeId}
  (k : ∀ g w', Hp G (mpI g ek vk [] :: L) w' → wpq P ro N ops rest Q (r.putO d (.map (some g))) ds w') (hw : Region.wanted ⟨d, .makeMap T none, ty, ps, af, gd⟩ (yieldR ops N r) = true := by rfl) :
  wpq P ro N ops (⟨d, .makeMap T none, ty, ps, af, gd⟩ :: rest) Q r ds w := by
 refine wpq_v hw (by simp) (v := .map (some w.heap.size)) (w' := w.alloc (.map #[] 0)) ?_ (k _ _ (I.alloc _ 0 _ ⟨#[], 0, rfl, rfl, List.nodup_nil, fun _ h => nomatch h⟩))
 simp [execOp, Instr.makeMap, newObj, Sem.run, run_pure', Sem.run_bind]
theorem q_mlk {α β : Type} [DecidableEq α] {ek : α → Value} {vk : β → Value} (I : Hp G L w) (i : Nat) {g : Nat} {l : List (α × β)} {T K V : TypeId} {a : α} {zv : β} (hT : mapB P T = some (K, V)) (hk : Ky P K ek) (hz : zeroV P V = some (vk zv))
  (hL : L[i]? = some (mpI g ek vk l)) (hx : ev N r x = .map (some g)) (hy : ev N r y = ek a)
  (k : wpq P ro N ops rest Q (r.putO d (vk ((mget l a).getD zv))) ds w) (hw : Region.wanted ⟨d, .lookup T x y false, ty, ps, af, gd⟩ (yieldR ops N r) = true := by rfl) :
  wpq P ro N ops (⟨d, .lookup T x y false, ty, ps, af, gd⟩ :: rest) Q r ds w := by
 obtain ⟨o, ho, es, c, rfl, hes, hbo⟩ := I.at i hL rfl
 have hg : (getObj g).run P w = .ok (.map es c) w := by simp [getObj, Sem.run, ho]
 refine wpq_v hw (by simp) ?_ k
 have hf := run_findKey_is (P := P) (w := w) hk a es.toList l hes
 simp only [execOp, hx, hy, Instr.lookup, Sem.run_bind, run_underlying (mapB_open hT), andThen_ok, hg, run_pure', hk.check, hf]
 unfold mget
 cases mfind l a 0 with
 | none => simp [run_zeroValue hz, andThen_ok, Sem.run_bind, run_pure']
 | some q => simp [andThen_ok, Sem.run_bind, run_pure']
theorem Hp.turnP (h : Hp G L w) (k : Nat) {g : Nat} {it it' : Itm} {o' : Obj} (hk : L[k]? = some it) (hg : it.blk = some g) (hg' : it'.blk = some g) (h0 : it.lo = 0) (hp : it'.P o') : Hp G (L.set k it') { w with heap := w.heap.setIfInBounds g o' } := by
 obtain ⟨o1, ho, _⟩ := h.at k hk hg
 have hlt : g < w.heap.size := (Array.getElem?_eq_some_iff.1 ho).1
 refine h.write k hk (it' := it') hg hg' (by omega) rfl rfl rfl (fun j hj => ?_) (fun a ha hl => absurd hl (by omega)) (o := o') ?_ hp
 ·simp [Array.getElem?_setIfInBounds, Ne.symm hj]
 ·simp [hlt]
end
end Go.LG
