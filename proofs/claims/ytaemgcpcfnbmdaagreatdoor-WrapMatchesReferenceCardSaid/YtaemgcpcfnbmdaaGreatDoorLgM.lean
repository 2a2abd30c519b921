/-
 LG, part M: maps that are owned.
-/
import Derived.Test.YtaemgcpcfnbmdaaGreatDoorLgJ
set_option linter.unusedVariables false
set_option linter.unusedSimpArgs false
namespace Go.LG
open Go.RowKit
def nk {α β : Type} (g : Nat) (ek : α → Value) (vk : β → Value) (l : List (α × β)) : eP :=
 ⟨some g, 0, fun o => ∃ es c, o = .map es c ∧ es.toList.map (fun e => (e.key, e.val)) = l.map fun x => (ek x.1, vk x.2)⟩
structure Ky {α : Type} [DecidableEq α] (P : Program) (T : TypeId) (ek : α → Value) : Prop where
 now : ∃ d, P.underlying T = some d ∧ ∀ a b, Instr.sameNow d (ek a) (ek b) = some (decide (a = b))
 bits : ∀ a, Instr.sameBits 10000 (ek a) (ek a) = true
 check : ∀ a b w, (Instr.checkKey b 10000 T (ek a)).run P w = .ok () w
theorem AG (a b : ByteArray) : (a == b) = decide (a = b) := by
 have e : (a == b) = (a.data == b.data) := rfl
 rw [e]
 by_cases h : a = b
 ·subst h; simp
 ·have h2 : a.data ≠ b.data := fun e => h (ByteArray.ext e)
  simp [h, h2]
theorem vh {P : Program} {T : TypeId} (h : gX P T = some 0) : Ky P T Value.string := {
 now := ⟨.string, jt h, fun a b => by
  simp only [Instr.sameNow, AG]⟩
 bits := fun a => by simp [Instr.sameBits, AG]
 check := fun a b w => by
  unfold Instr.checkKey
  simp [run_underlying (jt h), Sem.run_bind, andThen_ok, run_pure'] }
section
variable {α β : Type} [DecidableEq α] {P : Program} {ek : α → Value} {vk : β → Value}
theorem tZ {d : TypeDesc} (hd : ∀ a b, Instr.sameNow d (ek a) (ek b) = some (decide (a = b))) (a : α) : ∀ (es : List MapEntry) (l : List (α × β)) (i : Nat), es.map (fun e => (e.key, e.val)) = l.map (fun x => (ek x.1, vk x.2)) →
  Instr.findNow d (ek a) es i = some ((kh l a i).map fun x => (x.1, vk x.2))
 | [], [], i, _ => rfl
 | [], x :: l, i, h => by simp at h
 | e :: es, [], i, h => by simp at h
 | e :: es, x :: l, i, h => by
  simp only [List.map_cons, List.cons.injEq, Prod.mk.injEq] at h
  obtain ⟨⟨h1, h2⟩, h3⟩ := h
  simp only [Instr.findNow, h1, hd]
  by_cases hab : a = x.1
  ·simp [hab, kh, h2]
  ·simp only [hab, decide_false]
   rw [tZ hd a es l (i + 1) h3]
   simp [kh, hab]
theorem pI {w : World} {T : TypeId} (hk : Ky P T ek) (a : α) (es : List MapEntry) (l : List (α × β)) (h : es.map (fun e => (e.key, e.val)) = l.map (fun x => (ek x.1, vk x.2))) :
  (Instr.findKey T (ek a) es).run P w = .ok ((kh l a 0).map fun x => (x.1, vk x.2)) w := by
 obtain ⟨d, hu, hd⟩ := hk.now
 simp only [Instr.findKey, Sem.run_bind, run_underlying hu, andThen_ok, tZ hd a es l 0 h, run_pure']
theorem w7 (a : α) : ∀ (l : List (α × β)) (i j : Nat) (b : β), kh l a i = some (j, b) → i ≤ j ∧ ∃ y, l[j - i]? = some y ∧ y.1 = a
 | [], i, j, b, h => by cases h
 | x :: l, i, j, b, h => by
  simp only [kh] at h
  split at h
  ·rename_i hx
   cases h
   exact ⟨Nat.le_refl _, x, by simp, hx.symm⟩
  ·obtain ⟨h1, y, h2, h3⟩ := w7 a l (i + 1) j b h
   refine ⟨by omega, y, ?_, h3⟩
   rw [show j - i = (j - (i + 1)) + 1 by omega, List.getElem?_cons_succ]
   exact h2
end
def z8 (P : Program) (T : TypeId) : Option (TypeId × TypeId) :=
 match P.underlying T with
 | some (.map k e) => some (k, e)
 | _ => none
section
variable {P : Program} {ro : Option Nat} {N : Nat} {ops : Array Oper} {rest : List Oper} {Q : ji} {r : Rg} {ds : List Deferred} {w : World}
variable {d : Option Nat} {ty : TypeId} {ps : String} {af : Array Edge} {gd : Option (Nat × Bool)} {x y z : Operand} {G : Gh} {L : List eP}
theorem sM {T K V : TypeId} (h : z8 P T = some (K, V)) : P.underlying T = some (.map K V) := by
 unfold z8 at h
 split at h
 ·rename_i k e hu; cases h; exact hu
 ·cases h
theorem CW {α β : Type} (ek : α → Value) (vk : β → Value) (I : Hp G L w) {T : TypeId}
  (k : ∀ g w', Hp G (nk g ek vk [] :: L) w' → ca P ro N ops rest Q (r.putO d (.map (some g))) ds w') (hw : Region.wanted ⟨d, .makeMap T none, ty, ps, af, gd⟩ (aH ops N r) = true := by rfl) :
  ca P ro N ops (⟨d, .makeMap T none, ty, ps, af, gd⟩ :: rest) Q r ds w := by
 refine cW hw (by simp) (v := .map (some w.heap.size)) (w' := w.alloc (.map #[] 0)) ?_ (k _ _ (I.alloc _ 0 _ ⟨#[], 0, rfl, rfl⟩))
 simp [execOp, Instr.makeMap, newObj, Sem.run, run_pure', Sem.run_bind]
theorem CN {α β : Type} [DecidableEq α] {ek : α → Value} {vk : β → Value} (I : Hp G L w) (i : Nat) {g : Nat} {l : List (α × β)} {T K V : TypeId} {a : α} {zv : β} (hT : z8 P T = some (K, V)) (hk : Ky P K ek) (hz : zeroV P V = some (vk zv))
  (hL : L[i]? = some (nk g ek vk l)) (hx : ev N r x = .map (some g)) (hy : ev N r y = ek a)
  (k : ca P ro N ops rest Q (r.putO d (vk ((oo l a).getD zv))) ds w) (hw : Region.wanted ⟨d, .lookup T x y false, ty, ps, af, gd⟩ (aH ops N r) = true := by rfl) :
  ca P ro N ops (⟨d, .lookup T x y false, ty, ps, af, gd⟩ :: rest) Q r ds w := by
 obtain ⟨o, ho, es, c, rfl, hes⟩ := I.at i hL rfl
 have hg : (getObj g).run P w = .ok (.map es c) w := by simp [getObj, Sem.run, ho]
 refine cW hw (by simp) ?_ k
 have hf := pI (P := P) (w := w) hk a es.toList l hes
 simp only [execOp, hx, hy, Instr.lookup, Sem.run_bind, run_underlying (sM hT), andThen_ok, hg, run_pure', hk.check, hf]
 unfold oo
 cases kh l a 0 with
 | none => simp [kA hz, andThen_ok, Sem.run_bind, run_pure']
 | some q => simp [andThen_ok, Sem.run_bind, run_pure']
theorem Hp.turnP (h : Hp G L w) (k : Nat) {g : Nat} {it it' : eP} {o' : Obj} (hk : L[k]? = some it) (hg : it.blk = some g) (hg' : it'.blk = some g) (h0 : it.lo = 0) (hp : it'.P o') : Hp G (L.set k it') { w with heap := w.heap.setIfInBounds g o' } := by
 obtain ⟨o1, ho, _⟩ := h.at k hk hg
 have hlt : g < w.heap.size := (Array.getElem?_eq_some_iff.1 ho).1
 refine h.write k hk (it' := it') hg hg' (by omega) rfl rfl rfl (fun j hj => ?_) (fun a ha hl => absurd hl (by omega)) (o := o') ?_ hp
 ·simp [Array.getElem?_setIfInBounds, Ne.symm hj]
 ·simp [hlt]
theorem CY {α β : Type} [DecidableEq α] {ek : α → Value} {vk : β → Value} (I : Hp G L w) (i : Nat) {g : Nat} {l : List (α × β)} {T K V : TypeId} {a : α} {b : β} (hT : z8 P T = some (K, V)) (hk : Ky P K ek)
  (hL : L[i]? = some (nk g ek vk l)) (hx : ev N r x = .map (some g)) (hy : ev N r y = ek a) (hz : ev N r z = vk b)
  (k : ∀ w', Hp G (L.set i (nk g ek vk (rj l a b))) w' → ca P ro N ops rest Q (r.putO d undef) ds w') (hw : Region.wanted ⟨d, .mapUpdate T x y z, ty, ps, af, gd⟩ (aH ops N r) = true := by rfl) :
  ca P ro N ops (⟨d, .mapUpdate T x y z, ty, ps, af, gd⟩ :: rest) Q r ds w := by
 obtain ⟨o, ho, es, c, rfl, hes⟩ := I.at i hL rfl
 have hg : (getObj g).run P w = .ok (.map es c) w := by simp [getObj, Sem.run, ho]
 have hset : ∀ o', (setObj g o').run P w = .ok () { w with heap := w.heap.setIfInBounds g o' } := fun o' => by simp [setObj, Sem.run, ho]
 have hf := pI (P := P) (w := w) hk a es.toList l hes
 have hlen : es.size = l.length := by have := congrArg List.length hes; simpa using this
 cases hm : kh l a 0 with
 | none =>
  have hnew : (nk g ek vk (rj l a b)).P (.map (es.push { key := ek a, val := vk b, born := c }) (c + 1)) := by
   refine ⟨_, _, rfl, ?_⟩
   simp [rj, hm, hes]
  refine yJ hw (by simp) (w' := _) ?_ (k _ (I.turnP i hL rfl rfl rfl hnew))
  simp only [execOp, hx, hy, hz, Instr.mapUpdate, Sem.run_bind, run_underlying (sM hT), andThen_ok, hg, hk.check, hf, hm, Option.map_none, hset, run_pure']
 | some q =>
  obtain ⟨j, v⟩ := q
  obtain ⟨_, y', hy', hya⟩ := w7 a l 0 j v hm
  rw [Nat.sub_zero] at hy'
  have hj : j < l.length := (List.getElem?_eq_some_iff.1 hy').1
  have hj2 : j < es.size := by omega
  have hkey : (es[j]).key = ek a := by
   have h1 := congrArg (fun m => m[j]?) hes
   simp only [List.getElem?_map, hy', Option.map_some, Array.getElem?_toList, Array.getElem?_eq_getElem hj2, Option.some.injEq, Prod.mk.injEq, hya] at h1
   exact h1.1
  have hnew : (nk g ek vk (rj l a b)).P (.map (es.modify j fun e => { e with key := ek a, val := vk b }) c) := by
   refine ⟨_, _, rfl, ?_⟩
   apply List.ext_getElem?
   intro m
   have h1 := congrArg (fun q => q[m]?) hes
   simp only [List.getElem?_map, Array.getElem?_toList] at h1
   simp only [rj, hm, List.getElem?_map, Array.getElem?_toList, Array.getElem?_modify, List.getElem?_set]
   by_cases hjm : j = m
   ·subst hjm
    simp [hj, hj2]
   ·simp only [if_neg hjm]
    exact h1
  refine yJ hw (by simp) (w' := _) ?_ (k _ (I.turnP i hL rfl rfl rfl hnew))
  have hst : (Instr.keyThatStays (((es[j]?).map (·.key)).getD (ek a)) (ek a)).run P w = .ok (ek a) w := by
   have : ((es[j]?).map (·.key)).getD (ek a) = ek a := by
    rw [Array.getElem?_eq_getElem hj2]; exact hkey
   rw [this]
   simp [Instr.keyThatStays, hk.bits, run_pure']
  simp only [execOp, hx, hy, hz, Instr.mapUpdate, Sem.run_bind, run_underlying (sM hT), andThen_ok, hg, hk.check, hf, hm, Option.map_some, hst, hset, run_pure']
end
end Go.LG
