/-
 LG, part H: more operations: nil checks, strings, structs that are compared, slices of slices.
-/
import Derived.Test.YtlcfemplcaejgaaLgG
import Derived.Laws.StructEq
import Derived.Laws.Strings
set_option linter.unusedVariables false
set_option linter.unusedSimpArgs false
namespace Go.LG
open Go.RowKit
section
variable {P : Program} {ro : Option Nat} {N : Nat} {ops : Array Oper} {rest : List Oper} {Q : d6} {r : Rg} {ds : List Deferred} {w : World}
variable {d : Option Nat} {ty : TypeId} {ps : String} {af : Array Edge} {gd : Option (Nat × Bool)} {x y : Operand} {G : Gh} {L : List dv}
theorem e5 {a : Addr} (hx : ev N r x = .pointer (some a)) (k : bE P ro N ops rest Q (r.putO d (.pointer (some a))) ds w) (hw : Region.wanted ⟨d, .nilCheck x, ty, ps, af, gd⟩ (aC ops N r) = true := by rfl) :
  bE P ro N ops (⟨d, .nilCheck x, ty, ps, af, gd⟩ :: rest) Q r ds w := ck hw (by simp) (by simp [aB, run_pure', aL, az, andThen_ok, Sem.run_bind, execOp, hx]) k
theorem toList_inj {s t : ByteArray} : (s.toList == t.toList) = decide (s = t) := by
 by_cases h : s = t
 ·subst h; simp
 ·have : s.toList ≠ t.toList := fun e => h (by
   rw [ByteArray.toList_eq, ByteArray.toList_eq] at e
   exact ByteArray.ext (Array.toList_inj.1 e))
  simp [h, this]
def k3 (P : Program) : Nat → TypeId → List Value → List Value → Option Bool
 | 0, _, _, _ => none
 | 1, _, _, _ => none
 | d + 2, T, xs, ys => match P.underlying T with
  | some (.struct fs) => if P.stoodInHeld T then none else fs.toList.foldr (fun f r => if f.name = "_" then none else match er P f.type with
    | some (true, n) => match k3 P (d + 1) f.type ((xs.drop f.offset).take n) ((ys.drop f.offset).take n), r with | some a, some b => some (a && b) | _, _ => none
    | some (false, _) => match xs[f.offset]?, ys[f.offset]? with
     | some u, some v => (match P.underlying f.type, u, v, r with
      | some (.int _), .int k a, .int k' b, some r => if k = k' then some (decide (a = b) && r) else none
      | some .bool, .bool a, .bool b, some r => some (decide (a = b) && r)
      | some .string, .string a, .string b, some r => some (decide (a = b) && r)
      | _, _, _, _ => none)
     | _, _ => none
    | none => none) (some true)
  | _ => none
theorem kK : ∀ (d : Nat) (T : TypeId) (xs ys : List Value) (b : Bool), k3 P d T xs ys = some b → (Op.equalIn d T (.agg xs.toArray) (.agg ys.toArray)).run P w = .ok b w
 | 0, T, xs, ys, b, h => by cases h
 | 1, T, xs, ys, b, h => by cases h
 | d + 2, T, xs, ys, b, h => by
  have ih := kK (d + 1)
  unfold k3 at h
  cases hu : P.underlying T with
  | none => rw [hu] at h; cases h
  | some u =>
   rw [hu] at h
   have hst : ∃ fs, u = .struct fs := by
    cases u <;> first | exact ⟨_, rfl⟩ | cases h
   obtain ⟨fs, rfl⟩ := hst
   simp only at h
   split at h
   ·cases h
   ·rename_i hs
    have hs' : P.stoodInHeld T = false := by simpa using hs
    have hfo : P.fieldsOf T = fs := by simp [Program.fieldsOf, hu]
    rw [run_equalIn_struct w (d + 1) T xs.toArray ys.toArray (by rw [hfo]; exact hu) hs', hfo]
    generalize fs.toList = l at h
    clear hfo hs hu
    induction l generalizing b with
    | nil => cases h; rfl
    | cons f l ihl =>
     simp only [List.foldr_cons] at h
     split at h
     ·cases h
     ·rename_i hn
      simp only [Op.eqFields, ne_eq, hn, not_false_eq_true, if_true, Sem.run_bind]
      -- the cells of a field
      have hpa : ∀ (zs : List Value) n, er P f.type = some (true, n) → (part f.type zs.toArray f.offset).run P w = .ok (.agg ((zs.drop f.offset).take n).toArray) w := fun zs n ha => by
       simp [part, ic ha, i7 ha]
      have hp1 : ∀ (zs : List Value) n v, er P f.type = some (false, n) → zs[f.offset]? = some v → (part f.type zs.toArray f.offset).run P w = .ok v w := fun zs n v ha hv => by
       simp [part, ic ha, hv]
      split at h
      ·rename_i n ha
       split at h
       ·rename_i a r hea hr
        cases h
        rw [hpa xs n ha, andThen_ok, hpa ys n ha, andThen_ok, ih _ _ _ _ hea, andThen_ok]
        cases a with
        | false => rfl
        | true => simpa using ihl r hr
       ·cases h
      ·rename_i n ha
       split at h
       ·rename_i u v hxu hyv
        rw [hp1 xs n u ha hxu, andThen_ok, hp1 ys n v ha hyv, andThen_ok]
        split at h
        ·rename_i k0 k a k' b' r hk hr
         split at h
         ·rename_i hkk
          subst hkk
          cases h
          rw [run_equalIn_int w d f.type k k0 a b' hk, andThen_ok]
          by_cases hab : a = b'
          ·subst hab; simpa using ihl r hr
          ·simp [hab]
         ·cases h
        ·rename_i a b' r hk hr
         cases h
         rw [run_equalIn_bool' w d f.type a b' hk, andThen_ok]
         by_cases hab : a = b'
         ·subst hab; simpa using ihl r hr
         ·simp [hab]
        ·rename_i a b' r hk hr
         cases h
         rw [run_equalIn_string w d f.type a b' hk, andThen_ok, toList_inj]
         by_cases hab : a = b'
         ·subst hab; simpa using ihl r hr
         ·simp [hab]
        ·cases h
       ·cases h
      ·cases h
theorem ou {T U : TypeId} {xs ys : List Value} {b : Bool} {q : Prop} [Decidable q] (hx : ev N r x = .agg xs.toArray) (hy : ev N r y = .agg ys.toArray) (hg : P.eqGuardType P.depth T = false) (he : k3 P 10000 T xs ys = some b) (hb : b = decide q)
  (kk : bE P ro N ops rest Q (r.putO d (.bool (decide (¬ q)))) ds w) (hw : Region.wanted ⟨d, .binOp .neq T x y U, ty, ps, af, gd⟩ (aC ops N r) = true := by rfl) : bE P ro N ops (⟨d, .binOp .neq T x y U, ty, ps, af, gd⟩ :: rest) Q r ds w :=
 ck (v := .bool (decide (¬ q))) (w' := w) hw (by simp) (by
  subst hb
  simp only [execOp, hx, hy, Sem.run_bind, run_eqGuard_agg w .neq T x y _ _ hg, andThen_ok, run_neq_struct, kK 10000 T xs ys _ he, run_pure', decide_not]) kk
end
end Go.LG
