/-
 LG, part X: pointers that may be nil.
-/
import Derived.Test.YtlcfemplcaejgaaLgU
set_option linter.unusedVariables false
set_option linter.unusedSimpArgs false
namespace Go.LG
open Go.RowKit

def oI {α : Type} (o : Option α) (f : α → dv) : dv := match o with | some x => f x | none => emp
def oF {α : Type} (o : Option α) (f : α → Prop) : Prop := match o with | some x => f x | none => True
def cI (b : Bool) (it : dv) : dv := match b with | true => it | false => emp
def oV {α : Type} (o : Option α) (g : Nat) : Value := match o with | some _ => .pointer (some ⟨g, 0, none⟩) | none => .pointer none
theorem kE {α : Type} {o : Option α} {f f' : α → Prop} (h : ∀ x, f x → f' x) (k : oF o f) : oF o f' := by
 cases o with
 | none => trivial
 | some x => exact h x k
section
variable {P : Program} {ro : Option Nat} {N : Nat} {ops : Array Oper} {rest : List Oper} {Q : d6} {r : Rg} {ds : List Deferred} {w : World}
variable {d : Option Nat} {ty : TypeId} {ps : String} {af : Array Edge} {gd : Option (Nat × Bool)} {x y : Operand} {G Gx : Gh} {L : List dv}
theorem Hp.oUp {β α : Type} {kd : Kd α} {o : Option β} {A0 : Option Addr} {pre t post : β → List α} {lim : Nat} {T : TypeId} (I : Hp G L w) (i : Nat) (hk : L[i]? = some (oI o fun x => bO Gx kd A0 (pre x) (t x) (post x) lim T)) {G' : Gh} (hG : Gx ≤ G') :
  Hp G (L.set i (oI o fun x => bO G' kd A0 (pre x) (t x) (post x) lim T)) w := by
 cases o with
 | none =>
  obtain ⟨hlt, he⟩ := List.getElem?_eq_some_iff.1 hk
  have : (oI none fun x => bO G' kd A0 (pre x) (t x) (post x) lim T) = L[i] := by rw [he]; rfl
  rw [this, List.set_getElem_self hlt]
  exact I
 | some x => exact Hp.rwUp I i hk hG
theorem ju {t : Nat} (hE : dj P t = some 3) : ∃ e, P.underlying t = some (.pointer e) := by
 unfold dj at hE
 split at hE <;> first | exact ⟨_, by assumption⟩ | cases hE
theorem lC {T' e : TypeId} (hu : P.underlying T' = some (.pointer e)) (dd : Nat) : (Op.equalIn (dd + 1) T' (.pointer none) (.pointer none)).run P w = .ok true w := by
 simp [Op.equalIn, run_underlying hu, Sem.run_bind, andThen_ok, run_pure']
theorem lG {T' e : TypeId} {a : Addr} (hu : P.underlying T' = some (.pointer e)) (dd : Nat) : (Op.equalIn (dd + 1) T' (.pointer (some a)) (.pointer none)).run P w = .ok false w := by
 simp [Op.equalIn, run_underlying hu, Sem.run_bind, andThen_ok, run_pure']
theorem mJ {T' U : TypeId} (hT : dj P T' = some 3) (hx : ev N r x = .pointer none) (hy : ev N r y = .pointer none) (k : bE P ro N ops rest Q (r.putO d (.bool true)) ds w)
  (hw : Region.wanted ⟨d, .binOp .eql T' x y U, ty, ps, af, gd⟩ (aC ops N r) = true := by rfl) : bE P ro N ops (⟨d, .binOp .eql T' x y U, ty, ps, af, gd⟩ :: rest) Q r ds w := by
 obtain ⟨e, hu⟩ := ju hT
 have he : (Op.equalIn Op.maxDepth T' (.pointer none) (.pointer none)).run P w = .ok true w := lC hu 9999
 refine ck (v := .bool true) (w' := w) hw (by simp) ?_ k
 simp [execOp, hx, hy, eqGuard, binOp, Op.equal, he, Sem.run_bind, andThen_ok, run_pure']
theorem mO {T' U : TypeId} {a : Addr} (hT : dj P T' = some 3) (hx : ev N r x = .pointer (some a)) (hy : ev N r y = .pointer none) (k : bE P ro N ops rest Q (r.putO d (.bool false)) ds w)
  (hw : Region.wanted ⟨d, .binOp .eql T' x y U, ty, ps, af, gd⟩ (aC ops N r) = true := by rfl) : bE P ro N ops (⟨d, .binOp .eql T' x y U, ty, ps, af, gd⟩ :: rest) Q r ds w := by
 obtain ⟨e, hu⟩ := ju hT
 have he : (Op.equalIn Op.maxDepth T' (.pointer (some a)) (.pointer none)).run P w = .ok false w := lG hu 9999
 refine ck (v := .bool false) (w' := w) hw (by simp) ?_ k
 simp [execOp, hx, hy, eqGuard, binOp, Op.equal, he, Sem.run_bind, andThen_ok, run_pure']
theorem kv {T' U : TypeId} (hT : dj P T' = some 3) (hx : ev N r x = .pointer none) (hy : ev N r y = .pointer none) (k : bE P ro N ops rest Q (r.putO d (.bool false)) ds w)
  (hw : Region.wanted ⟨d, .binOp .neq T' x y U, ty, ps, af, gd⟩ (aC ops N r) = true := by rfl) : bE P ro N ops (⟨d, .binOp .neq T' x y U, ty, ps, af, gd⟩ :: rest) Q r ds w := by
 obtain ⟨e, hu⟩ := ju hT
 have he : (Op.equalIn Op.maxDepth T' (.pointer none) (.pointer none)).run P w = .ok true w := lC hu 9999
 refine ck (v := .bool false) (w' := w) hw (by simp) ?_ k
 simp [execOp, hx, hy, eqGuard, binOp, Op.equal, he, Sem.run_bind, andThen_ok, run_pure']
theorem ku {T' U : TypeId} {a : Addr} (hT : dj P T' = some 3) (hx : ev N r x = .pointer (some a)) (hy : ev N r y = .pointer none) (k : bE P ro N ops rest Q (r.putO d (.bool true)) ds w)
  (hw : Region.wanted ⟨d, .binOp .neq T' x y U, ty, ps, af, gd⟩ (aC ops N r) = true := by rfl) : bE P ro N ops (⟨d, .binOp .neq T' x y U, ty, ps, af, gd⟩ :: rest) Q r ds w := by
 obtain ⟨e, hu⟩ := ju hT
 have he : (Op.equalIn Op.maxDepth T' (.pointer (some a)) (.pointer none)).run P w = .ok false w := lG hu 9999
 refine ck (v := .bool true) (w' := w) hw (by simp) ?_ k
 simp [execOp, hx, hy, eqGuard, binOp, Op.equal, he, Sem.run_bind, andThen_ok, run_pure']
end
end Go.LG
