/-
 LG, part C: a rule for each operation.
-/
import Derived.Test.YtlcfemplcaejgaaLgB
import Derived.Laws.Slices
set_option linter.unusedVariables false
set_option linter.unusedSimpArgs false
namespace Go.LG
open Go.RowKit

def er (P : Program) (T : TypeId) : Option (Bool × Nat) :=
 match P.underlying T, P.info? T with
 | some u, some i => some ((match u with | .struct _ | .array _ _ => true | _ => false), i.size)
 | _, _ => none
def bJ (P : Program) (s i : Nat) : Option (Nat × Nat) :=
 match P.underlying s with
 | some (.struct fs) => (fs[i]?).bind fun f => (P.info? f.type).map fun t => (f.offset, t.size)
 | _ => none
def gE (P : Program) (t : TypeId) : Option (TypeId × Nat × Nat) :=
 match P.underlying t with
 | some (.slice e) => (P.info? e).map fun i => (e, i.size, i.bytes)
 | _ => none
def eo (P : Program) (T : TypeId) : Option (List Value) := ((P.info? T).bind (·.zero)).map fun z => z.cells.toList
def zeroV (P : Program) (T : TypeId) : Option Value := (P.info? T).bind (·.zero)
def bl (P : Program) (f : FuncId) : Bool := ((P.funcs[f]?).map fun fn => fn.name != "runtime.NumGoroutine" && fn.body.isSome).getD false
def dj (P : Program) (T : TypeId) : Option Nat :=
 match P.underlying T with
 | some .string => some 0
 | some (.slice _) => some 1
 | some (.map _ _) => some 2
 | some (.pointer _) => some 3
 | some (.func _ _ _) => some 4
 | some (.int _) => some 5
 | some .bool => some 6
 | some (.struct _) => some 7
 | _ => none
def eQ (P : Program) (T : TypeId) : Option (List (Nat × Nat)) :=
 match P.underlying T with
 | some (.struct fs) => fs.toList.mapM fun f => (P.info? f.type).map fun t => (f.offset, t.size)
 | _ => none

theorem aB (P : Program) {α : Type} (k : Program → Sem α) (w : World) : (Sem.program k).run P w = (k P).run P w := rfl
theorem run_pure' (P : Program) {α : Type} (a : α) (w : World) : (pure a : Sem α).run P w = .ok a w := rfl
theorem aL (P : Program) {α : Type} (a : α) (w : World) : (Sem.pure a).run P w = .ok a w := rfl
theorem az (P : Program) (w : World) : program.run P w = .ok P w := rfl
theorem andThen_ok {α β : Type} (a : α) (w : World) (f : α → World → Result β) : (Result.ok a w).andThen f = f a w := rfl
section
variable {P : Program} {w : World}
theorem run_underlying {t : TypeId} {d : TypeDesc} (h : P.underlying t = some d) : (underlying t).run P w = .ok d w := by simp [underlying, h]
theorem run_typeInfo {t : TypeId} {i : TypeInfo} (h : P.info? t = some i) : (typeInfo t).run P w = .ok i w := by simp [typeInfo, h]
theorem run_sizeOf {t : TypeId} {i : TypeInfo} (h : P.info? t = some i) : (sizeOf t).run P w = .ok i.size w := by simp [sizeOf, run_typeInfo h]
theorem ly {T : TypeId} {b : Bool} {n : Nat} (h : er P T = some (b, n)) : ∃ u i, P.underlying T = some u ∧ P.info? T = some i ∧ i.size = n ∧ (match u with | .struct _ | .array _ _ => true | _ => false) = b := by
 unfold er at h
 split at h
 ·rename_i u i hu hi
  simp only [Option.some.injEq, Prod.mk.injEq] at h
  exact ⟨u, i, hu, hi, h.2, h.1⟩
 ·cases h
theorem ic {T : TypeId} {b : Bool} {n : Nat} (h : er P T = some (b, n)) : (isAgg T).run P w = .ok b w := by
 obtain ⟨u, i, hu, hi, hs, hb⟩ := ly h
 simp only [isAgg, Sem.run_bind, run_underlying hu, Result.andThen]
 subst hb
 cases u <;> rfl
theorem i7 {T : TypeId} {b : Bool} {n : Nat} (h : er P T = some (b, n)) : (sizeOf T).run P w = .ok n w := by
 obtain ⟨u, i, hu, hi, hs, hb⟩ := ly h
 rw [run_sizeOf hi, hs]
theorem gG {t e : TypeId} {s b : Nat} (h : gE P t = some (e, s, b)) : P.underlying t = some (.slice e) ∧ ∃ i, P.info? e = some i ∧ i.size = s ∧ i.bytes = b := by
 unfold gE at h
 split at h
 ·rename_i e' hu
  simp only [Option.map_eq_some_iff] at h
  obtain ⟨i, hi, he⟩ := h
  simp only [Prod.mk.injEq] at he
  obtain ⟨rfl, h1, h2⟩ := he
  exact ⟨hu, i, hi, h1, h2⟩
 ·cases h
theorem iv {T : TypeId} {z : Value} (h : zeroV P T = some z) : ∃ i, P.info? T = some i ∧ i.zero = some z := by
 unfold zeroV at h
 cases hi : P.info? T with
 | none => rw [hi] at h; cases h
 | some i => rw [hi] at h; exact ⟨i, rfl, h⟩
theorem ia {T : TypeId} {z : Value} (h : zeroV P T = some z) : (zeroValue T).run P w = .ok z w := by
 obtain ⟨i, hi, hz⟩ := iv h
 simp [aB, run_pure', aL, az, andThen_ok, Sem.run_bind, zeroValue, Sem.run_bind, run_typeInfo hi, Result.andThen, hz, go_sem]
end

def one : Value → Bool
 | .agg _ => false
 | .tuple _ => false
 | _ => true
section
variable {P : Program} {ro : Option Nat} {N : Nat} {ops : Array Oper} {rest : List Oper} {Q : d6} {r : Rg} {ds : List Deferred} {w : World}
theorem ck {o : Oper} (hw : Region.wanted o (aC ops N r) = true) (hd : ∀ c, o.op ≠ .defer c) {v : Value} {w' : World} (h : (execOp (ev N r) o).run P w = .ok (.value v) w')
  (k : bE P ro N ops rest Q (r.putO o.dst v) ds w') : bE P ro N ops (o :: rest) Q r ds w := by
 simp only [bE, if_pos hw, n2, Oper.semAt_eq _ _ _ hd, h]
 exact k
theorem pQ {o : Oper} (hw : Region.wanted o (aC ops N r) = true) (hd : ∀ c, o.op ≠ .defer c) {w' : World} (h : (execOp (ev N r) o).run P w = .ok .skip w')
  (k : bE P ro N ops rest Q (r.putO o.dst undef) ds w') : bE P ro N ops (o :: rest) Q r ds w := by
 simp only [bE, if_pos hw, n2, Oper.semAt_eq _ _ _ hd, h]
 exact k
theorem lR {o : Oper} (hw : Region.wanted o (aC ops N r) = false) (k : bE P ro N ops rest Q (r.putO o.dst undef) ds w) : bE P ro N ops (o :: rest) Q r ds w := by
 simp only [bE, hw, Bool.false_eq_true, if_false]
 exact k
theorem qM {o : Oper} (hw : Region.wanted o (aC ops N r) = true) (hd : ∀ c, o.op ≠ .defer c) {f : FuncId} {args : Array Value} {w' : World} (h : (execOp (ev N r) o).run P w = .ok (.enter f args) w')
  (k : Calls P f args w' fun e w'' => ∃ v, e = .returned v ∧ bE P ro N ops rest Q (r.putO o.dst v) ds w'') : bE P ro N ops (o :: rest) Q r ds w := by
 simp only [bE, if_pos hw, n2, Oper.semAt_eq _ _ _ hd, h]
 exact k

variable {d : Option Nat} {ty : TypeId} {ps : String} {af : Array Edge} {gd : Option (Nat × Bool)} {x y : Operand}
theorem q_mv {v : Value} (hx : ev N r x = v) (k : bE P ro N ops rest Q (r.putO d v) ds w) (hw : Region.wanted ⟨d, .move x, ty, ps, af, gd⟩ (aC ops N r) = true := by rfl) :
  bE P ro N ops (⟨d, .move x, ty, ps, af, gd⟩ :: rest) Q r ds w := ck hw (by simp) (by simp [aB, run_pure', aL, az, andThen_ok, Sem.run_bind, execOp, hx]) k
theorem q_as {v : Value} (hx : ev N r x = v) (k : bE P ro N ops rest Q (r.putO d v) ds w) (hw : Region.wanted ⟨d, .assign x, ty, ps, af, gd⟩ (aC ops N r) = true := by rfl) :
  bE P ro N ops (⟨d, .assign x, ty, ps, af, gd⟩ :: rest) Q r ds w := ck hw (by simp) (by simp [aB, run_pure', aL, az, andThen_ok, Sem.run_bind, execOp, hx]) k
theorem oM {c : Operand} (b : Bool) {v : Value} (hc : ev N r c = .bool b) (hx : cond b (ev N r x) (ev N r y) = v) (k : bE P ro N ops rest Q (r.putO d v) ds w)
  (hw : Region.wanted ⟨d, .pick c x y, ty, ps, af, gd⟩ (aC ops N r) = true := by rfl) : bE P ro N ops (⟨d, .pick c x y, ty, ps, af, gd⟩ :: rest) Q r ds w :=
 ck hw (by simp) (by subst hx; cases b <;> simp [aB, run_pure', aL, az, andThen_ok, Sem.run_bind, execOp, hc, asBool]) k
theorem di {op : BinOp} {t : TypeId} {k k' : IntKind} {a b : Int} : (eqGuard op t x y (.int k a) (.int k' b)).run P w = .ok () w := by
 cases op <;> rfl
theorem bm {T U : TypeId} {k : IntKind} {a b : Int} (hx : ev N r x = .int k a) (hy : ev N r y = .int k b) (kk : bE P ro N ops rest Q (r.putO d (.int k (k.wrap (a + b)))) ds w)
  (hw : Region.wanted ⟨d, .binOp .add T x y U, ty, ps, af, gd⟩ (aC ops N r) = true := by rfl) : bE P ro N ops (⟨d, .binOp .add T x y U, ty, ps, af, gd⟩ :: rest) Q r ds w :=
 ck hw (by simp) (by simp [aB, run_pure', aL, az, andThen_ok, Sem.run_bind, execOp, hx, hy, di, binOp, Op.intArith]) kk
theorem b6 {T U : TypeId} {k : IntKind} {a b : Int} (hx : ev N r x = .int k a) (hy : ev N r y = .int k b) (kk : bE P ro N ops rest Q (r.putO d (.int k (k.wrap (a - b)))) ds w)
  (hw : Region.wanted ⟨d, .binOp .sub T x y U, ty, ps, af, gd⟩ (aC ops N r) = true := by rfl) : bE P ro N ops (⟨d, .binOp .sub T x y U, ty, ps, af, gd⟩ :: rest) Q r ds w :=
 ck hw (by simp) (by simp [aB, run_pure', aL, az, andThen_ok, Sem.run_bind, execOp, hx, hy, di, binOp, Op.intArith]) kk
theorem nB {T U : TypeId} {k : IntKind} {a b : Int} (hx : ev N r x = .int k a) (hy : ev N r y = .int k b) (kk : bE P ro N ops rest Q (r.putO d (.int k (k.wrap (a * b)))) ds w)
  (hw : Region.wanted ⟨d, .binOp .mul T x y U, ty, ps, af, gd⟩ (aC ops N r) = true := by rfl) : bE P ro N ops (⟨d, .binOp .mul T x y U, ty, ps, af, gd⟩ :: rest) Q r ds w :=
 ck hw (by simp) (by simp [aB, run_pure', aL, az, andThen_ok, Sem.run_bind, execOp, hx, hy, di, binOp, Op.intArith]) kk
theorem pM {T U : TypeId} {k : IntKind} {a b : Int} (hx : ev N r x = .int k a) (hy : ev N r y = .int k b) (hb : b ≠ 0) (kk : bE P ro N ops rest Q (r.putO d (.int k (k.wrap (a.tdiv b)))) ds w)
  (hw : Region.wanted ⟨d, .binOp .quo T x y U, ty, ps, af, gd⟩ (aC ops N r) = true := by rfl) : bE P ro N ops (⟨d, .binOp .quo T x y U, ty, ps, af, gd⟩ :: rest) Q r ds w :=
 ck hw (by simp) (by simp [aB, run_pure', aL, az, andThen_ok, Sem.run_bind, execOp, hx, hy, di, binOp, Op.intDiv, hb]) kk
theorem cZ {T U : TypeId} {k : IntKind} {a b : Int} (hx : ev N r x = .int k a) (hy : ev N r y = .int k b) (kk : bE P ro N ops rest Q (r.putO d (.bool (decide (a < b)))) ds w)
  (hw : Region.wanted ⟨d, .binOp .lss T x y U, ty, ps, af, gd⟩ (aC ops N r) = true := by rfl) : bE P ro N ops (⟨d, .binOp .lss T x y U, ty, ps, af, gd⟩ :: rest) Q r ds w :=
 ck hw (by simp) (by simp [aB, run_pure', aL, az, andThen_ok, Sem.run_bind, execOp, hx, hy, di, binOp, Op.intCmp]) kk
theorem dq {T U : TypeId} {k : IntKind} {a b : Int} (hx : ev N r x = .int k a) (hy : ev N r y = .int k b) (kk : bE P ro N ops rest Q (r.putO d (.bool (decide (a ≤ b)))) ds w)
  (hw : Region.wanted ⟨d, .binOp .leq T x y U, ty, ps, af, gd⟩ (aC ops N r) = true := by rfl) : bE P ro N ops (⟨d, .binOp .leq T x y U, ty, ps, af, gd⟩ :: rest) Q r ds w :=
 ck hw (by simp) (by simp [aB, run_pure', aL, az, andThen_ok, Sem.run_bind, execOp, hx, hy, di, binOp, Op.intCmp]) kk
theorem gq {T U : TypeId} {k : IntKind} {a b : Int} (hx : ev N r x = .int k a) (hy : ev N r y = .int k b) (kk : bE P ro N ops rest Q (r.putO d (.bool (decide (b < a)))) ds w)
  (hw : Region.wanted ⟨d, .binOp .gtr T x y U, ty, ps, af, gd⟩ (aC ops N r) = true := by rfl) : bE P ro N ops (⟨d, .binOp .gtr T x y U, ty, ps, af, gd⟩ :: rest) Q r ds w :=
 ck hw (by simp) (by simp [aB, run_pure', aL, az, andThen_ok, Sem.run_bind, execOp, hx, hy, di, binOp, Op.intCmp]) kk
theorem gS {T U : TypeId} {k : IntKind} {a b : Int} (hx : ev N r x = .int k a) (hy : ev N r y = .int k b) (kk : bE P ro N ops rest Q (r.putO d (.bool (decide (b ≤ a)))) ds w)
  (hw : Region.wanted ⟨d, .binOp .geq T x y U, ty, ps, af, gd⟩ (aC ops N r) = true := by rfl) : bE P ro N ops (⟨d, .binOp .geq T x y U, ty, ps, af, gd⟩ :: rest) Q r ds w :=
 ck hw (by simp) (by simp [aB, run_pure', aL, az, andThen_ok, Sem.run_bind, execOp, hx, hy, di, binOp, Op.intCmp]) kk
theorem ei {T U : TypeId} {k : IntKind} {a b : Int} (hx : ev N r x = .int k a) (hy : ev N r y = .int k b) (kk : bE P ro N ops rest Q (r.putO d (.bool (decide (a = b)))) ds w)
  (hw : Region.wanted ⟨d, .binOp .eql T x y U, ty, ps, af, gd⟩ (aC ops N r) = true := by rfl) : bE P ro N ops (⟨d, .binOp .eql T x y U, ty, ps, af, gd⟩ :: rest) Q r ds w :=
 ck hw (by simp) (by simp [aB, run_pure', aL, az, andThen_ok, Sem.run_bind, execOp, hx, hy, di, binOp, Op.intCmp]; rfl) kk
theorem lx {T U : TypeId} {k : IntKind} {a b : Int} (hx : ev N r x = .int k a) (hy : ev N r y = .int k b) (kk : bE P ro N ops rest Q (r.putO d (.bool (decide (¬ a = b)))) ds w)
  (hw : Region.wanted ⟨d, .binOp .neq T x y U, ty, ps, af, gd⟩ (aC ops N r) = true := by rfl) : bE P ro N ops (⟨d, .binOp .neq T x y U, ty, ps, af, gd⟩ :: rest) Q r ds w :=
 ck hw (by simp) (by simp [aB, run_pure', aL, az, andThen_ok, Sem.run_bind, execOp, hx, hy, di, binOp, Op.intCmp]; rfl) kk
theorem bV {T : TypeId} {b : Bool} (hx : ev N r x = .bool b) (kk : bE P ro N ops rest Q (r.putO d (.bool (!b))) ds w)
  (hw : Region.wanted ⟨d, .unOp .not T x, ty, ps, af, gd⟩ (aC ops N r) = true := by rfl) : bE P ro N ops (⟨d, .unOp .not T x, ty, ps, af, gd⟩ :: rest) Q r ds w :=
 ck hw (by simp) (by simp [aB, run_pure', aL, az, andThen_ok, Sem.run_bind, execOp, hx, Op.unary]) kk
theorem add_plain (g o j : Nat) : (⟨g, o, none⟩ : Addr).add j = ⟨g, o + j, none⟩ := by unfold Addr.add; split <;> simp_all
theorem add_add (a : Addr) (i j : Nat) : (a.add i).add j = a.add (i + j) := by
 by_cases hi : i = 0
 ·subst hi; simp [Addr.add]
 ·by_cases hj : j = 0
  ·subst hj; simp [Addr.add]
  ·have : i + j ≠ 0 := by omega
   simp [Addr.add, hi, hj, this, Nat.add_assoc]
variable {G : Gh} {L : List dv}
theorem eg {T : TypeId} {n : Nat} {a : Addr} {v : Value} (hT : er P T = some (false, n)) (hx : ev N r x = .pointer (some a)) (hc : w.cell? a = some v)
  (k : bE P ro N ops rest Q (r.putO d v) ds w) (hw : Region.wanted ⟨d, .load T x, ty, ps, af, gd⟩ (aC ops N r) = true := by rfl) : bE P ro N ops (⟨d, .load T x, ty, ps, af, gd⟩ :: rest) Q r ds w :=
 ck hw (by simp) (by simp [aB, run_pure', aL, az, andThen_ok, Sem.run_bind, execOp, hx, Instr.loadAt, Instr.sureAddr, loadVar, ic hT, load, Sem.run, hc]) k
theorem lP {T : TypeId} {n : Nat} {a : Addr} {cs : List Value} (hT : er P T = some (true, n)) (hx : ev N r x = .pointer (some a)) (hl : cs.length = n) (hc : ∀ j v, cs[j]? = some v → w.cell? (a.add j) = some v)
  (k : bE P ro N ops rest Q (r.putO d (.agg cs.toArray)) ds w) (hw : Region.wanted ⟨d, .load T x, ty, ps, af, gd⟩ (aC ops N r) = true := by rfl) :
  bE P ro N ops (⟨d, .load T x, ty, ps, af, gd⟩ :: rest) Q r ds w :=
 ck hw (by simp) (by subst hl; simp [aB, run_pure', aL, az, andThen_ok, Sem.run_bind, execOp, hx, Instr.loadAt, Instr.sureAddr, loadVar, ic hT, i7 hT, run_loadCells_list w a cs hc]) k
theorem q_ld (I : Hp G L w) (i : Nat) {T : TypeId} {n g o : Nat} {vs : List Value} {U : TypeId} {v : Value} (hT : er P T = some (false, n)) (hx : ev N r x = .pointer (some ⟨g, o, none⟩)) (hk : L[i]? = some (bx g vs U)) (hv : vs[o]? = some v)
  (k : bE P ro N ops rest Q (r.putO d v) ds w) (hw : Region.wanted ⟨d, .load T x, ty, ps, af, gd⟩ (aC ops N r) = true := by rfl) : bE P ro N ops (⟨d, .load T x, ty, ps, af, gd⟩ :: rest) Q r ds w :=
 eg hT hx (I.bx_cell i hk hv) k hw
theorem qC (I : Hp G L w) (i : Nat) {T : TypeId} {n g o : Nat} {vs cs : List Value} {U : TypeId} (hT : er P T = some (true, n)) (hx : ev N r x = .pointer (some ⟨g, o, none⟩)) (hk : L[i]? = some (bx g vs U)) (hcs : (vs.drop o).take n = cs) (hl : cs.length = n)
  (k : bE P ro N ops rest Q (r.putO d (.agg cs.toArray)) ds w) (hw : Region.wanted ⟨d, .load T x, ty, ps, af, gd⟩ (aC ops N r) = true := by rfl) : bE P ro N ops (⟨d, .load T x, ty, ps, af, gd⟩ :: rest) Q r ds w :=
 lP hT hx hl (fun j v hj => by
  subst hcs
  rw [add_plain]
  refine I.bx_cell i hk ?_
  rw [List.getElem?_take] at hj
  split at hj
  ·rwa [List.getElem?_drop] at hj
  ·cases hj) k hw
theorem et (I : Hp G L w) {T : TypeId} {n : Nat} {a : Addr} {v : Value} (hT : er P T = some (false, n)) (hx : ev N r x = .pointer (some a)) (hc : G.cel a = some v)
  (k : bE P ro N ops rest Q (r.putO d v) ds w) (hw : Region.wanted ⟨d, .load T x, ty, ps, af, gd⟩ (aC ops N r) = true := by rfl) : bE P ro N ops (⟨d, .load T x, ty, ps, af, gd⟩ :: rest) Q r ds w :=
 eg hT hx (I.cel _ _ hc) k hw
theorem fq (I : Hp G L w) {T : TypeId} {n : Nat} {a : Addr} {cs : List Value} (hT : er P T = some (true, n)) (hx : ev N r x = .pointer (some a)) (hl : cs.length = n) (hc : ∀ j v, cs[j]? = some v → G.cel (a.add j) = some v)
  (k : bE P ro N ops rest Q (r.putO d (.agg cs.toArray)) ds w) (hw : Region.wanted ⟨d, .load T x, ty, ps, af, gd⟩ (aC ops N r) = true := by rfl) : bE P ro N ops (⟨d, .load T x, ty, ps, af, gd⟩ :: rest) Q r ds w :=
 lP hT hx hl (fun j v hj => I.cel _ _ (hc j v hj)) k hw
def cF : List Value → Nat → List Value → List Value
 | vs, _, [] => vs
 | vs, o, c :: cs => cF (vs.set o c) (o + 1) cs
theorem run_store {a : Addr} {u v : Value} (h : w.cell? a = some u) (hf : w.frozen? a = false) (hv : one v = true) : (store a v).run P w = .ok () (w.setCell a v) := by
 cases v <;> first | (simp [store, Sem.run, h, hf]; done) | cases hv
theorem ja (g : Nat) {U : TypeId} : ∀ (cs vs : List Value) (o i : Nat) (w : World) (L : List dv), Hp G L w → ∀ k, L[k]? = some (bx g vs U) → (∀ v ∈ cs, one v = true) → o + i + cs.length ≤ vs.length →
  ∃ w', (storeCells ⟨g, o, none⟩ cs i).run P w = .ok () w' ∧ Hp G (L.set k (bx g (cF vs (o + i) cs) U)) w'
 | [], vs, o, i, w, L, hI, k, hk, _, _ => ⟨w, rfl, by
   have : L.set k (bx g vs U) = L := by
    obtain ⟨hlt, he⟩ := List.getElem?_eq_some_iff.1 hk
    rw [← he]; exact List.set_getElem_self hlt
   show Hp G (L.set k (bx g vs U)) w
   rw [this]; exact hI⟩
 | c :: cs, vs, o, i, w, L, hI, k, hk, h1, hl => by
  simp only [List.length_cons] at hl
  have hlt : o + i < vs.length := by omega
  have hI' := hI.store k hk (o + i) c
  have hkl : k < L.length := (List.getElem?_eq_some_iff.1 hk).1
  obtain ⟨w', hr, hI2⟩ := ja g cs (vs.set (o + i) c) o (i + 1) _ _ hI' k (List.getElem?_set_self hkl) (fun v hv => h1 v (List.mem_cons_of_mem _ hv)) (by simp; omega)
  refine ⟨w', ?_, ?_⟩
  ·have e := run_store (P := P) (w := w) (hI.bx_cell k hk (List.getElem?_eq_getElem hlt)) (hI.bx_frozen k hk (o + i)) (h1 c (List.mem_cons_self ..))
   simp only [storeCells, Sem.run_bind, add_plain, e, andThen_ok]
   exact hr
  ·rw [List.set_set] at hI2
   exact hI2
theorem qy (I : Hp G L w) (i : Nat) {T : TypeId} {b : Bool} {n g o : Nat} {vs cs vs' : List Value} {U : TypeId} {v : Value} (hT : er P T = some (b, n)) (hx : ev N r x = .pointer (some ⟨g, o, none⟩)) (hy : ev N r y = v)
  (hk : L[i]? = some (bx g vs U)) (hv : v.cells.toList = cs) (hl : cs.length = n) (h1 : cs.all one = true) (hle : o + n ≤ vs.length) (hs : cF vs o cs = vs')
  (k : ∀ w', Hp G (L.set i (bx g vs' U)) w' → bE P ro N ops rest Q (r.putO d undef) ds w') (hw : Region.wanted ⟨d, .store T x y, ty, ps, af, gd⟩ (aC ops N r) = true := by rfl) :
  bE P ro N ops (⟨d, .store T x y, ty, ps, af, gd⟩ :: rest) Q r ds w := by
 subst hs
 obtain ⟨w', hr, hI'⟩ := ja (P := P) g cs vs o 0 w L I i hk (fun v hv => List.all_eq_true.1 h1 v hv) (by omega)
 refine pQ hw (by simp) (w' := w') ?_ (k w' hI')
 have hsz : v.cells.size = n := by rw [← Array.length_toList, hv, hl]
 simp [aB, run_pure', aL, az, andThen_ok, Sem.run_bind, execOp, hx, hy, Instr.storeAt, Instr.sureAddr, storeVar, i7 hT, hsz, hv, hr]
theorem fS {T : TypeId} {vs : List Value} (h : eo P T = some vs) : ∃ z, zeroV P T = some z ∧ z.cells = vs.toArray := by
 unfold eo at h
 cases hz : zeroV P T with
 | none => unfold zeroV at hz; rw [hz] at h; cases h
 | some z =>
  unfold zeroV at hz; rw [hz] at h
  cases h
  exact ⟨z, rfl, by simp⟩
theorem bQ (I : Hp G L w) {T : TypeId} {vs : List Value} (hz : eo P T = some vs)
  (k : ∀ g w', Hp G (bx g vs T :: L) w' → bE P ro N ops rest Q (r.putO d (.pointer (some ⟨g, 0, none⟩))) ds w') (hw : Region.wanted ⟨d, .alloc T, ty, ps, af, gd⟩ (aC ops N r) = true := by rfl) :
  bE P ro N ops (⟨d, .alloc T, ty, ps, af, gd⟩ :: rest) Q r ds w := by
 obtain ⟨z, hz, hc⟩ := fS hz
 refine ck hw (by simp) (v := .pointer (some ⟨w.heap.size, 0, none⟩)) (w' := w.alloc (.cells vs.toArray T)) ?_ (k _ _ (I.alloc_bx vs T))
 simp [aB, run_pure', aL, az, andThen_ok, Sem.run_bind, execOp, Instr.alloc, ia hz, newVar, newRow, newObj, hc, Sem.run]
theorem qr (I : Hp G L w) {T : TypeId} {v : Value} {vs : List Value} (hx : ev N r x = v) (hv : v.cells.toList = vs)
  (k : ∀ g w', Hp G (bx g vs T :: L) w' → bE P ro N ops rest Q (r.putO d (.pointer (some ⟨g, 0, none⟩))) ds w') (hw : Region.wanted ⟨d, .box T x, ty, ps, af, gd⟩ (aC ops N r) = true := by rfl) :
  bE P ro N ops (⟨d, .box T x, ty, ps, af, gd⟩ :: rest) Q r ds w := by
 refine ck hw (by simp) (v := .pointer (some ⟨w.heap.size, 0, none⟩)) (w' := w.alloc (.cells vs.toArray T)) ?_ (k _ _ (I.alloc_bx vs T))
 subst hv
 simp [aB, run_pure', aL, az, andThen_ok, Sem.run_bind, execOp, Instr.box, newVar, newRow, newObj, hx, Sem.run]
theorem mF {s i off sz : Nat} (h : bJ P s i = some (off, sz)) : ∃ fs f t, P.underlying s = some (.struct fs) ∧ fs[i]? = some f ∧ f.offset = off ∧ P.info? f.type = some t ∧ t.size = sz := by
 unfold bJ at h
 split at h
 ·rename_i fs hu
  simp only [Option.bind_eq_some_iff, Option.map_eq_some_iff] at h
  obtain ⟨f, hf, t, ht, he⟩ := h
  simp only [Prod.mk.injEq] at he
  exact ⟨fs, f, t, hu, hf, he.1, ht, he.2⟩
 ·cases h
theorem eS {s i off sz : Nat} {a a' : Addr} (hF : bJ P s i = some (off, sz + 1)) (hx : ev N r x = .pointer (some a)) (ha : a.add off = a')
  (k : bE P ro N ops rest Q (r.putO d (.pointer (some a'))) ds w) (hw : Region.wanted ⟨d, .fieldAddr s x i, ty, ps, af, gd⟩ (aC ops N r) = true := by rfl) :
  bE P ro N ops (⟨d, .fieldAddr s x i, ty, ps, af, gd⟩ :: rest) Q r ds w := by
 obtain ⟨fs, f, t, hu, hf, ho, ht, hs⟩ := mF hF
 subst ha; subst ho
 refine ck hw (by simp) ?_ k
 simp [aB, run_pure', aL, az, andThen_ok, Sem.run_bind, execOp, hx, Instr.fieldAt, Instr.sureAddr, run_underlying hu, hf, fieldPlace, run_sizeOf ht, hs]
theorem bL {t e sz by_ : Nat} {A : Option Addr} {ad : Addr} {n c : Nat} {kk : IntKind} {i : Int} (hE : gE P t = some (e, sz, by_)) (hx : ev N r x = .slice A n c) (hA : A = some ad) (hy : ev N r y = .int kk i) (h0 : 0 ≤ i) (h1 : i < (n : Int))
  (k : bE P ro N ops rest Q (r.putO d (.pointer (some (ad.add (i.toNat * sz))))) ds w) (hw : Region.wanted ⟨d, .indexAddr t x y, ty, ps, af, gd⟩ (aC ops N r) = true := by rfl) :
  bE P ro N ops (⟨d, .indexAddr t x y, ty, ps, af, gd⟩ :: rest) Q r ds w := by
 obtain ⟨hu, inf, hi, hs, hb⟩ := gG hE
 subst hs; subst hA
 refine ck hw (by simp) ?_ k
 simp [aB, run_pure', aL, az, andThen_ok, Sem.run_bind, execOp, hx, hy, Instr.indexAt, asIntOf, run_underlying hu, run_sizeOf hi, h0, h1]
theorem q_is {t : Nat} {s : ByteArray} {kk : IntKind} {i : Int} {v : Value} (hE : dj P t = some 0) (hx : ev N r x = .string s) (hy : ev N r y = .int kk i) (h0 : 0 ≤ i) (h1 : i < (s.size : Int)) (hv : (.int .u8 ((s.get! i.toNat).toNat : Int) : Value) = v)
  (k : bE P ro N ops rest Q (r.putO d v) ds w) (hw : Region.wanted ⟨d, .index t x y, ty, ps, af, gd⟩ (aC ops N r) = true := by rfl) :
  bE P ro N ops (⟨d, .index t x y, ty, ps, af, gd⟩ :: rest) Q r ds w := by
 have hu : P.underlying t = some .string := by
  unfold dj at hE
  split at hE <;> first | assumption | cases hE
 subst hv
 have hlt : i.toNat < s.size := by omega
 refine ck hw (by simp) ?_ k
 simp [aB, run_pure', aL, az, andThen_ok, Sem.run_bind, execOp, hx, hy, Instr.index, asIntOf, run_underlying hu, h0, hlt, ByteArray.get!, getElem?_pos, ByteArray.getElem_eq_getElem_data]
theorem km {t : Nat} (hE : dj P t = some 0) : P.underlying t = some .string := by
 unfold dj at hE
 split at hE <;> first | assumption | cases hE
theorem kx {t : Nat} (hE : dj P t = some 1) : ∃ e, P.underlying t = some (.slice e) := by
 unfold dj at hE
 split at hE <;> first | exact ⟨_, by assumption⟩ | cases hE
theorem q_len {t : Nat} {A : Option Addr} {n c : Nat} (hE : dj P t = some 1) (hx : ev N r x = .slice A n c)
  (k : bE P ro N ops rest Q (r.putO d (.int .i64 (n : Int))) ds w) (hw : Region.wanted ⟨d, .call { callee := .builtin .len, args := #[x], argTypes := #[t] }, ty, ps, af, gd⟩ (aC ops N r) = true := by rfl) :
  bE P ro N ops (⟨d, .call { callee := .builtin .len, args := #[x], argTypes := #[t] }, ty, ps, af, gd⟩ :: rest) Q r ds w := by
 obtain ⟨e, hu⟩ := kx hE
 refine ck hw (by simp) ?_ k
 simp [aB, run_pure', aL, az, andThen_ok, Sem.run_bind, execOp, resolve, invoke, builtin, Builtin.len_, run_underlying hu, hx, goInt]
theorem mb {t : Nat} {s : ByteArray} (hE : dj P t = some 0) (hx : ev N r x = .string s)
  (k : bE P ro N ops rest Q (r.putO d (.int .i64 (s.size : Int))) ds w) (hw : Region.wanted ⟨d, .call { callee := .builtin .len, args := #[x], argTypes := #[t] }, ty, ps, af, gd⟩ (aC ops N r) = true := by rfl) :
  bE P ro N ops (⟨d, .call { callee := .builtin .len, args := #[x], argTypes := #[t] }, ty, ps, af, gd⟩ :: rest) Q r ds w := by
 refine ck hw (by simp) ?_ k
 simp [aB, run_pure', aL, az, andThen_ok, Sem.run_bind, execOp, resolve, invoke, builtin, Builtin.len_, run_underlying (km hE), hx, goInt]
theorem dR {t : Array TypeId} {kk : IntKind} {a b : Int} (hx : ev N r x = .int kk a) (hy : ev N r y = .int kk b)
  (k : bE P ro N ops rest Q (r.putO d (.int kk (max a b))) ds w) (hw : Region.wanted ⟨d, .call { callee := .builtin .max, args := #[x, y], argTypes := t }, ty, ps, af, gd⟩ (aC ops N r) = true := by rfl) :
  bE P ro N ops (⟨d, .call { callee := .builtin .max, args := #[x, y], argTypes := t }, ty, ps, af, gd⟩ :: rest) Q r ds w := by
 refine ck hw (by simp) ?_ k
 have : (if b > a then b else a) = max a b := by omega
 simp [aB, run_pure', aL, az, andThen_ok, Sem.run_bind, execOp, resolve, invoke, builtin, Builtin.max_, hx, hy, Builtin.max2, this]
theorem qw {t : Array TypeId} {kk : IntKind} {a b : Int} (hx : ev N r x = .int kk a) (hy : ev N r y = .int kk b)
  (k : bE P ro N ops rest Q (r.putO d (.int kk (min a b))) ds w) (hw : Region.wanted ⟨d, .call { callee := .builtin .min, args := #[x, y], argTypes := t }, ty, ps, af, gd⟩ (aC ops N r) = true := by rfl) :
  bE P ro N ops (⟨d, .call { callee := .builtin .min, args := #[x, y], argTypes := t }, ty, ps, af, gd⟩ :: rest) Q r ds w := by
 refine ck hw (by simp) ?_ k
 have : (if b < a then b else a) = min a b := by omega
 simp [aB, run_pure', aL, az, andThen_ok, Sem.run_bind, execOp, resolve, invoke, builtin, Builtin.min_, hx, hy, Builtin.min2, this]
theorem q_ex {i : Nat} {vs : List Value} {v : Value} (hx : ev N r x = .tuple vs.toArray) (hv : vs[i]? = some v)
  (k : bE P ro N ops rest Q (r.putO d v) ds w) (hw : Region.wanted ⟨d, .extract x i, ty, ps, af, gd⟩ (aC ops N r) = true := by rfl) :
  bE P ro N ops (⟨d, .extract x i, ty, ps, af, gd⟩ :: rest) Q r ds w := by
 refine ck hw (by simp) ?_ k
 simp [aB, run_pure', aL, az, andThen_ok, Sem.run_bind, execOp, hx, Instr.extract, hv]
theorem py {fn : Fn} {first cap : Array Operand} {vs us : List Value} (h1 : first.toList.map (ev N r) = vs) (h2 : cap.toList.map (ev N r) = us)
  (k : bE P ro N ops rest Q (r.putO d (.func fn vs.toArray us.toArray)) ds w) (hw : Region.wanted ⟨d, .makeFunc fn first cap, ty, ps, af, gd⟩ (aC ops N r) = true := by rfl) :
  bE P ro N ops (⟨d, .makeFunc fn first cap, ty, ps, af, gd⟩ :: rest) Q r ds w := by
 have e1 : first.map (ev N r) = vs.toArray := by subst h1; apply Array.toList_inj.1; simp
 have e2 : cap.map (ev N r) = us.toArray := by subst h2; apply Array.toList_inj.1; simp
 refine ck hw (by simp) ?_ k
 simp [aB, run_pure', aL, az, andThen_ok, Sem.run_bind, execOp, Instr.makeFunc, e1, e2]
theorem iL {f : FuncId} {args : Array Value} (hb : bl P f = true) : (callFunc f args).run P w = .ok (.enter f args) w := by
 unfold bl at hb
 cases hf : P.funcs[f]? with
 | none => rw [hf] at hb; cases hb
 | some fn =>
  rw [hf] at hb
  simp only [Option.map_some, Option.getD_some, Bool.and_eq_true, bne_iff_ne, ne_eq, Option.isSome_iff_exists] at hb
  obtain ⟨h1, b, h2⟩ := hb
  simp [callFunc, hf, h1, h2]
theorem ft {f : FuncId} {xs : Array Operand} {tt : Array TypeId} {c : Operand} {first cap : Array Value} {vs : List Value} {R : Ending → World → Prop} (hb : bl P f = true) (hc : ev N r c = .func (.func f) first cap)
  (hargs : first.toList ++ xs.toList.map (ev N r) ++ cap.toList = vs) (h : Calls P f vs.toArray w R) (k : ∀ e w', R e w' → ∃ v, e = .returned v ∧ bE P ro N ops rest Q (r.putO d v) ds w')
  (hw : Region.wanted ⟨d, .call { callee := .value c, args := xs, argTypes := tt }, ty, ps, af, gd⟩ (aC ops N r) = true := by rfl) :
  bE P ro N ops (⟨d, .call { callee := .value c, args := xs, argTypes := tt }, ty, ps, af, gd⟩ :: rest) Q r ds w := by
 have e : first ++ xs.map (ev N r) ++ cap = vs.toArray := by subst hargs; apply Array.toList_inj.1; simp
 refine qM hw (by simp) (f := f) (args := vs.toArray) (w' := w) ?_ (h.mono k)
 simp [aB, run_pure', aL, az, andThen_ok, Sem.run_bind, execOp, resolve, Deferred.ofValue, invoke, hc, iL hb]
 rw [← hargs, List.append_assoc]
end
end Go.LG
