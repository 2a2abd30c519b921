/-
 LG, part A: a small separation logic over the model's walk. Registers are a function; what is known of memory is ONE fact, 'Inv G L w':
 G: cells that never change again, blocks that never change at all; L: the blocks that are owned.
-/
import Derived.CallsIn
import Derived.RangeFuncIn
import Derived.WalkKit
set_option linter.unusedVariables false
set_option linter.unusedSimpArgs false
namespace Go.LG
open Go.RowKit

theorem mj {t N : Nat} (h : t < N) : Nat.blt t N = true := Nat.ble_eq_true_of_le h
theorem lE {t N : Nat} (h : ¬ t < N) : Nat.blt t N = false := by
 cases hb : Nat.blt t N with
 | false => rfl
 | true => exact absurd (Nat.le_of_ble_eq_true hb) h
abbrev Rg := Nat → Value
def Rg.put (r : Rg) (d : Nat) (v : Value) : Rg := fun t => cond (Nat.beq t d) v (r t)
def ev (N : Nat) (r : Rg) : Operand → Value
 | .tmp t => cond (Nat.blt t N) (r t) undef
 | .const v => v
 | .global g => .pointer (some ⟨g, 0, none⟩)
 | .func f => .func (.func f) #[] #[]
def Agree (N : Nat) (r : Rg) (a : Act) : Prop := a.tmps.size = N ∧ ∀ t, t < N → a.tmps[t]? = some (r t)
theorem Rg.put_same (r : Rg) (d : Nat) (v : Value) : r.put d v d = v := by simp [Rg.put]
theorem Rg.put_ne (r : Rg) {d t : Nat} (v : Value) (h : t ≠ d) : r.put d v t = r t := by
 have : Nat.beq t d = false := by
  cases hb : Nat.beq t d with
  | false => rfl
  | true => exact absurd (Nat.eq_of_beq_eq_true hb) h
 simp [Rg.put, this]
theorem Rg.put_self {r : Rg} {d : Nat} {v : Value} (h : r d = v) : r.put d v = r := by
 funext t
 by_cases ht : t = d
 ·subst ht; rw [Rg.put_same, h]
 ·rw [Rg.put_ne r v ht]
theorem Agree.ev {N : Nat} {r : Rg} {a : Act} (h : Agree N r a) : a.eval = ev N r := by
 funext o
 cases o with
 | tmp t =>
  simp only [Act.eval, LG.ev]
  by_cases ht : t < N
  ·rw [mj ht]
   have := h.2 t ht
   simp [Array.getD_eq_getD_getElem?, this]
  ·rw [lE ht]
   have : a.tmps[t]? = none := Array.getElem?_eq_none (by rw [h.1]; exact Nat.le_of_not_lt ht)
   simp [Array.getD_eq_getD_getElem?, this]
 | const v => rfl
 | global g => rfl
 | func f => rfl
theorem Agree.put {N : Nat} {r : Rg} {a : Act} (h : Agree N r a) (d : Option Nat) (v : Value) :
  Agree N (match d with | some d => r.put d v | none => r) (a.put d v) := by
 cases d with
 | none => exact h
 | some d =>
  refine ⟨by simp [Act.put, h.1], fun t ht => ?_⟩
  simp only [Act.put]
  rw [Array.getElem?_setIfInBounds]
  by_cases htd : d = t
  ·subst htd
   have : d < a.tmps.size := by rw [h.1]; exact ht
   simp [this, Rg.put_same]
  ·rw [if_neg htd, Rg.put_ne r v (fun e => htd e.symm)]
   exact h.2 t ht
def Rg.putO (r : Rg) (d : Option Nat) (v : Value) : Rg := match d with | some d => r.put d v | none => r
def aC (ops : Array Oper) (N : Nat) (r : Rg) (j : Nat) : Option Bool :=
 match (ops[j]?).bind (·.dst) with
 | some d => match cond (Nat.blt d N) (some (r d)) none with
  | some (.bool b) => some b
  | _ => none
 | none => none
theorem Agree.yield {N : Nat} {r : Rg} {a : Act} (h : Agree N r a) (ops : Array Oper) (j : Nat) : yielded ops a.tmps j = aC ops N r j := by
 unfold yielded aC
 cases hd : (ops[j]?).bind (·.dst) with
 | none => rfl
 | some d =>
  simp only [Option.bind_some]
  by_cases ht : d < N
  ·rw [mj ht, h.2 d ht]; rfl
  ·have : a.tmps[d]? = none := Array.getElem?_eq_none (by rw [h.1]; exact Nat.le_of_not_lt ht)
   rw [lE ht, this]; rfl
def Has : List (Nat × Value) → Rg → Prop
 | [], _ => True
 | (d, v) :: l, r => r d = v ∧ Has l r
def lT : List (Nat × Value) → Rg → Rg
 | [], r => r
 | (d, v) :: l, r => (lT l r).put d v
theorem Has.eq {l : List (Nat × Value)} {r : Rg} (h : Has l r) : r = lT l r := by
 induction l with
 | nil => rfl
 | cons x l ih =>
  obtain ⟨d, v⟩ := x
  show r = (lT l r).put d v
  rw [← ih h.2, Rg.put_self h.1]
theorem Has.elim {l : List (Nat × Value)} {r : Rg} {K : Rg → Prop} (h : Has l r) (k : ∀ r, K (lT l r)) : K r := by
 rw [h.eq]; exact k r

def FW (ro : Option Nat) : Fence := { Fence.wide with round := ro }
abbrev d6 := Exit → Rg → List Deferred → World → Prop
def lift (N : Nat) (Q : d6) : Exit → Act → World → Prop := fun e a w => ∃ r, Agree N r a ∧ Q e r a.defers w
def fZ (P : Program) (ro : Option Nat) (N : Nat) (c : Code) (Q : d6) (r : Rg) (ds : List Deferred) (w : World) : Prop :=
 ∀ a, Agree N r a → a.defers = ds → c.wpIn (FW ro) 0 P (lift N Q) a w
def mA (K : Rg → List Deferred → World → Prop) (Q : d6) : d6
 | .normal, r, ds, w => K r ds w
 | e, r, ds, w => Q e r ds w
def kT (id : Nat) (Q : d6) : d6
 | .exit id', r, ds, w => cond (Nat.beq id' id) (Q .normal r ds w) (Q (.exit id') r ds w)
 | e, r, ds, w => Q e r ds w

section
variable {P : Program} {ro : Option Nat} {N : Nat} {Q : d6} {r : Rg} {ds : List Deferred} {w : World}
theorem aP {c : Code} {Q' : d6} (h : fZ P ro N c Q r ds w) (hq : ∀ e r ds w, Q e r ds w → Q' e r ds w) : fZ P ro N c Q' r ds w :=
 fun a ha hd => wpIn_mono (h a ha hd) fun _ _ _ ⟨r, hr, hQ⟩ => ⟨r, hr, hq _ _ _ _ hQ⟩
theorem oa (h : Q .normal r ds w) : fZ P ro N .skip Q r ds w := fun a ha hd => wpIn_skip ⟨r, ha, hd ▸ h⟩
theorem nX {l : Nat} (h : Q .normal r ds w) : fZ P ro N (.label l) Q r ds w := fun a ha hd => wpIn_label ⟨r, ha, hd ▸ h⟩
theorem n4 {id : Nat} (h : Q (.exit id) r ds w) : fZ P ro N (.exit id) Q r ds w := fun a ha hd => wpIn_exit ⟨r, ha, hd ▸ h⟩
theorem ph (h : Q .ret r ds w) : fZ P ro N .ret Q r ds w := fun a ha hd => wpIn_ret ⟨r, ha, hd ▸ h⟩
theorem pm {x y : Code} (h : fZ P ro N x (mA (fZ P ro N y Q) Q) r ds w) : fZ P ro N (.seq x y) Q r ds w := fun a ha hd =>
 wpIn_seq (wpIn_mono (h a ha hd) fun e a' w' ⟨r', hr', hQ⟩ => by
  cases e with
  | normal => exact hQ a' hr' rfl
  | _ => exact ⟨r', hr', hQ⟩)
theorem lA {x y : Code} (h : ∀ K : Rg → List Deferred → World → Prop, (∀ r ds w, fZ P ro N y Q r ds w → K r ds w) → fZ P ro N x (mA K Q) r ds w) :
  fZ P ro N (.seq x y) Q r ds w := pm (h _ fun _ _ _ h => h)
theorem mh {c : Operand} {x y : Code} (b : Bool) (hc : ev N r c = .bool b) (h : fZ P ro N (cond b x y) Q r ds w) : fZ P ro N (.cond c x y) Q r ds w := fun a ha hd =>
 wpIn_cond (t := b) (by rw [ha.ev]; exact hc) (by cases b <;> exact h a ha hd)
theorem nU {id : Nat} {c : Code} (h : fZ P ro N c (kT id Q) r ds w) : fZ P ro N (.block id c) Q r ds w := fun a ha hd =>
 wpIn_block (wpIn_mono (h a ha hd) fun e a' w' ⟨r', hr', hQ⟩ => by
  cases e with
  | exit id' =>
   simp only [Exit.inBlock]
   simp only [kT] at hQ
   cases hb : Nat.beq id' id with
   | true => rw [hb] at hQ; rw [if_pos (Nat.eq_of_beq_eq_true hb)]; exact ⟨r', hr', hQ⟩
   | false => rw [hb] at hQ; rw [if_neg (fun e => by subst e; simp at hb)]; exact ⟨r', hr', hQ⟩
  | _ => exact ⟨r', hr', hQ⟩)
end

theorem lp {F : Fence} {n : Nat} {P : Program} {Q : Exit → Act → World → Prop} {a : Act} {w : World} {c : Code}
  (h : ∀ I : Act → World → Prop, (∀ a w, c.wpIn F n P (Exit.then I Q) a w → I a w) → I a w) : (Code.loop c).wpIn F n P Q a w := by
 intro b k cs hro hb hr
 obtain ⟨e, a', w', hq, harr⟩ := h (fun a w => ∃ e a' w', Q e a' w' ∧ ArrivesIn (Machine.fenced P F) P (lone (b.atR a (.code c :: .inLoop c :: k)) cs w) b k cs e a' w') (by
  intro a w hc
  obtain ⟨e, a₁, w₁, hq, harr⟩ := hc b (.inLoop c :: k) cs hro hb hr
  cases e with
  | normal =>
   obtain ⟨e₂, a₂, w₂, hq₂, harr₂⟩ := hq
   exact ⟨e₂, a₂, w₂, hq₂, .of_steps (StepsIn.trans harr (.one (fenced_calm hb hr rfl) stepR_inLoop)) harr₂⟩
  | exit id => exact ⟨_, a₁, w₁, hq, .pass (x := .inLoop c) rfl (fun _ _ => .inl (by simp)) harr⟩
  | goto l => exact ⟨_, a₁, w₁, hq, .pass (x := .inLoop c) rfl (fun _ _ => .inl (by simp)) harr⟩
  | ret => exact ⟨_, a₁, w₁, hq, .pass (x := .inLoop c) rfl (fun _ _ => .inl (by simp)) harr⟩
  | panic ch => exact ⟨_, a₁, w₁, hq, .pass (x := .inLoop c) rfl (fun _ _ => .inl (by simp)) harr⟩
  | outgrown => exact ⟨_, a₁, w₁, hq, .pass (x := .inLoop c) rfl (fun _ _ => .inl (by simp)) harr⟩)
 exact ⟨e, a', w', hq, .of_steps (.one (fenced_calm hb hr rfl) stepR_loop) harr⟩

theorem bH {P : Program} {ro : Option Nat} {N : Nat} {Q : d6} {r : Rg} {ds : List Deferred} {w : World} {c : Code}
  (h : ∀ I : Rg → List Deferred → World → Prop, (∀ r ds w, fZ P ro N c (mA I Q) r ds w → I r ds w) → I r ds w) : fZ P ro N (.loop c) Q r ds w := fun a ha hd =>
 lp fun I hI => by
  refine h (fun r ds w => ∀ a, Agree N r a → a.defers = ds → I a w) (fun r ds w hc a ha hd => hI a w ?_) a ha hd
  refine wpIn_mono (hc a ha hd) fun e a' w' ⟨r', hr', hQ⟩ => ?_
  cases e with
  | normal => exact hQ a' hr' rfl
  | _ => exact ⟨r', hr', hQ⟩

def n2 (P : Program) (ro : Option Nat) (o : Oper) (ρ : Operand → Value) (w : World) (K : Value → World → Prop) : Prop :=
 match (o.semAt ro ρ).run P w with
 | .ok (.value v) w' => K v w'
 | .ok .skip w' => K undef w'
 | .ok (.enter f args) w' => Calls P f args w' fun e w'' => ∃ v, e = .returned v ∧ K v w''
 | .ok (.round l f tmps assign body) w' => RoundIn (FW ro) 0 P l f tmps assign body w' fun e w'' => ∃ v, e = .returned v ∧ K v w''
 | _ => False
def bE (P : Program) (ro : Option Nat) (N : Nat) (ops : Array Oper) : List Oper → d6 → Rg → List Deferred → World → Prop
 | [], Q, r, ds, w => Q .normal r ds w
 | o :: rest, Q, r, ds, w =>
  if Region.wanted o (aC ops N r) = true then n2 P ro o (ev N r) w fun v w' => bE P ro N ops rest Q (r.putO o.dst v) ds w'
  else bE P ro N ops rest Q (r.putO o.dst undef) ds w

theorem pk (ro : Option Nat) (n : Nat) : (FW ro).room n := fun _ h => by simp [FW, Fence.wide] at h
theorem j6 {ro : Option Nat} {n : Nat} {P : Program} {f : FuncId} {args : Array Value} {w : World} {R : Ending → World → Prop} (h : Calls P f args w R) : CallsIn (FW ro) n P f args w R :=
 ⟨trivial, fun cs _ => by
  obtain ⟨e, w', fr, r, s, x⟩ := h cs
  exact ⟨e, w', fr, r, comesIn_wide.2 s, x⟩⟩
theorem mi {n : Nat} {P : Program} {f : FuncId} {args : Array Value} {w : World} {R : Ending → World → Prop} (ro : Option Nat) (h : CallsIn (FW ro) n P f args w R) : Calls P f args w R :=
 fun cs => by
  obtain ⟨e, w', fr, r, s, x⟩ := h.2 cs (pk _ _)
  exact ⟨e, w', fr, r, s.comes, x⟩

theorem jh {P : Program} {ro : Option Nat} {N : Nat} {ops : Array Oper} {Q : d6} : ∀ (l : List Oper) (k : Nat), ops.toList.drop k = l →
  ∀ (r : Rg) (ds : List Deferred) (w : World), bE P ro N ops l Q r ds w → ∀ a, Agree N r a → a.defers = ds → wpOpsIn (FW ro) 0 P ops (lift N Q) (List.range' k l.length) a w
 | [], k, _, r, ds, w, h, a, ha, hd => by
  show lift N Q .normal a w
  exact ⟨r, ha, hd ▸ h⟩
 | o :: rest, k, hk, r, ds, w, h, a, ha, hd => by
  have ho : ops[k]? = some o := by
   have h1 : ops.toList[k]? = some o := by
    have := congrArg (·[0]?) hk
    simpa using this
   simpa using h1
  have hrest : ops.toList.drop (k + 1) = rest := by
   have := congrArg List.tail hk
   simpa using this
  have ih := jh (P := P) (ro := ro) (N := N) (Q := Q) rest (k + 1) hrest
  show wpOpsIn (FW ro) 0 P ops (lift N Q) (k :: List.range' (k + 1) rest.length) a w
  simp only [wpOpsIn, ho]
  have hy : yielded ops a.tmps = aC ops N r := funext fun j => ha.yield ops j
  rw [hy]
  simp only [bE] at h
  split
  ·rename_i hw
   rw [if_pos hw] at h
   refine ⟨fun _ _ => trivial, ?_⟩
   rw [ha.ev]
   unfold n2 at h
   have key : ∀ v w', bE P ro N ops rest Q (r.putO o.dst v) ds w' → wpOpsIn (FW ro) 0 P ops (lift N Q) (List.range' (k + 1) rest.length) (a.put o.dst v) w' := fun v w' hh => by
    refine ih _ ds w' hh (a.put o.dst v) (ha.put o.dst v) ?_
    cases o.dst <;> exact hd
   show Oper.uponIn (FW ro) 0 P o a _ _ ((o.semAt ro (ev N r)).run P w)
   generalize (o.semAt ro (ev N r)).run P w = res at h
   cases res with
   | halt x w' => exact h.elim
   | ok x w' =>
    cases x with
    | value v => exact key v w' h
    | skip => exact key undef w' h
    | enter f args =>
     refine ⟨fun hh => by simp [FW, Fence.wide] at hh, j6 (h.mono fun e w'' hh => ?_)⟩
     obtain ⟨v, rfl, hh⟩ := hh
     exact key v w'' hh
    | round l f tmps assign body =>
     refine ⟨fun hh => by simp [FW, Fence.wide] at hh, h.mono fun e w'' hh => ?_⟩
     obtain ⟨v, rfl, hh⟩ := hh
     exact key v w'' hh
    | _ => exact h.elim
  ·rename_i hw
   rw [if_neg hw] at h
   refine ⟨fun _ _ => trivial, ih _ ds w h (a.put o.dst undef) (ha.put o.dst undef) ?_⟩
   cases o.dst <;> exact hd
theorem aA {P : Program} {ro : Option Nat} {N : Nat} {id : Nat} {ops : Array Oper} {Q : d6} {r : Rg} {ds : List Deferred} {w : World}
  (h : bE P ro N ops ops.toList Q r ds w) : fZ P ro N (.region id ops false) Q r ds w := fun a ha hd =>
 wpIn_region (by
  have := jh ops.toList 0 rfl r ds w h a ha hd
  rwa [← List.range_eq_range', Array.length_toList] at this)
end Go.LG
