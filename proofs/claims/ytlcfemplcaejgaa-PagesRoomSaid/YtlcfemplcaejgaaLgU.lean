/-
 LG, part U: a region that draws its order, all of whose operations only read: one walk in the text's order serves.
-/
import Derived.Test.YtlcfemplcaejgaaLgT
import Derived.Sort.QuietThIn
set_option linter.unusedVariables false
set_option linter.unusedSimpArgs false
namespace Go.LG
open Go
def calm : Op → Bool
 | .move _ | .assign _ | .pick .. | .build .. | .load .. | .binOp .. | .unOp .. | .convert .. | .makeFunc .. | .slice .. | .fieldAddr .. | .field .. | .indexAddr .. | .index .. | .extract .. | .lookup .. => true
 | .call c => match c.callee with
  | .builtin .len | .builtin .max | .builtin .min => true
  | _ => false
 | _ => false
theorem kS {s : Sem Value} {P : Program} {w w' : World} {x : Next} (h : (do pure (Next.value (← s)) : Sem Next).run P w = .ok x w') : ∃ v, x = .value v := by
 rw [Sem.run_bind] at h
 cases hs : s.run P w with
 | ok v w1 =>
  rw [hs, andThen_ok, run_pure'] at h
  cases h; exact ⟨v, rfl⟩
 | halt e w1 => rw [hs] at h; cases h
theorem kR {ρ : Operand → Value} {o : Oper} (h : calm o.op = true) {P : Program} {w w' : World} {x : Next} (hr : (execOp ρ o).run P w = .ok x w') : ∃ v, x = .value v := by
 unfold execOp at hr
 cases ho : o.op <;> rw [ho] at h hr <;> first
  | exact absurd h Bool.false_ne_true
  | exact kS hr
  | (rw [run_pure'] at hr; cases hr; exact ⟨_, rfl⟩)
  | skip
 case pick c a b =>
  simp only [Sem.run_bind] at hr
  cases hs : (asBool (ρ c)).run P w with
  | ok v w1 => rw [hs, andThen_ok, run_pure'] at hr; cases hr; exact ⟨_, rfl⟩
  | halt e w1 => rw [hs] at hr; cases hr
 case call c =>
  cases hc : c.callee with
  | builtin b =>
   simp only [calm, hc] at h
   simp only [resolve, hc, Sem.run_bind, run_pure', andThen_ok, invoke, builtin] at hr
   cases b <;> first | exact absurd h Bool.false_ne_true | exact kS hr
  | _ => simp only [calm, hc] at h; exact absurd h Bool.false_ne_true
section
variable {P : Program} {N : Nat} {ops : Array Oper} {w : World}
def pP (P : Program) (N : Nat) (ops : Array Oper) (Q : Rg → Prop) (w : World) : List Oper → Rg → Prop
 | [], r => Q r
 | o :: rest, r => ∃ r1, bE P none N ops [o] (fun _ r' _ w' => r' = r1 ∧ w' = w) r [] w ∧ calm o.op = true ∧ pP P N ops Q w rest r1
theorem iM {Q : Rg → Prop} {r : Rg} (h : Q r) : pP P N ops Q w [] r := h
theorem bc {ro : Option Nat} {r : Rg} {ds : List Deferred} : bE P ro N ops [] (fun _ r' _ w' => r' = r ∧ w' = w) r ds w := ⟨rfl, rfl⟩
theorem wq {Q : Rg → Prop} {o : Oper} {rest : List Oper} {r r1 : Rg} (h : bE P none N ops [o] (fun _ r' _ w' => r' = r1 ∧ w' = w) r [] w) (hc : calm o.op = true) (k : pP P N ops Q w rest r1) : pP P N ops Q w (o :: rest) r := ⟨r1, h, hc, k⟩
theorem j8 {Q : Rg → Prop} {Q' : Act → Prop} {ds : List Deferred} (hQ : ∀ r a, Agree N r a → a.defers = ds → Q r → Q' a) : ∀ (l : List Oper) (r : Rg) (a : Act), Agree N r a → a.defers = ds → pP P N ops Q w l r →
  wpQuietIn (FW none) 0 P ops (fun w' => w' = w) Q' l a
 | [], r, a, ha, hd, h => hQ r a ha hd h
 | o :: rest, r, a, ha, hd, ⟨r1, h1, hc, h2⟩ => by
  have hy : yielded ops a.tmps = aC ops N r := funext fun j => ha.yield ops j
  have go : ∀ v, r.putO o.dst v = r1 → wpQuietIn (FW none) 0 P ops (fun w' => w' = w) Q' rest (a.put o.dst v) := fun v hv =>
   j8 hQ rest r1 (a.put o.dst v) (hv ▸ ha.put o.dst v) (by cases o.dst <;> exact hd) h2
  refine ⟨fun _ _ _ _ => trivial, ?_⟩
  rw [hy]
  simp only [bE] at h1
  split
  ·rename_i hw
   rw [if_pos hw] at h1
   unfold n2 at h1
   rw [Oper.semAt_none] at h1
   cases hr : (execOp (ev N r) o).run P w with
   | halt x w' => rw [hr] at h1; exact h1.elim
   | ok x w' =>
    obtain ⟨v, rfl⟩ := kR hc hr
    rw [hr] at h1
    obtain ⟨h3, h4⟩ := h1
    refine ⟨v, fun w2 hw2 => ?_, go v h3⟩
    subst hw2
    unfold Oper.quietAtIn
    rw [ha.ev, hr, h4]
    exact ⟨rfl, rfl⟩
  ·rename_i hw
   rw [if_neg hw] at h1
   exact go undef h1.1
theorem ie {id : Nat} {Q : d6} {r : Rg} {ds : List Deferred} (hm : P.follows .mixedOrders = true) (hB : Region.lexB .any ops = true)
  (h : pP P N ops (fun r' => Q .normal r' ds w.drew) w.drew ops.toList r) : fZ P none N (.region id ops true) Q r ds w := fun a ha hd =>
 wpIn_region_quiet (C := fun w' => w' = w.drew) rfl hm hB rfl
  (j8 (Q := fun r' => Q .normal r' ds w.drew) (fun r' a' h1 h2 h3 w' hw' => by subst hw'; exact ⟨r', h1, by rw [h2]; exact h3⟩) ops.toList r a ha hd h)
theorem sr {id : Nat} {y : Code} {Q : d6} {r : Rg} {ds : List Deferred} {ro : Option Nat} (h : ∀ K : Rg → List Deferred → World → Prop, (∀ r ds w, fZ P ro N y Q r ds w → K r ds w) → bE P ro N ops ops.toList (mA K Q) r ds w) :
  fZ P ro N (.seq (.region id ops false) y) Q r ds w := lA fun K hK => aA (h K hK)
theorem nl {Q : d6} {r : Rg} {ds : List Deferred} {ro : Option Nat} (h : Q .normal r ds w) : bE P ro N ops [] Q r ds w := h
end
theorem gT {a b c : Gh} (h : a ≤ b) (k : b ≤ c) : a ≤ c := Gh.le_trans h k
theorem gR {a : Gh} : a ≤ a := Gh.le_refl a
theorem fm {P : Program} {b : Frame} {a : Act} {k : List Item} {cs : List Frame} {w : World} {c : Code} : step P (lone (b.atR a (.code (.scope c) :: k)) cs w) = .next (lone (b.atR a (.code c :: .inScope c :: k)) cs w) :=
 step_lone_go (by simp [stepG, stepG.exec, Frame.atR])
theorem ll {P : Program} {b : Frame} {a : Act} {k : List Item} {cs : List Frame} {w : World} {c : Code} : step P (lone (b.atR a (.inScope c :: k)) cs w) = .next (lone (b.atR a k) cs w) :=
 step_lone_go (by simp [stepG, stepG.exec, Frame.atR])
def noG (Q : d6) : d6
 | .goto _, _, _, _ => False
 | e, r, ds, w => Q e r ds w
def noGA (Q : Exit → Act → World → Prop) : Exit → Act → World → Prop
 | .goto _, _, _ => False
 | e, a, w => Q e a w
theorem nk {F : Fence} {n : Nat} {P : Program} {Q : Exit → Act → World → Prop} {a : Act} {w : World} {c : Code} (h : c.wpIn F n P (noGA Q) a w) : (Code.scope c).wpIn F n P Q a w := by
 intro b k cs hro hb hr
 have h0 : (lone (b.atR a (.code (.scope c) :: k)) cs w).fenced P F := fenced_calm hb hr rfl
 obtain ⟨e, a₁, w₁, hq, harr⟩ := h b (.inScope c :: k) cs hro hb hr
 cases e with
 | normal => exact ⟨.normal, a₁, w₁, hq, .head h0 fm (StepsIn.trans harr (.one (fenced_calm hb hr rfl) ll))⟩
 | goto l => exact hq.elim
 | exit id =>
  have hx : exitTo id (.inScope c :: k) = exitTo id k := by simp [exitTo]
  exact ⟨_, a₁, w₁, hq, fun k' hk => .head h0 fm (harr.1 k' (by rw [hx]; exact hk)),
   fun hr' hk => let ⟨k₁, h1, h2⟩ := harr.2 hr' (by rw [hx]; exact hk); ⟨k₁, h1, .head h0 fm h2⟩⟩
 | ret => exact ⟨_, a₁, w₁, hq, .of_steps (.one h0 fm) harr⟩
 | panic ch => exact ⟨_, a₁, w₁, hq, .of_steps (.one h0 fm) harr⟩
 | outgrown => exact ⟨_, a₁, w₁, hq, .of_steps (.one h0 fm) harr⟩
theorem nZ {P : Program} {ro : Option Nat} {N : Nat} {Q : d6} {r : Rg} {ds : List Deferred} {w : World} {c : Code} (h : fZ P ro N c (noG Q) r ds w) : fZ P ro N (.scope c) Q r ds w := fun a ha hd =>
 nk (wpIn_mono (h a ha hd) fun e a' w' ⟨r', hr', hQ⟩ => by
  cases e with
  | goto l => exact hQ.elim
  | _ => exact ⟨r', hr', hQ⟩)
section
variable {c : Prop} [Decidable c] {α β : Type}
theorem bS {x : Option α} {f : α → Option β} {r : β} (h : (x >>= f) = some r) : ∃ y, x = some y ∧ f y = some r := bind_some h
end
theorem cN {r : Rg} : Has [] r := trivial
theorem cC {d : Nat} {v : Value} {l : List (Nat × Value)} {r : Rg} (h : r d = v) (k : Has l r) : Has ((d, v) :: l) r := ⟨h, k⟩
section
variable {P : Program} {ro : Option Nat} {N : Nat} {ops : Array Oper} {rest : List Oper} {Q : d6} {r : Rg} {ds : List Deferred} {w : World}
theorem wN {o : Oper} (hw : Region.wanted o (aC ops N r) = false) (k : bE P ro N ops rest Q (r.putO o.dst undef) ds w) : bE P ro N ops (o :: rest) Q r ds w := lR hw k
theorem gY {j d : Nat} {want : Bool} {o : Oper} (hg : o.guard = some (j, want)) (hd : (ops[j]?).bind (·.dst) = some d) (hlt : Nat.blt d N = true) (hv : r d = .bool want) : Region.wanted o (aC ops N r) = true := nM hg hd hlt hv
theorem gN {j d : Nat} {want : Bool} {o : Oper} {v : Value} (hg : o.guard = some (j, want)) (hd : (ops[j]?).bind (·.dst) = some d) (hlt : Nat.blt d N = true) (hv : r d = v)
  (hn : (match v with | .bool b => (b != want) | _ => true) = true) : Region.wanted o (aC ops N r) = false := al hg hd hlt hv hn
theorem sQ {x y : Code} (h : ∀ K : Rg → List Deferred → World → Prop, (∀ r ds w, fZ P ro N y Q r ds w → K r ds w) → fZ P ro N x (mA K Q) r ds w) : fZ P ro N (.seq x y) Q r ds w := lA h
end
end Go.LG
