/-
 LG, part W: short words for the walks: values found by computing, steps that hand on what the plain function says, and regions whose order is open and whose calls leave the blocks as they were.
-/
import Derived.Test.YtlcfemplcaejgaaLgU
set_option linter.unusedVariables false
set_option linter.unusedSimpArgs false
set_option linter.defProp false
namespace Go.LG
open Go Go.RowKit
theorem z {α : Sort _} {a : α} : a = a := rfl
theorem tv : True := trivial
theorem Hp.low {G G' : Gh} {L : List dv} {w : World} (hG : G ≤ G') (h : Hp G' L w) : Hp G L w := {
 os := h.os.trans hG.os
 tape := h.tape.trans hG.tape
 out := h.out.trans hG.out
 cel a v x := h.cel a v (hG.cel a v x)
 blk g o x := h.blk g o (hG.blk g o x)
 own := h.own
 sepB it hi g hg := by
  cases hb : G.blk g with
  | none => rfl
  | some o => have := h.sepB it hi g hg; rw [hG.blk g o hb] at this; cases this
 sepC it hi g hg a ha hl := by
  cases hb : G.cel a with
  | none => rfl
  | some v => have := h.sepC it hi g hg a ha hl; rw [hG.cel a v hb] at this; cases this
 sepL := h.sepL }
theorem nW {P : Program} {f : FuncId} {args : Array Value} {w : World} {L : List dv} {v : Value} (h : Calls P f args w fun e w' => Hp (Gh.whole w) L w' ∧ e = .returned v) : Calls P f args w fun e w' => e = .returned v ∧ RowKit.Below w.heap.size w w' :=
 to_below (h.mono fun e w' ⟨h1, h2⟩ => ⟨_, Gh.le_refl _, h1, h2⟩)
def fz : Value → Option Value
 | .int k n => some (.int k n)
 | .bool b => some (.bool b)
 | .string s => some (.string s)
 | .slice a n c => some (.slice a n c)
 | .pointer a => some (.pointer a)
 | .map a => some (.map a)
 | .agg cs => some (.agg cs)
 | .tuple vs => some (.tuple vs)
 | .func f a b => some (.func f a b)
 | .nilFunc => some .nilFunc
 | _ => none
theorem lB {v u : Value} (h : fz v = some u) : v = u := by cases v <;> simp [fz] at h <;> exact h
def pR {α : Type} : List α → Option (List α)
 | [] => some []
 | a :: l => match pR l with | some l' => some (a :: l') | none => none
theorem kJ {α : Type} : ∀ {l l' : List α}, pR l = some l' → l = l'
 | [], l', h => by cases h; rfl
 | a :: l, l', h => by
  unfold pR at h
  cases hl : pR l with
  | none => rw [hl] at h; cases h
  | some k => rw [hl] at h; cases h; rw [kJ hl]
section
variable {c : Prop} [Decidable c] {c' : Prop} {α β : Type} {C : Prop}
theorem iK {a : Option α} {r : α} (h : (if c then a else none) = some r) (k : c → a = some r → C) : C := k (my h).1 (my h).2
theorem bK {x : Option α} {f : α → Option β} {r : β} (h : (x >>= f) = some r) (k : ∀ y, x = some y → f y = some r → C) : C := let ⟨y, h1, h2⟩ := bind_some h; k y h1 h2
theorem ms {A0 A1 : Type} {x : Option (A0 × A1)} {f : (A0 × A1) → Option β} {r : β} (h : (x >>= f) = some r) (k : ∀ a0 a1, x = some (a0, a1) → f (a0, a1) = some r → C) : C := bK h fun (a0, a1) h1 h2 => k a0 a1 h1 h2
theorem yK {a b : Option α} {r : α} (hc : c) (h : (if c then a else b) = some r) (k : a = some r → C) : C := k (pz hc h)
theorem nK {a b : Option α} {r : α} (hc : ¬ c) (h : (if c then a else b) = some r) (k : b = some r → C) : C := k (qb hc h)
end
theorem dC {C : Prop} (p : Prop) [Decidable p] (h1 : p → C) (h2 : ¬ p → C) : C := if h : p then h1 h else h2 h
theorem bY {p : Prop} [Decidable p] (h : p) : (Value.bool (decide p)) = .bool true := kF h
theorem bN {p : Prop} [Decidable p] (h : ¬ p) : (Value.bool (decide p)) = .bool false := nA h
theorem vY {b : Bool} (h : b = true) : Value.bool b = .bool true := by rw [h]
theorem vN {b : Bool} (h : ¬ b = true) : Value.bool b = .bool false := fF h
section
variable {P : Program} {ro : Option Nat} {N : Nat} {ops : Array Oper} {rest : List Oper} {Q : d6} {r : Rg} {ds : List Deferred} {w : World} {G : Gh} {L : List dv}
variable {d : Option Nat} {ty : TypeId} {ps : String} {af : Array Edge} {gd : Option (Nat × Bool)} {x y : Operand}
theorem mv {v : Value} (hx : fz (ev N r x) = some v) (k : bE P ro N ops rest Q (r.putO d v) ds w) (hw : Region.wanted ⟨d, .move x, ty, ps, af, gd⟩ (aC ops N r) = true := by rfl) :
  bE P ro N ops (⟨d, .move x, ty, ps, af, gd⟩ :: rest) Q r ds w := q_mv (lB hx) k hw
theorem aK {v : Value} (hx : fz (ev N r x) = some v) (k : bE P ro N ops rest Q (r.putO d v) ds w) (hw : Region.wanted ⟨d, .assign x, ty, ps, af, gd⟩ (aC ops N r) = true := by rfl) :
  bE P ro N ops (⟨d, .assign x, ty, ps, af, gd⟩ :: rest) Q r ds w := q_as (lB hx) k hw
theorem cY {c : Operand} {v : Value} (hc : ev N r c = .bool true) (hx : fz (ev N r x) = some v) (k : bE P ro N ops rest Q (r.putO d v) ds w)
  (hw : Region.wanted ⟨d, .pick c x y, ty, ps, af, gd⟩ (aC ops N r) = true := by rfl) : bE P ro N ops (⟨d, .pick c x y, ty, ps, af, gd⟩ :: rest) Q r ds w := oM true hc (lB hx) k hw
theorem dm {c : Operand} {v : Value} (hc : ev N r c = .bool false) (hx : fz (ev N r y) = some v) (k : bE P ro N ops rest Q (r.putO d v) ds w)
  (hw : Region.wanted ⟨d, .pick c x y, ty, ps, af, gd⟩ (aC ops N r) = true := by rfl) : bE P ro N ops (⟨d, .pick c x y, ty, ps, af, gd⟩ :: rest) Q r ds w := oM false hc (lB hx) k hw
theorem ld (I : Hp G L w) (i : Nat) {T : TypeId} {n g o : Nat} {vs : List Value} {U : TypeId} {v : Value} (hT : er P T = some (false, n)) (hx : ev N r x = .pointer (some ⟨g, o, none⟩)) (hk : L[i]? = some (bx g vs U)) (hv : vs[o]? = some v)
  (k : bE P ro N ops rest Q (r.putO d v) ds w) (hw : Region.wanted ⟨d, .load T x, ty, ps, af, gd⟩ (aC ops N r) = true := by rfl) : bE P ro N ops (⟨d, .load T x, ty, ps, af, gd⟩ :: rest) Q r ds w := q_ld I i hT hx hk hv k hw
theorem gg (I : Hp G L w) (i : Nat) {T : TypeId} {n g o : Nat} {vs cs : List Value} {U : TypeId} (hT : er P T = some (true, n)) (hx : ev N r x = .pointer (some ⟨g, o, none⟩)) (hk : L[i]? = some (bx g vs U)) (hcs : pR ((vs.drop o).take n) = some cs) (hl : cs.length = n)
  (k : bE P ro N ops rest Q (r.putO d (.agg cs.toArray)) ds w) (hw : Region.wanted ⟨d, .load T x, ty, ps, af, gd⟩ (aC ops N r) = true := by rfl) : bE P ro N ops (⟨d, .load T x, ty, ps, af, gd⟩ :: rest) Q r ds w := qC I i hT hx hk (kJ hcs) hl k hw
theorem jW (I : Hp G L w) {T : TypeId} {v : Value} {vs : List Value} (hx : fz (ev N r x) = some v) (hv : pR v.cells.toList = some vs)
  (k : ∀ g w', Hp G (bx g vs T :: L) w' → bE P ro N ops rest Q (r.putO d (.pointer (some ⟨g, 0, none⟩))) ds w') (hw : Region.wanted ⟨d, .box T x, ty, ps, af, gd⟩ (aC ops N r) = true := by rfl) :
  bE P ro N ops (⟨d, .box T x, ty, ps, af, gd⟩ :: rest) Q r ds w := qr I (lB hx) (kJ hv) k hw
def qt {α : Type} : List α → Nat → α → Option (List α)
 | [], _, _ => some []
 | _ :: l, 0, b => some (b :: l)
 | a :: l, i + 1, b => match qt l i b with | some l' => some (a :: l') | none => none
theorem oC {α : Type} : ∀ {l : List α} {i : Nat} {b : α} {l' : List α}, qt l i b = some l' → l.set i b = l'
 | [], i, b, l', h => by cases h; rfl
 | a :: l, 0, b, l', h => by cases h; rfl
 | a :: l, i + 1, b, l', h => by
  unfold qt at h
  cases hl : qt l i b with
  | none => rw [hl] at h; cases h
  | some k => rw [hl] at h; cases h; rw [List.set_cons_succ, oC hl]
theorem f5 (I : Hp G L w) (i : Nat) {T : TypeId} {b : Bool} {n g o : Nat} {vs cs vs' : List Value} {U : TypeId} {v : Value} {L' : List dv} (hT : er P T = some (b, n)) (hx : ev N r x = .pointer (some ⟨g, o, none⟩)) (hy : fz (ev N r y) = some v)
  (hk : L[i]? = some (bx g vs U)) (hv : pR v.cells.toList = some cs) (h1 : (Nat.beq cs.length n && cs.all one && Nat.ble (o + n) vs.length) = true) (hs : pR (cF vs o cs) = some vs') (hL : qt L i (bx g vs' U) = some L')
  (k : ∀ w', Hp G L' w' → bE P ro N ops rest Q (r.putO d undef) ds w') (hw : Region.wanted ⟨d, .store T x y, ty, ps, af, gd⟩ (aC ops N r) = true := by rfl) :
  bE P ro N ops (⟨d, .store T x y, ty, ps, af, gd⟩ :: rest) Q r ds w := by
 simp only [Bool.and_eq_true] at h1
 obtain ⟨⟨h1, h2⟩, h3⟩ := h1
 refine qy I i hT hx (lB hy) hk (kJ hv) (Nat.eq_of_beq_eq_true h1) h2 (Nat.le_of_ble_eq_true h3) (kJ hs) (fun w' h => k w' ?_) hw
 rw [oC hL] at h; exact h
theorem ls {i : Nat} {vs : List Value} {v : Value} (hx : ev N r x = .tuple vs.toArray) (hv : vs[i]? = some v) (k : bE P ro N ops rest Q (r.putO d v) ds w) (hw : Region.wanted ⟨d, .extract x i, ty, ps, af, gd⟩ (aC ops N r) = true := by rfl) :
  bE P ro N ops (⟨d, .extract x i, ty, ps, af, gd⟩ :: rest) Q r ds w := q_ex hx hv k hw
theorem fa {s i off sz g o : Nat} (hF : bJ P s i = some (off, sz + 1)) (hx : ev N r x = .pointer (some ⟨g, o, none⟩)) (k : bE P ro N ops rest Q (r.putO d (.pointer (some ⟨g, o + off, none⟩))) ds w)
  (hw : Region.wanted ⟨d, .fieldAddr s x i, ty, ps, af, gd⟩ (aC ops N r) = true := by rfl) : bE P ro N ops (⟨d, .fieldAddr s x i, ty, ps, af, gd⟩ :: rest) Q r ds w := eS hF hx (add_plain _ _ _) k hw
def jP (l : List Oper) (r : Rg) : Rg := fun t => cond (l.any fun o => match o.dst with | some d => Nat.beq t d | none => false) undef (r t)
def skV (v : Value) (want : Bool) : Bool := match v with | .bool b => (b != want) | _ => true
def skB (l : List Oper) (n j d : Nat) (v : Value) : Bool := (l.take n).all fun o => (match o.guard with | some (j', want) => Nat.beq j' j && skV v want | none => false) && match o.dst with | some d' => !(Nat.beq d d') | none => true
theorem kq (o : Oper) (l : List Oper) (r : Rg) : jP l (r.putO o.dst undef) = jP (o :: l) r := by
 funext t
 cases hd : o.dst with
 | none => simp [jP, Rg.putO, hd]
 | some d =>
  simp only [jP, Rg.putO, hd, List.any_cons, Rg.put]
  cases Nat.beq t d <;> cases (l.any fun o => match o.dst with | some d => Nat.beq t d | none => false) <;> rfl
theorem sk_ {j d : Nat} {v : Value} (hd : (ops[j]?).bind (·.dst) = some d) (hN : Nat.blt d N = true) : ∀ (n : Nat) {l : List Oper} {r : Rg}, r d = v → skB l n j d v = true → bE P ro N ops (l.drop n) Q (jP (l.take n) r) ds w → bE P ro N ops l Q r ds w
 | 0, l, r, _, _, k => k
 | n + 1, [], r, _, _, k => k
 | n + 1, o :: l, r, hv, h, k => by
  simp only [skB, List.take_succ_cons, List.all_cons, Bool.and_eq_true] at h
  obtain ⟨⟨h1, h2⟩, h3⟩ := h
  cases hg : o.guard with
  | none => simp [hg] at h1
  | some g =>
   obtain ⟨j', want⟩ := g
   simp only [hg, Bool.and_eq_true] at h1
   obtain ⟨h4, h5⟩ := h1
   have h4 := Nat.eq_of_beq_eq_true h4
   subst h4
   refine lR (al hg hd hN hv (by cases v <;> exact h5)) ?_
   refine sk_ hd hN n (r := r.putO o.dst undef) ?_ h3 ?_
   ·cases ho : o.dst with
    | none => exact hv
    | some d' =>
     rw [ho] at h2
     show r.put d' undef d = v
     rw [Rg.put_ne r undef (fun e => by subst e; simp at h2)]
     exact hv
   ·rw [kq]; exact k
theorem Sk (n : Nat) {l : List Oper} {j d : Nat} {want : Bool} {v : Value} (hg : (l.head?).bind (·.guard) = some (j, want)) (hd : (ops[j]?).bind (·.dst) = some d) (hv : r d = v) (h : (Nat.blt d N && skB l n j d v) = true)
  (k : bE P ro N ops (l.drop n) Q (jP (l.take n) r) ds w) : bE P ro N ops l Q r ds w := by
 simp only [Bool.and_eq_true] at h
 exact sk_ hd h.1 n hv h.2 k
def skU (ops : Array Oper) (N : Nat) : Nat → List Oper → Rg → Bool
 | 0, _, _ => true
 | _ + 1, [], _ => true
 | n + 1, o :: l, r => (match o.guard with | some (j, want) => (match (ops[j]?).bind (·.dst) with | some d => Nat.blt d N && skV (r d) want | none => false) | none => false) && skU ops N n l (r.putO o.dst undef)
theorem Su : ∀ (n : Nat) {l : List Oper} {r : Rg}, skU ops N n l r = true → bE P ro N ops (l.drop n) Q (jP (l.take n) r) ds w → bE P ro N ops l Q r ds w
 | 0, l, r, _, k => k
 | n + 1, [], r, _, k => k
 | n + 1, o :: l, r, h, k => by
  simp only [skU, Bool.and_eq_true] at h
  obtain ⟨h1, h3⟩ := h
  cases hg : o.guard with
  | none => simp [hg] at h1
  | some g =>
   obtain ⟨j, want⟩ := g
   rw [hg] at h1
   simp only at h1
   cases hd : (ops[j]?).bind (·.dst) with
   | none => rw [hd] at h1; cases h1
   | some d =>
    rw [hd] at h1
    simp only [Bool.and_eq_true] at h1
    obtain ⟨v, hv⟩ : ∃ v, r d = v := ⟨_, rfl⟩
    rw [hv] at h1
    refine lR (al hg hd h1.1 hv (by cases v <;> exact h1.2)) ?_
    refine Su n (r := r.putO o.dst undef) h3 ?_
    rw [kq]; exact k
theorem wt {c : Operand} {a b : Code} (hc : ev N r c = .bool true) (h : fZ P ro N a Q r ds w) : fZ P ro N (.cond c a b) Q r ds w := oY hc h
theorem wf {c : Operand} {a b : Code} (hc : ev N r c = .bool false) (h : fZ P ro N b Q r ds w) : fZ P ro N (.cond c a b) Q r ds w := nP hc h
theorem ws (h : Q .normal r ds w) : fZ P ro N .skip Q r ds w := oa h
theorem wr (h : Q .ret r ds w) : fZ P ro N .ret Q r ds w := ph h
theorem wx {id : Nat} (h : Q (.exit id) r ds w) : fZ P ro N (.exit id) Q r ds w := n4 h
theorem wb {id : Nat} {c : Code} (h : fZ P ro N c (kT id Q) r ds w) : fZ P ro N (.block id c) Q r ds w := nU h
theorem cv {f : FuncId} {xs : Array Operand} {tt : Array TypeId} {c : Operand} {first cap : Array Value} {vs : List Value} {v : Value} {L' : List dv} (hb : bl P f = true)
  (h : Calls P f vs.toArray w fun e w' => Hp G L' w' ∧ e = .returned v) (hc : ev N r c = .func (.func f) first cap) (hargs : first.toList ++ xs.toList.map (ev N r) ++ cap.toList = vs)
  (k : ∀ w', Hp G L' w' → bE P ro N ops rest Q (r.putO d v) ds w') (hw : Region.wanted ⟨d, .call { callee := .value c, args := xs, argTypes := tt }, ty, ps, af, gd⟩ (aC ops N r) = true := by rfl) :
  bE P ro N ops (⟨d, .call { callee := .value c, args := xs, argTypes := tt }, ty, ps, af, gd⟩ :: rest) Q r ds w :=
 ft hb hc hargs h (fun e w' ⟨h2, h3⟩ => ⟨v, h3, k w' h2⟩) hw
abbrev Jp (x : Exit) (ds0 : List Deferred) (G : Gh) (hs : List (Nat × Value)) (L : List dv) : d6 := fun e r ds w => e = x ∧ ds = ds0 ∧ Has hs r ∧ Hp G L w
theorem je {x : Exit} {hs : List (Nat × Value)} (h : Has hs r) (I : Hp G L w) : Jp x ds G hs L x r ds w := ⟨rfl, rfl, h, I⟩
theorem jS (n : Nat) {l : List Oper} (G : Gh) (hs : List (Nat × Value)) (L : List dv) (a : bE P ro N ops (l.take n) (Jp .normal ds G hs L) r ds w)
  (b : ∀ r w', Hp G L w' → bE P ro N ops (l.drop n) Q (lT hs r) ds w') : bE P ro N ops l Q r ds w :=
 lI n a fun e r' ds' w' ⟨_, hd, hH, I⟩ => by
  subst hd
  rw [hH.eq]; exact b r' w' I
theorem jC {c : Code} (x : Exit) (G : Gh) (hs : List (Nat × Value)) (L : List dv) (a : fZ P ro N c (Jp x ds G hs L) r ds w)
  (b : ∀ r w', Hp G L w' → Q x (lT hs r) ds w') : fZ P ro N c Q r ds w :=
 aP a fun e r' ds' w' ⟨he, hd, hH, I⟩ => by
  subst hd; subst he
  rw [hH.eq]; exact b r' w' I
theorem js (n : Nat) {l : List Oper} {G : Gh} {L : List dv} (_ : Hp G L w) (hs : List (Nat × Value)) (a : bE P ro N ops (l.take n) (Jp .normal ds G hs L) r ds w)
  (b : ∀ r w', Hp G L w' → bE P ro N ops (l.drop n) Q (lT hs r) ds w') : bE P ro N ops l Q r ds w := jS n G hs L a b
theorem jc {c : Code} (x : Exit) {G : Gh} {L : List dv} (_ : Hp G L w) (hs : List (Nat × Value)) (a : fZ P ro N c (Jp x ds G hs L) r ds w)
  (b : ∀ r w', Hp G L w' → Q x (lT hs r) ds w') : fZ P ro N c Q r ds w := jC x G hs L a b
theorem rt {fn : Func} {vs : List Value} {v : Value} (hb : mS N r w P fn.results.toList vs) (I : Hp G L w) (hv : m5 vs = v := by rfl) : rf P N fn (fun e w' => Hp G L w' ∧ e = .returned v) .ret r [] w :=
 ⟨.inr rfl, rfl, vs, hb, I, by rw [hv]⟩
def Cl (G : Gh) (L : List dv) : World → Prop := fun w => ∃ G', G ≤ G' ∧ Hp G' L w
inductive Wcc (P : Program) (N : Nat) (ops : Array Oper) (G : Gh) (L : List dv) (Q : Rg → Prop) : List Oper → Rg → Prop
 | nil {r : Rg} (h : Q r) : Wcc P N ops G L Q [] r
 | read {o : Oper} {rest : List Oper} {r : Rg} {v : Value} (hd : o.dst.isSome = true) (h : ∀ w, Cl G L w → bE P none N ops [o] (fun _ r' _ w' => r' = r.putO o.dst v ∧ w' = w) r [] w) (hc : calm o.op = true) (k : Wcc P N ops G L Q rest (r.putO o.dst v)) : Wcc P N ops G L Q (o :: rest) r
 | call {o : Oper} {rest : List Oper} {r : Rg} {f : FuncId} {vs : Array Value} {v : Value} (hw : Region.wanted o (aC ops N r) = true) (he : ∀ w, (execOp (ev N r) o).run P w = .ok (.enter f vs) w) (h : ∀ w, Cl G L w → Calls P f vs w fun e w' => e = .returned v ∧ Cl G L w')
   (k : Wcc P N ops G L Q rest (r.putO o.dst v)) : Wcc P N ops G L Q (o :: rest) r
 | pass {o : Oper} {rest : List Oper} {r : Rg} (hw : Region.wanted o (aC ops N r) = false) (k : Wcc P N ops G L Q rest (r.putO o.dst undef)) : Wcc P N ops G L Q (o :: rest) r
theorem mr {r : Rg} {d : Option Nat} {u v : Value} (hd : d.isSome = true) (h : r.putO d u = r.putO d v) : u = v := by
 cases d with
 | none => cases hd
 | some d =>
  have := congrFun h d
  simpa [Rg.putO, Rg.put_same] using this
theorem lQ (hex : ∃ w, Cl G L w) {Q : Rg → Prop} {Q' : Act → Prop} {ds : List Deferred} (hQ : ∀ r a, Agree N r a → a.defers = ds → Q r → Q' a) {l : List Oper} {r : Rg} (h : Wcc P N ops G L Q l r) :
  ∀ a : Act, Agree N r a → a.defers = ds → wpQuietIn (FW none) 0 P ops (Cl G L) Q' l a := by
 induction h with
 | nil h => intro a ha hd; exact hQ _ a ha hd h
 | @read o rest r v hd h hc k ih =>
  intro a ha hds
  have hy : yielded ops a.tmps = aC ops N r := funext fun j => ha.yield ops j
  have go := ih (a.put o.dst v) (ha.put o.dst v) (by cases o.dst <;> exact hds)
  refine ⟨fun _ _ _ _ => trivial, ?_⟩
  rw [hy]
  split
  ·rename_i hw
   refine ⟨v, fun w2 hw2 => ?_, go⟩
   have h1 := h w2 hw2
   simp only [bE] at h1
   rw [if_pos hw] at h1
   unfold n2 at h1
   rw [Oper.semAt_none] at h1
   unfold Oper.quietAtIn
   rw [ha.ev]
   cases hr : (execOp (ev N r) o).run P w2 with
   | halt x w' => rw [hr] at h1; exact h1.elim
   | ok x w' =>
    obtain ⟨u, rfl⟩ := kR hc hr
    rw [hr] at h1
    exact ⟨h1.2, mr hd h1.1⟩
  ·rename_i hw
   obtain ⟨w2, hw2⟩ := hex
   have h1 := h w2 hw2
   simp only [bE] at h1
   rw [if_neg hw] at h1
   have : undef = v := mr hd h1.1
   rw [this]; exact go
 | @call o rest r f vs v hw he h k ih =>
  intro a ha hds
  have hy : yielded ops a.tmps = aC ops N r := funext fun j => ha.yield ops j
  refine ⟨fun _ _ _ _ => trivial, ?_⟩
  rw [hy, if_pos hw]
  refine ⟨v, fun w2 hw2 => ?_, ih (a.put o.dst v) (ha.put o.dst v) (by cases o.dst <;> exact hds)⟩
  unfold Oper.quietAtIn
  rw [ha.ev, he w2]
  exact ⟨rfl, fun hh => by simp [FW, Fence.wide] at hh, j6 (h w2 hw2)⟩
 | @pass o rest r hw k ih =>
  intro a ha hds
  have hy : yielded ops a.tmps = aC ops N r := funext fun j => ha.yield ops j
  refine ⟨fun _ _ _ _ => trivial, ?_⟩
  rw [hy, hw]
  exact ih (a.put o.dst undef) (ha.put o.dst undef) (by cases o.dst <;> exact hds)
theorem jq {id : Nat} {r : Rg} {ds : List Deferred} (I : Hp G L w) (hm : P.follows .mixedOrders = true) (hB : Region.lexB .any ops = true)
  (h : Wcc P N ops G L (fun r' => ∀ w' G', G ≤ G' → Hp G' L w' → Q .normal r' ds w') ops.toList r) : fZ P none N (.region id ops true) Q r ds w := fun a ha hd =>
 have hC : Cl G L w.drew := ⟨G, Gh.le_refl G, I.drew⟩
 wpIn_region_quiet (C := Cl G L) rfl hm hB hC
  (lQ ⟨_, hC⟩ (Q' := fun a' => ∀ w', Cl G L w' → lift N Q .normal a' w') (fun r' a' h1 h2 h3 w' ⟨G', hG', I'⟩ => ⟨r', h1, by rw [h2]; exact h3 w' G' hG' I'⟩) h a ha hd)
theorem cw {o : Oper} {r : Rg} {v : Value} {Q : Rg → Prop} (h : ∀ G' w, G ≤ G' → Hp G' L w → bE P none N ops [o] (fun _ r' _ w' => r' = r.putO o.dst v ∧ w' = w) r [] w) (hd : o.dst.isSome = true) (hc : calm o.op = true) (k : Wcc P N ops G L Q rest (r.putO o.dst v)) :
  Wcc P N ops G L Q (o :: rest) r := .read hd (fun w ⟨G', h1, h2⟩ => h G' w h1 h2) hc k
theorem wk {f : FuncId} {xs : Array Operand} {tt : Array TypeId} {c : Operand} {first cap : Array Value} {vs : List Value} {v : Value} {Q : Rg → Prop} (hb : bl P f = true) (hc : ev N r c = .func (.func f) first cap)
  (hargs : first.toList ++ xs.toList.map (ev N r) ++ cap.toList = vs) (h : ∀ G' w, G ≤ G' → Hp G' L w → Calls P f vs.toArray w fun e w' => e = .returned v ∧ Cl G L w')
  (k : Wcc P N ops G L Q rest (r.putO d v)) (hw : Region.wanted ⟨d, .call { callee := .value c, args := xs, argTypes := tt }, ty, ps, af, gd⟩ (aC ops N r) = true := by rfl) :
  Wcc P N ops G L Q (⟨d, .call { callee := .value c, args := xs, argTypes := tt }, ty, ps, af, gd⟩ :: rest) r := by
 have e : first ++ xs.map (ev N r) ++ cap = vs.toArray := by subst hargs; apply Array.toList_inj.1; simp
 refine .call hw (f := f) (vs := vs.toArray) (fun w => ?_) (fun w ⟨G', h1, h2⟩ => h G' w h1 h2) k
 simp [aB, run_pure', aL, az, andThen_ok, Sem.run_bind, execOp, resolve, Deferred.ofValue, invoke, hc, iL hb]
 rw [← hargs, List.append_assoc]
theorem wp {o : Oper} {r : Rg} {Q : Rg → Prop} (hw : Region.wanted o (aC ops N r) = false) (k : Wcc P N ops G L Q rest (r.putO o.dst undef)) : Wcc P N ops G L Q (o :: rest) r := .pass hw k
theorem wz {Q : Rg → Prop} {r : Rg} (h : Q r) : Wcc P N ops G L Q [] r := .nil h
end
theorem kA {P : Program} {N : Nat} {ops : Array Oper} {w : World} {Q : Rg → Prop} {o : Oper} {rest : List Oper} {r : Rg} {j d : Nat} {want : Bool} {v : Value} (hg : o.guard = some (j, want)) (hd : (ops[j]?).bind (·.dst) = some d) (hlt : Nat.blt d N = true) (hv : r d = v) (hn : (match v with | .bool b => (b != want) | _ => true) = true) (hc : calm o.op = true) (k : pP P N ops Q w rest (r.putO o.dst undef)) : pP P N ops Q w (o :: rest) r := wq (lR (al hg hd hlt hv hn) bc) hc k
end Go.LG
