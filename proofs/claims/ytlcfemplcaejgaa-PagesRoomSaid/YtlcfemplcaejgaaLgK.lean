/-
 LG, part K: a range over a function. The function that is ranged over is told once for every yield ('Yl'); the statement's rounds are told by what they do to the blocks.
-/
import Derived.Test.YtlcfemplcaejgaaLgJ
import Derived.RangeFuncRecord
import Derived.RangeFuncLeaves
set_option linter.unusedVariables false
set_option linter.unusedSimpArgs false
namespace Go.LG
open Go.RowKit
def qx (P : Program) (l : Nat) (vs : Array Value) (w : World) (R : Ending → World → Prop) : Prop :=
 ∃ f tmps assign body, (Instr.yield l vs).run P w = .ok (.round l f tmps assign body) w ∧ ∀ ro, RoundIn (FW ro) 0 P l f tmps assign body w R
structure Yl {σ α : Type} (P : Program) (φ : σ → α → Option (σ × Bool)) (enc : α → Gh → List Value → Prop) (St : σ → Gh → List dv → Prop) (l : Nat) : Prop where
 mono : ∀ {s : σ} {G G' : Gh} {T : List dv}, G ≤ G' → St s G T → St s G' T
 call : ∀ {s s' : σ} {x : α} {b : Bool} {G : Gh} {M T : List dv} {w : World} {vs : List Value}, St s G T → enc x G vs → Hp G (M ++ T) w → φ s x = some (s', b) →
  qx P l vs.toArray w fun e w' => ∃ G' T', G ≤ G' ∧ St s' G' T' ∧ Hp G' (M ++ T') w' ∧ e = .returned (.bool b)
section
variable {P : Program} {ro : Option Nat} {N : Nat} {ops : Array Oper} {rest : List Oper} {Q : d6} {r : Rg} {ds : List Deferred} {w : World}
variable {d : Option Nat} {ty : TypeId} {ps : String} {af : Array Edge} {gd : Option (Nat × Bool)} {G : Gh} {L : List dv}
theorem qH {σ α : Type} {φ : σ → α → Option (σ × Bool)} {enc : α → Gh → List Value → Prop} {St : σ → Gh → List dv → Prop} {l : Nat} (hy : Yl P φ enc St l) {xs : Array Operand} {tt : Array TypeId} {c : Operand} {vs : List Value}
  {s s' : σ} {x : α} {b : Bool} {T : List dv} (M : List dv) (I : Hp G (M ++ T) w) (hS : St s G T) (hc : ev N r c = .func (.yield l) #[] #[]) (hargs : xs.toList.map (ev N r) = vs) (he : enc x G vs) (hx : φ s x = some (s', b))
  (k : ∀ w' G' T', G ≤ G' → St s' G' T' → Hp G' (M ++ T') w' → bE P ro N ops rest Q (r.putO d (.bool b)) ds w')
  (hw : Region.wanted ⟨d, .call { callee := .value c, args := xs, argTypes := tt }, ty, ps, af, gd⟩ (aC ops N r) = true := by rfl) :
  bE P ro N ops (⟨d, .call { callee := .value c, args := xs, argTypes := tt }, ty, ps, af, gd⟩ :: rest) Q r ds w := by
 obtain ⟨f, tmps, assign, body, hrun, hround⟩ := hy.call hS he I hx
 have e : xs.map (ev N r) = vs.toArray := by subst hargs; apply Array.toList_inj.1; simp
 have hex : (execOp (ev N r) (⟨d, .call { callee := .value c, args := xs, argTypes := tt }, ty, ps, af, gd⟩ : Oper)).run P w = .ok (.round l f tmps assign body) w := by
  simp [aB, run_pure', aL, az, andThen_ok, Sem.run_bind, execOp, resolve, Deferred.ofValue, invoke, hc, e, hrun]
 simp only [bE, if_pos hw, n2, Oper.semAt_eq _ _ _ (show ∀ c', (⟨d, .call { callee := .value c, args := xs, argTypes := tt }, ty, ps, af, gd⟩ : Oper).op ≠ .defer c' by simp), hex]
 exact (hround ro).mono fun e' w' ⟨G', T', hG, hS', I', he'⟩ => ⟨_, he', k w' G' T' hG hS' I'⟩
def p9 (P : Program) (l : Nat) (R : Ending → World → Prop) : d6 := fun e _ _ w => roundPost P l R e { tmps := #[], defers := [] } w
theorem mw {l : Nat} {f : FuncId} {tmps : Array Value} {assign body : Code} {R : Ending → World → Prop} (ha : Agree N r { tmps := tmps, defers := [] })
  (h : fZ P (some l) N assign (fun e r' ds' w1 => e = .normal ∧ ds' = [] ∧ ∃ w2, (Instr.beginRound l).run P w1 = .ok () w2 ∧ fZ P (some l) N body (p9 P l R) r' [] w2) r [] w) (ro : Option Nat) :
  RoundIn (FW ro) 0 P l f tmps assign body w R := by
 refine roundIn_of_wpIn trivial ?_
 have h1 := h _ ha rfl
 refine wpIn_mono (F := FW (some l)) h1 fun e a' w' ⟨r', hr', he, hd, w2, hb, hbody⟩ => ?_
 subst he
 refine ⟨w2, hb, ?_⟩
 refine wpIn_mono (F := FW (some l)) (hbody a' hr' hd) fun e a'' w'' ⟨r'', hr'', hq⟩ => ?_
 cases e <;> exact hq
def jp (st : LoopState) (J : Option Code) (fn : FuncId) (tmps : Array Value) (pp : Array Tmp) (assign body : Code) (gd : Nat) : Obj :=
 .loop { state := st, pending := J, fn := fn, tmps := tmps, params := pp, assign := assign, body := body, defers := gd }
section
variable {fn : FuncId} {tmps : Array Value} {pp : Array Tmp} {assign body : Code} {gdd l : Nat} {st : LoopState} {J : Option Code}
theorem Hp.begin (I : Hp G L w) (i : Nat) (hk : L[i]? = some (ob l (jp .ready J fn tmps pp assign body gdd))) :
  ∃ w2, (Instr.beginRound l).run P w = .ok () w2 ∧ Hp G (L.set i (ob l (jp .busy J fn tmps pp assign body gdd))) w2 := by
 obtain ⟨o, ho, rfl⟩ := I.at i hk rfl
 exact ⟨_, run_beginRound ho rfl, I.turn i hk⟩
theorem Hp.endR (I : Hp G L w) (i : Nat) (hk : L[i]? = some (ob l (jp st J fn tmps pp assign body gdd))) (J' : Option Code) :
  ∃ w2, (Instr.endRound l J').run P w = .ok (.bool J'.isNone) w2 ∧ Hp G (L.set i (ob l (jp (if J'.isNone then .ready else .done) J' fn tmps pp assign body gdd))) w2 := by
 obtain ⟨o, ho, rfl⟩ := I.at i hk rfl
 exact ⟨_, run_endRound J' ho, I.turn i hk⟩
theorem Hp.endL (I : Hp G (ob l (jp st J fn tmps pp assign body gdd) :: L) w) (hb : st ≠ .busy) : ∃ w2, (Instr.endLoop l).run P w = .ok J w2 ∧ Hp G L w2 := by
 obtain ⟨o, ho, rfl⟩ := I.at 0 rfl rfl
 exact ⟨_, run_endLoop ho hb, (I.turn 0 rfl (o' := jp .exhausted J fn tmps pp assign body gdd)).drop⟩
end
abbrev mark (g : Nat) : Deferred := { target := .collected g, args := #[] }
def pZ (Q : d6) (r : Rg) (ds : List Deferred) (gl : Nat) (fn : FuncId) (tmps : Array Value) (pp : Array Tmp) (assign body : Code) (gdd : Nat) : Ending → World → Prop := fun e w =>
 ∃ v, e = .returned v ∧ ∃ st J G' L', st ≠ LoopState.busy ∧ Hp G' (ob gl (jp st J fn tmps pp assign body gdd) :: L') w ∧ ∀ w4, Hp G' L' w4 → match J with
  | none => Q .normal r ds w4
  | some .ret => Q .ret r ds w4
  | some (.exit id) => Q (.exit id) r ds w4
  | some _ => False
theorem nT {g : Operand} {pp : Array Tmp} {assign body : Code} {f : FuncId} {first cap : Array Value} (I : Hp G L w) (hb : bl P f = true) (hg : ev N r g = .func (.func f) first cap)
  (h : ∀ fn tmps gl gdd w1, Agree N r { tmps := tmps, defers := [] } → Hp G (ob gl (jp .ready none fn tmps pp assign body gdd) :: ob gdd (.deferred (some [])) :: L) w1 →
   Calls P f (first.toList ++ [Value.func (.yield gl) #[] #[]] ++ cap.toList).toArray w1 (pZ Q r (mark gdd :: ds) gl fn tmps pp assign body gdd)) :
  fZ P none N (.rangeFunc g pp assign body) Q r ds w := by
 intro a ha hd
 refine wpIn_rangeFunc fun fn _ => ?_
 have I1 := (I.alloc_ob (.deferred (some []))).alloc_ob (jp .ready none fn a.tmps pp assign body w.heap.size)
 have hsz : (w.alloc (.deferred (some []))).heap.size = w.heap.size + 1 := World.size_alloc _ _
 rw [hsz] at I1
 have hh := h fn a.tmps (w.heap.size + 1) w.heap.size _ ⟨ha.1, ha.2⟩ I1
 generalize hw1 : (w.alloc (.deferred (some []))).alloc (jp .ready none fn a.tmps pp assign body w.heap.size) = w1 at hh I1
 refine ⟨w.heap.size + 1, [mark w.heap.size], w1, { target := .fn (.func f) cap, args := first ++ #[.func (.yield (w.heap.size + 1)) #[] #[]] }, w1, f, (first.toList ++ [Value.func (.yield (w.heap.size + 1)) #[] #[]] ++ cap.toList).toArray, w1, hw1 ▸ run_enterLoop_outer fn a.tmps pp assign body, ?_, fun _ _ => trivial, ?_, fun hh => by simp [FW, Fence.wide] at hh, ?_⟩
 ·have e : a.eval g = .func (.func f) first cap := by rw [ha.ev]; exact hg
  have e2 : ∀ v, a.eval (.const v) = v := fun _ => rfl
  simp [resolve, rangeCall, e, e2, Deferred.ofValue, run_pure']
 ·simp only [invoke]
  rw [iL hb]
  congr 2
  apply Array.toList_inj.1
  simp
 ·refine (j6 hh).mono fun e w3 ⟨v, he, st, J, G', L', hst, I3, hq⟩ => ?_
  subst he
  obtain ⟨w4, hr4, I4⟩ := I3.endL hst (P := P)
  refine ⟨J, w4, hr4, ?_⟩
  have hq4 := hq w4 I4
  have hA : Agree N r { a with defers := [mark w.heap.size] ++ a.defers } := ⟨ha.1, ha.2⟩
  have hD : ([mark w.heap.size] ++ a.defers) = mark w.heap.size :: ds := by rw [hd]; rfl
  cases J with
  | none => exact ⟨r, hA, by rw [hD]; exact hq4⟩
  | some c =>
   cases c with
   | ret => exact wpIn_ret ⟨r, hA, by rw [hD]; exact hq4⟩
   | exit id => exact wpIn_exit ⟨r, hA, by rw [hD]; exact hq4⟩
   | _ => exact hq4.elim
def retM (P : Program) (N : Nat) (fn : Func) (R : Ending → World → Prop) : d6 := fun e r ds w =>
 (e = .normal ∨ e = .ret) ∧ ∃ (gs : List Nat) (G' : Gh) (L' : List dv), ds = gs.map mark ∧ Hp G' (gs.map (fun g => ob g (.deferred (some []))) ++ L') w ∧
  ∀ w', Hp G' L' w' → ∃ vs, mS N r w' P fn.results.toList vs ∧ R (.returned (m5 vs)) w'
theorem jZ {fn : Func} {tmps : Array Value} {R : Ending → World → Prop} {G' : Gh} {L' : List dv} : ∀ (gs : List Nat) (w : World), Hp G' (gs.map (fun g => ob g (.deferred (some []))) ++ L') w →
  (∀ w', Hp G' L' w' → ∃ v, (results fn tmps).run P w' = .ok v w' ∧ R (.returned v) w') → LeavesInM (FW none) 0 P fn tmps R (gs.map mark) .returning w
 | [], w, I, h => h w I
 | g :: gs, w, I, h => by
  obtain ⟨o, ho, rfl⟩ := I.at 0 rfl rfl
  refine ⟨by simp, .inl ⟨g, _, rfl, run_takeDeferred ho, ?_⟩⟩
  exact jZ gs _ ((I.turn 0 rfl (o' := .deferred none)).drop) h
theorem ln {f : FuncId} {fn : Func} {c : Code} {vs : List Value} {R : Ending → World → Prop} (hf : P.funcs[f]? = some fn) (hb : fn.body = some c) (hN : fn.ntmps = N) (hle : vs.length ≤ N)
  (h : fZ P none N c (retM P N fn R) (nu vs) [] w) : Calls P f vs.toArray w R := by
 refine mi none (n := 0) (callsIn_of_wp_marks hf hb trivial ?_ rfl)
 subst hN
 refine wpIn_mono (h _ ⟨by simp; omega, fun t ht => ?_⟩ rfl) fun e a' w' ⟨r', hr', he, gs, G', L', hd, I, hres⟩ => ?_
 ·simp only [nu]
  rw [Array.getElem?_append]
  split
  ·rename_i hlt
   have : t < vs.length := by simpa using hlt
   simp [this]
  ·rename_i hlt
   have hge : vs.length ≤ t := by simpa using hlt
   rw [List.getElem?_eq_none hge, Array.getElem?_replicate, if_pos (by simp; omega)]
   rfl
 ·have key : LeavesInM (FW none) 0 P fn a'.tmps R a'.defers .returning w' := by
   rw [hd]
   refine jZ gs w' I fun w'' I'' => ?_
   obtain ⟨vs', hvs, hR⟩ := hres w'' I''
   exact ⟨_, lV hr' hvs, hR⟩
  rcases he with rfl | rfl
  ·exact key
  ·exact key
abbrev pX (g : Nat) : dv := ob g (.deferred (some []))
def left (jmp : List Code) (jo : Option Nat) (e : Exit) : Prop :=
 match jo with
 | none => e = .normal
 | some j => (jmp[j]? = some .ret ∧ e = .ret) ∨ ∃ id, jmp[j]? = some (.exit id) ∧ e = .exit id
def og : List (Nat × Value) → Rg → Rg
 | [], r => r
 | (d, v) :: l, r => og l (r.put d v)
theorem lv {N : Nat} : ∀ (l : List (Nat × Value)) {r : Rg} {tmps : Array Value}, Agree N r { tmps := tmps, defers := [] } → Agree N (og l r) { tmps := l.foldl (fun t x => t.setIfInBounds x.1 x.2) tmps, defers := [] }
 | [], _, _, h => h
 | (d, v) :: l, r, tmps, h => lv l (h.put (some d) v)
theorem oR {U α : Type} {fn : FuncId} {tmps : Array Value} {pp : List Tmp} {assign body : Code} {gdd l : Nat} {enc : α → Gh → List Value → Prop} {G0 : Gh} {L0 : List dv} {w0 : World} (hrec : Hp G0 (ob l (jp .ready none fn tmps pp.toArray assign body gdd) :: L0) w0)
  (φ : U → α → Option (U × Option Nat)) (jmp : List Code) (S : U → Gh → List dv → Prop)
  (hA : Agree N r { tmps := tmps, defers := [] }) (hlen : ∀ x G vs, enc x G vs → vs.length = pp.length)
  (hmono : ∀ {u : U} {G G' : Gh} {K : List dv}, G ≤ G' → S u G K → S u G' K)
  (hround : ∀ (Rd Bs : dv) {u u' : U} {x : α} {jo : Option Nat} {G : Gh} {K M : List dv} {w : World} {vs : List Value}, S u G K → enc x G vs → φ u x = some (u', jo) → Hp G (Rd :: (K ++ M)) w →
   fZ P (some l) N assign (fun e r' ds' w1 => e = .normal ∧ ds' = [] ∧ ∃ G1 K1, G ≤ G1 ∧ Hp G1 (Rd :: K1) w1 ∧ ∀ w2, Hp G1 (Bs :: K1) w2 →
    fZ P (some l) N body (fun e _ _ w3 => left jmp jo e ∧ ∃ G' K', G ≤ G' ∧ S u' G' K' ∧ Hp G' (Bs :: (K' ++ M)) w3) r' [] w2) (og (pp.zip vs) r) [] w) :
  Yl P (n3 φ) enc (fun s G T => ∃ K, T = ob l (jp (if s.2.isNone then .ready else .done) (s.2.bind (jmp[·]?)) fn tmps pp.toArray assign body gdd) :: K ∧ S s.1 G K) l := {
 mono := fun hG ⟨K, hT, hS⟩ => ⟨K, hT, hmono hG hS⟩
 call := fun {s s' x b G M T w vs} ⟨K, hT, hS⟩ he I hx => by
  subst hT
  obtain ⟨u, jo0⟩ := s
  unfold n3 at hx
  cases jo0 with
  | some j => cases hx
  | none =>
   simp only at hx hS I
   cases hφ : φ u x with
   | none => rw [hφ] at hx; cases hx
   | some y =>
    rw [hφ] at hx
    obtain ⟨u', jo⟩ := y
    have hx' : ((u', jo), jo.isNone) = (s', b) := Option.some.inj hx
    cases hx'
    have I0 : Hp G (ob l (jp .ready none fn tmps pp.toArray assign body gdd) :: (K ++ M)) w := I.perm (by
     refine List.perm_append_comm.trans ?_
     exact List.Perm.refl _)
    obtain ⟨o, ho, rfl⟩ := I0.at 0 rfl rfl
    refine ⟨fn, _, assign, body, run_yield ho (by simpa [jp] using hlen x G vs he), fun ro => ?_⟩
    have hz : (pp.toArray.zip vs.toArray).foldl (fun tmps (t, a) => tmps.setIfInBounds t a) tmps = (pp.zip vs).foldl (fun t x => t.setIfInBounds x.1 x.2) tmps := by
     rw [List.zip_toArray, List.foldl_toArray]
    have hA' := lv (pp.zip vs) hA
    rw [← hz] at hA'
    refine mw hA' ?_ ro
    refine aP (hround (ob l (jp .ready none fn tmps pp.toArray assign body gdd)) (ob l (jp .busy none fn tmps pp.toArray assign body gdd)) hS he hφ I0) fun e r' ds' w1 ⟨h1, h2, G1, K1, hG1, I1, hb⟩ => ⟨h1, h2, ?_⟩
    obtain ⟨w2, hr2, I2⟩ := I1.begin 0 rfl (P := P)
    refine ⟨w2, hr2, ?_⟩
    refine aP (hb w2 I2) fun e _ _ w3 ⟨hle, G', K', hG', hS', I3⟩ => ?_
    have fin : ∀ J, J = jo.bind (jmp[·]?) → J.isNone = jo.isNone → ∃ v w', (Instr.endRound l J).run P w3 = .ok v w' ∧ ∃ G'' T', G ≤ G'' ∧ (∃ K, T' = ob l (jp (if jo.isNone then .ready else .done) (jo.bind (jmp[·]?)) fn tmps pp.toArray assign body gdd) :: K ∧ S u' G'' K) ∧ Hp G'' (M ++ T') w' ∧ Ending.returned v = .returned (.bool jo.isNone) := by
     intro J hJ hN
     obtain ⟨w4, hr4, I4⟩ := I3.endR 0 rfl J (P := P)
     refine ⟨_, w4, hr4, G', _, hG', ⟨K', rfl, hS'⟩, ?_, by rw [hN]⟩
     rw [hN, hJ] at I4
     exact I4.perm (List.perm_append_comm (l₁ := ob l _ :: K'))
    cases jo with
    | none =>
     cases hle
     exact fin none rfl rfl
    | some j =>
     rcases hle with ⟨hj, rfl⟩ | ⟨id, hj, rfl⟩
     ·exact fin (some .ret) (by simp [hj]) rfl
     ·exact fin (some (.exit id)) (by simp [hj]) rfl }
theorem Hp.marks {K : List dv} {D : List Nat} (h : Hp G (K ++ (List.map pX D ++ L)) w) : Hp G (List.map pX D ++ (K ++ L)) w :=
 h.perm (by rw [← List.append_assoc, ← List.append_assoc]; exact List.perm_append_comm.append_right L)
theorem Hp.sink {A K T : List dv} {R d : dv} (h : Hp G (R :: d :: (A ++ (K ++ T))) w) : Hp G (A ++ (R :: (K ++ (d :: T)))) w :=
 h.perm (by
  refine List.Perm.trans ?_ List.perm_middle.symm
  refine List.Perm.cons _ ?_
  rw [← List.append_assoc, ← List.append_assoc]
  exact List.perm_middle.symm)
def encS {α : Type} (k : Kd α) : α → Gh → List Value → Prop := fun x G vs => ∃ cs, vs = [.agg cs.toArray] ∧ k.K G x cs
theorem pe {α : Type} {k : Kd α} {x : α} {G : Gh} {vs : List Value} (h : encS k x G vs) : vs.length = 1 := by obtain ⟨v, rfl, _⟩ := h; rfl
end
end Go.LG
