/-
 LG, part E: literals of structs and slices; append as a step; a function's entry and end; joins.
-/
import Derived.Test.YtlcfemplcaejgaaLgD
set_option linter.unusedVariables false
set_option linter.unusedSimpArgs false
namespace Go.LG
open Go.RowKit

def lz (place : Nat → Option (Nat × Nat)) : List Value → List (Nat × Value) → Option (List Value)
 | cs, [] => some cs
 | cs, (i, v) :: ps =>
  match place i with
  | none => none
  | some (off, size) => cond (Nat.beq v.cells.toList.length size && Nat.ble (off + v.cells.toList.length) cs.length) (lz place (cF cs off v.cells.toList) ps) none
theorem f0 : ∀ (cs vs : List Value) (o : Nat), (cF vs o cs).length = vs.length
 | [], vs, o => rfl
 | c :: cs, vs, o => by simp [cF, f0 cs]
theorem foldl_set : ∀ (l : List Value) (k off : Nat) (cs : Array Value),
  (l.zipIdx k).foldl (fun cs (p : Value × Nat) => cs.setIfInBounds (off + p.2) p.1) cs = (cF cs.toList (off + k) l).toArray
 | [], k, off, cs => by simp [cF]
 | v :: l, k, off, cs => by
  simp only [List.zipIdx_cons, List.foldl_cons, cF]
  rw [foldl_set l (k + 1) off]
  simp [Nat.add_assoc]
theorem l7 (place : Nat → Option (Nat × Nat)) : ∀ (ps : List (Nat × Value)) (cs cs' : List Value), lz place cs ps = some cs' → Instr.fill place cs.toArray ps = some cs'.toArray
 | [], cs, cs', h => by
  simp only [lz, Option.some.injEq] at h
  subst h; rfl
 | (i, v) :: ps, cs, cs', h => by
  simp only [lz] at h
  simp only [Instr.fill]
  cases hp : place i with
  | none => rw [hp] at h; cases h
  | some p =>
   obtain ⟨off, size⟩ := p
   rw [hp] at h
   simp only at h ⊢
   cases hb : (Nat.beq v.cells.toList.length size && Nat.ble (off + v.cells.toList.length) cs.length) with
   | false => rw [hb] at h; cases h
   | true =>
    rw [hb] at h
    simp only [cond_true] at h
    simp only [Bool.and_eq_true] at hb
    have h1 : v.cells.size = size := Nat.eq_of_beq_eq_true hb.1
    have h2 : off + v.cells.size ≤ cs.length := Nat.le_of_ble_eq_true hb.2
    rw [if_neg (by
     simp only [List.size_toArray, Bool.or_eq_true, decide_eq_true_eq, not_or, ne_eq]
     exact ⟨fun h => h h1, by omega⟩)]
    have e : v.cells.zipIdx.foldl (fun cs (p : Value × Nat) => cs.setIfInBounds (off + p.2) p.1) cs.toArray = (cF cs off v.cells.toList).toArray := by
     rw [← Array.foldl_toList, Array.toList_zipIdx, foldl_set]
     simp
    have := l7 place ps _ _ h
    rw [← e] at this
    exact this
def pH (zs : List Value) (n : Nat) : List Value := (List.range n).map fun i => zs.getD (i % zs.length) undef
section
variable {P : Program} {ro : Option Nat} {N : Nat} {ops : Array Oper} {rest : List Oper} {Q : d6} {r : Rg} {ds : List Deferred} {w : World}
variable {d : Option Nat} {ty : TypeId} {ps : String} {af : Array Edge} {gd : Option (Nat × Bool)} {x y : Operand} {G : Gh} {L : List dv}
theorem lK {T : TypeId} {pl : List (Nat × Nat)} (h : eQ P T = some pl) : ∃ fs, P.underlying T = some (.struct fs) ∧ fs.toList.mapM (fun f => (P.info? f.type).map fun t => (f.offset, t.size)) = some pl := by
 unfold eQ at h
 split at h
 ·rename_i fs hu
  exact ⟨fs, hu, h⟩
 ·cases h
theorem mn {α β : Type} (f : α → Sem β) (g : α → Option β) (hg : ∀ a b, g a = some b → (f a).run P w = .ok b w) : ∀ (l : List α) (bs : List β), l.mapM g = some bs → (l.mapM f).run P w = .ok bs w
 | [], bs, h => by
  simp at h; subst h; rfl
 | a :: l, bs, h => by
  simp only [List.mapM_cons, Option.bind_eq_bind, Option.bind_eq_some_iff] at h
  obtain ⟨b, hb, bs', hbs, he⟩ := h
  cases he
  simp only [List.mapM_cons]
  rw [Sem.run_bind, hg a b hb, andThen_ok, Sem.run_bind, mn f g hg l bs' hbs, andThen_ok]
  rfl
theorem cf {T : TypeId} {parts : Array (Nat × Operand)} {zs cs : List Value} {pl : List (Nat × Nat)} {vs : List (Nat × Value)} (hz : eo P T = some zs) (hp : eQ P T = some pl)
  (hv : parts.toList.map (fun p => (p.1, ev N r p.2)) = vs) (hf : lz (fun i => pl[i]?) zs vs = some cs)
  (k : bE P ro N ops rest Q (r.putO d (.agg cs.toArray)) ds w) (hw : Region.wanted ⟨d, .build T parts, ty, ps, af, gd⟩ (aC ops N r) = true := by rfl) :
  bE P ro N ops (⟨d, .build T parts, ty, ps, af, gd⟩ :: rest) Q r ds w := by
 obtain ⟨z, hz, hc⟩ := fS hz
 obtain ⟨fs, hu, hpl⟩ := lK hp
 have hm : (fs.mapM (m := Sem) fun (f : Field) => (do pure (f.offset, ← sizeOf f.type) : Sem (Nat × Nat))).run P w = .ok pl.toArray w := by
  have := mn (P := P) (w := w) (fun f : Field => (do pure (f.offset, ← sizeOf f.type) : Sem (Nat × Nat))) _ (fun f b hb => by
   simp only [Option.map_eq_some_iff] at hb
   obtain ⟨t, ht, rfl⟩ := hb
   simp [Sem.run_bind, run_sizeOf ht, andThen_ok, run_pure']) fs.toList pl hpl
  rw [Array.mapM_eq_mapM_toList, map_eq_pure_bind, Sem.run_bind, this, andThen_ok]
  rfl
 have hvs : (parts.map fun p => (p.1, ev N r p.2)).toList = vs := by rw [Array.toList_map]; exact hv
 refine ck hw (by simp) ?_ k
 have hfl := l7 (fun i => pl[i]?) vs zs cs hf
 simp only [execOp, Instr.build, Sem.run_bind, ia hz, andThen_ok, run_underlying hu, hm, hc]
 have : (fun x : Nat => pl.toArray[x]?) = fun i => pl[i]? := by funext i; simp
 simp only [hvs, this, hfl]
 rfl
theorem eh (I : Hp G L w) {T e sz by_ len : Nat} {parts : Array (Nat × Operand)} {zs cs : List Value} {vs : List (Nat × Value)} (hE : gE P T = some (e, sz, by_)) (hz : eo P e = some zs) (hsz : zs.length = sz) (hlen : len * sz ≤ 16777216)
  (hv : parts.toList.map (fun p => (p.1, ev N r p.2)) = vs) (hf : lz (fun i => some (i * sz, sz)) (pH zs (len * sz)) vs = some cs)
  (k : ∀ g w', Hp G (bx g cs e :: L) w' → bE P ro N ops rest Q (r.putO d (.slice (some ⟨g, 0, none⟩) len len)) ds w') (hw : Region.wanted ⟨d, .buildSlice T len parts, ty, ps, af, gd⟩ (aC ops N r) = true := by rfl) :
  bE P ro N ops (⟨d, .buildSlice T len parts, ty, ps, af, gd⟩ :: rest) Q r ds w := by
 obtain ⟨hu, inf, hi, hs, hb⟩ := gG hE
 obtain ⟨z, hz, hc⟩ := fS hz
 have hvs : (parts.map fun p => (p.1, ev N r p.2)).toList = vs := by rw [Array.toList_map]; exact hv
 have hfl := l7 _ vs _ cs hf
 have hrow : (pH zs (len * sz)).toArray = (Array.range (len * sz)).map fun i => (zs.toArray)[i % zs.toArray.size]! := by
  apply Array.toList_inj.1
  simp [pH, List.getD_eq_getElem?_getD, Array.toList_range]
  intro i hi
  have : sz ≠ 0 := by intro h0; subst h0; simp at hi
  have hlt : i % zs.length < zs.length := Nat.mod_lt _ (by omega)
  simp [hlt]
 refine ck hw (by simp) (v := .slice (some ⟨w.heap.size, 0, none⟩) len len) (w' := w.alloc (.cells cs.toArray e)) ?_ (k _ _ (I.alloc_bx cs e))
 have hle : ¬ (len * sz > 2 ^ 24) := by omega
 have hnew : (newRow e cs.toArray).run P w = .ok ⟨w.heap.size, 0, none⟩ (w.alloc (.cells cs.toArray e)) := by simp [newRow, newObj, Sem.run_bind, Sem.run, andThen_ok]
 by_cases h0 : len * sz = 0
 ·have hz0 : pH zs (len * sz) = [] := by rw [h0]; rfl
  rw [hz0] at hfl
  have hfl' : Instr.fill (fun i => some (i * sz, sz)) ((Array.range (len * sz)).map fun i => (#[] : Array Value)[i % (#[] : Array Value).size]!) vs = some cs.toArray := by
   rw [h0, show (Array.range 0).map (fun i => (#[] : Array Value)[i % (#[] : Array Value).size]!) = #[] by simp]
   exact hfl
  simp only [execOp, Instr.buildSlice, Sem.run_bind, andThen_ok, run_underlying hu, run_sizeOf hi, hs, if_neg hle, if_pos h0, run_pure', hvs, hfl', hnew]
 ·rw [hrow] at hfl
  simp only [execOp, Instr.buildSlice, Sem.run_bind, andThen_ok, run_underlying hu, run_sizeOf hi, hs, if_neg hle, if_neg h0, run_pure', hvs, ia hz, hc, hfl, hnew]

theorem fx {α : Type} (kd : Kd α) (I : Hp G L w) (i : Nat) {t u e by_ m : Nat} {xs ys : List α} {A : Option Addr} {c : Nat} {news zs : List Value} {src : Value}
  (hE : gE P t = some (e, kd.sz, by_)) (hz : eo P e = some zs) (hzl : zs.length = kd.sz) (hx : ev N r x = .slice A xs.length c) (hy : ev N r y = src) (hk : L[i]? = some (tk (.slice A xs.length c) kd.sz e)) (ho : Own A c) (hc : xs.length ≤ c) (hD : Dat kd G A xs)
  (hS : Src P u src m kd.sz news w) (hF : Flat kd G ys news) (hm : m = ys.length) (hb : (xs.length + ys.length) * by_ ≤ 140737488355328) (hb0 : xs.length + ys.length ≤ 9223372036854775807)
  (k : ∀ A' c' G' w', G ≤ G' → Own A' c' → (xs ++ ys).length ≤ c' → Dat kd G' A' (xs ++ ys) → Hp G' (L.set i (tk (.slice A' (xs ++ ys).length c') kd.sz e)) w' →
   bE P ro N ops rest Q (r.putO d (.slice A' (xs ++ ys).length c')) ds w')
  (hw : Region.wanted ⟨d, .call { callee := .builtin .append, args := #[x, y], argTypes := #[t, u] }, ty, ps, af, gd⟩ (aC ops N r) = true := by rfl) :
  bE P ro N ops (⟨d, .call { callee := .builtin .append, args := #[x, y], argTypes := #[t, u] }, ty, ps, af, gd⟩ :: rest) Q r ds w := by
 obtain ⟨A', c', G', w', hr, h1, h2, h3, h4, h5⟩ := I.append (ty := ty) kd i hE hz hzl hk ho hc hD hS hF hm hb hb0
 refine ck hw (by simp) ?_ (k A' c' G' w' h1 h2 h3 h4 h5)
 simp [execOp, resolve, invoke, builtin, hx, hy, hr, Sem.run_bind, andThen_ok, run_pure']
theorem dU {u : TypeId} {g m c sz : Nat} {cs : List Value} {T : TypeId} (I : Hp G L w) (j : Nat) (hu : dj P u = some 1) (hk : L[j]? = some (bx g cs T)) (hl : cs.length = m * sz) : Src P u (.slice (some ⟨g, 0, none⟩) m c) m sz cs w :=
 .inl ⟨hu, .inr ⟨⟨g, 0, none⟩, c, rfl, hl, fun i v hv => by rw [add_plain, Nat.zero_add]; exact I.bx_cell j hk hv⟩⟩
theorem pA {α : Type} {kd : Kd α} {u : TypeId} {A : Option Addr} {c : Nat} {ys : List α} (I : Hp G L w) (hu : dj P u = some 1) (hD : Dat kd G A ys) : ∃ news, Src P u (.slice A ys.length c) ys.length kd.sz news w ∧ Flat kd G ys news := by
 by_cases hy : ys = []
 ·subst hy
  exact ⟨[], .inl ⟨hu, .inl ⟨rfl, rfl, A, c, rfl⟩⟩, rfl⟩
 ·obtain ⟨a, ha, h⟩ := hD hy
  subst ha
  obtain ⟨cs, hf, hcs⟩ := Dat.flat h
  exact ⟨cs, .inl ⟨hu, .inr ⟨a, c, rfl, hf.len, fun j v hv => I.cel _ _ (hcs j v hv)⟩⟩, hf⟩
theorem Hp.publish {α : Type} (kd : Kd α) {g n : Nat} {xs : List α} {cs : List Value} {T : TypeId} (I : Hp G (LG.bx g cs T :: L) w) (hF : Flat kd G xs cs) (hn : n = xs.length) :
  ∃ G', G ≤ G' ∧ Hp G' (tk (.slice (some ⟨g, 0, none⟩) n n) kd.sz T :: L) w ∧ Dat kd G' (some ⟨g, 0, none⟩) xs := by
 subst hn
 have hb := I.bx 0 rfl
 have hl := hF.len
 have I0 : Hp G (ar g (0 + xs.length * kd.sz) (0 + xs.length * kd.sz) T :: L) w := by
  have := I.write 0 (it' := ar g (0 + xs.length * kd.sz) (0 + xs.length * kd.sz) T) (g := g) rfl rfl rfl (Nat.zero_le _) (w' := w) rfl rfl rfl (fun _ _ => rfl) (fun _ _ _ => rfl) hb ⟨_, rfl, by simp [hl]⟩
  exact this
 obtain ⟨I1, hG⟩ := I0.add g (fun i => cs[i]?) (fun i v hv => cell_of_block hb (by simpa using hv)) (fun it hit hg i hi => by
  rcases List.mem_cons.1 hit with rfl | hit
  ·simp only [ar] at hi
   exact List.getElem?_eq_none (by rw [hl]; omega)
  ·exact absurd hg ((List.pairwise_cons.1 I.sepL).1 it hit g rfl))
 refine ⟨_, hG, I1, Dat.of_cells (hF.mono hG) fun j v hv => ?_⟩
 rw [add_plain, Nat.zero_add]
 exact Gh.add_cel hv

def nu (vs : List Value) : Rg := fun t => (vs[t]?).getD undef
def mS (N : Nat) (r : Rg) (w : World) (P : Program) : List ResultVar → List Value → Prop
 | [], vs => vs = []
 | .tmp t :: rs, vs => ∃ v vs', vs = v :: vs' ∧ ev N r (.tmp t) = v ∧ mS N r w P rs vs'
 | .cell a T :: rs, vs => ∃ v vs' ad, vs = v :: vs' ∧ ev N r (.tmp a) = .pointer (some ad) ∧ (loadVar T ad).run P w = .ok v w ∧ mS N r w P rs vs'
def m5 : List Value → Value
 | [v] => v
 | vs => .tuple vs.toArray
def rf (P : Program) (N : Nat) (fn : Func) (R : Ending → World → Prop) : d6 := fun e r ds w =>
 (e = .normal ∨ e = .ret) ∧ ds = [] ∧ ∃ vs, mS N r w P fn.results.toList vs ∧ R (.returned (m5 vs)) w
theorem gO {N : Nat} {r : Rg} {a : Act} (ha : Agree N r a) {f : ResultVar → Sem Value} (f1 : ∀ t, f (.tmp t) = pure (a.tmps.getD t undef)) (f2 : ∀ ad t, f (.cell ad t) = (do loadVar t (← asAddr (a.tmps.getD ad undef)))) :
  ∀ (rs : List ResultVar) (vs : List Value), mS N r w P rs vs → (rs.mapM f).run P w = .ok vs w
 | [], vs, h => by cases h; rfl
 | .tmp t :: rs, vs, ⟨v, vs', hv, he, h⟩ => by
  subst hv
  have e : a.tmps.getD t undef = v := by have := congrFun ha.ev (.tmp t); rw [he] at this; exact this
  simp only [List.mapM_cons, f1, Sem.run_bind, e, run_pure', andThen_ok, gO ha f1 f2 rs vs' h]
 | .cell ad t :: rs, vs, ⟨v, vs', p, hv, he, hl, h⟩ => by
  subst hv
  have e : a.tmps.getD ad undef = .pointer (some p) := by have := congrFun ha.ev (.tmp ad); rw [he] at this; exact this
  have e2 : (asAddr (.pointer (some p))).run P w = .ok p w := rfl
  simp only [List.mapM_cons, f2, Sem.run_bind, e, e2, run_pure', andThen_ok, hl, gO ha f1 f2 rs vs' h]
theorem lV {N : Nat} {r : Rg} {a : Act} {fn : Func} (hr' : Agree N r a) {vs' : List Value} (hres : mS N r w P fn.results.toList vs') : (results fn a.tmps).run P w = .ok (m5 vs') w := by
 unfold results
 rw [Sem.run_bind, Array.mapM_eq_mapM_toList, map_eq_pure_bind, Sem.run_bind]
 rw [gO (P := P) (w := w) hr' (fun _ => rfl) (fun _ _ => rfl) fn.results.toList vs' hres]
 simp only [andThen_ok, run_pure']
 congr 1
 match vs' with
 | [] => rfl
 | [v] => rfl
 | v :: u :: l => simp [m5]
theorem aw {f : FuncId} {fn : Func} {c : Code} {vs : List Value} {R : Ending → World → Prop} (hf : P.funcs[f]? = some fn) (hb : fn.body = some c) (hN : fn.ntmps = N) (hle : vs.length ≤ N)
  (h : fZ P none N c (rf P N fn R) (nu vs) [] w) : Calls P f vs.toArray w R := by
 refine mi none (n := 0) (callsIn_of_wp hf hb trivial ?_ rfl)
 subst hN
 refine wpIn_mono (h _ ⟨by simp; omega, fun t ht => ?_⟩ rfl) fun e a' w' ⟨r', hr', he, hd, vs', hres, hR⟩ => ?_
 ·simp only [nu]
  rw [Array.getElem?_append]
  split
  ·rename_i hlt
   have : t < vs.length := by simpa using hlt
   simp [this]
  ·rename_i hlt
   have hge : vs.length ≤ t := by simpa using hlt
   rw [List.getElem?_eq_none hge, Array.getElem?_replicate, if_pos (by simp; omega)]
   rfl
 ·have hrun : (results fn a'.tmps).run P w' = .ok (m5 vs') w' := by
   unfold results
   rw [Sem.run_bind, Array.mapM_eq_mapM_toList, map_eq_pure_bind, Sem.run_bind]
   rw [gO (P := P) (w := w') hr' (fun _ => rfl) (fun _ _ => rfl) fn.results.toList vs' hres]
   simp only [andThen_ok, run_pure']
   congr 1
   match vs' with
   | [] => rfl
   | [v] => rfl
   | v :: u :: l => simp [m5]
  rcases he with rfl | rfl
  ·exact ⟨hd, _, hrun, hR⟩
  ·exact ⟨hd, _, hrun, hR⟩
theorem gA {T : TypeId} {n g o : Nat} {vs cs : List Value} {U : TypeId} (I : Hp G L w) (i : Nat) (hT : er P T = some (true, n)) (hk : L[i]? = some (bx g vs U)) (hcs : (vs.drop o).take n = cs) (hl : cs.length = n) :
  (loadVar T ⟨g, o, none⟩).run P w = .ok (.agg cs.toArray) w := by
 subst hl
 have : ∀ j v, cs[j]? = some v → w.cell? ((⟨g, o, none⟩ : Addr).add j) = some v := fun j v hj => by
  rw [← hcs] at hj
  rw [add_plain]
  refine I.bx_cell i hk ?_
  rw [List.getElem?_take] at hj
  split at hj
  ·rwa [List.getElem?_drop] at hj
  ·cases hj
 simp [loadVar, Sem.run_bind, ic hT, i7 hT, run_loadCells_list w ⟨g, o, none⟩ cs this, andThen_ok, run_pure']
end
section
variable {P : Program} {ro : Option Nat} {N : Nat} {Q : d6} {r : Rg} {ds : List Deferred} {w : World} {c : Operand} {x y : Code}
theorem oY (hc : ev N r c = .bool true) (h : fZ P ro N x Q r ds w) : fZ P ro N (.cond c x y) Q r ds w := mh true hc h
theorem nP (hc : ev N r c = .bool false) (h : fZ P ro N y Q r ds w) : fZ P ro N (.cond c x y) Q r ds w := mh false hc h
theorem kF {p : Prop} [Decidable p] (h : p) : (Value.bool (decide p)) = .bool true := by rw [decide_eq_true h]
theorem nA {p : Prop} [Decidable p] (h : ¬ p) : (Value.bool (decide p)) = .bool false := by rw [decide_eq_false h]
end
end Go.LG
