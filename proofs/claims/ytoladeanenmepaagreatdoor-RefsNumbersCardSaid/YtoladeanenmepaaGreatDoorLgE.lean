/-
 LG, part E: literals of structs and slices; append as a step; a function's entry and end; joins.
-/
import Derived.Test.YtoladeanenmepaaGreatDoorLgD
set_option linter.unusedVariables false
set_option linter.unusedSimpArgs false
namespace Go.LG
open Go.RowKit

def fillL (place : Nat → Option (Nat × Nat)) : List Value → List (Nat × Value) → Option (List Value)
 | cs, [] => some cs
 | cs, (i, v) :: ps =>
  match place i with
  | none => none
  | some (off, size) => cond (Nat.beq v.cells.toList.length size && Nat.ble (off + v.cells.toList.length) cs.length) (fillL place (setAll cs off v.cells.toList) ps) none
theorem setAll_length : ∀ (cs vs : List Value) (o : Nat), (setAll vs o cs).length = vs.length
 | [], vs, o => rfl
 | c :: cs, vs, o => by simp [setAll, setAll_length cs]
theorem foldl_set : ∀ (l : List Value) (k off : Nat) (cs : Array Value),
  (l.zipIdx k).foldl (fun cs (p : Value × Nat) => cs.setIfInBounds (off + p.2) p.1) cs = (setAll cs.toList (off + k) l).toArray
 | [], k, off, cs => by simp [setAll]
 | v :: l, k, off, cs => by
  simp only [List.zipIdx_cons, List.foldl_cons, setAll]
  rw [foldl_set l (k + 1) off]
  simp [Nat.add_assoc]
theorem fill_eq (place : Nat → Option (Nat × Nat)) : ∀ (ps : List (Nat × Value)) (cs cs' : List Value), fillL place cs ps = some cs' → Instr.fill place cs.toArray ps = some cs'.toArray
 | [], cs, cs', h => by
  simp only [fillL, Option.some.injEq] at h
  subst h; rfl
 | (i, v) :: ps, cs, cs', h => by
  simp only [fillL] at h
  simp only [Instr.fill]
  cases hp : place i with
  | none => rw [hp] at h; cases h
  | some p =>
   obtain ⟨off, size⟩ := p
   rw [hp] at h
   simp only at h ⊢
   cases hb : (Nat.beq v.cells.toList.length size && Nat.ble (off + v.cells.toList.length) cs.length) with
   | false => rw [hb] at h; cases h
   | true =>
    rw [hb] at h
    simp only [cond_true] at h
    simp only [Bool.and_eq_true] at hb
    have h1 : v.cells.size = size := Nat.eq_of_beq_eq_true hb.1
    have h2 : off + v.cells.size ≤ cs.length := Nat.le_of_ble_eq_true hb.2
    rw [if_neg (by
     simp only [List.size_toArray, Bool.or_eq_true, decide_eq_true_eq, not_or, ne_eq]
     exact ⟨fun h => h h1, by omega⟩)]
    have e : v.cells.zipIdx.foldl (fun cs (p : Value × Nat) => cs.setIfInBounds (off + p.2) p.1) cs.toArray = (setAll cs off v.cells.toList).toArray := by
     rw [← Array.foldl_toList, Array.toList_zipIdx, foldl_set]
     simp
    have := fill_eq place ps _ _ h
    rw [← e] at this
    exact this
def rowZ (zs : List Value) (n : Nat) : List Value := (List.range n).map fun i => zs.getD (i % zs.length) undef
section
variable {P : Program} {ro : Option Nat} {N : Nat} {ops : Array Oper} {rest : List Oper} {Q : Post} {r : Rg} {ds : List Deferred} {w : World}
variable {d : Option Nat} {ty : TypeId} {ps : String} {af : Array Edge} {gd : Option (Nat × Bool)} {x y : Operand} {G : Gh} {L : List Itm}
theorem placesB_open {T : TypeId} {pl : List (Nat × Nat)} (h : placesB P T = some pl) : ∃ fs, P.underlying T = some (.struct fs) ∧ fs.toList.mapM (fun f => (P.info? f.type).map fun t => (f.offset, t.size)) = some pl := by
 unfold placesB at h
 split at h
 ·rename_i fs hu
  exact ⟨fs, hu, h⟩
 ·cases h
theorem run_mapM {α β : Type} (f : α → Sem β) (g : α → Option β) (hg : ∀ a b, g a = some b → (f a).run P w = .ok b w) : ∀ (l : List α) (bs : List β), l.mapM g = some bs → (l.mapM f).run P w = .ok bs w
 | [], bs, h => by
  simp at h; subst h; rfl
 | a :: l, bs, h => by
  simp only [List.mapM_cons, Option.bind_eq_bind, Option.bind_eq_some_iff] at h
  obtain ⟨b, hb, bs', hbs, he⟩ := h
  cases he
  simp only [List.mapM_cons]
  rw [Sem.run_bind, hg a b hb, andThen_ok, Sem.run_bind, run_mapM f g hg l bs' hbs, andThen_ok]
  rfl
theorem q_build {T : TypeId} {parts : Array (Nat × Operand)} {zs cs : List Value} {pl : List (Nat × Nat)} {vs : List (Nat × Value)} (hz : zeroB P T = some zs) (hp : placesB P T = some pl)
  (hv : parts.toList.map (fun p => (p.1, ev N r p.2)) = vs) (hf : fillL (fun i => pl[i]?) zs vs = some cs)
  (k : wpq P ro N ops rest Q (r.putO d (.agg cs.toArray)) ds w) (hw : Region.wanted ⟨d, .build T parts, ty, ps, af, gd⟩ (yieldR ops N r) = true := by rfl) :
  wpq P ro N ops (⟨d, .build T parts, ty, ps, af, gd⟩ :: rest) Q r ds w := by
 obtain ⟨z, hz, hc⟩ := zeroB_open hz
 obtain ⟨fs, hu, hpl⟩ := placesB_open hp
 have hm : (fs.mapM (m := Sem) fun (f : Field) => (do pure (f.offset, ← sizeOf f.type) : Sem (Nat × Nat))).run P w = .ok pl.toArray w := by
  have := run_mapM (P := P) (w := w) (fun f : Field => (do pure (f.offset, ← sizeOf f.type) : Sem (Nat × Nat))) _ (fun f b hb => by
   simp only [Option.map_eq_some_iff] at hb
   obtain ⟨t, ht, rfl⟩ := hb
   simp [Sem.run_bind, run_sizeOf ht, andThen_ok, run_pure']) fs.toList pl hpl
  rw [Array.mapM_eq_mapM_toList, map_eq_pure_bind, Sem.run_bind, this, andThen_ok]
  rfl
 have hvs : (parts.map fun p => (p.1, ev N r p.2)).toList = vs := by rw [Array.toList_map]; exact hv
 refine wpq_v hw (by simp) ?_ k
 have hfl := fill_eq (fun i => pl[i]?) vs zs cs hf
 simp only [execOp, Instr.build, Sem.run_bind, run_zeroValue hz, andThen_ok, run_underlying hu, hm, hc]
 have : (fun x : Nat => pl.toArray[x]?) = fun i => pl[i]? := by funext i; simp
 simp only [hvs, this, hfl]
 rfl
theorem q_bs (I : Hp G L w) {T e sz by_ len : Nat} {parts : Array (Nat × Operand)} {zs cs : List Value} {vs : List (Nat × Value)} (hE : elemB P T = some (e, sz, by_)) (hz : zeroB P e = some zs) (hsz : zs.length = sz) (hlen : len * sz ≤ 16777216)
  (hv : parts.toList.map (fun p => (p.1, ev N r p.2)) = vs) (hf : fillL (fun i => some (i * sz, sz)) (rowZ zs (len * sz)) vs = some cs)
  (k : ∀ g w', Hp G (bx g cs e :: L) w' → wpq P ro N ops rest Q (r.putO d (.slice (some ⟨g, 0, none⟩) len len)) ds w') (hw : Region.wanted ⟨d, .buildSlice T len parts, ty, ps, af, gd⟩ (yieldR ops N r) = true := by rfl) :
  wpq P ro N ops (⟨d, .buildSlice T len parts, ty, ps, af, gd⟩ :: rest) Q r ds w := by
 obtain ⟨hu, inf, hi, hs, hb⟩ := elemB_open hE
 obtain ⟨z, hz, hc⟩ := zeroB_open hz
 have hvs : (parts.map fun p => (p.1, ev N r p.2)).toList = vs := by rw [Array.toList_map]; exact hv
 have hfl := fill_eq _ vs _ cs hf
 have hrow : (rowZ zs (len * sz)).toArray = (Array.range (len * sz)).map fun i => (zs.toArray)[i % zs.toArray.size]! := by
  apply Array.toList_inj.1
  simp [rowZ, List.getD_eq_getElem?_getD, Array.toList_range]
  intro i hi
  have : sz ≠ 0 := by intro h0; subst h0; simp at hi
  have hlt : i % zs.length < zs.length := Nat.mod_lt _ (by omega)
  simp [hlt]
 refine wpq_v hw (by simp) (v := .slice (some ⟨w.heap.size, 0, none⟩) len len) (w' := w.alloc (.cells cs.toArray e)) ?_ (k _ _ (I.alloc_bx cs e))
 have hle : ¬ (len * sz > 2 ^ 24) := by omega
 have hnew : (newRow e cs.toArray).run P w = .ok ⟨w.heap.size, 0, none⟩ (w.alloc (.cells cs.toArray e)) := by simp [newRow, newObj, Sem.run_bind, Sem.run, andThen_ok]
 by_cases h0 : len * sz = 0
 ·have hz0 : rowZ zs (len * sz) = [] := by rw [h0]; rfl
  rw [hz0] at hfl
  have hfl' : Instr.fill (fun i => some (i * sz, sz)) ((Array.range (len * sz)).map fun i => (#[] : Array Value)[i % (#[] : Array Value).size]!) vs = some cs.toArray := by
   rw [h0, show (Array.range 0).map (fun i => (#[] : Array Value)[i % (#[] : Array Value).size]!) = #[] by simp]
   exact hfl
  simp only [execOp, Instr.buildSlice, Sem.run_bind, andThen_ok, run_underlying hu, run_sizeOf hi, hs, if_neg hle, if_pos h0, run_pure', hvs, hfl', hnew]
 ·rw [hrow] at hfl
  simp only [execOp, Instr.buildSlice, Sem.run_bind, andThen_ok, run_underlying hu, run_sizeOf hi, hs, if_neg hle, if_neg h0, run_pure', hvs, run_zeroValue hz, hc, hfl, hnew]

theorem q_app {α : Type} (kd : Kd α) (I : Hp G L w) (i : Nat) {t u e by_ m : Nat} {xs ys : List α} {A : Option Addr} {c : Nat} {news zs : List Value} {src : Value}
  (hE : elemB P t = some (e, kd.sz, by_)) (hz : zeroB P e = some zs) (hzl : zs.length = kd.sz) (hx : ev N r x = .slice A xs.length c) (hy : ev N r y = src) (hk : L[i]? = some (tk (.slice A xs.length c) kd.sz e)) (ho : Own A c) (hc : xs.length ≤ c) (hD : Dat kd G A xs)
  (hS : Src P u src m kd.sz news w) (hF : Flat kd G ys news) (hm : m = ys.length) (hb : (xs.length + ys.length) * by_ ≤ 140737488355328) (hb0 : xs.length + ys.length ≤ 9223372036854775807)
  (k : ∀ A' c' G' w', G ≤ G' → Own A' c' → (xs ++ ys).length ≤ c' → Dat kd G' A' (xs ++ ys) → Hp G' (L.set i (tk (.slice A' (xs ++ ys).length c') kd.sz e)) w' →
   wpq P ro N ops rest Q (r.putO d (.slice A' (xs ++ ys).length c')) ds w')
  (hw : Region.wanted ⟨d, .call { callee := .builtin .append, args := #[x, y], argTypes := #[t, u] }, ty, ps, af, gd⟩ (yieldR ops N r) = true := by rfl) :
  wpq P ro N ops (⟨d, .call { callee := .builtin .append, args := #[x, y], argTypes := #[t, u] }, ty, ps, af, gd⟩ :: rest) Q r ds w := by
 obtain ⟨A', c', G', w', hr, h1, h2, h3, h4, h5⟩ := I.append (ty := ty) kd i hE hz hzl hk ho hc hD hS hF hm hb hb0
 refine wpq_v hw (by simp) ?_ (k A' c' G' w' h1 h2 h3 h4 h5)
 simp [execOp, resolve, invoke, builtin, hx, hy, hr, Sem.run_bind, andThen_ok, run_pure']
theorem src_bx {u : TypeId} {g m c sz : Nat} {cs : List Value} {T : TypeId} (I : Hp G L w) (j : Nat) (hu : sortB P u = some 1) (hk : L[j]? = some (bx g cs T)) (hl : cs.length = m * sz) : Src P u (.slice (some ⟨g, 0, none⟩) m c) m sz cs w :=
 .inl ⟨hu, .inr ⟨⟨g, 0, none⟩, c, rfl, hl, fun i v hv => by rw [add_plain, Nat.zero_add]; exact I.bx_cell j hk hv⟩⟩
theorem Hp.publish {α : Type} (kd : Kd α) {g n : Nat} {xs : List α} {cs : List Value} {T : TypeId} (I : Hp G (LG.bx g cs T :: L) w) (hF : Flat kd G xs cs) (hn : n = xs.length) :
  ∃ G', G ≤ G' ∧ Hp G' (tk (.slice (some ⟨g, 0, none⟩) n n) kd.sz T :: L) w ∧ Dat kd G' (some ⟨g, 0, none⟩) xs := by
 subst hn
 have hb := I.bx 0 rfl
 have hl := hF.len
 have I0 : Hp G (ar g (0 + xs.length * kd.sz) (0 + xs.length * kd.sz) T :: L) w := by
  have := I.write 0 (it' := ar g (0 + xs.length * kd.sz) (0 + xs.length * kd.sz) T) (g := g) rfl rfl rfl (Nat.zero_le _) (w' := w) rfl rfl rfl (fun _ _ => rfl) (fun _ _ _ => rfl) hb ⟨_, rfl, by simp [hl]⟩
  exact this
 obtain ⟨I1, hG⟩ := I0.add g (fun i => cs[i]?) (fun i v hv => cell_of_block hb (by simpa using hv)) (fun it hit hg i hi => by
  rcases List.mem_cons.1 hit with rfl | hit
  ·simp only [ar] at hi
   exact List.getElem?_eq_none (by rw [hl]; omega)
  ·exact absurd hg ((List.pairwise_cons.1 I.sepL).1 it hit g rfl))
 refine ⟨_, hG, I1, Dat.of_cells (hF.mono hG) fun j v hv => ?_⟩
 rw [add_plain, Nat.zero_add]
 exact Gh.add_cel hv

def argsR (vs : List Value) : Rg := fun t => (vs[t]?).getD undef
def resB (N : Nat) (r : Rg) (w : World) (P : Program) : List ResultVar → List Value → Prop
 | [], vs => vs = []
 | .tmp t :: rs, vs => ∃ v vs', vs = v :: vs' ∧ ev N r (.tmp t) = v ∧ resB N r w P rs vs'
 | .cell a T :: rs, vs => ∃ v vs' ad, vs = v :: vs' ∧ ev N r (.tmp a) = .pointer (some ad) ∧ (loadVar T ad).run P w = .ok v w ∧ resB N r w P rs vs'
def tupV : List Value → Value
 | [v] => v
 | vs => .tuple vs.toArray
def retQ (P : Program) (N : Nat) (fn : Func) (R : Ending → World → Prop) : Post := fun e r ds w =>
 (e = .normal ∨ e = .ret) ∧ ds = [] ∧ ∃ vs, resB N r w P fn.results.toList vs ∧ R (.returned (tupV vs)) w
theorem run_results {N : Nat} {r : Rg} {a : Act} (ha : Agree N r a) {f : ResultVar → Sem Value} (f1 : ∀ t, f (.tmp t) = pure (a.tmps.getD t undef)) (f2 : ∀ ad t, f (.cell ad t) = (do loadVar t (← asAddr (a.tmps.getD ad undef)))) :
  ∀ (rs : List ResultVar) (vs : List Value), resB N r w P rs vs → (rs.mapM f).run P w = .ok vs w
 | [], vs, h => by cases h; rfl
 | .tmp t :: rs, vs, ⟨v, vs', hv, he, h⟩ => by
  subst hv
  have e : a.tmps.getD t undef = v := by have := congrFun ha.ev (.tmp t); rw [he] at this; exact this
  simp only [List.mapM_cons, f1, Sem.run_bind, e, run_pure', andThen_ok, run_results ha f1 f2 rs vs' h]
 | .cell ad t :: rs, vs, ⟨v, vs', p, hv, he, hl, h⟩ => by
  subst hv
  have e : a.tmps.getD ad undef = .pointer (some p) := by have := congrFun ha.ev (.tmp ad); rw [he] at this; exact this
  have e2 : (asAddr (.pointer (some p))).run P w = .ok p w := rfl
  simp only [List.mapM_cons, f2, Sem.run_bind, e, e2, run_pure', andThen_ok, hl, run_results ha f1 f2 rs vs' h]
theorem run_resultsV {N : Nat} {r : Rg} {a : Act} {fn : Func} (hr' : Agree N r a) {vs' : List Value} (hres : resB N r w P fn.results.toList vs') : (results fn a.tmps).run P w = .ok (tupV vs') w := by
 unfold results
 rw [Sem.run_bind, Array.mapM_eq_mapM_toList, map_eq_pure_bind, Sem.run_bind]
 rw [run_results (P := P) (w := w) hr' (fun _ => rfl) (fun _ _ => rfl) fn.results.toList vs' hres]
 simp only [andThen_ok, run_pure']
 congr 1
 match vs' with
 | [] => rfl
 | [v] => rfl
 | v :: u :: l => simp [tupV]
theorem calls_intro {f : FuncId} {fn : Func} {c : Code} {vs : List Value} {R : Ending → World → Prop} (hf : P.funcs[f]? = some fn) (hb : fn.body = some c) (hN : fn.ntmps = N) (hle : vs.length ≤ N)
  (h : wpc P none N c (retQ P N fn R) (argsR vs) [] w) : Calls P f vs.toArray w R := by
 refine fw_calls none (n := 0) (callsIn_of_wp hf hb trivial ?_ rfl)
 subst hN
 refine wpIn_mono (h _ ⟨by simp; omega, fun t ht => ?_⟩ rfl) fun e a' w' ⟨r', hr', he, hd, vs', hres, hR⟩ => ?_
 ·simp only [argsR]
  rw [Array.getElem?_append]
  split
  ·rename_i hlt
   have : t < vs.length := by simpa using hlt
   simp [this]
  ·rename_i hlt
   have hge : vs.length ≤ t := by simpa using hlt
   rw [List.getElem?_eq_none hge, Array.getElem?_replicate, if_pos (by simp; omega)]
   rfl
 ·have hrun : (results fn a'.tmps).run P w' = .ok (tupV vs') w' := by
   unfold results
   rw [Sem.run_bind, Array.mapM_eq_mapM_toList, map_eq_pure_bind, Sem.run_bind]
   rw [run_results (P := P) (w := w') hr' (fun _ => rfl) (fun _ _ => rfl) fn.results.toList vs' hres]
   simp only [andThen_ok, run_pure']
   congr 1
   match vs' with
   | [] => rfl
   | [v] => rfl
   | v :: u :: l => simp [tupV]
  rcases he with rfl | rfl
  ·exact ⟨hd, _, hrun, hR⟩
  ·exact ⟨hd, _, hrun, hR⟩
theorem res_cell {T : TypeId} {n g o : Nat} {vs cs : List Value} {U : TypeId} (I : Hp G L w) (i : Nat) (hT : aggB P T = some (true, n)) (hk : L[i]? = some (bx g vs U)) (hcs : (vs.drop o).take n = cs) (hl : cs.length = n) :
  (loadVar T ⟨g, o, none⟩).run P w = .ok (.agg cs.toArray) w := by
 subst hl
 have : ∀ j v, cs[j]? = some v → w.cell? ((⟨g, o, none⟩ : Addr).add j) = some v := fun j v hj => by
  rw [← hcs] at hj
  rw [add_plain]
  refine I.bx_cell i hk ?_
  rw [List.getElem?_take] at hj
  split at hj
  ·rwa [List.getElem?_drop] at hj
  ·cases hj
 simp [loadVar, Sem.run_bind, run_isAgg hT, run_size hT, run_loadCells_list w ⟨g, o, none⟩ cs this, andThen_ok, run_pure']
end
section
variable {P : Program} {ro : Option Nat} {N : Nat} {Q : Post} {r : Rg} {ds : List Deferred} {w : World} {c : Operand} {x y : Code}
theorem wpc_true (hc : ev N r c = .bool true) (h : wpc P ro N x Q r ds w) : wpc P ro N (.cond c x y) Q r ds w := wpc_cond true hc h
theorem wpc_false (hc : ev N r c = .bool false) (h : wpc P ro N y Q r ds w) : wpc P ro N (.cond c x y) Q r ds w := wpc_cond false hc h
theorem bool_yes {p : Prop} [Decidable p] (h : p) : (Value.bool (decide p)) = .bool true := by rw [decide_eq_true h]
theorem bool_no {p : Prop} [Decidable p] (h : ¬ p) : (Value.bool (decide p)) = .bool false := by rw [decide_eq_false h]
end
end Go.LG
