/-
 LG, part Y: maps whose keys are structs; an entry that is made first and filled then.
-/
import Derived.Test.YtlcfemplcaejgaaLgM
import Derived.WideKeyRuns
set_option linter.unusedVariables false
set_option linter.unusedSimpArgs false
namespace Go.LG
open Go.RowKit
theorem sb_agg (n : Nat) (l : List Value) (h : ∀ v ∈ l, Instr.sameBits n v v = true) : Instr.sameBits (n + 1) (.agg l.toArray) (.agg l.toArray) = true := by
 unfold Instr.sameBits
 rw [Bool.and_eq_true]
 refine ⟨by simp, List.all_eq_true.2 fun x hx => ?_⟩
 have e : x.1 = x.2 ∧ x.1 ∈ l := by
  obtain ⟨i, hi, e⟩ := List.getElem_of_mem hx
  simp only [List.getElem_zip] at e
  rw [← e]
  exact ⟨rfl, by simp⟩
 show Instr.sameBits n x.1 x.2 = true
 rw [← e.1]
 exact h _ e.2
theorem sb_int (n : Nat) (k : IntKind) (a : Int) : Instr.sameBits n (.int k a) (.int k a) = true := by cases n <;> simp [Instr.sameBits]
theorem sb_str (n : Nat) (a : ByteArray) : Instr.sameBits n (.string a) (.string a) = true := by cases n <;> simp [Instr.sameBits, beq_ba]
theorem sb_bool (n : Nat) (a : Bool) : Instr.sameBits n (.bool a) (.bool a) = true := by cases n <;> simp [Instr.sameBits]
def wideB (P : Program) (T : TypeId) : Bool := match P.underlying T with | some (.array _ _) | some (.struct _) => true | _ => false
theorem findAsking_is {α β : Type} [DecidableEq α] {P : Program} {w : World} {T : TypeId} {ek : α → Value} {vk : β → Value} (he : ∀ a b, (Op.equal T (ek a) (ek b)).run P w = .ok (decide (a = b)) w) (a : α) : ∀ (es : List MapEntry) (l : List (α × β)) (i : Nat), es.map (fun e => (e.key, e.val)) = l.map (fun x => (ek x.1, vk x.2)) →
  (Instr.findAsking T (ek a) es i).run P w = .ok ((mfind l a i).map fun x => (x.1, vk x.2)) w
 | [], [], i, _ => by simp [Instr.findAsking, mfind, run_pure']
 | [], x :: l, i, h => by simp at h
 | e :: es, [], i, h => by simp at h
 | e :: es, x :: l, i, h => by
  simp only [List.map_cons, List.cons.injEq, Prod.mk.injEq] at h
  obtain ⟨⟨h1, h2⟩, h3⟩ := h
  simp only [Instr.findAsking, h1, Sem.run_bind, he, andThen_ok]
  by_cases hab : a = x.1
  ·simp [hab, mfind, h2, run_pure']
  ·simp only [hab, decide_false, Bool.false_eq_true, if_false]
   rw [findAsking_is he a es l (i + 1) h3]
   simp [mfind, hab]
def ckDeep (P : Program) : Nat → TypeId → List Value → Bool
 | 0, _, _ => false
 | 1, _, _ => false
 | d + 2, T, xs => match P.underlying T with
  | some (.struct fs) => fs.toList.all fun f => f.name != "_" && match aggB P f.type with
    | some (true, n) => ckDeep P (d + 1) f.type ((xs.drop f.offset).take n)
    | some (false, _) => (xs[f.offset]?).isSome && match P.underlying f.type with
     | some (.int _) | some .bool | some .string => true
     | _ => false
    | none => false
  | _ => false
theorem run_ckDeep {P : Program} {w : World} (em : Bool) : ∀ (d : Nat) (T : TypeId) (xs : List Value), ckDeep P d T xs = true → (Instr.checkKey em d T (.agg xs.toArray)).run P w = .ok () w
 | 0, _, _, h => by cases h
 | 1, _, _, h => by cases h
 | d + 2, T, xs, h => by
  have ih := run_ckDeep (P := P) (w := w) em (d + 1)
  unfold ckDeep at h
  cases hu : P.underlying T with
  | none => rw [hu] at h; cases h
  | some u =>
   rw [hu] at h
   have hst : ∃ fs, u = .struct fs := by
    cases u <;> first | exact ⟨_, rfl⟩ | cases h
   obtain ⟨fs, rfl⟩ := hst
   simp only at h
   rw [Instr.checkKey]
   simp only [Sem.run_bind, run_underlying hu, andThen_ok]
   rw [← Array.forIn_toList]
   generalize fs.toList = l at h
   clear hu
   induction l with
   | nil => simp [run_pure']
   | cons f l ihl =>
    rw [List.all_cons, Bool.and_eq_true, Bool.and_eq_true] at h
    obtain ⟨⟨hn, h1⟩, h2⟩ := h
    have hn' : f.name ≠ "_" := by simpa using hn
    have hl := ihl h2
    simp only [List.forIn_cons, Sem.run_bind, hn', ne_eq, not_false_eq_true, if_true]
    split at h1
    ·rename_i n ha
     have hp : (part f.type xs.toArray f.offset).run P w = .ok (.agg ((xs.drop f.offset).take n).toArray) w := by simp [part, run_isAgg ha, run_size ha]
     rw [hp, andThen_ok, ih _ _ h1]
     simpa [andThen_ok, run_pure'] using hl
    ·rename_i n ha
     rw [Bool.and_eq_true] at h1
     obtain ⟨v, hv⟩ := Option.isSome_iff_exists.1 h1.1
     have hp : (part f.type xs.toArray f.offset).run P w = .ok v w := by simp [part, run_isAgg ha, hv]
     have hc : (Instr.checkKey em (d + 1) f.type v).run P w = .ok () w := by
      rw [Instr.checkKey]
      have h3 := h1.2
      split at h3
      ·rename_i k hk; simp [run_underlying hk, Sem.run_bind, andThen_ok, run_pure']
      ·rename_i hk; simp [run_underlying hk, Sem.run_bind, andThen_ok, run_pure']
      ·rename_i hk; simp [run_underlying hk, Sem.run_bind, andThen_ok, run_pure']
      ·cases h3
     rw [hp, andThen_ok, hc]
     simpa [andThen_ok, run_pure'] using hl
    ·cases h1
theorem ky_struct {α : Type} [DecidableEq α] {P : Program} {T : TypeId} {cs : α → List Value} (hwide : wideB P T = true) (he : ∀ a b, eqDeep P 10000 T (cs a) (cs b) = some (decide (a = b)))
  (hb : ∀ a, ∀ v ∈ cs a, Instr.sameBits 9999 v v = true) (hk : ∀ a, ckDeep P 10000 T (cs a) = true) : Ky P T (fun a => .agg (cs a).toArray) := {
 find := fun vk w a es l h => by
  rw [run_findKey_eq w hwide]
  exact findAsking_is (ek := fun a => .agg (cs a).toArray) (fun a b => by unfold Op.equal; exact run_eqDeep (P := P) 10000 T _ _ _ (he a b)) a es l 0 h
 bits := fun a => sb_agg 9999 _ (hb a)
 check := fun a b w => run_ckDeep b 10000 T _ (hk a) }
section
variable {α β : Type} [DecidableEq α]
def mix (l : List (α × β)) (a : α) : Nat := match mfind l a 0 with | some (i, _) => i | none => l.length
theorem mput_at (l : List (α × β)) (a : α) (b : β) : (mput l a b)[mix l a]? = some (a, b) := by
 unfold mput mix
 cases h : mfind l a 0 with
 | none => simp
 | some q =>
  obtain ⟨j, v⟩ := q
  obtain ⟨_, y, hy, _⟩ := mfind_lt a l 0 j v h
  rw [Nat.sub_zero] at hy
  have hj : j < l.length := (List.getElem?_eq_some_iff.1 hy).1
  simp [hj]
theorem mput_set (l : List (α × β)) (a : α) (b c : β) : (mput l a b).set (mix l a) (a, c) = mput l a c := by
 unfold mput mix
 cases h : mfind l a 0 with
 | none => simp
 | some q => simp
theorem mfind_app (a : α) (b : β) : ∀ (l : List (α × β)) (i : Nat), mfind l a i = none → mfind (l ++ [(a, b)]) a i = some (i + l.length, b)
 | [], i, _ => by simp [mfind]
 | x :: l, i, h => by
  simp only [mfind] at h
  split at h
  ·cases h
  ·rename_i hx
   simp only [List.cons_append, mfind, if_neg hx, mfind_app a b l (i + 1) h, List.length_cons]
   congr 2
   omega
theorem mfind_set (a : α) (b : β) : ∀ (l : List (α × β)) (i j : Nat) (v : β), mfind l a i = some (j, v) → mfind (l.set (j - i) (a, b)) a i = some (j, b)
 | [], i, j, v, h => by cases h
 | x :: l, i, j, v, h => by
  have hlt := mfind_lt a (x :: l) i j v h
  simp only [mfind] at h
  split at h
  ·rename_i hx
   cases h
   simp [mfind]
  ·rename_i hx
   obtain ⟨h1, _⟩ := mfind_lt a l (i + 1) j v h
   rw [show j - i = (j - (i + 1)) + 1 by omega, List.set_cons_succ]
   simp only [mfind, if_neg hx, mfind_set a b l (i + 1) j v h]
theorem mget_put (l : List (α × β)) (a : α) (b : β) : mget (mput l a b) a = some b := by
 unfold mget mput
 cases h : mfind l a 0 with
 | none => simp [mfind_app a b l 0 h]
 | some q =>
  obtain ⟨j, v⟩ := q
  have := mfind_set a b l 0 j v h
  rw [Nat.sub_zero] at this
  simp [this]
theorem mfind_val (a : α) : ∀ (l : List (α × β)) (i j : Nat) (b : β), mfind l a i = some (j, b) → l[j - i]? = some (a, b)
 | [], i, j, b, h => by cases h
 | x :: l, i, j, b, h => by
  simp only [mfind] at h
  split at h
  ·rename_i hx
   cases h
   simp [hx]
  ·obtain ⟨h1, _⟩ := mfind_lt a l (i + 1) j b h
   rw [show j - i = (j - (i + 1)) + 1 by omega, List.getElem?_cons_succ]
   exact mfind_val a l (i + 1) j b h
def mpE (g : Nat) (ek : α → Value) (vk : β → Value) (l : List (α × β)) (a : α) (zv : β) (b : Nat) : Itm :=
 ⟨some g, 0, fun o => ∃ es c e, o = .map es c ∧ es.toList.map (fun e => (e.key, e.val)) = ((mput l a ((mget l a).getD zv)).map fun x => (ek x.1, vk x.2)) ∧ bornOk es c ∧ es[mix l a]? = some e ∧ e.born = b⟩
variable {P : Program} {ek : α → Value} {vk : β → Value} {ro : Option Nat} {N : Nat} {ops : Array Oper} {rest : List Oper} {Q : Post} {r : Rg} {ds : List Deferred} {w : World}
variable {d : Option Nat} {ty : TypeId} {ps : String} {af : Array Edge} {gd : Option (Nat × Bool)} {x y z : Operand} {G : Gh} {L : List Itm}
theorem q_mlkE (I : Hp G L w) (i : Nat) {g b : Nat} {l : List (α × β)} {T K V : TypeId} {a : α} {zv : β} (hT : mapB P T = some (K, V)) (hk : Ky P K ek) (hz : zeroV P V = some (vk zv))
  (hL : L[i]? = some (mpE g ek vk l a zv b)) (hx : ev N r x = .map (some g)) (hy : ev N r y = ek a)
  (k : wpq P ro N ops rest Q (r.putO d (vk ((mget l a).getD zv))) ds w) (hw : Region.wanted ⟨d, .lookup T x y false, ty, ps, af, gd⟩ (yieldR ops N r) = true := by rfl) :
  wpq P ro N ops (⟨d, .lookup T x y false, ty, ps, af, gd⟩ :: rest) Q r ds w := by
 obtain ⟨o, ho, es, c, e, rfl, hes, hbo, _, _⟩ := I.at i hL rfl
 have hg : (getObj g).run P w = .ok (.map es c) w := by simp [getObj, Sem.run, ho]
 refine wpq_v hw (by simp) ?_ k
 have hf := run_findKey_is (P := P) (w := w) hk a es.toList _ hes
 have hm := mget_put l a ((mget l a).getD zv)
 simp only [execOp, hx, hy, Instr.lookup, Sem.run_bind, run_underlying (mapB_open hT), andThen_ok, hg, run_pure', hk.check, hf]
 unfold mget at hm
 cases hq : mfind (mput l a ((mget l a).getD zv)) a 0 with
 | none => rw [show (Option.map (fun x => x.2) (mfind l a 0)) = mget l a from rfl, hq] at hm; cases hm
 | some q =>
  rw [show (Option.map (fun x => x.2) (mfind l a 0)) = mget l a from rfl, hq] at hm
  simp only [Option.map_some, Option.some.injEq] at hm
  simp [andThen_ok, Sem.run_bind, run_pure', hm]
theorem q_men (I : Hp G L w) (i : Nat) {g : Nat} {l : List (α × β)} {T K V : TypeId} {a : α} {zv : β} (hT : mapB P T = some (K, V)) (hk : Ky P K ek) (hz : zeroV P V = some (vk zv))
  (hL : L[i]? = some (mpI g ek vk l)) (hx : ev N r x = .map (some g)) (hy : ev N r y = ek a)
  (k : ∀ b w', Hp G (L.set i (mpE g ek vk l a zv b)) w' → wpq P ro N ops rest Q (r.putO d (.tuple [vk ((mget l a).getD zv), .int .i64 ((b : Nat) : Int)].toArray)) ds w') (hw : Region.wanted ⟨d, .mapEntry T x y, ty, ps, af, gd⟩ (yieldR ops N r) = true := by rfl) :
  wpq P ro N ops (⟨d, .mapEntry T x y, ty, ps, af, gd⟩ :: rest) Q r ds w := by
 obtain ⟨o, ho, es, c, rfl, hes, hbo⟩ := I.at i hL rfl
 have hg : (getObj g).run P w = .ok (.map es c) w := by simp [getObj, Sem.run, ho]
 have hset : ∀ o', (setObj g o').run P w = .ok () { w with heap := w.heap.setIfInBounds g o' } := fun o' => by simp [setObj, Sem.run, ho]
 have hf := run_findKey_is (P := P) (w := w) hk a es.toList l hes
 have hlen : es.size = l.length := by have := congrArg List.length hes; simpa using this
 cases hm : mfind l a 0 with
 | none =>
  have hn : mget l a = none := by unfold mget; rw [hm]; rfl
  have hnew : (mpE g ek vk l a zv c).P (.map (es.push { key := ek a, val := vk zv, born := c }) (c + 1)) := by
   refine ⟨_, _, { key := ek a, val := vk zv, born := c }, rfl, ?_, hbo.push, ?_, rfl⟩
   ·simp [mput, hm, hes, hn]
   ·simp [mix, hm, ← hlen]
  refine wpq_v hw (by simp) (w' := _) ?_ (k c _ (I.turnP i hL rfl rfl rfl hnew))
  simp only [execOp, hx, hy, Instr.mapEntry, Sem.run_bind, run_underlying (mapB_open hT), andThen_ok, hg, hk.check, hf, hm, Option.map_none, hset, run_pure', run_zeroValue hz, hn, Option.getD_none, goInt]
 | some q =>
  obtain ⟨j, v⟩ := q
  obtain ⟨_, y', hy', hya⟩ := mfind_lt a l 0 j v hm
  rw [Nat.sub_zero] at hy'
  have hj : j < l.length := (List.getElem?_eq_some_iff.1 hy').1
  have hj2 : j < es.size := by omega
  have hn : mget l a = some v := by unfold mget; rw [hm]; rfl
  have hyv : y' = (a, v) := by
   have := mfind_val a l 0 j v hm
   rw [Nat.sub_zero, hy'] at this
   exact Option.some.inj this
  have hpair : ((es[j]).key, (es[j]).val) = (ek a, vk v) := by
   have h1 := congrArg (fun m => m[j]?) hes
   simp only [List.getElem?_map, hy', Option.map_some, Array.getElem?_toList, Array.getElem?_eq_getElem hj2, Option.some.injEq, hyv] at h1
   exact h1
  have hkey : (es[j]).key = ek a := congrArg Prod.fst hpair
  have hnew : (mpE g ek vk l a zv (es[j]).born).P (.map (es.modify j fun e => { e with key := ek a }) c) := by
   refine ⟨_, _, { es[j] with key := ek a }, rfl, ?_, hbo.modify fun _ => rfl, ?_, rfl⟩
   ·apply List.ext_getElem?
    intro m
    have h1 := congrArg (fun q => q[m]?) hes
    simp only [List.getElem?_map, Array.getElem?_toList] at h1
    simp only [mput, hm, List.getElem?_map, Array.getElem?_toList, Array.getElem?_modify, List.getElem?_set, hn, Option.getD_some]
    by_cases hjm : j = m
    ·subst hjm
     have := congrArg Prod.snd hpair
     simp only at this
     simp [hj, hj2, this]
    ·simp only [if_neg hjm]
     exact h1
   ·rw [show mix l a = j by simp [mix, hm], Array.getElem?_modify, if_pos rfl, Array.getElem?_eq_getElem hj2]
    rfl
  refine wpq_v hw (by simp) (w' := _) ?_ (k (es[j]).born _ (I.turnP i hL rfl rfl rfl hnew))
  have hst : (Instr.keyThatStays (((es[j]?).map (·.key)).getD (ek a)) (ek a)).run P w = .ok (ek a) w := by
   have : ((es[j]?).map (·.key)).getD (ek a) = ek a := by
    rw [Array.getElem?_eq_getElem hj2]; exact hkey
   rw [this]
   simp [Instr.keyThatStays, hk.bits, run_pure']
  have hbn : ((es[j]?).map (·.born)).getD 0 = (es[j]).born := by rw [Array.getElem?_eq_getElem hj2]; rfl
  simp only [execOp, hx, hy, Instr.mapEntry, Sem.run_bind, run_underlying (mapB_open hT), andThen_ok, hg, hk.check, hf, hm, Option.map_some, hst, hset, run_pure', hn, Option.getD_some, goInt, hbn]
  rw [Array.getElem?_eq_getElem hj2]
  rfl
theorem q_est (I : Hp G L w) (i : Nat) {g b : Nat} {l : List (α × β)} {T : TypeId} {a : α} {zv : β} (v : β)
  (hL : L[i]? = some (mpE g ek vk l a zv b)) (hx : ev N r x = .map (some g)) (hy : ev N r y = .int .i64 ((b : Nat) : Int)) (hz : ev N r z = vk v)
  (k : ∀ w', Hp G (L.set i (mpI g ek vk (mput l a v))) w' → wpq P ro N ops rest Q (r.putO d undef) ds w') (hw : Region.wanted ⟨d, .entryStore T x y z, ty, ps, af, gd⟩ (yieldR ops N r) = true := by rfl) :
  wpq P ro N ops (⟨d, .entryStore T x y z, ty, ps, af, gd⟩ :: rest) Q r ds w := by
 obtain ⟨o, ho, es, c, e, rfl, hes, hbo, he, hb⟩ := I.at i hL rfl
 have hg : (getObj g).run P w = .ok (.map es c) w := by simp [getObj, Sem.run, ho]
 have hset : ∀ o', (setObj g o').run P w = .ok () { w with heap := w.heap.setIfInBounds g o' } := fun o' => by simp [setObj, Sem.run, ho]
 have hj : mix l a < es.size := (Array.getElem?_eq_some_iff.1 he).1
 have hej : es[mix l a] = e := (Array.getElem?_eq_some_iff.1 he).2
 have hfi : es.findIdx? (fun e => (e.born : Int) == (b : Int)) = some (mix l a) := by
  rw [Array.findIdx?_eq_some_iff_getElem]
  refine ⟨hj, by simp [hej, hb], fun m hm => ?_⟩
  have hne := (List.pairwise_iff_getElem.1 hbo.1) m (mix l a) (by simpa using Nat.lt_trans hm hj) (by simpa using hj) hm
  simp only [List.getElem_map, Array.getElem_toList, hej, hb, ne_eq] at hne
  have : ((es[m].born : Nat) : Int) ≠ (b : Int) := fun h => hne (by omega)
  simpa using this
 have hat := congrArg (fun q => q[mix l a]?) hes
 simp only [List.getElem?_map, Array.getElem?_toList, mput_at, Option.map_some, he, Option.some.injEq, Prod.mk.injEq] at hat
 have hnew : (mpI g ek vk (mput l a v)).P (.map (es.modify (mix l a) fun e => { e with val := vk v }) c) := by
  refine ⟨_, _, rfl, ?_, hbo.modify fun _ => rfl⟩
  rw [← mput_set l a ((mget l a).getD zv) v]
  apply List.ext_getElem?
  intro m
  have h1 := congrArg (fun q => q[m]?) hes
  simp only [List.getElem?_map, Array.getElem?_toList] at h1
  simp only [List.getElem?_map, Array.getElem?_toList, Array.getElem?_modify, List.getElem?_set]
  by_cases hjm : mix l a = m
  ·subst hjm
   have hlt : mix l a < (mput l a ((mget l a).getD zv)).length := (List.getElem?_eq_some_iff.1 (mput_at l a _)).1
   simp [hlt, he, hat.1]
  ·simp only [if_neg hjm]
   exact h1
 refine wpq_u hw (by simp) (w' := _) ?_ (k _ (I.turnP i hL rfl rfl rfl hnew))
 simp only [execOp, hx, hy, hz, Instr.entryStore, Sem.run_bind, andThen_ok, hg, asInt, asIntOf, run_pure', hfi, hset]
end
end Go.LG
