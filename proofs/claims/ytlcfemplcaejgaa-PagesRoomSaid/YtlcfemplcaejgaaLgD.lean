/-
 LG, part D: kinds of data; slices; append; a function's entry and its end.
-/
import Derived.Test.YtlcfemplcaejgaaLgC
set_option linter.unusedVariables false
set_option linter.unusedSimpArgs false
namespace Go.LG
open Go.RowKit

structure Kd (α : Type) where
 sz : Nat
 K : Gh → α → List Value → Prop
 mono : ∀ {G G' : Gh} {x : α} {cs : List Value}, G ≤ G' → K G x cs → K G' x cs
 len : ∀ {G : Gh} {x : α} {cs : List Value}, K G x cs → cs.length = sz
 one : ∀ {G : Gh} {x : α} {cs : List Value}, K G x cs → cs.all LG.one = true
def Dat {α : Type} (d : Kd α) (G : Gh) (A : Option Addr) (xs : List α) : Prop :=
 xs ≠ [] → ∃ a, A = some a ∧ ∀ i x, xs[i]? = some x → ∃ cs, d.K G x cs ∧ ∀ j v, cs[j]? = some v → G.cel (a.add (i * d.sz + j)) = some v
namespace Kd
def int (k : IntKind) : Kd Int := ⟨1, fun _ x cs => cs = [.int k x], fun _ h => h, fun h => by rw [h]; rfl, fun h => by rw [h]; rfl⟩
def bool : Kd Bool := ⟨1, fun _ x cs => cs = [.bool x], fun _ h => h, fun h => by rw [h]; rfl, fun h => by rw [h]; rfl⟩
def str : Kd ByteArray := ⟨1, fun _ x cs => cs = [.string x], fun _ h => h, fun h => by rw [h]; rfl, fun h => by rw [h]; rfl⟩
end Kd
theorem Dat.mono {α : Type} {d : Kd α} {G G' : Gh} {A : Option Addr} {xs : List α} (hG : G ≤ G') (h : Dat d G A xs) : Dat d G' A xs := fun hn => by
 obtain ⟨a, ha, h⟩ := h hn
 refine ⟨a, ha, fun i x hx => ?_⟩
 obtain ⟨cs, hK, hc⟩ := h i x hx
 exact ⟨cs, d.mono hG hK, fun j v hv => hG.cel _ _ (hc j v hv)⟩
namespace Kd
def slice {α : Type} (d : Kd α) : Kd (List α) := ⟨1, fun G xs cs => ∃ A c, cs = [.slice A xs.length c] ∧ xs.length ≤ c ∧ Dat d G A xs,
 fun hG ⟨A, c, h1, h2, h3⟩ => ⟨A, c, h1, h2, h3.mono hG⟩, fun ⟨A, c, h1, _, _⟩ => by rw [h1]; rfl, fun ⟨A, c, h1, _, _⟩ => by rw [h1]; rfl⟩
def pair {α β : Type} (a : Kd α) (b : Kd β) : Kd (α × β) := ⟨a.sz + b.sz, fun G x cs => ∃ c1 c2, cs = c1 ++ c2 ∧ a.K G x.1 c1 ∧ b.K G x.2 c2,
 fun hG ⟨c1, c2, h, h1, h2⟩ => ⟨c1, c2, h, a.mono hG h1, b.mono hG h2⟩,
 fun ⟨c1, c2, h, h1, h2⟩ => by rw [h, List.length_append, a.len h1, b.len h2],
 fun ⟨c1, c2, h, h1, h2⟩ => by rw [h, List.all_append, a.one h1, b.one h2]; rfl⟩
def iso {α β : Type} (a : Kd α) (f : β → α) : Kd β := ⟨a.sz, fun G x cs => a.K G (f x) cs, fun hG h => a.mono hG h, fun h => a.len h, fun h => a.one h⟩
end Kd
section
variable {α : Type} {d : Kd α} {G G' : Gh} {A : Option Addr} {xs ys : List α}
theorem Dat.nil (d : Kd α) (G : Gh) (A : Option Addr) : Dat d G A [] := fun h => absurd rfl h
theorem Dat.get (h : Dat d G A xs) (z : α) (i : Int) (h0 : 0 ≤ i) (h1 : i < (xs.length : Int)) :
  ∃ a cs, A = some a ∧ d.K G (xs.getD i.toNat z) cs ∧ cs.length = d.sz ∧ ∀ j v, cs[j]? = some v → G.cel ((a.add (i.toNat * d.sz)).add j) = some v := by
 obtain ⟨a, ha, h⟩ := h (by intro e; subst e; simp at h1; omega)
 have hlt : i.toNat < xs.length := by omega
 obtain ⟨cs, hK, hc⟩ := h i.toNat (xs.getD i.toNat z) (by simp [List.getD_eq_getElem?_getD, List.getElem?_eq_getElem hlt])
 exact ⟨a, cs, ha, hK, d.len hK, fun j v hv => by rw [add_add]; exact hc j v hv⟩
theorem Dat.drop (h : Dat d G A xs) (k : Nat) : Dat d G (A.map (·.add (k * d.sz))) (xs.drop k) := fun hn => by
 have hx : xs ≠ [] := by intro e; subst e; simp at hn
 obtain ⟨a, ha, h⟩ := h hx
 refine ⟨a.add (k * d.sz), by rw [ha]; rfl, fun i x hi => ?_⟩
 rw [List.getElem?_drop] at hi
 obtain ⟨cs, hK, hc⟩ := h (k + i) x hi
 refine ⟨cs, hK, fun j v hv => ?_⟩
 rw [add_add]
 have := hc j v hv
 rwa [Nat.add_mul, Nat.add_assoc] at this
theorem Dat.take (h : Dat d G A xs) (k : Nat) : Dat d G A (xs.take k) := fun hn => by
 have hx : xs ≠ [] := by intro e; subst e; simp at hn
 obtain ⟨a, ha, h⟩ := h hx
 refine ⟨a, ha, fun i x hi => h i x ?_⟩
 rw [List.getElem?_take] at hi
 split at hi
 ·exact hi
 ·cases hi
end

def Flat {α : Type} (d : Kd α) (G : Gh) : List α → List Value → Prop
 | [], cs => cs = []
 | x :: xs, cs => ∃ c1 c2, cs = c1 ++ c2 ∧ d.K G x c1 ∧ Flat d G xs c2
theorem Flat.len {α : Type} {d : Kd α} {G : Gh} : ∀ {xs : List α} {cs : List Value}, Flat d G xs cs → cs.length = xs.length * d.sz
 | [], cs, h => by rw [h]; simp
 | x :: xs, cs, ⟨c1, c2, h, h1, h2⟩ => by rw [h, List.length_append, d.len h1, h2.len, List.length_cons, Nat.add_mul, Nat.one_mul, Nat.add_comm]
theorem Flat.one {α : Type} {d : Kd α} {G : Gh} : ∀ {xs : List α} {cs : List Value}, Flat d G xs cs → cs.all LG.one = true
 | [], cs, h => by rw [h]; rfl
 | x :: xs, cs, ⟨c1, c2, h, h1, h2⟩ => by rw [h, List.all_append, d.one h1, h2.one]; rfl
theorem Flat.mono {α : Type} {d : Kd α} {G G' : Gh} (hG : G ≤ G') : ∀ {xs : List α} {cs : List Value}, Flat d G xs cs → Flat d G' xs cs
 | [], cs, h => h
 | x :: xs, cs, ⟨c1, c2, h, h1, h2⟩ => ⟨c1, c2, h, d.mono hG h1, h2.mono hG⟩
theorem Flat.append {α : Type} {d : Kd α} {G : Gh} : ∀ {xs ys : List α} {cs es : List Value}, Flat d G xs cs → Flat d G ys es → Flat d G (xs ++ ys) (cs ++ es)
 | [], ys, cs, es, h, k => by subst h; exact k
 | x :: xs, ys, cs, es, ⟨c1, c2, h, h1, h2⟩, k => ⟨c1, c2 ++ es, by rw [h, List.append_assoc], h1, h2.append k⟩
theorem Dat.flat {α : Type} {d : Kd α} {G : Gh} {a : Addr} : ∀ {xs : List α}, (∀ i x, xs[i]? = some x → ∃ cs, d.K G x cs ∧ ∀ j v, cs[j]? = some v → G.cel (a.add (i * d.sz + j)) = some v) →
  ∃ cs, Flat d G xs cs ∧ ∀ j v, cs[j]? = some v → G.cel (a.add j) = some v := by
 intro xs
 induction xs generalizing a with
 | nil => exact fun _ => ⟨[], rfl, by simp⟩
 | cons x xs ih =>
  intro h
  obtain ⟨c1, h1, hc1⟩ := h 0 x rfl
  obtain ⟨c2, h2, hc2⟩ := ih (a := a.add d.sz) (fun i y hy => by
   obtain ⟨cs, hK, hc⟩ := h (i + 1) y hy
   refine ⟨cs, hK, fun j v hv => ?_⟩
   rw [add_add]
   have := hc j v hv
   rwa [show (i + 1) * d.sz + j = d.sz + (i * d.sz + j) by rw [Nat.add_mul, Nat.one_mul]; omega] at this)
  refine ⟨c1 ++ c2, ⟨c1, c2, rfl, h1, h2⟩, fun j v hv => ?_⟩
  rw [List.getElem?_append] at hv
  split at hv
  ·have := hc1 j v hv
   simpa using this
  ·rename_i hj
   have := hc2 _ v hv
   rw [add_add, d.len h1] at this
   rw [d.len h1] at hj
   rwa [show d.sz + (j - d.sz) = j by omega] at this
theorem Flat.dat {α : Type} {d : Kd α} {G : Gh} {a : Addr} : ∀ {xs : List α} {cs : List Value}, Flat d G xs cs → (∀ j v, cs[j]? = some v → G.cel (a.add j) = some v) →
  ∀ i x, xs[i]? = some x → ∃ cs, d.K G x cs ∧ ∀ j v, cs[j]? = some v → G.cel (a.add (i * d.sz + j)) = some v := by
 intro xs
 induction xs generalizing a with
 | nil => intro cs _ _ i x hx; simp at hx
 | cons y xs ih =>
  rintro cs ⟨c1, c2, rfl, h1, h2⟩ hc i x hx
  cases i with
  | zero =>
   simp at hx; subst hx
   refine ⟨c1, h1, fun j v hv => ?_⟩
   have hj : j < c1.length := (List.getElem?_eq_some_iff.1 hv).1
   have := hc j v (by rw [List.getElem?_append, if_pos hj]; exact hv)
   simpa using this
  | succ i =>
   obtain ⟨cs, hK, hcs⟩ := ih (a := a.add d.sz) h2 (fun j v hv => by
    rw [add_add]
    refine hc _ v ?_
    rw [List.getElem?_append, if_neg (by rw [d.len h1]; omega), d.len h1]
    rwa [show d.sz + j - d.sz = j by omega]) i x hx
   refine ⟨cs, hK, fun j v hv => ?_⟩
   have := hcs j v hv
   rw [add_add] at this
   rwa [show (i + 1) * d.sz + j = d.sz + (i * d.sz + j) by rw [Nat.add_mul, Nat.one_mul]; omega]

section
variable {P : Program} {ro : Option Nat} {N : Nat} {ops : Array Oper} {rest : List Oper} {Q : d6} {r : Rg} {ds : List Deferred} {w : World}
variable {d : Option Nat} {ty : TypeId} {ps : String} {af : Array Edge} {gd : Option (Nat × Bool)} {x y : Operand} {G : Gh} {L : List dv}
theorem cell_of_block {g i : Nat} {c : Array Value} {T : TypeId} {fr : Nat × Nat} {v : Value} (hb : w.heap[g]? = some (.cells c T fr)) (hc : c[i]? = some v) : w.cell? ⟨g, i, none⟩ = some v := by simp [World.cell?, hb, hc]
theorem run_askRoom (n : Nat) : (askRoom n).run P w = .ok () w := by unfold askRoom; split <;> simp [mark, Sem.run]
theorem Hp.arOpen {g lo hi : Nat} {T : TypeId} (h : Hp G L w) (k : Nat) (hk : L[k]? = some (ar g lo hi T)) : ∃ c, w.heap[g]? = some (.cells c T (0, 0)) ∧ hi ≤ c.size := by
 obtain ⟨o, ho, c, rfl, hc⟩ := h.at k hk rfl
 exact ⟨c, ho, hc⟩
theorem mu (g : Nat) {T : TypeId} : ∀ (cs : List Value) (o i hi : Nat) (w : World) (G : Gh) (L : List dv), Hp G L w → ∀ k, L[k]? = some (ar g (o + i) hi T) → (∀ v ∈ cs, one v = true) → o + i + cs.length ≤ hi →
  ∃ w' G', (storeCells ⟨g, o, none⟩ cs i).run P w = .ok () w' ∧ G ≤ G' ∧ Hp G' (L.set k (ar g (o + i + cs.length) hi T)) w' ∧ ∀ j v, cs[j]? = some v → G'.cel ⟨g, o + i + j, none⟩ = some v
 | [], o, i, hi, w, G, L, hI, k, hk, _, _ => ⟨w, G, rfl, Gh.le_refl G, by
   have : L.set k (ar g (o + i + ([] : List Value).length) hi T) = L := by
    obtain ⟨hlt, he⟩ := List.getElem?_eq_some_iff.1 hk
    show L.set k (ar g (o + i) hi T) = L
    rw [← he]; exact List.set_getElem_self hlt
   rw [this]; exact hI, by simp⟩
 | c :: cs, o, i, hi, w, G, L, hI, k, hk, h1, hl => by
  simp only [List.length_cons] at hl
  obtain ⟨c0, hb, hsz⟩ := hI.arOpen k hk
  have hlt : o + i < c0.size := by omega
  have hcell : w.cell? ⟨g, o + i, none⟩ = some c0[o + i] := by simp [World.cell?, hb, hlt]
  have hfr : w.frozen? ⟨g, o + i, none⟩ = false := by simp [World.frozen?, hb]
  have hI1 : Hp G (L.set k (ar g (o + i + 1) hi T)) (w.setCell ⟨g, o + i, none⟩ c) := hI.write k hk (it' := ar g (o + i + 1) hi T) rfl rfl (Nat.le_succ _) rfl rfl rfl
   (fun j hj => gn w _ c hj) (fun a ha hlo => World.cell?_setCell_other w _ a c (fun e => by subst e; simp [ar] at hlo)) (heap_setCell_same w g _ c hb) ⟨_, rfl, by simpa using hsz⟩
  have hc1 : (w.setCell ⟨g, o + i, none⟩ c).cell? ⟨g, o + i, none⟩ = some c := World.cell?_setCell_same w _ c hcell
  have hkl : k < L.length := (List.getElem?_eq_some_iff.1 hk).1
  obtain ⟨hI2, hG2⟩ := hI1.add g (fun j => if j = o + i then some c else none) (fun j v hv => by
   split at hv
   ·rename_i e; subst e; cases hv; exact hc1
   ·cases hv) (fun it hit hg j hj => by
   split
   ·rename_i e; subst e
    -- the item is the one at k
    obtain ⟨m, hm⟩ := List.getElem?_of_mem hit
    by_cases hmk : m = k
    ·subst hmk
     rw [List.getElem?_set_self hkl] at hm
     cases hm
     simp only [ar] at hj
     omega
    ·exfalso
     have hmm : m < (L.set k (ar g (o + i + 1) hi T)).length := (List.getElem?_eq_some_iff.1 hm).1
     have hkk : k < (L.set k (ar g (o + i + 1) hi T)).length := by rw [List.length_set]; exact hkl
     have hLm : (L.set k (ar g (o + i + 1) hi T))[m] = it := (List.getElem?_eq_some_iff.1 hm).2
     have hLk : (L.set k (ar g (o + i + 1) hi T))[k] = ar g (o + i + 1) hi T := by rw [List.getElem_set_self]
     have hp := List.pairwise_iff_getElem.1 hI1.sepL
     rcases Nat.lt_or_gt_of_ne hmk with hlt' | hgt
     ·exact hp m k hmm hkk hlt' g (by rw [hLm]; exact hg) (by rw [hLk]; rfl)
     ·exact hp k m hkk hmm hgt g (by rw [hLk]; rfl) (by rw [hLm]; exact hg)
   ·rfl)
  obtain ⟨w', G', hr, hG', hI', hcel⟩ := mu g cs o (i + 1) hi _ _ _ hI2 k (by rw [List.getElem?_set_self hkl]; rfl) (fun v hv => h1 v (List.mem_cons_of_mem _ hv)) (by omega)
  refine ⟨w', G', ?_, Gh.le_trans hG2 hG', ?_, ?_⟩
  ·simp only [storeCells, Sem.run_bind, add_plain, run_store (P := P) (w := w) hcell hfr (h1 c (List.mem_cons_self ..)), andThen_ok]
   exact hr
  ·rw [List.set_set] at hI'
   simp only [List.length_cons]
   rwa [show o + i + (cs.length + 1) = o + (i + 1) + cs.length by omega]
  ·intro j v hv
   cases j with
   | zero =>
    simp at hv; subst hv
    exact hG'.cel _ _ (Gh.add_cel (by simp))
   | succ j =>
    have := hcel j v (by simpa using hv)
    rwa [show o + i + (j + 1) = o + (i + 1) + j by omega]

def Own (A : Option Addr) (c : Nat) : Prop := (A = none ∧ c = 0) ∨ ∃ g o, A = some ⟨g, o, none⟩
theorem Own.nil : Own none 0 := .inl ⟨rfl, rfl⟩
theorem Own.mk (g o c : Nat) : Own (some ⟨g, o, none⟩) c := .inr ⟨g, o, rfl⟩
theorem Hp.replace {it it' : dv} {G : Gh} {L : List dv} {w : World} (h : Hp G (it' :: L) w) (k : Nat) (hk : L[k]? = some it) : Hp G (L.set k it') w := by
 have hlt : k < L.length := (List.getElem?_eq_some_iff.1 hk).1
 have h1 : Hp G (it' :: L.eraseIdx k) w := h.sub ((List.eraseIdx_sublist L k).cons_cons it')
 refine h1.perm ?_
 rw [List.eraseIdx_eq_take_drop_succ, List.set_eq_take_append_cons_drop, if_pos hlt]
 exact List.perm_middle.symm
def Src (P : Program) (u : TypeId) (v : Value) (m sz : Nat) (news : List Value) (w : World) : Prop :=
 (dj P u = some 1 ∧ ((m = 0 ∧ news = [] ∧ ∃ A c, v = .slice A 0 c) ∨ ∃ a c, v = .slice (some a) m c ∧ news.length = m * sz ∧ ∀ j x, news[j]? = some x → w.cell? (a.add j) = some x)) ∨
 (dj P u = some 0 ∧ sz = 1 ∧ ∃ s : ByteArray, v = .string s ∧ m = s.size ∧ news = s.data.toList.map fun b => .int .u8 b.toNat)
theorem Src.len {u : TypeId} {v : Value} {m sz : Nat} {news : List Value} (h : Src P u v m sz news w) : news.length = m * sz := by
 rcases h with ⟨_, ⟨rfl, rfl, _⟩ | ⟨a, c, _, hl, _⟩⟩ | ⟨_, rfl, s, _, rfl, rfl⟩
 ·simp
 ·exact hl
 ·rw [List.length_map, Nat.mul_one]; rfl
theorem Src.lenOf {u : TypeId} {v : Value} {m sz : Nat} {news : List Value} (h : Src P u v m sz news w) (w' : World) : (Builtin.lenOf v).run P w' = .ok m w' := by
 rcases h with ⟨_, ⟨rfl, rfl, A, c, rfl⟩ | ⟨a, c, rfl, _, _⟩⟩ | ⟨_, rfl, s, rfl, rfl, rfl⟩ <;> simp [Builtin.lenOf] <;> rfl
theorem Src.cells {u : TypeId} {v : Value} {m sz : Nat} {news : List Value} (h : Src P u v m sz news w) : (Builtin.firstCells sz m v).run P w = .ok news.toArray w := by
 rcases h with ⟨_, ⟨rfl, rfl, A, c, rfl⟩ | ⟨a, c, rfl, hl, hc⟩⟩ | ⟨_, rfl, s, rfl, rfl, rfl⟩
 ·cases A with
  | none => exact run_firstCells_none w sz 0 0 c
  | some a => exact run_firstCells_some w sz 0 a 0 c [] (by simp) (by simp)
 ·exact run_firstCells_some w sz m a m c news hl hc
 ·simp only [Builtin.firstCells, run_pure']
  congr 1
  apply Array.toList_inj.1
  have : s.extract 0 s.size = s := by
   apply ByteArray.ext
   rw [ByteArray.data_extract]
   show s.data.extract 0 s.data.size = s.data
   simp
  rw [this]
  simp only [Array.toList_map]
theorem Src.drew {u : TypeId} {v : Value} {m sz : Nat} {news : List Value} (h : Src P u v m sz news w) : Src P u v m sz news w.drew := h
theorem lD {u : TypeId} {v : Value} {m sz : Nat} {news : List Value} (h : Src P u v m sz news w) : (∃ e, P.underlying u = some (.slice e)) ∨ P.underlying u = some .string := by
 rcases h with ⟨h, _⟩ | ⟨h, _⟩
 ·exact .inl (kx h)
 ·exact .inr (km h)
theorem f8 {t u e ty : TypeId} {inf : TypeInfo} {A : Option Addr} {n c m : Nat} {src : Value} {news : List Value} {w' : World} (hu : P.underlying t = some (.slice e)) (hi : P.info? e = some inf)
  (hud : (∃ e, P.underlying u = some (.slice e)) ∨ P.underlying u = some .string) (hlen : (Builtin.lenOf src).run P w = .ok m w) (hcells : (Builtin.firstCells inf.size m src).run P w = .ok news.toArray w) (hroom : n + m ≤ c)
  (hst : match A with | some a => (storeCells (a.add (n * inf.size)) news).run P w = .ok () w' | none => w' = w) :
  (Builtin.append_ #[t, u] ty #[.slice A n c, src]).run P w = .ok (.slice A (n + m) c) w' := by
 rcases hud with ⟨e', hud⟩ | hud <;> cases A with
 | none => subst hst; simp [Builtin.append_, run_underlying hu, run_underlying hud, run_sizeOf hi, hlen, hcells, hroom]
 | some a => simp [Builtin.append_, run_underlying hu, run_underlying hud, run_sizeOf hi, hlen, hcells, hroom, hst]
theorem i9 {t u e ty : TypeId} {inf : TypeInfo} {A : Option Addr} {n c m : Nat} {src z : Value} {olds news : List Value} (hu : P.underlying t = some (.slice e)) (hi : P.info? e = some inf) (hz : inf.zero = some z)
  (hud : (∃ e, P.underlying u = some (.slice e)) ∨ P.underlying u = some .string) (hlen : (Builtin.lenOf src).run P w = .ok m w) (hcells : (Builtin.firstCells inf.size m src).run P w.drew = .ok news.toArray w.drew)
  (hfirst : (Builtin.firstCells inf.size n (.slice A n c)).run P w.drew = .ok olds.toArray w.drew) (hroom : ¬ n + m ≤ c) (h63 : n + m ≤ 9223372036854775807) (hcap : Builtin.nextslicecap (n + m) c * inf.bytes ≤ 281474976710656) :
  (Builtin.append_ #[t, u] ty #[.slice A n c, src]).run P w = .ok (.slice (some ⟨w.heap.size, 0, none⟩) (n + m) (grownCap w (n + m) c e))
   (w.drew.alloc (.cells (olds ++ news ++ (Builtin.zeroCells z.cells (grownCap w (n + m) c e - (n + m))).toList).toArray e)) := by
 have hcap' : ¬ (281474976710656 < Builtin.nextslicecap (n + m) c * inf.bytes) := by omega
 have h63' : ¬ (9223372036854775807 < ((n : Int) + (m : Int))) := by omega
 rcases hud with ⟨e', hud⟩ | hud <;>
 ·simp [Builtin.append_, run_underlying hu, run_underlying hud, run_sizeOf hi, run_typeInfo hi, hlen, hroom, h63', hcap', Question.forced, zeroValue, hz, run_askRoom, hfirst, hcells, newRow, newObj, grownCap, choose, Sem.run]
  congr 2
  apply Array.toList_inj.1
  simp
theorem Dat.of_cells {α : Type} {k : Kd α} {G : Gh} {a : Addr} {xs : List α} {cs : List Value} (hf : Flat k G xs cs) (hc : ∀ j v, cs[j]? = some v → G.cel (a.add j) = some v) : Dat k G (some a) xs :=
 fun _ => ⟨a, rfl, hf.dat hc⟩
theorem Hp.append {α : Type} (k : Kd α) {t u e by_ : Nat} {xs ys : List α} {A : Option Addr} {c m : Nat} {news : List Value} {src : Value} {ty : TypeId} (I : Hp G L w) (i : Nat)
  (hE : gE P t = some (e, k.sz, by_)) {zs : List Value} (hz : eo P e = some zs) (hzl : zs.length = k.sz) (hk : L[i]? = some (tk (.slice A xs.length c) k.sz e)) (ho : Own A c) (hc : xs.length ≤ c) (hD : Dat k G A xs)
  (hS : Src P u src m k.sz news w) (hF : Flat k G ys news) (hm : m = ys.length) (hb : (xs.length + ys.length) * by_ ≤ 140737488355328) (hb0 : xs.length + ys.length ≤ 9223372036854775807) :
  ∃ A' c' G' w', (Builtin.append_ #[t, u] ty #[.slice A xs.length c, src]).run P w = .ok (.slice A' (xs ++ ys).length c') w' ∧ G ≤ G' ∧ Own A' c' ∧ (xs ++ ys).length ≤ c' ∧ Dat k G' A' (xs ++ ys) ∧
   Hp G' (L.set i (tk (.slice A' (xs ++ ys).length c') k.sz e)) w' := by
 obtain ⟨hu, inf, hi, hsz, hby⟩ := gG hE
 obtain ⟨z, hz, hzc⟩ := fS hz
 obtain ⟨inf', hi', hz⟩ := iv hz
 rw [hi] at hi'; cases hi'
 have hud := lD hS
 have hlen := hS.lenOf w
 have hcells := hS.cells
 have hone : ∀ v ∈ news, LG.one v = true := fun v hv => List.all_eq_true.1 hF.one v hv
 have hnl := hS.len
 subst hm
 rw [← hsz] at hcells
 by_cases hroom : xs.length + ys.length ≤ c
 ·-- there is room
  rcases ho with ⟨rfl, rfl⟩ | ⟨g, o, rfl⟩
  ·have hx : xs = [] := List.eq_nil_of_length_eq_zero (by omega)
   have hy : ys = [] := List.eq_nil_of_length_eq_zero (by omega)
   subst hx; subst hy
   have hn : news = [] := hF
   subst hn
   refine ⟨none, 0, G, w, ?_, Gh.le_refl G, .nil, by simp, Dat.nil k G none, ?_⟩
   ·exact f8 hu hi hud hlen hcells (Nat.le_refl 0) rfl
   ·have : L.set i (tk (.slice none ([] ++ [] : List α).length 0) k.sz e) = L := by
     obtain ⟨hlt, he⟩ := List.getElem?_eq_some_iff.1 hk
     show L.set i (tk (.slice none ([] : List α).length 0) k.sz e) = L
     rw [← he]; exact List.set_getElem_self hlt
    rw [this]; exact I
  ·obtain ⟨w', G', hr, hG, hI', hcel⟩ := mu (P := P) g news (o + xs.length * k.sz) 0 (o + c * k.sz) w G L I i hk hone (by
    rw [hnl]
    have : xs.length * k.sz + ys.length * k.sz ≤ c * k.sz := by rw [← Nat.add_mul]; exact Nat.mul_le_mul_right _ hroom
    omega)
   refine ⟨some ⟨g, o, none⟩, c, G', w', ?_, hG, .mk g o c, by rw [List.length_append]; exact hroom, ?_, ?_⟩
   ·have hr' : (storeCells ((⟨g, o, none⟩ : Addr).add (xs.length * inf.size)) news).run P w = .ok () w' := by rw [add_plain, hsz]; exact hr
    rw [List.length_append]
    exact f8 hu hi hud hlen hcells hroom hr'
   ·obtain ⟨cs, hf, hcs⟩ : ∃ cs, Flat k G xs cs ∧ ∀ j v, cs[j]? = some v → G.cel ((⟨g, o, none⟩ : Addr).add j) = some v := by
     by_cases hx : xs = []
     ·subst hx; exact ⟨[], rfl, by simp⟩
     ·obtain ⟨a, ha, h⟩ := hD hx
      cases ha
      exact Dat.flat h
    refine Dat.of_cells ((hf.mono hG).append (hF.mono hG)) fun j v hv => ?_
    rw [List.getElem?_append] at hv
    split at hv
    ·exact hG.cel _ _ (hcs j v hv)
    ·rename_i hj
     have := hcel _ v hv
     rw [hf.len] at this hj
     rw [add_plain]
     rwa [show o + xs.length * k.sz + 0 + (j - xs.length * k.sz) = o + j by omega] at this
   ·have e1 : o + xs.length * k.sz + 0 + news.length = o + (xs ++ ys).length * k.sz := by rw [hnl, List.length_append, Nat.add_mul]; omega
    rw [e1] at hI'
    exact hI'
 ·-- there is none: a new block
  obtain ⟨olds, hf, hfirst⟩ : ∃ olds, Flat k G xs olds ∧ (Builtin.firstCells k.sz xs.length (.slice A xs.length c)).run P w.drew = .ok olds.toArray w.drew := by
   by_cases hx : xs = []
   ·subst hx
    refine ⟨[], rfl, ?_⟩
    cases A with
    | none => exact run_firstCells_none _ _ _ _ _
    | some a => exact run_firstCells_some _ _ _ _ _ _ [] (by simp) (by simp)
   ·obtain ⟨a, ha, h⟩ := hD hx
    subst ha
    obtain ⟨cs, hf, hcs⟩ := Dat.flat h
    exact ⟨cs, hf, run_firstCells_some _ _ _ _ _ _ cs hf.len (fun j v hv => I.cel _ _ (hcs j v hv))⟩
  have hcap := growslice_fits (need := xs.length + ys.length) (old := c) (bytes := by_) (by omega) hb
  have hcellsd := hS.drew.cells
  rw [← hsz] at hcellsd hfirst
  have hrun := i9 (ty := ty) hu hi hz hud hlen hcellsd hfirst hroom hb0 (by rw [hby]; exact hcap)
  have hge := grownCap_ge w (xs.length + ys.length) c e
  generalize grownCap w (xs.length + ys.length) c e = nc at hrun hge
  generalize hcs : olds ++ news ++ (Builtin.zeroCells z.cells (nc - (xs.length + ys.length))).toList = cells at hrun
  have hfl : Flat k G (xs ++ ys) (olds ++ news) := hf.append hF
  have hcl : cells.length = nc * k.sz := by
   have h0 : (Builtin.zeroCells z.cells (nc - (xs.length + ys.length))).toList.length = (nc - (xs.length + ys.length)) * k.sz := by
    show (Builtin.zeroCells z.cells (nc - (xs.length + ys.length))).size = _
    rw [size_zeroCells, hzc, List.size_toArray, hzl]
   rw [← hcs, List.length_append, hfl.len, h0, List.length_append, ← Nat.add_mul]
   congr 1
   omega
  -- the new block: what is filled never changes again, the rest is free
  have I1 : Hp G (ar w.heap.size ((xs ++ ys).length * k.sz) (nc * k.sz) e :: L) (w.drew.alloc (.cells cells.toArray e)) :=
   I.drew.alloc _ ((xs ++ ys).length * k.sz) _ ⟨_, rfl, by simp [hcl]⟩
  have hb : (w.drew.alloc (.cells cells.toArray e)).heap[w.heap.size]? = some (.cells cells.toArray e (0, 0)) := lH w.drew _
  obtain ⟨I2, hG2⟩ := I1.add w.heap.size (fun j => if j < (xs ++ ys).length * k.sz then (olds ++ news)[j]? else none) (fun j v hv => by
   split at hv
   ·have : cells[j]? = some v := by
     rw [← hcs, List.getElem?_append_left]
     ·exact hv
     ·exact (List.getElem?_eq_some_iff.1 hv).1
    exact cell_of_block hb (by simpa using this)
   ·cases hv) (fun it hit hg j hj => by
   rcases List.mem_cons.1 hit with rfl | hit
   ·simp only [ar] at hj
    rw [if_neg (by omega)]
   ·exact absurd hg ((List.pairwise_cons.1 I1.sepL).1 it hit w.heap.size rfl))
  refine ⟨some ⟨w.heap.size, 0, none⟩, nc, _, _, by rw [List.length_append]; exact hrun, hG2, .mk _ _ _, by rw [List.length_append]; exact hge, ?_, ?_⟩
  ·refine Dat.of_cells (hfl.mono hG2) fun j v hv => ?_
   rw [add_plain, Nat.zero_add]
   refine Gh.add_cel ?_
   have := (List.getElem?_eq_some_iff.1 hv).1
   rw [if_pos (by rw [← hfl.len]; exact this)]
   exact hv
  ·have := I2.replace i hk
   simpa [tk] using this
end
end Go.LG
