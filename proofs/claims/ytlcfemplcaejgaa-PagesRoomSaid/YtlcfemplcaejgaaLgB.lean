/-
  LG, part B: what is known of memory. 'Hp G L w': the cells of G.cel hold what they hold for ever, the blocks of G.blk lie for ever, the blocks of L are owned.
-/
import Derived.Test.YtlcfemplcaejgaaLgA
import Derived.Laws.World
import Derived.Laws.Cells
import Derived.Laws.Append
import Derived.Laws.AppendOwn
set_option linter.unusedVariables false
set_option linter.unusedSimpArgs false
namespace Go.LG
open Go.RowKit

structure Gh where
  cel : Addr → Option Value
  blk : Nat → Option Obj
  os : Os
  tape : Nat → Question → Nat
  out : Array (Nat × ByteArray)
structure Gh.Le (G G' : Gh) : Prop where
  cel : ∀ a v, G.cel a = some v → G'.cel a = some v
  blk : ∀ g o, G.blk g = some o → G'.blk g = some o
  os : G'.os = G.os
  tape : G'.tape = G.tape
  out : G'.out = G.out
instance : LE Gh := ⟨Gh.Le⟩
theorem Gh.le_refl (G : Gh) : G ≤ G := ⟨fun _ _ h => h, fun _ _ h => h, rfl, rfl, rfl⟩
theorem Gh.le_trans {A B C : Gh} (h : A ≤ B) (k : B ≤ C) : A ≤ C :=
  ⟨fun a v x => k.cel a v (h.cel a v x), fun g o x => k.blk g o (h.blk g o x), k.os.trans h.os, k.tape.trans h.tape, k.out.trans h.out⟩
def Gh.add (G : Gh) (g : Nat) (f : Nat → Option Value) : Gh :=
  { G with cel := fun a => if a.block = g ∧ a.spot = none then (match f a.off with | some v => some v | none => G.cel a) else G.cel a }
theorem Gh.add_cel {G : Gh} {g : Nat} {f : Nat → Option Value} {i : Nat} {v : Value} (h : f i = some v) : (G.add g f).cel ⟨g, i, none⟩ = some v := by simp [Gh.add, h]

structure dv where
  blk : Option Nat
  lo : Nat
  P : Obj → Prop
def bx (g : Nat) (vs : List Value) (T : TypeId) : dv := ⟨some g, 0, fun o => o = .cells vs.toArray T (0, 0)⟩
def ob (g : Nat) (o : Obj) : dv := ⟨some g, 0, fun o' => o' = o⟩
def ar (g lo hi : Nat) (T : TypeId) : dv := ⟨some g, lo, fun o => ∃ c, o = .cells c T (0, 0) ∧ hi ≤ c.size⟩
def emp : dv := ⟨none, 0, fun _ => True⟩
def tk (v : Value) (sz : Nat) (T : TypeId) : dv :=
  match v with
  | .slice (some a) n c => ar a.block (a.off + n * sz) (a.off + c * sz) T
  | _ => emp
structure Hp (G : Gh) (L : List dv) (w : World) : Prop where
  os : w.os = G.os
  tape : w.tape = G.tape
  out : w.output = G.out
  cel : ∀ a v, G.cel a = some v → w.cell? a = some v
  blk : ∀ g o, G.blk g = some o → w.heap[g]? = some o
  own : ∀ it ∈ L, ∀ g, it.blk = some g → ∃ o, w.heap[g]? = some o ∧ it.P o
  sepB : ∀ it ∈ L, ∀ g, it.blk = some g → G.blk g = none
  sepC : ∀ it ∈ L, ∀ g, it.blk = some g → ∀ a : Addr, a.block = g → it.lo ≤ a.off → G.cel a = none
  sepL : L.Pairwise fun x y => ∀ g, x.blk = some g → y.blk ≠ some g

section
variable {G G' : Gh} {L L' : List dv} {w w' : World}
theorem lH (w : World) (o : Obj) : (w.alloc o).heap[w.heap.size]? = some o := by
  show (w.heap.push o)[w.heap.size]? = some o
  simp
theorem Hp.sub (h : Hp G L w) (hs : L'.Sublist L) : Hp G L' w :=
  ⟨h.os, h.tape, h.out, h.cel, h.blk, fun it hi => h.own it (hs.subset hi), fun it hi => h.sepB it (hs.subset hi), fun it hi => h.sepC it (hs.subset hi), h.sepL.sublist hs⟩
theorem Hp.perm (h : Hp G L w) (hp : L.Perm L') : Hp G L' w :=
  ⟨h.os, h.tape, h.out, h.cel, h.blk, fun it hi => h.own it (hp.mem_iff.2 hi), fun it hi => h.sepB it (hp.mem_iff.2 hi), fun it hi => h.sepC it (hp.mem_iff.2 hi),
   h.sepL.perm hp (fun {x y} hxy g hy hx => hxy g hx hy)⟩
theorem Hp.front (h : Hp G L w) (k : Nat) {it : dv} (hk : L[k]? = some it) : Hp G (it :: L.eraseIdx k) w := by
  refine h.perm ?_
  have hlt : k < L.length := (List.getElem?_eq_some_iff.1 hk).1
  have : L[k] = it := (List.getElem?_eq_some_iff.1 hk).2
  subst this
  rw [List.eraseIdx_eq_take_drop_succ]
  have h2 : L = L.take k ++ L[k] :: L.drop (k + 1) := by
    rw [← List.drop_eq_getElem_cons hlt, List.take_append_drop]
  have h3 : (L.take k ++ L[k] :: L.drop (k + 1)).Perm (L[k] :: (L.take k ++ L.drop (k + 1))) := List.perm_middle
  rwa [← h2] at h3
theorem Hp.drop {it : dv} (h : Hp G (it :: L) w) : Hp G L w := h.sub (List.sublist_cons_self _ _)
theorem Hp.at (h : Hp G L w) (k : Nat) {it : dv} (hk : L[k]? = some it) {g : Nat} (hg : it.blk = some g) : ∃ o, w.heap[g]? = some o ∧ it.P o :=
  h.own it (List.mem_of_getElem? hk) g hg
theorem Hp.bx (h : Hp G L w) (k : Nat) {g : Nat} {vs : List Value} {T : TypeId} (hk : L[k]? = some (bx g vs T)) : w.heap[g]? = some (.cells vs.toArray T (0, 0)) := by
  obtain ⟨o, ho, rfl⟩ := h.at k hk rfl
  exact ho
theorem Hp.bx_cell (h : Hp G L w) (k : Nat) {g : Nat} {vs : List Value} {T : TypeId} (hk : L[k]? = some (LG.bx g vs T)) {i : Nat} {v : Value} (hv : vs[i]? = some v) :
    w.cell? ⟨g, i, none⟩ = some v := by simp [World.cell?, h.bx k hk, hv]
theorem Hp.bx_frozen (h : Hp G L w) (k : Nat) {g : Nat} {vs : List Value} {T : TypeId} (hk : L[k]? = some (LG.bx g vs T)) (i : Nat) :
    w.frozen? ⟨g, i, none⟩ = false := by simp [World.frozen?, h.bx k hk]
theorem Hp.cel_lt (h : Hp G L w) {a : Addr} {v : Value} (ha : G.cel a = some v) : a.block < w.heap.size := World.block_lt_of_cell? w a (h.cel a v ha)
theorem Hp.blk_lt (h : Hp G L w) {g : Nat} {o : Obj} (hg : G.blk g = some o) : g < w.heap.size := (Array.getElem?_eq_some_iff.1 (h.blk g o hg)).1
theorem Hp.own_lt (h : Hp G L w) {it : dv} (hi : it ∈ L) {g : Nat} (hg : it.blk = some g) : g < w.heap.size := by
  obtain ⟨o, ho, _⟩ := h.own it hi g hg
  exact (Array.getElem?_eq_some_iff.1 ho).1
theorem Hp.drew (h : Hp G L w) : Hp G L w.drew := ⟨h.os, h.tape, h.out, h.cel, h.blk, h.own, h.sepB, h.sepC, h.sepL⟩
theorem Hp.alloc (h : Hp G L w) (o : Obj) (lo : Nat) (p : Obj → Prop) (hp : p o) : Hp G (⟨some w.heap.size, lo, p⟩ :: L) (w.alloc o) := {
  os := h.os
  tape := h.tape
  out := h.out
  cel := fun a v ha => by rw [World.cell?_alloc_lt (h := h.cel_lt ha)]; exact h.cel a v ha
  blk g o' hg := by
    have := h.blk_lt hg
    simp only [World.alloc]
    rw [Array.getElem?_push, if_neg (by omega)]
    exact h.blk g o' hg
  own := fun it hi g hg => by
    rcases List.mem_cons.1 hi with rfl | hi
    · cases hg
      exact ⟨o, lH w o, hp⟩
    · have := h.own_lt hi hg
      obtain ⟨o', ho, hp'⟩ := h.own it hi g hg
      refine ⟨o', ?_, hp'⟩
      simp only [World.alloc]
      rw [Array.getElem?_push, if_neg (by omega)]
      exact ho
  sepB := fun it hi g hg => by
    rcases List.mem_cons.1 hi with rfl | hi
    · cases hg
      cases hb : G.blk w.heap.size with
      | none => rfl
      | some o' => exact absurd (h.blk_lt hb) (by omega)
    · exact h.sepB it hi g hg
  sepC := fun it hi g hg a ha hl => by
    rcases List.mem_cons.1 hi with rfl | hi
    · cases hg
      cases hb : G.cel a with
      | none => rfl
      | some o' => exact absurd (h.cel_lt hb) (by omega)
    · exact h.sepC it hi g hg a ha hl
  sepL := by
    refine List.pairwise_cons.2 ⟨fun it hi g hg hg' => ?_, h.sepL⟩
    cases hg
    exact absurd (h.own_lt hi hg') (by omega) }
theorem Hp.alloc_bx (h : Hp G L w) (vs : List Value) (T : TypeId) : Hp G (LG.bx w.heap.size vs T :: L) (w.alloc (.cells vs.toArray T)) := h.alloc _ 0 _ rfl
theorem Hp.alloc_ob (h : Hp G L w) (o : Obj) : Hp G (LG.ob w.heap.size o :: L) (w.alloc o) := h.alloc _ 0 _ rfl
theorem Hp.add (h : Hp G L w) (g : Nat) (f : Nat → Option Value) (hf : ∀ i v, f i = some v → w.cell? ⟨g, i, none⟩ = some v)
    (hs : ∀ it ∈ L, it.blk = some g → ∀ i, it.lo ≤ i → f i = none) : Hp (G.add g f) L w ∧ G ≤ G.add g f := by
  have key : ∀ a v, (G.add g f).cel a = some v → G.cel a = some v ∨ (a.block = g ∧ a.spot = none ∧ f a.off = some v) := by
    intro a v ha
    simp only [Gh.add] at ha
    split at ha
    · rename_i hc
      split at ha
      · rename_i u hu
        exact .inr ⟨hc.1, hc.2, hu.trans ha⟩
      · exact .inl ha
    · exact .inl ha
  refine ⟨⟨h.os, h.tape, h.out, fun a v ha => ?_, h.blk, h.own, h.sepB, fun it hi g' hg a ha hl => ?_, h.sepL⟩, ⟨fun a v ha => ?_, fun _ _ h => h, rfl, rfl, rfl⟩⟩
  · rcases key a v ha with hk | ⟨h1, h2, h3⟩
    · exact h.cel a v hk
    · obtain ⟨b, i, s⟩ := a
      simp only at h1 h2 h3
      subst h1; subst h2
      exact hf i v h3
  · cases hc : (G.add g f).cel a with
    | none => rfl
    | some v =>
      rcases key a v hc with hk | ⟨h1, h2, h3⟩
      · rw [h.sepC it hi g' hg a ha hl] at hk; cases hk
      · have : g' = g := ha ▸ h1
        subst this
        rw [hs it hi hg a.off hl] at h3; cases h3
  · simp only [Gh.add]
    split
    · rename_i hc
      split
      · rename_i u hu
        obtain ⟨b, i, s⟩ := a
        simp only at hc hu
        obtain ⟨h1, h2⟩ := hc
        subst h1; subst h2
        have e1 := hf i u hu
        have e2 := h.cel _ v ha
        rw [e1] at e2
        exact e2
      · exact ha
    · exact ha
theorem Hp.write (h : Hp G L w) (k : Nat) {it it' : dv} (hk : L[k]? = some it) {g : Nat} (hg : it.blk = some g) (hg' : it'.blk = some g) (hlo : it.lo ≤ it'.lo) {w' : World}
    (hos : w'.os = w.os) (htape : w'.tape = w.tape) (hout : w'.output = w.output) (hsame : ∀ j, j ≠ g → w'.heap[j]? = w.heap[j]?)
    (hcel : ∀ a : Addr, a.block = g → a.off < it.lo → w'.cell? a = w.cell? a) {o : Obj} (ho : w'.heap[g]? = some o) (hp : it'.P o) : Hp G (L.set k it') w' := by
  have hlt : k < L.length := (List.getElem?_eq_some_iff.1 hk).1
  have hLk : L[k] = it := (List.getElem?_eq_some_iff.1 hk).2
  have hmem := List.mem_of_getElem? hk
  have hother : ∀ j x, j ≠ k → L[j]? = some x → ∀ g', x.blk = some g' → g' ≠ g := by
    intro j x hj hx g' hx' e
    subst e
    have hjl : j < L.length := (List.getElem?_eq_some_iff.1 hx).1
    have hLj : L[j] = x := (List.getElem?_eq_some_iff.1 hx).2
    have hp := List.pairwise_iff_getElem.1 h.sepL
    rcases Nat.lt_or_gt_of_ne hj with hlt' | hgt
    · exact hp j k hjl hlt hlt' g' (by rw [hLj]; exact hx') (by rw [hLk]; exact hg)
    · exact hp k j hlt hjl hgt g' (by rw [hLk]; exact hg) (by rw [hLj]; exact hx')
  have hmem' : ∀ x, x ∈ L.set k it' → x = it' ∨ ∃ j, j ≠ k ∧ L[j]? = some x := by
    intro x hx
    obtain ⟨j, hj⟩ := List.getElem?_of_mem hx
    by_cases hjk : j = k
    · subst hjk
      rw [List.getElem?_set_self hlt] at hj
      exact .inl (Option.some.inj hj).symm
    · rw [List.getElem?_set_ne (fun e => hjk e.symm)] at hj
      exact .inr ⟨j, hjk, hj⟩
  have hblkg : G.blk g = none := h.sepB it hmem g hg
  refine ⟨hos.trans h.os, htape.trans h.tape, hout.trans h.out, fun a v ha => ?_, fun g' o' hg'' => ?_, fun x hx g' hx' => ?_, fun x hx g' hx' => ?_, fun x hx g' hx' a ha hl => ?_, ?_⟩
  · have hc := h.cel a v ha
    by_cases hag : a.block = g
    · rw [hcel a hag ?_]
      · exact hc
      · rcases Nat.lt_or_ge a.off it.lo with hlt' | hge
        · exact hlt'
        · rw [h.sepC it hmem g hg a hag hge] at ha; cases ha
    · rw [← hc]; unfold World.cell?; rw [hsame _ hag]
  · rw [hsame g' ?_]
    · exact h.blk g' o' hg''
    · intro e; subst e; rw [hblkg] at hg''; cases hg''
  · rcases hmem' x hx with rfl | ⟨j, hj, hxj⟩
    · rw [hg'] at hx'; cases hx'
      exact ⟨o, ho, hp⟩
    · rw [hsame g' (hother j x hj hxj g' hx')]
      exact h.own x (List.mem_of_getElem? hxj) g' hx'
  · rcases hmem' x hx with rfl | ⟨j, hj, hxj⟩
    · rw [hg'] at hx'; cases hx'; exact hblkg
    · exact h.sepB x (List.mem_of_getElem? hxj) g' hx'
  · rcases hmem' x hx with rfl | ⟨j, hj, hxj⟩
    · rw [hg'] at hx'; cases hx'
      exact h.sepC it hmem g hg a ha (Nat.le_trans hlo hl)
    · exact h.sepC x (List.mem_of_getElem? hxj) g' hx' a ha hl
  · rw [List.pairwise_iff_getElem]
    intro i j hi hj hij g' hxi hxj
    simp only [List.length_set] at hi hj
    have hp := List.pairwise_iff_getElem.1 h.sepL i j hi hj hij
    rw [List.getElem_set] at hxi hxj
    split at hxi
    · rename_i e; subst e
      rw [hg'] at hxi; cases hxi
      split at hxj
      · omega
      · exact hp g (by rw [hLk]; exact hg) hxj
    · split at hxj
      · rename_i e; subst e
        rw [hg'] at hxj; cases hxj
        exact hp g hxi (by rw [hLk]; exact hg)
      · exact hp g' hxi hxj
theorem gn (w : World) (a : Addr) (v : Value) {j : Nat} (h : j ≠ a.block) : (w.setCell a v).heap[j]? = w.heap[j]? := by
  simp only [World.setCell]
  rw [Array.getElem?_modify, if_neg (fun e => h e.symm)]
theorem heap_setCell_same (w : World) (g i : Nat) (v : Value) {c : Array Value} {T : TypeId} {fr : Nat × Nat} (h : w.heap[g]? = some (.cells c T fr)) :
    (w.setCell ⟨g, i, none⟩ v).heap[g]? = some (.cells (c.setIfInBounds i v) T fr) := by
  simp only [World.setCell]
  rw [Array.getElem?_modify, if_pos rfl, h]; simp
theorem Hp.store (h : Hp G L w) (k : Nat) {g : Nat} {vs : List Value} {T : TypeId} (hk : L[k]? = some (LG.bx g vs T)) (i : Nat) (v : Value) :
    Hp G (L.set k (LG.bx g (vs.set i v) T)) (w.setCell ⟨g, i, none⟩ v) :=
  h.write k hk (it' := LG.bx g (vs.set i v) T) rfl rfl (Nat.le_refl _) rfl rfl rfl (fun j hj => gn w _ v hj)
    (fun a ha hl => absurd hl (Nat.not_lt_zero _)) (heap_setCell_same w g i v (h.bx k hk)) (by simp [LG.bx])
end
end Go.LG
