/-
 LG, part O: what a row's arguments are, as data.
-/
import Derived.Test.YtlcfemplcaejgaaLgR
import Derived.Deep.Slices
set_option linter.unusedVariables false
set_option linter.unusedSimpArgs false
namespace Go.LG
open Go.RowKit Go.ChangeShapes Go.WideShapes Go.Deep
section
variable {H : Type} {enc : TypeId × Value → H} {P : Program} {W : World} {α β : Type}
def Wt (P : Program) (T : TypeId) (d : DataW H) : Prop := ∀ n ∈ d.weights P T, n ≤ reachBytes
theorem jl {e : TypeId} : ∀ {ds : List (DataW H)} {d : DataW H}, d ∈ ds → ∀ n ∈ d.weights P e, n ∈ DataW.weightsAll P e ds
 | c :: ds, d, h, n, hn => by
  rw [DataW.weightsAll]
  rcases List.mem_cons.1 h with rfl | h
  ·exact List.mem_append_left _ hn
  ·exact List.mem_append_right _ (jl h n hn)
theorem gk : ∀ {ts : List TypeId} {ds : List (DataW H)} (j : Nat) {t : TypeId} {d : DataW H}, ts[j]? = some t → ds[j]? = some d → ∀ n ∈ d.weights P t, n ∈ DataW.weightsEach P ts ds
 | [], _, j, t, d, h, _, _, _ => by simp at h
 | _ :: _, [], j, t, d, _, h, _, _ => by simp at h
 | t' :: ts, d' :: ds, j, t, d, h1, h2, n, hn => by
  rw [DataW.weightsEach]
  cases j with
  | zero => simp at h1 h2; subst h1; subst h2; exact List.mem_append_left _ hn
  | succ j => exact List.mem_append_right _ (gk j (by simpa using h1) (by simpa using h2) n hn)
theorem m4 {ts : List TypeId} {ds : List (DataW H)} (h : (DataW.weightsEach P ts ds).all (· ≤ reachBytes) = true) (j : Nat) {t : TypeId} {d : DataW H} (h1 : ts[j]? = some t) (h2 : ds[j]? = some d) : Wt P t d := fun n hn => by
 have := List.all_eq_true.1 h n (gk j h1 h2 n hn)
 simpa using this
def mQ (enc : TypeId × Value → H) (P : Program) (W : World) (T : TypeId) (k : Kd α) (ok : α → Prop) : Prop :=
 ∀ fuel cs x, DataW.trod enc P W 0 (fun _ => true) true fuel T cs = some x → Wt P T x.1 → ∃ a, k.K (Gh.whole W) a cs ∧ ok a
def OpF (enc : TypeId × Value → H) (P : Program) (W : World) (fs : Array Field) (i off : Nat) (k : Kd α) (ok : α → Prop) : Prop :=
 ∀ n (cs : List Value), (∀ (j : Nat) (f : Field), fs[j]? = some f → ∃ x, DataW.trod enc P W 0 (fun _ => true) true n f.type ((cs.drop f.offset).take (P.cellsOf f.type)) = some x ∧ Wt P f.type x.1) → cs.length = off + k.sz → ∃ a, k.K (Gh.whole W) a (cs.drop off) ∧ ok a
theorem gD {t : TypeId} {kd : IntKind} (ht : P.underlying t = some (.int kd)) : mQ enc P W t (Kd.int kd) (fun n => (Lit.int kd n).wf = true) := fun fuel cs x h _ => by
 obtain ⟨n, rfl, _, hw⟩ := DataW.trod_int ht h
 exact ⟨n, rfl, hw⟩
theorem lS {t : TypeId} (ht : P.underlying t = some .bool) : mQ enc P W t Kd.bool (fun _ => True) := fun fuel cs x h _ => by
 obtain ⟨n, rfl, _⟩ := DataW.trod_bool ht h
 exact ⟨n, rfl, trivial⟩
theorem mo : reachBytes = 140737488351232 := rfl
theorem p4 {t : TypeId} {s : ByteArray} (h : Wt (H := H) P t (.lit (.string s.data.toList))) : s.size ≤ 140737488351232 := by
 have := h s.data.toList.length (by rw [DataW.weights]; simp)
 rw [mo] at this
 exact this
theorem qi {t : TypeId} (ht : P.underlying t = some .string) : mQ enc P W t Kd.str (fun s => s.size ≤ 140737488351232) := fun fuel cs x h hw => by
 obtain ⟨n, rfl, rfl, _⟩ := DataW.trod_string ht h
 exact ⟨n, rfl, p4 hw⟩
theorem mg {t e b : TypeId} {k : Kd α} {ok : α → Prop} (ht : P.underlying t = some (.slice e)) (hc : P.cellsOf e = k.sz) (hb : P.bytesOf e = b) (h : mQ enc P W e k ok) :
  mQ enc P W t (Kd.slice k) (fun xs => xs.length * b ≤ 140737488351232 ∧ ∀ x ∈ xs, ok x) := fun fuel cs x hx hw => by
 rcases open_slice ht hx with ⟨rfl, _⟩ | ⟨a, len, cap, m, n, D, Pl, rfl, _, hl, hm, hmm, rfl, hi⟩
 ·exact ⟨[], ⟨none, 0, rfl, Nat.le_refl _, Dat.nil _ _ _⟩, by simp, fun _ h => nomatch h⟩
 ·have hml : len ≤ m := by rw [hmm]; simpa using hl
  unfold Wt at hw
  simp only [DataW.weights, ht, List.mem_cons, List.mem_append, List.length_map, List.length_range] at hw
  have hwt := hw _ (.inl rfl)
  have hlen : len * b ≤ 140737488351232 := by
   rw [hb, mo] at hwt
   exact Nat.le_trans (Nat.mul_le_mul_right _ (by omega)) hwt
  have hwe : ∀ i, i < len → Wt P e (D i) := fun i hil n hn => hw n (.inr (.inl (jl (List.mem_map.2 ⟨i, List.mem_range.2 hil, rfl⟩) n hn)))
  have one : ∀ i, i < len → ∃ y, ok y ∧ ∃ cs', k.K (Gh.whole W) y cs' ∧ ∀ j v, cs'[j]? = some v → (Gh.whole W).cel (a.add (i * k.sz + j)) = some v := fun i hil => by
   obtain ⟨cs', h1, h2⟩ := hi i (by omega)
   obtain ⟨y, hK, hy⟩ := h _ _ _ h2 (hwe i hil)
   obtain ⟨_, hlen, hcell⟩ := World.cells?_some h1
   refine ⟨y, hy, cs', hK, fun j v hv => ?_⟩
   have hj : j < P.cellsOf e := by rw [← hlen]; exact (List.getElem?_eq_some_iff.1 hv).1
   have := hcell j hj
   rw [LG.add_add, hc, hv] at this
   exact this
  have all : ∀ q, q ≤ len → ∃ xs : List α, xs.length = q ∧ ∀ i y, xs[i]? = some y → ok y ∧ ∃ cs', k.K (Gh.whole W) y cs' ∧ ∀ j v, cs'[j]? = some v → (Gh.whole W).cel (a.add (i * k.sz + j)) = some v := by
   intro q
   induction q with
   | zero => exact fun _ => ⟨[], rfl, fun i y hy => by simp at hy⟩
   | succ q ih =>
    intro hq
    obtain ⟨xs, hxl, hxs⟩ := ih (by omega)
    obtain ⟨y, hy⟩ := one q (by omega)
    refine ⟨xs ++ [y], by simp [hxl], fun i z hz => ?_⟩
    rw [List.getElem?_append] at hz
    split at hz
    ·exact hxs i z hz
    ·rename_i hge
     have hiq : i = q := by
      have := (List.getElem?_eq_some_iff.1 hz).1
      simp at this
      omega
     subst hiq
     rw [hxl] at hz
     simp at hz
     subst hz
     exact hy
  obtain ⟨xs, hxl, hxs⟩ := all len (Nat.le_refl _)
  subst hxl
  refine ⟨xs, ⟨some a, cap, rfl, hl, fun _ => ⟨a, rfl, fun i y hy => (hxs i y hy).2⟩⟩, hlen, fun y hy => ?_⟩
  obtain ⟨i, hi⟩ := List.getElem?_of_mem hy
  exact (hxs i y hi).1
theorem pa {t : TypeId} {k : Kd α} {ok : α → Prop} {f : β → α} (h : mQ enc P W t k ok) (g : α → β) (hg : ∀ a, f (g a) = a) : mQ enc P W t (k.iso f) (fun b => ok (f b)) := fun fuel cs x hx hw => by
 obtain ⟨a, hK, ha⟩ := h fuel cs x hx hw
 refine ⟨g a, ?_, ?_⟩
 ·show k.K _ (f (g a)) cs
  rw [hg]; exact hK
 ·show ok (f (g a))
  rw [hg]; exact ha
theorem mB {fs : Array Field} {i off : Nat} {k : Kd α} {ok : α → Prop} {f : Field} (hf : fs[i]? = some f) (ho : f.offset = off) (hc : P.cellsOf f.type = k.sz) (h : mQ enc P W f.type k ok) : OpF enc P W fs i off k ok := fun n cs hx hl => by
 obtain ⟨x, hx, hw⟩ := hx i f hf
 rw [ho, hc, List.take_of_length_le (by simp; omega)] at hx
 exact h _ _ _ hx hw
theorem ep {fs : Array Field} {i off : Nat} {k1 : Kd α} {k2 : Kd β} {ok1 : α → Prop} {ok2 : β → Prop} {f : Field} (hf : fs[i]? = some f) (ho : f.offset = off) (hc : P.cellsOf f.type = k1.sz) (h : mQ enc P W f.type k1 ok1)
  (h2 : OpF enc P W fs (i + 1) (off + k1.sz) k2 ok2) : OpF enc P W fs i off (Kd.pair k1 k2) (fun x => ok1 x.1 ∧ ok2 x.2) := fun n cs hx hl => by
 obtain ⟨y, hK2, hy⟩ := h2 n cs hx (by rw [hl]; show off + (k1.sz + k2.sz) = _; omega)
 obtain ⟨x, hx, hw⟩ := hx i f hf
 rw [ho, hc] at hx
 obtain ⟨a, hK1, ha⟩ := h _ _ _ hx hw
 refine ⟨(a, y), ⟨_, _, ?_, hK1, hK2⟩, ha, hy⟩
 rw [← List.drop_drop, List.take_append_drop]
theorem lF {t : TypeId} {fs : Array Field} {k : Kd α} {ok : α → Prop} (ht : P.underlying t = some (.struct fs)) (hc : P.cellsOf t = k.sz) (h : OpF enc P W fs 0 0 k ok) : mQ enc P W t k ok := fun fuel cs x hx hw => by
 obtain ⟨xs, n, rfl, rfl, hl, hxl, hf⟩ := DataW.trod_struct ht hx
 unfold Wt at hw
 simp only [DataW.weights, ht] at hw
 obtain ⟨a, hK, ha⟩ := h n cs (fun j f hj => by
  rw [hf j f hj]
  have hjl : j < xs.length := by rw [hxl]; exact (Array.getElem?_eq_some_iff.1 hj).1
  refine ⟨xs[j], List.getElem?_eq_getElem hjl, fun m hm => hw m (gk j ?_ ?_ m hm)⟩
  ·rw [List.getElem?_map, Array.getElem?_toList, hj]; rfl
  ·rw [List.getElem?_map, List.getElem?_eq_getElem hjl]; rfl) (by rw [hl, hc]; omega)
 exact ⟨a, by simpa using hK, ha⟩
theorem pT {t : TypeId} {k : Kd α} {ok ok' : α → Prop} (h : mQ enc P W t k ok) (hh : ∀ a, ok a → ok' a) : mQ enc P W t k ok' := fun fuel cs x hx hw => by
 obtain ⟨a, hK, ha⟩ := h fuel cs x hx hw
 exact ⟨a, hK, hh a ha⟩
variable {r : Reach} {b0 : Nat} {v : Value} {d : DataW H} {ps : List MemPlace} {t : TypeId}
theorem lJ {e : TypeId} {k : Kd α} {ok : List α → Prop} (ht : P.underlying t = some (.slice e)) (hop : mQ enc P W t (Kd.slice k) ok) (hval : Value.okWide P W r b0 t v) (hd : DataW.Trod enc P W 0 (fun _ => true) true t v d ps) (hw : Wt P t d) :
  ∃ xs A c, v = .slice A xs.length c ∧ xs.length ≤ c ∧ Dat k (Gh.whole W) A xs ∧ ok xs := by
 obtain ⟨A, n, c, rfl⟩ := WideShapes.okWide_slice ht hval
 obtain ⟨fuel, hf⟩ := hd
 obtain ⟨xs, ⟨A', c', h, hl, hD⟩, hok⟩ := hop _ _ _ hf hw
 simp [Value.cells] at h
 obtain ⟨rfl, rfl, rfl⟩ := h
 exact ⟨xs, A, c, rfl, hl, hD, hok⟩
theorem m8 {fs : Array Field} {k : Kd α} {ok : α → Prop} (ht : P.underlying t = some (.struct fs)) (hop : mQ enc P W t k ok) (hval : Value.okWide P W r b0 t v) (hd : DataW.Trod enc P W 0 (fun _ => true) true t v d ps) (hw : Wt P t d) :
  ∃ x cs, v = .agg cs.toArray ∧ k.K (Gh.whole W) x cs ∧ ok x := by
 obtain ⟨cs, rfl, _⟩ := WideShapes.okWide_struct ht hval
 obtain ⟨fuel, hf⟩ := hd
 obtain ⟨x, hK, hok⟩ := hop _ _ _ hf hw
 exact ⟨x, cs.toList, by simp, by simpa [Value.cells] using hK, hok⟩
end
end Go.LG
