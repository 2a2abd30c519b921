/-
 LG, part S: rows whose elements are written.
-/
import Derived.Test.YtoladeanenmepaaGreatDoorLgN
import Derived.Laws.MakeOwn
set_option linter.unusedVariables false
set_option linter.unusedSimpArgs false
namespace Go.LG
open Go.RowKit

section
variable {P : Program} {G : Gh} {L : List Itm} {w : World}
end
theorem setAll_at : ∀ (cs vs : List Value) (p : Nat) (j : Nat), p + cs.length ≤ vs.length → (setAll vs p cs)[j]? = if p ≤ j ∧ j < p + cs.length then cs[j - p]? else vs[j]?
 | [], vs, p, j, _ => by
  rw [setAll, if_neg (by simp only [List.length_nil]; omega)]
 | c :: cs, vs, p, j, h => by
  simp only [List.length_cons] at h
  rw [setAll, setAll_at cs (vs.set p c) (p + 1) j (by simp; omega)]
  by_cases h1 : p + 1 ≤ j ∧ j < p + 1 + cs.length
  ·rw [if_pos h1, if_pos (by simp; omega), show j - p = (j - (p + 1)) + 1 by omega, List.getElem?_cons_succ]
  ·rw [if_neg h1]
   by_cases h2 : j = p
   ·subst h2
    rw [if_pos (by simp), List.getElem?_set_self (by omega)]; simp
   ·rw [if_neg (by simp; omega), List.getElem?_set_ne (fun e => h2 e.symm)]
theorem setAll_left (c1 c2 : List Value) (p : Nat) (news : List Value) (h : p + news.length ≤ c1.length) : setAll (c1 ++ c2) p news = setAll c1 p news ++ c2 := by
 apply List.ext_getElem?
 intro j
 have hl : (setAll c1 p news).length = c1.length := setAll_length _ _ _
 rw [setAll_at _ _ _ _ (by simp; omega), List.getElem?_append, List.getElem?_append, hl]
 by_cases h1 : j < c1.length
 ·rw [if_pos h1, if_pos h1, setAll_at _ _ _ _ h]
 ·rw [if_neg h1, if_neg h1, if_neg (by omega)]
theorem setAll_right (c1 c2 : List Value) (p : Nat) (news : List Value) (h : p + news.length ≤ c2.length) : setAll (c1 ++ c2) (c1.length + p) news = c1 ++ setAll c2 p news := by
 apply List.ext_getElem?
 intro j
 rw [setAll_at _ _ _ _ (by simp; omega), List.getElem?_append, List.getElem?_append]
 by_cases h1 : j < c1.length
 ·rw [if_pos h1, if_pos h1, if_neg (by omega)]
 ·rw [if_neg h1, if_neg h1, setAll_at _ _ _ _ h]
  by_cases h2 : p ≤ j - c1.length ∧ j - c1.length < p + news.length
  ·rw [if_pos h2, if_pos (by omega), show j - (c1.length + p) = j - c1.length - p by omega]
  ·rw [if_neg h2, if_neg (by omega)]
theorem Flat.split {α : Type} {k : Kd α} {G : Gh} : ∀ {xs ys : List α} {cs : List Value}, Flat k G (xs ++ ys) cs → ∃ c1 c2, cs = c1 ++ c2 ∧ Flat k G xs c1 ∧ Flat k G ys c2
 | [], ys, cs, h => ⟨[], cs, rfl, rfl, h⟩
 | x :: xs, ys, cs, ⟨c1, c2, h, h1, h2⟩ => by
  obtain ⟨d1, d2, rfl, h3, h4⟩ := Flat.split h2
  exact ⟨c1 ++ d1, d2, by rw [h, List.append_assoc], ⟨c1, d1, rfl, h1, h3⟩, h4⟩
theorem Flat.set {α : Type} {k : Kd α} {G G' : Gh} (hG : G ≤ G') {y : α} {off : Nat} {news : List Value} (hoff : off + news.length ≤ k.sz) : ∀ {xs : List α} {fl : List Value} (i : Nat) {x : α}, Flat k G xs fl → xs[i]? = some x → (∀ old, k.K G x old → k.K G' y (setAll old off news)) →
  Flat k G' (xs.set i y) (setAll fl (i * k.sz + off) news)
 | [], fl, i, x, _, hx, _ => by simp at hx
 | x :: xs, fl, 0, z, ⟨c1, c2, h, h1, h2⟩, hx, hK => by
  simp at hx; subst hx
  subst h
  rw [Nat.zero_mul, Nat.zero_add, setAll_left _ _ _ _ (by rw [k.len h1]; exact hoff)]
  exact ⟨_, _, rfl, hK _ h1, h2.mono hG⟩
 | x :: xs, fl, i + 1, z, ⟨c1, c2, h, h1, h2⟩, hx, hK => by
  subst h
  have hi : i < xs.length := by
   have := (List.getElem?_eq_some_iff.1 hx).1
   simpa using this
  have hl := h2.len
  have hm : i * k.sz + k.sz ≤ xs.length * k.sz := by
   rw [← Nat.succ_mul]; exact Nat.mul_le_mul_right _ hi
  rw [show (i + 1) * k.sz + off = c1.length + (i * k.sz + off) by rw [k.len h1, Nat.add_mul, Nat.one_mul]; omega, setAll_right _ _ _ _ (by omega)]
  exact ⟨_, _, rfl, k.mono hG h1, Flat.set hG hoff i h2 (by simpa using hx) hK⟩
theorem Flat.get {α : Type} {k : Kd α} {G : Gh} : ∀ {xs : List α} {fl : List Value} (i : Nat) {x : α}, Flat k G xs fl → xs[i]? = some x → ∃ cs, k.K G x cs ∧ ∀ q v, cs[q]? = some v → fl[i * k.sz + q]? = some v
 | [], fl, i, x, _, hx => by simp at hx
 | x :: xs, fl, 0, z, ⟨c1, c2, h, h1, h2⟩, hx => by
  simp at hx; subst hx
  refine ⟨c1, h1, fun q v hv => ?_⟩
  have hq := (List.getElem?_eq_some_iff.1 hv).1
  rw [h, Nat.zero_mul, Nat.zero_add, List.getElem?_append, if_pos hq]; exact hv
 | x :: xs, fl, i + 1, z, ⟨c1, c2, h, h1, h2⟩, hx => by
  obtain ⟨cs, hK, hc⟩ := Flat.get i h2 (by simpa using hx)
  refine ⟨cs, hK, fun q v hv => ?_⟩
  rw [h, show (i + 1) * k.sz + q = c1.length + (i * k.sz + q) by rw [k.len h1, Nat.add_mul, Nat.one_mul]; omega, List.getElem?_append_right (by omega)]
  rw [show c1.length + (i * k.sz + q) - c1.length = i * k.sz + q by omega]; exact hc q v hv
theorem Flat.replicate {α : Type} {k : Kd α} {G : Gh} {z : α} {zs : List Value} (h : k.K G z zs) : ∀ n, Flat k G (List.replicate n z) ((List.replicate n zs).flatten)
 | 0 => rfl
 | n + 1 => ⟨zs, _, by rw [List.replicate_succ, List.flatten_cons], h, Flat.replicate h n⟩

structure Mw (A0 A : Option Addr) (np n c lim sz : Nat) : Prop where
 ok : c = 0 ∨ ∃ g o, A0 = some ⟨g, o, none⟩ ∧ A = some ⟨g, o + np * sz, none⟩
 le : n ≤ c
section
variable {P : Program} {ro : Option Nat} {N : Nat} {ops : Array Oper} {rest : List Oper} {Q : Post} {r : Rg} {ds : List Deferred} {w : World}
variable {d : Option Nat} {ty : TypeId} {ps : String} {af : Array Edge} {gd : Option (Nat × Bool)} {x y : Operand} {G Gx : Gh} {L : List Itm}
variable {α : Type} {kd : Kd α} {A0 A : Option Addr} {pre t post : List α} {n c lim : Nat} {T : TypeId}
theorem Mw.ad {np sz : Nat} (hM : Mw A0 A np n c lim sz) {j : Int} (h0 : 0 ≤ j) (h1 : j < (n : Int)) : ∃ ad, A = some ad := by
 have hle := hM.le
 rcases hM.ok with h | ⟨g, o, _, h⟩
 ·omega
 ·exact ⟨_, h⟩
theorem Mw.new (g : Nat) (n sz : Nat) : Mw (some ⟨g, 0, none⟩) (some ⟨g, 0, none⟩) ([] : List α).length n n n sz := ⟨.inr ⟨g, 0, rfl, by simp⟩, Nat.le_refl _⟩
theorem Dat.none {β : Type} {k : Kd β} {G' : Gh} {xs : List β} (h : Dat k G' none xs) : xs = [] := by
 cases xs with
 | nil => rfl
 | cons x xs =>
  obtain ⟨a, ha, _⟩ := h (by simp)
  cases ha
theorem Mw.nil {np sz : Nat} (hM : Mw A0 none np n c lim sz) (hn : t.length = n) : t = [] := by
 have := hM.le
 rcases hM.ok with h | ⟨g, o, _, h⟩
 ·exact List.eq_nil_of_length_eq_zero (by omega)
 ·cases h
end
end Go.LG
