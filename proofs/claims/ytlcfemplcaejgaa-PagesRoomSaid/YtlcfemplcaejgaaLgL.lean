/-
 LG, part L: rows whose elements' own slices may grow: beside each element stand the addresses of its slices; the free places behind these are a segment of what is owned.
-/
import Derived.Test.YtlcfemplcaejgaaLgX
set_option linter.unusedVariables false
set_option linter.unusedSimpArgs false
namespace Go.LG
open Go.RowKit

theorem eE {α β : Type} {t : List α} {u : List β} {n : Nat} (hn : t.length = n) (hu : u.length = n) : (t.zip u).length = n := by rw [List.length_zip, hn, hu, Nat.min_self]
theorem gH {α β : Type} {t : List α} {u : List β} {n i : Nat} (hn : t.length = n) (hu : u.length = n) (z : α) (za : β) (h : i < n) : (t.zip u)[i]? = some (t.getD i z, u.getD i za) := by
 rw [List.getElem?_eq_getElem (by rw [eE hn hu]; exact h), List.getElem_zip]
 simp [List.getD_eq_getElem?_getD, hn, hu, h]
theorem gc {α β : Type} {t : List α} {u : List β} {n i : Nat} (hn : t.length = n) (hu : u.length = n) (z : α) (za : β) (h : i < n) : (t.zip u).getD i (z, za) = (t.getD i z, u.getD i za) := by
 rw [List.getD_eq_getElem?_getD, gH hn hu z za h]; rfl
theorem d9 {α β : Type} : ∀ (t : List α) (u : List β) (i : Nat) (y : α) (a : β), (t.set i y).zip (u.set i a) = (t.zip u).set i (y, a)
 | [], u, i, y, a => by simp
 | x :: t, [], i, y, a => by simp
 | x :: t, b :: u, 0, y, a => rfl
 | x :: t, b :: u, i + 1, y, a => by simp [d9 t u i y a]
theorem ml {α β : Type} {t : List α} {u : List β} {n : Nat} (hn : t.length = n) (hu : u.length = n) (y : α) (a : β) : (t ++ [y]).zip (u ++ [a]) = t.zip u ++ [(y, a)] := by
 rw [List.zip_append (by rw [hn, hu])]; rfl
theorem mH {α β : Type} {t : List α} {u : List β} {p : α × β} {n n' : Nat} {γ : Type} {v : List γ} {y : γ} (h : (t.zip u ++ [p]).length = n') (hn : t.length = n) (hu : u.length = n) (hv : v.length = n) : (v ++ [y]).length = n' := by
 rw [List.length_append, eE hn hu] at h
 rw [List.length_append, hv]; exact h
theorem ez {j : Int} {n : Nat} (h0 : 0 ≤ j) (h1 : j < (n : Int)) : j.toNat < n := by omega
section
variable {P : Program} {w : World} {G Gx : Gh} {L : List dv} {α β : Type} {kd : Kd (α × β)} {A0 A : Option Addr} {t : List α} {u : List β} {n c lim : Nat} {T : TypeId}
theorem Hp.opGet (I : Hp G L w) (i : Nat) (hk : L[i]? = some (bO Gx kd A0 [] (t.zip u) [] lim T)) (hM : Mw A0 A 0 n c lim kd.sz) (hn : t.length = n) (hu : u.length = n) {ad : Addr} (hA : A = some ad) (z : α) (za : β) {j : Int} (h0 : 0 ≤ j) (h1 : j < (n : Int)) :
  ∃ cs, kd.K Gx (t.getD j.toNat z, u.getD j.toNat za) cs ∧ cs.length = kd.sz ∧ ∀ q v, cs[q]? = some v → w.cell? ((ad.add (j.toNat * kd.sz)).add q) = some v := by
 have := I.rwGet i hk hM (eE hn hu) hA (z, za) h0 h1
 rwa [gc hn hu z za (ez h0 h1)] at this
theorem Flat.weak {k : Kd α} (hK : ∀ G x cs, kd.K G x cs → k.K G x.1 cs) : ∀ {t : List α} {u : List β} {fl : List Value}, t.length = u.length → Flat kd G (t.zip u) fl → Flat k G t fl
 | [], u, fl, h, hf => hf
 | x :: t, [], fl, h, hf => by simp at h
 | x :: t, b :: u, fl, h, ⟨c1, c2, e, h1, h2⟩ => ⟨c1, c2, e, hK _ _ _ h1, Flat.weak hK (by simpa using h) h2⟩
theorem Hp.opWeak {k : Kd α} (hK : ∀ G x cs, kd.K G x cs → k.K G x.1 cs) (hsz : kd.sz = k.sz) (I : Hp G L w) (i : Nat) (hk : L[i]? = some (bO Gx kd A0 [] (t.zip u) [] lim T)) (hn : t.length = n) (hu : u.length = n) :
  Hp G (L.set i (bO Gx k A0 [] t [] lim T)) w := by
 cases A0 with
 | none =>
  obtain ⟨hlt, he⟩ := List.getElem?_eq_some_iff.1 hk
  have : bO Gx k none [] t [] lim T = L[i] := by rw [he]; rfl
  rw [this, List.set_getElem_self hlt]
  exact I
 | some a =>
  refine I.retell i hk (it' := bO Gx k (some a) [] t [] lim T) rfl rfl (Nat.le_refl _) (fun o' ho' hp => ?_)
  obtain ⟨hsp, cs, hcs, h1, h2, fl, hF, hfl⟩ := hp
  simp only [List.nil_append, List.append_nil] at h2 hF
  rw [eE hn hu] at h2
  refine ⟨hsp, cs, hcs, by rw [← hsz]; exact h1, by simp only [List.nil_append, List.append_nil]; omega, fl, ?_, hfl⟩
  simp only [List.nil_append, List.append_nil]
  exact Flat.weak hK (by rw [hn, hu]) hF
end

section
variable {w : World} {G : Gh} {γ : Type} {tf : γ → List dv} {t : List γ} {T K A B X : List dv} {it it' : dv} {i : Nat} {x x' : γ}
def k9 (tf : γ → List dv) (t : List γ) (i : Nat) (A B : List dv) : List dv := List.flatMap tf (t.take i) ++ ((A ++ B) ++ List.flatMap tf (t.drop (i + 1)))
theorem mN (hx : t[i]? = some x) : t = t.take i ++ x :: t.drop (i + 1) := by
 obtain ⟨hlt, he⟩ := List.getElem?_eq_some_iff.1 hx
 rw [← he, ← List.drop_eq_getElem_cons hlt, List.take_append_drop]
theorem mG (hx : t[i]? = some x) (hf : tf x = A ++ it :: B) : (K ++ (List.flatMap tf t ++ T)).Perm (it :: (K ++ (k9 tf t i A B ++ T))) := by
 have e : List.flatMap tf t = List.flatMap tf (t.take i) ++ (A ++ it :: (B ++ List.flatMap tf (t.drop (i + 1)))) := by
  conv => lhs; rw [mN hx]
  rw [List.flatMap_append, List.flatMap_cons, hf]
  simp
 rw [e]
 unfold k9
 have p : (K ++ ((List.flatMap tf (t.take i) ++ (A ++ it :: (B ++ List.flatMap tf (t.drop (i + 1))))) ++ T)).Perm (it :: (K ++ ((List.flatMap tf (t.take i) ++ (A ++ (B ++ List.flatMap tf (t.drop (i + 1))))) ++ T))) := by
  have q : K ++ ((List.flatMap tf (t.take i) ++ (A ++ it :: (B ++ List.flatMap tf (t.drop (i + 1))))) ++ T) = (K ++ (List.flatMap tf (t.take i) ++ A)) ++ it :: ((B ++ List.flatMap tf (t.drop (i + 1))) ++ T) := by simp
  rw [q]
  refine List.perm_middle.trans ?_
  simp
 simpa [List.append_assoc] using p
theorem Hp.segTake (h : Hp G (K ++ (List.flatMap tf t ++ T)) w) (hx : t[i]? = some x) (hf : tf x = A ++ it :: B) : Hp G (it :: (K ++ (k9 tf t i A B ++ T))) w := h.perm (mG hx hf)
theorem Hp.segPut (h : Hp G (it' :: (K ++ (k9 tf t i A B ++ T))) w) (hx : t[i]? = some x) (hf : tf x' = A ++ it' :: B) : Hp G (K ++ (List.flatMap tf (t.set i x') ++ T)) w := by
 have hlt := (List.getElem?_eq_some_iff.1 hx).1
 have hs : (t.set i x')[i]? = some x' := List.getElem?_set_self hlt
 have p := mG (K := K) (T := T) hs hf
 have e : k9 tf (t.set i x') i A B = k9 tf t i A B := by
  unfold k9
  rw [List.take_set_of_le (Nat.le_refl _), List.drop_set_of_lt (Nat.lt_succ_self _)]
 rw [e] at p
 exact h.perm p.symm
theorem Hp.segSnoc (h : Hp G (X ++ (K ++ (List.flatMap tf t ++ T))) w) (hf : tf x = X) : Hp G (K ++ (List.flatMap tf (t ++ [x]) ++ T)) w := by
 refine h.perm ?_
 have e : K ++ (List.flatMap tf (t ++ [x]) ++ T) = (K ++ List.flatMap tf t) ++ (X ++ T) := by
  rw [List.flatMap_append, List.flatMap_cons, hf]
  simp
 have e2 : X ++ (K ++ (List.flatMap tf t ++ T)) = (X ++ (K ++ List.flatMap tf t)) ++ T := by simp
 rw [e, e2, ← List.append_assoc (K ++ List.flatMap tf t)]
 exact List.Perm.append_right T List.perm_append_comm
theorem Hp.segSame (h : Hp G (K ++ (List.flatMap tf t ++ T)) w) (hx : t[i]? = some x) (hf : tf x' = tf x) : Hp G (K ++ (List.flatMap tf (t.set i x') ++ T)) w := by
 have e : List.flatMap tf (t.set i x') = List.flatMap tf t := by
  conv => rhs; rw [mN hx]
  rw [List.set_eq_take_append_cons_drop, if_pos (List.getElem?_eq_some_iff.1 hx).1, List.flatMap_append, List.flatMap_cons, List.flatMap_append, List.flatMap_cons, hf]
 rw [e]; exact h
theorem Hp.segDrop (h : Hp G (K ++ (List.flatMap tf t ++ T)) w) : Hp G (K ++ T) w := h.sub (List.Sublist.append (List.Sublist.refl _) (List.sublist_append_right _ _))
end
end Go.LG
