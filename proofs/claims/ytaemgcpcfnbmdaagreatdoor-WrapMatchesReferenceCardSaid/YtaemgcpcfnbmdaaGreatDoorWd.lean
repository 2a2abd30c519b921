/-
 Plain laws. No program in sight.
-/
import Derived.Test.YtaemgcpcfnbmdaaGreatDoorFk
set_option linter.unusedVariables false
set_option linter.unusedSimpArgs false
set_option maxRecDepth 100000
namespace Go.Proofs.YtaemgcpcfnbmdaaGreatDoor.LG
open Go Go.LG Go.Lib

def yQ {S : Type} (Inv : S → Prop) (n : Nat) (ψ : S → Int × Int → Option (S × Option Nat)) : Prop :=
 ∀ s (i k : Nat), Inv s → i < k → k ≤ n → ∃ s', ψ s ((i : Int), (k : Int)) = some (s', none) ∧ Inv s'
theorem Ae (a : List Int) (ha : a.length ≤ 1000000) : ∀ (n i : Nat), a.length - i = n → i ≤ a.length → ∃ k : Nat, bu a (i : Int) = some (k : Int) ∧ i ≤ k ∧ k ≤ a.length := by
 intro n
 induction n with
 | zero =>
  intro i hn hi
  rw [bu, if_neg (by omega)]
  exact ⟨i, rfl, Nat.le_refl _, hi⟩
 | succ n ih =>
  intro i hn hi
  rw [bu, if_pos (by omega), if_pos ⟨by omega, by omega⟩]
  unfold f6
  rw [kw]
  simp only [aa]
  by_cases hc : 3 < cl (a.getD (Int.toNat (i : Int)) 0)
  ·rw [decide_eq_true hc, if_pos rfl, av (n := (i : Int) + 1) (by omega) (by omega), add1]
   obtain ⟨k, h1, h2, h3⟩ := ih (i + 1) (by omega) (by omega)
   exact ⟨k, h1, by omega, h3⟩
  ·rw [decide_eq_false hc, if_neg (by decide)]
   exact ⟨i, rfl, Nat.le_refl _, hi⟩
theorem y5 {S : Type} (Inv : S → Prop) (a : List Int) (ha : a.length ≤ 1000000) (ψ : S → Int × Int → Option (S × Option Nat)) (hψ : yQ Inv a.length ψ) : ∀ (n i : Nat) (s : S), a.length - i = n → Inv s →
  ∃ s', bg (j5 ψ) a (i : Int) (s, none) = some (.inr (s', none)) ∧ Inv s' := by
 intro n
 induction n using Nat.strongRecOn with
 | _ n ih =>
  intro i s hn hs
  rw [bg]
  by_cases h : i < a.length
  ·obtain ⟨k, h1, h2, h3⟩ := Ae a ha _ i rfl (by omega)
   rw [if_pos (by omega), h1, aa]
   have e : ax (max (i : Int) (k : Int) + 1) = ((k + 1 : Nat) : Int) := by rw [av (by omega) (by omega)]; omega
   rw [e]
   by_cases hik : i < k
   ·obtain ⟨s', hs1, hs2⟩ := hψ s i k hs hik h3
    have step : j5 ψ (s, none) ((i : Int), (k : Int)) = some ((s', none), true) := by
     unfold j5; simp only; rw [hs1]; rfl
    rw [if_pos (by omega), step]
    exact ih _ (by omega) (k + 1) s' rfl hs2
   ·rw [if_neg (by omega)]
    exact ih _ (by omega) (k + 1) s rfl hs
  ·rw [if_neg (by omega)]; exact ⟨s, rfl, hs⟩
theorem BQ (a lv : List Int) (t : Int) (ha : a.length ≤ 1000000) (hv : ∀ x ∈ a, 0 ≤ x ∧ x < (lv.length : Int)) : ∀ (n i : Nat), a.length - i = n → i ≤ a.length → ∃ k : Nat, bD a lv t (i : Int) = some (k : Int) ∧ i ≤ k ∧ k ≤ a.length := by
 intro n
 induction n with
 | zero =>
  intro i hn hi
  rw [bD, if_neg (by omega)]
  exact ⟨i, rfl, Nat.le_refl _, hi⟩
 | succ n ih =>
  intro i hn hi
  have hlt : i < a.length := by omega
  have e0 : a.getD (Int.toNat (i : Int)) 0 = a[i] := by simp [List.getD_eq_getElem?_getD, hlt]
  rw [bD, if_pos (by omega), if_pos ⟨by omega, by omega⟩, e0]
  unfold iM
  rw [if_pos (hv _ (List.getElem_mem hlt))]
  simp only [aa]
  by_cases hc : t ≤ lv.getD (Int.toNat a[i]) 0
  ·rw [decide_eq_true hc, if_pos rfl, av (n := (i : Int) + 1) (by omega) (by omega), add1]
   obtain ⟨k, h1, h2, h3⟩ := ih (i + 1) (by omega) (by omega)
   exact ⟨k, h1, by omega, h3⟩
  ·rw [decide_eq_false hc, if_neg (by decide)]
   exact ⟨i, rfl, Nat.le_refl _, hi⟩
theorem wE {S : Type} (Inv : S → Prop) (a lv : List Int) (t : Int) (ha : a.length ≤ 1000000) (hv : ∀ x ∈ a, 0 ≤ x ∧ x < (lv.length : Int)) (ψ : S → Int × Int → Option (S × Option Nat)) (hψ : yQ Inv a.length ψ) : ∀ (n i : Nat) (s : S), a.length - i = n → Inv s →
  ∃ s', aZ (j5 ψ) a lv t (i : Int) (s, none) = some (.inr (s', none)) ∧ Inv s' := by
 intro n
 induction n using Nat.strongRecOn with
 | _ n ih =>
  intro i s hn hs
  rw [aZ]
  by_cases h : i < a.length
  ·obtain ⟨k, h1, h2, h3⟩ := BQ a lv t ha hv _ i rfl (by omega)
   rw [if_pos (by omega), h1, aa]
   have e : ax (max (i : Int) (k : Int) + 1) = ((k + 1 : Nat) : Int) := by rw [av (by omega) (by omega)]; omega
   rw [e]
   by_cases hik : i < k
   ·obtain ⟨s', hs1, hs2⟩ := hψ s i k hs hik h3
    have step : j5 ψ (s, none) ((i : Int), (k : Int)) = some ((s', none), true) := by
     unfold j5; simp only; rw [hs1]; rfl
    rw [if_pos (by omega), step]
    exact ih _ (by omega) (k + 1) s' rfl hs2
   ·rw [if_neg (by omega)]
    exact ih _ (by omega) (k + 1) s rfl hs
  ·rw [if_neg (by omega)]; exact ⟨s, rfl, hs⟩
def q7 (n : Nat) (v : List Int) : Prop := v.length = n ∧ ∀ x ∈ v, x = 0 ∨ x = 1
theorem q7.set {n : Nat} {v : List Int} (h : q7 n v) (i : Nat) {x : Int} (hx : x = 0 ∨ x = 1) : q7 n (v.set i x) :=
 ⟨by rw [List.length_set]; exact h.1, fun y hy => by
  rcases List.mem_or_eq_of_mem_set hy with h' | h'
  ·exact h.2 y h'
  ·rw [h']; exact hx⟩
theorem u3 (l : List UInt8) (hl : l.length ≤ 1000000) : ∀ (n i : Nat) (v : List Int) (now : Int), l.length - i = n → i ≤ l.length → q7 l.length v → (now = 0 ∨ now = 1) →
  ∃ v', bG ⟨l.toArray⟩ v now (i : Int) = some v' ∧ q7 l.length v' := by
 intro n
 induction n with
 | zero =>
  intro i v now hn hi hv hnow
  rw [bG, sz, List.length_replicate, Int.toNat_natCast, if_neg (by omega)]
  exact ⟨v, rfl, hv⟩
 | succ n ih =>
  intro i v now hn hi hv hnow
  have b : (0 : Int) ≤ (i : Int) ∧ (i : Int) < (l.length : Int) := ⟨by omega, by omega⟩
  rw [bG]
  simp only [sz, List.length_replicate, Int.toNat_natCast, if_pos b, if_pos b.2, kw, aa]
  rw [av (n := (i : Int) + 1) (by omega) (by omega), add1]
  by_cases h1 : cl (bt ⟨l.toArray⟩ (i : Int)) = 1
  ·rw [if_pos h1]; simp only [aa]
   exact ih (i + 1) _ _ (by omega) (by omega) (hv.set _ (.inl rfl)) (.inl rfl)
  ·by_cases h2 : cl (bt ⟨l.toArray⟩ (i : Int)) = 2
   ·rw [if_neg h1, if_pos h2]; simp only [aa]
    exact ih (i + 1) _ _ (by omega) (by omega) (hv.set _ (.inr rfl)) (.inr rfl)
   ·rw [if_neg h1, if_neg h2]; simp only [aa]
    exact ih (i + 1) _ _ (by omega) (by omega) (hv.set _ hnow) hnow
theorem y2 (a : List Int) (x : Int) (hx : x = 0 ∨ x = 1) (ha : a.length ≤ 1000000) : ∀ (n i : Nat) (v : List Int), a.length - i = n → i ≤ a.length → q7 a.length v → ∃ v', ce a x v (i : Int) = some v' ∧ q7 a.length v' := by
 intro n
 induction n with
 | zero =>
  intro i v hn hi hv
  rw [ce, if_neg (by omega)]
  exact ⟨v, rfl, hv⟩
 | succ n ih =>
  intro i v hn hi hv
  rw [ce, if_pos (by omega), if_pos ⟨by omega, by omega⟩, av (n := (i : Int) + 1) (by omega) (by omega), add1]
  exact ih (i + 1) _ (by omega) (by omega) (hv.set _ hx)
theorem tJ {α : Type} (v : List α) {i k : Nat} (hik : i ≤ k) (hk : k ≤ v.length) : (fk v (i : Int) (k : Int)).length = k - i := by
 unfold fk; simp; omega
theorem xV {α : Type} (v w : List α) {i k : Nat} (hik : i ≤ k) (hk : k ≤ v.length) (hw : w.length = k - i) : (List.take (Int.toNat (i : Int)) v ++ (w ++ List.drop (Int.toNat (k : Int)) v)).length = v.length := by
 simp; omega
theorem CA (v : List Int) (dir : Int) (i : Int) (hv : ∀ x ∈ v, x = 0 ∨ x = 1) (hd : dir = 0 ∨ dir = 1) : ∃ r, bH i v dir = some r ∧ (r = 0 ∨ r = 1) := by
 unfold bH
 by_cases h1 : i < 0
 ·rw [if_pos h1, aa, if_pos rfl]; exact ⟨dir, rfl, hd⟩
 ·rw [if_neg h1, aa]
  by_cases h2 : (v.length : Int) ≤ i
  ·rw [decide_eq_true h2, if_pos rfl]; exact ⟨dir, rfl, hd⟩
  ·rw [decide_eq_false h2, if_neg (by decide), if_pos ⟨by omega, by omega⟩]
   have hlt : Int.toNat i < v.length := by omega
   exact ⟨_, rfl, by rw [List.getD_eq_getElem?_getD, List.getElem?_eq_getElem hlt]; exact hv _ (List.getElem_mem hlt)⟩
theorem xH (l : List UInt8) (dir : Int) (hd : dir = 0 ∨ dir = 1) (hl : l.length ≤ 1000000) : yQ (q7 l.length) l.length (fun (u : List Int) (x : Int × Int) => bc ⟨l.toArray⟩ dir u x.1 x.2) := by
 intro v i k hv hik hk
 obtain ⟨r1, h1, b1⟩ := CA v dir (ax ((i : Int) - 1)) hv.2 hd
 obtain ⟨r2, h2, b2⟩ := CA v dir (k : Int) hv.2 hd
 have hc : (fk v (i : Int) (k : Int)).length = k - i := tJ v (by omega) (by rw [hv.1]; exact hk)
 have hcb : q7 (fk v (i : Int) (k : Int)).length (fk v (i : Int) (k : Int)) := ⟨rfl, fun x hx => hv.2 x (List.mem_of_mem_take (List.mem_of_mem_drop hx))⟩
 have b : (0 : Int) ≤ (i : Int) ∧ ((i : Int) : Int) ≤ (k : Int) ∧ (k : Int) ≤ (l.length : Int) := ⟨by omega, by omega, by omega⟩
 have key : ∀ x, (x = 0 ∨ x = 1) → ∃ w, fN (fk v (i : Int) (k : Int)) x = some w ∧ q7 l.length (List.take (Int.toNat (i : Int)) v ++ (w ++ List.drop (Int.toNat (k : Int)) v)) := by
  intro x hx
  obtain ⟨w, hw, hb⟩ := y2 (fk v (i : Int) (k : Int)) x hx (by omega) _ 0 _ rfl (Nat.zero_le _) hcb
  have hw' : ce (fk v (i : Int) (k : Int)) x (fk v (i : Int) (k : Int)) 0 = some w := hw
  refine ⟨w, by unfold fN; rw [hw']; rfl, ?_, fun y hy => ?_⟩
  ·rw [xV v w (by omega) (by rw [hv.1]; exact hk) (by rw [hb.1, hc])]; exact hv.1
  ·rcases List.mem_append.1 hy with hy | hy
   ·exact hv.2 y (List.mem_of_mem_take hy)
   ·rcases List.mem_append.1 hy with hy | hy
    ·exact hb.2 y hy
    ·exact hv.2 y (List.mem_of_mem_drop hy)
 simp only
 unfold bc
 simp only [h1, h2, aa, sz, List.length_replicate, Int.toNat_natCast, if_pos b]
 by_cases hr : r1 = r2
 ·rw [if_pos hr]
  obtain ⟨w, hw, hb⟩ := key r1 b1
  rw [hw]; exact ⟨_, rfl, hb⟩
 ·rw [if_neg hr]
  obtain ⟨w, hw, hb⟩ := key dir hd
  rw [hw]; exact ⟨_, rfl, hb⟩
theorem l6 (l : List UInt8) : (gb ⟨l.toArray⟩).length = l.length := by unfold gb; simp
theorem yO (l : List UInt8) (dir : Int) (hd : dir = 0 ∨ dir = 1) (hl : l.length ≤ 1000000) : ∃ v, dE ⟨l.toArray⟩ dir = some v ∧ q7 l.length v := by
 have h0 : q7 l.length (List.replicate l.length (0 : Int)) := ⟨List.length_replicate .., fun x hx => .inl (List.eq_of_mem_replicate hx)⟩
 obtain ⟨v, h1, h2⟩ := u3 l hl _ 0 _ dir rfl (Nat.zero_le _) h0 hd
 have h1' : bG ⟨l.toArray⟩ (List.replicate l.length (0 : Int)) dir 0 = some v := h1
 have hr := y5 (q7 l.length) (gb ⟨l.toArray⟩) (by rw [l6]; exact hl) _ (by rw [l6]; exact xH l dir hd hl) _ 0 v rfl h2
 obtain ⟨v2, h3, h4⟩ := hr
 have h3' : bg (j5 (fun (u : (List Int)) (x : Int × Int) => bc ⟨l.toArray⟩ dir u x.1 x.2)) (gb ⟨l.toArray⟩) 0 (v, none) = some (.inr (v2, none)) := h3
 refine ⟨v2, ?_, h4⟩
 unfold dE fZ dO
 rw [sz, if_pos ⟨by omega, by omega, by omega⟩, Int.toNat_natCast, h1', aa, aa, h3']
 rfl
theorem sP (l : List UInt8) (dir : Int) (hd : dir = 0 ∨ dir = 1) (hl : l.length ≤ 1000000) (y : List Int) (hy : y.length = l.length) : ∀ (n i : Nat) (v : List Int), l.length - i = n → i ≤ l.length → v.length = l.length → (∀ j (h : j < v.length), i ≤ j → v[j] = 0 ∨ v[j] = 1) →
  ∃ v', b9 ⟨l.toArray⟩ dir y v (i : Int) = some v' ∧ v'.length = l.length := by
 intro n
 induction n with
 | zero =>
  intro i v hn hi hv hb
  rw [b9, if_neg (by omega)]
  exact ⟨v, rfl, hv⟩
 | succ n ih =>
  intro i v hn hi hv hb
  have hlt : i < v.length := by omega
  have hi' := hb i hlt (Nat.le_refl _)
  have e0 : v.getD i 0 = v[i] := by simp [List.getD_eq_getElem?_getD, hlt]
  have b1 : (0 : Int) ≤ (i : Int) ∧ (i : Int) < (y.length : Int) := ⟨by omega, by omega⟩
  have b2 : (0 : Int) ≤ dir ∧ dir < 2 := by omega
  have b3 : (0 : Int) ≤ v[i] ∧ v[i] < 2 := by omega
  have b4 : (0 : Int) ≤ (i : Int) ∧ (i : Int) < (l.length : Int) := ⟨by omega, by omega⟩
  have next : ∀ x, ∃ v', b9 ⟨l.toArray⟩ dir y (List.set v i x) ((i + 1 : Nat) : Int) = some v' ∧ v'.length = l.length := fun x =>
   ih (i + 1) _ (by omega) (by omega) (by rw [List.length_set]; exact hv) fun j h hj => by
    rw [List.getElem_set, if_neg (by omega)]
    exact hb j (by rw [List.length_set] at h; exact h) (by omega)
  rw [b9, if_pos b1.2, av (n := (i : Int) + 1) (by omega) (by omega), add1]
  simp only [if_pos b1, if_pos b2, e0, if_pos b3, sz, if_pos b4, kw, aa, Int.toNat_natCast]
  by_cases hx : v[i] = 1
  ·rw [if_pos hx]
   by_cases hc : cl (bt ⟨l.toArray⟩ (i : Int)) = 3
   ·rw [decide_eq_true hc, aa, if_pos rfl, aa, List.set_set]
    exact next _
   ·rw [decide_eq_false hc, aa, if_neg (by decide), aa]
    exact next _
  ·rw [if_neg hx, aa, if_neg (by decide), aa]
   exact next _
theorem zn (l : List UInt8) (ho : jm l = true) (dir : Int) (hd : dir = 0 ∨ dir = 1) (hl : l.length ≤ 1000000) : ∃ v, iw ⟨l.toArray⟩ dir = some (v, 0) ∧ v.length = l.length := by
 obtain ⟨y, h1, h2⟩ := yO l dir hd hl
 obtain ⟨v, h3, h4⟩ := sP l dir hd hl y h2.1 _ 0 y rfl (Nat.zero_le _) h2.1 (fun j h _ => h2.2 _ (List.getElem_mem h))
 have h3' : b9 ⟨l.toArray⟩ dir y y 0 = some v := h3
 refine ⟨v, ?_, h4⟩
 unfold iw jO
 rw [iQ, ho, h1]
 rcases hd with rfl | rfl
 ·simp only [aa, if_true, Bool.not_true, Bool.false_eq_true, if_false, h3']
 ·simp only [aa, if_true, Bool.not_true, Bool.false_eq_true, if_false, h3', show ¬ (1 : Int) = 0 by decide, decide_true]
def jp (n : Nat) : List Int := (List.range n).map fun i : Nat => (i : Int)
theorem kB (n : Nat) : (jp n).length = n := by simp [jp]
theorem rS {n : Nat} {x : Int} (h : x ∈ jp n) : 0 ≤ x ∧ x < (n : Int) := by
 simp only [jp, List.mem_map, List.mem_range] at h
 obtain ⟨i, hi, rfl⟩ := h
 omega
theorem tU (l : List UInt8) (hl : l.length ≤ 1000000) : ∀ (n i : Nat) (v : List Int), l.length - i = n → i ≤ l.length → v.length = l.length → (∀ j (h : j < v.length), j < i → v[j] = (j : Int)) → dT ⟨l.toArray⟩ v (i : Int) = some (jp l.length) := by
 intro n
 induction n with
 | zero =>
  intro i v hn hi hv hb
  rw [dT, sz, List.length_replicate, Int.toNat_natCast, if_neg (by omega)]
  congr 1
  refine List.ext_getElem (by rw [hv, kB]) fun j h1 h2 => ?_
  rw [hb j h1 (by omega)]
  simp [jp]
 | succ n ih =>
  intro i v hn hi hv hb
  rw [dT, sz, List.length_replicate, Int.toNat_natCast, if_pos (by omega), if_pos ⟨by omega, by omega⟩, av (n := (i : Int) + 1) (by omega) (by omega), add1, Int.toNat_natCast]
  refine ih (i + 1) _ (by omega) (by omega) (by rw [List.length_set]; exact hv) fun j h hj => ?_
  rw [List.getElem_set]
  split
  ·omega
  ·exact hb j (by rw [List.length_set] at h; exact h) (by omega)
theorem BH (a : List Int) (ha : a.length ≤ 1000000) : ∀ (n i j : Nat) (v : List Int), j - i = n → i ≤ a.length → j ≤ a.length → v.length = a.length → ∃ v', bf a v (i : Int) ((j : Int) - 1) = some v' ∧ v'.Perm v := by
 intro n
 induction n using Nat.strongRecOn with
 | _ n ih =>
  intro i j v hn hi hj hv
  rw [bf]
  by_cases h : (i : Int) < (j : Int) - 1
  ·have b1 : (0 : Int) ≤ (i : Int) ∧ (i : Int) < (a.length : Int) := ⟨by omega, by omega⟩
   have b2 : (0 : Int) ≤ (j : Int) - 1 ∧ (j : Int) - 1 < (a.length : Int) := ⟨by omega, by omega⟩
   have e1 : Int.toNat ((j : Int) - 1) = j - 1 := by omega
   have hi' : i < v.length := by omega
   have hj' : j - 1 < v.length := by omega
   have e2 : v.getD i (0 : Int) = v[i] := by simp [List.getD_eq_getElem?_getD, hi']
   have e3 : v.getD (j - 1) (0 : Int) = v[j - 1] := by simp [List.getD_eq_getElem?_getD, hj']
   have e4 : ax ((j : Int) - 1 - 1) = ((j - 1 : Nat) : Int) - 1 := by rw [av (by omega) (by omega)]; omega
   have e5 : ax ((i : Int) + 1) = ((i + 1 : Nat) : Int) := by rw [av (by omega) (by omega)]; omega
   rw [if_pos h]
   simp only [if_pos b1, if_pos b2, e1, Int.toNat_natCast, e2, e3, e4, e5]
   obtain ⟨v', h1, h2⟩ := ih _ (by omega) (i + 1) (j - 1) ((v.set i v[j - 1]).set (j - 1) v[i]) rfl (by omega) (by omega) (by simp [hv])
   exact ⟨v', h1, h2.trans (List.set_set_perm hi' hj')⟩
  ·rw [if_neg h]; exact ⟨v, rfl, List.Perm.refl _⟩
theorem Dq (a : List Int) (ha : a.length ≤ 1000000) : ∃ v, cn a = some v ∧ v.Perm a := by
 obtain ⟨v, h1, h2⟩ := BH a ha _ 0 a.length a rfl (Nat.zero_le _) (Nat.le_refl _) rfl
 have h1' : bf a a 0 ((a.length : Int) - 1) = some v := h1
 refine ⟨v, ?_, h2⟩
 unfold cn
 rw [av (n := (a.length : Int) - 1) (by omega) (by omega), h1']; rfl
theorem tM (n : Nat) (a : List Int) (hn : n ≤ 1000000) (ha : a.length = n) : yQ (fun v : List Int => v.Perm (jp n)) n (fun (u : List Int) (x : Int × Int) => bE a u x.1 x.2) := by
 intro v i k hv hik hk
 have hvl : v.length = n := by rw [hv.length_eq, kB]
 have b : (0 : Int) ≤ (i : Int) ∧ ((i : Int) : Int) ≤ (k : Int) ∧ (k : Int) ≤ (a.length : Int) := ⟨by omega, by omega, by omega⟩
 have hc : (fk v (i : Int) (k : Int)).length = k - i := tJ v (by omega) (by omega)
 obtain ⟨w, hw, hp⟩ := Dq (fk v (i : Int) (k : Int)) (by omega)
 simp only
 unfold bE
 rw [if_pos b, hw]
 refine ⟨_, rfl, List.Perm.trans ?_ hv⟩
 have e : v = List.take i v ++ (fk v (i : Int) (k : Int) ++ List.drop k v) := by
  unfold fk
  rw [Int.toNat_natCast, Int.toNat_natCast]
  conv => lhs; rw [← List.take_append_drop k v]
  rw [← List.append_assoc]
  congr 1
  conv => lhs; rw [← List.take_append_drop i (List.take k v)]
  rw [List.take_take, Nat.min_eq_left (by omega)]
 conv => rhs; rw [e]
 rw [Int.toNat_natCast, Int.toNat_natCast]
 exact List.Perm.append_left _ (List.Perm.append_right _ hp)
theorem ze (n : Nat) (a lv ts : List Int) (hn : n ≤ 1000000) (ha : a.length = n) (hlv : lv.length = n) (hts : ts.length ≤ 1000000) : ∀ (m i : Nat) (v : List Int), ts.length - i = m → i ≤ ts.length → v.Perm (jp n) → ∃ v', bn a lv ts v (i : Int) = some v' ∧ v'.Perm (jp n) := by
 intro m
 induction m with
 | zero =>
  intro i v hm hi hv
  rw [bn, if_neg (by omega)]
  exact ⟨v, rfl, hv⟩
 | succ m ih =>
  intro i v hm hi hv
  have hvl : v.length = n := by rw [hv.length_eq, kB]
  have hcl : de v = some (v, v) := by
   unfold de
   simp
   try omega
  obtain ⟨v2, h3, h4⟩ := wE (fun v : List Int => v.Perm (jp n)) v lv (ts.getD (Int.toNat (i : Int)) (0 : Int)) (by omega) (fun x hx => by have := rS (hv.mem_iff.1 hx); omega) _ (by rw [hvl]; exact tM n a hn ha) _ 0 v rfl hv
  have h3' : aZ (j5 (fun (u : (List Int)) (x : Int × Int) => bE a u x.1 x.2)) v lv (ts.getD (Int.toNat (i : Int)) (0 : Int)) 0 (v, none) = some (.inr (v2, none)) := h3
  rw [bn, if_pos (by omega), if_pos ⟨by omega, by omega⟩, hcl, aa, av (n := (i : Int) + 1) (by omega) (by omega), add1]
  unfold gw et
  simp only [aa, h3']
  exact ih (i + 1) v2 (by omega) (by omega) h4
theorem wW (l : List UInt8) (y : List Int) (hl : y.length ≤ 1000000) (hy : ∀ x ∈ y, 0 ≤ x ∧ x < (l.length : Int)) : ∀ (n i : Nat) (v : List Int), y.length - i = n → i ≤ y.length → v.length = y.length → (∀ j (h : j < v.length) (h' : j < y.length), j < i → v[j] = bt ⟨l.toArray⟩ y[j]) →
  dD ⟨l.toArray⟩ y v (i : Int) = some (y.map fun x => bt ⟨l.toArray⟩ x) := by
 intro n
 induction n with
 | zero =>
  intro i v hn hi hv hb
  rw [dD, if_neg (by omega)]
  congr 1
  refine List.ext_getElem (by simp [hv]) fun j h1 h2 => ?_
  rw [hb j h1 (by omega) (by omega)]
  simp
 | succ n ih =>
  intro i v hn hi hv hb
  have hlt : i < y.length := by omega
  have e0 : y.getD (Int.toNat (i : Int)) 0 = y[i] := by simp [List.getD_eq_getElem?_getD, hlt]
  have b := hy _ (List.getElem_mem hlt)
  rw [dD, if_pos (by omega), if_pos ⟨by omega, by omega⟩, e0, sz, if_pos b, List.length_replicate, Int.toNat_natCast, if_pos ⟨by omega, by omega⟩, av (n := (i : Int) + 1) (by omega) (by omega), add1, Int.toNat_natCast]
  refine ih (i + 1) _ (by omega) (by omega) (by rw [List.length_set]; exact hv) fun j h h' hj => ?_
  rw [List.getElem_set]
  split
  ·rename_i e; subst e; rfl
  ·exact hb j (by rw [List.length_set] at h; exact h) h' (by omega)
theorem zy (l : List UInt8) (ho : jm l = true) (dir : Int) (hd : dir = 0 ∨ dir = 1) : ∃ p : List UInt8, iy ⟨l.toArray⟩ dir = some (⟨p.toArray⟩, 0) ∧ p.Perm l := by
 have hl : l.length ≤ 1000000 := by have := (dt ho).2; omega
 obtain ⟨lv, h1, h2⟩ := zn l ho dir hd hl
 have h3 := tU l hl _ 0 (List.replicate l.length (0 : Int)) rfl (Nat.zero_le _) (List.length_replicate ..) (fun j _ h => by omega)
 have h3' : dT ⟨l.toArray⟩ (List.replicate l.length (0 : Int)) 0 = some (jp l.length) := h3
 obtain ⟨y, h4, h5⟩ := ze l.length (jp l.length) lv [2, 1] hl (kB _) h2 (by decide) _ 0 (jp l.length) rfl (Nat.zero_le _) (List.Perm.refl _)
 have h4' : bn (jp l.length) lv [2, 1] (jp l.length) 0 = some y := h4
 have hO : i1 ⟨l.toArray⟩ dir = some (y, 0) := by
  unfold i1 jd
  rw [h1, aa]
  simp only [not_true_eq_false, if_false, sz, Int.toNat_natCast]
  rw [if_pos ⟨by omega, by omega, by omega⟩, h3', aa, h4']
  rfl
 have hyl : y.length = l.length := by rw [h5.length_eq, kB]
 have hyr : ∀ x ∈ y, 0 ≤ x ∧ x < (l.length : Int) := fun x hx => rS (h5.mem_iff.1 hx)
 have hV := wW l y (by omega) hyr _ 0 (List.replicate y.length (0 : Int)) rfl (Nat.zero_le _) (List.length_replicate ..) (fun j _ _ h => by omega)
 have hV' : dD ⟨l.toArray⟩ y (List.replicate y.length (0 : Int)) 0 = some (y.map fun x => bt ⟨l.toArray⟩ x) := hV
 have e : (y.map fun x => bt ⟨l.toArray⟩ x) = (y.map fun x => l.getD x.toNat 0).map fun b => (b.toNat : Int) := by
  rw [List.map_map]
  refine List.map_congr_left fun x hx => ?_
  have := hyr x hx
  have hx' : x = ((x.toNat : Nat) : Int) := by omega
  conv => lhs; rw [hx']
  exact lD l (by omega)
 refine ⟨y.map fun x => l.getD x.toNat 0, ?_, ?_⟩
 ·unfold iy
  rw [hO, aa]
  simp only [Int.toNat_natCast]
  rw [if_pos ⟨by omega, by omega, by omega⟩, hV', aa, e, rJ]
 ·have hp := h5.map fun x => l.getD x.toNat 0
  refine hp.trans (List.Perm.of_eq ?_)
  refine List.ext_getElem (by simp [jp]) fun j a1 a2 => ?_
  simp [jp, List.getD_eq_getElem?_getD, a2]
end Go.Proofs.YtaemgcpcfnbmdaaGreatDoor.LG
namespace Go.Proofs.YtaemgcpcfnbmdaaGreatDoor.LG
open Go Go.LG Go.Lib

def atI (room w al dir : Int) : Int := if al = dir then 0 else if al = 2 then (room - w) / 2 else room - w
theorem BD (f : ai) (hf : Sm f) (F : oG f) (hfv : aU f = some true) (b : ak) (l : List UInt8) (hl : l.length ≤ 100) (ho : jm l = true) {sc : Int} (hsc : 50 ≤ sc ∧ sc ≤ 300) (hp : vn f b l = true) {room : Int} (hr : 0 ≤ room ∧ room ≤ 1000000000)
  {a : Nat} {p : Nat × Bool} (hm : p ∈ ends b l) (hap : a < p.1) (hpl : p.1 ≤ l.length) {al dir : Int} (ha : 0 ≤ al ∧ al ≤ 2) (hd : 0 ≤ dir ∧ dir ≤ 1) :
  ∃ t : List UInt8, dH f ⟨l.toArray⟩ (ln f l sc a p) sc room al dir = some (⟨t.toArray⟩, atI room (W f l sc a p) al dir, 0) ∧ t.Perm (part l a p.1 p.2) := by
 have hP := xj ho (show l.length ≤ 1000 by omega) a p.1 p.2
 obtain ⟨t, ht, hperm⟩ := zy (part l a p.1 p.2) hP dir (by omega)
 obtain ⟨h1, h2⟩ := uZ hp
 have hg := va h1 a p.1 p.2 (h2 p hm)
 have hw := W_mk f hf F hfv b l (by omega) ho hsc hp a hm
 have hwd : 0 ≤ W f l sc a p ∧ W f l sc a p ≤ 6000001 := by
  have e : W f l sc a p = Wd f (part l a p.1 p.2) sc := rfl
  rw [e]
  refine EN f hf F hfv hP ?_ hsc hg
  rw [rX, List.length_append]
  have h3 : (part l a p.1 false).length ≤ l.length := by
   unfold part
   rw [if_neg (by decide), List.append_nil]
   exact Nat.le_trans (oL _) (Nat.le_trans (jv _) (m8 l a p.1))
  cases p.2 <;> simp <;> omega
 have f1 : (ln f l sc a p).From = (a : Int) := rfl
 have f2 : (ln f l sc a p).Until = (p.1 : Int) := rfl
 have f3 : (ln f l sc a p).Hyphen = p.2 := rfl
 have f4 : (ln f l sc a p).Width = W f l sc a p := rfl
 have g0 : ¬ (a : Int) < 0 := by omega
 have g1 : ¬ (p.1 : Int) ≤ (a : Int) := by omega
 have g2 : ¬ (l.length : Int) < (p.1 : Int) := by omega
 have e1 : ax (room - W f l sc a p) = room - W f l sc a p := av (by omega) (by omega)
 have e2 : Int.fdiv (room - W f l sc a p) (2 ^ 1) = (room - W f l sc a p) / 2 := by rw [Int.fdiv_eq_ediv_of_nonneg _ (by decide)]; rfl
 refine ⟨t, ?_, hperm⟩
 unfold dH atI
 simp only [hZ, hsc, hr, ha, hd, and_self, decide_true, if_true, aa, Bool.not_true, Bool.false_eq_true, if_false, hfv, iQ, ho, f1, f2, f3, f4, g0, g1, g2, decide_false, sz, vK l (show l.length ≤ 1000000 by omega) (show a ≤ p.1 by omega) hpl, hw, not_true_eq_false, ht, e1, e2]
 by_cases c1 : al = dir
 ·simp [c1]
 ·by_cases c2 : al = 2
  ·rw [if_neg c1, if_pos c2, if_neg c1, if_pos c2]
  ·simp [c1, c2]
end Go.Proofs.YtaemgcpcfnbmdaaGreatDoor.LG
namespace Go.Proofs.YtaemgcpcfnbmdaaGreatDoor.LG
open Go Go.LG Go.Lib

def re (p : Nat → Bool) : Nat → Nat → Nat
 | 0, i => i
 | m + 1, i => if p i = true then re p m (i + 1) else i
theorem uP (p : Nat → Bool) : ∀ (m i : Nat), i ≤ re p m i
 | 0, i => Nat.le_refl _
 | m + 1, i => by
  unfold re
  split
  ·have := uP p m (i + 1); omega
  ·exact Nat.le_refl _
theorem yH (p : Nat → Bool) : ∀ (m i : Nat), re p m i ≤ i + m
 | 0, i => Nat.le_refl _
 | m + 1, i => by
  unfold re
  split
  ·have := yH p m (i + 1); omega
  ·omega
theorem C8 (p : Nat → Bool) : ∀ (m i j : Nat), i ≤ j → j < re p m i → p j = true
 | 0, i, j, h1, h2 => by unfold re at h2; omega
 | m + 1, i, j, h1, h2 => by
  unfold re at h2
  split at h2
  ·rename_i h
   by_cases e : j = i
   ·rw [e]; exact h
   ·exact C8 p m (i + 1) j (by omega) h2
  ·omega
theorem xX (p : Nat → Bool) : ∀ (m i : Nat), re p m i < i + m → p (re p m i) = false
 | 0, i, h => by unfold re at h; omega
 | m + 1, i, h => by
  unfold re at h ⊢
  split
  ·rename_i hp
   rw [if_pos hp] at h
   exact xX p m (i + 1) (by omega)
  ·rename_i hp
   simpa using hp
def Nt (l : List UInt8) (j : Nat) : Bool := decide (3 < cl ((l.getD j 0).toNat : Int))
theorem xW (l : List UInt8) (i : Nat) : (gb ⟨l.toArray⟩).getD (Int.toNat (i : Int)) 0 = ((l.getD i 0).toNat : Int) := by
 unfold gb
 rw [Int.toNat_natCast]
 simp only [List.getD_eq_getElem?_getD]
 by_cases h : i < l.length
 ·simp [h]
 ·simp [h]
theorem wj (l : List UInt8) (hl : l.length ≤ 1000000) : ∀ (n i : Nat), l.length - i = n → i ≤ l.length → bu (gb ⟨l.toArray⟩) (i : Int) = some (re (Nt l) n i : Int) := by
 intro n
 induction n with
 | zero =>
  intro i hn hi
  rw [bu, if_neg (by rw [l6]; omega)]
  rfl
 | succ n ih =>
  intro i hn hi
  rw [bu, l6, if_pos (by omega), if_pos ⟨by omega, by omega⟩, xW]
  unfold f6 re Nt
  rw [kw]
  simp only [aa]
  by_cases hc : 3 < cl ((l.getD i 0).toNat : Int)
  ·rw [decide_eq_true hc, if_pos rfl, if_pos rfl, av (n := (i : Int) + 1) (by omega) (by omega), add1]
   exact ih (i + 1) (by omega) (by omega)
  ·rw [decide_eq_false hc, if_neg (by decide), if_neg (by decide)]
theorem md (l : List UInt8) {i : Nat} (h : i < l.length) : dv (bt ⟨l.toArray⟩ (i : Int)) = some (Nt l i) := by
 unfold dv Nt
 rw [kY, lD l h]
 rfl
theorem Br (l : List UInt8) (hl : l.length ≤ 1000000) : ∀ (n i : Nat), l.length - i = n → i ≤ l.length → cM ⟨l.toArray⟩ (i : Int) = some (re (Nt l) n i : Int) := by
 intro n
 induction n with
 | zero =>
  intro i hn hi
  rw [cM, sz, if_neg (by omega)]
  rfl
 | succ n ih =>
  intro i hn hi
  rw [cM, sz, if_pos (by omega), if_pos ⟨by omega, by omega⟩, md l (by omega)]
  unfold re
  simp only [aa]
  by_cases hc : Nt l i = true
  ·rw [if_pos hc, if_pos hc, av (n := (i : Int) + 1) (by omega) (by omega), add1]
   exact ih (i + 1) (by omega) (by omega)
  ·rw [if_neg hc, if_neg hc]
theorem AK (l : List UInt8) (hl : l.length ≤ 1000000) : ∀ (n i : Nat), l.length - i = n → i ≤ l.length → cR ⟨l.toArray⟩ (i : Int) = some (re (Nt l) n i : Int) := by
 intro n
 induction n with
 | zero =>
  intro i hn hi
  rw [cR, sz, if_neg (by omega)]
  rfl
 | succ n ih =>
  intro i hn hi
  rw [cR, sz, if_pos (by omega), if_pos ⟨by omega, by omega⟩, md l (by omega)]
  unfold re
  simp only [aa]
  by_cases hc : Nt l i = true
  ·rw [if_pos hc, if_pos hc, av (n := (i : Int) + 1) (by omega) (by omega), add1]
   exact ih (i + 1) (by omega) (by omega)
  ·rw [if_neg hc, if_neg hc]
theorem xC (l : List UInt8) (hl : l.length ≤ 1000000) : ∀ (n i : Nat) (v : List Int) (now : Int), l.length - i = n → i ≤ l.length → bG ⟨l.toArray⟩ v now (i : Int) = cw ⟨l.toArray⟩ v now (i : Int) := by
 intro n
 induction n with
 | zero =>
  intro i v now hn hi
  rw [bG, cw, sz, List.length_replicate, Int.toNat_natCast, if_neg (by omega), if_neg (by omega)]
 | succ n ih =>
  intro i v now hn hi
  have b : (0 : Int) ≤ (i : Int) ∧ (i : Int) < (l.length : Int) := ⟨by omega, by omega⟩
  rw [bG, cw]
  simp only [sz, List.length_replicate, Int.toNat_natCast, if_pos b, if_pos b.2, kw, kY, aa]
  rw [av (n := (i : Int) + 1) (by omega) (by omega), add1]
  by_cases h1 : cl (bt ⟨l.toArray⟩ (i : Int)) = 1
  ·rw [if_pos h1]; simp only [aa]
   exact ih (i + 1) _ _ (by omega) (by omega)
  ·by_cases h2 : cl (bt ⟨l.toArray⟩ (i : Int)) = 2
   ·rw [if_neg h1, if_pos h2]; simp only [aa]
    exact ih (i + 1) _ _ (by omega) (by omega)
   ·rw [if_neg h1, if_neg h2]; simp only [aa]
    exact ih (i + 1) _ _ (by omega) (by omega)
def lU (v : List Int) (i k : Nat) (x : Int) : List Int := v.take i ++ (List.replicate (k - i) x ++ v.drop k)
theorem zO (v : List Int) (k : Nat) (x : Int) : lU v k k x = v := by simp [lU]
theorem xL (v : List Int) (x : Int) {i k : Nat} (h : i < k) (hk : k ≤ v.length) : lU (v.set i x) (i + 1) k x = lU v i k x := by
 unfold lU
 have e1 : (v.set i x).take (i + 1) = v.take i ++ [x] := by
  rw [List.take_set, List.take_succ_eq_append_getElem (by omega), List.set_append, if_neg (by rw [List.length_take]; omega)]
  simp [Nat.min_eq_left (show i ≤ v.length by omega)]
 have e2 : (v.set i x).drop k = v.drop k := by rw [List.drop_set, if_pos h]
 rw [e1, e2, show k - i = (k - (i + 1)) + 1 by omega, List.replicate_succ, List.append_assoc, List.cons_append]
 rfl
theorem zf (v : List Int) (x : Int) {i k : Nat} (h : i ≤ k) (hk : k ≤ v.length) : (lU v i k x).length = v.length := by
 unfold lU; simp; omega
theorem pQ (F : List Int → Int → Option (List Int)) (x : Int) (k n : Nat) (hk : k ≤ n) (h1 : ∀ (v : List Int) (j : Nat), v.length = n → j < k → F v (j : Int) = F (v.set j x) ((j + 1 : Nat) : Int)) (h0 : ∀ v, F v (k : Int) = some v) :
  ∀ (m j : Nat) (v : List Int), k - j = m → j ≤ k → v.length = n → F v (j : Int) = some (lU v j k x) := by
 intro m
 induction m with
 | zero =>
  intro j v hm hj hv
  have e : j = k := by omega
  subst e
  rw [h0, zO]
 | succ m ih =>
  intro j v hm hj hv
  rw [h1 v j hv (by omega), ih (j + 1) _ (by omega) (by omega) (by rw [List.length_set]; exact hv), xL v x (by omega) (by omega)]
theorem Cc (a : List Int) (ha : a.length ≤ 1000000) (x : Int) : fN a x = some (List.replicate a.length x) := by
 have h := pQ (fun v j => ce a x v j) x a.length a.length (Nat.le_refl _)
  (fun v j hv hj => by
   rw [ce, if_pos (by omega), if_pos ⟨by omega, by omega⟩, av (n := (j : Int) + 1) (by omega) (by omega), add1, Int.toNat_natCast])
  (fun v => by
   rw [ce, if_neg (by omega)]) _ 0 a rfl (Nat.zero_le _) rfl
 unfold fN
 have h' : ce a x a 0 = some (lU a 0 a.length x) := h
 rw [h']
 simp [lU]
def sv (l : List UInt8) (dir : Int) (v : List Int) (i k : Nat) : Int :=
 if (if i = 0 then dir else v.getD (i - 1) 0) = (if k < l.length then v.getD k 0 else dir) then (if i = 0 then dir else v.getD (i - 1) 0) else dir
theorem zL (l : List UInt8) (hl : l.length ≤ 1000000) (dir : Int) (v : List Int) (hv : v.length = l.length) {i : Nat} (hi : i ≤ l.length) : bH (ax ((i : Int) - 1)) v dir = some (if i = 0 then dir else v.getD (i - 1) 0) := by
 unfold bH
 rw [av (by omega) (by omega)]
 by_cases h : i = 0
 ·subst h
  rw [if_pos (by omega), aa, if_pos rfl, if_pos rfl]
 ·rw [if_neg (by omega), aa, decide_eq_false (by omega), if_neg (by decide), if_pos ⟨by omega, by omega⟩, if_neg h, show Int.toNat ((i : Int) - 1) = i - 1 by omega]
theorem yW (l : List UInt8) (dir : Int) (v : List Int) (hv : v.length = l.length) (k : Nat) : bH (k : Int) v dir = some (if k < l.length then v.getD k 0 else dir) := by
 unfold bH
 rw [if_neg (by omega), aa]
 by_cases h : k < l.length
 ·rw [decide_eq_false (by omega), if_neg (by decide), if_pos ⟨by omega, by omega⟩, if_pos h, Int.toNat_natCast]
 ·rw [decide_eq_true (by omega), if_pos rfl, if_neg h]
theorem uh (l : List UInt8) (hl : l.length ≤ 1000000) (dir : Int) (v : List Int) (hv : v.length = l.length) {i k : Nat} (hik : i < k) (hk : k ≤ l.length) :
  bc ⟨l.toArray⟩ dir v (i : Int) (k : Int) = some (lU v i k (sv l dir v i k), none) := by
 have b : (0 : Int) ≤ (i : Int) ∧ ((i : Int) : Int) ≤ (k : Int) ∧ (k : Int) ≤ (l.length : Int) := ⟨by omega, by omega, by omega⟩
 have hc : (fk v (i : Int) (k : Int)).length = k - i := tJ v (by omega) (by omega)
 unfold bc sv lU
 rw [zL l hl dir v hv (by omega), aa, yW l dir v hv k, aa]
 simp only [sz, List.length_replicate, Int.toNat_natCast, if_pos b, Cc _ (show (fk v (i : Int) (k : Int)).length ≤ 1000000 by omega), hc, aa]
 generalize (if i = 0 then dir else v.getD (i - 1) 0) = P
 generalize (if k < l.length then v.getD k 0 else dir) = Q
 by_cases e : P = Q
 ·rw [if_pos e, if_pos e]
 ·rw [if_neg e, if_neg e]
theorem zz (l : List UInt8) (hl : l.length ≤ 1000000) (dir : Int) (u : List Int) (a : Int) {k : Nat} (hk : k ≤ l.length) {i : Nat} (hi : i ≤ k) (v : List Int) (hv : v.length = l.length) :
  ci ⟨l.toArray⟩ dir u a (k : Int) v (i : Int) = some (lU v i k (if u.getD (Int.toNat (ax (a - 1))) 0 = u.getD k 0 then u.getD (Int.toNat (ax (a - 1))) 0 else dir)) := by
 refine pQ (fun v j => ci ⟨l.toArray⟩ dir u a (k : Int) v j) _ k l.length hk (fun v j hv hj => ?_) (fun v => ?_) _ i v rfl hi hv
 ·conv => lhs; rw [ci]
  have b : (0 : Int) ≤ (j : Int) ∧ (j : Int) < (l.length : Int) := ⟨by omega, by omega⟩
  rw [if_pos (by omega), av (n := (j : Int) + 1) (by omega) (by omega), add1]
  simp only [sz, List.length_replicate, Int.toNat_natCast, if_pos b, List.set_set]
  by_cases hc : u.getD (Int.toNat (ax (a - 1))) 0 = u.getD k 0
  ·rw [if_pos hc, if_pos hc]; rfl
  ·rw [if_neg hc, if_neg hc]; rfl
 ·rw [ci, if_neg (by omega)]
theorem zk (l : List UInt8) (hl : l.length ≤ 1000000) (dir : Int) (u : List Int) (a : Int) {k : Nat} (hk : k ≤ l.length) {i : Nat} (hi : i ≤ k) (v : List Int) (hv : v.length = l.length) :
  cj ⟨l.toArray⟩ dir u a (k : Int) v (i : Int) = some (lU v i k (if u.getD (Int.toNat (ax (a - 1))) 0 = dir then u.getD (Int.toNat (ax (a - 1))) 0 else dir)) := by
 refine pQ (fun v j => cj ⟨l.toArray⟩ dir u a (k : Int) v j) _ k l.length hk (fun v j hv hj => ?_) (fun v => ?_) _ i v rfl hi hv
 ·conv => lhs; rw [cj]
  have b : (0 : Int) ≤ (j : Int) ∧ (j : Int) < (l.length : Int) := ⟨by omega, by omega⟩
  rw [if_pos (by omega), av (n := (j : Int) + 1) (by omega) (by omega), add1]
  simp only [sz, List.length_replicate, Int.toNat_natCast, if_pos b, List.set_set]
  by_cases hc : u.getD (Int.toNat (ax (a - 1))) 0 = dir
  ·rw [if_pos hc, if_pos hc]; rfl
  ·rw [if_neg hc, if_neg hc]; rfl
 ·rw [cj, if_neg (by omega)]
theorem y7 (l : List UInt8) (hl : l.length ≤ 1000000) (dir : Int) (u : List Int) {k : Nat} (hk : k ≤ l.length) {i : Nat} (hi : i ≤ k) (v : List Int) (hv : v.length = l.length) :
  ck ⟨l.toArray⟩ dir u (k : Int) v (i : Int) = some (lU v i k dir) := by
 refine pQ (fun v j => ck ⟨l.toArray⟩ dir u (k : Int) v j) _ k l.length hk (fun v j hv hj => ?_) (fun v => ?_) _ i v rfl hi hv
 ·conv => lhs; rw [ck]
  have b : (0 : Int) ≤ (j : Int) ∧ (j : Int) < (l.length : Int) := ⟨by omega, by omega⟩
  rw [if_pos (by omega), av (n := (j : Int) + 1) (by omega) (by omega), add1]
  simp only [sz, List.length_replicate, Int.toNat_natCast, if_pos b, List.set_set, ite_self]
  rfl
 ·rw [ck, if_neg (by omega)]
theorem zc (l : List UInt8) (hl : l.length ≤ 1000000) (dir : Int) {k : Nat} (hk : k ≤ l.length) {i : Nat} (hi : i ≤ k) (v : List Int) (hv : v.length = l.length) :
  cg ⟨l.toArray⟩ dir (k : Int) v (i : Int) = some (lU v i k dir) := by
 refine pQ (fun v j => cg ⟨l.toArray⟩ dir (k : Int) v j) _ k l.length hk (fun v j hv hj => ?_) (fun v => ?_) _ i v rfl hi hv
 ·conv => lhs; rw [cg]
  have b : (0 : Int) ≤ (j : Int) ∧ (j : Int) < (l.length : Int) := ⟨by omega, by omega⟩
  rw [if_pos (by omega), av (n := (j : Int) + 1) (by omega) (by omega), add1]
  simp only [sz, List.length_replicate, Int.toNat_natCast, if_pos b, List.set_set, if_true]
  rfl
 ·rw [cg, if_neg (by omega)]
theorem tA (l : List UInt8) (hl : l.length ≤ 1000000) (dir : Int) (v : List Int) {i : Nat} (hi : i < l.length) (h : Nt l i = false ∨ 0 < i ∧ Nt l (i - 1) = true) :
  aJ ⟨l.toArray⟩ dir v (i : Int) = aJ ⟨l.toArray⟩ dir v ((i + 1 : Nat) : Int) := by
 conv => lhs; rw [aJ]
 have b : (0 : Int) ≤ (i : Int) ∧ (i : Int) < (l.length : Int) := ⟨by omega, by omega⟩
 simp only [sz]
 rw [if_pos b.2, av (n := (i : Int) + 1) (by omega) (by omega), add1, if_pos b, md l hi, aa]
 by_cases hn : Nt l i = false
 ·rw [hn]; rfl
 ·have hn' : Nt l i = true := by simpa using hn
  rcases h with h | ⟨h0, h1⟩
  ·exact absurd h hn
  ·rw [hn', av (n := (i : Int) - 1) (by omega) (by omega), show (i : Int) - 1 = ((i - 1 : Nat) : Int) by omega, md l (by omega), h1, if_pos (show (0 : Int) < (i : Int) by omega), if_pos (show (0 : Int) ≤ ((i - 1 : Nat) : Int) ∧ ((i - 1 : Nat) : Int) < (l.length : Int) from ⟨by omega, by omega⟩)]
   rfl
theorem tB (l : List UInt8) (dir : Int) (v : List Int) {i : Nat} (hi : l.length ≤ i) : aJ ⟨l.toArray⟩ dir v (i : Int) = some v := by
 rw [aJ, sz, if_neg (by omega)]
theorem Ag (l : List UInt8) (hl : l.length ≤ 1000000) (dir : Int) (v : List Int) {i k : Nat} (hk : k ≤ l.length) (hin : ∀ j, i ≤ j → j < k → Nt l j = true) (he : k < l.length → Nt l k = false) :
  ∀ (m j : Nat), k - j = m → i < j → j ≤ k → aJ ⟨l.toArray⟩ dir v (j : Int) = aJ ⟨l.toArray⟩ dir v ((k + 1 : Nat) : Int) := by
 intro m
 induction m with
 | zero =>
  intro j hm h1 h2
  have e : j = k := by omega
  subst e
  by_cases h : j < l.length
  ·exact tA l hl dir v h (.inl (he h))
  ·rw [tB l dir v (by omega), tB l dir v (by omega)]
 | succ m ih =>
  intro j hm h1 h2
  rw [tA l hl dir v (by omega) (.inr ⟨by omega, hin (j - 1) (by omega) (by omega)⟩)]
  exact ih (j + 1) (by omega) (by omega) (by omega)
theorem y6 (l : List UInt8) (hl : l.length ≤ 1000000) (dir : Int) (v : List Int) (hv : v.length = l.length) {i : Nat} (hi : i < l.length) (hn : Nt l i = true) (hb : i = 0 ∨ Nt l (i - 1) = false) :
  aJ ⟨l.toArray⟩ dir v (i : Int) = aJ ⟨l.toArray⟩ dir (lU v i (re (Nt l) (l.length - i) i) (sv l dir v i (re (Nt l) (l.length - i) i))) ((i + 1 : Nat) : Int) := by
 have hge := uP (Nt l) (l.length - i) i
 have hle := yH (Nt l) (l.length - i) i
 have b : (0 : Int) ≤ (i : Int) ∧ (i : Int) < (l.length : Int) := ⟨by omega, by omega⟩
 conv => lhs; rw [aJ]
 simp only [sz]
 rw [if_pos b.2, av (n := (i : Int) + 1) (by omega) (by omega), add1, if_pos b, md l hi, aa, hn]
 unfold sv
 by_cases h0 : i = 0
 ·subst h0
  simp only [Bool.not_true, Bool.false_eq_true, if_false, if_neg (show ¬ (0 : Int) < ((0 : Nat) : Int) by decide), aa]
  rw [AK l hl _ 0 rfl (Nat.zero_le _), aa]
  simp only [if_true]
  by_cases hk : re (Nt l) (l.length - 0) 0 < l.length
  ·rw [if_pos (by omega), if_pos ⟨by omega, by rw [List.length_replicate]; omega⟩, y7 l hl dir v (Nat.le_of_lt hk) (Nat.zero_le _) v hv, aa, aa, ite_self]
  ·rw [if_neg (by omega), zc l hl dir (by omega) (Nat.zero_le _) v hv, aa, aa, ite_self]
 ·rcases hb with h | hb
  ·exact absurd h h0
  ·have hp : (0 : Int) < (i : Int) := by omega
   have b1 : (0 : Int) ≤ ((i - 1 : Nat) : Int) ∧ ((i - 1 : Nat) : Int) < (l.length : Int) := ⟨by omega, by omega⟩
   have e1 : ax ((i : Int) - 1) = ((i - 1 : Nat) : Int) := by rw [av (by omega) (by omega)]; omega
   rw [e1, if_neg h0]
   simp only [Bool.not_true, Bool.false_eq_true, if_false, if_pos hp, if_pos b1, md l (show i - 1 < l.length by omega), hb, aa, List.length_replicate, Int.toNat_natCast, Br l hl _ i rfl (Nat.le_of_lt hi)]
   by_cases hk : re (Nt l) (l.length - i) i < l.length
   ·rw [if_pos (by omega), if_pos ⟨by omega, by omega⟩, zz l hl dir v _ (Nat.le_of_lt hk) hge v hv, aa, aa, if_pos hk, e1, Int.toNat_natCast]
   ·rw [if_neg (by omega), zk l hl dir v _ (by omega) hge v hv, aa, aa, if_neg hk, e1, Int.toNat_natCast]
theorem xf (l : List UInt8) (hl : l.length ≤ 1000000) (dir : Int) : ∀ (n i : Nat) (v : List Int), l.length - i = n → v.length = l.length → (i < l.length → i = 0 ∨ Nt l (i - 1) = false) →
  ∃ v', bg (j5 (fun (u : (List Int)) (x : Int × Int) => bc ⟨l.toArray⟩ dir u x.1 x.2)) (gb ⟨l.toArray⟩) (i : Int) (v, none) = some (.inr (v', none)) ∧ aJ ⟨l.toArray⟩ dir v (i : Int) = some v' := by
 intro n
 induction n using Nat.strongRecOn with
 | _ n ih =>
  intro i v hn hv hb
  by_cases hi : i < l.length
  ·have hge := uP (Nt l) (l.length - i) i
   have hle := yH (Nt l) (l.length - i) i
   have hend : re (Nt l) (l.length - i) i < l.length → Nt l (re (Nt l) (l.length - i) i) = false := fun h => xX (Nt l) _ i (by omega)
   rw [bg, l6, if_pos (by omega), wj l hl _ i rfl (Nat.le_of_lt hi), aa]
   have e : ax (max (i : Int) (re (Nt l) (l.length - i) i : Int) + 1) = ((re (Nt l) (l.length - i) i + 1 : Nat) : Int) := by rw [av (by omega) (by omega)]; omega
   rw [e]
   by_cases hn' : Nt l i = true
   ·have hik : i < re (Nt l) (l.length - i) i := by
     rw [show l.length - i = (l.length - i - 1) + 1 by omega]
     unfold re
     rw [if_pos hn']
     have := uP (Nt l) (l.length - i - 1) (i + 1)
     omega
    have step : j5 (fun (u : (List Int)) (x : Int × Int) => bc ⟨l.toArray⟩ dir u x.1 x.2) (v, none) ((i : Int), (re (Nt l) (l.length - i) i : Int)) = some ((lU v i (re (Nt l) (l.length - i) i) (sv l dir v i (re (Nt l) (l.length - i) i)), none), true) := by
     unfold j5; simp only; rw [uh l hl dir v hv hik (by omega)]; rfl
    rw [if_pos (by omega), step, y6 l hl dir v hv hi hn' (hb hi), Ag l hl dir _ (by omega) (fun j h1 h2 => C8 (Nt l) _ i j h1 h2) hend _ (i + 1) rfl (by omega) (by omega)]
    simp only [aa, Bool.not_true, Bool.false_eq_true, if_false]
    exact ih _ (by omega) _ _ rfl (by rw [zf v _ hge (by omega)]; exact hv) (fun h => .inr (by rw [Nat.add_sub_cancel]; exact hend (by omega)))
   ·have hn2 : Nt l i = false := by simpa using hn'
    have hre : re (Nt l) (l.length - i) i = i := by
     rw [show l.length - i = (l.length - i - 1) + 1 by omega]
     unfold re
     rw [if_neg hn']
    rw [hre, if_neg (by omega), tA l hl dir v hi (.inl hn2)]
    simp only [aa, Bool.false_eq_true, if_false]
    exact ih _ (by omega) (i + 1) v rfl hv (fun h => .inr (by rw [Nat.add_sub_cancel]; exact hn2))
  ·refine ⟨v, ?_, tB l dir v (by omega)⟩
   rw [bg, l6, if_neg (by omega)]
theorem Cz (l : List UInt8) (dir : Int) (hd : dir = 0 ∨ dir = 1) (hl : l.length ≤ 1000000) : ∃ v, dE ⟨l.toArray⟩ dir = some v ∧ fy ⟨l.toArray⟩ dir = some v ∧ q7 l.length v := by
 obtain ⟨v0, h0, hb⟩ := yO l dir hd hl
 refine ⟨v0, h0, ?_, hb⟩
 have z : q7 l.length (List.replicate l.length (0 : Int)) := ⟨List.length_replicate .., fun x hx => .inl (List.eq_of_mem_replicate hx)⟩
 obtain ⟨v, h1, h2⟩ := u3 l hl _ 0 _ dir rfl (Nat.zero_le _) z hd
 have h1' : bG ⟨l.toArray⟩ (List.replicate l.length (0 : Int)) dir 0 = some v := h1
 have h1r : cw ⟨l.toArray⟩ (List.replicate l.length (0 : Int)) dir 0 = some v := (xC l hl _ 0 _ dir rfl (Nat.zero_le _)).symm.trans h1
 obtain ⟨v', h3, h4⟩ := xf l hl dir _ 0 v rfl h2.1 (fun _ => .inl rfl)
 have h3' : bg (j5 (fun (u : (List Int)) (x : Int × Int) => bc ⟨l.toArray⟩ dir u x.1 x.2)) (gb ⟨l.toArray⟩) 0 (v, none) = some (.inr (v', none)) := h3
 have h4' : aJ ⟨l.toArray⟩ dir v 0 = some v' := h4
 have b : (0 : Int) ≤ (l.length : Int) ∧ (8 : Int) * (l.length : Int) ≤ 281474976710656 ∧ (l.length : Int) ≤ 9223372036854775807 := ⟨by omega, by omega, by omega⟩
 have e : dE ⟨l.toArray⟩ dir = some v' := by
  unfold dE fZ dO
  rw [sz, if_pos b, Int.toNat_natCast, h1', aa, aa, h3']
  rfl
 have e2 : v0 = v' := Option.some.inj (h0.symm.trans e)
 unfold fy
 rw [sz, if_pos b, Int.toNat_natCast, h1r, aa, h4', e2]
 rfl
theorem wB (l : List UInt8) (dir : Int) (hd : dir = 0 ∨ dir = 1) (hl : l.length ≤ 1000000) (y : List Int) (hy : y.length = l.length) : ∀ (n i : Nat) (v : List Int), l.length - i = n → i ≤ l.length → v.length = l.length → (∀ j (h : j < v.length), i ≤ j → v[j] = 0 ∨ v[j] = 1) →
  b9 ⟨l.toArray⟩ dir y v (i : Int) = cI ⟨l.toArray⟩ dir y v (i : Int) := by
 intro n
 induction n with
 | zero =>
  intro i v hn hi hv hb
  rw [b9, cI, sz, if_neg (by omega), if_neg (by omega)]
 | succ n ih =>
  intro i v hn hi hv hb
  have hlt : i < v.length := by omega
  have hi' := hb i hlt (Nat.le_refl _)
  have e0 : v.getD i 0 = v[i] := by simp [List.getD_eq_getElem?_getD, hlt]
  have b1 : (0 : Int) ≤ (i : Int) ∧ (i : Int) < (y.length : Int) := ⟨by omega, by omega⟩
  have b2 : (0 : Int) ≤ dir ∧ dir < 2 := by omega
  have b3 : (0 : Int) ≤ v[i] ∧ v[i] < 2 := by omega
  have b4 : (0 : Int) ≤ (i : Int) ∧ (i : Int) < (l.length : Int) := ⟨by omega, by omega⟩
  have next : ∀ x, b9 ⟨l.toArray⟩ dir y (List.set v i x) ((i + 1 : Nat) : Int) = cI ⟨l.toArray⟩ dir y (List.set v i x) ((i + 1 : Nat) : Int) := fun x =>
   ih (i + 1) _ (by omega) (by omega) (by rw [List.length_set]; exact hv) fun j h hj => by
    rw [List.getElem_set, if_neg (by omega)]
    exact hb j (by rw [List.length_set] at h; exact h) (by omega)
  rw [b9, cI, if_pos b1.2, av (n := (i : Int) + 1) (by omega) (by omega), add1]
  simp only [if_pos b1, if_pos b2, e0, if_pos b3, sz, if_pos b4, if_pos b4.2, kw, kY, aa, Int.toNat_natCast]
  by_cases hx : v[i] = 1
  ·rw [if_pos hx, if_pos hx]
   by_cases hc : cl (bt ⟨l.toArray⟩ (i : Int)) = 3
   ·simp only [hx, hc, decide_true, aa, if_true, not_true_eq_false, decide_false, Bool.false_eq_true, if_false, List.set_set]
    rcases hd with rfl | rfl <;> exact next _
   ·simp only [hx, hc, decide_true, aa, if_true, not_false_eq_true, decide_false, Bool.false_eq_true, if_false, List.set_set]
    rcases hd with rfl | rfl <;> exact next _
  ·have hx0 : v[i] = 0 := by rcases hi' with h | h; exact h; exact absurd h hx
   rw [if_neg hx, if_neg hx]
   simp only [hx0, aa, Bool.false_eq_true, if_false, decide_true]
   rcases hd with rfl | rfl <;> exact next _
theorem zE (l : List UInt8) (ho : jm l = true) (dir : Int) (hd : dir = 0 ∨ dir = 1) : ∃ v, iw ⟨l.toArray⟩ dir = some (v, 0) ∧ iu ⟨l.toArray⟩ dir = some (v, 0) ∧ v.length = l.length := by
 have hl : l.length ≤ 1000000 := by have := (dt ho).2; omega
 obtain ⟨y, h1, h2, h3⟩ := Cz l dir hd hl
 obtain ⟨v, h4, h5⟩ := sP l dir hd hl y h3.1 _ 0 y rfl (Nat.zero_le _) h3.1 (fun j h _ => h3.2 _ (List.getElem_mem h))
 have h6 := (wB l dir hd hl y h3.1 _ 0 y rfl (Nat.zero_le _) h3.1 (fun j h _ => h3.2 _ (List.getElem_mem h))).symm.trans h4
 have h4' : b9 ⟨l.toArray⟩ dir y y 0 = some v := h4
 have h6' : cI ⟨l.toArray⟩ dir y y 0 = some v := h6
 refine ⟨v, ?_, ?_, h5⟩
 ·unfold iw jO
  rw [iQ, ho, h1]
  rcases hd with rfl | rfl
  ·simp only [aa, if_true, Bool.not_true, Bool.false_eq_true, if_false, h4']
  ·simp only [aa, if_true, Bool.not_true, Bool.false_eq_true, if_false, h4', show ¬ (1 : Int) = 0 by decide, decide_true]
 ·unfold iu kF
  rw [fT l (by omega), ho, h2]
  rcases hd with rfl | rfl
  ·simp only [aa, if_true, Bool.not_true, Bool.false_eq_true, if_false, h6']
  ·simp only [aa, if_true, Bool.not_true, Bool.false_eq_true, if_false, h6', show ¬ (1 : Int) = 0 by decide, decide_true]
end Go.Proofs.YtaemgcpcfnbmdaaGreatDoor.LG
namespace Go.Proofs.YtaemgcpcfnbmdaaGreatDoor.LG
open Go Go.LG Go.Lib

theorem zC (a : List Int) (ha : a.length ≤ 1000000) : ∀ (n i j : Nat) (v : List Int), j - i = n → i ≤ a.length → j ≤ a.length → v.length = a.length →
  ∃ v', bf a v (i : Int) ((j : Int) - 1) = some v' ∧ v'.length = a.length ∧ ∀ x, x < a.length → v'.getD x 0 = if i ≤ x ∧ x < j then v.getD (i + (j - 1) - x) 0 else v.getD x 0 := by
 intro n
 induction n using Nat.strongRecOn with
 | _ n ih =>
  intro i j v hn hi hj hv
  rw [bf]
  by_cases h : (i : Int) < (j : Int) - 1
  ·have b1 : (0 : Int) ≤ (i : Int) ∧ (i : Int) < (a.length : Int) := ⟨by omega, by omega⟩
   have b2 : (0 : Int) ≤ (j : Int) - 1 ∧ (j : Int) - 1 < (a.length : Int) := ⟨by omega, by omega⟩
   have e1 : Int.toNat ((j : Int) - 1) = j - 1 := by omega
   have e4 : ax ((j : Int) - 1 - 1) = ((j - 1 : Nat) : Int) - 1 := by rw [av (by omega) (by omega)]; omega
   have e5 : ax ((i : Int) + 1) = ((i + 1 : Nat) : Int) := by rw [av (by omega) (by omega)]; omega
   rw [if_pos h]
   simp only [if_pos b1, if_pos b2, e1, Int.toNat_natCast, e4, e5]
   obtain ⟨v', h1, h2, h3⟩ := ih _ (by omega) (i + 1) (j - 1) ((v.set i (v.getD (j - 1) 0)).set (j - 1) (v.getD i 0)) rfl (by omega) (by omega) (by simp [hv])
   refine ⟨v', h1, h2, fun x hx => ?_⟩
   rw [h3 x hx]
   simp only [List.getD_eq_getElem?_getD, List.getElem?_set, List.length_set]
   by_cases c1 : i + 1 ≤ x ∧ x < j - 1
   ·rw [if_pos c1, if_pos (show i ≤ x ∧ x < j from ⟨by omega, by omega⟩), if_neg (by omega), if_neg (by omega), show i + 1 + (j - 1 - 1) - x = i + (j - 1) - x by omega]
   ·rw [if_neg c1]
    by_cases c2 : j - 1 = x
    ·rw [if_pos c2, if_pos (by omega), if_pos (show i ≤ x ∧ x < j from ⟨by omega, by omega⟩), show i + (j - 1) - x = i by omega]
     rfl
    ·rw [if_neg c2]
     by_cases c3 : i = x
     ·rw [if_pos c3, if_pos (by omega), if_pos (show i ≤ x ∧ x < j from ⟨by omega, by omega⟩), show i + (j - 1) - x = j - 1 by omega]
      rfl
     ·rw [if_neg c3, if_neg (by omega)]
  ·rw [if_neg h]
   refine ⟨v, rfl, hv, fun x hx => ?_⟩
   by_cases c : i ≤ x ∧ x < j
   ·rw [if_pos c, show i + (j - 1) - x = x by omega]
   ·rw [if_neg c]
theorem xw (a : List Int) (ha : a.length ≤ 1000000) : cn a = some a.reverse := by
 obtain ⟨v, h1, h2, h3⟩ := zC a ha _ 0 a.length a rfl (Nat.zero_le _) (Nat.le_refl _) rfl
 have h1' : bf a a 0 ((a.length : Int) - 1) = some v := h1
 have e : v = a.reverse := by
  refine List.ext_getElem (by rw [h2, List.length_reverse]) fun x g1 g2 => ?_
  have := h3 x (by omega)
  rw [if_pos ⟨Nat.zero_le _, by omega⟩] at this
  simp only [List.getD_eq_getElem?_getD, Nat.zero_add] at this
  rw [List.getElem?_eq_getElem g1, List.getElem?_eq_getElem (show a.length - 1 - x < a.length by omega)] at this
  rw [List.getElem_reverse]
  exact this
 unfold cn
 rw [av (n := (a.length : Int) - 1) (by omega) (by omega), h1', e]; rfl
def Hi (lv : List Int) (t : Int) (a : List Int) (j : Nat) : Bool := decide (t ≤ lv.getD (Int.toNat (a.getD j 0)) 0)
theorem getD_in {a : List Int} {P : Int → Prop} (h : ∀ x ∈ a, P x) {i : Nat} (hi : i < a.length) : P (a.getD i 0) := by
 rw [List.getD_eq_getElem?_getD, List.getElem?_eq_getElem hi]
 exact h _ (List.getElem_mem hi)
theorem x8 (a lv : List Int) (t : Int) (ha : a.length ≤ 1000000) (hv : ∀ x ∈ a, 0 ≤ x ∧ x < (lv.length : Int)) : ∀ (n i : Nat), a.length - i = n → i ≤ a.length → bD a lv t (i : Int) = some (re (Hi lv t a) n i : Int) := by
 intro n
 induction n with
 | zero =>
  intro i hn hi
  rw [bD, if_neg (by omega)]
  rfl
 | succ n ih =>
  intro i hn hi
  have hx := getD_in hv (show i < a.length by omega)
  rw [bD, if_pos (by omega), if_pos ⟨by omega, by omega⟩, Int.toNat_natCast]
  unfold iM re Hi
  rw [if_pos hx]
  simp only [aa]
  by_cases hc : t ≤ lv.getD (Int.toNat (a.getD i 0)) 0
  ·rw [decide_eq_true hc, if_pos rfl, if_pos rfl, av (n := (i : Int) + 1) (by omega) (by omega), add1]
   exact ih (i + 1) (by omega) (by omega)
  ·rw [decide_eq_false hc, if_neg (by decide), if_neg (by decide)]
theorem xQ (a lv : List Int) (t : Int) (ha : a.length ≤ 1000000) (hv : ∀ x ∈ a, 0 ≤ x ∧ x < (lv.length : Int)) : ∀ (n i : Nat), a.length - i = n → i ≤ a.length → dp a lv t (i : Int) = some (re (Hi lv t a) n i : Int) := by
 intro n
 induction n with
 | zero =>
  intro i hn hi
  rw [dp, if_neg (by omega)]
  rfl
 | succ n ih =>
  intro i hn hi
  have hx := getD_in hv (show i < a.length by omega)
  rw [dp, if_pos (by omega), if_pos ⟨by omega, by omega⟩, Int.toNat_natCast, if_pos hx]
  unfold re Hi
  simp only [aa]
  by_cases hc : t ≤ lv.getD (Int.toNat (a.getD i 0)) 0
  ·rw [decide_eq_true hc, if_pos rfl, if_pos rfl, av (n := (i : Int) + 1) (by omega) (by omega), add1]
   exact ih (i + 1) (by omega) (by omega)
  ·rw [decide_eq_false hc, if_neg (by decide), if_neg (by decide)]
theorem B2 (a : List Int) {i k : Nat} (h : i ≤ k) (hk : k < a.length) : ((a.take (k + 1)).drop i).reverse = a.getD k 0 :: ((a.take k).drop i).reverse := by
 rw [List.take_succ_eq_append_getElem hk, List.drop_append_of_le_length (by rw [List.length_take]; omega), List.reverse_append]
 simp [List.getD_eq_getElem?_getD, hk]
theorem y1 (a : List Int) (ha : a.length ≤ 1000000) (i : Nat) : ∀ (n k : Nat) (out : List Int), k - i = n → i ≤ k → k ≤ a.length → out.length + n ≤ 1000000 → dn a (i : Int) out ((k : Int) - 1) = some (out ++ ((a.take k).drop i).reverse) := by
 intro n
 induction n with
 | zero =>
  intro k out hn hik hk ho
  have e : k = i := by omega
  subst e
  rw [dn, if_neg (by omega), List.drop_eq_nil_of_le (by rw [List.length_take]; omega)]
  simp
 | succ n ih =>
  intro k out hn hik hk ho
  have e1 : (k : Int) - 1 = ((k - 1 : Nat) : Int) := by omega
  rw [dn, if_pos (by omega), if_pos ⟨by omega, by omega⟩, if_pos (by omega), av (by omega) (by omega), e1, ih (k - 1) _ (by omega) (by omega) (by omega) (by simp; omega), Int.toNat_natCast]
  have e2 := B2 a (show i ≤ k - 1 by omega) (show k - 1 < a.length by omega)
  rw [show k - 1 + 1 = k by omega] at e2
  rw [e2, List.append_assoc]
  rfl
theorem uJ (a : List Int) {i : Nat} (h : i < a.length) : a.drop i = a.getD i 0 :: a.drop (i + 1) := by
 rw [List.drop_eq_getElem_cons h]
 simp [List.getD_eq_getElem?_getD, h]
theorem zr (a0 a lv : List Int) (t : Int) (ha : a.length ≤ 1000000) (h0 : a0.length = a.length) (hv : ∀ x ∈ a, 0 ≤ x ∧ x < (lv.length : Int)) : ∀ (n i : Nat) (out : List Int), a.length - i = n → out.length = min i a.length →
  ∃ w, aZ (j5 (fun (u : (List Int)) (x : Int × Int) => bE a0 u x.1 x.2)) a lv t (i : Int) (out ++ a.drop i, none) = some (.inr (w, none)) ∧ bB a lv t out (i : Int) = some w ∧ w.length = a.length := by
 intro n
 induction n using Nat.strongRecOn with
 | _ n ih =>
  intro i out hn ho
  by_cases hi : i < a.length
  ·have ho' : out.length = i := by omega
   have hge := uP (Hi lv t a) (a.length - i) i
   have hle := yH (Hi lv t a) (a.length - i) i
   have hend : re (Hi lv t a) (a.length - i) i < a.length → Hi lv t a (re (Hi lv t a) (a.length - i) i) = false := fun h => xX (Hi lv t a) _ i (by omega)
   have hx := getD_in hv hi
   have b : (0 : Int) ≤ (i : Int) ∧ (i : Int) < (a.length : Int) := ⟨by omega, by omega⟩
   rw [aZ, if_pos (by omega), x8 a lv t ha hv _ i rfl (Nat.le_of_lt hi), aa, bB, if_pos b.2, if_pos b, Int.toNat_natCast, if_pos hx]
   have e : ax (max (i : Int) (re (Hi lv t a) (a.length - i) i : Int) + 1) = ((re (Hi lv t a) (a.length - i) i + 1 : Nat) : Int) := by rw [av (by omega) (by omega)]; omega
   rw [e]
   have low : ∀ (o : List Int) (j : Nat), o.length = j → j < a.length → Hi lv t a j = false → bB a lv t o (j : Int) = bB a lv t (o ++ [a.getD j 0]) ((j + 1 : Nat) : Int) := by
    intro o j hoj hj hl
    have hxj := getD_in hv hj
    have hl' : lv.getD (Int.toNat (a.getD j 0)) 0 < t := by
     unfold Hi at hl
     have := of_decide_eq_false hl
     omega
    have bj : (0 : Int) ≤ (j : Int) ∧ (j : Int) < (a.length : Int) := ⟨by omega, by omega⟩
    conv => lhs; rw [bB, if_pos bj.2, if_pos bj, Int.toNat_natCast, if_pos hxj, if_pos hl', if_pos bj, if_pos (by omega)]
    simp only [aa]
    rw [av (n := (j : Int) + 1) (by omega) (by omega), add1]
   by_cases hc : Hi lv t a i = true
   ·have hik : i < re (Hi lv t a) (a.length - i) i := by
     rw [show a.length - i = (a.length - i - 1) + 1 by omega]
     unfold re
     rw [if_pos hc]
     have := uP (Hi lv t a) (a.length - i - 1) (i + 1)
     omega
    generalize hk : re (Hi lv t a) (a.length - i) i = k at *
    have hc' : ¬ lv.getD (Int.toNat (a.getD i 0)) 0 < t := by
     unfold Hi at hc
     have := of_decide_eq_true hc
     omega
    have hvl : (out ++ a.drop i).length = a.length := by simp; omega
    have bk : (0 : Int) ≤ (i : Int) ∧ ((i : Int) : Int) ≤ (k : Int) ∧ (k : Int) ≤ (a0.length : Int) := ⟨by omega, by omega, by omega⟩
    have ecut : fk (out ++ a.drop i) (i : Int) (k : Int) = (a.take k).drop i := by
     unfold fk
     rw [Int.toNat_natCast, Int.toNat_natCast]
     rw [List.take_append, List.take_of_length_le (show out.length ≤ k by omega), List.drop_append, List.drop_eq_nil_of_le (show out.length ≤ i by omega), List.nil_append, show i - out.length = 0 by omega, List.drop_zero, List.drop_take, show k - out.length = k - i by omega]
    have step : j5 (fun (u : (List Int)) (x : Int × Int) => bE a0 u x.1 x.2) (out ++ a.drop i, none) ((i : Int), (k : Int)) = some (((out ++ ((a.take k).drop i).reverse) ++ a.drop k, none), true) := by
     unfold j5 bE
     simp only
     rw [if_pos bk, ecut, xw _ (by simp; omega)]
     simp only [aa, Int.toNat_natCast]
     rw [List.take_append_of_le_length (by omega), List.take_of_length_le (by omega), List.drop_append, List.drop_eq_nil_of_le (show out.length ≤ k by omega), List.nil_append, List.drop_drop, show i + (k - out.length) = k by omega, List.append_assoc]
     rfl
    rw [if_pos (by omega), step, if_neg hc', xQ a lv t ha hv _ i rfl (Nat.le_of_lt hi), hk]
    simp only [aa, Bool.not_true, Bool.false_eq_true, if_false]
    rw [av (n := (k : Int) - 1) (by omega) (by omega), y1 a ha i _ k out rfl (by omega) (by omega) (by omega)]
    simp only [aa]
    rw [av (by omega) (by omega), show (k : Int) - 1 + 1 = (k : Int) by omega]
    have hol : (out ++ ((a.take k).drop i).reverse).length = k := by simp; omega
    by_cases hkn : k < a.length
    ·rw [low _ k hol hkn (hend hkn), uJ a hkn]
     have := ih _ (by omega) (k + 1) (out ++ ((a.take k).drop i).reverse ++ [a.getD k 0]) rfl (by simp at hol ⊢; omega)
     rw [List.append_assoc _ [a.getD k 0]] at this
     exact this
    ·have ek : k = a.length := by omega
     refine ⟨out ++ ((a.take k).drop i).reverse ++ a.drop k, ?_, ?_, ?_⟩
     ·rw [aZ, if_neg (by omega)]
     ·rw [bB, if_neg (by omega), List.drop_eq_nil_of_le (show a.length ≤ k by omega), List.append_nil]
     ·rw [List.length_append, hol]; simp; omega
   ·have hc' : Hi lv t a i = false := by simpa using hc
    have hre : re (Hi lv t a) (a.length - i) i = i := by
     rw [show a.length - i = (a.length - i - 1) + 1 by omega]
     unfold re
     rw [if_neg hc]
    have hl' : lv.getD (Int.toNat (a.getD i 0)) 0 < t := by
     unfold Hi at hc'
     have := of_decide_eq_false hc'
     omega
    rw [hre, if_neg (by omega), if_pos hl', if_pos b, if_pos (by omega)]
    simp only [aa, Bool.false_eq_true, if_false]
    rw [av (n := (i : Int) + 1) (by omega) (by omega), add1, uJ a hi]
    have := ih _ (by omega) (i + 1) (out ++ [a.getD i 0]) rfl (by simp; omega)
    rw [List.append_assoc] at this
    exact this
  ·refine ⟨out, ?_, ?_, by omega⟩
   ·rw [aZ, if_neg (by omega), List.drop_eq_nil_of_le (show a.length ≤ i by omega), List.append_nil]
   ·rw [bB, if_neg (by omega)]
theorem uK (n : Nat) (a lv ts : List Int) (hn : n ≤ 1000000) (ha : a.length = n) (hlv : lv.length = n) (hts : ts.length ≤ 1000000) {i : Nat} (hi : i < ts.length) (v : List Int) (hv : v.Perm (jp n)) :
  ∃ w, bn a lv ts v (i : Int) = bn a lv ts w ((i + 1 : Nat) : Int) ∧ dx v lv (ts.getD i 0) = some w ∧ w.Perm (jp n) := by
 have hvl : v.length = n := by rw [hv.length_eq, kB]
 have hr : ∀ x ∈ v, 0 ≤ x ∧ x < (lv.length : Int) := fun x hx => by have := rS (hv.mem_iff.1 hx); omega
 have hcl : de v = some (v, v) := by
  unfold de
  simp
  try omega
 obtain ⟨w, h1, h2, h3⟩ := zr a v lv (ts.getD i 0) (by omega) (by omega) hr _ 0 [] rfl (by simp)
 have h1' : aZ (j5 (fun (u : (List Int)) (x : Int × Int) => bE a u x.1 x.2)) v lv (ts.getD i 0) 0 (v, none) = some (.inr (w, none)) := h1
 have h2' : bB v lv (ts.getD i 0) [] 0 = some w := h2
 obtain ⟨v2, h4, h5⟩ := wE (fun v : List Int => v.Perm (jp n)) v lv (ts.getD i 0) (by omega) hr _ (by rw [hvl]; exact tM n a hn ha) _ 0 v rfl hv
 have h4' : aZ (j5 (fun (u : (List Int)) (x : Int × Int) => bE a u x.1 x.2)) v lv (ts.getD i 0) 0 (v, none) = some (.inr (v2, none)) := h4
 have ew : v2 = w := by
  have := h4'.symm.trans h1'
  injection this with e; injection e with e; injection e
 refine ⟨w, ?_, ?_, ew ▸ h5⟩
 ·conv => lhs; rw [bn]
  rw [if_pos (by omega), if_pos ⟨by omega, by omega⟩, hcl, aa, av (n := (i : Int) + 1) (by omega) (by omega), add1, Int.toNat_natCast]
  unfold gw et
  simp only [aa, h1']
 ·unfold dx
  rw [h2']; rfl
theorem y8 (n : Nat) : jp (n + 1) = jp n ++ [(n : Int)] := by simp [jp, List.range_succ]
theorem uz (l : List UInt8) (hl : l.length ≤ 1000000) : ∀ (n i : Nat), l.length - i = n → i ≤ l.length → dz ⟨l.toArray⟩ (jp i) (i : Int) = some (jp l.length) := by
 intro n
 induction n with
 | zero =>
  intro i hn hi
  rw [dz, sz, if_neg (by omega), show i = l.length by omega]
 | succ n ih =>
  intro i hn hi
  rw [dz, sz, if_pos (by omega), if_pos (by rw [kB]; omega), av (n := (i : Int) + 1) (by omega) (by omega), add1, ← y8]
  exact ih (i + 1) (by omega) (by omega)
theorem z1 (l : List UInt8) (ho : jm l = true) (dir : Int) (hd : dir = 0 ∨ dir = 1) : ∃ y, i1 ⟨l.toArray⟩ dir = some (y, 0) ∧ iO ⟨l.toArray⟩ dir = some (y, 0) ∧ y.Perm (jp l.length) := by
 have hl : l.length ≤ 1000000 := by have := (dt ho).2; omega
 obtain ⟨lv, h1, h2, h3⟩ := zE l ho dir hd
 have h4 := tU l hl _ 0 (List.replicate l.length (0 : Int)) rfl (Nat.zero_le _) (List.length_replicate ..) (fun j _ h => by omega)
 have h4' : dT ⟨l.toArray⟩ (List.replicate l.length (0 : Int)) 0 = some (jp l.length) := h4
 have h5 : dz ⟨l.toArray⟩ [] 0 = some (jp l.length) := uz l hl _ 0 rfl (Nat.zero_le _)
 obtain ⟨w1, a1, b1, c1⟩ := uK l.length (jp l.length) lv [2, 1] hl (kB _) h3 (by decide) (i := 0) (by decide) (jp l.length) (List.Perm.refl _)
 obtain ⟨w2, a2, b2, c2⟩ := uK l.length (jp l.length) lv [2, 1] hl (kB _) h3 (by decide) (i := 1) (by decide) w1 c1
 have b1' : dx (jp l.length) lv 2 = some w1 := b1
 have b2' : dx w1 lv 1 = some w2 := b2
 have a1' : bn (jp l.length) lv [2, 1] (jp l.length) 0 = bn (jp l.length) lv [2, 1] w1 ((1 : Nat) : Int) := a1
 have a2' : bn (jp l.length) lv [2, 1] w1 ((1 : Nat) : Int) = bn (jp l.length) lv [2, 1] w2 2 := a2
 have a3 : bn (jp l.length) lv [2, 1] w2 2 = some w2 := by rw [bn]; rfl
 refine ⟨w2, ?_, ?_, c2⟩
 ·unfold i1 jd
  rw [h1, aa]
  simp only [not_true_eq_false, if_false, sz, Int.toNat_natCast]
  rw [if_pos ⟨by omega, by omega, by omega⟩, h4', aa, a1', a2', a3]
  rfl
 ·unfold iO
  rw [h2, aa]
  simp only [not_true_eq_false, if_false, h5, aa, b1', b2']
theorem wl (l : List UInt8) (y : List Int) (hl : y.length ≤ 1000000) (hy : ∀ x ∈ y, 0 ≤ x ∧ x < (l.length : Int)) : ∀ (n i : Nat), y.length - i = n → i ≤ y.length →
  dh ⟨l.toArray⟩ y ((y.take i).map fun x => bt ⟨l.toArray⟩ x) (i : Int) = some (y.map fun x => bt ⟨l.toArray⟩ x) := by
 intro n
 induction n with
 | zero =>
  intro i hn hi
  rw [dh, if_neg (by omega), List.take_of_length_le (by omega)]
 | succ n ih =>
  intro i hn hi
  have hlt : i < y.length := by omega
  have e0 : y.getD i 0 = y[i] := by simp [List.getD_eq_getElem?_getD, hlt]
  have b := hy _ (List.getElem_mem hlt)
  rw [dh, if_pos (by omega), if_pos ⟨by omega, by omega⟩, Int.toNat_natCast, e0, sz, if_pos b, if_pos (by rw [List.length_map, List.length_take]; omega), av (n := (i : Int) + 1) (by omega) (by omega), add1]
  have e : (y.take (i + 1)).map (fun x => bt ⟨l.toArray⟩ x) = (y.take i).map (fun x => bt ⟨l.toArray⟩ x) ++ [bt ⟨l.toArray⟩ y[i]] := by
   rw [List.take_succ_eq_append_getElem hlt, List.map_append]; rfl
  rw [← e]
  exact ih (i + 1) (by omega) (by omega)
theorem zJ (l : List UInt8) (ho : jm l = true) (dir : Int) (hd : dir = 0 ∨ dir = 1) : ∃ p : ByteArray, iy ⟨l.toArray⟩ dir = some (p, 0) ∧ ir ⟨l.toArray⟩ dir = some (p, 0) := by
 have hl : l.length ≤ 1000000 := by have := (dt ho).2; omega
 obtain ⟨y, h1, h2, h3⟩ := z1 l ho dir hd
 have hyl : y.length = l.length := by rw [h3.length_eq, kB]
 have hyr : ∀ x ∈ y, 0 ≤ x ∧ x < (l.length : Int) := fun x hx => rS (h3.mem_iff.1 hx)
 have hV := wW l y (by omega) hyr _ 0 (List.replicate y.length (0 : Int)) rfl (Nat.zero_le _) (List.length_replicate ..) (fun j _ _ h => by omega)
 have hV' : dD ⟨l.toArray⟩ y (List.replicate y.length (0 : Int)) 0 = some (y.map fun x => bt ⟨l.toArray⟩ x) := hV
 have hR : dh ⟨l.toArray⟩ y [] 0 = some (y.map fun x => bt ⟨l.toArray⟩ x) := wl l y (by omega) hyr _ 0 rfl (Nat.zero_le _)
 refine ⟨qI (y.map fun x => bt ⟨l.toArray⟩ x), ?_, ?_⟩
 ·unfold iy
  rw [h1, aa]
  simp only [Int.toNat_natCast]
  rw [if_pos ⟨by omega, by omega, by omega⟩, hV', aa]
 ·unfold ir
  rw [h2, aa]
  simp only [not_true_eq_false, if_false, hR, aa]
end Go.Proofs.YtaemgcpcfnbmdaaGreatDoor.LG
namespace Go.Proofs.YtaemgcpcfnbmdaaGreatDoor.LG
open Go Go.LG Go.Lib

def Pv (t : List UInt8) (i : Nat) (o : Bool) : Prop := o = true ↔ ∃ j, j + 1 = i ∧ ∃ b, t[j]? = some b ∧ b.toNat ≠ 32
theorem uw (t : List UInt8) (ht : ∀ b ∈ t, b.toNat ≠ 126) (hs : t.length ≤ 1000000) : ∀ (n i k : Nat) (o : Bool), t.length - i = n → i ≤ t.length → k ≤ i →
  Pv t i o → eN ⟨t.toArray⟩ (k : Int) (i : Int) = some ((k + wc o (t.drop i) : Nat) : Int) := by
 intro n
 induction n with
 | zero =>
  intro i k o hn hi hk ho
  have : i = t.length := by omega
  subst this
  rw [eN, sz, if_neg (by omega), List.drop_length]
  simp [wc]
 | succ n ih =>
  intro i k o hn hi hk ho
  have hlt : i < t.length := by omega
  have h6 : (t[i]).toNat ≠ 126 := ht _ (by simp)
  rw [eN, sz, if_pos (by omega), if_pos (by omega), oQ t hlt, av (n := (i : Int) + 1) (by omega) (by omega), add1 i, List.drop_eq_getElem_cons hlt]
  have next : Pv t (i + 1) (decide ((t[i]).toNat ≠ 32)) := by
   unfold Pv
   rw [decide_eq_true_eq]
   constructor
   ·intro h; exact ⟨i, rfl, t[i], by simp, h⟩
   ·rintro ⟨j, hj, b, hb, h⟩
    have : j = i := by omega
    subst this
    rw [List.getElem?_eq_getElem hlt] at hb
    cases hb; exact h
  by_cases h4 : (t[i]).toNat = 32
  ·rw [if_neg (by omega), aa, if_neg (by simp), aa, ih (i + 1) k false (by omega) (by omega) (by omega) (by have e := next; simpa [h4] using e), wc, if_neg h6, if_pos h4]
  ·rw [if_pos (by omega)]
   have prev : (if (i : Int) = 0 then some true else (if (0 : Int) ≤ ax ((i : Int) - 1) ∧ ax ((i : Int) - 1) < ((t.length : Nat) : Int) then some (decide ((bt ⟨t.toArray⟩ (ax ((i : Int) - 1))) = 32)) else none)) = some (!o) := by
    by_cases h0 : i = 0
    ·rw [if_pos (by omega)]
     have : o = false := by
      unfold Pv at ho
      rw [Bool.eq_false_iff, Ne, ho]
      rintro ⟨j, hj, _⟩
      exact absurd hj (by omega)
     rw [this]; rfl
    ·rw [if_neg (by omega), av (by omega) (by omega), if_pos (by omega)]
     have e : (i : Int) - 1 = ((i - 1 : Nat) : Int) := by omega
     have hj : i - 1 < t.length := by omega
     rw [e, oQ t hj]
     by_cases hb : (t[i - 1]).toNat = 32
     ·have : o = false := by
       unfold Pv at ho
       rw [Bool.eq_false_iff, Ne, ho]
       rintro ⟨j, hj', b, hb', h⟩
       clear ho
       have : j = i - 1 := by omega
       subst this
       rw [List.getElem?_eq_getElem hj] at hb'
       cases hb'; exact h hb
      rw [this]; simp; omega
     ·have : o = true := ho.2 ⟨i - 1, by omega, t[i - 1], by simp, hb⟩
      rw [this]; simp; omega
   rw [prev, aa, aa, wc, if_neg h6, if_neg h4]
   cases o
   ·rw [if_pos (by rfl), aa, av (by omega) (by omega), add1 k, ih (i + 1) (k + 1) true (by omega) (by omega) (by omega) (by have e := next; simpa [h4] using e)]
    simp only [Bool.false_eq_true, if_false, Nat.add_assoc]
   ·rw [if_neg (by simp), aa, ih (i + 1) k true (by omega) (by omega) (by omega) (by have e := next; simpa [h4] using e)]
    simp only [if_true, Nat.zero_add]
theorem pX {l : List UInt8} (hs : l.length ≤ 1000000) : dG ⟨l.toArray⟩ = gI ⟨l.toArray⟩ := by
 unfold dG
 rw [fT l (by omega), aa]
 cases h : jm l
 ·rw [Bw h]; simp
 ·rw [oP h, sY hs]
  simp only [Bool.not_true, Bool.false_eq_true, if_false, aa]
  have := uw (shown l) (fun b hb => (qt hb).2) (by have := jv l; omega) _ 0 0 false rfl (Nat.zero_le _) (Nat.le_refl _) (by simp [Pv])
  rw [show (0 : Int) = ((0 : Nat) : Int) from rfl, this, aa, List.drop_zero, tL]
  simp
theorem xp (l : List UInt8) (hs : l.length ≤ 1000000) : ∀ (n i : Nat) (acc : List UInt8), l.length - i = n → i ≤ l.length → acc.length ≤ i →
  eM ⟨l.toArray⟩ (i8 acc) (i : Int) = some (i8 (acc ++ shown (l.drop i))) := by
 intro n
 induction n with
 | zero =>
  intro i acc hn hi ha
  have : i = l.length := by omega
  subst this
  rw [eM, sz, if_neg (by omega), List.drop_length]
  simp [shown]
 | succ n ih =>
  intro i acc hn hi ha
  have hlt : i < l.length := by omega
  rw [eM, sz, if_pos (by omega), if_pos (by omega), oQ l hlt, av (by omega) (by omega), add1, List.drop_eq_getElem_cons hlt]
  by_cases h : ((l[i]).toNat : Int) = 126
  ·rw [if_neg (by omega), aa, ih (i + 1) acc (by omega) (by omega) (by omega)]
   have h' : (l[i]).toNat = 126 := by omega
   rw [j3, if_pos h']
  ·rw [if_pos h, if_pos (by omega), if_pos (by simp [i8]; omega), aa]
   have h' : ¬ (l[i]).toNat = 126 := by omega
   have e : i8 acc ++ [((l[i]).toNat : Int)] = i8 (acc ++ [l[i]]) := by simp [i8]
   rw [e, ih (i + 1) (acc ++ [l[i]]) (by omega) (by omega) (by simp; omega), j3, if_neg h', List.append_assoc]
   rfl
theorem uV {l : List UInt8} (hs : l.length ≤ 1000000) : gx ⟨l.toArray⟩ = some (i8 (shown l)) := by
 unfold gx
 rw [show (0 : Int) = ((0 : Nat) : Int) from rfl, show ([] : List Int) = i8 [] from rfl, xp l hs _ 0 [] rfl (Nat.zero_le _) (Nat.le_refl 0), aa]
 simp only [List.nil_append, List.drop_zero]
theorem r8 (l : List UInt8) : (i8 l).length = l.length := by simp [i8]
theorem tD (l : List UInt8) {i : Nat} (h : i < l.length) : (i8 l).getD i 0 = ((l[i]).toNat : Int) := by
 unfold i8
 rw [List.getD_eq_getElem?_getD, List.getElem?_map, List.getElem?_eq_getElem h]
 rfl
def CV (f : ai) (g : List UInt8) : Bool := g.all fun b => (rH f.Glyphs (b.toNat : Int)).isSome
theorem sn (f : ai) : ∀ l : List UInt8, CV f (shown l) = gp f l
 | [] => rfl
 | b :: l => by
  have ih := sn f l
  have e : gp f (b :: l) = ((decide (b.toNat = 126) || (rH f.Glyphs (b.toNat : Int)).isSome) && gp f l) := rfl
  rw [j3, e]
  by_cases h : b.toNat = 126
  ·rw [if_pos h, ih]; simp [h]
  ·rw [if_neg h]
   have e2 : CV f (b :: shown l) = ((rH f.Glyphs (b.toNat : Int)).isSome && CV f (shown l)) := rfl
   rw [e2, ih]; simp [h]
theorem za (f : ai) (hf : Sm f) (g : List UInt8) (hg : g.length ≤ 1000000) : ∀ (n i : Nat), g.length - i = n → i ≤ g.length →
  eo f (i8 g) (i : Int) = some (if CV f (g.drop i) = true then .inr () else .inl ()) := by
 intro n
 induction n with
 | zero =>
  intro i hn hi
  rw [eo, r8, if_neg (by omega), List.drop_eq_nil_of_le (by omega)]
  rfl
 | succ n ih =>
  intro i hn hi
  have hlt : i < g.length := by omega
  have e : CV f (g.drop i) = ((rH f.Glyphs ((g[i]).toNat : Int)).isSome && CV f (g.drop (i + 1))) := by rw [List.drop_eq_getElem_cons hlt]; rfl
  rw [eo, r8, if_pos (by omega), if_pos ⟨by omega, by omega⟩, Int.toNat_natCast, tD g hlt, av (n := (i : Int) + 1) (by omega) (by omega), add1, e]
  rcases qv f ((g[i]).toNat : Int) hf.1 with ⟨h1, h2⟩ | ⟨k, hk, h1, h2⟩
  ·rw [h1, h2, aa, if_pos (by decide)]; rfl
  ·rw [h1, h2, aa, if_neg (by omega), ih (i + 1) (by omega) (by omega)]
   simp
theorem tm (f : ai) (hf : Sm f) (hv : aL f = some true) {l : List UInt8} (ho : jm l = true) : cZ f ⟨l.toArray⟩ = some (gp f l, 0) := by
 have hl := (dt ho).2
 have h := za f hf (shown l) (by have := jv l; omega) _ 0 rfl (Nat.zero_le _)
 have h' : eo f (i8 (shown l)) 0 = some (if gp f l = true then .inr () else .inl ()) := by rw [← sn]; exact h
 unfold cZ
 rw [hv, fT l (by omega), ho]
 simp only [aa, Bool.not_true, Bool.false_eq_true, if_false, uV (show l.length ≤ 1000000 by omega), h']
 cases gp f l <;> rfl
theorem has_eq (f : ai) (hf : Sm f) {l : List UInt8} (hl : l.length ≤ 9223372036854775807) {v : Bool} (h1 : aU f = some v) (h2 : aL f = some v) (hF : v = true → oG f) :
  fx f ⟨l.toArray⟩ = some (if (v && jm l) = true then (gp f l, 0) else (false, 1)) ∧ cZ f ⟨l.toArray⟩ = some (if (v && jm l) = true then (gp f l, 0) else (false, 1)) := by
 cases v
 ·refine ⟨?_, ?_⟩
  ·unfold fx; rw [h1]; rfl
  ·unfold cZ; rw [h2, aa, fT l hl]; rfl
 ·cases ho : jm l
  ·refine ⟨?_, ?_⟩
   ·unfold fx; rw [h1, iQ, ho]; rfl
   ·unfold cZ; rw [h2, aa, fT l hl, ho]; rfl
  ·exact ⟨tE f hf (hF rfl) h1 ho, tm f hf h2 ho⟩
theorem xU (f : ai) (hf : Sm f) (a c : Int) : ∀ (n i : Nat), f.Kerns.length - i = n → (∀ k (h : k < f.Kerns.length), k < i → ¬ ((f.Kerns[k]).Left = a ∧ (f.Kerns[k]).Right = c)) →
  ∃ o, dM f a c (i : Int) = some o ∧ (match o with | .inl v => v | .inr _ => 0) = pG f a c := by
 intro n
 induction n with
 | zero =>
  intro i hn hb
  rw [dM, if_neg (by omega)]
  have e : BJ f.Kerns a c = none := qr fun k hk => by have := hb k hk (by omega); simpa using this
  exact ⟨_, rfl, by unfold pG; rw [e]; rfl⟩
 | succ n ih =>
  intro i hn hb
  have hi : i < f.Kerns.length := by omega
  have hk2 := hf.2
  have b : (0 : Int) ≤ (i : Int) ∧ (i : Int) < (f.Kerns.length : Int) := ⟨by omega, by omega⟩
  rw [dM, if_pos b.2, getD_at _ _ hi, av (n := (i : Int) + 1) (by omega) (by omega), add1]
  simp only [if_pos b]
  by_cases h : (f.Kerns[i]).Left = a ∧ (f.Kerns[i]).Right = c
  ·rw [if_pos h.1, decide_eq_true h.2]
   simp only [aa, if_true]
   have e : BJ f.Kerns a c = some f.Kerns[i] := oY i hi (by simpa using h) fun k hk hki => by have := hb k hk hki; simpa using this
   exact ⟨_, rfl, by unfold pG; rw [e]; rfl⟩
  ·have hd : (if (f.Kerns[i]).Left = a then some (decide ((f.Kerns[i]).Right = c)) else some false) = some false := by
    by_cases h1 : (f.Kerns[i]).Left = a
    ·rw [if_pos h1, decide_eq_false fun h2 => h ⟨h1, h2⟩]
    ·rw [if_neg h1]
   rw [hd, aa, if_neg (by decide)]
   exact ih (i + 1) (by omega) fun k hk hki => by
    rcases Nat.lt_or_ge k i with h' | h'
    ·exact hb k hk h'
    ·have : k = i := by omega
     subst this; exact h
theorem AP (f : ai) (hf : Sm f) (a c : Int) : jj f a c = some (pG f a c) := by
 obtain ⟨o, h1, h2⟩ := xU f hf a c _ 0 rfl (fun k _ h => by omega)
 have h1' : dM f a c 0 = some o := h1
 unfold jj
 rw [h1', aa, ← h2]
 cases o <;> rfl
theorem qZ (f : ai) : ∀ (l : List UInt8) (a : Int), kp f a l = kp f a (shown l)
 | [], a => rfl
 | c :: l, a => by
  rw [j3]
  by_cases h : c.toNat = 126
  ·rw [if_pos h, ← qZ f l a]; conv => lhs; unfold kp
   rw [if_pos h]
  ·rw [if_neg h]; unfold kp
   rw [if_neg h, if_neg h, qZ f l]
def pK (g : List UInt8) (i : Nat) : Int := if i = 0 then 0 else ((g.getD (i - 1) 0).toNat : Int)
theorem zu (f : ai) (hf : Sm f) (F : oG f) (g : List UInt8) (h126 : ∀ b ∈ g, b.toNat ≠ 126) (hi : CV f g = true) (hg : g.length ≤ 1000000) : ∀ (n i : Nat) (u : Int), g.length - i = n → i ≤ g.length → -3000 * (i : Int) ≤ u → u ≤ 3000 * (i : Int) →
  er f (i8 g) u (i : Int) = some (u + kp f (pK g i) (g.drop i)) := by
 intro n
 induction n with
 | zero =>
  intro i u hn hi h1 h2
  rw [er, r8, if_neg (by omega), List.drop_eq_nil_of_le (by omega)]
  unfold kp
  rw [Int.add_zero]
 | succ n ih =>
  intro i u hn hle h1 h2
  have hlt : i < g.length := by omega
  have h6 := h126 _ (List.getElem_mem hlt)
  have hs : (rH f.Glyphs ((g[i]).toNat : Int)).isSome = true := by
   unfold CV at hi
   exact List.all_eq_true.1 hi _ (List.getElem_mem hlt)
  have ha := rY F ((g[i]).toNat : Int)
  have hk := ti F (pK g i) ((g[i]).toNat : Int)
  have hp : pK g (i + 1) = ((g[i]).toNat : Int) := by
   unfold pK
   rw [if_neg (by omega), Nat.add_sub_cancel, List.getD_eq_getElem?_getD, List.getElem?_eq_getElem hlt]
   rfl
  have hn' := ih (i + 1) (u + (oS f ((g[i]).toNat : Int) + pG f (pK g i) ((g[i]).toNat : Int))) (by omega) (by omega) (by omega) (by omega)
  rw [hp] at hn'
  have hr : kp f (pK g i) (g.drop i) = (oS f ((g[i]).toNat : Int) + pG f (pK g i) ((g[i]).toNat : Int)) + kp f ((g[i]).toNat : Int) (g.drop (i + 1)) := by
   rw [List.drop_eq_getElem_cons hlt]
   conv => lhs; unfold kp
   rw [if_neg h6]
  rw [hr, ← Int.add_assoc, ← hn']
  rcases qv f ((g[i]).toNat : Int) hf.1 with ⟨q1, q2⟩ | ⟨k, hk', q1, q2⟩
  ·rw [q1] at hs; cases hs
  ·have e : (f.Glyphs.getD k ao).Advance = oS f ((g[i]).toNat : Int) := by
    unfold oS
    rw [q1, List.getD_eq_getElem?_getD, List.getElem?_eq_getElem hk']; rfl
   conv => lhs; rw [er]
   rw [r8, if_pos (by omega), av (n := (i : Int) + 1) (by omega) (by omega), add1]
   have b : (0 : Int) ≤ (i : Int) ∧ (i : Int) < (g.length : Int) := ⟨by omega, by omega⟩
   have b2 : (0 : Int) ≤ (k : Int) ∧ (k : Int) < (f.Glyphs.length : Int) := ⟨by omega, by omega⟩
   simp only [if_pos b, Int.toNat_natCast, tD g hlt, q2, aa, if_pos b2, e]
   by_cases h0 : i = 0
   ·subst h0
    have : pK g 0 = 0 := rfl
    rw [if_neg (by decide), this, zM F, av (by omega) (by omega), Int.add_zero, aa]
   ·have e1 : ax ((i : Int) - 1) = ((i - 1 : Nat) : Int) := by rw [av (by omega) (by omega)]; omega
    have hlt1 : i - 1 < g.length := by omega
    have ep : pK g i = ((g[i - 1]).toNat : Int) := by
     unfold pK
     rw [if_neg h0, List.getD_eq_getElem?_getD, List.getElem?_eq_getElem hlt1]; rfl
    rw [if_pos (by omega), e1, if_pos ⟨by omega, by omega⟩, Int.toNat_natCast, tD g hlt1, AP f hf, aa, ← ep, av (n := u + oS f ((g[i]).toNat : Int)) (by omega) (by omega), av (by omega) (by omega), Int.add_assoc, aa]
theorem Cp (f : ai) (hf : Sm f) (F : oG f) (hv : aL f = some true) {l : List UInt8} (ho : jm l = true) : j2 f ⟨l.toArray⟩ = some (if gp f l = true then (kp f 0 l, 0) else (0, 20)) := by
 have hl := (dt ho).2
 unfold j2
 rw [tm f hf hv ho]
 cases hh : gp f l
 ·rfl
 ·have h := zu f hf F (shown l) (fun b hb => (qt hb).2) (by rw [sn]; exact hh) (by have := jv l; omega) _ 0 0 rfl (Nat.zero_le _) (by decide) (by decide)
  have h' : er f (i8 (shown l)) 0 0 = some (kp f 0 l) := by
   have e : pK (shown l) 0 = 0 := rfl
   rw [e, List.drop_zero, Int.zero_add, ← qZ] at h
   exact h
  simp only [aa, uV (show l.length ≤ 1000000 by omega), h', not_true_eq_false, if_false, Bool.not_true, Bool.false_eq_true, if_true]
theorem wT (f : ai) (hf : Sm f) {l : List UInt8} (hl : l.length ≤ 9223372036854775807) {v : Bool} (h1 : aU f = some v) (h2 : aL f = some v) (hF : v = true → oG f) (s : Int) :
  ∃ w e, df f ⟨l.toArray⟩ s = some (w, e) ∧ fB f ⟨l.toArray⟩ s = some (w, e) ∧ (e = 0 → jm l = true) := by
 obtain ⟨g1, g2⟩ := has_eq f hf hl h1 h2 hF
 cases hvo : (v && jm l)
 ·rw [hvo] at g1 g2
  refine ⟨0, 1, ?_, ?_, fun h => by cases h⟩
  ·unfold df jn
   rw [g1]; rfl
  ·unfold fB
   rw [g2]; rfl
 ·have hb := hvo
  rw [Bool.and_eq_true] at hb
  obtain ⟨hv, ho⟩ := hb
  subst hv
  rw [hvo] at g1 g2
  simp only [if_true] at g1 g2
  unfold df fB
  rw [g2, Ax f hf (hF rfl) h1 ho, Cp f hf (hF rfl) h2 ho]
  cases gp f l
  ·by_cases c1 : s < 50
   ·exact ⟨0, 1, by simp [c1], by simp [c1], fun h => by cases h⟩
   ·by_cases c2 : 300 < s
    ·exact ⟨0, 1, by simp [c1, c2], by simp [c1, c2], fun h => by cases h⟩
    ·exact ⟨0, 20, by simp [c1, c2], by simp [c1, c2], fun h => by cases h⟩
  ·by_cases c1 : s < 50
   ·exact ⟨0, 1, by simp [c1], by simp [c1], fun h => by cases h⟩
   ·by_cases c2 : 300 < s
    ·exact ⟨0, 1, by simp [c1, c2], by simp [c1, c2], fun h => by cases h⟩
    ·exact ⟨ax (Int.tdiv (ax (ax (kp f 0 l * s) + 99)) 100), 0, by simp only [if_true, aa, c1, c2, decide_false, Bool.false_eq_true, if_false, not_true_eq_false, show ¬ (0 : Int) = 1 by decide], by simp only [if_true, aa, c1, c2, decide_false, Bool.false_eq_true, if_false, not_true_eq_false, Bool.not_true], fun _ => ho⟩
end Go.Proofs.YtaemgcpcfnbmdaaGreatDoor.LG
namespace Go.Proofs.YtaemgcpcfnbmdaaGreatDoor.LG
open Go Go.LG Go.Lib

theorem tF (n : Int) : ia n = some (decide (0 ≤ n ∧ n ≤ 1000000000)) := by
 unfold ia
 by_cases h1 : 0 ≤ n
 ·simp [h1]
 ·simp [h1]
theorem rc (n : Int) : fY n = some (decide (50 ≤ n ∧ n ≤ 300)) := by
 unfold fY
 by_cases h1 : 50 ≤ n
 ·simp [h1]
 ·simp [h1]
theorem xN (E : List (Nat × Bool)) (hE : E.length ≤ 1000000) (y : Bool) : ∀ (n i : Nat), E.length - i = n → i ≤ E.length →
  dj (E.map nq) y (i : Int) = some (if ((E.drop i).any (·.2) && !y) = true then .inl () else .inr ()) := by
 intro n
 induction n with
 | zero =>
  intro i hn hi
  rw [dj, List.length_map, if_neg (by omega), List.drop_eq_nil_of_le (by omega)]
  rfl
 | succ n ih =>
  intro i hn hi
  have hlt : i < E.length := by omega
  have e : (E.drop i).any (·.2) = (E[i].2 || (E.drop (i + 1)).any (·.2)) := by rw [List.drop_eq_getElem_cons hlt]; rfl
  rw [dj, List.length_map, if_pos (by omega), if_pos ⟨by omega, by omega⟩, jb E hlt, av (n := (i : Int) + 1) (by omega) (by omega), add1, ih (i + 1) (by omega) (by omega), e]
  show ((if E[i].2 = true then some (!y) else some false) >>= _) = _
  cases E[i].2
  ·rfl
  ·cases y
   ·rfl
   ·simp
def chk (f : ai) (b : ak) (l : List UInt8) (sc : Int) (v : Bool) : List ah × Int :=
 if (v && (vb b && jm l) && decide (50 ≤ sc ∧ sc ≤ 300)) = true then (if vn f b l = true then ((LP b l).map nq, 0) else ([], 20)) else ([], 1)
theorem AN (f : ai) (hf : Sm f) (b : ak) (l : List UInt8) (hk : b.Keep.length ≤ 100000000000000) (hl : l.length ≤ 9223372036854775807) (sc : Int) {v : Bool} (h1 : aU f = some v) (h2 : aL f = some v) (hF : v = true → oG f) :
  iU f b ⟨l.toArray⟩ sc = some (chk f b l sc v) := by
 unfold iU chk
 rw [h2, aa, xO b l hk hl, aa, rc]
 cases v
 ·cases (vb b && jm l) <;> rfl
 ·cases hvo : (vb b && jm l)
  ·rfl
  ·rw [Bool.and_eq_true] at hvo
   by_cases hsc : 50 ≤ sc ∧ sc ≤ 300
   ·have ho := hvo.2
    have hlen := (dt ho).2
    have e2 : cZ f (⟨#[45]⟩ : ByteArray) = some (gp f [45], 0) := tm f hf h2 (l := [45]) (by decide)
    have e3 := xN (LP b l) (by have := sC b l; omega) (gp f [45]) _ 0 rfl (Nat.zero_le _)
    have e3' : dj ((LP b l).map nq) (gp f [45]) 0 = some (if ((LP b l).any (·.2) && !(gp f [45])) = true then .inl () else .inr ()) := e3
    simp only [tm f hf h2 ho, e2, e3', hsc, aa, if_true, Bool.and_self, decide_true, and_self, Bool.not_true, Bool.false_eq_true, if_false, not_true_eq_false, decide_false]
    unfold vn
    cases gp f l
    ·rfl
    ·cases (LP b l).any (·.2) <;> cases gp f [45] <;> rfl
   ·simp only [aa, if_true, hsc, decide_false, Bool.not_true, Bool.not_false, Bool.false_eq_true, if_false, not_true_eq_false, Bool.and_false]
theorem qa (f : ai) (hf : Sm f) (b : ak) (l : List UInt8) (hk : b.Keep.length ≤ 100000000000000) (sc : Int) {v : Bool} (h1 : aU f = some v) (hF : v = true → oG f) :
  cO f b ⟨l.toArray⟩ sc = some (if (v && (vb b && jm l) && decide (50 ≤ sc ∧ sc ≤ 300)) = true then (if vn f b l = true then .inr (.inr (⟨l.toArray⟩, (ends b l).map nq, f, sc)) else .inr (.inl (⟨#[]⟩, []))) else .inl (⟨#[]⟩, [])) := by
 cases hvo : (vb b && jm l)
 ·unfold cO
  rw [th b l hk, hvo]
  simp only [Bool.false_eq_true, if_false, aa, show ¬ (1 : Int) = 0 by decide, not_false_eq_true, if_true, Bool.and_false, Bool.false_and]
 ·cases v
  ·unfold cO
   rw [th b l hk, hvo]
   simp only [if_true, aa, not_true_eq_false, if_false, h1, Bool.not_false, Bool.false_and, Bool.false_eq_true]
  ·by_cases hsc : 50 ≤ sc ∧ sc ≤ 300
   ·have hb := hvo
    rw [Bool.and_eq_true] at hb
    have hlen := (dt hb.2).2
    rw [sK f hf (hF rfl) h1 b l hk (by omega) hb.1 hb.2 sc hsc]
    simp [hsc]
   ·unfold cO
    rw [th b l hk, hvo]
    simp only [if_true, aa, not_true_eq_false, if_false, h1, Bool.not_true, Bool.false_eq_true, hZ, hsc, decide_false, Bool.not_false, Bool.and_false]
theorem wm (f : ai) (hf : Sm f) {l : List UInt8} (ho : jm l = true) {v : Bool} (h1 : aU f = some v) (h2 : aL f = some v) (hF : v = true → oG f) (sc : Int) {a : Nat} {p : Nat × Bool} (hae : a ≤ p.1) (he : p.1 ≤ l.length) :
  fi f ⟨l.toArray⟩ (a : Int) (p.1 : Int) p.2 sc = some (ln f l sc a p) := by
 have hlen := (dt ho).2
 have hP : (part l a p.1 p.2).length ≤ 9223372036854775807 := by
  rw [rX, List.length_append]
  have h3 : (part l a p.1 false).length ≤ l.length := by
   unfold part
   rw [if_neg (by decide), List.append_nil]
   exact Nat.le_trans (oL _) (Nat.le_trans (jv _) (m8 l a p.1))
  cases p.2 <;> simp <;> omega
 obtain ⟨w, e, g1, g2, _⟩ := wT f hf hP h1 h2 hF sc
 unfold fi ln W
 rw [tq ho hae he, aa, g2, g1]
 rfl
theorem sS (w : Nat × Bool → Int) (room : Int) (D : List (Nat × Bool)) (x : Nat × Bool) : ∀ m, m ≤ D.length → pick w room (D ++ [x]) m = pick w room D m
 | 0, _ => rfl
 | m + 1, h => by
  unfold pick
  have e : (D ++ [x]).getD m (0, false) = D.getD m (0, false) := by
   rw [List.getD_eq_getElem?_getD, List.getD_eq_getElem?_getD, List.getElem?_append_left (by omega)]
  rw [e, sS w room D x m (by omega)]
theorem xv (f : ai) (hf : Sm f) {l : List UInt8} (ho : jm l = true) {v : Bool} (h1 : aU f = some v) (h2 : aL f = some v) (hF : v = true → oG f) (sc room : Int) (a : Nat) (P : List (Nat × Bool)) (hP : P.length ≤ 1000000) (k : Nat) (hk : k ≤ P.length)
  (hlo : ∀ j (h : j < P.length), j < k → (P[j]).1 ≤ a) (hD : ∀ x ∈ P.drop k, a < x.1 ∧ x.1 ≤ l.length) : ∀ (m : Nat), m ≤ (P.drop k).length → ∀ (fnd : Bool) (x y : az),
  ∃ fnd' x' y', dK f (P.map nq) ⟨l.toArray⟩ (a : Int) sc room fnd (((k + m : Nat) : Int) - 1) x.From x.Until x.Width x.Hyphen y.From y.Until y.Width y.Hyphen = some (fnd', x'.From, x'.Until, x'.Width, x'.Hyphen, y'.From, y'.Until, y'.Width, y'.Hyphen) ∧
   (fnd = true → fnd' = true ∧ x' = x) ∧ (fnd = false → match pick (W f l sc a) room (P.drop k) m with
    | some i => fnd' = true ∧ x' = ln f l sc a ((P.drop k).getD i (0, false))
    | none => fnd' = false ∧ y' = if m = 0 then y else ln f l sc a ((P.drop k).getD 0 (0, false))) := by
 intro m
 induction m with
 | zero =>
  intro hm fnd x y
  refine ⟨fnd, x, y, ?_, fun h => ⟨h, rfl⟩, fun h => ⟨h, rfl⟩⟩
  rw [dK]
  by_cases h0 : k = 0
  ·rw [if_neg (by omega)]
  ·have e1 : (((k + 0 : Nat) : Int) - 1) = ((k - 1 : Nat) : Int) := by omega
   have hlt : k - 1 < P.length := by omega
   have := hlo (k - 1) hlt (by omega)
   rw [e1, if_pos (by omega), List.length_map, if_pos ⟨by omega, by omega⟩, jb P hlt, if_pos (show (nq P[k - 1]).At ≤ (a : Int) by show ((P[k - 1]).1 : Int) ≤ _; omega)]
   rfl
 | succ m ih =>
  intro hm fnd x y
  have hl' : (P.drop k).length = P.length - k := List.length_drop ..
  have e1 : (((k + (m + 1) : Nat) : Int) - 1) = ((k + m : Nat) : Int) := by omega
  have hlt : k + m < P.length := by omega
  have hlt2 : m < (P.drop k).length := by omega
  have eD : (P.drop k)[m] = P[k + m] := List.getElem_drop ..
  have hx := hD _ (List.getElem_mem hlt2)
  rw [eD] at hx
  have eG : (P.drop k).getD m (0, false) = P[k + m] := by rw [List.getD_eq_getElem?_getD, List.getElem?_eq_getElem hlt2, eD]; rfl
  have b : (0 : Int) ≤ ((k + m : Nat) : Int) ∧ ((k + m : Nat) : Int) < (P.length : Int) := ⟨by omega, by omega⟩
  have hn : ¬ (nq P[k + m]).At ≤ (a : Int) := by show ¬ ((P[k + m]).1 : Int) ≤ _; omega
  have hL : fi f ⟨l.toArray⟩ (a : Int) (nq P[k + m]).At (nq P[k + m]).Hyphen sc = some (ln f l sc a P[k + m]) := wm f hf ho h1 h2 hF sc (Nat.le_of_lt hx.1) hx.2
  have e2 : ax (((k + m : Nat) : Int) - 1) = ((k + m : Nat) : Int) - 1 := av (by omega) (by omega)
  rw [e1, dK, if_pos b.1]
  simp only [List.length_map, if_pos b, jb P hlt, if_neg hn, hL, aa]
  have pk : pick (W f l sc a) room (P.drop k) (m + 1) = if W f l sc a P[k + m] ≤ room then some m else pick (W f l sc a) room (P.drop k) m := by
   conv => lhs; unfold pick
   rw [eG]
  have wd : (ln f l sc a P[k + m]).Width = W f l sc a P[k + m] := rfl
  rw [wd, pk]
  cases fnd
  ·simp only [Bool.not_false, if_true, aa]
   by_cases hw : W f l sc a P[k + m] ≤ room
   ·simp only [hw, decide_true, if_true, aa, e2]
    obtain ⟨fnd', x', y', g1, g2, g3⟩ := ih (by omega) true (ln f l sc a P[k + m]) (ln f l sc a P[k + m])
    refine ⟨fnd', x', y', g1, fun h => (by cases h), fun _ => ?_⟩
    rw [eG]
    exact g2 rfl
   ·simp only [hw, decide_false, if_false, Bool.false_eq_true, aa, e2]
    obtain ⟨fnd', x', y', g1, g2, g3⟩ := ih (by omega) false x (ln f l sc a P[k + m])
    refine ⟨fnd', x', y', g1, fun h => (by cases h), fun _ => ?_⟩
    have := g3 rfl
    revert this
    cases hp : pick (W f l sc a) room (P.drop k) m with
    | some i => exact fun h => h
    | none =>
     intro h
     refine ⟨h.1, ?_⟩
     rw [if_neg (by omega), h.2]
     by_cases h0 : m = 0
     ·subst h0; rw [if_pos rfl, eG]
     ·rw [if_neg h0]
  ·simp only [Bool.not_true, Bool.false_eq_true, if_false, aa, e2]
   obtain ⟨fnd', x', y', g1, g2, g3⟩ := ih (by omega) true x (ln f l sc a P[k + m])
   exact ⟨fnd', x', y', g1, fun _ => g2 rfl, fun h => by cases h⟩
theorem Aw (f : ai) (hf : Sm f) (b : ak) {l : List UInt8} (ho : jm l = true) {v : Bool} (h1 : aU f = some v) (h2 : aL f = some v) (hF : v = true → oG f) (sc room : Int) {a : Nat} (ha : a < l.length) :
  jh f ((LP b l).map nq) ⟨l.toArray⟩ (a : Int) sc room = some (ln f l sc a (vZ f b l sc a room)) := by
 have hlen := (dt ho).2
 have hLP := sC b l
 obtain ⟨k, hk, hak, hb, _⟩ := yS f hf b l (by omega) sc ha
 have e : behind b l a = (ends b l).drop k := q9 _ k _ hk (by simpa using hak) fun j hj hjk => by simpa using hb j hj hjk
 obtain ⟨hpw, hle⟩ := vB b l
 have hel : (ends b l).length = (LP b l).length + 1 := by unfold ends; simp
 have hk2 : k ≤ (LP b l).length := by omega
 have hDx : (ends b l).drop k = (LP b l).drop k ++ [(l.length, false)] := by unfold ends; rw [List.drop_append_of_le_length hk2]
 have hlo : ∀ j (h : j < (LP b l).length), j < k → ((LP b l)[j]).1 ≤ a := fun j h hj => by
  have := hb j (by omega) hj
  have e2 : (ends b l)[j]'(by omega) = (LP b l)[j] := by simp only [ends]; rw [List.getElem_append_left h]
  rwa [e2] at this
 have hD : ∀ x ∈ (LP b l).drop k, a < x.1 ∧ x.1 ≤ l.length := by
  intro x hx
  have hx' : x ∈ (ends b l).drop k := by rw [hDx]; exact List.mem_append_left _ hx
  refine ⟨?_, hle x (List.mem_of_mem_drop hx')⟩
  rw [List.drop_eq_getElem_cons hk] at hx'
  rcases List.mem_cons.1 hx' with rfl | hx'
  ·exact hak
  ·have h2 := hpw.sublist (List.drop_sublist k _)
   rw [List.drop_eq_getElem_cons hk] at h2
   have := (List.pairwise_cons.1 h2).1 x hx'
   omega
 have hdl : ((LP b l).drop k).length = (LP b l).length - k := List.length_drop ..
 have hL0 : fi f ⟨l.toArray⟩ (a : Int) (l.length : Int) false sc = some (ln f l sc a (l.length, false)) := wm f hf ho h1 h2 hF sc (p := (l.length, false)) (Nat.le_of_lt ha) (Nat.le_refl _)
 obtain ⟨fnd', x', y', g1, g2, g3⟩ := xv f hf ho h1 h2 hF sc room a (LP b l) (by omega) k hk2 hlo hD _ (Nat.le_refl _) (decide (W f l sc a (l.length, false) ≤ room)) (ln f l sc a (l.length, false)) (ln f l sc a (l.length, false))
 have e3 : (((k + ((LP b l).drop k).length : Nat) : Int) - 1) = ax (((LP b l).length : Int) - 1) := by rw [av (by omega) (by omega)]; omega
 rw [e3] at g1
 have wd : (ln f l sc a (l.length, false)).Width = W f l sc a (l.length, false) := rfl
 unfold jh
 rw [sz, hL0, aa, wd, List.length_map]
 rw [wd] at g1
 rw [g1, aa]
 have est : vZ f b l sc a room = match pick (W f l sc a) room ((LP b l).drop k ++ [(l.length, false)]) (((LP b l).drop k).length + 1) with
   | some i => ((LP b l).drop k ++ [(l.length, false)]).getD i (0, false)
   | none => ((LP b l).drop k ++ [(l.length, false)]).getD 0 (0, false) := by
  unfold vZ stop
  rw [e, hDx, List.length_append, List.length_singleton]
  rfl
 have eL : ((LP b l).drop k ++ [(l.length, false)]).getD ((LP b l).drop k).length (0, false) = (l.length, false) := by
  rw [List.getD_eq_getElem?_getD, List.getElem?_append_right (Nat.le_refl _), Nat.sub_self]; rfl
 have pk : pick (W f l sc a) room ((LP b l).drop k ++ [(l.length, false)]) (((LP b l).drop k).length + 1) = if W f l sc a (l.length, false) ≤ room then some ((LP b l).drop k).length else pick (W f l sc a) room ((LP b l).drop k) ((LP b l).drop k).length := by
  conv => lhs; unfold pick
  rw [eL, sS _ _ _ _ _ (Nat.le_refl _)]
 have gA : ∀ i, i < ((LP b l).drop k).length → ((LP b l).drop k ++ [(l.length, false)]).getD i (0, false) = ((LP b l).drop k).getD i (0, false) := fun i hi => by
  rw [List.getD_eq_getElem?_getD, List.getD_eq_getElem?_getD, List.getElem?_append_left hi]
 by_cases hw : W f l sc a (l.length, false) ≤ room
 ·obtain ⟨q1, q2⟩ := g2 (decide_eq_true hw)
  rw [est, pk, if_pos hw, q1, q2]
  simp only [eL, Bool.not_true, Bool.false_eq_true, if_false]
 ·have q := g3 (decide_eq_false hw)
  rw [est, pk, if_neg hw]
  cases hp : pick (W f l sc a) room ((LP b l).drop k) ((LP b l).drop k).length with
  | some i =>
   rw [hp] at q
   obtain ⟨q1, q2⟩ := q
   rw [q1, q2]
   simp only [Bool.not_true, Bool.false_eq_true, if_false, gA i (vF hp).1]
  | none =>
   rw [hp] at q
   obtain ⟨q1, q2⟩ := q
   rw [q1, q2]
   by_cases h0 : ((LP b l).drop k).length = 0
   ·rw [if_pos h0]
    have : (LP b l).drop k = [] := List.length_eq_zero_iff.1 h0
    rw [this]
    simp only [Bool.not_false, if_true]
    rfl
   ·rw [if_neg h0, gA 0 (by omega)]
    simp only [Bool.not_false, if_true]
end Go.Proofs.YtaemgcpcfnbmdaaGreatDoor.LG
namespace Go.Proofs.YtaemgcpcfnbmdaaGreatDoor.LG
open Go Go.LG Go.Lib

theorem yx (f : ai) (hf : Sm f) (b : ak) (l : List UInt8) (hk : b.Keep.length ≤ 100000000000000) (hl : l.length ≤ 9223372036854775807) {v : Bool} (h1 : aU f = some v) (h2 : aL f = some v) (hF : v = true → oG f) (a sc room : Int) :
  ∃ x e, eB f b ⟨l.toArray⟩ a sc room = some (x, e) ∧ fg f b ⟨l.toArray⟩ a sc room = some (x, e) := by
 unfold eB fg
 rw [sz, av (n := (l.length : Int) - 1) (by omega) (by omega), hZ, hZ, aa, tF, aa]
 by_cases hr : 0 ≤ room ∧ room ≤ 1000000000
 ·by_cases ha : 0 ≤ a ∧ a ≤ (l.length : Int) - 1
  ·have n1 : ¬ a < 0 := by omega
   have n2 : ¬ (l.length : Int) ≤ a := by omega
   simp only [ha, hr, and_self, decide_true, Bool.not_true, Bool.false_eq_true, if_false, aa, n1, n2, decide_false, qa f hf b l hk sc h1 hF, AN f hf b l hk hl sc h1 h2 hF]
   unfold chk
   cases hc : (v && (vb b && jm l) && decide (50 ≤ sc ∧ sc ≤ 300))
   ·exact ⟨_, _, rfl, rfl⟩
   ·cases hp : vn f b l
    ·exact ⟨_, _, rfl, rfl⟩
    ·have ho : jm l = true := by
      rw [Bool.and_eq_true, Bool.and_eq_true, Bool.and_eq_true] at hc
      exact hc.1.2.2
     have hlen := (dt ho).2
     have hn : a = ((a.toNat : Nat) : Int) := by omega
     have hx := (rn f hf b l (by omega) sc (show a.toNat < l.length by omega) room).1
     have hy := Aw f hf b ho h1 h2 hF sc room (show a.toNat < l.length by omega)
     rw [← hn] at hx hy
     simp only [if_true, aa, hx, hy, not_true_eq_false, if_false]
     exact ⟨_, _, rfl, rfl⟩
  ·simp only [ha, hr, and_self, decide_true, decide_false, Bool.not_true, Bool.not_false, Bool.false_eq_true, if_false, if_true, aa]
   by_cases n1 : a < 0
   ·simp only [n1, decide_true, if_true, aa]
    exact ⟨_, _, rfl, rfl⟩
   ·have n2 : (l.length : Int) ≤ a := by omega
    simp only [n1, n2, decide_true, decide_false, Bool.false_eq_true, if_false, if_true, aa]
    exact ⟨_, _, rfl, rfl⟩
 ·by_cases ha : 0 ≤ a ∧ a ≤ (l.length : Int) - 1
  ·simp only [ha, hr, and_self, decide_true, decide_false, Bool.not_true, Bool.not_false, Bool.false_eq_true, if_false, if_true, aa]
   first | exact ⟨_, _, rfl, rfl⟩ | exact ⟨_, _, rfl⟩
  ·simp only [ha, hr, decide_false, Bool.not_true, Bool.not_false, Bool.false_eq_true, if_false, if_true, aa]
   exact ⟨_, _, rfl, rfl⟩
theorem z6 {x : Int} (h1 : -9223372036854775808 ≤ x) (h2 : x ≤ 9223372036854775807) : iR x 2 = some (Int.fdiv x (2 ^ 1)) := by
 have e : Int.fdiv x (2 ^ 1) = x / 2 := by rw [Int.fdiv_eq_ediv_of_nonneg _ (by decide)]; rfl
 unfold iR
 rw [e, if_pos (by decide), if_pos (by decide)]
 rcases Int.lt_or_le x 0 with h | h
 ·have hn : x = -(-x) := by omega
  have t1 : Int.tdiv x 2 = -((-x) / 2) := by
   conv => lhs; rw [hn]
   rw [Int.neg_tdiv, Int.tdiv_eq_ediv_of_nonneg (by omega)]
  have t2 : Int.tmod x 2 = -((-x) % 2) := by
   conv => lhs; rw [hn]
   rw [Int.neg_tmod, Int.tmod_eq_emod_of_nonneg (by omega)]
  rw [t1, t2]
  by_cases hm : -((-x) % 2) < 0
  ·rw [if_pos hm, av (n := -((-x) / 2)) (by omega) (by omega), av (by omega) (by omega)]
   congr 1; omega
  ·rw [if_neg hm, av (by omega) (by omega)]
   congr 1; omega
 ·rw [Int.tmod_eq_emod_of_nonneg h, Int.tdiv_eq_ediv_of_nonneg h, if_neg (by omega), av (by omega) (by omega)]
theorem uH (n : Int) : -9223372036854775808 ≤ ax n ∧ ax n ≤ 9223372036854775807 := by
 unfold ax IntKind.wrap
 simp only [IntKind.bits, IntKind.signed]
 by_cases h : n % 2 ^ 64 ≥ 2 ^ (64 - 1)
 ·simp only [h, decide_true, Bool.and_self, if_true]
  omega
 ·simp only [h, decide_false, Bool.and_false, Bool.false_eq_true, if_false]
  omega
theorem AE (f : ai) (hf : Sm f) (l : List UInt8) (hl : l.length ≤ 9223372036854775807) {v : Bool} (h1 : aU f = some v) (h2 : aL f = some v) (hF : v = true → oG f) (x : az) (sc room al dir : Int) :
  ∃ t i e, dH f ⟨l.toArray⟩ x sc room al dir = some (t, i, e) ∧ eE f ⟨l.toArray⟩ x sc room al dir = some (t, i, e) := by
 by_cases hc : (v = true ∧ jm l = true ∧ (50 ≤ sc ∧ sc ≤ 300) ∧ (0 ≤ room ∧ room ≤ 1000000000) ∧ (0 ≤ al ∧ al ≤ 2) ∧ (0 ≤ dir ∧ dir ≤ 1)) ∧ ¬ x.From < 0 ∧ ¬ x.Until ≤ x.From ∧ ¬ (l.length : Int) < x.Until
 ·obtain ⟨⟨hv, ho, hsc, hr, ha, hd⟩, g0, g1, g2⟩ := hc
  subst hv
  have hlen := (dt ho).2
  have n1 : ¬ al < 0 := by omega
  have n2 : ¬ 2 < al := by omega
  have n3 : ¬ dir < 0 := by omega
  have n4 : ¬ 1 < dir := by omega
  have ef : x.From = ((x.From.toNat : Nat) : Int) := by omega
  have eu : x.Until = ((x.Until.toNat : Nat) : Int) := by omega
  have hae : x.From.toNat ≤ x.Until.toNat := by omega
  have hel : x.Until.toNat ≤ l.length := by omega
  have hs := vK l (show l.length ≤ 1000000 by omega) hae hel x.Hyphen
  have hp := tq ho hae hel x.Hyphen
  rw [← ef, ← eu] at hs hp
  generalize hpart : part l x.From.toNat x.Until.toNat x.Hyphen = p at hs hp
  have hP : p.length ≤ 9223372036854775807 := by
   rw [← hpart, rX, List.length_append]
   have h3 : (part l x.From.toNat x.Until.toNat false).length ≤ l.length := by
    unfold part
    rw [if_neg (by decide), List.append_nil]
    exact Nat.le_trans (oL _) (Nat.le_trans (jv _) (m8 l x.From.toNat x.Until.toNat))
   cases x.Hyphen <;> simp <;> omega
  obtain ⟨w, e, q1, q2, q3⟩ := wT f hf hP h1 h2 hF sc
  unfold dH eE
  simp only [hZ, rc, tF, hsc, hr, ha, hd, and_self, decide_true, if_true, aa, Bool.not_true, Bool.false_eq_true, if_false, h1, h2, iQ, fT l hl, ho, g0, g1, g2, n1, n2, n3, n4, decide_false, sz, hs, hp, q1, q2]
  by_cases he : e = 0
  ·obtain ⟨y, v1, v2⟩ := zJ p (q3 he) dir (by omega)
   simp only [he, not_true_eq_false, if_false, v1, v2, aa]
   by_cases hw : w = x.Width
   ·have hfl := z6 (uH (room - w)).1 (uH (room - w)).2
    subst hw
    simp only [not_true_eq_false, if_false, hfl, aa]
    by_cases c1 : al = 2
    ·rw [if_neg (show ¬ al = dir by omega), if_pos c1, if_pos c1]
     exact ⟨_, _, _, rfl, rfl⟩
    ·rw [if_neg c1, if_neg c1]
     by_cases c2 : al = dir
     ·rw [if_pos c2]
      exact ⟨_, _, _, rfl, rfl⟩
     ·rw [if_neg c2]
      exact ⟨_, _, _, rfl, rfl⟩
   ·rw [if_pos hw, if_pos hw]
    exact ⟨_, _, _, rfl, rfl⟩
  ·rw [if_pos he, if_pos he]
   exact ⟨_, _, _, rfl, rfl⟩
 ·refine ⟨⟨#[]⟩, 0, 1, ?_, ?_⟩
  ·unfold dH
   simp only [hZ, aa, h1, iQ, sz]
   have : (v = true ∧ jm l = true ∧ (50 ≤ sc ∧ sc ≤ 300) ∧ (0 ≤ room ∧ room ≤ 1000000000) ∧ (0 ≤ al ∧ al ≤ 2) ∧ (0 ≤ dir ∧ dir ≤ 1)) → ¬ x.From < 0 → ¬ x.Until ≤ x.From → (l.length : Int) < x.Until := fun a b c => Decidable.byContradiction fun d => hc ⟨a, b, c, d⟩
   clear hc
   by_cases c1 : 50 ≤ sc ∧ sc ≤ 300
   ·by_cases c2 : 0 ≤ room ∧ room ≤ 1000000000
    ·by_cases c3 : 0 ≤ al ∧ al ≤ 2
     ·by_cases c4 : 0 ≤ dir ∧ dir ≤ 1
      ·cases v
       ·simp [c1, c2, c3, c4]
       ·cases ho : jm l
        ·simp [c1, c2, c3, c4]
        ·by_cases c5 : x.From < 0
         ·simp [c1, c2, c3, c4, c5]
         ·by_cases c6 : x.Until ≤ x.From
          ·simp [c1, c2, c3, c4, c5, c6]
          ·have c7 := this ⟨rfl, ho, c1, c2, c3, c4⟩ c5 c6
           simp [c1, c2, c3, c4, c5, c6, c7]
      ·simp [c1, c2, c3, c4]
     ·simp [c1, c2, c3]
    ·simp [c1, c2]
   ·simp [c1]
  ·unfold eE
   simp only [aa, h2, fT l hl, sz, rc, tF]
   have : (v = true ∧ jm l = true ∧ (50 ≤ sc ∧ sc ≤ 300) ∧ (0 ≤ room ∧ room ≤ 1000000000) ∧ (0 ≤ al ∧ al ≤ 2) ∧ (0 ≤ dir ∧ dir ≤ 1)) → ¬ x.From < 0 → ¬ x.Until ≤ x.From → (l.length : Int) < x.Until := fun a b c => Decidable.byContradiction fun d => hc ⟨a, b, c, d⟩
   clear hc
   cases v
   ·simp
   ·cases ho : jm l
    ·simp
    ·by_cases c1 : 50 ≤ sc ∧ sc ≤ 300
     ·by_cases c2 : 0 ≤ room ∧ room ≤ 1000000000
      ·by_cases a1 : al < 0
       ·simp [c1, c2, a1]
       ·by_cases a2 : 2 < al
        ·simp [c1, c2, a1, a2]
        ·by_cases a3 : dir < 0
         ·simp [c1, c2, a1, a2, a3]
         ·by_cases a4 : 1 < dir
          ·simp [c1, c2, a1, a2, a3, a4]
          ·by_cases c5 : x.From < 0
           ·simp [c1, c2, a1, a2, a3, a4, c5]
           ·by_cases c6 : x.Until ≤ x.From
            ·simp [c1, c2, a1, a2, a3, a4, c5, c6]
            ·have c7 := this ⟨rfl, ho, c1, c2, by omega, by omega⟩ c5 c6
             simp [c1, c2, a1, a2, a3, a4, c5, c6, c7]
      ·simp [c1, c2]
     ·simp [c1]
end Go.Proofs.YtaemgcpcfnbmdaaGreatDoor.LG
namespace Go.Proofs.YtaemgcpcfnbmdaaGreatDoor.LG
open Go Go.LG Go.Lib

def rk (z : ab) : Bool := decide (1 ≤ z.Side ∧ z.Side ≤ 2 ∧ (0 ≤ z.X ∧ z.X ≤ 1000000) ∧ (0 ≤ z.W ∧ z.W ≤ 1000000) ∧ (0 ≤ z.H ∧ z.H ≤ 1000000) ∧ (0 ≤ z.Y ∧ z.Y ≤ 1000000000))
theorem nd {z : ab} (h : rk z = true) : 1 ≤ z.Side ∧ z.Side ≤ 2 ∧ (0 ≤ z.X ∧ z.X ≤ 1000000) ∧ (0 ≤ z.W ∧ z.W ≤ 1000000) ∧ (0 ≤ z.H ∧ z.H ≤ 1000000) ∧ (0 ≤ z.Y ∧ z.Y ≤ 1000000000) := of_decide_eq_true h
theorem pb (n m : Int) : cT n m = some (decide (0 ≤ n ∧ n ≤ m)) := by
 unfold cT
 by_cases h : 0 ≤ n
 ·simp [h]
 ·simp [h]
theorem zw (z : ab) : j8 z = some (!rk z) := by
 unfold j8 rk
 simp only [pb]
 by_cases h1 : z.Side = 1
 ·by_cases c1 : 0 ≤ z.X ∧ z.X ≤ 1000000 <;> by_cases c2 : 0 ≤ z.W ∧ z.W ≤ 1000000 <;> by_cases c3 : 0 ≤ z.H ∧ z.H ≤ 1000000 <;> by_cases c4 : 0 ≤ z.Y ∧ z.Y ≤ 1000000000 <;> simp [h1, c1, c2, c3, c4]
 ·by_cases h2 : z.Side = 2
  ·by_cases c1 : 0 ≤ z.X ∧ z.X ≤ 1000000 <;> by_cases c2 : 0 ≤ z.W ∧ z.W ≤ 1000000 <;> by_cases c3 : 0 ≤ z.H ∧ z.H ≤ 1000000 <;> by_cases c4 : 0 ≤ z.Y ∧ z.Y ≤ 1000000000 <;> simp [h1, h2, c1, c2, c3, c4]
  ·have : ¬ (1 ≤ z.Side ∧ z.Side ≤ 2) := by omega
   have e : ¬ (1 ≤ z.Side ∧ z.Side ≤ 2 ∧ (0 ≤ z.X ∧ z.X ≤ 1000000) ∧ (0 ≤ z.W ∧ z.W ≤ 1000000) ∧ (0 ≤ z.H ∧ z.H ≤ 1000000) ∧ (0 ≤ z.Y ∧ z.Y ≤ 1000000000)) := fun h => this ⟨h.1, h.2.1⟩
   rw [decide_eq_false e]
   simp [h1, h2]
theorem nr {α : Type} (l : List α) (d : α) {i : Nat} (h : i < l.length) : l.getD (Int.toNat (i : Int)) d = l[i] := by simp [List.getD_eq_getElem?_getD, h]
theorem xg (fl : List ab) (hl : fl.length ≤ 1000000) : ∀ (n i : Nat), fl.length - i = n → i ≤ fl.length →
  ∃ o, aW fl (i : Int) = some o ∧ ((fl.drop i).all rk = true → o = .inr ()) ∧ ((fl.drop i).all rk = false → ∃ k : Nat, o = .inl (k : Int)) := by
 intro n
 induction n with
 | zero =>
  intro i hn hi
  rw [aW, if_neg (by omega), List.drop_eq_nil_of_le (by omega)]
  exact ⟨_, rfl, fun _ => rfl, fun h => by cases h⟩
 | succ n ih =>
  intro i hn hi
  have hlt : i < fl.length := by omega
  obtain ⟨o, h1, h2, h3⟩ := ih (i + 1) (by omega) (by omega)
  rw [aW, if_pos (by omega), if_pos ⟨by omega, by omega⟩, nr _ _ hlt, zw, aa, av (n := (i : Int) + 1) (by omega) (by omega), add1, List.drop_eq_getElem_cons hlt, List.all_cons]
  cases rk fl[i]
  ·exact ⟨_, rfl, fun h => (by cases h), fun _ => ⟨i, rfl⟩⟩
  ·simp only [Bool.not_true, Bool.false_eq_true, if_false, Bool.true_and]
   exact ⟨o, h1, h2, h3⟩
def vX (fl : List ab) (width : Int) : Bool := decide (0 ≤ width ∧ width ≤ 1000000) && decide (fl.length ≤ 200) && fl.all rk
theorem wU (fl : List ab) (width : Int) (hl : fl.length ≤ 1000000) : iC fl width = some (vX fl width) := by
 obtain ⟨o, h1, h2, h3⟩ := xg fl hl _ 0 rfl (Nat.zero_le _)
 have h1' : aW fl 0 = some o := h1
 rw [List.drop_zero] at h2 h3
 unfold iC vX bZ ct
 rw [pb, aa, h1']
 by_cases c1 : 0 ≤ width ∧ width ≤ 1000000
 ·by_cases c2 : fl.length ≤ 200
  ·have c2' : (fl.length : Int) ≤ 200 := by omega
   cases ha : fl.all rk
   ·obtain ⟨k, rfl⟩ := h3 ha
    have : (0 : Int) ≤ (k : Int) := by omega
    simp [c1, c2, c2', this]
   ·rw [h2 ha]
    simp [c1, c2, c2']
  ·have c2' : ¬ (fl.length : Int) ≤ 200 := by omega
   simp [c1, c2, c2']
 ·simp [c1]
theorem uc (n : Int) : eb n = some (decide (0 ≤ n ∧ n ≤ 1000000)) := by
 unfold eb
 by_cases h : 0 ≤ n
 ·simp [h]
 ·simp [h]
theorem wg (n : Int) : il n = some (decide (0 ≤ n ∧ n ≤ 1000000000)) := by
 unfold il
 by_cases h : 0 ≤ n
 ·simp [h]
 ·simp [h]
theorem Ab (fl : List ab) (hl : fl.length ≤ 1000000) : ∀ (n i : Nat), fl.length - i = n → i ≤ fl.length →
  dw fl (i : Int) = some (if (fl.drop i).all rk = true then .inr () else .inl ()) := by
 intro n
 induction n with
 | zero =>
  intro i hn hi
  rw [dw, if_neg (by omega), List.drop_eq_nil_of_le (by omega)]
  rfl
 | succ n ih =>
  intro i hn hi
  have hlt : i < fl.length := by omega
  have b : (0 : Int) ≤ (i : Int) ∧ (i : Int) < (fl.length : Int) := ⟨by omega, by omega⟩
  rw [dw, if_pos b.2, av (n := (i : Int) + 1) (by omega) (by omega), add1, ih (i + 1) (by omega) (by omega), List.drop_eq_getElem_cons hlt, List.all_cons]
  simp only [if_pos b, nr _ _ hlt, uc, wg, aa]
  have e : rk fl[i] = decide (1 ≤ fl[i].Side ∧ fl[i].Side ≤ 2 ∧ (0 ≤ fl[i].X ∧ fl[i].X ≤ 1000000) ∧ (0 ≤ fl[i].W ∧ fl[i].W ≤ 1000000) ∧ (0 ≤ fl[i].H ∧ fl[i].H ≤ 1000000) ∧ (0 ≤ fl[i].Y ∧ fl[i].Y ≤ 1000000000)) := rfl
  generalize fl[i] = z at *
  by_cases c1 : 0 ≤ z.X ∧ z.X ≤ 1000000
  ·by_cases c4 : 0 ≤ z.Y ∧ z.Y ≤ 1000000000
   ·by_cases c2 : 0 ≤ z.W ∧ z.W ≤ 1000000
    ·by_cases c3 : 0 ≤ z.H ∧ z.H ≤ 1000000
     ·by_cases c5 : z.Side < 1
      ·have e' : rk z = false := by rw [e]; exact decide_eq_false fun h => by omega
       simp [c1, c2, c3, c4, c5, e']
      ·by_cases c6 : 2 < z.Side
       ·have e' : rk z = false := by rw [e]; exact decide_eq_false fun h => by omega
        simp [c1, c2, c3, c4, c5, c6, e']
       ·have e' : rk z = true := by rw [e]; exact decide_eq_true ⟨by omega, by omega, c1, c2, c3, c4⟩
        simp [c1, c2, c3, c4, c5, c6, e']
     ·have e' : rk z = false := by rw [e]; exact decide_eq_false fun h => c3 h.2.2.2.2.1
      simp [c1, c2, c3, c4, e']
    ·have e' : rk z = false := by rw [e]; exact decide_eq_false fun h => c2 h.2.2.2.1
     simp [c1, c2, c4, e']
   ·have e' : rk z = false := by rw [e]; exact decide_eq_false fun h => c4 h.2.2.2.2.2
    simp [c1, c4, e']
  ·have e' : rk z = false := by rw [e]; exact decide_eq_false fun h => c1 h.2.2.1
   simp [c1, e']
theorem w5 (fl : List ab) (width : Int) (hl : fl.length ≤ 1000000) : gu fl width = some (vX fl width) := by
 have h1 : dw fl 0 = some (if fl.all rk = true then .inr () else .inl ()) := Ab fl hl _ 0 rfl (Nat.zero_le _)
 unfold gu vX
 rw [uc, aa, h1]
 by_cases c1 : 0 ≤ width ∧ width ≤ 1000000
 ·by_cases c2 : fl.length ≤ 200
  ·have c2' : ¬ (200 : Int) < (fl.length : Int) := by omega
   cases fl.all rk <;> simp [c1, c2, c2']
  ·have c2' : (200 : Int) < (fl.length : Int) := by omega
   simp [c1, c2, c2']
 ·simp [c1]
def xt (z : ab) (y h : Int) : Bool := decide (0 < z.H ∧ z.Y < y + max h 1 ∧ y < z.Y + z.H)
theorem Dr {z : ab} (hz : rk z = true) {y h : Int} (hy : 0 ≤ y ∧ y ≤ 2000000000) (hh : 0 ≤ h ∧ h ≤ 1000000) :
  ((if 0 < z.H then some (decide (z.Y < (ax (y + (max h 1))))) else some false) >>= fun v12 => ((if v12 = true then some (decide (y < (ax (z.Y + z.H)))) else some false) >>= fun v19 => some v19)) = some (xt z y h) := by
 have := nd hz
 rw [av (n := y + max h 1) (by omega) (by omega), av (n := z.Y + z.H) (by omega) (by omega)]
 unfold xt
 by_cases c1 : 0 < z.H
 ·by_cases c2 : z.Y < y + max h 1
  ·by_cases c3 : y < z.Y + z.H <;> simp [c1, c2, c3]
  ·simp [c1, c2]
 ·simp [c1]
theorem DX {z : ab} (hz : rk z = true) {y h : Int} (hy : 0 ≤ y ∧ y ≤ 2000000000) (hh : 0 ≤ h ∧ h ≤ 1000000) : iv z y h = some (xt z y h) := Dr hz hy hh
theorem bes2 {z : ab} (hz : rk z = true) {y h : Int} (hy : 0 ≤ y ∧ y ≤ 2000000000) (hh : 0 ≤ h ∧ h ≤ 1000000) : ez ⟨z⟩ y h = some (xt z y h) := by
 unfold ez iq
 exact Dr hz hy hh
theorem bes3 {z : ab} (hz : rk z = true) {y : Int} (hy : 0 ≤ y ∧ y ≤ 2000000000) (x : aX) (hh : 0 ≤ x.line ∧ x.line ≤ 1000000) : eJ z y x = some (xt z y x.line) := Dr hz hy hh
def wu (y h : Int) : List ab → Int × Int → Int × Int
 | [], r => r
 | z :: fl, r => wu y h fl (if xt z y h = true then (if z.Side = 1 then (max r.1 (z.X + z.W), r.2) else (r.1, min r.2 z.X)) else r)
def rm (fl : List ab) (width y h : Int) : f8 := ⟨(wu y h fl (0, width)).1, max (wu y h fl (0, width)).1 (wu y h fl (0, width)).2⟩
theorem AD (y h : Int) : ∀ (fl : List ab) (r : Int × Int), fl.all rk = true → 0 ≤ r.1 ∧ r.1 ≤ 2000000 ∧ 0 ≤ r.2 ∧ r.2 ≤ 1000000 → 0 ≤ (wu y h fl r).1 ∧ (wu y h fl r).1 ≤ 2000000 ∧ 0 ≤ (wu y h fl r).2 ∧ (wu y h fl r).2 ≤ 1000000
 | [], r, _, hr => hr
 | z :: fl, r, hz, hr => by
  rw [List.all_cons, Bool.and_eq_true] at hz
  have := nd hz.1
  unfold wu
  refine AD y h fl _ hz.2 ?_
  split
  ·split
   ·simp only; omega
   ·simp only; omega
  ·exact hr
theorem Ed {fl : List ab} {width : Int} (hv : vX fl width = true) (y h : Int) : 0 ≤ (rm fl width y h).Lo ∧ (rm fl width y h).Lo ≤ (rm fl width y h).Hi ∧ (rm fl width y h).Hi ≤ 2000000 := by
 unfold vX at hv
 rw [Bool.and_eq_true, Bool.and_eq_true] at hv
 have hw := of_decide_eq_true hv.1.1
 have := AD y h fl (0, width) hv.2 ⟨Int.le_refl _, (by show (0 : Int) ≤ 2000000; decide), hw.1, hw.2⟩
 unfold rm
 simp only
 omega
theorem zD (fl : List ab) (hl : fl.length ≤ 1000000) (hz : fl.all rk = true) {y h : Int} (hy : 0 ≤ y ∧ y ≤ 2000000000) (hh : 0 ≤ h ∧ h ≤ 1000000) : ∀ (n i : Nat) (v : Bool) (lo hi : Int), fl.length - i = n → i ≤ fl.length →
  ∃ v', ee fl y h v (i : Int) lo hi = some (v', (wu y h (fl.drop i) (lo, hi)).1, (wu y h (fl.drop i) (lo, hi)).2) := by
 intro n
 induction n with
 | zero =>
  intro i v lo hi hn hi'
  rw [ee, if_neg (by omega), List.drop_eq_nil_of_le (by omega)]
  exact ⟨v, rfl⟩
 | succ n ih =>
  intro i v lo hi hn hi'
  have hlt : i < fl.length := by omega
  have hzi := List.all_eq_true.1 hz _ (List.getElem_mem hlt)
  have b : (0 : Int) ≤ (i : Int) ∧ (i : Int) < (fl.length : Int) := ⟨by omega, by omega⟩
  have := nd hzi
  rw [ee, if_pos b.2, av (n := (i : Int) + 1) (by omega) (by omega), add1, List.drop_eq_getElem_cons hlt]
  simp only [if_pos b, nr _ _ hlt, bes2 hzi hy hh, aa]
  unfold wu
  cases xt fl[i] y h
  ·simp only [Bool.not_false, if_true, aa, Bool.false_eq_true, if_false]
   exact ih (i + 1) v lo hi (by omega) (by omega)
  ·simp only [Bool.not_true, if_true, aa, Bool.false_eq_true, if_false]
   by_cases hs : fl[i].Side = 1
   ·rw [if_pos hs, if_pos hs, aa, av (n := fl[i].X + fl[i].W) (by omega) (by omega)]
    exact ih (i + 1) true _ _ (by omega) (by omega)
   ·rw [if_neg hs, if_neg hs, aa]
    exact ih (i + 1) true _ _ (by omega) (by omega)
theorem B3 (fl : List ab) (width : Int) (hv : vX fl width = true) {y h : Int} (hy : 0 ≤ y ∧ y ≤ 2000000000) (hh : 0 ≤ h ∧ h ≤ 1000000) :
  jY fl width y h = some (if y ≤ 1000000000 then (rm fl width y h, 0) else (⟨0, 0⟩, 1)) := by
 have hv' := hv
 unfold vX at hv'
 rw [Bool.and_eq_true, Bool.and_eq_true] at hv'
 have hl := of_decide_eq_true hv'.1.2
 obtain ⟨v', h1⟩ := zD fl (by omega) hv'.2 hy hh _ 0 false 0 width rfl (Nat.zero_le _)
 have h1' : ee fl y h false 0 0 width = some (v', (wu y h fl (0, width)).1, (wu y h fl (0, width)).2) := h1
 unfold jY la
 rw [wU fl width (by omega), hv, pb, pb, h1']
 by_cases c : y ≤ 1000000000
 ·have c1 : 0 ≤ y ∧ y ≤ 1000000000 := ⟨hy.1, c⟩
  simp [c1, hh, c]
  rfl
 ·have c1 : ¬ (0 ≤ y ∧ y ≤ 1000000000) := fun h => c h.2
  simp [c1, c]
theorem xJ (fl : List ab) (hl : fl.length ≤ 1000000) (hz : fl.all rk = true) {y h : Int} (hy : 0 ≤ y ∧ y ≤ 2000000000) (hh : 0 ≤ h ∧ h ≤ 1000000) : ∀ (n i : Nat) (lo hi : Int), fl.length - i = n → i ≤ fl.length →
  dN fl y h (i : Int) lo hi = some (wu y h (fl.drop i) (lo, hi)) := by
 intro n
 induction n with
 | zero =>
  intro i lo hi hn hi'
  rw [dN, if_neg (by omega), List.drop_eq_nil_of_le (by omega)]
  rfl
 | succ n ih =>
  intro i lo hi hn hi'
  have hlt : i < fl.length := by omega
  have hzi := List.all_eq_true.1 hz _ (List.getElem_mem hlt)
  have b : (0 : Int) ≤ (i : Int) ∧ (i : Int) < (fl.length : Int) := ⟨by omega, by omega⟩
  have := nd hzi
  rw [dN, if_pos b.2, av (n := (i : Int) + 1) (by omega) (by omega), add1, List.drop_eq_getElem_cons hlt]
  simp only [if_pos b, nr _ _ hlt, DX hzi hy hh, aa]
  unfold wu
  cases xt fl[i] y h
  ·simp only [Bool.not_false, if_true, aa, Bool.false_eq_true, if_false]
   exact ih (i + 1) lo hi (by omega) (by omega)
  ·simp only [Bool.not_true, if_true, aa, Bool.false_eq_true, if_false]
   by_cases hs : fl[i].Side = 1
   ·rw [if_pos hs, if_pos hs, aa, av (n := fl[i].X + fl[i].W) (by omega) (by omega)]
    exact ih (i + 1) _ _ (by omega) (by omega)
   ·rw [if_neg hs, if_neg hs, aa]
    exact ih (i + 1) _ _ (by omega) (by omega)
theorem Bi (fl : List ab) (width : Int) (hv : vX fl width = true) {y h : Int} (hy : 0 ≤ y ∧ y ≤ 2000000000) (hh : 0 ≤ h ∧ h ≤ 1000000) :
  ik fl width y h = some (if y ≤ 1000000000 then (rm fl width y h, 0) else (⟨0, 0⟩, 1)) := by
 have hv' := hv
 unfold vX at hv'
 rw [Bool.and_eq_true, Bool.and_eq_true] at hv'
 have hl := of_decide_eq_true hv'.1.2
 have h1 : dN fl y h 0 0 width = some (wu y h fl (0, width)) := xJ fl (by omega) hv'.2 hy hh _ 0 0 width rfl (Nat.zero_le _)
 unfold ik kJ
 rw [w5 fl width (by omega), hv, wg, uc, h1]
 by_cases c : y ≤ 1000000000
 ·have c1 : 0 ≤ y ∧ y ≤ 1000000000 := ⟨hy.1, c⟩
  simp [c1, hh, c]
  rfl
 ·have c1 : ¬ (0 ≤ y ∧ y ≤ 1000000000) := fun h => c h.2
  simp [c1, c]
end Go.Proofs.YtaemgcpcfnbmdaaGreatDoor.LG
namespace Go.Proofs.YtaemgcpcfnbmdaaGreatDoor.LG
open Go Go.LG Go.Lib

def kg (fl : List ab) (y h : Int) : List Int := (fl.filter fun z => xt z y h).map fun z => z.Y + z.H
theorem yM {fl : List ab} {y h e : Int} (hm : e ∈ kg fl y h) : ∃ z ∈ fl, xt z y h = true ∧ z.Y + z.H = e := by
 unfold kg at hm
 simp only [List.mem_map, List.mem_filter] at hm
 obtain ⟨z, ⟨h1, h2⟩, h3⟩ := hm
 exact ⟨z, h1, h2, h3⟩
theorem Dx {z : ab} {y h : Int} (hb : xt z y h = true) : 0 < z.H ∧ z.Y < y + max h 1 ∧ y < z.Y + z.H := of_decide_eq_true hb
theorem uF (z : ab) (fl : List ab) (y h : Int) : kg (z :: fl) y h = if xt z y h = true then (z.Y + z.H) :: kg fl y h else kg fl y h := by
 unfold kg
 rw [List.filter_cons]
 split <;> rfl
theorem zt (x : aX) {fl : List ab} (hfl : x.l = fl) (hl : fl.length ≤ 1000000) (hz : fl.all rk = true) {y : Int} (hy : 0 ≤ y ∧ y ≤ 2000000000) (hh : 0 ≤ x.line ∧ x.line ≤ 1000000) : ∀ (n i : Nat) (acc : List Int), fl.length - i = n → i ≤ fl.length → acc.length ≤ i →
  bi x y x acc (i : Int) = some (acc ++ kg (fl.drop i) y x.line) := by
 intro n
 induction n with
 | zero =>
  intro i acc hn hi ha
  rw [bi, hfl, if_neg (by omega), List.drop_eq_nil_of_le (by omega)]
  simp [kg]
 | succ n ih =>
  intro i acc hn hi ha
  have hlt : i < fl.length := by omega
  have hzi := List.all_eq_true.1 hz _ (List.getElem_mem hlt)
  have b : (0 : Int) ≤ (i : Int) ∧ (i : Int) < (fl.length : Int) := ⟨by omega, by omega⟩
  have := nd hzi
  rw [bi, hfl, if_pos b.2, av (n := (i : Int) + 1) (by omega) (by omega), add1, List.drop_eq_getElem_cons hlt, uF]
  simp only [if_pos b, nr _ _ hlt, bes3 hzi hy x hh, aa]
  cases xt fl[i] y x.line
  ·simp only [Bool.false_eq_true, if_false, aa]
   exact ih (i + 1) acc (by omega) (by omega) (by omega)
  ·simp only [if_true]
   rw [if_pos (by omega), aa, av (n := fl[i].Y + fl[i].H) (by omega) (by omega), ih (i + 1) _ (by omega) (by omega) (by simp; omega), List.append_assoc]
   rfl
def mn : List Int → Int
 | [] => 0
 | a :: l => l.foldl min a
theorem zF (l : List Int) : ∀ a : Int, (∀ x ∈ l, l.foldl min a ≤ x) ∧ l.foldl min a ≤ a ∧ (l.foldl min a = a ∨ l.foldl min a ∈ l) := by
 induction l with
 | nil => intro a; exact ⟨fun x h => (by cases h), Int.le_refl _, .inl rfl⟩
 | cons b l ih =>
  intro a
  obtain ⟨h1, h2, h3⟩ := ih (min a b)
  rw [List.foldl_cons]
  refine ⟨fun x hx => ?_, by omega, ?_⟩
  ·rcases List.mem_cons.1 hx with rfl | hx
   ·omega
   ·exact h1 x hx
  ·rcases h3 with h3 | h3
   ·rw [h3]
    rcases Int.le_total a b with h | h
    ·exact .inl (Int.min_eq_left h)
    ·exact .inr (by rw [Int.min_eq_right h]; exact List.mem_cons_self ..)
   ·exact .inr (List.mem_cons_of_mem _ h3)
theorem xY {l : List Int} (h : l ≠ []) : mn l ∈ l := by
 cases l with
 | nil => exact absurd rfl h
 | cons a l =>
  show l.foldl min a ∈ a :: l
  rcases (zF l a).2.2 with h | h
  ·rw [h]; exact List.mem_cons_self ..
  ·exact List.mem_cons_of_mem _ h
theorem BA (l : List Int) (hl : l.length ≤ 1000000) : ∀ (n i : Nat) (m : Int), l.length - i = n → i ≤ l.length → cU l m (i : Int) = some ((l.drop i).foldl min m) := by
 intro n
 induction n with
 | zero =>
  intro i m hn hi
  rw [cU, if_neg (by omega), List.drop_eq_nil_of_le (by omega)]
  rfl
 | succ n ih =>
  intro i m hn hi
  have hlt : i < l.length := by omega
  rw [cU, if_pos (by omega), if_pos ⟨by omega, by omega⟩, av (n := (i : Int) + 1) (by omega) (by omega), add1, ih (i + 1) _ (by omega) (by omega), List.drop_eq_getElem_cons hlt, nr _ _ hlt]
  rfl
theorem De {l : List Int} (hl : l.length ≤ 1000000) (h : l ≠ []) : gF l = some (mn l) := by
 have hp : 0 < l.length := List.length_pos_iff.2 h
 have h1 : cU l (l.getD (Int.toNat 0) 0) 1 = some ((l.drop 1).foldl min (l.getD (Int.toNat 0) 0)) := BA l hl _ 1 _ rfl (by omega)
 unfold gF
 rw [if_neg (by omega), if_pos ⟨by omega, by omega⟩, h1]
 cases l with
 | nil => exact absurd rfl h
 | cons a l => rfl
theorem vj (fl : List ab) (hl : fl.length ≤ 1000000) (hz : fl.all rk = true) {y h : Int} (hy : 0 ≤ y ∧ y ≤ 2000000000) (hh : 0 ≤ h ∧ h ≤ 1000000) : ∀ (n i : Nat) (pre : List Int), fl.length - i = n → i ≤ fl.length → (∀ e ∈ pre, 0 ≤ e) →
  dk fl y h (if pre = [] then -1 else mn pre) (i : Int) = some (if pre ++ kg (fl.drop i) y h = [] then -1 else mn (pre ++ kg (fl.drop i) y h)) := by
 intro n
 induction n with
 | zero =>
  intro i pre hn hi hp
  rw [dk, if_neg (by omega), List.drop_eq_nil_of_le (by omega)]
  simp [kg]
 | succ n ih =>
  intro i pre hn hi hp
  have hlt : i < fl.length := by omega
  have hzi := List.all_eq_true.1 hz _ (List.getElem_mem hlt)
  have b : (0 : Int) ≤ (i : Int) ∧ (i : Int) < (fl.length : Int) := ⟨by omega, by omega⟩
  have := nd hzi
  rw [dk, if_pos b.2, av (n := (i : Int) + 1) (by omega) (by omega), add1, List.drop_eq_getElem_cons hlt, uF]
  simp only [if_pos b, nr _ _ hlt, DX hzi hy hh, aa]
  cases xt fl[i] y h
  ·simp only [Bool.false_eq_true, if_false, aa]
   exact ih (i + 1) pre (by omega) (by omega) hp
  ·simp only [if_true]
   rw [av (n := fl[i].Y + fl[i].H) (by omega) (by omega)]
   have hp' : ∀ e ∈ pre ++ [fl[i].Y + fl[i].H], 0 ≤ e := fun e he => by
    rcases List.mem_append.1 he with he | he
    ·exact hp e he
    ·rw [List.mem_singleton.1 he]; omega
   have hi2 := ih (i + 1) (pre ++ [fl[i].Y + fl[i].H]) (by omega) (by omega) hp'
   rw [List.append_assoc, if_neg (by simp)] at hi2
   have es : pre ++ ([fl[i].Y + fl[i].H] ++ kg (fl.drop (i + 1)) y h) = pre ++ (fl[i].Y + fl[i].H) :: kg (fl.drop (i + 1)) y h := rfl
   rw [es] at hi2
   rw [← hi2]
   cases pre with
   | nil =>
    simp only [if_true, show (-1 : Int) < 0 by decide, aa]
    rfl
   | cons a p =>
    have h0 : 0 ≤ mn (a :: p) := hp _ (xY (by simp))
    have hm : mn (a :: p ++ [fl[i].Y + fl[i].H]) = min (mn (a :: p)) (fl[i].Y + fl[i].H) := by
     show (p ++ [fl[i].Y + fl[i].H]).foldl min a = _
     rw [List.foldl_append]; rfl
    rw [if_neg (show ¬ (a :: p = []) by simp), hm, if_neg (show ¬ mn (a :: p) < 0 by omega), aa]
    by_cases hc : fl[i].Y + fl[i].H < mn (a :: p)
    ·rw [decide_eq_true hc, if_pos rfl, aa, Int.min_eq_right (by omega)]
    ·rw [decide_eq_false hc, if_neg (by decide), aa, Int.min_eq_left (by omega)]
theorem xT (fl : List ab) (hl : fl.length ≤ 1000000) (hz : fl.all rk = true) {y h : Int} (hy : 0 ≤ y ∧ y ≤ 2000000000) (hh : 0 ≤ h ∧ h ≤ 1000000) :
  eU fl y h = some (if kg fl y h = [] then -1 else mn (kg fl y h)) := by
 have h1 : dk fl y h (-1) 0 = some (if kg fl y h = [] then -1 else mn (kg fl y h)) := vj fl hl hz hy hh _ 0 [] rfl (Nat.zero_le _) (fun e he => by cases he)
 unfold eU
 rw [h1]; rfl
def mu (fl : List ab) (y : Int) : Nat := fl.countP fun z => decide (y < z.Y + z.H)
theorem uN {α : Type} {p q : α → Bool} : ∀ {l : List α}, (∀ x ∈ l, p x = true → q x = true) → (∃ x ∈ l, q x = true ∧ p x = false) → l.countP p < l.countP q
 | [], _, ⟨x, hx, _⟩ => by cases hx
 | a :: l, h, ⟨x, hx, hq, hp⟩ => by
  have hle : l.countP p ≤ l.countP q := List.countP_mono_left fun x hx => h x (List.mem_cons_of_mem _ hx)
  rw [List.countP_cons, List.countP_cons]
  rcases List.mem_cons.1 hx with rfl | hx
  ·rw [hq, hp]; simp; omega
  ·have := uN (fun x hx => h x (List.mem_cons_of_mem _ hx)) ⟨x, hx, hq, hp⟩
   have ha := h a (List.mem_cons_self ..)
   cases e : p a
   ·simp; split <;> omega
   ·rw [ha e]; simp; omega
theorem wy {fl : List ab} {y h : Int} (he : kg fl y h ≠ []) : mu fl (mn (kg fl y h)) < mu fl y ∧ y < mn (kg fl y h) := by
 obtain ⟨z, hz, hb, e⟩ := yM (xY he)
 have hg := Dx hb
 refine ⟨uN (fun x _ hx => ?_) ⟨z, hz, ?_, ?_⟩, by omega⟩
 ·have := of_decide_eq_true hx
  exact decide_eq_true (by omega)
 ·exact decide_eq_true (by omega)
 ·exact decide_eq_false (by omega)
end Go.Proofs.YtaemgcpcfnbmdaaGreatDoor.LG
namespace Go.Proofs.YtaemgcpcfnbmdaaGreatDoor.LG
open Go Go.LG Go.Lib

structure Ar where
 f : ai
 b : ak
 l : List UInt8
 sc : Int
 lh : Int
 al : Int
 dir : Int
 wd : Int
 fl : List ab
def Ar.st (x : Ar) : aX := ⟨x.f, x.b, ⟨x.l.toArray⟩, x.sc, x.lh, x.al, x.dir, x.wd, x.fl⟩
structure Ar.Ok (x : Ar) : Prop where
 hf : Sm x.f
 v : aU x.f = some true
 rv : aL x.f = some true
 F : oG x.f
 hk : x.b.Keep.length ≤ 100000000000000
 vb : vb x.b = true
 ho : jm x.l = true
 hl : x.l.length ≤ 100
 sc : 50 ≤ x.sc ∧ x.sc ≤ 300
 lh : 0 ≤ x.lh ∧ x.lh ≤ 1000000
 al : 0 ≤ x.al ∧ x.al ≤ 2
 dir : 0 ≤ x.dir ∧ x.dir ≤ 1
 fv : vX x.fl x.wd = true
 p : vn x.f x.b x.l = true
def Ar.lo (x : Ar) (y : Int) : Int := (rm x.fl x.wd y x.lh).Lo
def Ar.hi (x : Ar) (y : Int) : Int := (rm x.fl x.wd y x.lh).Hi
def Ar.sp (x : Ar) (y : Int) : Int := x.hi y - x.lo y
def Ar.nx (x : Ar) (a : Nat) (y : Int) : Nat × Bool := vZ x.f x.b x.l x.sc a (x.sp y)
def Ar.w (x : Ar) (a : Nat) (y : Int) : Int := W x.f x.l x.sc a (x.nx a y)
def Ar.en (x : Ar) (y : Int) : List Int := kg x.fl y x.lh
def Ar.setW (x : Ar) (a : Nat) (y : Int) : Option Int :=
 if 1000000000 < y then none
 else if h : x.sp y < x.w a y ∧ x.en y ≠ [] then x.setW a (mn (x.en y)) else some y
termination_by mu x.fl y
decreasing_by exact (wy h.2).1
theorem Ar.Ok.fls {x : Ar} (o : x.Ok) : x.fl.length ≤ 200 ∧ x.fl.all rk = true := by
 have hv := o.fv
 unfold vX at hv
 rw [Bool.and_eq_true, Bool.and_eq_true] at hv
 exact ⟨of_decide_eq_true hv.1.2, hv.2⟩
theorem Ar.Ok.room {x : Ar} (o : x.Ok) (y : Int) : 0 ≤ x.lo y ∧ x.lo y ≤ x.hi y ∧ x.hi y ≤ 2000000 ∧ 0 ≤ x.sp y ∧ x.sp y ≤ 2000000 := by
 have := Ed o.fv y x.lh
 unfold Ar.sp Ar.lo Ar.hi
 omega
theorem Ar.Ok.en_le {x : Ar} (o : x.Ok) {y : Int} (he : x.en y ≠ []) : y < mn (x.en y) ∧ mn (x.en y) ≤ 1001000000 := by
 obtain ⟨z, hz, hb, e⟩ := yM (xY he)
 have := nd (List.all_eq_true.1 o.fls.2 z hz)
 exact ⟨(wy he).2, by unfold Ar.en; omega⟩
theorem Ar.Ok.next {x : Ar} (o : x.Ok) {a : Nat} (ha : a < x.l.length) (y : Int) :
  eB x.f x.b ⟨x.l.toArray⟩ (a : Int) x.sc (x.sp y) = some (ln x.f x.l x.sc a (x.nx a y), 0) := by
 have hl := o.hl
 have hr := o.room y
 have e1 : ax ((x.l.length : Int) - 1) = (x.l.length : Int) - 1 := av (by omega) (by omega)
 have hx := (rn x.f o.hf x.b x.l (by omega) x.sc ha (x.sp y)).1
 have ha' : (0 : Int) ≤ (a : Int) ∧ (a : Int) ≤ (x.l.length : Int) - 1 := ⟨by omega, by omega⟩
 have hr' : 0 ≤ x.sp y ∧ x.sp y ≤ 1000000000 := ⟨hr.2.2.2.1, by omega⟩
 unfold eB
 rw [sz, e1, hZ, hZ, aa, sK x.f o.hf o.F o.v x.b x.l o.hk (by omega) o.vb o.ho x.sc o.sc, o.p]
 simp only [ha', hr', and_self, decide_true, Bool.not_true, Bool.false_eq_true, if_false, aa, if_true, hx]
 rfl
theorem Ar.Ok.nx_ok {x : Ar} (o : x.Ok) {a : Nat} (ha : a < x.l.length) (y : Int) : x.nx a y ∈ ends x.b x.l ∧ a < (x.nx a y).1 ∧ (x.nx a y).1 ≤ x.l.length :=
 (rn x.f o.hf x.b x.l (by have := o.hl; omega) x.sc ha (x.sp y)).2
def Ar.pl (x : Ar) (a : Nat) (y : Int) : ByteArray × Int × Int := (dH x.f ⟨x.l.toArray⟩ (ln x.f x.l x.sc a (x.nx a y)) x.sc (x.sp y) x.al x.dir).getD (⟨#[]⟩, 0, 0)
theorem Ar.Ok.pl_mk {x : Ar} (o : x.Ok) {a : Nat} (ha : a < x.l.length) (y : Int) : ∃ t : List UInt8, x.pl a y = (⟨t.toArray⟩, atI (x.sp y) (x.w a y) x.al x.dir, 0) ∧ t.Perm (part x.l a (x.nx a y).1 (x.nx a y).2) ∧ dH x.f ⟨x.l.toArray⟩ (ln x.f x.l x.sc a (x.nx a y)) x.sc (x.sp y) x.al x.dir = some (x.pl a y) := by
 have hr := o.room y
 obtain ⟨hm, hgt, hle⟩ := o.nx_ok ha y
 obtain ⟨t, ht, hp⟩ := BD x.f o.hf o.F o.v x.b x.l o.hl o.ho o.sc o.p (room := x.sp y) ⟨hr.2.2.2.1, by omega⟩ hm hgt hle o.al o.dir
 refine ⟨t, ?_, hp, ?_⟩
 ·unfold Ar.pl
  rw [ht]; rfl
 ·unfold Ar.pl
  rw [ht]; rfl
theorem Ar.Ok.place {x : Ar} (o : x.Ok) {a : Nat} (ha : a < x.l.length) (y : Int) : dH x.f ⟨x.l.toArray⟩ (ln x.f x.l x.sc a (x.nx a y)) x.sc (x.sp y) x.al x.dir = some (x.pl a y) := by
 obtain ⟨_, _, _, h⟩ := o.pl_mk ha y
 exact h
def Ar.seen (x : Ar) (a : Nat) (y : Int) : an := ⟨(x.pl a y).1, ax (x.lo y + (x.pl a y).2.1), y, x.w a y, x.lh⟩
theorem Ar.setW_le (x : Ar) (a : Nat) : ∀ (n : Nat) (y y' : Int), mu x.fl y = n → x.setW a y = some y' → y ≤ y' ∧ y' ≤ 1000000000 := by
 intro n
 induction n using Nat.strongRecOn with
 | _ n ih =>
  intro y y' hn h
  rw [Ar.setW] at h
  by_cases c1 : 1000000000 < y
  ·rw [if_pos c1] at h; cases h
  ·rw [if_neg c1] at h
   by_cases c2 : x.sp y < x.w a y ∧ x.en y ≠ []
   ·rw [dif_pos c2] at h
    have hm := wy c2.2
    have := ih _ (by rw [← hn]; exact hm.1) _ _ rfl h
    have hlt : y < mn (x.en y) := hm.2
    omega
   ·rw [dif_neg c2] at h
    cases h
    omega
theorem Ar.Ok.set_loop {x : Ar} (o : x.Ok) {a : Nat} (ha : a < x.l.length) : ∀ (n : Nat) (y : Int), mu x.fl y = n → 0 ≤ y → y ≤ 2000000000 →
  ∃ yy, b8 (j5 (fun (u : Bool × Int × ByteArray × Int × Int × Int × Int) (z : Int × Bool) => bq x.st (a : Int) u.1 u.2.1 u.2.2.1 u.2.2.2.1 u.2.2.2.2.1 u.2.2.2.2.2.1 u.2.2.2.2.2.2 z.1 z.2)) x.st y ((false, 0, (⟨#[]⟩ : ByteArray), 0, 0, 0, 0), none) =
   some (yy, match x.setW a y with
    | none => ((false, 0, (⟨#[]⟩ : ByteArray), 0, 0, 0, 0), some 0)
    | some y' => ((true, ((x.nx a y').1 : Int), (x.seen a y').Text, (x.seen a y').X, (x.seen a y').Y, (x.seen a y').W, (x.seen a y').H), some 0)) := by
 intro n
 induction n using Nat.strongRecOn with
 | _ n ih =>
  intro y hn h0 h1
  have hl := o.hl
  have hy : 0 ≤ y ∧ y ≤ 2000000000 := ⟨h0, h1⟩
  have hfl := o.fls
  have hE : bi x.st y x.st [] 0 = some (x.en y) := zt x.st (fl := x.fl) rfl (by omega) hfl.2 hy o.lh _ 0 [] rfl (Nat.zero_le _) (Nat.le_refl _)
  have hR := B3 x.fl x.wd o.fv hy o.lh
  have hr := o.room y
  have esp : ax ((rm x.fl x.wd y x.lh).Hi - (rm x.fl x.wd y x.lh).Lo) = x.sp y := av (by unfold Ar.sp Ar.hi Ar.lo at hr; omega) (by unfold Ar.sp Ar.hi Ar.lo at hr; omega)
  have hpos : decide (0 < ((x.en y).length : Int)) = decide (x.en y ≠ []) := by
   cases x.en y with
   | nil => rfl
   | cons e es => simp
  rw [b8]
  unfold gL
  simp only [aa, hE, hpos]
  rw [Ar.setW]
  by_cases c1 : 1000000000 < y
  ·have step : j5 (fun (u : Bool × Int × ByteArray × Int × Int × Int × Int) (z : Int × Bool) => bq x.st (a : Int) u.1 u.2.1 u.2.2.1 u.2.2.2.1 u.2.2.2.2.1 u.2.2.2.2.2.1 u.2.2.2.2.2.2 z.1 z.2) ((false, 0, (⟨#[]⟩ : ByteArray), 0, 0, 0, 0), none) (y, decide (x.en y ≠ [])) = some (((false, 0, (⟨#[]⟩ : ByteArray), 0, 0, 0, 0), some 0), false) := by
    unfold j5 bq
    simp only [Ar.st, hR]
    rw [if_neg (by omega)]
    rfl
   rw [step, if_pos c1]
   simp only [aa, Bool.not_false, if_true]
   exact ⟨_, rfl⟩
  ·have hn' := o.next ha y
   have hp := o.place ha y
   rw [if_neg c1]
   by_cases c2 : x.sp y < x.w a y ∧ x.en y ≠ []
   ·have step : j5 (fun (u : Bool × Int × ByteArray × Int × Int × Int × Int) (z : Int × Bool) => bq x.st (a : Int) u.1 u.2.1 u.2.2.1 u.2.2.2.1 u.2.2.2.2.1 u.2.2.2.2.2.1 u.2.2.2.2.2.2 z.1 z.2) ((false, 0, (⟨#[]⟩ : ByteArray), 0, 0, 0, 0), none) (y, decide (x.en y ≠ [])) = some (((false, 0, (⟨#[]⟩ : ByteArray), 0, 0, 0, 0), none), true) := by
     unfold j5 bq
     simp only [Ar.st, hR]
     rw [if_pos (by omega), aa]
     simp only [not_true_eq_false, if_false, esp, hn', aa]
     show ((((if x.sp y < x.w a y then some (decide (x.en y ≠ [])) else some false) >>= _) >>= _) : Option _) = _
     rw [if_pos c2.1, decide_eq_true c2.2]
     rfl
    have hne := c2.2
    have hlen : ¬ ((x.en y).length : Int) = 0 := by
     have := List.length_pos_iff.2 hne
     omega
    have hel : (x.en y).length ≤ 1000000 := by
     unfold Ar.en kg
     rw [List.length_map]
     have := List.length_filter_le (fun z => xt z y x.lh) x.fl
     omega
    rw [step, dif_pos c2]
    simp only [aa, Bool.not_true, Bool.false_eq_true, if_false, hlen, decide_false, De hel hne]
    have hle := o.en_le hne
    exact ih _ (by rw [← hn]; exact (wy hne).1) (mn (x.en y)) rfl (by omega) (by omega)
   ·have step : j5 (fun (u : Bool × Int × ByteArray × Int × Int × Int × Int) (z : Int × Bool) => bq x.st (a : Int) u.1 u.2.1 u.2.2.1 u.2.2.2.1 u.2.2.2.2.1 u.2.2.2.2.2.1 u.2.2.2.2.2.2 z.1 z.2) ((false, 0, (⟨#[]⟩ : ByteArray), 0, 0, 0, 0), none) (y, decide (x.en y ≠ [])) = some (((true, ((x.nx a y).1 : Int), (x.seen a y).Text, (x.seen a y).X, (x.seen a y).Y, (x.seen a y).W, (x.seen a y).H), some 0), false) := by
     unfold j5 bq
     simp only [Ar.st, hR]
     rw [if_pos (by omega), aa]
     simp only [not_true_eq_false, if_false, esp, hn', aa, hp]
     show ((((if x.sp y < x.w a y then some (decide (x.en y ≠ [])) else some false) >>= _) >>= _) : Option _) = _
     have hf : (if x.sp y < x.w a y then some (decide (x.en y ≠ [])) else some false) = some false := by
      by_cases c3 : x.sp y < x.w a y
      ·rw [if_pos c3, decide_eq_false fun h => c2 ⟨c3, h⟩]
      ·rw [if_neg c3]
     rw [hf]
     rfl
    rw [step, dif_neg c2]
    simp only [aa, Bool.not_false, if_true]
    exact ⟨_, rfl⟩
theorem Ar.Ok.set_mk {x : Ar} (o : x.Ok) {a : Nat} (ha : a < x.l.length) {y : Int} (h0 : 0 ≤ y) (h1 : y ≤ 2000000000) :
  ga x.st (a : Int) y = some (match x.setW a y with | none => (⟨⟨#[]⟩, 0, 0, 0, 0⟩, 0, false) | some y' => (x.seen a y', ((x.nx a y').1 : Int), true)) := by
 obtain ⟨yy, h⟩ := o.set_loop ha _ y rfl h0 h1
 unfold ga gh dc
 simp only [aa]
 rw [h]
 cases x.setW a y with
 | none => rfl
 | some y' => rfl
def Ar.allF (x : Ar) : Nat → Nat → Int → Option (List an × Int)
 | 0, _, y => some ([], y)
 | n + 1, a, y => if wc false (x.l.drop a) = 0 then some ([], y) else
  match x.setW a y with
  | none => none
  | some y' => match x.allF n (x.nx a y').1 (y' + x.lh) with
   | none => none
   | some (o, e) => some (x.seen a y' :: o, e)
theorem pa {l : List UInt8} {a : Nat} (h : ¬ wc false (l.drop a) = 0) : a < l.length := by
 rcases Nat.lt_or_ge a l.length with h' | h'
 ·exact h'
 ·exact absurd (by rw [List.drop_eq_nil_of_le h']; rfl) h
theorem Ar.Ok.all_loop {x : Ar} (o : x.Ok) : ∀ (n a : Nat) (y : Int) (acc : List an), x.l.length - a < n → a ≤ x.l.length → acc.length ≤ a → 0 ≤ y → y ≤ 1001000000 →
  fh ⟨x.l.toArray⟩ x.lh x.st y acc (a : Int) = some (match x.allF n a y with | none => .inl () | some (out, e) => .inr (e, acc ++ out)) := by
 intro n
 induction n with
 | zero => intro a y acc h; omega
 | succ n ih =>
  intro a y acc hn ha hacc h0 h1
  have hl := o.hl
  have hlh := o.lh
  rw [fh, sz, if_pos ⟨by omega, by omega⟩, yC, oP (ym o.ho a), aa]
  unfold Ar.allF
  by_cases hw : wc false (x.l.drop a) = 0
  ·rw [if_pos hw]
   show (if ((wc false (x.l.drop a) : Nat) : Int) = 0 then _ else _) = _
   rw [if_pos (by omega)]
   simp
  ·rw [if_neg hw]
   show (if ((wc false (x.l.drop a) : Nat) : Int) = 0 then _ else _) = _
   have hlt := pa hw
   rw [if_neg (by omega), o.set_mk hlt h0 (by omega), aa]
   cases hs : x.setW a y with
   | none => rfl
   | some y' =>
    obtain ⟨hm, hgt, hle⟩ := o.nx_ok hlt y'
    have hb := x.setW_le a _ y y' rfl hs
    have ey : (x.seen a y').Y = y' := rfl
    simp only [Bool.not_true, Bool.false_eq_true, if_false, ey]
    rw [if_pos (by omega), av (n := y' + x.lh) (by omega) (by omega), ih _ _ _ (by omega) hle (by simp; omega) (by omega) (by omega)]
    cases x.allF n (x.nx a y').1 (y' + x.lh) with
    | none => rfl
    | some r => simp
end Go.Proofs.YtaemgcpcfnbmdaaGreatDoor.LG
namespace Go.Proofs.YtaemgcpcfnbmdaaGreatDoor.LG
open Go Go.LG Go.Lib

theorem Ar.Ok.rnext {x : Ar} (o : x.Ok) {a : Nat} (ha : a < x.l.length) (y : Int) : fg x.f x.b ⟨x.l.toArray⟩ (a : Int) x.sc (x.sp y) = some (ln x.f x.l x.sc a (x.nx a y), 0) := by
 have hl := o.hl
 obtain ⟨x', e, g1, g2⟩ := yx x.f o.hf x.b x.l o.hk (by omega) o.v o.rv (fun _ => o.F) (a : Int) x.sc (x.sp y)
 exact g2.trans (g1.symm.trans (o.next ha y))
theorem Ar.Ok.rplace {x : Ar} (o : x.Ok) {a : Nat} (ha : a < x.l.length) (y : Int) : eE x.f ⟨x.l.toArray⟩ (ln x.f x.l x.sc a (x.nx a y)) x.sc (x.sp y) x.al x.dir = some (x.pl a y) := by
 have hl := o.hl
 obtain ⟨t, i, e, g1, g2⟩ := AE x.f o.hf x.l (by omega) o.v o.rv (fun _ => o.F) (ln x.f x.l x.sc a (x.nx a y)) x.sc (x.sp y) x.al x.dir
 exact g2.trans (g1.symm.trans (o.place ha y))
abbrev Ar.ref (x : Ar) (out : List an) (a k y : Int) := cp x.f x.b ⟨x.l.toArray⟩ x.sc x.lh x.al x.dir x.wd x.fl out a k y
theorem Ar.Ok.ref_set {x : Ar} (o : x.Ok) {a : Nat} (hw : ¬ wc false (x.l.drop a) = 0) (out : List an) (ho : out.length ≤ 1000000) : ∀ (n : Nat) (y : Int), mu x.fl y = n → 0 ≤ y → y ≤ 1001000000 →
  x.ref out (a : Int) ((wc false (x.l.drop a) : Nat) : Int) y = match x.setW a y with
   | none => some (.inl ())
   | some y' => x.ref (out ++ [x.seen a y']) ((x.nx a y').1 : Int) ((wc false (x.l.drop (x.nx a y').1) : Nat) : Int) (y' + x.lh) := by
 intro n
 induction n using Nat.strongRecOn with
 | _ n ih =>
  intro y hn h0 h1
  have hlt := pa hw
  have hl := o.hl
  have hlh := o.lh
  have hy : 0 ≤ y ∧ y ≤ 2000000000 := ⟨h0, by omega⟩
  have hfl := o.fls
  have hr := o.room y
  conv => lhs; unfold Ar.ref; rw [cp]
  rw [if_pos (show (0 : Int) < ((wc false (x.l.drop a) : Nat) : Int) by omega), Ar.setW]
  by_cases c1 : 1000000000 < y
  ·rw [if_pos c1, if_pos c1]
  ·have hR := Bi x.fl x.wd o.fv hy o.lh
   rw [if_pos (show y ≤ 1000000000 by omega)] at hR
   have esp : ax ((rm x.fl x.wd y x.lh).Hi - (rm x.fl x.wd y x.lh).Lo) = x.sp y := av (by unfold Ar.sp Ar.hi Ar.lo at hr; omega) (by unfold Ar.sp Ar.hi Ar.lo at hr; omega)
   have hN := o.rnext hlt y
   have hP := o.rplace hlt y
   have hB : eU x.fl y x.lh = some (if x.en y = [] then -1 else mn (x.en y)) := xT x.fl (by omega) hfl.2 hy o.lh
   obtain ⟨hm, hgt, hle⟩ := o.nx_ok hlt y
   rw [if_neg c1, if_neg c1]
   simp only [hR, aa, esp, hN, hB]
   by_cases c2 : x.sp y < x.w a y ∧ x.en y ≠ []
   ·have hme := o.en_le c2.2
    have hc : (if x.sp y < (ln x.f x.l x.sc a (x.nx a y)).Width then some (decide ((0 : Int) ≤ (if x.en y = [] then -1 else mn (x.en y)))) else some false) = some true := by
     have : x.sp y < (ln x.f x.l x.sc a (x.nx a y)).Width := c2.1
     rw [if_pos this, if_neg c2.2, decide_eq_true (by omega)]
    rw [hc, aa, if_pos rfl, dif_pos c2, if_neg c2.2]
    exact ih _ (by rw [← hn]; exact (wy c2.2).1) (mn (x.en y)) rfl (by omega) (by omega)
   ·have hc : (if x.sp y < (ln x.f x.l x.sc a (x.nx a y)).Width then some (decide ((0 : Int) ≤ (if x.en y = [] then -1 else mn (x.en y)))) else some false) = some false := by
     by_cases c3 : x.sp y < (ln x.f x.l x.sc a (x.nx a y)).Width
     ·have he : x.en y = [] := Decidable.byContradiction fun h => c2 ⟨c3, h⟩
      rw [if_pos c3, if_pos he]; rfl
     ·rw [if_neg c3]
    have eu : (ln x.f x.l x.sc a (x.nx a y)).Until = ((x.nx a y).1 : Int) := rfl
    rw [hc, aa, if_neg (by decide), dif_neg c2]
    simp only [hP, aa, eu, sz]
    rw [if_pos (by omega), if_pos ⟨by omega, by omega⟩, yC, pX (by rw [List.length_drop]; omega), oP (ym o.ho _), aa, av (n := y + x.lh) (by omega) (by omega)]
    rfl
theorem Ar.Ok.ref_all {x : Ar} (o : x.Ok) : ∀ (n a : Nat) (y : Int) (acc : List an), x.l.length - a < n → a ≤ x.l.length → acc.length ≤ a → 0 ≤ y → y ≤ 1001000000 →
  x.ref acc (a : Int) ((wc false (x.l.drop a) : Nat) : Int) y = some (match x.allF n a y with | none => .inl () | some (out, e) => .inr (acc ++ out, e)) := by
 intro n
 induction n with
 | zero => intro a y acc h; omega
 | succ n ih =>
  intro a y acc hn ha hacc h0 h1
  have hl := o.hl
  have hlh := o.lh
  unfold Ar.allF
  by_cases hw : wc false (x.l.drop a) = 0
  ·rw [if_pos hw, hw]
   unfold Ar.ref
   rw [cp, if_neg (by decide)]
   simp
  ·rw [if_neg hw, o.ref_set hw acc (by omega) _ y rfl h0 h1]
   have hlt := pa hw
   cases hs : x.setW a y with
   | none => rfl
   | some y' =>
    obtain ⟨hm, hgt, hle⟩ := o.nx_ok hlt y'
    have hb := x.setW_le a _ y y' rfl hs
    simp only
    rw [ih _ _ _ (by omega) hle (by simp; omega) (by omega) (by omega)]
    cases x.allF n (x.nx a y').1 (y' + x.lh) with
    | none => rfl
    | some r => simp
theorem Au {p : List UInt8} : ((⟨p.toArray⟩ : ByteArray) = ⟨#[]⟩) ↔ p = [] := by
 constructor
 ·intro h
  have := congrArg (fun k : ByteArray => k.data.toList) h
  simpa using this
 ·rintro rfl; rfl
def BM (v : Bool) (b : ak) (l : List UInt8) (sc : Int) : Bool := v && (vb b && jm l) && decide (50 ≤ sc ∧ sc ≤ 300)
def qO (v : Bool) (f : ai) (b : ak) (l : List UInt8) (sc : Int) : Int := if BM v b l sc = true then (if vn f b l = true then 0 else 20) else 1
theorem uM (f : ai) (hf : Sm f) (b : ak) (l : List UInt8) (hk : b.Keep.length ≤ 100000000000000) (hl : l.length ≤ 1000000) (hne : l ≠ []) {v : Bool} (h1 : aU f = some v) (h2 : aL f = some v) (hF : v = true → oG f) (sc : Int) {w : Int} (hw : 0 ≤ w ∧ w ≤ 1000000) :
  ∃ z, eB f b ⟨l.toArray⟩ 0 sc w = some (z, qO v f b l sc) := by
 have hp : 0 < l.length := List.length_pos_iff.2 hne
 have key : ∃ z, eB f b ⟨l.toArray⟩ 0 sc w = some (z, qO v f b l sc) := by
  unfold eB qO BM
  have ha : (0 : Int) ≤ 0 ∧ (0 : Int) ≤ (l.length : Int) - 1 := ⟨Int.le_refl _, by omega⟩
  have hw' : 0 ≤ w ∧ w ≤ 1000000000 := ⟨hw.1, by omega⟩
  rw [sz, av (n := (l.length : Int) - 1) (by omega) (by omega), hZ, hZ, aa]
  simp only [ha, hw', and_self, decide_true, Bool.not_true, Bool.false_eq_true, if_false, aa, qa f hf b l hk sc h1 hF]
  cases hc : (v && (vb b && jm l) && decide (50 ≤ sc ∧ sc ≤ 300))
  ·exact ⟨_, rfl⟩
  ·cases hp : vn f b l
   ·exact ⟨_, rfl⟩
   ·have ho : jm l = true := by
     rw [Bool.and_eq_true, Bool.and_eq_true, Bool.and_eq_true] at hc
     exact hc.1.2.2
    have hlen := (dt ho).2
    have hx := (rn f hf b l (by omega) sc (show 0 < l.length by omega) w).1
    have hx' : b5 ⟨l.toArray⟩ ((ends b l).map nq) f sc 0 w = some (ln f l sc 0 (vZ f b l sc 0 w)) := hx
    simp only [if_true, aa, hx']
    exact ⟨_, rfl⟩
 exact key
theorem yL (f : ai) (b : ak) : vn f b [] = true := rfl
theorem xx (f : ai) (hf : Sm f) (b : ak) (hk : b.Keep.length ≤ 100000000000000) {v : Bool} (h1 : aU f = some v) (hF : v = true → oG f) (sc : Int) {w : Int} (hw : 0 ≤ w ∧ w ≤ 1000000) :
  fL f b (⟨#[]⟩ : ByteArray) sc [w] = some ([], qO v f b [] sc) := by
 have hb : xG [w] = false := by
  unfold xG
  simp
  omega
 unfold qO
 cases hq : BM v b [] sc
 ·unfold fL
  rw [AC [w] (by simp), aa, hb]
  have hp := qa f hf b [] hk sc h1 hF
  unfold BM at hq
  rw [hq] at hp
  have hp' : cO f b (⟨#[]⟩ : ByteArray) sc = some (Sum.inl (⟨#[]⟩, [])) := hp
  simp only [Bool.false_eq_true, if_false, hp', aa]
 ·have hq' := hq
  unfold BM at hq'
  rw [Bool.and_eq_true, Bool.and_eq_true, Bool.and_eq_true] at hq'
  obtain ⟨⟨hv, hvb, ho⟩, hsc⟩ := hq'
  subst hv
  have h := Cx f hf (hF rfl) h1 b [] hk (by decide) hvb ho sc (of_decide_eq_true hsc) [w] (by simp)
  rw [hb, yL] at h
  have h' : fL f b (⟨#[]⟩ : ByteArray) sc [w] = some (DD f b [] sc (oD [w]) 1 0 0, 0) := h
  rw [h', if_pos rfl, yL, if_pos rfl]
  rfl
def DA (x : Ar) (y : Int) : Bool := decide (jm x.l = true ∧ vX x.fl x.wd = true ∧ (0 ≤ x.lh ∧ x.lh ≤ 1000000) ∧ (0 ≤ y ∧ y ≤ 1000000000) ∧ (0 ≤ x.al ∧ x.al ≤ 2) ∧ (0 ≤ x.dir ∧ x.dir ≤ 1))
def Ar.code (x : Ar) (v : Bool) (y : Int) : Int := if DA x y = true then qO v x.f x.b x.l x.sc else 1
theorem Bc {fl : List ab} {w : Int} (h : vX fl w = true) : (0 ≤ w ∧ w ≤ 1000000) ∧ fl.length ≤ 200 := by
 unfold vX at h
 rw [Bool.and_eq_true, Bool.and_eq_true] at h
 exact ⟨of_decide_eq_true h.1.1, of_decide_eq_true h.1.2⟩
theorem Cu (x : Ar) (hf : Sm x.f) (hk : x.b.Keep.length ≤ 100000000000000) (hl : x.l.length ≤ 1000000) (hfl : x.fl.length ≤ 1000000) {v : Bool} (h1 : aU x.f = some v) (h2 : aL x.f = some v) (hF : v = true → oG x.f) (y : Int) :
  dQ x.st y = some (x.code v y) := by
 unfold dQ Ar.code DA Ar.st
 simp only [iQ, wU x.fl x.wd hfl, aa]
 by_cases hc : jm x.l = true ∧ vX x.fl x.wd = true ∧ (0 ≤ x.lh ∧ x.lh ≤ 1000000) ∧ (0 ≤ y ∧ y ≤ 1000000000) ∧ (0 ≤ x.al ∧ x.al ≤ 2) ∧ (0 ≤ x.dir ∧ x.dir ≤ 1)
 ·obtain ⟨c1, c2, c3, c4, c5, c6⟩ := hc
  have n1 : ¬ x.lh < 0 := by omega
  have n2 : ¬ 1000000 < x.lh := by omega
  have n3 : ¬ y < 0 := by omega
  have n4 : ¬ 1000000000 < y := by omega
  have n5 : ¬ x.al < 0 := by omega
  have n6 : ¬ 2 < x.al := by omega
  have n7 : ¬ x.dir < 0 := by omega
  have n8 : ¬ 1 < x.dir := by omega
  have hw := (Bc c2).1
  simp only [c1, c2, c3, c4, c5, c6, and_self, decide_true, if_true, n1, n2, n3, n4, n5, n6, n7, n8, decide_false, Bool.not_true, Bool.false_eq_true, if_false, aa]
  by_cases hn : x.l = []
  ·have e : (⟨x.l.toArray⟩ : ByteArray) = ⟨#[]⟩ := Au.2 hn
   rw [if_pos e, xx x.f hf x.b hk h1 hF x.sc hw, aa, hn]
  ·have e : ¬ (⟨x.l.toArray⟩ : ByteArray) = ⟨#[]⟩ := fun h => hn (Au.1 h)
   obtain ⟨z, hz⟩ := uM x.f hf x.b x.l hk hl hn h1 h2 hF x.sc hw
   rw [if_neg e, hz, aa]
 ·rw [decide_eq_false hc]
  by_cases c1 : jm x.l = true
  ·by_cases c2 : vX x.fl x.wd = true
   ·by_cases n1 : x.lh < 0
    ·simp [c1, c2, n1]
    ·by_cases n2 : 1000000 < x.lh
     ·simp [c1, c2, n1, n2]
     ·by_cases n3 : y < 0
      ·simp [c1, c2, n1, n2, n3]
      ·by_cases n4 : 1000000000 < y
       ·simp [c1, c2, n1, n2, n3, n4]
       ·by_cases n5 : x.al < 0
        ·simp [c1, c2, n1, n2, n3, n4, n5]
        ·by_cases n6 : 2 < x.al
         ·simp [c1, c2, n1, n2, n3, n4, n5, n6]
         ·by_cases n7 : x.dir < 0
          ·simp [c1, c2, n1, n2, n3, n4, n5, n6, n7]
          ·have n8 : 1 < x.dir := by
            rcases Int.lt_or_le 1 x.dir with h | h
            ·exact h
            ·exact absurd ⟨c1, c2, ⟨by omega, by omega⟩, ⟨by omega, by omega⟩, ⟨by omega, by omega⟩, by omega, h⟩ hc
           simp [c1, c2, n1, n2, n3, n4, n5, n6, n7, n8]
   ·simp [c1, c2]
  ·simp [c1]
def Ar.ans (x : Ar) (v : Bool) (y : Int) : List an × Int × Int :=
 if x.code v y = 0 then (match x.allF (x.l.length + 1) 0 y with | none => ([], 0, 3) | some (out, e) => if e ≤ 1000000000 then (out, e, 0) else ([], 0, 3)) else ([], 0, x.code v y)
theorem Ar.ok_of (x : Ar) (hf : Sm x.f) (hk : x.b.Keep.length ≤ 100000000000000) (hl : x.l.length ≤ 100) {v : Bool} (h1 : aU x.f = some v) (h2 : aL x.f = some v) (hF : v = true → oG x.f) {y : Int} (h : x.code v y = 0) : x.Ok ∧ 0 ≤ y ∧ y ≤ 1000000000 := by
 unfold Ar.code qO at h
 cases hr : DA x y
 ·rw [hr] at h; simp at h
 ·rw [hr, if_pos rfl] at h
  cases hq : BM v x.b x.l x.sc
  ·rw [hq] at h; simp at h
  ·rw [hq, if_pos rfl] at h
   cases hp : vn x.f x.b x.l
   ·rw [hp] at h; simp at h
   ·unfold BM at hq
    rw [Bool.and_eq_true, Bool.and_eq_true, Bool.and_eq_true] at hq
    obtain ⟨⟨hv, hvb, ho⟩, hsc⟩ := hq
    subst hv
    obtain ⟨_, r2, r3, r4, r5, r6⟩ := of_decide_eq_true hr
    exact ⟨⟨hf, h1, h2, hF rfl, hk, hvb, ho, hl, of_decide_eq_true hsc, r3, r5, r6, r2, hp⟩, r4⟩
theorem BN (x : Ar) (hf : Sm x.f) (hk : x.b.Keep.length ≤ 100000000000000) (hl : x.l.length ≤ 100) (hfl : x.fl.length ≤ 1000000) {v : Bool} (h1 : aU x.f = some v) (h2 : aL x.f = some v) (hF : v = true → oG x.f) (y : Int) :
  fC x.f x.b ⟨x.l.toArray⟩ x.sc x.lh x.al x.dir x.wd y x.fl = some (x.ans v y) := by
 have hc := Cu x hf hk (by omega) hfl h1 h2 hF y
 have hc' : dQ ⟨x.f, x.b, ⟨x.l.toArray⟩, x.sc, x.lh, x.al, x.dir, x.wd, x.fl⟩ y = some (x.code v y) := hc
 unfold fC Ar.ans k5
 rw [hc', aa]
 by_cases h0 : x.code v y = 0
 ·obtain ⟨o, hy⟩ := x.ok_of hf hk hl h1 h2 hF h0
  have hA := o.all_loop (x.l.length + 1) 0 y [] (by omega) (Nat.zero_le _) (Nat.le_refl _) hy.1 (by omega)
  have hA' : fh ⟨x.l.toArray⟩ x.lh ⟨x.f, x.b, ⟨x.l.toArray⟩, x.sc, x.lh, x.al, x.dir, x.wd, x.fl⟩ y [] 0 = some (match x.allF (x.l.length + 1) 0 y with | none => .inl () | some (out, e) => .inr (e, [] ++ out)) := hA
  rw [if_neg (by simp [h0]), if_pos h0, hA']
  cases x.allF (x.l.length + 1) 0 y with
  | none => rfl
  | some r =>
   obtain ⟨out, e⟩ := r
   by_cases he : e ≤ 1000000000
   ·simp [he]
   ·simp [he]
 ·rw [if_pos h0, if_neg h0]
end Go.Proofs.YtaemgcpcfnbmdaaGreatDoor.LG
