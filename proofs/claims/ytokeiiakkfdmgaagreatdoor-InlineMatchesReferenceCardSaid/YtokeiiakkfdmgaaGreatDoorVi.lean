/-
 What is seen of a line in its visual order consists of its bytes. Plain Lean; no program in sight.
-/
import Derived.Test.YtokeiiakkfdmgaaGreatDoorBp
set_option linter.unusedVariables false
set_option linter.unusedSimpArgs false
set_option maxRecDepth 100000
namespace Go.Proofs.YtokeiiakkfdmgaaGreatDoor.LG
open Go Go.LG Go.Lib

def Keeps {S : Type} (Inv : S → Prop) (n : Nat) (ψ : S → Int × Int → Option (S × Option Nat)) : Prop :=
 ∀ s (i k : Nat), Inv s → i < k → k ≤ n → ∃ s', ψ s ((i : Int), (k : Int)) = some (s', none) ∧ Inv s'
theorem run_byte (a : List Int) (ha : a.length ≤ 1000000) : ∀ (n i : Nat), a.length - i = n → i ≤ a.length → ∃ k : Nat, bidi_runs_1_byte_k1_l69 a (i : Int) = some (k : Int) ∧ i ≤ k ∧ k ≤ a.length := by
 intro n
 induction n with
 | zero =>
  intro i hn hi
  rw [bidi_runs_1_byte_k1_l69, if_neg (by omega)]
  exact ⟨i, rfl, Nat.le_refl _, hi⟩
 | succ n ih =>
  intro i hn hi
  rw [bidi_runs_1_byte_k1_l69, if_pos (by omega), if_pos ⟨by omega, by omega⟩]
  unfold bidi_directions_2
  rw [class_eq]
  simp only [some_bind]
  by_cases hc : 3 < cl (a.getD (Int.toNat (i : Int)) 0)
  ·rw [decide_eq_true hc, if_pos rfl, w64_id (n := (i : Int) + 1) (by omega) (by omega), add1]
   obtain ⟨k, h1, h2, h3⟩ := ih (i + 1) (by omega) (by omega)
   exact ⟨k, h1, by omega, h3⟩
  ·rw [decide_eq_false hc, if_neg (by decide)]
   exact ⟨i, rfl, Nat.le_refl _, hi⟩
theorem runs_byte {S : Type} (Inv : S → Prop) (a : List Int) (ha : a.length ≤ 1000000) (ψ : S → Int × Int → Option (S × Option Nat)) (hψ : Keeps Inv a.length ψ) : ∀ (n i : Nat) (s : S), a.length - i = n → Inv s →
  ∃ s', bidi_runs_1_byte_k1_l28 (rnd ψ) a (i : Int) (s, none) = some (.inr (s', none)) ∧ Inv s' := by
 intro n
 induction n using Nat.strongRecOn with
 | _ n ih =>
  intro i s hn hs
  rw [bidi_runs_1_byte_k1_l28]
  by_cases h : i < a.length
  ·obtain ⟨k, h1, h2, h3⟩ := run_byte a ha _ i rfl (by omega)
   rw [if_pos (by omega), h1, some_bind]
   have e : w64 (max (i : Int) (k : Int) + 1) = ((k + 1 : Nat) : Int) := by rw [w64_id (by omega) (by omega)]; omega
   rw [e]
   by_cases hik : i < k
   ·obtain ⟨s', hs1, hs2⟩ := hψ s i k hs hik h3
    have step : rnd ψ (s, none) ((i : Int), (k : Int)) = some ((s', none), true) := by
     unfold rnd; simp only; rw [hs1]; rfl
    rw [if_pos (by omega), step]
    exact ih _ (by omega) (k + 1) s' rfl hs2
   ·rw [if_neg (by omega)]
    exact ih _ (by omega) (k + 1) s rfl hs
  ·rw [if_neg (by omega)]; exact ⟨s, rfl, hs⟩
theorem run_int (a lv : List Int) (t : Int) (ha : a.length ≤ 1000000) (hv : ∀ x ∈ a, 0 ≤ x ∧ x < (lv.length : Int)) : ∀ (n i : Nat), a.length - i = n → i ≤ a.length → ∃ k : Nat, bidi_runs_1_int_k1_l79 a lv t (i : Int) = some (k : Int) ∧ i ≤ k ∧ k ≤ a.length := by
 intro n
 induction n with
 | zero =>
  intro i hn hi
  rw [bidi_runs_1_int_k1_l79, if_neg (by omega)]
  exact ⟨i, rfl, Nat.le_refl _, hi⟩
 | succ n ih =>
  intro i hn hi
  have hlt : i < a.length := by omega
  have e0 : a.getD (Int.toNat (i : Int)) 0 = a[i] := by simp [List.getD_eq_getElem?_getD, hlt]
  rw [bidi_runs_1_int_k1_l79, if_pos (by omega), if_pos ⟨by omega, by omega⟩, e0]
  unfold bidi_turn_1_k1
  rw [if_pos (hv _ (List.getElem_mem hlt))]
  simp only [some_bind]
  by_cases hc : t ≤ lv.getD (Int.toNat a[i]) 0
  ·rw [decide_eq_true hc, if_pos rfl, w64_id (n := (i : Int) + 1) (by omega) (by omega), add1]
   obtain ⟨k, h1, h2, h3⟩ := ih (i + 1) (by omega) (by omega)
   exact ⟨k, h1, by omega, h3⟩
  ·rw [decide_eq_false hc, if_neg (by decide)]
   exact ⟨i, rfl, Nat.le_refl _, hi⟩
theorem runs_int {S : Type} (Inv : S → Prop) (a lv : List Int) (t : Int) (ha : a.length ≤ 1000000) (hv : ∀ x ∈ a, 0 ≤ x ∧ x < (lv.length : Int)) (ψ : S → Int × Int → Option (S × Option Nat)) (hψ : Keeps Inv a.length ψ) : ∀ (n i : Nat) (s : S), a.length - i = n → Inv s →
  ∃ s', bidi_runs_1_int_k1_l38 (rnd ψ) a lv t (i : Int) (s, none) = some (.inr (s', none)) ∧ Inv s' := by
 intro n
 induction n using Nat.strongRecOn with
 | _ n ih =>
  intro i s hn hs
  rw [bidi_runs_1_int_k1_l38]
  by_cases h : i < a.length
  ·obtain ⟨k, h1, h2, h3⟩ := run_int a lv t ha hv _ i rfl (by omega)
   rw [if_pos (by omega), h1, some_bind]
   have e : w64 (max (i : Int) (k : Int) + 1) = ((k + 1 : Nat) : Int) := by rw [w64_id (by omega) (by omega)]; omega
   rw [e]
   by_cases hik : i < k
   ·obtain ⟨s', hs1, hs2⟩ := hψ s i k hs hik h3
    have step : rnd ψ (s, none) ((i : Int), (k : Int)) = some ((s', none), true) := by
     unfold rnd; simp only; rw [hs1]; rfl
    rw [if_pos (by omega), step]
    exact ih _ (by omega) (k + 1) s' rfl hs2
   ·rw [if_neg (by omega)]
    exact ih _ (by omega) (k + 1) s rfl hs
  ·rw [if_neg (by omega)]; exact ⟨s, rfl, hs⟩
def Bits (n : Nat) (v : List Int) : Prop := v.length = n ∧ ∀ x ∈ v, x = 0 ∨ x = 1
theorem Bits.set {n : Nat} {v : List Int} (h : Bits n v) (i : Nat) {x : Int} (hx : x = 0 ∨ x = 1) : Bits n (v.set i x) :=
 ⟨by rw [List.length_set]; exact h.1, fun y hy => by
  rcases List.mem_or_eq_of_mem_set hy with h' | h'
  ·exact h.2 y h'
  ·rw [h']; exact hx⟩
theorem dirs_loop (l : List UInt8) (hl : l.length ≤ 1000000) : ∀ (n i : Nat) (v : List Int) (now : Int), l.length - i = n → i ≤ l.length → Bits l.length v → (now = 0 ∨ now = 1) →
  ∃ v', bidi_directions_l50 ⟨l.toArray⟩ v now (i : Int) = some v' ∧ Bits l.length v' := by
 intro n
 induction n with
 | zero =>
  intro i v now hn hi hv hnow
  rw [bidi_directions_l50, sz, List.length_replicate, Int.toNat_natCast, if_neg (by omega)]
  exact ⟨v, rfl, hv⟩
 | succ n ih =>
  intro i v now hn hi hv hnow
  have b : (0 : Int) ≤ (i : Int) ∧ (i : Int) < (l.length : Int) := ⟨by omega, by omega⟩
  rw [bidi_directions_l50]
  simp only [sz, List.length_replicate, Int.toNat_natCast, if_pos b, if_pos b.2, class_eq, some_bind]
  rw [w64_id (n := (i : Int) + 1) (by omega) (by omega), add1]
  by_cases h1 : cl (bt ⟨l.toArray⟩ (i : Int)) = 1
  ·rw [if_pos h1]; simp only [some_bind]
   exact ih (i + 1) _ _ (by omega) (by omega) (hv.set _ (.inl rfl)) (.inl rfl)
  ·by_cases h2 : cl (bt ⟨l.toArray⟩ (i : Int)) = 2
   ·rw [if_neg h1, if_pos h2]; simp only [some_bind]
    exact ih (i + 1) _ _ (by omega) (by omega) (hv.set _ (.inr rfl)) (.inr rfl)
   ·rw [if_neg h1, if_neg h2]; simp only [some_bind]
    exact ih (i + 1) _ _ (by omega) (by omega) (hv.set _ hnow) hnow
theorem fill_loop (a : List Int) (x : Int) (hx : x = 0 ∨ x = 1) (ha : a.length ≤ 1000000) : ∀ (n i : Nat) (v : List Int), a.length - i = n → i ≤ a.length → Bits a.length v → ∃ v', bidi_fill_k1_l33 a x v (i : Int) = some v' ∧ Bits a.length v' := by
 intro n
 induction n with
 | zero =>
  intro i v hn hi hv
  rw [bidi_fill_k1_l33, if_neg (by omega)]
  exact ⟨v, rfl, hv⟩
 | succ n ih =>
  intro i v hn hi hv
  rw [bidi_fill_k1_l33, if_pos (by omega), if_pos ⟨by omega, by omega⟩, w64_id (n := (i : Int) + 1) (by omega) (by omega), add1]
  exact ih (i + 1) _ (by omega) (by omega) (hv.set _ hx)
theorem cutl_len {α : Type} (v : List α) {i k : Nat} (hik : i ≤ k) (hk : k ≤ v.length) : (cutl v (i : Int) (k : Int)).length = k - i := by
 unfold cutl; simp; omega
theorem splice_len {α : Type} (v w : List α) {i k : Nat} (hik : i ≤ k) (hk : k ≤ v.length) (hw : w.length = k - i) : (List.take (Int.toNat (i : Int)) v ++ (w ++ List.drop (Int.toNat (k : Int)) v)).length = v.length := by
 simp; omega
theorem at_mk (v : List Int) (dir : Int) (i : Int) (hv : ∀ x ∈ v, x = 0 ∨ x = 1) (hd : dir = 0 ∨ dir = 1) : ∃ r, bidi_directions_1_k1 i v dir = some r ∧ (r = 0 ∨ r = 1) := by
 unfold bidi_directions_1_k1
 by_cases h1 : i < 0
 ·rw [if_pos h1, some_bind, if_pos rfl]; exact ⟨dir, rfl, hd⟩
 ·rw [if_neg h1, some_bind]
  by_cases h2 : (v.length : Int) ≤ i
  ·rw [decide_eq_true h2, if_pos rfl]; exact ⟨dir, rfl, hd⟩
  ·rw [decide_eq_false h2, if_neg (by decide), if_pos ⟨by omega, by omega⟩]
   have hlt : Int.toNat i < v.length := by omega
   exact ⟨_, rfl, by rw [List.getD_eq_getElem?_getD, List.getElem?_eq_getElem hlt]; exact hv _ (List.getElem_mem hlt)⟩
theorem dirs_round (l : List UInt8) (dir : Int) (hd : dir = 0 ∨ dir = 1) (hl : l.length ≤ 1000000) : Keeps (Bits l.length) l.length (fun (u : List Int) (x : Int × Int) => bidi_directions_r170 ⟨l.toArray⟩ dir u x.1 x.2) := by
 intro v i k hv hik hk
 obtain ⟨r1, h1, b1⟩ := at_mk v dir (w64 ((i : Int) - 1)) hv.2 hd
 obtain ⟨r2, h2, b2⟩ := at_mk v dir (k : Int) hv.2 hd
 have hc : (cutl v (i : Int) (k : Int)).length = k - i := cutl_len v (by omega) (by rw [hv.1]; exact hk)
 have hcb : Bits (cutl v (i : Int) (k : Int)).length (cutl v (i : Int) (k : Int)) := ⟨rfl, fun x hx => hv.2 x (List.mem_of_mem_take (List.mem_of_mem_drop hx))⟩
 have b : (0 : Int) ≤ (i : Int) ∧ ((i : Int) : Int) ≤ (k : Int) ∧ (k : Int) ≤ (l.length : Int) := ⟨by omega, by omega, by omega⟩
 have key : ∀ x, (x = 0 ∨ x = 1) → ∃ w, bidi_fill_k1 (cutl v (i : Int) (k : Int)) x = some w ∧ Bits l.length (List.take (Int.toNat (i : Int)) v ++ (w ++ List.drop (Int.toNat (k : Int)) v)) := by
  intro x hx
  obtain ⟨w, hw, hb⟩ := fill_loop (cutl v (i : Int) (k : Int)) x hx (by omega) _ 0 _ rfl (Nat.zero_le _) hcb
  have hw' : bidi_fill_k1_l33 (cutl v (i : Int) (k : Int)) x (cutl v (i : Int) (k : Int)) 0 = some w := hw
  refine ⟨w, by unfold bidi_fill_k1; rw [hw']; rfl, ?_, fun y hy => ?_⟩
  ·rw [splice_len v w (by omega) (by rw [hv.1]; exact hk) (by rw [hb.1, hc])]; exact hv.1
  ·rcases List.mem_append.1 hy with hy | hy
   ·exact hv.2 y (List.mem_of_mem_take hy)
   ·rcases List.mem_append.1 hy with hy | hy
    ·exact hb.2 y hy
    ·exact hv.2 y (List.mem_of_mem_drop hy)
 simp only
 unfold bidi_directions_r170
 simp only [h1, h2, some_bind, sz, List.length_replicate, Int.toNat_natCast, if_pos b]
 by_cases hr : r1 = r2
 ·rw [if_pos hr]
  obtain ⟨w, hw, hb⟩ := key r1 b1
  rw [hw]; exact ⟨_, rfl, hb⟩
 ·rw [if_neg hr]
  obtain ⟨w, hw, hb⟩ := key dir hd
  rw [hw]; exact ⟨_, rfl, hb⟩
theorem sbytes_len (l : List UInt8) : (sbytes ⟨l.toArray⟩).length = l.length := by unfold sbytes; simp
theorem dirs_mk (l : List UInt8) (dir : Int) (hd : dir = 0 ∨ dir = 1) (hl : l.length ≤ 1000000) : ∃ v, bidi_directions ⟨l.toArray⟩ dir = some v ∧ Bits l.length v := by
 have h0 : Bits l.length (List.replicate l.length (0 : Int)) := ⟨List.length_replicate .., fun x hx => .inl (List.eq_of_mem_replicate hx)⟩
 obtain ⟨v, h1, h2⟩ := dirs_loop l hl _ 0 _ dir rfl (Nat.zero_le _) h0 hd
 have h1' : bidi_directions_l50 ⟨l.toArray⟩ (List.replicate l.length (0 : Int)) dir 0 = some v := h1
 have hr := runs_byte (Bits l.length) (sbytes ⟨l.toArray⟩) (by rw [sbytes_len]; exact hl) _ (by rw [sbytes_len]; exact dirs_round l dir hd hl) _ 0 v rfl h2
 obtain ⟨v2, h3, h4⟩ := hr
 have h3' : bidi_runs_1_byte_k1_l28 (rnd (fun (u : (List Int)) (x : Int × Int) => bidi_directions_r170 ⟨l.toArray⟩ dir u x.1 x.2)) (sbytes ⟨l.toArray⟩) 0 (v, none) = some (.inr (v2, none)) := h3
 refine ⟨v2, ?_, h4⟩
 unfold bidi_directions bidi_runs_byte_k1 bidi_runs_1_byte_k1
 rw [sz, if_pos ⟨by omega, by omega, by omega⟩, Int.toNat_natCast, h1', some_bind, some_bind, h3']
 rfl
theorem levels_loop (l : List UInt8) (dir : Int) (hd : dir = 0 ∨ dir = 1) (hl : l.length ≤ 1000000) (y : List Int) (hy : y.length = l.length) : ∀ (n i : Nat) (v : List Int), l.length - i = n → i ≤ l.length → v.length = l.length → (∀ j (h : j < v.length), i ≤ j → v[j] = 0 ∨ v[j] = 1) →
  ∃ v', bidi_Levels_l66 ⟨l.toArray⟩ dir y v (i : Int) = some v' ∧ v'.length = l.length := by
 intro n
 induction n with
 | zero =>
  intro i v hn hi hv hb
  rw [bidi_Levels_l66, if_neg (by omega)]
  exact ⟨v, rfl, hv⟩
 | succ n ih =>
  intro i v hn hi hv hb
  have hlt : i < v.length := by omega
  have hi' := hb i hlt (Nat.le_refl _)
  have e0 : v.getD i 0 = v[i] := by simp [List.getD_eq_getElem?_getD, hlt]
  have b1 : (0 : Int) ≤ (i : Int) ∧ (i : Int) < (y.length : Int) := ⟨by omega, by omega⟩
  have b2 : (0 : Int) ≤ dir ∧ dir < 2 := by omega
  have b3 : (0 : Int) ≤ v[i] ∧ v[i] < 2 := by omega
  have b4 : (0 : Int) ≤ (i : Int) ∧ (i : Int) < (l.length : Int) := ⟨by omega, by omega⟩
  have next : ∀ x, ∃ v', bidi_Levels_l66 ⟨l.toArray⟩ dir y (List.set v i x) ((i + 1 : Nat) : Int) = some v' ∧ v'.length = l.length := fun x =>
   ih (i + 1) _ (by omega) (by omega) (by rw [List.length_set]; exact hv) fun j h hj => by
    rw [List.getElem_set, if_neg (by omega)]
    exact hb j (by rw [List.length_set] at h; exact h) (by omega)
  rw [bidi_Levels_l66, if_pos b1.2, w64_id (n := (i : Int) + 1) (by omega) (by omega), add1]
  simp only [if_pos b1, if_pos b2, e0, if_pos b3, sz, if_pos b4, class_eq, some_bind, Int.toNat_natCast]
  by_cases hx : v[i] = 1
  ·rw [if_pos hx]
   by_cases hc : cl (bt ⟨l.toArray⟩ (i : Int)) = 3
   ·rw [decide_eq_true hc, some_bind, if_pos rfl, some_bind, List.set_set]
    exact next _
   ·rw [decide_eq_false hc, some_bind, if_neg (by decide), some_bind]
    exact next _
  ·rw [if_neg hx, some_bind, if_neg (by decide), some_bind]
   exact next _
def iota (n : Nat) : List Int := (List.range n).map fun i : Nat => (i : Int)
theorem iota_len (n : Nat) : (iota n).length = n := by simp [iota]
theorem iota_mem {n : Nat} {x : Int} (h : x ∈ iota n) : 0 ≤ x ∧ x < (n : Int) := by
 simp only [iota, List.mem_map, List.mem_range] at h
 obtain ⟨i, hi, rfl⟩ := h
 omega
theorem order_loop (l : List UInt8) (hl : l.length ≤ 1000000) : ∀ (n i : Nat) (v : List Int), l.length - i = n → i ≤ l.length → v.length = l.length → (∀ j (h : j < v.length), j < i → v[j] = (j : Int)) → bidi_Order_l61 ⟨l.toArray⟩ v (i : Int) = some (iota l.length) := by
 intro n
 induction n with
 | zero =>
  intro i v hn hi hv hb
  rw [bidi_Order_l61, sz, List.length_replicate, Int.toNat_natCast, if_neg (by omega)]
  congr 1
  refine List.ext_getElem (by rw [hv, iota_len]) fun j h1 h2 => ?_
  rw [hb j h1 (by omega)]
  simp [iota]
 | succ n ih =>
  intro i v hn hi hv hb
  rw [bidi_Order_l61, sz, List.length_replicate, Int.toNat_natCast, if_pos (by omega), if_pos ⟨by omega, by omega⟩, w64_id (n := (i : Int) + 1) (by omega) (by omega), add1, Int.toNat_natCast]
  refine ih (i + 1) _ (by omega) (by omega) (by rw [List.length_set]; exact hv) fun j h hj => ?_
  rw [List.getElem_set]
  split
  ·omega
  ·exact hb j (by rw [List.length_set] at h; exact h) (by omega)
theorem rev_loop (a : List Int) (ha : a.length ≤ 1000000) : ∀ (n i j : Nat) (v : List Int), j - i = n → i ≤ a.length → j ≤ a.length → v.length = a.length → ∃ v', slices_Reverse_int_k1_l34 a v (i : Int) ((j : Int) - 1) = some v' ∧ v'.Perm v := by
 intro n
 induction n using Nat.strongRecOn with
 | _ n ih =>
  intro i j v hn hi hj hv
  rw [slices_Reverse_int_k1_l34]
  by_cases h : (i : Int) < (j : Int) - 1
  ·have b1 : (0 : Int) ≤ (i : Int) ∧ (i : Int) < (a.length : Int) := ⟨by omega, by omega⟩
   have b2 : (0 : Int) ≤ (j : Int) - 1 ∧ (j : Int) - 1 < (a.length : Int) := ⟨by omega, by omega⟩
   have e1 : Int.toNat ((j : Int) - 1) = j - 1 := by omega
   have hi' : i < v.length := by omega
   have hj' : j - 1 < v.length := by omega
   have e2 : v.getD i (0 : Int) = v[i] := by simp [List.getD_eq_getElem?_getD, hi']
   have e3 : v.getD (j - 1) (0 : Int) = v[j - 1] := by simp [List.getD_eq_getElem?_getD, hj']
   have e4 : w64 ((j : Int) - 1 - 1) = ((j - 1 : Nat) : Int) - 1 := by rw [w64_id (by omega) (by omega)]; omega
   have e5 : w64 ((i : Int) + 1) = ((i + 1 : Nat) : Int) := by rw [w64_id (by omega) (by omega)]; omega
   rw [if_pos h]
   simp only [if_pos b1, if_pos b2, e1, Int.toNat_natCast, e2, e3, e4, e5]
   obtain ⟨v', h1, h2⟩ := ih _ (by omega) (i + 1) (j - 1) ((v.set i v[j - 1]).set (j - 1) v[i]) rfl (by omega) (by omega) (by simp [hv])
   exact ⟨v', h1, h2.trans (List.set_set_perm hi' hj')⟩
  ·rw [if_neg h]; exact ⟨v, rfl, List.Perm.refl _⟩
theorem rev_mk (a : List Int) (ha : a.length ≤ 1000000) : ∃ v, slices_Reverse_int_k1 a = some v ∧ v.Perm a := by
 obtain ⟨v, h1, h2⟩ := rev_loop a ha _ 0 a.length a rfl (Nat.zero_le _) (Nat.le_refl _) rfl
 have h1' : slices_Reverse_int_k1_l34 a a 0 ((a.length : Int) - 1) = some v := h1
 refine ⟨v, ?_, h2⟩
 unfold slices_Reverse_int_k1
 rw [w64_id (n := (a.length : Int) - 1) (by omega) (by omega), h1']; rfl
theorem turn_round (n : Nat) (a : List Int) (hn : n ≤ 1000000) (ha : a.length = n) : Keeps (fun v : List Int => v.Perm (iota n)) n (fun (u : List Int) (x : Int × Int) => bidi_turn_k3_r153 a u x.1 x.2) := by
 intro v i k hv hik hk
 have hvl : v.length = n := by rw [hv.length_eq, iota_len]
 have b : (0 : Int) ≤ (i : Int) ∧ ((i : Int) : Int) ≤ (k : Int) ∧ (k : Int) ≤ (a.length : Int) := ⟨by omega, by omega, by omega⟩
 have hc : (cutl v (i : Int) (k : Int)).length = k - i := cutl_len v (by omega) (by omega)
 obtain ⟨w, hw, hp⟩ := rev_mk (cutl v (i : Int) (k : Int)) (by omega)
 simp only
 unfold bidi_turn_k3_r153
 rw [if_pos b, hw]
 refine ⟨_, rfl, List.Perm.trans ?_ hv⟩
 have e : v = List.take i v ++ (cutl v (i : Int) (k : Int) ++ List.drop k v) := by
  unfold cutl
  rw [Int.toNat_natCast, Int.toNat_natCast]
  conv => lhs; rw [← List.take_append_drop k v]
  rw [← List.append_assoc]
  congr 1
  conv => lhs; rw [← List.take_append_drop i (List.take k v)]
  rw [List.take_take, Nat.min_eq_left (by omega)]
 conv => rhs; rw [e]
 rw [Int.toNat_natCast, Int.toNat_natCast]
 exact List.Perm.append_left _ (List.Perm.append_right _ hp)
theorem vis_loop (l : List UInt8) (y : List Int) (hl : y.length ≤ 1000000) (hy : ∀ x ∈ y, 0 ≤ x ∧ x < (l.length : Int)) : ∀ (n i : Nat) (v : List Int), y.length - i = n → i ≤ y.length → v.length = y.length → (∀ j (h : j < v.length) (h' : j < y.length), j < i → v[j] = bt ⟨l.toArray⟩ y[j]) →
  bidi_Visual_l51 ⟨l.toArray⟩ y v (i : Int) = some (y.map fun x => bt ⟨l.toArray⟩ x) := by
 intro n
 induction n with
 | zero =>
  intro i v hn hi hv hb
  rw [bidi_Visual_l51, if_neg (by omega)]
  congr 1
  refine List.ext_getElem (by simp [hv]) fun j h1 h2 => ?_
  rw [hb j h1 (by omega) (by omega)]
  simp
 | succ n ih =>
  intro i v hn hi hv hb
  have hlt : i < y.length := by omega
  have e0 : y.getD (Int.toNat (i : Int)) 0 = y[i] := by simp [List.getD_eq_getElem?_getD, hlt]
  have b := hy _ (List.getElem_mem hlt)
  rw [bidi_Visual_l51, if_pos (by omega), if_pos ⟨by omega, by omega⟩, e0, sz, if_pos b, List.length_replicate, Int.toNat_natCast, if_pos ⟨by omega, by omega⟩, w64_id (n := (i : Int) + 1) (by omega) (by omega), add1, Int.toNat_natCast]
  refine ih (i + 1) _ (by omega) (by omega) (by rw [List.length_set]; exact hv) fun j h h' hj => ?_
  rw [List.getElem_set]
  split
  ·rename_i e; subst e; rfl
  ·exact hb j (by rw [List.length_set] at h; exact h) h' (by omega)
end Go.Proofs.YtokeiiakkfdmgaaGreatDoor.LG
