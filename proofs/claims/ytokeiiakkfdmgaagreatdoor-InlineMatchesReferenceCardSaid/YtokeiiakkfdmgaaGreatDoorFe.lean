/-
 Fonts: what the package finds by halving is what the reference finds by going through. Plain Lean; no program in sight.
-/
import Derived.Test.YtokeiiakkfdmgaaGreatDoorFl
set_option linter.unusedVariables false
set_option linter.unusedSimpArgs false
set_option maxRecDepth 100000
namespace Go.Proofs.YtokeiiakkfdmgaaGreatDoor.LG
open Go Go.LG Go.Lib

theorem getD_at {α : Type} (l : List α) (d : α) {i : Nat} (h : i < l.length) : l.getD (Int.toNat (i : Int)) d = l[i] := by
 simp [List.getD_eq_getElem?_getD, h]
def Inc (gs : List api_Glyph) : Prop := ∀ i j (hi : i < gs.length) (hj : j < gs.length), i < j → (gs[i]).Byte < (gs[j]).Byte
theorem bs_glyph (l : List api_Glyph) (b : Int) (hl : l.length ≤ 1000000) (hI : Inc l) : ∀ (n i j : Nat), j - i = n → i ≤ j → j ≤ l.length →
  (∀ k (h : k < l.length), k < i → (l[k]).Byte < b) → (∀ k (h : k < l.length), j ≤ k → b ≤ (l[k]).Byte) →
  ∃ r : Nat, slices_BinarySearchFunc_byte_k1_l27 l b (i : Int) (j : Int) = some (r : Int) ∧ r ≤ l.length ∧ (∀ k (h : k < l.length), k < r → (l[k]).Byte < b) ∧ (∀ k (h : k < l.length), r ≤ k → b ≤ (l[k]).Byte) := by
 intro n
 induction n using Nat.strongRecOn with
 | _ n ih =>
  intro i j hn h1 h2 hlo hhi
  rw [slices_BinarySearchFunc_byte_k1_l27]
  by_cases h : i < j
  ·have em : ((i : Int) + (j : Int)) / 2 = (((i + j) / 2 : Nat) : Int) := by omega
   have hm : (i + j) / 2 < l.length := by omega
   have e : w64 ((((i + j) / 2 : Nat) : Int) + 1) = (((i + j) / 2 + 1 : Nat) : Int) := by rw [w64_id (by omega) (by omega)]; omega
   rw [if_pos (by omega), mid_eq (by omega) (by omega) (by omega), em, if_pos ⟨by omega, by omega⟩, glyph_1_eq, some_bind, getD_at l _ hm, e]
   by_cases hc : (l[(i + j) / 2]).Byte < b
   ·rw [if_pos (by rw [if_pos hc]; decide)]
    refine ih _ (by omega) _ _ rfl (by omega) h2 (fun k hk hki => ?_) hhi
    rcases Nat.lt_or_ge k ((i + j) / 2) with h' | h'
    ·have := hI k _ hk hm h'; omega
    ·have : k = (i + j) / 2 := by omega
     subst this; exact hc
   ·rw [if_neg (by rw [if_neg hc]; split <;> decide)]
    refine ih _ (by omega) _ _ rfl (by omega) (by omega) hlo (fun k hk hki => ?_)
    rcases Nat.lt_or_ge ((i + j) / 2) k with h' | h'
    ·have := hI _ k hm hk h'; omega
    ·have : k = (i + j) / 2 := by omega
     subst this; omega
  ·rw [if_neg (by omega)]
   have : i = j := by omega
   subst this
   exact ⟨i, rfl, h2, hlo, hhi⟩
def gof (gs : List api_Glyph) (b : Int) : Option api_Glyph := gs.find? fun g => decide (g.Byte = b)
theorem find_some {α : Type} {p : α → Bool} : ∀ {l : List α} (r : Nat) (h : r < l.length), p l[r] = true → (∀ k (h : k < l.length), k < r → p l[k] = false) → l.find? p = some l[r]
 | x :: l, 0, h, hp, _ => by
  have : p x = true := hp
  simp [List.find?_cons, this]
 | x :: l, r + 1, h, hp, hn => by
  have : p x = false := hn 0 (by simp) (by omega)
  rw [List.find?_cons, this]
  exact find_some r (by simpa using h) (by simpa using hp) fun k hk hkr => by
   have := hn (k + 1) (by simpa using hk) (by omega)
   simpa using this
theorem find_no {α : Type} {p : α → Bool} {l : List α} (hn : ∀ k (h : k < l.length), p l[k] = false) : l.find? p = none := by
 rw [List.find?_eq_none]
 intro x hx
 obtain ⟨k, hk, rfl⟩ := List.getElem_of_mem hx
 rw [hn k hk]; decide
theorem glyph_mk {f : api_Font} (hf : f.Glyphs.length ≤ 1000000) (hI : Inc f.Glyphs) (b : Int) :
  font_glyph f b = some (match gof f.Glyphs b with | some g => (g, true) | none => (⟨0, 0⟩, false)) := by
 obtain ⟨r, hr, hle, hlo, hhi⟩ := bs_glyph f.Glyphs b hf hI _ 0 f.Glyphs.length rfl (Nat.zero_le _) (Nat.le_refl _) (fun k _ h => by omega) (fun k h h' => by omega)
 have hr' : slices_BinarySearchFunc_byte_k1_l27 f.Glyphs b 0 (f.Glyphs.length : Int) = some (r : Int) := hr
 unfold font_glyph font_find_byte_k1 slices_BinarySearchFunc_byte_k1
 rw [hr', some_bind]
 by_cases h : r < f.Glyphs.length
 ·rw [if_pos (by omega), if_pos ⟨by omega, by omega⟩, glyph_1_eq, getD_at _ _ h]
  simp only [some_bind]
  by_cases hb : (f.Glyphs[r]).Byte = b
  ·have e : gof f.Glyphs b = some f.Glyphs[r] := find_some r h (by simpa using hb) fun k hk hkr => by have := hlo k hk hkr; simp; omega
   rw [e]
   have h3 : (if (f.Glyphs[r]).Byte < b then (-1 : Int) else if b < (f.Glyphs[r]).Byte then 1 else 0) = 0 := by rw [if_neg (by omega), if_neg (by omega)]
   rw [h3]
   simp [h]
  ·have e : gof f.Glyphs b = none := find_no fun k hk => by
    rcases Nat.lt_or_ge k r with h' | h'
    ·have := hlo k hk h'; simp; omega
    ·have h0 := hhi r h (Nat.le_refl _)
     have : (f.Glyphs[r]).Byte ≤ (f.Glyphs[k]).Byte := by
      rcases Nat.lt_or_ge r k with h'' | h''
      ·have := hI r k h hk h''; omega
      ·have : k = r := by omega
       subst this; omega
     simp; omega
   rw [e]
   have h3 : ¬ (if (f.Glyphs[r]).Byte < b then (-1 : Int) else if b < (f.Glyphs[r]).Byte then 1 else 0) = 0 := by
    split
    ·decide
    ·split
     ·decide
     ·omega
   simp [h3]
 ·have e : gof f.Glyphs b = none := find_no fun k hk => by have := hlo k hk (by omega); simp; omega
  rw [if_neg (by omega), e]
  simp
theorem rglyph_loop2 (f : api_Font) (c : Int) (hf : f.Glyphs.length ≤ 1000000) : ∀ (n i : Nat), f.Glyphs.length - i = n → (∀ k (h : k < f.Glyphs.length), k < i → (f.Glyphs[k]).Byte ≠ c) →
  (gof f.Glyphs c = none ∧ formeref07_Glyph_l31 f c (i : Int) = some (.inr ())) ∨ (∃ k : Nat, ∃ h : k < f.Glyphs.length, gof f.Glyphs c = some f.Glyphs[k] ∧ formeref07_Glyph_l31 f c (i : Int) = some (.inl (k : Int))) := by
 intro n
 induction n with
 | zero =>
  intro i hn hb
  rw [formeref07_Glyph_l31, if_neg (by omega)]
  exact .inl ⟨find_no fun k hk => by have := hb k hk (by omega); simpa using this, rfl⟩
 | succ n ih =>
  intro i hn hb
  have hi : i < f.Glyphs.length := by omega
  rw [formeref07_Glyph_l31, if_pos (by omega), if_pos ⟨by omega, by omega⟩, getD_at _ _ hi, w64_id (n := (i : Int) + 1) (by omega) (by omega), add1]
  by_cases h : (f.Glyphs[i]).Byte = c
  ·rw [if_pos h]
   exact .inr ⟨i, hi, find_some i hi (by simpa using h) fun k hk hki => by have := hb k hk hki; simpa using this, rfl⟩
  ·rw [if_neg h]
   exact ih (i + 1) (by omega) fun k hk hki => by
    rcases Nat.lt_or_ge k i with h' | h'
    ·exact hb k hk h'
    ·have : k = i := by omega
     subst this; exact h
theorem rglyph_mk (f : api_Font) (c : Int) (hf : f.Glyphs.length ≤ 1000000) :
  (gof f.Glyphs c = none ∧ formeref07_Glyph f c = some (-1)) ∨ (∃ k : Nat, ∃ h : k < f.Glyphs.length, gof f.Glyphs c = some f.Glyphs[k] ∧ formeref07_Glyph f c = some (k : Int)) := by
 have h0 := rglyph_loop2 f c hf _ 0 rfl (fun k _ h => by omega)
 unfold formeref07_Glyph
 rcases h0 with ⟨h1, h2⟩ | ⟨k, hk, h1, h2⟩
 ·have h2' : formeref07_Glyph_l31 f c 0 = some (.inr ()) := h2
  exact .inl ⟨h1, by rw [h2']; rfl⟩
 ·have h2' : formeref07_Glyph_l31 f c 0 = some (.inl (k : Int)) := h2
  exact .inr ⟨k, hk, h1, by rw [h2']; rfl⟩
def gk (gs : List api_Glyph) (i : Nat) : api_Glyph := gs.getD i z_api_Glyph
theorem gk_at (gs : List api_Glyph) {i : Nat} (h : i < gs.length) : gs[i] = gk gs i := by simp [gk, List.getD_eq_getElem?_getD, h]
def gok (gs : List api_Glyph) (i : Nat) : Prop := 32 ≤ (gk gs i).Byte ∧ (gk gs i).Byte ≤ 125 ∧ 0 ≤ (gk gs i).Advance ∧ (gk gs i).Advance ≤ 1000 ∧ (0 < i → (gk gs (i - 1)).Byte < (gk gs i).Byte)
instance {gs : List api_Glyph} {i : Nat} : Decidable (gok gs i) := by unfold gok; infer_instance
theorem g_test (f : api_Font) (hf : f.Glyphs.length ≤ 1000000) {i : Nat} (hi : i < f.Glyphs.length) (c1 : Prop) [Decidable c1] (hc : c1 ↔ 125 < (gk f.Glyphs i).Byte) :
  (if ((f.Glyphs.getD (Int.toNat (i : Int)) z_api_Glyph).Byte) < 32 then some true else (if c1 then some true else (if ((f.Glyphs.getD (Int.toNat (i : Int)) z_api_Glyph).Advance) < 0 then some true else (if 1000 < ((f.Glyphs.getD (Int.toNat (i : Int)) z_api_Glyph).Advance) then some true else (if 0 < (i : Int) then (if (0 : Int) ≤ w64 ((i : Int) - 1) ∧ w64 ((i : Int) - 1) < (f.Glyphs.length : Int) then some (decide (((f.Glyphs.getD (Int.toNat (i : Int)) z_api_Glyph).Byte) ≤ ((f.Glyphs.getD (Int.toNat (w64 ((i : Int) - 1))) z_api_Glyph).Byte))) else none) else some false))))) = some (!decide (gok f.Glyphs i)) := by
 have e1 : w64 ((i : Int) - 1) = (i : Int) - 1 := w64_id (by omega) (by omega)
 have e0 : f.Glyphs.getD (Int.toNat (i : Int)) z_api_Glyph = gk f.Glyphs i := rfl
 rw [e0, e1]
 unfold gok
 by_cases h1 : (gk f.Glyphs i).Byte < 32
 ·have : ¬ 32 ≤ (gk f.Glyphs i).Byte := by omega
  simp [h1, this]
 ·by_cases h2 : c1
  ·have := hc.1 h2
   have : ¬ (gk f.Glyphs i).Byte ≤ 125 := by omega
   simp [h1, h2, this]
  ·have h2' : ¬ 125 < (gk f.Glyphs i).Byte := fun h => h2 (hc.2 h)
   by_cases h3 : (gk f.Glyphs i).Advance < 0
   ·have : ¬ 0 ≤ (gk f.Glyphs i).Advance := by omega
    simp [h1, h2, h3, this]
   ·by_cases h4 : 1000 < (gk f.Glyphs i).Advance
    ·have : ¬ (gk f.Glyphs i).Advance ≤ 1000 := by omega
     simp [h1, h2, h3, h4, this]
    ·have k1 : 32 ≤ (gk f.Glyphs i).Byte := by omega
     have k2 : (gk f.Glyphs i).Byte ≤ 125 := by omega
     have k3 : 0 ≤ (gk f.Glyphs i).Advance := by omega
     have k4 : (gk f.Glyphs i).Advance ≤ 1000 := by omega
     rw [if_neg h1, if_neg h2, if_neg h3, if_neg h4]
     by_cases h5 : 0 < i
     ·have e2 : f.Glyphs.getD (Int.toNat ((i : Int) - 1)) z_api_Glyph = gk f.Glyphs (i - 1) := by rw [show Int.toNat ((i : Int) - 1) = i - 1 by omega]; rfl
      rw [if_pos (by omega), if_pos ⟨by omega, by omega⟩, e2]
      by_cases h6 : (gk f.Glyphs i).Byte ≤ (gk f.Glyphs (i - 1)).Byte
      ·have : ¬ (gk f.Glyphs (i - 1)).Byte < (gk f.Glyphs i).Byte := by omega
       simp [h5, h6, this]
      ·have : (gk f.Glyphs (i - 1)).Byte < (gk f.Glyphs i).Byte := by omega
       simp [k1, k2, k3, k4, h5, h6, this]
     ·rw [if_neg (by omega)]
      simp [k1, k2, k3, k4, h5]
theorem v45 (f : api_Font) (hf : f.Glyphs.length ≤ 1000000) : ∀ (n i : Nat), f.Glyphs.length - i = n → i ≤ f.Glyphs.length →
  ∃ o, font_Valid_l45 f (i : Int) = some o ∧ formeref07_Valid_l45 f (i : Int) = some o ∧ (o = .inr () → ∀ k, i ≤ k → k < f.Glyphs.length → gok f.Glyphs k) := by
 intro n
 induction n with
 | zero =>
  intro i hn hi
  rw [font_Valid_l45, formeref07_Valid_l45, if_neg (by omega), if_neg (by omega)]
  exact ⟨_, rfl, rfl, fun _ k hk h => by omega⟩
 | succ n ih =>
  intro i hn hi
  have hi' : i < f.Glyphs.length := by omega
  have t1 := g_test f hf hi' (126 ≤ ((f.Glyphs.getD (Int.toNat (i : Int)) z_api_Glyph).Byte)) (show 126 ≤ (gk f.Glyphs i).Byte ↔ _ by omega)
  have t2 := g_test f hf hi' (125 < ((f.Glyphs.getD (Int.toNat (i : Int)) z_api_Glyph).Byte)) Iff.rfl
  have e1 : font_Valid_l45 f (i : Int) = if (!decide (gok f.Glyphs i)) = true then some (.inl ()) else font_Valid_l45 f ((i + 1 : Nat) : Int) := by
   conv => lhs; rw [font_Valid_l45]
   rw [if_pos (by omega), if_pos ⟨by omega, by omega⟩, w64_id (n := (i : Int) + 1) (by omega) (by omega), add1, t1, some_bind]
  have e2 : formeref07_Valid_l45 f (i : Int) = if (!decide (gok f.Glyphs i)) = true then some (.inl ()) else formeref07_Valid_l45 f ((i + 1 : Nat) : Int) := by
   conv => lhs; rw [formeref07_Valid_l45]
   rw [if_pos (by omega), if_pos ⟨by omega, by omega⟩, w64_id (n := (i : Int) + 1) (by omega) (by omega), add1, t2, some_bind]
  rw [e1, e2]
  by_cases h : gok f.Glyphs i
  ·rw [if_neg (by simpa using h), if_neg (by simpa using h)]
   obtain ⟨o, h1, h2, h3⟩ := ih (i + 1) (by omega) (by omega)
   refine ⟨o, h1, h2, fun ho k hk hl => ?_⟩
   rcases Nat.lt_or_ge i k with h' | h'
   ·exact h3 ho k (by omega) hl
   ·have : k = i := by omega
    subst this; exact h
  ·rw [if_pos (by simpa using h), if_pos (by simpa using h)]
   exact ⟨_, rfl, rfl, fun h => by cases h⟩
theorem inc_of {gs : List api_Glyph} (h : ∀ k, k < gs.length → gok gs k) : Inc gs := by
 intro i j hi hj hij
 rw [gk_at gs hi, gk_at gs hj]
 induction j with
 | zero => omega
 | succ j ih =>
  have h1 := (h (j + 1) hj).2.2.2.2 (by omega)
  have h2 : j + 1 - 1 = j := rfl
  rw [h2] at h1
  rcases Nat.lt_or_ge i j with h' | h'
  ·have := ih (by omega) h'; omega
  ·have : i = j := by omega
   subst this; exact h1
def kk (ks : List api_Kern) (i : Nat) : api_Kern := ks.getD i z_api_Kern
theorem kk_at (ks : List api_Kern) {i : Nat} (h : i < ks.length) : ks[i] = kk ks i := by simp [kk, List.getD_eq_getElem?_getD, h]
theorem order_mk (k : api_Kern) (p : font_pair) : font_order k p = some (if k.Left < p.left then -1 else if p.left < k.Left then 1 else if k.Right < p.right then -1 else if p.right < k.Right then 1 else 0) := by
 unfold font_order
 rw [cmp_byte, cmp_byte, some_bind, some_bind, or2, some_bind]
 congr 1
 by_cases h1 : k.Left < p.left
 ·simp [h1]
 ·by_cases h2 : p.left < k.Left
  ·simp [h1, h2]
  ·simp [h1, h2]
def krn (f : api_Font) (i : Nat) : Prop := (∃ g, gof f.Glyphs (kk f.Kerns i).Left = some g ∧ 0 ≤ g.Advance + (kk f.Kerns i).By) ∧ (gof f.Glyphs (kk f.Kerns i).Right).isSome = true ∧ (kk f.Kerns i).By ≤ 1000 ∧
 (0 < i → (kk f.Kerns (i - 1)).Left < (kk f.Kerns i).Left ∨ (kk f.Kerns (i - 1)).Left = (kk f.Kerns i).Left ∧ (kk f.Kerns (i - 1)).Right < (kk f.Kerns i).Right)
theorem gof_mem {gs : List api_Glyph} {b : Int} {g : api_Glyph} (h : gof gs b = some g) : g ∈ gs ∧ g.Byte = b := by
 unfold gof at h
 exact ⟨List.mem_of_find?_eq_some h, by simpa using List.find?_some h⟩
theorem gof_ok {gs : List api_Glyph} (hg : ∀ k, k < gs.length → gok gs k) {b : Int} {g : api_Glyph} (h : gof gs b = some g) : 32 ≤ b ∧ b ≤ 125 ∧ 0 ≤ g.Advance ∧ g.Advance ≤ 1000 := by
 obtain ⟨hm, hb⟩ := gof_mem h
 obtain ⟨k, hk, rfl⟩ := List.getElem_of_mem hm
 have := hg k hk
 rw [gk_at gs hk] at *
 unfold gok at this
 omega
open Classical in
theorem k_step (f : api_Font) (hf : Sm f) (hg : ∀ k, k < f.Glyphs.length → gok f.Glyphs k) {i : Nat} (hi : i < f.Kerns.length) :
  font_Valid_l124 f (i : Int) = if krn f i then font_Valid_l124 f ((i + 1 : Nat) : Int) else some (.inl ()) := by
 have hk1 := hf.1
 have hk2 := hf.2
 have hI := inc_of hg
 have e1 : w64 ((i : Int) - 1) = (i : Int) - 1 := w64_id (by omega) (by omega)
 have e0 : f.Kerns.getD (Int.toNat (i : Int)) z_api_Kern = kk f.Kerns i := rfl
 conv => lhs; rw [font_Valid_l124]
 rw [if_pos (by omega), if_pos ⟨by omega, by omega⟩, w64_id (n := (i : Int) + 1) (by omega) (by omega), add1, e0, glyph_mk hf.1 hI, glyph_mk hf.1 hI, some_bind]
 cases hL : gof f.Glyphs (kk f.Kerns i).Left with
 | none =>
  have : ¬ krn f i := fun h => by obtain ⟨g, hg', _⟩ := h.1; rw [hL] at hg'; cases hg'
  rw [if_neg this]
  simp
 | some g =>
  have hgo := gof_ok hg hL
  cases hR : gof f.Glyphs (kk f.Kerns i).Right with
  | none =>
   have : ¬ krn f i := fun h => by have := h.2.1; rw [hR] at this; cases this
   rw [if_neg this]
   simp
  | some g2 =>
   have e3 : w64 (0 - g.Advance) = 0 - g.Advance := w64_id (by omega) (by omega)
   simp only [Bool.not_true, Bool.false_eq_true, if_false, some_bind, e3]
   by_cases h1 : 1000 < (kk f.Kerns i).By
   ·have : ¬ krn f i := fun h => by have := h.2.2.1; omega
    rw [if_neg this]
    simp [h1]
   ·by_cases h2 : (kk f.Kerns i).By < 0 - g.Advance
    ·have : ¬ krn f i := fun h => by obtain ⟨g', hg', h'⟩ := h.1; rw [hL] at hg'; cases hg'; omega
     rw [if_neg this, if_neg (by simpa using h1), some_bind, decide_eq_true h2]
     rfl
    ·simp only [h1, h2, decide_false, Bool.false_eq_true, if_false, some_bind]
     by_cases h5 : 0 < i
     ·have e2 : f.Kerns.getD (Int.toNat ((i : Int) - 1)) z_api_Kern = kk f.Kerns (i - 1) := by rw [show Int.toNat ((i : Int) - 1) = i - 1 by omega]; rfl
      rw [if_pos (show (0 : Int) < (i : Int) by omega), e1, if_pos ⟨by omega, by omega⟩, e2, order_mk]
      show (((some (decide (0 ≤ _)))) >>= _) = _
      rw [some_bind]
      by_cases h6 : (kk f.Kerns (i - 1)).Left < (kk f.Kerns i).Left ∨ (kk f.Kerns (i - 1)).Left = (kk f.Kerns i).Left ∧ (kk f.Kerns (i - 1)).Right < (kk f.Kerns i).Right
      ·have hk : krn f i := ⟨⟨g, hL, by omega⟩, by rw [hR]; rfl, by omega, fun _ => h6⟩
       rw [if_pos hk]
       rcases h6 with h | ⟨h, h'⟩
       ·simp [h]
       ·simp [h, h']
      ·have hk : ¬ krn f i := fun h => h6 (h.2.2.2 h5)
       rw [if_neg hk]
       have a1 : ¬ (kk f.Kerns (i - 1)).Left < (kk f.Kerns i).Left := by omega
       by_cases a2 : (kk f.Kerns i).Left < (kk f.Kerns (i - 1)).Left
       ·simp [a1, a2]
       ·have a3 : ¬ (kk f.Kerns (i - 1)).Right < (kk f.Kerns i).Right := by omega
        by_cases a4 : (kk f.Kerns i).Right < (kk f.Kerns (i - 1)).Right
        ·simp [a1, a2, a3, a4]
        ·simp [a1, a2, a3, a4]
     ·have hk : krn f i := ⟨⟨g, hL, by omega⟩, by rw [hR]; rfl, by omega, fun h => absurd h h5⟩
      rw [if_pos hk, if_neg (by omega)]
      simp
open Classical in
theorem k_step2 (f : api_Font) (hf : Sm f) (hg : ∀ k, k < f.Glyphs.length → gok f.Glyphs k) {i : Nat} (hi : i < f.Kerns.length) :
  formeref07_Valid_l124 f (i : Int) = if krn f i then formeref07_Valid_l124 f ((i + 1 : Nat) : Int) else some (.inl ()) := by
 have hk1 := hf.1
 have hk2 := hf.2
 have e1 : w64 ((i : Int) - 1) = (i : Int) - 1 := w64_id (by omega) (by omega)
 have e0 : f.Kerns.getD (Int.toNat (i : Int)) z_api_Kern = kk f.Kerns i := rfl
 conv => lhs; rw [formeref07_Valid_l124]
 rw [if_pos (by omega), if_pos ⟨by omega, by omega⟩, w64_id (n := (i : Int) + 1) (by omega) (by omega), add1, e0]
 rcases rglyph_mk f (kk f.Kerns i).Left hf.1 with ⟨hL, hl⟩ | ⟨x, hx, hL, hl⟩
 ·have : ¬ krn f i := fun h => by obtain ⟨g, hg', _⟩ := h.1; rw [hL] at hg'; cases hg'
  rw [if_neg this, hl]
  obtain ⟨v, hv, _⟩ := rglyph_tot f (kk f.Kerns i).Right hf.1
  rw [hv]
  simp
 ·rw [hl]
  rcases rglyph_mk f (kk f.Kerns i).Right hf.1 with ⟨hR, hr⟩ | ⟨y, hy, hR, hr⟩
  ·have : ¬ krn f i := fun h => by have := h.2.1; rw [hR] at this; cases this
   rw [if_neg this, hr]
   have : ¬ ((x : Int) < 0) := by omega
   simp [this]
  ·rw [hr]
   have hgo := gof_ok hg hL
   have x0 : ¬ ((x : Int) < 0) := by omega
   have y0 : ¬ ((y : Int) < 0) := by omega
   simp only [some_bind, x0, y0, if_false]
   by_cases h0 : (kk f.Kerns i).By < -1000
   ·have : ¬ krn f i := fun h => by obtain ⟨g', hg', h'⟩ := h.1; rw [hL] at hg'; cases hg'; omega
    rw [if_neg this]
    simp [h0]
   ·by_cases h1 : 1000 < (kk f.Kerns i).By
    ·have : ¬ krn f i := fun h => by have := h.2.2.1; omega
     rw [if_neg this]
     simp [h0, h1]
    ·have e5 : f.Glyphs.getD (Int.toNat (x : Int)) z_api_Glyph = f.Glyphs[x] := getD_at _ _ hx
     have e6 : w64 ((f.Glyphs[x]).Advance + (kk f.Kerns i).By) = (f.Glyphs[x]).Advance + (kk f.Kerns i).By := w64_id (by omega) (by omega)
     rw [if_neg h0, if_neg h1, if_pos ⟨by omega, by omega⟩, e5, e6, some_bind]
     by_cases h2 : (f.Glyphs[x]).Advance + (kk f.Kerns i).By < 0
     ·have : ¬ krn f i := fun h => by obtain ⟨g', hg', h'⟩ := h.1; rw [hL] at hg'; cases hg'; omega
      rw [if_neg this, if_pos (by simpa using h2)]
     ·rw [if_neg (by simpa using h2)]
      by_cases h5 : 0 < i
      ·have e2 : f.Kerns.getD (Int.toNat ((i : Int) - 1)) z_api_Kern = kk f.Kerns (i - 1) := by rw [show Int.toNat ((i : Int) - 1) = i - 1 by omega]; rfl
       have hb : (0 : Int) ≤ (i : Int) - 1 ∧ (i : Int) - 1 < (f.Kerns.length : Int) := ⟨by omega, by omega⟩
       rw [if_pos (show (0 : Int) < (i : Int) by omega), e1, e2]
       simp only [if_pos hb]
       by_cases h6 : (kk f.Kerns (i - 1)).Left < (kk f.Kerns i).Left ∨ (kk f.Kerns (i - 1)).Left = (kk f.Kerns i).Left ∧ (kk f.Kerns (i - 1)).Right < (kk f.Kerns i).Right
       ·have hk : krn f i := ⟨⟨_, hL, by omega⟩, by rw [hR]; rfl, by omega, fun _ => h6⟩
        rw [if_pos hk]
        rcases h6 with h | ⟨h, h'⟩
        ·have a1 : ¬ (kk f.Kerns i).Left < (kk f.Kerns (i - 1)).Left := by omega
         have a2 : ¬ (kk f.Kerns i).Left = (kk f.Kerns (i - 1)).Left := by omega
         simp [a1, a2]
        ·have a1 : ¬ (kk f.Kerns i).Left < (kk f.Kerns (i - 1)).Left := by omega
         have a3 : ¬ (kk f.Kerns i).Right ≤ (kk f.Kerns (i - 1)).Right := by omega
         simp [a1, h.symm, a3]
       ·have hk : ¬ krn f i := fun h => h6 (h.2.2.2 h5)
        rw [if_neg hk]
        by_cases a1 : (kk f.Kerns i).Left < (kk f.Kerns (i - 1)).Left
        ·simp [a1]
        ·have a2 : (kk f.Kerns i).Left = (kk f.Kerns (i - 1)).Left := by omega
         have a3 : (kk f.Kerns i).Right ≤ (kk f.Kerns (i - 1)).Right := by omega
         simp [a1, a2, a3]
      ·have hk : krn f i := ⟨⟨_, hL, by omega⟩, by rw [hR]; rfl, by omega, fun h => absurd h h5⟩
       rw [if_pos hk, if_neg (by omega)]
       simp
theorem v124 (f : api_Font) (hf : Sm f) (hg : ∀ k, k < f.Glyphs.length → gok f.Glyphs k) : ∀ (n i : Nat), f.Kerns.length - i = n → i ≤ f.Kerns.length →
  ∃ o, font_Valid_l124 f (i : Int) = some o ∧ formeref07_Valid_l124 f (i : Int) = some o ∧ (o = .inr () → ∀ k, i ≤ k → k < f.Kerns.length → krn f k) := by
 intro n
 induction n with
 | zero =>
  intro i hn hi
  rw [font_Valid_l124, formeref07_Valid_l124, if_neg (by omega), if_neg (by omega)]
  exact ⟨_, rfl, rfl, fun _ k hk h => by omega⟩
 | succ n ih =>
  intro i hn hi
  have hi' : i < f.Kerns.length := by omega
  rw [k_step f hf hg hi', k_step2 f hf hg hi']
  by_cases h : krn f i
  ·rw [if_pos h, if_pos h]
   obtain ⟨o, h1, h2, h3⟩ := ih (i + 1) (by omega) (by omega)
   refine ⟨o, h1, h2, fun ho k hk hl => ?_⟩
   rcases Nat.lt_or_ge i k with h' | h'
   ·exact h3 ho k (by omega) hl
   ·have : k = i := by omega
    subst this; exact h
  ·rw [if_neg h, if_neg h]
   exact ⟨_, rfl, rfl, fun h => by cases h⟩
structure Fok (f : api_Font) : Prop where
 g : ∀ k, k < f.Glyphs.length → gok f.Glyphs k
 k : ∀ k, k < f.Kerns.length → krn f k
 n : f.Glyphs.length ≤ 94 ∧ f.Kerns.length ≤ 200
theorem fvalid_mk (f : api_Font) (hf : Sm f) : ∃ b, font_Valid f = some b ∧ formeref07_Valid f = some b ∧ (b = true → Fok f) := by
 unfold font_Valid formeref07_Valid
 by_cases h1 : 94 < (f.Glyphs.length : Int)
 ·exact ⟨false, by simp [h1], by simp [h1], fun h => by cases h⟩
 ·by_cases h2 : 200 < (f.Kerns.length : Int)
  ·exact ⟨false, by simp [h1, h2], by simp [h1, h2], fun h => by cases h⟩
  ·obtain ⟨o, e1, e2, e3⟩ := v45 f hf.1 _ 0 rfl (Nat.zero_le _)
   have e1' : font_Valid_l45 f 0 = some o := e1
   have e2' : formeref07_Valid_l45 f 0 = some o := e2
   simp only [h1, h2, if_false, decide_false, some_bind, Bool.false_eq_true, e1', e2']
   rcases o with u | u
   ·exact ⟨false, rfl, rfl, fun h => by cases h⟩
   ·have hg := fun k => e3 rfl k (Nat.zero_le _)
    obtain ⟨o, d1, d2, d3⟩ := v124 f hf hg _ 0 rfl (Nat.zero_le _)
    have d1' : font_Valid_l124 f 0 = some o := d1
    have d2' : formeref07_Valid_l124 f 0 = some o := d2
    simp only [d1', d2', some_bind]
    rcases o with u | u
    ·exact ⟨false, rfl, rfl, fun h => by cases h⟩
    ·exact ⟨true, rfl, rfl, fun _ => ⟨hg, fun k => d3 rfl k (Nat.zero_le _), by omega, by omega⟩⟩
end Go.Proofs.YtokeiiakkfdmgaaGreatDoor.LG
