/-
 Fonts: what is asked of them always has an answer. Plain Lean; no program in sight.
-/
import Derived.Test.YtokeiiakkfdmgaaGreatDoorBp
set_option linter.unusedVariables false
set_option linter.unusedSimpArgs false
set_option maxRecDepth 100000
namespace Go.Proofs.YtokeiiakkfdmgaaGreatDoor.LG
open Go Go.LG Go.Lib

theorem mid_eq {i j : Int} (hi : 0 ≤ i) (hj : 0 ≤ j) (h : i + j ≤ 2000000) : w64 (Int.fdiv (IntKind.wrap .u64 (w64 (i + j))) (2 ^ 1)) = (i + j) / 2 := by
 have e1 : w64 (i + j) = i + j := w64_id (by omega) (by omega)
 have e2 : IntKind.wrap .u64 (i + j) = i + j := by
  simp [IntKind.wrap, IntKind.bits, IntKind.signed]
  omega
 rw [e1, e2]
 have e3 : Int.fdiv (i + j) (2 ^ 1) = (i + j) / 2 := by
  rw [Int.fdiv_eq_ediv_of_nonneg _ (by decide)]; rfl
 rw [e3]
 exact w64_id (by omega) (by omega)
theorem cmp_byte (a b : Int) : cmp_Compare_byte a b = some (if a < b then -1 else if b < a then 1 else 0) := by
 unfold cmp_Compare_byte cmp_isNaN_byte
 simp
 split
 ·rfl
 ·split <;> rfl
def Tot {α : Type} (x : Option α) : Prop := ∃ r, x = some r
theorem Tot.val {α : Type} {a : α} : Tot (some a) := ⟨a, rfl⟩
theorem Tot.bind {α β : Type} {x : Option α} {f : α → Option β} (h : Tot x) (k : ∀ a, x = some a → Tot (f a)) : Tot (x >>= f) := by
 obtain ⟨a, ha⟩ := h
 rw [ha, some_bind]; exact k a ha
theorem Tot.ite {α : Type} {c : Prop} [Decidable c] {x y : Option α} (h : c → Tot x) (k : ¬ c → Tot y) : Tot (if c then x else y) := by
 by_cases hc : c
 ·rw [if_pos hc]; exact h hc
 ·rw [if_neg hc]; exact k hc
theorem Tot.sub {α : Type} {c : Prop} [Decidable c] {x : Option α} (hc : c) (h : Tot x) : Tot (if c then x else none) := by rw [if_pos hc]; exact h
theorem glyph_1_eq (g : api_Glyph) (b : Int) : font_glyph_1 g b = some (if g.Byte < b then -1 else if b < g.Byte then 1 else 0) := by
 unfold font_glyph_1
 rw [cmp_byte, some_bind]
theorem bs_byte (l : List api_Glyph) (b : Int) (hl : l.length ≤ 1000000) : ∀ (n : Nat) (i j : Int), (j - i).toNat = n → 0 ≤ i → i ≤ j → j ≤ (l.length : Int) →
  ∃ r : Int, slices_BinarySearchFunc_byte_k1_l27 l b i j = some r ∧ 0 ≤ r ∧ r ≤ (l.length : Int) := by
 intro n
 induction n using Nat.strongRecOn with
 | _ n ih =>
  intro i j hn h0 h1 h2
  rw [slices_BinarySearchFunc_byte_k1_l27]
  by_cases h : i < j
  ·rw [if_pos h, mid_eq h0 (by omega) (by omega), if_pos ⟨by omega, by omega⟩, glyph_1_eq, some_bind]
   have e : w64 ((i + j) / 2 + 1) = (i + j) / 2 + 1 := w64_id (by omega) (by omega)
   rw [e]
   by_cases hc : (if (l.getD (Int.toNat ((i + j) / 2)) z_api_Glyph).Byte < b then (-1 : Int) else if b < (l.getD (Int.toNat ((i + j) / 2)) z_api_Glyph).Byte then 1 else 0) < 0
   ·rw [if_pos hc]
    exact ih _ (by omega) _ _ rfl (by omega) (by omega) h2
   ·rw [if_neg hc]
    exact ih _ (by omega) _ _ rfl h0 (by omega) (by omega)
  ·rw [if_neg h]; exact ⟨i, rfl, h0, by omega⟩
theorem glyph_tot (f : api_Font) (b : Int) (hf : f.Glyphs.length ≤ 1000000) : Tot (font_glyph f b) := by
 obtain ⟨r, hr, h0, h1⟩ := bs_byte f.Glyphs b hf _ 0 _ rfl (Int.le_refl _) (by omega) (Int.le_refl _)
 unfold font_glyph
 refine Tot.bind ?_ fun a _ => Tot.val
 unfold font_find_byte_k1 slices_BinarySearchFunc_byte_k1
 rw [hr, some_bind]
 by_cases h : r < (f.Glyphs.length : Int)
 ·rw [if_pos h, if_pos ⟨h0, h⟩, glyph_1_eq]
  simp only [some_bind]
  exact Tot.ite (fun _ => Tot.val) fun _ => Tot.sub ⟨h0, h⟩ Tot.val
 ·rw [if_neg h]
  simp only [some_bind]
  exact Tot.ite (fun _ => Tot.val) fun hc => absurd rfl hc
theorem or2 (a b : Int) : cmp_Or_int [a, b] = some (if a = 0 then b else a) := by
 unfold cmp_Or_int
 rw [cmp_Or_int_l24]
 have e1 : w64 (0 + 1) = 1 := by decide
 have e2 : w64 (1 + 1) = 2 := by decide
 by_cases ha : a = 0
 ·subst ha
  rw [e1, cmp_Or_int_l24, e2, cmp_Or_int_l24]
  by_cases hb : b = 0
  ·subst hb; rfl
  ·simp [hb]
 ·simp [ha]
theorem order_tot (k : api_Kern) (p : font_pair) : Tot (font_order k p) := by
 unfold font_order cmp_Compare_byte cmp_isNaN_byte
 refine Tot.bind ?_ fun a _ => Tot.bind ?_ fun b _ => Tot.bind ⟨_, or2 a b⟩ fun _ _ => Tot.val
 ·have := cmp_byte k.Left p.left; unfold cmp_Compare_byte cmp_isNaN_byte at this; exact ⟨_, this⟩
 ·have := cmp_byte k.Right p.right; unfold cmp_Compare_byte cmp_isNaN_byte at this; exact ⟨_, this⟩
theorem bs_kern (l : List api_Kern) (p : font_pair) (hl : l.length ≤ 1000000) : ∀ (n : Nat) (i j : Int), (j - i).toNat = n → 0 ≤ i → i ≤ j → j ≤ (l.length : Int) →
  ∃ r : Int, slices_BinarySearchFunc_font_pair_k1_l31 l p i j = some r ∧ 0 ≤ r ∧ r ≤ (l.length : Int) := by
 intro n
 induction n using Nat.strongRecOn with
 | _ n ih =>
  intro i j hn h0 h1 h2
  rw [slices_BinarySearchFunc_font_pair_k1_l31]
  by_cases h : i < j
  ·rw [if_pos h, mid_eq h0 (by omega) (by omega), if_pos ⟨by omega, by omega⟩]
   obtain ⟨y, hy⟩ := order_tot (l.getD (Int.toNat ((i + j) / 2)) z_api_Kern) p
   rw [hy, some_bind]
   have e : w64 ((i + j) / 2 + 1) = (i + j) / 2 + 1 := w64_id (by omega) (by omega)
   rw [e]
   by_cases hc : y < 0
   ·rw [if_pos hc]
    exact ih _ (by omega) _ _ rfl (by omega) (by omega) h2
   ·rw [if_neg hc]
    exact ih _ (by omega) _ _ rfl h0 (by omega) (by omega)
  ·rw [if_neg h]; exact ⟨i, rfl, h0, by omega⟩
theorem find_tot (l : List api_Kern) (p : font_pair) (hl : l.length ≤ 1000000) : Tot (font_find_font_pair_k1 l p) := by
 obtain ⟨r, hr, h0, h1⟩ := bs_kern l p hl _ 0 _ rfl (Int.le_refl _) (by omega) (Int.le_refl _)
 unfold font_find_font_pair_k1 slices_BinarySearchFunc_font_pair_k1
 rw [hr, some_bind]
 by_cases h : r < (l.length : Int)
 ·obtain ⟨y, hy⟩ := order_tot (l.getD (Int.toNat r) z_api_Kern) p
  rw [if_pos h, if_pos ⟨h0, h⟩, hy]
  simp only [some_bind]
  exact Tot.ite (fun _ => Tot.val) fun _ => Tot.sub ⟨h0, h⟩ Tot.val
 ·rw [if_neg h]
  simp only [some_bind]
  exact Tot.ite (fun _ => Tot.val) fun hc => absurd rfl hc
theorem valid45_tot (f : api_Font) (hf : f.Glyphs.length ≤ 1000000) : ∀ (n i : Nat), f.Glyphs.length - i = n → Tot (font_Valid_l45 f (i : Int)) := by
 intro n
 induction n with
 | zero => intro i hn; rw [font_Valid_l45, if_neg (by omega)]; exact Tot.val
 | succ n ih =>
  intro i hn
  rw [font_Valid_l45, if_pos (by omega), if_pos ⟨by omega, by omega⟩, w64_id (n := (i : Int) + 1) (by omega) (by omega)]
  refine Tot.bind ?_ fun _ _ => Tot.ite (fun _ => Tot.val) fun _ => ih (i + 1) (by omega)
  refine Tot.ite (fun _ => Tot.val) fun _ => Tot.ite (fun _ => Tot.val) fun _ => Tot.ite (fun _ => Tot.val) fun _ => Tot.ite (fun _ => Tot.val) fun _ => Tot.ite (fun h => ?_) fun _ => Tot.val
  rw [w64_id (n := (i : Int) - 1) (by omega) (by omega)]
  exact Tot.sub ⟨by omega, by omega⟩ Tot.val
theorem valid124_tot (f : api_Font) (hf : f.Glyphs.length ≤ 1000000) (hk : f.Kerns.length ≤ 1000000) : ∀ (n i : Nat), f.Kerns.length - i = n → Tot (font_Valid_l124 f (i : Int)) := by
 intro n
 induction n with
 | zero => intro i hn; rw [font_Valid_l124, if_neg (by omega)]; exact Tot.val
 | succ n ih =>
  intro i hn
  rw [font_Valid_l124, if_pos (by omega), if_pos ⟨by omega, by omega⟩, w64_id (n := (i : Int) + 1) (by omega) (by omega)]
  refine Tot.bind (glyph_tot f _ hf) fun a _ => Tot.bind (glyph_tot f _ hf) fun b _ => Tot.bind (Tot.ite (fun _ => Tot.val) fun _ => Tot.val) fun _ _ => Tot.bind (Tot.ite (fun _ => Tot.val) fun _ => Tot.val) fun _ _ => Tot.bind (Tot.ite (fun _ => Tot.val) fun _ => Tot.val) fun _ _ => ?_
  refine Tot.ite (fun _ => Tot.val) fun _ => Tot.bind ?_ fun _ _ => Tot.ite (fun _ => Tot.val) fun _ => ih (i + 1) (by omega)
  refine Tot.ite (fun h => ?_) fun _ => Tot.val
  rw [w64_id (n := (i : Int) - 1) (by omega) (by omega)]
  exact Tot.sub ⟨by omega, by omega⟩ (Tot.bind (order_tot _ _) fun _ _ => Tot.val)
theorem fvalid_tot (f : api_Font) (hf : f.Glyphs.length ≤ 1000000) (hk : f.Kerns.length ≤ 1000000) : Tot (font_Valid f) := by
 unfold font_Valid
 refine Tot.bind (Tot.ite (fun _ => Tot.val) fun _ => Tot.val) fun _ _ => Tot.ite (fun _ => Tot.val) fun _ => Tot.bind (valid45_tot f hf _ 0 rfl) fun o _ => ?_
 cases o
 ·exact Tot.val
 ·refine Tot.bind (valid124_tot f hf hk _ 0 rfl) fun o _ => ?_
  cases o <;> exact Tot.val
end Go.Proofs.YtokeiiakkfdmgaaGreatDoor.LG
