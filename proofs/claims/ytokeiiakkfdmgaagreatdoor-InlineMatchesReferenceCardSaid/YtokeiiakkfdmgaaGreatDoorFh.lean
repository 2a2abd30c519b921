/-
 Which texts a font has, and how wide they are; what breaks a text into lines, told exactly. Plain Lean; no program in sight.
-/
import Derived.Test.YtokeiiakkfdmgaaGreatDoorFe
import Derived.Test.YtokeiiakkfdmgaaGreatDoorAl
set_option linter.unusedVariables false
set_option linter.unusedSimpArgs false
set_option maxRecDepth 100000
namespace Go.Proofs.YtokeiiakkfdmgaaGreatDoor.LG
open Go Go.LG Go.Lib

def hasG (f : api_Font) (l : List UInt8) : Bool := l.all fun b => decide (b.toNat = 126) || (gof f.Glyphs (b.toNat : Int)).isSome
theorem has_loop2 (f : api_Font) (hf : Sm f) (F : Fok f) (l : List UInt8) (hl : ∀ b ∈ l, 32 ≤ b.toNat ∧ b.toNat ≤ 126) : ∀ (n i : Nat), l.length - i = n → i ≤ l.length →
  ∃ o, font_Has_l62 f ⟨l.toArray⟩ i = some o ∧ (hasG f (l.drop i) = true → ∃ k, o = .inr k) ∧ (hasG f (l.drop i) = false → ∃ k, o = .inl k) := by
 intro n
 induction n with
 | zero =>
  intro i hn hi
  rw [font_Has_l62, sz, if_neg (by omega), List.drop_eq_nil_of_le (by omega)]
  exact ⟨_, rfl, fun _ => ⟨_, rfl⟩, fun h => by cases h⟩
 | succ n ih =>
  intro i hn hi
  have hlt : i < l.length := by omega
  have hb := hl _ (List.getElem_mem hlt)
  have e1 : wu8 ((l[i].toNat : Nat) : Int) = ((l[i].toNat : Nat) : Int) := wu8_id (by omega) (by omega)
  have hd : hasG f (l.drop i) = ((decide (l[i].toNat = 126) || (gof f.Glyphs (l[i].toNat : Int)).isSome) && hasG f (l.drop (i + 1))) := by
   rw [List.drop_eq_getElem_cons hlt]; rfl
  obtain ⟨o, h1, h2, h3⟩ := ih (i + 1) (by omega) (by omega)
  rw [font_Has_l62, sz, if_pos hlt, decode_small l hlt (by omega)]
  simp only [e1]
  rw [glyph_mk hf.1 (inc_of F.g), hd]
  by_cases h126 : l[i].toNat = 126
  ·have hg : gof f.Glyphs (l[i].toNat : Int) = none := by
    cases hg : gof f.Glyphs (l[i].toNat : Int) with
    | none => rfl
    | some g => have := gof_ok F.g hg; omega
   rw [hg]
   have : ((l[i].toNat : Nat) : Int) = 126 := by omega
   simp only [some_bind, this, not_true_eq_false, decide_false, Bool.not_false, if_true, Bool.false_eq_true, if_false, h126, decide_true, Bool.true_or, Bool.true_and]
   exact ⟨o, h1, h2, h3⟩
  ·have h126' : ¬ ((l[i].toNat : Nat) : Int) = 126 := by omega
   cases hg : gof f.Glyphs (l[i].toNat : Int) with
   | none =>
    simp only [some_bind, h126', not_false_eq_true, decide_true, Bool.not_false, if_true, h126, decide_false, Bool.false_or, Option.isSome_none, Bool.false_and]
    exact ⟨_, rfl, fun h => (by cases h), fun _ => ⟨_, rfl⟩⟩
   | some g =>
    simp only [some_bind, Bool.not_true, Bool.false_eq_true, if_false, h126, decide_false, Bool.false_or, Option.isSome_some, Bool.true_and]
    exact ⟨o, h1, h2, h3⟩
theorem has_mk (f : api_Font) (hf : Sm f) (F : Fok f) (hv : font_Valid f = some true) {l : List UInt8} (ho : okS l = true) : font_Has f ⟨l.toArray⟩ = some (hasG f l, 0) := by
 obtain ⟨o, h1, h2, h3⟩ := has_loop2 f hf F l (okS_all ho).1 _ 0 rfl (Nat.zero_le _)
 rw [List.drop_zero] at h2 h3
 unfold font_Has
 rw [hv, valid_mk, ho]
 simp only [some_bind, Bool.not_true, Bool.false_eq_true, if_false, h1]
 cases hh : hasG f l
 ·obtain ⟨k, rfl⟩ := h3 hh; rfl
 ·obtain ⟨k, rfl⟩ := h2 hh; rfl
theorem part_hy (l : List UInt8) (a e : Nat) (h : Bool) : part l a e h = part l a e false ++ (if h = true then [45] else []) := by
 unfold part; simp
theorem hyph_loop (E : List (Nat × Bool)) (hE : E.length ≤ 1000000) : ∀ (n i : Nat), E.length - i = n → i ≤ E.length →
  ∃ o, slices_IndexFunc_api_Break_k1_l22 (E.map brk) (i : Int) = some o ∧ ((E.drop i).any (·.2) = true → ∃ k : Nat, o = .inl (k : Int)) ∧ ((E.drop i).any (·.2) = false → o = .inr ()) := by
 intro n
 induction n with
 | zero =>
  intro i hn hi
  rw [slices_IndexFunc_api_Break_k1_l22, List.length_map, if_neg (by omega), List.drop_eq_nil_of_le (by omega)]
  exact ⟨_, rfl, fun h => (by cases h), fun _ => rfl⟩
 | succ n ih =>
  intro i hn hi
  have hlt : i < E.length := by omega
  obtain ⟨o, h1, h2, h3⟩ := ih (i + 1) (by omega) (by omega)
  rw [slices_IndexFunc_api_Break_k1_l22, List.length_map, if_pos (by omega), if_pos ⟨by omega, by omega⟩, getD_map_brk E hlt, w64_id (n := (i : Int) + 1) (by omega) (by omega), add1, List.drop_eq_getElem_cons hlt, List.any_cons]
  unfold inline_prepare_1
  rw [some_bind]
  show ∃ o, (if (E[i]).2 = true then _ else _) = some o ∧ _
  cases hh : (E[i]).2
  ·rw [if_neg (by decide), Bool.false_or]
   exact ⟨o, h1, h2, h3⟩
  ·rw [if_pos rfl, Bool.true_or]
   exact ⟨_, rfl, fun _ => ⟨i, rfl⟩, fun h => by cases h⟩
theorem hyph_mk (E : List (Nat × Bool)) (hE : E.length ≤ 1000000) : slices_ContainsFunc_api_Break_k1 (E.map brk) = some (E.any (·.2)) := by
 obtain ⟨o, h1, h2, h3⟩ := hyph_loop E hE _ 0 rfl (Nat.zero_le _)
 have h1' : slices_IndexFunc_api_Break_k1_l22 (E.map brk) 0 = some o := h1
 rw [List.drop_zero] at h2 h3
 unfold slices_ContainsFunc_api_Break_k1 slices_IndexFunc_api_Break_k1
 rw [h1', some_bind]
 cases hh : E.any (·.2)
 ·rw [h3 hh]; rfl
 ·obtain ⟨k, rfl⟩ := h2 hh
  have : (0 : Int) ≤ (k : Int) := by omega
  simp [this]
def okP (f : api_Font) (b : api_Breaks) (l : List UInt8) : Bool := hasG f l && (!((LP b l).any (·.2)) || hasG f [45])
theorem prepare_v (f : api_Font) (hf : Sm f) (F : Fok f) (hfv : font_Valid f = some true) (b : api_Breaks) (l : List UInt8) (hk : b.Keep.length ≤ 1000000) (hs : l.length ≤ 100000) (hv : vb b = true) (ho : okS l = true) (sc : Int) (hsc : 50 ≤ sc ∧ sc ≤ 300) :
  inline_prepare f b ⟨l.toArray⟩ sc = some (if okP f b l = true then .inr (.inr (⟨l.toArray⟩, (ends b l).map brk, f, sc)) else .inr (.inl (⟨#[]⟩, []))) := by
 have hc := hyph_mk (LP b l) (by have := LP_len b l; omega)
 have e1 := has_mk f hf F hfv ho
 have e2 : font_Has f (⟨#[45]⟩ : ByteArray) = some (hasG f [45], 0) := has_mk f hf F hfv (l := [45]) (by decide)
 have hl : ((LP b l).map brk).length + 1 ≤ 8796093022208 := by
  have := LP_len b l
  rw [List.length_map]; omega
 have he : (LP b l).map brk ++ [(⟨(l.length : Int), false⟩ : api_Break)] = (ends b l).map brk := by
  unfold ends; rw [List.map_append]; rfl
 unfold inline_prepare okP
 rw [list_mk b l hk, hv, ho]
 simp only [Bool.and_self, if_true, some_bind, hfv, within_mk, hc, e1, e2, sz, if_pos hl, he]
 cases (LP b l).any (·.2) <;> cases hasG f l <;> cases hasG f [45] <;> simp [hsc]
end Go.Proofs.YtokeiiakkfdmgaaGreatDoor.LG
