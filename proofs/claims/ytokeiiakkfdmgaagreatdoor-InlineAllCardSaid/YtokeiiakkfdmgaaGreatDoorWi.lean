/-
  InlineWider: the plain law. Plain Lean; no program in sight.
-/
import Derived.Test.YtokeiiakkfdmgaaGreatDoorFu
set_option linter.unusedVariables false
set_option linter.unusedSimpArgs false
set_option maxRecDepth 100000
namespace Go.Proofs.YtokeiiakkfdmgaaGreatDoor.LG
open Go Go.LG Go.Lib

theorem within_mk (x lo hi : Int) : inline_within_int x lo hi = some (decide (lo ≤ x ∧ x ≤ hi)) := by
  have key : ∀ a b : Int, cmp_Compare_int a b = some (if a < b then -1 else if b < a then 1 else 0) := by
    intro a b
    unfold cmp_Compare_int cmp_isNaN_int
    simp
    split
    · rfl
    · split <;> rfl
  unfold inline_within_int
  rw [key, some_bind]
  by_cases h1 : x < lo
  · have : ¬ (lo ≤ x ∧ x ≤ hi) := by omega
    simp [h1, this]
  · rw [if_neg h1]
    have h0 : (0 : Int) ≤ (if lo < x then 1 else 0) := by split <;> decide
    rw [if_pos h0, key, some_bind, some_bind]
    congr 1
    by_cases h2 : x < hi
    · have : lo ≤ x ∧ x ≤ hi := by omega
      simp [h2, this]
    · rw [if_neg h2]
      by_cases h3 : hi < x
      · have : ¬ (lo ≤ x ∧ x ≤ hi) := by omega
        simp [h3, this]
      · have : lo ≤ x ∧ x ≤ hi := by omega
        simp [h3, this]
theorem indexH_loop (E : List (Nat × Bool)) (hE : E.length ≤ 1000000) : ∀ (n i : Nat), E.length - i = n → Tot (slices_IndexFunc_api_Break_k1_l22 (E.map brk) (i : Int)) := by
  intro n
  induction n with
  | zero => intro i hn; rw [slices_IndexFunc_api_Break_k1_l22, List.length_map, if_neg (by omega)]; exact Tot.val
  | succ n ih =>
    intro i hn
    rw [slices_IndexFunc_api_Break_k1_l22, List.length_map, if_pos (by omega), if_pos ⟨by omega, by omega⟩, w64_id (n := (i : Int) + 1) (by omega) (by omega)]
    unfold inline_prepare_1
    exact Tot.bind Tot.val fun _ _ => Tot.ite (fun _ => Tot.val) fun _ => ih (i + 1) (by omega)
theorem hyph_tot (E : List (Nat × Bool)) (hE : E.length ≤ 1000000) : Tot (slices_ContainsFunc_api_Break_k1 (E.map brk)) := by
  unfold slices_ContainsFunc_api_Break_k1 slices_IndexFunc_api_Break_k1
  refine Tot.bind (Tot.bind (indexH_loop E hE _ 0 rfl) fun o _ => ?_) fun _ _ => Tot.val
  cases o <;> exact Tot.val
theorem prepare17 (f : api_Font) (hf : Sm f) (b : api_Breaks) (l : List UInt8) (hk : b.Keep.length ≤ 1000000) (hs : l.length ≤ 100000) (hv : vb b = true) (ho : okS l = true) (sc : Int) :
    inline_prepare f b ⟨l.toArray⟩ sc = some (.inl (⟨#[]⟩, [])) ∨ inline_prepare f b ⟨l.toArray⟩ sc = some (.inr (.inl (⟨#[]⟩, []))) ∨ inline_prepare f b ⟨l.toArray⟩ sc = some (.inr (.inr (⟨l.toArray⟩, (ends b l).map brk, f, sc))) := by
  obtain ⟨y, hy⟩ := fvalid_tot f hf.1 hf.2
  obtain ⟨c, hc⟩ := hyph_tot (LP b l) (by have := LP_len b l; omega)
  obtain ⟨⟨h1, g1⟩, e1⟩ := has_tot f hf l
  obtain ⟨⟨h2, g2⟩, e2⟩ := has_tot f hf [45]
  have e2' : font_Has f (⟨#[45]⟩ : ByteArray) = some (h2, g2) := e2
  have hl : ((LP b l).map brk).length + 1 ≤ 8796093022208 := by
    have := LP_len b l
    rw [List.length_map]; omega
  have he : (LP b l).map brk ++ [(⟨(l.length : Int), false⟩ : api_Break)] = (ends b l).map brk := by
    unfold ends; rw [List.map_append]; rfl
  unfold inline_prepare
  rw [list_mk b l hk, hv, ho]
  simp only [Bool.and_self, if_true, some_bind, hy, within_mk, hc, e1, e2', sz, if_pos hl, he]
  by_cases hsc : 50 ≤ sc ∧ sc ≤ 300
  · cases y
    · left; simp
    · cases c
      · cases h1
        · right; left; simp [hsc]
        · right; right; simp [hsc]
      · cases h1
        · right; left; simp [hsc]
        · cases h2
          · right; left; simp [hsc]
          · right; right; simp [hsc]
  · left
    cases y <;> simp [hsc]
end Go.Proofs.YtokeiiakkfdmgaaGreatDoor.LG
