/-
  Package text, second half: the reference's words, and what is trimmed. Plain Lean; no program in sight.
-/
import Derived.Test.YtpefcdchjokggaaDoorPl
set_option linter.unusedVariables false
set_option linter.unusedSimpArgs false
namespace Go.Proofs.YtpefcdchjokggaaDoor.LG
open Go Go.LG Go.Lib

/-! ### 1. The reference's words -/
/-- Is a word open behind the bytes ahead of place i? -/
def Pv (t : List UInt8) (i : Nat) (o : Bool) : Prop := o = true ↔ ∃ j, j + 1 = i ∧ ∃ b, t[j]? = some b ∧ b.toNat ≠ 32
theorem refwords_loop (t : List UInt8) (ht : ∀ b ∈ t, b.toNat ≠ 126) (hs : t.length ≤ 1000000) : ∀ (n i k : Nat) (o : Bool), t.length - i = n → i ≤ t.length → k ≤ i →
    Pv t i o → formeref06_Words_l43 ⟨t.toArray⟩ (k : Int) (i : Int) = some ((k + wc o (t.drop i) : Nat) : Int) := by
  intro n
  induction n with
  | zero =>
    intro i k o hn hi hk ho
    have : i = t.length := by omega
    subst this
    rw [formeref06_Words_l43, sz, if_neg (by omega), List.drop_length]
    simp [wc]
  | succ n ih =>
    intro i k o hn hi hk ho
    have hlt : i < t.length := by omega
    have h6 : (t[i]).toNat ≠ 126 := ht _ (by simp)
    rw [formeref06_Words_l43, sz, if_pos (by omega), if_pos (by omega), bt_mk t hlt, w64_id (n := (i : Int) + 1) (by omega) (by omega), add1 i, List.drop_eq_getElem_cons hlt]
    have next : Pv t (i + 1) (decide ((t[i]).toNat ≠ 32)) := by
      unfold Pv
      rw [decide_eq_true_eq]
      constructor
      · intro h; exact ⟨i, rfl, t[i], by simp, h⟩
      · rintro ⟨j, hj, b, hb, h⟩
        have : j = i := by omega
        subst this
        rw [List.getElem?_eq_getElem hlt] at hb
        cases hb; exact h
    by_cases h4 : (t[i]).toNat = 32
    · rw [if_neg (by omega), some_bind, if_neg (by simp), some_bind, ih (i + 1) k false (by omega) (by omega) (by omega) (by have e := next; simpa [h4] using e), wc, if_neg h6, if_pos h4]
    · rw [if_pos (by omega)]
      have prev : (if (i : Int) = 0 then some true else (if (0 : Int) ≤ w64 ((i : Int) - 1) ∧ w64 ((i : Int) - 1) < ((t.length : Nat) : Int) then some (decide ((bt ⟨t.toArray⟩ (w64 ((i : Int) - 1))) = 32)) else none)) = some (!o) := by
        by_cases h0 : i = 0
        · rw [if_pos (by omega)]
          have : o = false := by
            unfold Pv at ho
            rw [Bool.eq_false_iff, Ne, ho]
            rintro ⟨j, hj, _⟩
            exact absurd hj (by omega)
          rw [this]; rfl
        · rw [if_neg (by omega), w64_id (by omega) (by omega), if_pos (by omega)]
          have e : (i : Int) - 1 = ((i - 1 : Nat) : Int) := by omega
          have hj : i - 1 < t.length := by omega
          rw [e, bt_mk t hj]
          by_cases hb : (t[i - 1]).toNat = 32
          · have : o = false := by
              unfold Pv at ho
              rw [Bool.eq_false_iff, Ne, ho]
              rintro ⟨j, hj', b, hb', h⟩
              clear ho
              have : j = i - 1 := by omega
              subst this
              rw [List.getElem?_eq_getElem hj] at hb'
              cases hb'; exact h hb
            rw [this]; simp; omega
          · have : o = true := ho.2 ⟨i - 1, by omega, t[i - 1], by simp, hb⟩
            rw [this]; simp; omega
      rw [prev, some_bind, some_bind, wc, if_neg h6, if_neg h4]
      cases o
      · rw [if_pos (by rfl), some_bind, w64_id (by omega) (by omega), add1 k, ih (i + 1) (k + 1) true (by omega) (by omega) (by omega) (by have e := next; simpa [h4] using e)]
        simp only [Bool.false_eq_true, if_false, Nat.add_assoc]
      · rw [if_neg (by simp), some_bind, ih (i + 1) k true (by omega) (by omega) (by omega) (by have e := next; simpa [h4] using e)]
        simp only [if_true, Nat.zero_add]
theorem shown_len (l : List UInt8) : (shown l).length ≤ l.length := List.length_filter_le _ _
theorem shown_mem {l : List UInt8} {b : UInt8} (h : b ∈ shown l) : b ∈ l ∧ b.toNat ≠ 126 := by
  simpa [shown] using h
theorem refWords_eq {l : List UInt8} (hs : l.length ≤ 1000000) : formeref06_Words ⟨l.toArray⟩ = text_Words ⟨l.toArray⟩ := by
  unfold formeref06_Words
  rw [refValid_mk l (by omega), some_bind]
  cases h : okS l
  · rw [words_no h]; simp
  · rw [words_mk h, refshown_mk hs]
    simp only [Bool.not_true, Bool.false_eq_true, if_false, some_bind]
    have := refwords_loop (shown l) (fun b hb => (shown_mem hb).2) (by have := shown_len l; omega) _ 0 0 false rfl (Nat.zero_le _) (Nat.le_refl _) (by simp [Pv])
    rw [show (0 : Int) = ((0 : Nat) : Int) from rfl, this, some_bind, List.drop_zero, wc_shown]
    simp

/-! ### 2. Trim -/
def bl : UInt8 := 32
theorem bl_iff {b : UInt8} : b = bl ↔ b.toNat = 32 := by
  constructor
  · intro h; rw [h]; rfl
  · intro h; exact UInt8.toNat_inj.1 (by rw [h]; rfl)
def tl (l : List UInt8) : List UInt8 := trimLeftB l bl
def tr (l : List UInt8) : List UInt8 := trimRightB l bl
theorem tl_nil : tl [] = [] := rfl
theorem tr_nil : tr [] = [] := rfl
theorem tl_cons (b : UInt8) (l : List UInt8) : tl (b :: l) = if b = bl then tl l else b :: l := by
  unfold tl trimLeftB
  rw [List.dropWhile_cons]
  by_cases h : b = bl <;> simp [h]
theorem tr_snoc (l : List UInt8) (b : UInt8) : tr (l ++ [b]) = if b = bl then tr l else l ++ [b] := by
  unfold tr trimRightB
  rw [List.reverse_append, List.reverse_singleton, List.singleton_append, List.dropWhile_cons]
  by_cases h : b = bl <;> simp [h]
theorem tr_cons (b : UInt8) (l : List UInt8) : tr (b :: l) = if tr l = [] then (if b = bl then [] else [b]) else b :: tr l := by
  unfold tr trimRightB
  rw [List.reverse_cons, List.dropWhile_append]
  cases h : l.reverse.dropWhile (· == bl) with
  | nil => by_cases hb : b = bl <;> simp [hb]
  | cons x xs => simp
theorem tl_tr : ∀ l : List UInt8, tl (tr l) = tr (tl l)
  | [] => rfl
  | b :: l => by
    have ih := tl_tr l
    rw [tl_cons, tr_cons]
    by_cases hb : b = bl
    · rw [if_pos hb, if_pos hb, ← ih]
      split
      · rename_i h; rw [h]
      · rw [tl_cons, if_pos hb]
    · rw [if_neg hb, if_neg hb, tr_cons]
      split
      · simp [tl_cons, hb]
      · rw [tl_cons, if_neg hb]
def trim (l : List UInt8) : List UInt8 := tl (tr l)
theorem trim_mk {l : List UInt8} (h : okS l = true) : text_Trim ⟨l.toArray⟩ = some (⟨(trim l).toArray⟩, 0) := by
  obtain ⟨h1, h2⟩ := okS_all h
  unfold text_Trim strings_Trim
  rw [valid_mk, some_bind, h]
  simp only [Bool.not_true, Bool.false_eq_true, if_false]
  rw [if_pos (by rw [sz]; omega)]
  rfl
theorem trim_no {l : List UInt8} (h : okS l = false) : text_Trim ⟨l.toArray⟩ = some (⟨#[]⟩, 1) := by
  unfold text_Trim
  rw [valid_mk, some_bind, h]
  simp
theorem bt_bl {b : UInt8} : ((b.toNat : Int) = 32) ↔ b = bl := by rw [bl_iff]; omega
theorem reftl_loop : ∀ (n : Nat) (l : List UInt8), l.length = n → l.length ≤ 1000000 → formeref06_Trim_l29 ⟨l.toArray⟩ = some ⟨(tl l).toArray⟩
  | 0, l, h, _ => by
    have : l = [] := List.eq_nil_of_length_eq_zero h
    subst this
    rw [formeref06_Trim_l29]; rfl
  | n + 1, [], h, _ => by cases h
  | n + 1, b :: l, h, hs => by
    have hb := bt_mk (b :: l) (i := 0) (by simp)
    simp only [List.getElem_cons_zero] at hb
    rw [formeref06_Trim_l29, sz, if_pos (by simp only [List.length_cons] at *; omega), if_pos (by simp only [List.length_cons] at *; omega), some_bind, show (0 : Int) = ((0 : Nat) : Int) from rfl, hb]
    simp only [decide_eq_true_eq, bt_bl]
    rw [tl_cons]
    split
    · rename_i hbb
      rw [if_pos (by simp only [List.length_cons] at *; omega), show (1 : Int) = ((1 : Nat) : Int) from rfl, sub_data]
      have e : (List.take ((b :: l).length - 1) (List.drop 1 (b :: l))) = l := by simp
      simp only [e]
      exact reftl_loop n l (by simpa using h) (by simp only [List.length_cons] at hs; omega)
    · rfl
theorem reftr_loop : ∀ (n : Nat) (l : List UInt8), l.length = n → l.length ≤ 1000000 → formeref06_Trim_l68 ⟨l.toArray⟩ = some ⟨(tr l).toArray⟩
  | 0, l, h, _ => by
    have : l = [] := List.eq_nil_of_length_eq_zero h
    subst this
    rw [formeref06_Trim_l68]; rfl
  | n + 1, l, h, hs => by
    obtain ⟨l', b, rfl⟩ : ∃ l' b, l = l' ++ [b] := by
      rcases List.eq_nil_or_concat l with h0 | ⟨l', b, h0⟩
      · subst h0; cases h
      · exact ⟨l', b, by simpa using h0⟩
    have hl : (l' ++ [b]).length = l'.length + 1 := by simp
    rw [hl] at h hs
    have hb := bt_mk (l' ++ [b]) (i := l'.length) (by simp)
    simp only [List.getElem_concat_length] at hb
    have e1 : w64 (((l'.length + 1 : Nat) : Int) - 1) = (l'.length : Int) := by rw [w64_id (by omega) (by omega)]; omega
    rw [formeref06_Trim_l68, sz, hl, e1, if_pos (by omega), if_pos (by omega), some_bind, hb]
    simp only [decide_eq_true_eq, bt_bl]
    rw [tr_snoc]
    split
    · rename_i hbb
      rw [if_pos (by omega), show (0 : Int) = ((0 : Nat) : Int) from rfl, sub_data]
      have e : (List.take (l'.length - 0) (List.drop 0 (l' ++ [b]))) = l' := by simp
      simp only [e]
      exact reftr_loop n l' (by omega) (by omega)
    · rfl
theorem tl_len : ∀ l : List UInt8, (tl l).length ≤ l.length
  | [] => Nat.le_refl _
  | b :: l => by
    rw [tl_cons]
    split
    · have := tl_len l; simp only [List.length_cons]; omega
    · exact Nat.le_refl _
theorem refTrim_eq {l : List UInt8} (hs : l.length ≤ 1000000) : formeref06_Trim ⟨l.toArray⟩ = text_Trim ⟨l.toArray⟩ := by
  unfold formeref06_Trim
  rw [refValid_mk l (by omega), some_bind]
  cases h : okS l
  · rw [trim_no h]; simp
  · rw [trim_mk h]
    simp only [Bool.not_true, Bool.false_eq_true, if_false]
    rw [reftl_loop _ l rfl hs, some_bind, reftr_loop _ (tl l) rfl (by have := tl_len l; omega), some_bind, trim, tl_tr]
end Go.Proofs.YtpefcdchjokggaaDoor.LG
