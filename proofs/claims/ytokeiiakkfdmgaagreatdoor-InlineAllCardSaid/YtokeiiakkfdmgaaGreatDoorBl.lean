/-
  What the functions of package text, and of its reference, compute, over lists of bytes. Plain Lean; no program in sight.
-/
import Derived.Test.YtokeiiakkfdmgaaGreatDoorPd
import Derived.Test.YtokeiiakkfdmgaaGreatDoorLgQ
import Derived.Lib.TrimByte
import Derived.Lib.SplitLaws
set_option linter.unusedVariables false
set_option linter.unusedSimpArgs false
namespace Go.Proofs.YtokeiiakkfdmgaaGreatDoor.LG
open Go Go.LG Go.Lib

def cl (a : Int) : Int :=
  if 97 ≤ a ∧ a ≤ 122 then 1 else if 65 ≤ a ∧ a ≤ 90 then 2 else if 48 ≤ a ∧ a ≤ 57 then 3 else if a = 32 then 4 else if a = 126 then 6 else if 32 < a ∧ a < 126 then 5 else 0
theorem refClass_eq (a : Int) : formeref06_Class a = some (cl a) := by
  unfold formeref06_Class cl
  simp only [and_some, or_some, some_bind, decide_eq_true_eq]
  repeat' split
  all_goals first | rfl | omega
theorem class_eq (a : Int) : text_Class a = some (cl a) := by
  unfold text_Class cl
  simp only [and_some, or_some, some_bind, decide_eq_true_eq]
  repeat' split
  all_goals first | rfl | omega
theorem cl_zero {a : Int} : cl a = 0 ↔ a < 32 ∨ 126 < a := by
  unfold cl
  repeat' split
  all_goals omega
theorem cl_six {a : Int} : cl a = 6 ↔ a = 126 := by
  unfold cl
  repeat' split
  all_goals omega
theorem cl_four {a : Int} : cl a = 4 ↔ a = 32 := by
  unfold cl
  repeat' split
  all_goals omega
def ok (b : UInt8) : Bool := decide (cl (b.toNat : Int) ≠ 0)
theorem ok_iff {b : UInt8} : ok b = true ↔ 32 ≤ b.toNat ∧ b.toNat ≤ 126 := by
  unfold ok
  rw [decide_eq_true_eq, Ne, cl_zero]
  omega
def okS (l : List UInt8) : Bool := l.all ok && decide (l.length ≤ 2000)

theorem sz (l : List UInt8) : (⟨l.toArray⟩ : ByteArray).size = l.length := by simp [ByteArray.size]
theorem add1 (i : Nat) : ((i : Int) + 1) = ((i + 1 : Nat) : Int) := by omega
theorem refValid_loop (l : List UInt8) (hs : l.length ≤ 9223372036854775807) : ∀ (n i : Nat), l.length - i = n → i ≤ l.length →
    formeref06_Valid_l18 ⟨l.toArray⟩ (i : Int) = some (if (l.drop i).all ok then Sum.inr () else Sum.inl ()) := by
  intro n
  induction n with
  | zero =>
    intro i hn hi
    have : i = l.length := by omega
    subst this
    rw [formeref06_Valid_l18, sz, if_neg (by omega), List.drop_length]
    simp
  | succ n ih =>
    intro i hn hi
    have hlt : i < l.length := by omega
    rw [formeref06_Valid_l18, sz, if_pos (by omega), if_pos (by omega), bt_mk l hlt, refClass_eq, some_bind, w64_id (by omega) (by omega), add1, ih (i + 1) (by omega) (by omega), List.drop_eq_getElem_cons hlt, List.all_cons]
    by_cases h : cl ((l[i]).toNat : Int) = 0
    · rw [if_pos h]; simp [ok, h]
    · rw [if_neg h]; simp [ok, h]
theorem refValid_mk (l : List UInt8) (hs : l.length ≤ 9223372036854775807) : formeref06_Valid ⟨l.toArray⟩ = some (okS l) := by
  unfold formeref06_Valid okS
  rw [show (0 : Int) = ((0 : Nat) : Int) from rfl, refValid_loop l hs _ 0 rfl (Nat.zero_le _), some_bind, List.drop_zero, sz]
  cases l.all ok <;> simp
  omega
theorem get_mk (l : List UInt8) {i : Nat} (h : i < l.length) : (⟨l.toArray⟩ : ByteArray).get! i = l[i] := by
  simp only [ByteArray.get!]
  rw [getElem!_pos _ i (by simpa using h)]
  simp
theorem decode_big (l : List UInt8) {i : Nat} (h : i < l.length) (hb : 128 ≤ (l[i]).toNat) : 128 ≤ (Utf8.decode ⟨l.toArray⟩ i).1 := by
  unfold Utf8.decode
  simp only [Nat.add_zero, get_mk l h, Utf8.runeError]
  rw [if_neg (by omega)]
  repeat' split
  all_goals simp only [Bool.and_eq_true, decide_eq_true_eq] at *
  all_goals omega
theorem decode_small (l : List UInt8) {i : Nat} (h : i < l.length) (hb : (l[i]).toNat < 128) : Utf8.decode ⟨l.toArray⟩ i = ((l[i]).toNat, 1) := by
  unfold Utf8.decode
  simp only [Nat.add_zero, get_mk l h]
  rw [if_pos hb]
theorem valid_loop (l : List UInt8) : ∀ (n i : Nat), l.length - i = n → i ≤ l.length →
    ∃ o, text_Valid_l22 ⟨l.toArray⟩ i = some o ∧ o.isRight = (l.drop i).all ok := by
  intro n
  induction n with
  | zero =>
    intro i hn hi
    have : i = l.length := by omega
    subst this
    refine ⟨.inr l.length, ?_, by simp⟩
    rw [text_Valid_l22, sz, if_neg (by omega)]
  | succ n ih =>
    intro i hn hi
    have hlt : i < l.length := by omega
    rw [text_Valid_l22, sz, if_pos (by omega)]
    rw [List.drop_eq_getElem_cons hlt, List.all_cons]
    by_cases hb : (l[i]).toNat < 128
    · have hd := decode_small l hlt hb
      rw [hd]
      simp only [class_eq, some_bind, wu8_id (show (0 : Int) ≤ ((l[i]).toNat : Int) by omega) (show ((l[i]).toNat : Int) ≤ 255 by omega)]
      by_cases h1 : (126 : Int) < ((l[i]).toNat : Int)
      · refine ⟨.inl (i + 1), by rw [if_pos h1, some_bind]; rfl, ?_⟩
        have : ok l[i] = false := by
          rw [Bool.eq_false_iff, Ne, ok_iff]; omega
        simp [this]
      · rw [if_neg h1, some_bind]
        by_cases h2 : cl ((l[i]).toNat : Int) = 0
        · refine ⟨.inl (i + 1), by simp [h2], by simp [ok, h2]⟩
        · obtain ⟨o, ho, hr⟩ := ih (i + 1) (by omega) (by omega)
          refine ⟨o, by simp [h2, ho], by rw [hr]; simp [ok, h2]⟩
    · have hd := decode_big l hlt (by omega)
      refine ⟨.inl (i + (Utf8.decode ⟨l.toArray⟩ i).2), by rw [if_pos (by omega), some_bind]; rfl, ?_⟩
      have : ok l[i] = false := by
        rw [Bool.eq_false_iff, Ne, ok_iff]; omega
      simp [this]
theorem valid_mk (l : List UInt8) : text_Valid ⟨l.toArray⟩ = some (okS l) := by
  obtain ⟨o, ho, hr⟩ := valid_loop l _ 0 rfl (Nat.zero_le _)
  unfold text_Valid okS
  rw [ho, some_bind, sz]
  rw [List.drop_zero] at hr
  rw [← hr]
  cases o
  · simp
  · simp; omega
theorem okS_all {l : List UInt8} (h : okS l = true) : (∀ b ∈ l, 32 ≤ b.toNat ∧ b.toNat ≤ 126) ∧ l.length ≤ 2000 := by
  unfold okS at h
  rw [Bool.and_eq_true, List.all_eq_true, decide_eq_true_eq] at h
  exact ⟨fun b hb => ok_iff.1 (h.1 b hb), h.2⟩
theorem okS_of {l : List UInt8} (h : ∀ b ∈ l, 32 ≤ b.toNat ∧ b.toNat ≤ 126) (h2 : l.length ≤ 2000) : okS l = true := by
  unfold okS
  rw [Bool.and_eq_true, List.all_eq_true, decide_eq_true_eq]
  exact ⟨fun b hb => ok_iff.2 (h b hb), h2⟩

def shown (l : List UInt8) : List UInt8 := l.filter fun b => decide (b.toNat ≠ 126)
theorem shown_cons (b : UInt8) (l : List UInt8) : shown (b :: l) = if b.toNat = 126 then shown l else b :: shown l := by
  by_cases h : b.toNat = 126 <;> simp [shown, h]
def ints (l : List UInt8) : List Int := l.map fun b => (b.toNat : Int)
def wc : Bool → List UInt8 → Nat
  | _, [] => 0
  | o, b :: l => if b.toNat = 126 then wc o l else if b.toNat = 32 then wc false l else (if o then 0 else 1) + wc true l
theorem words_loop (l : List UInt8) (hl : ∀ b ∈ l, 32 ≤ b.toNat ∧ b.toNat ≤ 126) (hs : l.length ≤ 1000000) : ∀ (n i : Nat) (k : Nat) (o : Bool), l.length - i = n → i ≤ l.length → k ≤ i →
    ∃ p, text_Words_l41 ⟨l.toArray⟩ (k : Int) o i = some (((k + wc o (l.drop i) : Nat) : Int), p) := by
  intro n
  induction n with
  | zero =>
    intro i k o hn hi hk
    have : i = l.length := by omega
    subst this
    refine ⟨l.length, ?_⟩
    rw [text_Words_l41, sz, if_neg (by omega), List.drop_length]
    simp [wc]
  | succ n ih =>
    intro i k o hn hi hk
    have hlt : i < l.length := by omega
    obtain ⟨hb1, hb2⟩ := hl l[i] (by simp)
    rw [text_Words_l41, sz, if_pos (by omega), decode_small l hlt (by omega), List.drop_eq_getElem_cons hlt]
    simp only [class_eq, some_bind, wu8_id (show (0 : Int) ≤ ((l[i]).toNat : Int) by omega) (show ((l[i]).toNat : Int) ≤ 255 by omega)]
    by_cases h6 : (l[i]).toNat = 126
    · have c6 : cl ((l[i]).toNat : Int) = 6 := cl_six.2 (by omega)
      obtain ⟨p, hp⟩ := ih (i + 1) k o (by omega) (by omega) (by omega)
      refine ⟨p, ?_⟩
      rw [if_pos c6]
      simp only [some_bind]
      rw [hp, wc, if_pos h6]
    · have c6 : ¬ cl ((l[i]).toNat : Int) = 6 := fun h => h6 (by have := cl_six.1 h; omega)
      by_cases h4 : (l[i]).toNat = 32
      · have c4 : cl ((l[i]).toNat : Int) = 4 := cl_four.2 (by omega)
        obtain ⟨p, hp⟩ := ih (i + 1) k false (by omega) (by omega) (by omega)
        refine ⟨p, ?_⟩
        rw [if_neg c6, if_pos c4]
        simp only [some_bind]
        rw [hp, wc, if_neg h6, if_pos h4]
      · have c4 : ¬ cl ((l[i]).toNat : Int) = 4 := fun h => h4 (by have := cl_four.1 h; omega)
        have key : ∀ X : Option (Int × Nat), ((if o = false then text_Words_l41 ⟨l.toArray⟩ (w64 ((k : Int) + 1)) true (i + 1) else text_Words_l41 ⟨l.toArray⟩ (k : Int) true (i + 1)) = X) → ∃ p, X = some (((k + wc o (l[i] :: l.drop (i + 1)) : Nat) : Int), p) := by
          intro X hX
          subst hX
          cases o
          · obtain ⟨p, hp⟩ := ih (i + 1) (k + 1) true (by omega) (by omega) (by omega)
            refine ⟨p, ?_⟩
            rw [if_pos rfl, w64_id (by omega) (by omega), add1, hp, wc, if_neg h6, if_neg h4]
            simp only [Bool.false_eq_true, if_false, Nat.add_assoc]
          · obtain ⟨p, hp⟩ := ih (i + 1) k true (by omega) (by omega) (by omega)
            refine ⟨p, ?_⟩
            rw [if_neg (by simp), hp, wc, if_neg h6, if_neg h4]
            simp only [if_true, Nat.zero_add]
        apply key
        simp only [if_neg c6, if_neg c4]
        repeat' split
        all_goals simp_all [some_bind]
theorem words_mk {l : List UInt8} (h : okS l = true) : text_Words ⟨l.toArray⟩ = some ((wc false l : Int), 0) := by
  obtain ⟨h1, h2⟩ := okS_all h
  obtain ⟨p, hp⟩ := words_loop l h1 (by omega) _ 0 0 false rfl (Nat.zero_le _) (Nat.le_refl _)
  unfold text_Words
  rw [valid_mk, some_bind, h]
  simp only [Bool.not_true, Bool.false_eq_true, if_false]
  rw [show (0 : Int) = ((0 : Nat) : Int) from rfl, hp, some_bind]
  simp
theorem shown_len (l : List UInt8) : (shown l).length ≤ l.length := List.length_filter_le _ _
def bl : UInt8 := 32
def tl (l : List UInt8) : List UInt8 := trimLeftB l bl
def tr (l : List UInt8) : List UInt8 := trimRightB l bl
theorem tl_cons (b : UInt8) (l : List UInt8) : tl (b :: l) = if b = bl then tl l else b :: l := by
  unfold tl trimLeftB
  rw [List.dropWhile_cons]
  by_cases h : b = bl <;> simp [h]
def trim (l : List UInt8) : List UInt8 := tl (tr l)
theorem tl_len : ∀ l : List UInt8, (tl l).length ≤ l.length
  | [] => Nat.le_refl _
  | b :: l => by
    rw [tl_cons]
    split
    · have := tl_len l; simp only [List.length_cons]; omega
    · exact Nat.le_refl _
end Go.Proofs.YtokeiiakkfdmgaaGreatDoor.LG
