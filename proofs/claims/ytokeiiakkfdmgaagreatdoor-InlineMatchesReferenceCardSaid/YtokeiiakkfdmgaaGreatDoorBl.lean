/-
 What the functions of package text, and of its reference, compute, over lists of bytes. Plain Lean; no program in sight.
-/
import Derived.Test.YtokeiiakkfdmgaaGreatDoorPd
import Derived.Test.YtokeiiakkfdmgaaGreatDoorLgQ
import Derived.Lib.TrimByte
import Derived.Lib.SplitLaws
set_option linter.unusedVariables false
set_option linter.unusedSimpArgs false
namespace Go.Proofs.YtokeiiakkfdmgaaGreatDoor.LG
open Go Go.LG Go.Lib

def cl (a : Int) : Int :=
 if 97 ≤ a ∧ a ≤ 122 then 1 else if 65 ≤ a ∧ a ≤ 90 then 2 else if 48 ≤ a ∧ a ≤ 57 then 3 else if a = 32 then 4 else if a = 126 then 6 else if 32 < a ∧ a < 126 then 5 else 0
theorem refClass_eq (a : Int) : formeref06_Class a = some (cl a) := by
 unfold formeref06_Class cl
 simp only [and_some, or_some, some_bind, decide_eq_true_eq]
 repeat' split
 all_goals first | rfl | omega
theorem class_eq (a : Int) : text_Class a = some (cl a) := by
 unfold text_Class cl
 simp only [and_some, or_some, some_bind, decide_eq_true_eq]
 repeat' split
 all_goals first | rfl | omega
theorem cl_zero {a : Int} : cl a = 0 ↔ a < 32 ∨ 126 < a := by
 unfold cl
 repeat' split
 all_goals omega
theorem cl_six {a : Int} : cl a = 6 ↔ a = 126 := by
 unfold cl
 repeat' split
 all_goals omega
theorem cl_four {a : Int} : cl a = 4 ↔ a = 32 := by
 unfold cl
 repeat' split
 all_goals omega
def ok (b : UInt8) : Bool := decide (cl (b.toNat : Int) ≠ 0)
theorem ok_iff {b : UInt8} : ok b = true ↔ 32 ≤ b.toNat ∧ b.toNat ≤ 126 := by
 unfold ok
 rw [decide_eq_true_eq, Ne, cl_zero]
 omega
def okS (l : List UInt8) : Bool := l.all ok && decide (l.length ≤ 2000)

theorem sz (l : List UInt8) : (⟨l.toArray⟩ : ByteArray).size = l.length := by simp [ByteArray.size]
theorem add1 (i : Nat) : ((i : Int) + 1) = ((i + 1 : Nat) : Int) := by omega
theorem refValid_loop (l : List UInt8) (hs : l.length ≤ 9223372036854775807) : ∀ (n i : Nat), l.length - i = n → i ≤ l.length →
  formeref06_Valid_l18 ⟨l.toArray⟩ (i : Int) = some (if (l.drop i).all ok then Sum.inr () else Sum.inl ()) := by
 intro n
 induction n with
 | zero =>
  intro i hn hi
  have : i = l.length := by omega
  subst this
  rw [formeref06_Valid_l18, sz, if_neg (by omega), List.drop_length]
  simp
 | succ n ih =>
  intro i hn hi
  have hlt : i < l.length := by omega
  rw [formeref06_Valid_l18, sz, if_pos (by omega), if_pos (by omega), bt_mk l hlt, refClass_eq, some_bind, w64_id (by omega) (by omega), add1, ih (i + 1) (by omega) (by omega), List.drop_eq_getElem_cons hlt, List.all_cons]
  by_cases h : cl ((l[i]).toNat : Int) = 0
  ·rw [if_pos h]; simp [ok, h]
  ·rw [if_neg h]; simp [ok, h]
theorem refValid_mk (l : List UInt8) (hs : l.length ≤ 9223372036854775807) : formeref06_Valid ⟨l.toArray⟩ = some (okS l) := by
 unfold formeref06_Valid okS
 rw [show (0 : Int) = ((0 : Nat) : Int) from rfl, refValid_loop l hs _ 0 rfl (Nat.zero_le _), some_bind, List.drop_zero, sz]
 cases l.all ok <;> simp
 omega
theorem get_mk (l : List UInt8) {i : Nat} (h : i < l.length) : (⟨l.toArray⟩ : ByteArray).get! i = l[i] := by
 simp only [ByteArray.get!]
 rw [getElem!_pos _ i (by simpa using h)]
 simp
theorem decode_big (l : List UInt8) {i : Nat} (h : i < l.length) (hb : 128 ≤ (l[i]).toNat) : 128 ≤ (Utf8.decode ⟨l.toArray⟩ i).1 := by
 unfold Utf8.decode
 simp only [Nat.add_zero, get_mk l h, Utf8.runeError]
 rw [if_neg (by omega)]
 repeat' split
 all_goals simp only [Bool.and_eq_true, decide_eq_true_eq] at *
 all_goals omega
theorem decode_small (l : List UInt8) {i : Nat} (h : i < l.length) (hb : (l[i]).toNat < 128) : Utf8.decode ⟨l.toArray⟩ i = ((l[i]).toNat, 1) := by
 unfold Utf8.decode
 simp only [Nat.add_zero, get_mk l h]
 rw [if_pos hb]
theorem valid_loop (l : List UInt8) : ∀ (n i : Nat), l.length - i = n → i ≤ l.length →
  ∃ o, text_Valid_l22 ⟨l.toArray⟩ i = some o ∧ o.isRight = (l.drop i).all ok := by
 intro n
 induction n with
 | zero =>
  intro i hn hi
  have : i = l.length := by omega
  subst this
  refine ⟨.inr l.length, ?_, by simp⟩
  rw [text_Valid_l22, sz, if_neg (by omega)]
 | succ n ih =>
  intro i hn hi
  have hlt : i < l.length := by omega
  rw [text_Valid_l22, sz, if_pos (by omega)]
  rw [List.drop_eq_getElem_cons hlt, List.all_cons]
  by_cases hb : (l[i]).toNat < 128
  ·have hd := decode_small l hlt hb
   rw [hd]
   simp only [class_eq, some_bind, wu8_id (show (0 : Int) ≤ ((l[i]).toNat : Int) by omega) (show ((l[i]).toNat : Int) ≤ 255 by omega)]
   by_cases h1 : (126 : Int) < ((l[i]).toNat : Int)
   ·refine ⟨.inl (i + 1), by rw [if_pos h1, some_bind]; rfl, ?_⟩
    have : ok l[i] = false := by
     rw [Bool.eq_false_iff, Ne, ok_iff]; omega
    simp [this]
   ·rw [if_neg h1, some_bind]
    by_cases h2 : cl ((l[i]).toNat : Int) = 0
    ·refine ⟨.inl (i + 1), by simp [h2], by simp [ok, h2]⟩
    ·obtain ⟨o, ho, hr⟩ := ih (i + 1) (by omega) (by omega)
     refine ⟨o, by simp [h2, ho], by rw [hr]; simp [ok, h2]⟩
  ·have hd := decode_big l hlt (by omega)
   refine ⟨.inl (i + (Utf8.decode ⟨l.toArray⟩ i).2), by rw [if_pos (by omega), some_bind]; rfl, ?_⟩
   have : ok l[i] = false := by
    rw [Bool.eq_false_iff, Ne, ok_iff]; omega
   simp [this]
theorem valid_mk (l : List UInt8) : text_Valid ⟨l.toArray⟩ = some (okS l) := by
 obtain ⟨o, ho, hr⟩ := valid_loop l _ 0 rfl (Nat.zero_le _)
 unfold text_Valid okS
 rw [ho, some_bind, sz]
 rw [List.drop_zero] at hr
 rw [← hr]
 cases o
 ·simp
 ·simp; omega
theorem okS_all {l : List UInt8} (h : okS l = true) : (∀ b ∈ l, 32 ≤ b.toNat ∧ b.toNat ≤ 126) ∧ l.length ≤ 2000 := by
 unfold okS at h
 rw [Bool.and_eq_true, List.all_eq_true, decide_eq_true_eq] at h
 exact ⟨fun b hb => ok_iff.1 (h.1 b hb), h.2⟩
theorem okS_of {l : List UInt8} (h : ∀ b ∈ l, 32 ≤ b.toNat ∧ b.toNat ≤ 126) (h2 : l.length ≤ 2000) : okS l = true := by
 unfold okS
 rw [Bool.and_eq_true, List.all_eq_true, decide_eq_true_eq]
 exact ⟨fun b hb => ok_iff.2 (h b hb), h2⟩

def shown (l : List UInt8) : List UInt8 := l.filter fun b => decide (b.toNat ≠ 126)
theorem shown_cons (b : UInt8) (l : List UInt8) : shown (b :: l) = if b.toNat = 126 then shown l else b :: shown l := by
 by_cases h : b.toNat = 126 <;> simp [shown, h]
def ints (l : List UInt8) : List Int := l.map fun b => (b.toNat : Int)
theorem refshown_loop (l : List UInt8) (hs : l.length ≤ 1000000) : ∀ (n i : Nat) (acc : List UInt8), l.length - i = n → i ≤ l.length → acc.length ≤ i →
  formeref06_shown_l34 ⟨l.toArray⟩ (ints acc) (i : Int) = some (ints (acc ++ shown (l.drop i))) := by
 intro n
 induction n with
 | zero =>
  intro i acc hn hi ha
  have : i = l.length := by omega
  subst this
  rw [formeref06_shown_l34, sz, if_neg (by omega), List.drop_length]
  simp [shown]
 | succ n ih =>
  intro i acc hn hi ha
  have hlt : i < l.length := by omega
  rw [formeref06_shown_l34, sz, if_pos (by omega), if_pos (by omega), bt_mk l hlt, w64_id (by omega) (by omega), add1, List.drop_eq_getElem_cons hlt]
  by_cases h : ((l[i]).toNat : Int) = 126
  ·rw [if_neg (by omega), some_bind, ih (i + 1) acc (by omega) (by omega) (by omega)]
   have h' : (l[i]).toNat = 126 := by omega
   rw [shown_cons, if_pos h']
  ·rw [if_pos h, if_pos (by omega), if_pos (by simp [ints]; omega), some_bind]
   have h' : ¬ (l[i]).toNat = 126 := by omega
   have e : ints acc ++ [((l[i]).toNat : Int)] = ints (acc ++ [l[i]]) := by simp [ints]
   rw [e, ih (i + 1) (acc ++ [l[i]]) (by omega) (by omega) (by simp; omega), shown_cons, if_neg h', List.append_assoc]
   rfl
theorem refshown_mk {l : List UInt8} (hs : l.length ≤ 1000000) : formeref06_shown ⟨l.toArray⟩ = some ⟨(shown l).toArray⟩ := by
 unfold formeref06_shown
 rw [show (0 : Int) = ((0 : Nat) : Int) from rfl, show ([] : List Int) = ints [] from rfl, refshown_loop l hs _ 0 [] rfl (Nat.zero_le _) (Nat.le_refl 0), some_bind]
 simp only [List.nil_append, List.drop_zero, ints, bstr_map]
def wc : Bool → List UInt8 → Nat
 | _, [] => 0
 | o, b :: l => if b.toNat = 126 then wc o l else if b.toNat = 32 then wc false l else (if o then 0 else 1) + wc true l
theorem wc_shown : ∀ (o : Bool) (l : List UInt8), wc o (shown l) = wc o l
 | _, [] => rfl
 | o, b :: l => by
  by_cases h : b.toNat = 126
  ·have : shown (b :: l) = shown l := by simp [shown, h]
   rw [this, wc_shown o l]; simp [wc, h]
  ·have : shown (b :: l) = b :: shown l := by simp [shown, h]
   rw [this]; simp only [wc, if_neg h, wc_shown]
theorem words_loop (l : List UInt8) (hl : ∀ b ∈ l, 32 ≤ b.toNat ∧ b.toNat ≤ 126) (hs : l.length ≤ 1000000) : ∀ (n i : Nat) (k : Nat) (o : Bool), l.length - i = n → i ≤ l.length → k ≤ i →
  ∃ p, text_Words_l41 ⟨l.toArray⟩ (k : Int) o i = some (((k + wc o (l.drop i) : Nat) : Int), p) := by
 intro n
 induction n with
 | zero =>
  intro i k o hn hi hk
  have : i = l.length := by omega
  subst this
  refine ⟨l.length, ?_⟩
  rw [text_Words_l41, sz, if_neg (by omega), List.drop_length]
  simp [wc]
 | succ n ih =>
  intro i k o hn hi hk
  have hlt : i < l.length := by omega
  obtain ⟨hb1, hb2⟩ := hl l[i] (by simp)
  rw [text_Words_l41, sz, if_pos (by omega), decode_small l hlt (by omega), List.drop_eq_getElem_cons hlt]
  simp only [class_eq, some_bind, wu8_id (show (0 : Int) ≤ ((l[i]).toNat : Int) by omega) (show ((l[i]).toNat : Int) ≤ 255 by omega)]
  by_cases h6 : (l[i]).toNat = 126
  ·have c6 : cl ((l[i]).toNat : Int) = 6 := cl_six.2 (by omega)
   obtain ⟨p, hp⟩ := ih (i + 1) k o (by omega) (by omega) (by omega)
   refine ⟨p, ?_⟩
   rw [if_pos c6]
   simp only [some_bind]
   rw [hp, wc, if_pos h6]
  ·have c6 : ¬ cl ((l[i]).toNat : Int) = 6 := fun h => h6 (by have := cl_six.1 h; omega)
   by_cases h4 : (l[i]).toNat = 32
   ·have c4 : cl ((l[i]).toNat : Int) = 4 := cl_four.2 (by omega)
    obtain ⟨p, hp⟩ := ih (i + 1) k false (by omega) (by omega) (by omega)
    refine ⟨p, ?_⟩
    rw [if_neg c6, if_pos c4]
    simp only [some_bind]
    rw [hp, wc, if_neg h6, if_pos h4]
   ·have c4 : ¬ cl ((l[i]).toNat : Int) = 4 := fun h => h4 (by have := cl_four.1 h; omega)
    have key : ∀ X : Option (Int × Nat), ((if o = false then text_Words_l41 ⟨l.toArray⟩ (w64 ((k : Int) + 1)) true (i + 1) else text_Words_l41 ⟨l.toArray⟩ (k : Int) true (i + 1)) = X) → ∃ p, X = some (((k + wc o (l[i] :: l.drop (i + 1)) : Nat) : Int), p) := by
     intro X hX
     subst hX
     cases o
     ·obtain ⟨p, hp⟩ := ih (i + 1) (k + 1) true (by omega) (by omega) (by omega)
      refine ⟨p, ?_⟩
      rw [if_pos rfl, w64_id (by omega) (by omega), add1, hp, wc, if_neg h6, if_neg h4]
      simp only [Bool.false_eq_true, if_false, Nat.add_assoc]
     ·obtain ⟨p, hp⟩ := ih (i + 1) k true (by omega) (by omega) (by omega)
      refine ⟨p, ?_⟩
      rw [if_neg (by simp), hp, wc, if_neg h6, if_neg h4]
      simp only [if_true, Nat.zero_add]
    apply key
    simp only [if_neg c6, if_neg c4]
    repeat' split
    all_goals simp_all [some_bind]
theorem words_mk {l : List UInt8} (h : okS l = true) : text_Words ⟨l.toArray⟩ = some ((wc false l : Int), 0) := by
 obtain ⟨h1, h2⟩ := okS_all h
 obtain ⟨p, hp⟩ := words_loop l h1 (by omega) _ 0 0 false rfl (Nat.zero_le _) (Nat.le_refl _)
 unfold text_Words
 rw [valid_mk, some_bind, h]
 simp only [Bool.not_true, Bool.false_eq_true, if_false]
 rw [show (0 : Int) = ((0 : Nat) : Int) from rfl, hp, some_bind]
 simp
theorem words_no {l : List UInt8} (h : okS l = false) : text_Words ⟨l.toArray⟩ = some (0, 1) := by
 unfold text_Words
 rw [valid_mk, some_bind, h]
 simp
theorem shown_len (l : List UInt8) : (shown l).length ≤ l.length := List.length_filter_le _ _
theorem shown_mem {l : List UInt8} {b : UInt8} (h : b ∈ shown l) : b ∈ l ∧ b.toNat ≠ 126 := by
 simpa [shown] using h
def bl : UInt8 := 32
theorem bl_iff {b : UInt8} : b = bl ↔ b.toNat = 32 := by
 constructor
 ·intro h; rw [h]; rfl
 ·intro h; exact UInt8.toNat_inj.1 (by rw [h]; rfl)
def tl (l : List UInt8) : List UInt8 := trimLeftB l bl
def tr (l : List UInt8) : List UInt8 := trimRightB l bl
theorem tl_cons (b : UInt8) (l : List UInt8) : tl (b :: l) = if b = bl then tl l else b :: l := by
 unfold tl trimLeftB
 rw [List.dropWhile_cons]
 by_cases h : b = bl <;> simp [h]
theorem tr_snoc (l : List UInt8) (b : UInt8) : tr (l ++ [b]) = if b = bl then tr l else l ++ [b] := by
 unfold tr trimRightB
 rw [List.reverse_append, List.reverse_singleton, List.singleton_append, List.dropWhile_cons]
 by_cases h : b = bl <;> simp [h]
theorem tr_cons (b : UInt8) (l : List UInt8) : tr (b :: l) = if tr l = [] then (if b = bl then [] else [b]) else b :: tr l := by
 unfold tr trimRightB
 rw [List.reverse_cons, List.dropWhile_append]
 cases h : l.reverse.dropWhile (· == bl) with
 | nil => by_cases hb : b = bl <;> simp [hb]
 | cons x xs => simp
theorem tl_tr : ∀ l : List UInt8, tl (tr l) = tr (tl l)
 | [] => rfl
 | b :: l => by
  have ih := tl_tr l
  rw [tl_cons, tr_cons]
  by_cases hb : b = bl
  ·rw [if_pos hb, if_pos hb, ← ih]
   split
   ·rename_i h; rw [h]
   ·rw [tl_cons, if_pos hb]
  ·rw [if_neg hb, if_neg hb, tr_cons]
   split
   ·simp [tl_cons, hb]
   ·rw [tl_cons, if_neg hb]
def trim (l : List UInt8) : List UInt8 := tl (tr l)
theorem bt_bl {b : UInt8} : ((b.toNat : Int) = 32) ↔ b = bl := by rw [bl_iff]; omega
theorem reftl_loop : ∀ (n : Nat) (l : List UInt8), l.length = n → l.length ≤ 1000000 → formeref06_Trim_l29 ⟨l.toArray⟩ = some ⟨(tl l).toArray⟩
 | 0, l, h, _ => by
  have : l = [] := List.eq_nil_of_length_eq_zero h
  subst this
  rw [formeref06_Trim_l29]; rfl
 | n + 1, [], h, _ => by cases h
 | n + 1, b :: l, h, hs => by
  have hb := bt_mk (b :: l) (i := 0) (by simp)
  simp only [List.getElem_cons_zero] at hb
  rw [formeref06_Trim_l29, sz, if_pos (by simp only [List.length_cons] at *; omega), if_pos (by simp only [List.length_cons] at *; omega), some_bind, show (0 : Int) = ((0 : Nat) : Int) from rfl, hb]
  simp only [decide_eq_true_eq, bt_bl]
  rw [tl_cons]
  split
  ·rename_i hbb
   rw [if_pos (by simp only [List.length_cons] at *; omega), show (1 : Int) = ((1 : Nat) : Int) from rfl, sub_data]
   have e : (List.take ((b :: l).length - 1) (List.drop 1 (b :: l))) = l := by simp
   simp only [e]
   exact reftl_loop n l (by simpa using h) (by simp only [List.length_cons] at hs; omega)
  ·rfl
theorem reftr_loop : ∀ (n : Nat) (l : List UInt8), l.length = n → l.length ≤ 1000000 → formeref06_Trim_l68 ⟨l.toArray⟩ = some ⟨(tr l).toArray⟩
 | 0, l, h, _ => by
  have : l = [] := List.eq_nil_of_length_eq_zero h
  subst this
  rw [formeref06_Trim_l68]; rfl
 | n + 1, l, h, hs => by
  obtain ⟨l', b, rfl⟩ : ∃ l' b, l = l' ++ [b] := by
   rcases List.eq_nil_or_concat l with h0 | ⟨l', b, h0⟩
   ·subst h0; cases h
   ·exact ⟨l', b, by simpa using h0⟩
  have hl : (l' ++ [b]).length = l'.length + 1 := by simp
  rw [hl] at h hs
  have hb := bt_mk (l' ++ [b]) (i := l'.length) (by simp)
  simp only [List.getElem_concat_length] at hb
  have e1 : w64 (((l'.length + 1 : Nat) : Int) - 1) = (l'.length : Int) := by rw [w64_id (by omega) (by omega)]; omega
  rw [formeref06_Trim_l68, sz, hl, e1, if_pos (by omega), if_pos (by omega), some_bind, hb]
  simp only [decide_eq_true_eq, bt_bl]
  rw [tr_snoc]
  split
  ·rename_i hbb
   rw [if_pos (by omega), show (0 : Int) = ((0 : Nat) : Int) from rfl, sub_data]
   have e : (List.take (l'.length - 0) (List.drop 0 (l' ++ [b]))) = l' := by simp
   simp only [e]
   exact reftr_loop n l' (by omega) (by omega)
  ·rfl
theorem tl_len : ∀ l : List UInt8, (tl l).length ≤ l.length
 | [] => Nat.le_refl _
 | b :: l => by
  rw [tl_cons]
  split
  ·have := tl_len l; simp only [List.length_cons]; omega
  ·exact Nat.le_refl _
end Go.Proofs.YtokeiiakkfdmgaaGreatDoor.LG
