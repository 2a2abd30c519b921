/-
 Plain laws. No program in sight.
-/
import Derived.Test.YtaemgcpcfnbmdaaGreatDoorPd
import Derived.Test.YtaemgcpcfnbmdaaGreatDoorLgQ
import Derived.Lib.TrimByte
import Derived.Lib.SplitLaws
import Derived.Lib.ReplaceLaws
set_option linter.unusedVariables false
set_option linter.unusedSimpArgs false
namespace Go.Proofs.YtaemgcpcfnbmdaaGreatDoor.LG
open Go Go.LG Go.Lib

def cl (a : Int) : Int :=
 if 97 ≤ a ∧ a ≤ 122 then 1 else if 65 ≤ a ∧ a ≤ 90 then 2 else if 48 ≤ a ∧ a ≤ 57 then 3 else if a = 32 then 4 else if a = 126 then 6 else if 32 < a ∧ a < 126 then 5 else 0
theorem refClass_eq (a : Int) : formeref06_Class a = some (cl a) := by
 unfold formeref06_Class cl
 simp only [and_some, or_some, some_bind, decide_eq_true_eq]
 repeat' split
 all_goals first | rfl | omega
theorem class_eq (a : Int) : text_Class a = some (cl a) := by
 unfold text_Class cl
 simp only [and_some, or_some, some_bind, decide_eq_true_eq]
 repeat' split
 all_goals first | rfl | omega
theorem cl_zero {a : Int} : cl a = 0 ↔ a < 32 ∨ 126 < a := by
 unfold cl
 repeat' split
 all_goals omega
theorem cl_six {a : Int} : cl a = 6 ↔ a = 126 := by
 unfold cl
 repeat' split
 all_goals omega
theorem cl_four {a : Int} : cl a = 4 ↔ a = 32 := by
 unfold cl
 repeat' split
 all_goals omega
def ok (b : UInt8) : Bool := decide (cl (b.toNat : Int) ≠ 0)
theorem ok_iff {b : UInt8} : ok b = true ↔ 32 ≤ b.toNat ∧ b.toNat ≤ 126 := by
 unfold ok
 rw [decide_eq_true_eq, Ne, cl_zero]
 omega
def okS (l : List UInt8) : Bool := l.all ok && decide (l.length ≤ 2000)

theorem sz (l : List UInt8) : (⟨l.toArray⟩ : ByteArray).size = l.length := by simp [ByteArray.size]
theorem add1 (i : Nat) : ((i : Int) + 1) = ((i + 1 : Nat) : Int) := by omega
theorem refValid_loop (l : List UInt8) (hs : l.length ≤ 9223372036854775807) : ∀ (n i : Nat), l.length - i = n → i ≤ l.length →
  formeref06_Valid_l18 ⟨l.toArray⟩ (i : Int) = some (if (l.drop i).all ok then Sum.inr () else Sum.inl ()) := by
 intro n
 induction n with
 | zero =>
  intro i hn hi
  have : i = l.length := by omega
  subst this
  rw [formeref06_Valid_l18, sz, if_neg (by omega), List.drop_length]
  simp
 | succ n ih =>
  intro i hn hi
  have hlt : i < l.length := by omega
  rw [formeref06_Valid_l18, sz, if_pos (by omega), if_pos (by omega), bt_mk l hlt, refClass_eq, some_bind, w64_id (by omega) (by omega), add1, ih (i + 1) (by omega) (by omega), List.drop_eq_getElem_cons hlt, List.all_cons]
  by_cases h : cl ((l[i]).toNat : Int) = 0
  ·rw [if_pos h]; simp [ok, h]
  ·rw [if_neg h]; simp [ok, h]
theorem refValid_mk (l : List UInt8) (hs : l.length ≤ 9223372036854775807) : formeref06_Valid ⟨l.toArray⟩ = some (okS l) := by
 unfold formeref06_Valid okS
 rw [show (0 : Int) = ((0 : Nat) : Int) from rfl, refValid_loop l hs _ 0 rfl (Nat.zero_le _), some_bind, List.drop_zero, sz]
 cases l.all ok <;> simp
 omega
theorem get_mk (l : List UInt8) {i : Nat} (h : i < l.length) : (⟨l.toArray⟩ : ByteArray).get! i = l[i] := by
 simp only [ByteArray.get!]
 rw [getElem!_pos _ i (by simpa using h)]
 simp
theorem decode_big (l : List UInt8) {i : Nat} (h : i < l.length) (hb : 128 ≤ (l[i]).toNat) : 128 ≤ (Utf8.decode ⟨l.toArray⟩ i).1 := by
 unfold Utf8.decode
 simp only [Nat.add_zero, get_mk l h, Utf8.runeError]
 rw [if_neg (by omega)]
 repeat' split
 all_goals simp only [Bool.and_eq_true, decide_eq_true_eq] at *
 all_goals omega
theorem decode_small (l : List UInt8) {i : Nat} (h : i < l.length) (hb : (l[i]).toNat < 128) : Utf8.decode ⟨l.toArray⟩ i = ((l[i]).toNat, 1) := by
 unfold Utf8.decode
 simp only [Nat.add_zero, get_mk l h]
 rw [if_pos hb]
theorem valid_loop (l : List UInt8) : ∀ (n i : Nat), l.length - i = n → i ≤ l.length →
  ∃ o, text_Valid_l22 ⟨l.toArray⟩ i = some o ∧ o.isRight = (l.drop i).all ok := by
 intro n
 induction n with
 | zero =>
  intro i hn hi
  have : i = l.length := by omega
  subst this
  refine ⟨.inr l.length, ?_, by simp⟩
  rw [text_Valid_l22, sz, if_neg (by omega)]
 | succ n ih =>
  intro i hn hi
  have hlt : i < l.length := by omega
  rw [text_Valid_l22, sz, if_pos (by omega)]
  rw [List.drop_eq_getElem_cons hlt, List.all_cons]
  by_cases hb : (l[i]).toNat < 128
  ·have hd := decode_small l hlt hb
   rw [hd]
   simp only [class_eq, some_bind, wu8_id (show (0 : Int) ≤ ((l[i]).toNat : Int) by omega) (show ((l[i]).toNat : Int) ≤ 255 by omega)]
   by_cases h1 : (126 : Int) < ((l[i]).toNat : Int)
   ·refine ⟨.inl (i + 1), by rw [if_pos h1, some_bind]; rfl, ?_⟩
    have : ok l[i] = false := by
     rw [Bool.eq_false_iff, Ne, ok_iff]; omega
    simp [this]
   ·rw [if_neg h1, some_bind]
    by_cases h2 : cl ((l[i]).toNat : Int) = 0
    ·refine ⟨.inl (i + 1), by simp [h2], by simp [ok, h2]⟩
    ·obtain ⟨o, ho, hr⟩ := ih (i + 1) (by omega) (by omega)
     refine ⟨o, by simp [h2, ho], by rw [hr]; simp [ok, h2]⟩
  ·have hd := decode_big l hlt (by omega)
   refine ⟨.inl (i + (Utf8.decode ⟨l.toArray⟩ i).2), by rw [if_pos (by omega), some_bind]; rfl, ?_⟩
   have : ok l[i] = false := by
    rw [Bool.eq_false_iff, Ne, ok_iff]; omega
   simp [this]
theorem valid_mk (l : List UInt8) : text_Valid ⟨l.toArray⟩ = some (okS l) := by
 obtain ⟨o, ho, hr⟩ := valid_loop l _ 0 rfl (Nat.zero_le _)
 unfold text_Valid okS
 rw [ho, some_bind, sz]
 rw [List.drop_zero] at hr
 rw [← hr]
 cases o
 ·simp
 ·simp; omega
theorem okS_all {l : List UInt8} (h : okS l = true) : (∀ b ∈ l, 32 ≤ b.toNat ∧ b.toNat ≤ 126) ∧ l.length ≤ 2000 := by
 unfold okS at h
 rw [Bool.and_eq_true, List.all_eq_true, decide_eq_true_eq] at h
 exact ⟨fun b hb => ok_iff.1 (h.1 b hb), h.2⟩
theorem okS_of {l : List UInt8} (h : ∀ b ∈ l, 32 ≤ b.toNat ∧ b.toNat ≤ 126) (h2 : l.length ≤ 2000) : okS l = true := by
 unfold okS
 rw [Bool.and_eq_true, List.all_eq_true, decide_eq_true_eq]
 exact ⟨fun b hb => ok_iff.2 (h b hb), h2⟩

def shown (l : List UInt8) : List UInt8 := l.filter fun b => decide (b.toNat ≠ 126)
theorem shown_cons (b : UInt8) (l : List UInt8) : shown (b :: l) = if b.toNat = 126 then shown l else b :: shown l := by
 by_cases h : b.toNat = 126 <;> simp [shown, h]
def ints (l : List UInt8) : List Int := l.map fun b => (b.toNat : Int)
def wc : Bool → List UInt8 → Nat
 | _, [] => 0
 | o, b :: l => if b.toNat = 126 then wc o l else if b.toNat = 32 then wc false l else (if o then 0 else 1) + wc true l
theorem words_loop (l : List UInt8) (hl : ∀ b ∈ l, 32 ≤ b.toNat ∧ b.toNat ≤ 126) (hs : l.length ≤ 1000000) : ∀ (n i : Nat) (k : Nat) (o : Bool), l.length - i = n → i ≤ l.length → k ≤ i →
  ∃ p, text_Words_l41 ⟨l.toArray⟩ (k : Int) o i = some (((k + wc o (l.drop i) : Nat) : Int), p) := by
 intro n
 induction n with
 | zero =>
  intro i k o hn hi hk
  have : i = l.length := by omega
  subst this
  refine ⟨l.length, ?_⟩
  rw [text_Words_l41, sz, if_neg (by omega), List.drop_length]
  simp [wc]
 | succ n ih =>
  intro i k o hn hi hk
  have hlt : i < l.length := by omega
  obtain ⟨hb1, hb2⟩ := hl l[i] (by simp)
  rw [text_Words_l41, sz, if_pos (by omega), decode_small l hlt (by omega), List.drop_eq_getElem_cons hlt]
  simp only [class_eq, some_bind, wu8_id (show (0 : Int) ≤ ((l[i]).toNat : Int) by omega) (show ((l[i]).toNat : Int) ≤ 255 by omega)]
  by_cases h6 : (l[i]).toNat = 126
  ·have c6 : cl ((l[i]).toNat : Int) = 6 := cl_six.2 (by omega)
   obtain ⟨p, hp⟩ := ih (i + 1) k o (by omega) (by omega) (by omega)
   refine ⟨p, ?_⟩
   rw [if_pos c6]
   simp only [some_bind]
   rw [hp, wc, if_pos h6]
  ·have c6 : ¬ cl ((l[i]).toNat : Int) = 6 := fun h => h6 (by have := cl_six.1 h; omega)
   by_cases h4 : (l[i]).toNat = 32
   ·have c4 : cl ((l[i]).toNat : Int) = 4 := cl_four.2 (by omega)
    obtain ⟨p, hp⟩ := ih (i + 1) k false (by omega) (by omega) (by omega)
    refine ⟨p, ?_⟩
    rw [if_neg c6, if_pos c4]
    simp only [some_bind]
    rw [hp, wc, if_neg h6, if_pos h4]
   ·have c4 : ¬ cl ((l[i]).toNat : Int) = 4 := fun h => h4 (by have := cl_four.1 h; omega)
    have key : ∀ X : Option (Int × Nat), ((if o = false then text_Words_l41 ⟨l.toArray⟩ (w64 ((k : Int) + 1)) true (i + 1) else text_Words_l41 ⟨l.toArray⟩ (k : Int) true (i + 1)) = X) → ∃ p, X = some (((k + wc o (l[i] :: l.drop (i + 1)) : Nat) : Int), p) := by
     intro X hX
     subst hX
     cases o
     ·obtain ⟨p, hp⟩ := ih (i + 1) (k + 1) true (by omega) (by omega) (by omega)
      refine ⟨p, ?_⟩
      rw [if_pos rfl, w64_id (by omega) (by omega), add1, hp, wc, if_neg h6, if_neg h4]
      simp only [Bool.false_eq_true, if_false, Nat.add_assoc]
     ·obtain ⟨p, hp⟩ := ih (i + 1) k true (by omega) (by omega) (by omega)
      refine ⟨p, ?_⟩
      rw [if_neg (by simp), hp, wc, if_neg h6, if_neg h4]
      simp only [if_true, Nat.zero_add]
    apply key
    simp only [if_neg c6, if_neg c4]
    repeat' split
    all_goals simp_all [some_bind]
theorem words_mk {l : List UInt8} (h : okS l = true) : text_Words ⟨l.toArray⟩ = some ((wc false l : Int), 0) := by
 obtain ⟨h1, h2⟩ := okS_all h
 obtain ⟨p, hp⟩ := words_loop l h1 (by omega) _ 0 0 false rfl (Nat.zero_le _) (Nat.le_refl _)
 unfold text_Words
 rw [valid_mk, some_bind, h]
 simp only [Bool.not_true, Bool.false_eq_true, if_false]
 rw [show (0 : Int) = ((0 : Nat) : Int) from rfl, hp, some_bind]
 simp
theorem shown_len (l : List UInt8) : (shown l).length ≤ l.length := List.length_filter_le _ _
theorem shown_mem {l : List UInt8} {b : UInt8} (h : b ∈ shown l) : b ∈ l ∧ b.toNat ≠ 126 := by
 simpa [shown] using h
def bl : UInt8 := 32
def tl (l : List UInt8) : List UInt8 := trimLeftB l bl
def tr (l : List UInt8) : List UInt8 := trimRightB l bl
theorem tl_cons (b : UInt8) (l : List UInt8) : tl (b :: l) = if b = bl then tl l else b :: l := by
 unfold tl trimLeftB
 rw [List.dropWhile_cons]
 by_cases h : b = bl <;> simp [h]
def trim (l : List UInt8) : List UInt8 := tl (tr l)
theorem tl_len : ∀ l : List UInt8, (tl l).length ≤ l.length
 | [] => Nat.le_refl _
 | b :: l => by
  rw [tl_cons]
  split
  ·have := tl_len l; simp only [List.length_cons]; omega
  ·exact Nat.le_refl _
end Go.Proofs.YtaemgcpcfnbmdaaGreatDoor.LG
namespace Go.Proofs.YtaemgcpcfnbmdaaGreatDoor.LG
open Go Go.LG Go.Lib

instance decMem (k : ByteArray) (l : List ByteArray) : Decidable (k ∈ l) := @List.instDecidableMemOfLawfulBEq ByteArray instBEqOfDecidableEq inferInstance k l
theorem mfind_shift {α β : Type} [DecidableEq α] : ∀ (l : List (α × β)) (a : α) (i : Nat), mfind l a i = (mfind l a 0).map fun p => (p.1 + i, p.2)
 | [], a, i => rfl
 | x :: l, a, i => by
  by_cases h : a = x.1
  ·simp [mfind, h]
  ·simp only [mfind, if_neg h]
   rw [mfind_shift l a (i + 1), mfind_shift l a (0 + 1), Option.map_map]
   congr 1
   funext p
   show (p.1 + (i + 1), p.2) = (p.1 + (0 + 1) + i, p.2)
   congr 1
   omega
theorem mget_cons {α β : Type} [DecidableEq α] (x : α × β) (l : List (α × β)) (a : α) : mget (x :: l) a = if a = x.1 then some x.2 else mget l a := by
 unfold mget
 by_cases h : a = x.1
 ·simp [mfind, h]
 ·simp only [mfind, if_neg h]
  rw [mfind_shift l a (0 + 1), Option.map_map]
  rfl
theorem mput_cons {α β : Type} [DecidableEq α] (x : α × β) (l : List (α × β)) (a : α) (b : β) : mput (x :: l) a b = if a = x.1 then (a, b) :: l else x :: mput l a b := by
 unfold mput
 by_cases h : a = x.1
 ·simp [mfind, h]
 ·simp only [mfind, if_neg h]
  rw [mfind_shift l a (0 + 1)]
  cases mfind l a 0 with
  | none => simp
  | some p => simp
theorem mget_mput {α β : Type} [DecidableEq α] : ∀ (l : List (α × β)) (a : α) (b : β) (k : α), mget (mput l a b) k = if k = a then some b else mget l k
 | [], a, b, k => by
  show mget [(a, b)] k = _
  rw [mget_cons]
 | x :: l, a, b, k => by
  rw [mput_cons]
  by_cases h : a = x.1
  ·rw [if_pos h, mget_cons, mget_cons]
   by_cases hk : k = a
   ·simp [hk]
   ·rw [if_neg hk, if_neg hk, if_neg (fun e => hk (e.trans h.symm))]
  ·rw [if_neg h, mget_cons, mget_cons, mget_mput l a b k]
   by_cases hk : k = a
   ·subst hk; simp [h]
   ·simp [hk]
theorem getD_pre {α : Type} (pre : List α) (k : α) (ks : List α) (d : α) : (pre ++ k :: ks).getD (Int.toNat (pre.length : Int)) d = k := by
 simp [List.getD_eq_getElem?_getD]

theorem small_eq (a : Int) : breaks_small a = some (decide (97 ≤ a ∧ a ≤ 122)) := by
 unfold breaks_small
 rw [and_some, some_bind]
theorem within_eq (a : Int) : breaks_within a = some (decide (1 ≤ a ∧ a ≤ 5)) := by
 unfold breaks_within
 rw [and_some, some_bind]
def kok (k : ByteArray) : Bool := decide ((k.size : Int) = 2) && decide (97 ≤ bt k 0 ∧ bt k 0 ≤ 122) && decide (97 ≤ bt k 1 ∧ bt k 1 ≤ 122)
def vfrom (pre : List ByteArray) : List ByteArray → Bool
 | [] => true
 | k :: ks => kok k && !decide (k ∈ pre) && vfrom (pre ++ [k]) ks
theorem cond8 (k : ByteArray) (c : Bool) (X Y : Option (Sum (List (ByteArray × Bool)) (List (ByteArray × Bool)))) :
  ((if ¬ (k.size : Int) = 2 then some true else (if (0 : Int) ≤ 0 ∧ 0 < (k.size : Int) then (breaks_small (bt k 0) >>= fun y117 => some (!y117)) else none)) >>= fun v104 => ((if v104 = true then some true else (if (0 : Int) ≤ 1 ∧ 1 < (k.size : Int) then (breaks_small (bt k 1) >>= fun y131 => some (!y131)) else none)) >>= fun v118 => ((if v118 = true then some true else some c) >>= fun v132 => (if v132 = true then X else Y)))) = if (kok k && !c) = true then Y else X := by
 unfold kok
 simp only [small_eq, some_bind]
 by_cases h2 : (k.size : Int) = 2
 ·by_cases h3 : 97 ≤ bt k 0 ∧ bt k 0 ≤ 122
  ·by_cases h4 : 97 ≤ bt k 1 ∧ bt k 1 ≤ 122
   ·cases c <;> simp [h2, h3, h4]
   ·cases c <;> simp [h2, h3, h4]
  ·cases c <;> simp [h2, h3]
 ·rw [if_pos h2]
  cases c <;> simp [h2]
theorem valid_loop8 (b : api_Breaks) (hs : b.Keep.length ≤ 100000000000000) : ∀ (rest pre : List ByteArray) (m : List (ByteArray × Bool)), b.Keep = pre ++ rest → (∀ k, (mget m k).getD false = decide (k ∈ pre)) →
  ∃ o, breaks_Valid_l68 b (pre.length : Int) m = some o ∧ o.isRight = vfrom pre rest
 | [], pre, m, hk, hm => ⟨.inr m, by rw [breaks_Valid_l68, if_neg (by rw [hk]; simp)], rfl⟩
 | k :: ks, pre, m, hk, hm => by
  have hl : b.Keep.length = pre.length + (ks.length + 1) := by rw [hk]; simp
  have hg : b.Keep.getD (Int.toNat (pre.length : Int)) ⟨#[]⟩ = k := by rw [hk, getD_pre]
  rw [breaks_Valid_l68, if_pos (by omega), if_pos (by omega), hg, cond8, hm, vfrom]
  cases hb : kok k && !decide (k ∈ pre)
  ·exact ⟨.inl m, by simp, by simp⟩
  ·obtain ⟨o, ho, hr⟩ := valid_loop8 b hs ks (pre ++ [k]) (mput m k true) (by rw [hk]; simp) (fun k' => by
    rw [mget_mput]
    by_cases e : k' = k
    ·simp [e]
    ·simp [e, hm])
   refine ⟨o, ?_, by simpa using hr⟩
   rw [if_pos rfl, w64_id (by omega) (by omega)]
   rw [show ((pre.length : Int) + 1) = ((pre ++ [k]).length : Int) by simp]
   exact ho
def vb (b : api_Breaks) : Bool := decide (1 ≤ b.Before ∧ b.Before ≤ 5) && decide (1 ≤ b.Behind ∧ b.Behind ≤ 5) && decide (b.Keep.length ≤ 20) && vfrom [] b.Keep
theorem valid8 (b : api_Breaks) (hs : b.Keep.length ≤ 100000000000000) : breaks_Valid b = some (vb b) := by
 obtain ⟨o, ho, hr⟩ := valid_loop8 b hs b.Keep [] [] rfl (fun k => by simp [mget, mfind])
 unfold breaks_Valid vb
 simp only [within_eq, some_bind]
 rw [← hr]
 have ho' : breaks_Valid_l68 b 0 [] = some o := ho
 simp only [ho', some_bind]
 by_cases h1 : 1 ≤ b.Before ∧ b.Before ≤ 5
 ·by_cases h2 : 1 ≤ b.Behind ∧ b.Behind ≤ 5
  ·by_cases h3 : b.Keep.length ≤ 20
   ·have h3' : ¬ (20 : Int) < (b.Keep.length : Int) := by omega
    cases o <;> simp [h1, h2, h3, h3']
   ·have h3' : (20 : Int) < (b.Keep.length : Int) := by omega
    simp [h1, h2, h3, h3']
  ·simp [h1, h2]
 ·simp [h1]
theorem refdup_loop (b : api_Breaks) (hs : b.Keep.length ≤ 100000000000000) : ∀ (p2 p1 : List ByteArray) (k : ByteArray) (ks : List ByteArray), b.Keep = p1 ++ (p2 ++ k :: ks) →
  formeref08_Valid_l143 b ((p1.length + p2.length : Nat) : Int) (p1.length : Int) = some (if k ∈ p2 then .inl () else .inr ())
 | [], p1, k, ks, hk => by rw [formeref08_Valid_l143, if_neg (by simp)]; simp
 | x :: p2, p1, k, ks, hk => by
  have hl : b.Keep.length = p1.length + (p2.length + 1 + (ks.length + 1)) := by rw [hk]; simp; omega
  have h1 : b.Keep.getD (Int.toNat (p1.length : Int)) ⟨#[]⟩ = x := by rw [hk, List.cons_append, getD_pre]
  have h2 : b.Keep.getD (Int.toNat ((p1.length + (x :: p2).length : Nat) : Int)) ⟨#[]⟩ = k := by
   rw [hk, ← List.append_assoc, show p1.length + (x :: p2).length = (p1 ++ x :: p2).length by simp, getD_pre]
  have hlen : (x :: p2).length = p2.length + 1 := rfl
  rw [formeref08_Valid_l143, h1, h2, hlen, if_pos (by omega), if_pos (by omega), w64_id (by omega) (by omega)]
  by_cases e : x = k
  ·simp [e]
  ·have ih := refdup_loop b hs p2 (p1 ++ [x]) k ks (by rw [hk]; simp)
   rw [if_neg e]
   rw [show (p1 ++ [x]).length = p1.length + 1 by simp] at ih
   rw [show ((p1.length : Int) + 1) = ((p1.length + 1 : Nat) : Int) by omega, show p1.length + (p2.length + 1) = p1.length + 1 + p2.length by omega, ih]
   have e' : ¬ k = x := fun h => e h.symm
   simp [e']
theorem refcond8 (k : ByteArray) (X Y : Option (Sum Unit Unit)) :
  ((if ¬ (k.size : Int) = 2 then some true else (if (0 : Int) ≤ 0 ∧ 0 < (k.size : Int) then some (decide ((bt k 0) < 97)) else none)) >>= fun v96 => ((if v96 = true then some true else (if (0 : Int) ≤ 0 ∧ 0 < (k.size : Int) then some (decide (122 < (bt k 0))) else none)) >>= fun v104 => ((if v104 = true then some true else (if (0 : Int) ≤ 1 ∧ 1 < (k.size : Int) then some (decide ((bt k 1) < 97)) else none)) >>= fun v112 => ((if v112 = true then some true else (if (0 : Int) ≤ 1 ∧ 1 < (k.size : Int) then some (decide (122 < (bt k 1))) else none)) >>= fun v120 => (if v120 = true then X else Y))))) = if kok k = true then Y else X := by
 unfold kok
 by_cases h2 : (k.size : Int) = 2
 ·by_cases h3 : bt k 0 < 97
  ·have : ¬ 97 ≤ bt k 0 := by omega
   simp [h2, h3, this]
  ·by_cases h4 : 122 < bt k 0
   ·have : ¬ bt k 0 ≤ 122 := by omega
    simp [h2, h3, h4, this]
   ·by_cases h5 : bt k 1 < 97
    ·have : ¬ 97 ≤ bt k 1 := by omega
     simp [h2, h3, h4, h5, this]
    ·by_cases h6 : 122 < bt k 1
     ·have : ¬ bt k 1 ≤ 122 := by omega
      simp [h2, h3, h4, h5, h6, this]
     ·have e1 : 97 ≤ bt k 0 := by omega
      have e2 : bt k 0 ≤ 122 := by omega
      have e3 : 97 ≤ bt k 1 := by omega
      have e4 : bt k 1 ≤ 122 := by omega
      simp [h2, h3, h4, h5, h6, e1, e2, e3, e4]
 ·rw [if_pos h2]
  simp [h2]
theorem refvalid_loop8 (b : api_Breaks) (hs : b.Keep.length ≤ 100000000000000) : ∀ (rest pre : List ByteArray), b.Keep = pre ++ rest → formeref08_Valid_l62 b (pre.length : Int) = some (if vfrom pre rest then .inr () else .inl ())
 | [], pre, hk => by rw [formeref08_Valid_l62, if_neg (by rw [hk]; simp)]; simp [vfrom]
 | k :: ks, pre, hk => by
  have hl : b.Keep.length = pre.length + (ks.length + 1) := by rw [hk]; simp
  have hg : b.Keep.getD (Int.toNat (pre.length : Int)) ⟨#[]⟩ = k := by rw [hk, getD_pre]
  have hd := refdup_loop b hs pre [] k ks (by rw [hk]; simp)
  simp only [List.length_nil, Nat.zero_add] at hd
  rw [show ((0 : Nat) : Int) = 0 from rfl] at hd
  rw [formeref08_Valid_l62, if_pos (by omega), if_pos (by omega), hg, refcond8, hd, vfrom, some_bind]
  cases hk' : kok k
  ·simp
  ·by_cases hp : k ∈ pre
   ·simp [hp]
   ·have ih := refvalid_loop8 b hs ks (pre ++ [k]) (by rw [hk]; simp)
    rw [show ((pre ++ [k]).length : Int) = (pre.length : Int) + 1 by simp] at ih
    simp only [if_neg hp, if_true, w64_id (show -9223372036854775808 ≤ (pre.length : Int) + 1 by omega) (by omega), ih]
    simp [hp]
theorem refvalid8 (b : api_Breaks) (hs : b.Keep.length ≤ 100000000000000) : formeref08_Valid b = some (vb b) := by
 have h := refvalid_loop8 b hs b.Keep [] rfl
 rw [show (([] : List ByteArray).length : Int) = 0 from rfl] at h
 unfold formeref08_Valid vb
 rw [h]
 by_cases h1 : b.Before < 1
 ·have : ¬ 1 ≤ b.Before := by omega
  simp [h1, this]
 ·by_cases h2 : 5 < b.Before
  ·have : ¬ b.Before ≤ 5 := by omega
   simp [h1, h2, this]
  ·by_cases h3 : b.Behind < 1
   ·have : ¬ 1 ≤ b.Behind := by omega
    simp [h1, h2, h3, this]
   ·by_cases h4 : 5 < b.Behind
    ·have : ¬ b.Behind ≤ 5 := by omega
     simp [h1, h2, h3, h4, this]
    ·have e1 : 1 ≤ b.Before := by omega
     have e2 : b.Before ≤ 5 := by omega
     have e3 : 1 ≤ b.Behind := by omega
     have e4 : b.Behind ≤ 5 := by omega
     by_cases h5 : b.Keep.length ≤ 20
     ·have h5' : ¬ (20 : Int) < (b.Keep.length : Int) := by omega
      cases vfrom [] b.Keep <;> simp [h1, h2, h3, h4, e1, e2, e3, e4, h5, h5']
     ·have h5' : (20 : Int) < (b.Keep.length : Int) := by omega
      simp [h1, h2, h3, h4, e1, e2, e3, e4, h5, h5']
theorem prepare_loop (b : api_Breaks) (hs : b.Keep.length ≤ 100000000000000) : ∀ (rest pre : List ByteArray) (m : List (ByteArray × Bool)), b.Keep = pre ++ rest → (∀ k, (mget m k).getD false = decide (k ∈ pre)) →
  ∃ m', breaks_prepare_l45 b (pre.length : Int) m = some m' ∧ ∀ k, (mget m' k).getD false = decide (k ∈ b.Keep)
 | [], pre, m, hk, hm => ⟨m, by rw [breaks_prepare_l45, if_neg (by rw [hk]; simp)], fun k => by rw [hm, hk]; simp⟩
 | k :: ks, pre, m, hk, hm => by
  have hl : b.Keep.length = pre.length + (ks.length + 1) := by rw [hk]; simp
  have hg : b.Keep.getD (Int.toNat (pre.length : Int)) ⟨#[]⟩ = k := by rw [hk, getD_pre]
  obtain ⟨m', h1, h2⟩ := prepare_loop b hs ks (pre ++ [k]) (mput m k true) (by rw [hk]; simp) (fun k' => by
    rw [mget_mput]
    by_cases e : k' = k
    ·simp [e]
    ·simp [e, hm])
  refine ⟨m', ?_, h2⟩
  rw [show ((pre ++ [k]).length : Int) = (pre.length : Int) + 1 by simp] at h1
  rw [breaks_prepare_l45, if_pos (by omega), if_pos (by omega), hg, w64_id (by omega) (by omega), h1]
theorem prepare_mk (b : api_Breaks) (l : List UInt8) (hs : b.Keep.length ≤ 100000000000000) : ∃ m, breaks_prepare b ⟨l.toArray⟩ = some (b.Before, b.Behind, b.Keep, ⟨l.toArray⟩, m, vb b && okS l) ∧ ∀ k, (mget m k).getD false = decide (k ∈ b.Keep) := by
 obtain ⟨m, h1, h2⟩ := prepare_loop b hs b.Keep [] [] rfl (fun k => by simp [mget, mfind])
 refine ⟨m, ?_, h2⟩
 rw [show (([] : List ByteArray).length : Int) = 0 from rfl] at h1
 unfold breaks_prepare
 rw [h1, some_bind, valid8 b hs, some_bind, valid_mk, some_bind]
 cases vb b <;> simp

def ltI (a : Int) : Bool := decide (cl a = 1 ∨ cl a = 2)
def soI (a : Int) : Bool := decide ((cl a = 1 ∨ cl a = 2) ∨ cl a = 3)
theorem letter_eq (a : Int) : breaks_letter a = some (ltI a) := by
 unfold breaks_letter ltI
 simp only [class_eq, some_bind, or_some]
theorem solid_eq (a : Int) : breaks_solid a = some (soI a) := by
 unfold breaks_solid soI
 simp only [letter_eq, class_eq, some_bind, or_some, ltI, decide_eq_true_eq]
def mo (b : UInt8) : Bool := ltI (b.toNat : Int) || decide ((b.toNat : Int) = 126)
def run (x : List UInt8) : List UInt8 := shown (x.takeWhile mo)
theorem run_nil : run [] = [] := rfl
theorem run_cons (b : UInt8) (x : List UInt8) : run (b :: x) = if mo b = true then (if b.toNat = 126 then run x else b :: run x) else [] := by
 unfold run
 rw [List.takeWhile_cons]
 by_cases h : mo b = true
 ·rw [if_pos h, if_pos h, shown_cons]
 ·rw [if_neg h, if_neg h]; rfl
theorem more_in (l : List UInt8) {i : Nat} (h : i < l.length) (a6 a7 : Int) (a8 : List ByteArray) (a16 : List (ByteArray × Bool)) : breaks_ruled_letters_1_k1 (i : Int) a6 a7 a8 ⟨l.toArray⟩ a16 = some (mo l[i]) := by
 unfold breaks_ruled_letters_1_k1 mo
 rw [sz, bt_mk l h, letter_eq, if_pos (by omega), some_bind, if_pos (by simpa using h), if_pos (by omega), some_bind]
 cases ltI ((l[i]).toNat : Int) <;> simp [h]
theorem more_out (s : ByteArray) {i : Int} (h : ¬ (0 ≤ i ∧ i < (s.size : Int))) (a6 a7 : Int) (a8 : List ByteArray) (a16 : List (ByteArray × Bool)) : breaks_ruled_letters_1_k1 i a6 a7 a8 s a16 = some false := by
 unfold breaks_ruled_letters_1_k1
 by_cases h0 : 0 ≤ i
 ·have : ¬ i < (s.size : Int) := fun e => h ⟨h0, e⟩
  simp [h0, this]
 ·simp [h0]
theorem ints_snoc (acc : List UInt8) (b : UInt8) : ints acc ++ [(b.toNat : Int)] = ints (acc ++ [b]) := by simp [ints]
theorem fwd_loop (l : List UInt8) (hs : l.length ≤ 1000000) (a1 a2 : Int) (a3 : List ByteArray) (a11 : List (ByteArray × Bool)) : ∀ (n i : Nat) (acc : List UInt8), l.length - i = n → i ≤ l.length → acc.length ≤ i →
  ∃ p, breaks_ruled_letters_k1_l169 a1 a2 a3 ⟨l.toArray⟩ a11 (ints acc) (i : Int) = some (ints (acc ++ run (l.drop i)), p) := by
 intro n
 induction n with
 | zero =>
  intro i acc hn hi ha
  have : i = l.length := by omega
  subst this
  refine ⟨(l.length : Int), ?_⟩
  rw [breaks_ruled_letters_k1_l169, more_out _ (by rw [sz]; omega), some_bind, List.drop_length, run_nil, List.append_nil]
  simp
 | succ n ih =>
  intro i acc hn hi ha
  have hlt : i < l.length := by omega
  rw [breaks_ruled_letters_k1_l169, more_in l hlt, some_bind, List.drop_eq_getElem_cons hlt, run_cons, sz, bt_mk l hlt]
  cases hm : mo l[i]
  ·exact ⟨(i : Int), by simp⟩
  ·rw [if_pos rfl, if_pos (by omega), if_pos rfl, w64_id (by omega) (by omega), add1]
   by_cases h6 : (l[i]).toNat = 126
   ·obtain ⟨p, hp⟩ := ih (i + 1) acc (by omega) (by omega) (by omega)
    exact ⟨p, by rw [if_neg (by omega), some_bind, hp, if_pos h6]⟩
   ·obtain ⟨p, hp⟩ := ih (i + 1) (acc ++ [l[i]]) (by omega) (by omega) (by simp; omega)
    exact ⟨p, by rw [if_pos (by omega), if_pos (by omega), if_pos (by simp [ints]; omega), some_bind, ints_snoc, hp, if_neg h6]; simp⟩
theorem take_rev {l : List UInt8} {i : Nat} (h : i < l.length) : (l.take (i + 1)).reverse = l[i] :: (l.take i).reverse := by
 rw [List.take_succ_eq_append_getElem h]; simp
theorem bwd_loop (l : List UInt8) (hs : l.length ≤ 1000000) (a1 a2 : Int) (a3 : List ByteArray) (a11 : List (ByteArray × Bool)) : ∀ (i : Nat) (acc : List UInt8), acc.length + i ≤ l.length →
  ∃ p, breaks_ruled_letters_k1_l63 a1 a2 a3 ⟨l.toArray⟩ a11 (ints acc) ((i : Int) - 1) = some (ints (acc ++ run (l.take i).reverse), p) := by
 intro i
 induction i with
 | zero =>
  intro acc ha
  refine ⟨-1, ?_⟩
  rw [breaks_ruled_letters_k1_l63, more_out _ (by rw [sz]; omega), some_bind]
  simp [run_nil]
 | succ i ih =>
  intro acc ha
  have hlt : i < l.length := by omega
  rw [show ((i + 1 : Nat) : Int) - 1 = (i : Int) by omega]
  rw [breaks_ruled_letters_k1_l63, more_in l hlt, some_bind, take_rev hlt, run_cons, sz, bt_mk l hlt]
  cases hm : mo l[i]
  ·exact ⟨(i : Int), by simp⟩
  ·rw [if_pos rfl, if_pos (by omega), if_pos rfl, w64_id (by omega) (by omega), show (i : Int) + -1 = (i : Int) - 1 by omega]
   by_cases h6 : (l[i]).toNat = 126
   ·obtain ⟨p, hp⟩ := ih acc (by omega)
    exact ⟨p, by rw [if_neg (by omega), some_bind, hp, if_pos h6]⟩
   ·obtain ⟨p, hp⟩ := ih (acc ++ [l[i]]) (by simp; omega)
    exact ⟨p, by rw [if_pos (by omega), if_pos (by omega), if_pos (by simp [ints]; omega), some_bind, ints_snoc, hp, if_neg h6]; simp⟩
theorem letters_fwd (l : List UInt8) (hs : l.length ≤ 1000000) (a1 a2 : Int) (a3 : List ByteArray) (a11 : List (ByteArray × Bool)) {i : Nat} (hi : i ≤ l.length) : breaks_ruled_letters_k1 a1 a2 a3 ⟨l.toArray⟩ a11 (i : Int) false = some ⟨(run (l.drop i)).toArray⟩ := by
 obtain ⟨p, hp⟩ := fwd_loop l hs a1 a2 a3 a11 _ i [] rfl hi (Nat.zero_le _)
 unfold breaks_ruled_letters_k1
 rw [if_neg (by simp), show ([] : List Int) = ints [] from rfl, hp, some_bind, List.nil_append]
 show some (bstr (ints (run (l.drop i)))) = _
 rw [ints, bstr_map]
theorem letters_bwd (l : List UInt8) (hs : l.length ≤ 1000000) (a1 a2 : Int) (a3 : List ByteArray) (a11 : List (ByteArray × Bool)) {i : Nat} (hi : i ≤ l.length) : breaks_ruled_letters_k1 a1 a2 a3 ⟨l.toArray⟩ a11 (i : Int) true = some ⟨(run (l.take i).reverse).toArray⟩ := by
 obtain ⟨p, hp⟩ := bwd_loop l hs a1 a2 a3 a11 i [] (by simpa using hi)
 unfold breaks_ruled_letters_k1
 rw [if_pos rfl, w64_id (by omega) (by omega), show ([] : List Int) = ints [] from rfl, hp, some_bind, List.nil_append]
 show some (bstr (ints (run (l.take i).reverse))) = _
 rw [ints, bstr_map]
end Go.Proofs.YtaemgcpcfnbmdaaGreatDoor.LG
namespace Go.Proofs.YtaemgcpcfnbmdaaGreatDoor.LG
open Go Go.LG Go.Lib

def back (l : List UInt8) (at_ : Nat) : List UInt8 := run (l.take (at_ - 1)).reverse
def fwd (l : List UInt8) (at_ : Nat) : List UInt8 := run (l.drop at_)
def key2 (x y : UInt8) : ByteArray := ⟨#[x, y]⟩
def soP (b : api_Breaks) (l : List UInt8) (at_ : Nat) : Bool :=
 decide (2 ≤ at_) && ltI ((l.getD (at_ - 2) 0).toNat : Int) && decide (b.Before ≤ ((back l at_).length : Int)) && decide (b.Behind ≤ ((fwd l at_).length : Int)) && !decide (key2 ((back l at_).headD 0) ((fwd l at_).headD 0) ∈ b.Keep)
def nb (l : List UInt8) : Bool := l.any fun c => decide (c.toNat ≠ 32)
def plc (b : api_Breaks) (l : List UInt8) (at_ : Nat) : Option Bool :=
 if (l.getD (at_ - 1) 0).toNat = 32 then (if nb (l.take at_) = true ∧ (l.getD at_ 0).toNat ≠ 32 then some false else none)
 else if (l.getD (at_ - 1) 0).toNat = 45 then (if 2 ≤ at_ ∧ soI ((l.getD (at_ - 2) 0).toNat : Int) = true ∧ soI ((l.getD at_ 0).toNat : Int) = true then some false else none)
 else if (l.getD (at_ - 1) 0).toNat = 126 then (if soP b l at_ = true then some true else none)
 else none
theorem bt_getD (l : List UInt8) {i : Nat} (h : i < l.length) : bt ⟨l.toArray⟩ (i : Int) = ((l.getD i 0).toNat : Int) := by
 rw [bt_mk l h, List.getD_eq_getElem?_getD, List.getElem?_eq_getElem h]; rfl
theorem sub_one (x : UInt8) (xs : List UInt8) : sub ⟨(x :: xs).toArray⟩ 0 1 = ⟨#[x]⟩ := by
 rw [show (0 : Int) = ((0 : Nat) : Int) from rfl, show (1 : Int) = ((1 : Nat) : Int) from rfl, sub_data]
 simp
theorem soft_mk (b : api_Breaks) (l : List UInt8) (hs : l.length ≤ 1000000) (m : List (ByteArray × Bool)) (hm : ∀ k, (mget m k).getD false = decide (k ∈ b.Keep)) (h1 : 1 ≤ b.Before) (h2 : 1 ≤ b.Behind)
  {at_ : Nat} (ha : 1 ≤ at_) (hl : at_ < l.length) : breaks_ruled_soft_k1 b.Before b.Behind b.Keep ⟨l.toArray⟩ m (at_ : Int) = some (soP b l at_) := by
 unfold breaks_ruled_soft_k1 soP
 rw [w64_id (n := (at_ : Int) - 1) (by omega) (by omega), show (at_ : Int) - 1 = ((at_ - 1 : Nat) : Int) by omega, letters_bwd l hs _ _ _ _ (by omega), some_bind, letters_fwd l hs _ _ _ _ (by omega), some_bind, sz, sz, sz]
 show (_ >>= fun v43 => (_ >>= fun v57 => _)) = _
 rw [show run (l.take (at_ - 1)).reverse = back l at_ from rfl, show run (l.drop at_) = fwd l at_ from rfl]
 by_cases h3 : (at_ : Int) < 2
 ·have : ¬ 2 ≤ at_ := by omega
  rw [if_pos h3]
  simp [this]
 ·have e2 : 2 ≤ at_ := by omega
  rw [if_neg h3, w64_id (n := (at_ : Int) - 2) (by omega) (by omega), show (at_ : Int) - 2 = ((at_ - 2 : Nat) : Int) by omega, if_pos (by omega), bt_getD l (by omega), letter_eq, some_bind, some_bind]
  cases ltI ((l.getD (at_ - 2) 0).toNat : Int)
  ·simp
  ·by_cases h4 : ((back l at_).length : Int) < b.Before
   ·have : ¬ b.Before ≤ ((back l at_).length : Int) := by omega
    simp [h4, this]
   ·by_cases h5 : ((fwd l at_).length : Int) < b.Behind
    ·have : ¬ b.Behind ≤ ((fwd l at_).length : Int) := by omega
     simp [h4, h5, this]
    ·have e4 : b.Before ≤ ((back l at_).length : Int) := by omega
     have e5 : b.Behind ≤ ((fwd l at_).length : Int) := by omega
     simp only [h4, h5, e4, e5, e2, Bool.not_true, Bool.false_eq_true, if_false, some_bind, decide_true, decide_false, Bool.true_and]
     rw [if_pos (by omega), if_pos (by omega)]
     generalize back l at_ = x at *
     generalize fwd l at_ = y at *
     cases x with
     | nil => simp at e4; omega
     | cons x xs =>
      cases y with
      | nil => simp at e5; omega
      | cons y ys =>
       rw [sub_one, sub_one, if_pos (show (⟨#[x]⟩ : ByteArray).size + (⟨#[y]⟩ : ByteArray).size ≤ 9223372036854775807 from (by show 1 + 1 ≤ 9223372036854775807; omega)), hm]
       rfl
theorem vb_open {b : api_Breaks} (h : vb b = true) : 1 ≤ b.Before ∧ b.Before ≤ 5 ∧ 1 ≤ b.Behind ∧ b.Behind ≤ 5 ∧ b.Keep.length ≤ 20 ∧ vfrom [] b.Keep = true := by
 unfold vb at h
 simp only [Bool.and_eq_true, decide_eq_true_eq] at h
 exact ⟨h.1.1.1.1, h.1.1.1.2, h.1.1.2.1, h.1.1.2.2, h.1.2, h.2⟩
def pls (f : Nat → Option Bool) (at_ : Nat) : Nat → List (Nat × Bool)
 | 0 => []
 | n + 1 => match f at_ with
  | some h => (at_, h) :: pls f (at_ + 1) n
  | none => pls f (at_ + 1) n
def brk (p : Nat × Bool) : api_Break := ⟨(p.1 : Int), p.2⟩
def LP (b : api_Breaks) (l : List UInt8) : List (Nat × Bool) := pls (plc b l) 1 (l.length - 1)
theorem pls_len (f : Nat → Option Bool) : ∀ (n a : Nat), (pls f a n).length ≤ n
 | 0, _ => Nat.le_refl _
 | n + 1, a => by
  have := pls_len f n (a + 1)
  simp only [pls]
  split
  ·simp only [List.length_cons]; omega
  ·omega
def Up : Nat → List (Nat × Bool) → Nat → Prop
 | a, [], e => a ≤ e
 | a, x :: xs, e => a ≤ x.1 ∧ Up x.1 xs e
theorem Up.mono {a a' e e' : Nat} : ∀ {xs : List (Nat × Bool)}, a' ≤ a → e ≤ e' → Up a xs e → Up a' xs e'
 | [], h, h', hu => Nat.le_trans h (Nat.le_trans hu h')
 | x :: xs, h, h', hu => ⟨Nat.le_trans h hu.1, Up.mono (Nat.le_refl _) h' hu.2⟩
theorem pls_up (f : Nat → Option Bool) : ∀ (n a : Nat), Up a (pls f a n) (a + n)
 | 0, a => Nat.le_refl _
 | n + 1, a => by
  have := pls_up f n (a + 1)
  simp only [pls]
  split
  ·exact ⟨Nat.le_refl _, Up.mono (by simp) (by omega) this⟩
  ·exact Up.mono (by omega) (by omega) this
def foldY {σ : Type} (φ : σ → api_Break → Option (σ × Bool)) : List (Nat × Bool) → σ → Option (Sum σ σ)
 | [], s => some (.inr s)
 | x :: xs, s => φ s (brk x) >>= fun y => if y.2 = true then foldY φ xs y.1 else some (.inl y.1)
theorem nb_snoc (l : List UInt8) (a : Nat) (h : a < l.length) : nb (l.take (a + 1)) = (nb (l.take a) || decide ((l.getD a 0).toNat ≠ 32)) := by
 rw [List.take_succ_eq_append_getElem h, List.getD_eq_getElem?_getD, List.getElem?_eq_getElem h]
 unfold nb
 rw [List.any_append, List.any_cons, List.any_nil, Bool.or_false, Option.getD_some]
theorem places_loop {σ : Type} (φ : σ → api_Break → Option (σ × Bool)) (b : api_Breaks) (l : List UInt8) (m : List (ByteArray × Bool)) (hm : ∀ k, (mget m k).getD false = decide (k ∈ b.Keep)) (hv : vb b = true) (hs : l.length ≤ 1000000) :
  ∀ (n a : Nat) (s : σ), l.length - a = n → 1 ≤ a → breaks_ruled_places_1_k1_l36 φ b.Before b.Behind b.Keep ⟨l.toArray⟩ m (nb (l.take (a - 1))) (a : Int) s = foldY φ (pls (plc b l) a n) s := by
 obtain ⟨v1, v2, v3, v4, v5, v6⟩ := vb_open hv
 intro n
 induction n with
 | zero =>
  intro a s hn ha
  rw [breaks_ruled_places_1_k1_l36, sz, if_neg (by omega)]
  rfl
 | succ n ih =>
  intro a s hn ha
  have hl : a < l.length := by omega
  have begun : (if nb (l.take (a - 1)) = true then some true else (if (0 : Int) ≤ w64 ((a : Int) - 1) ∧ w64 ((a : Int) - 1) < ((l.length : Nat) : Int) then some (decide (¬ (bt ⟨l.toArray⟩ (w64 ((a : Int) - 1))) = 32)) else none)) = some (nb (l.take a)) := by
   rw [w64_id (n := (a : Int) - 1) (by omega) (by omega), show (a : Int) - 1 = ((a - 1 : Nat) : Int) by omega, if_pos (c := (0 : Int) ≤ _ ∧ _) (by omega), bt_getD l (by omega)]
   have := nb_snoc l (a - 1) (by omega)
   rw [show a - 1 + 1 = a by omega] at this
   rw [this]
   cases nb (l.take (a - 1))
   ·simp; omega
   ·simp
  have next := fun s => ih (a + 1) s (by omega) (by omega)
  rw [show a + 1 - 1 = a by omega] at next
  rw [breaks_ruled_places_1_k1_l36, sz, if_pos (by omega), begun, some_bind]
  rw [w64_id (n := (a : Int) - 1) (by omega) (by omega), w64_id (n := (a : Int) + 1) (by omega) (by omega), show (a : Int) - 1 = ((a - 1 : Nat) : Int) by omega, add1, if_pos (c := (0 : Int) ≤ ((a - 1 : Nat) : Int) ∧ _) (by omega), bt_getD l (show a - 1 < l.length by omega), bt_getD l hl]
  have yld : ∀ (h : Bool), decide (((l.getD (a - 1) 0).toNat : Int) = 126) = h →
    (((φ s (⟨(a : Int), decide (((l.getD (a - 1) 0).toNat : Int) = 126)⟩ : api_Break) >>= fun (s120, b121) => some (!b121, s120)) >>= fun (v109, v111) => (if v109 = true then some (Sum.inl v111) else some (Sum.inr (nb (l.take a), v111)))) >>= fun (o78 : Sum σ (Bool × σ)) => match o78 with | (Sum.inl v64) => some (Sum.inl v64) | (Sum.inr (v66, v68)) => breaks_ruled_places_1_k1_l36 φ b.Before b.Behind b.Keep ⟨l.toArray⟩ m v66 ((a + 1 : Nat) : Int) v68)
     = foldY φ ((a, h) :: pls (plc b l) (a + 1) n) s := by
   intro h hh
   rw [hh]
   show _ = φ s (brk (a, h)) >>= _
   show (((φ s (brk (a, h)) >>= _) >>= _) >>= _) = _
   cases φ s (brk (a, h)) with
   | none => rfl
   | some y =>
    obtain ⟨s', b'⟩ := y
    cases b'
    ·rfl
    ·simp only [some_bind, Bool.not_true, Bool.false_eq_true, if_false, if_true]
     exact next s'
  have nay : ((some (false, s) >>= fun (v109, v111) => (if v109 = true then some (Sum.inl v111) else some (Sum.inr (nb (l.take a), v111)))) >>= fun (o78 : Sum σ (Bool × σ)) => match o78 with | (Sum.inl v64) => some (Sum.inl v64) | (Sum.inr (v66, v68)) => breaks_ruled_places_1_k1_l36 φ b.Before b.Behind b.Keep ⟨l.toArray⟩ m v66 ((a + 1 : Nat) : Int) v68)
     = foldY φ (pls (plc b l) (a + 1) n) s := by
   simp only [some_bind, Bool.false_eq_true, if_false]
   exact next s
  simp only [pls]
  rw [plc.eq_1 b l a]
  by_cases c1 : (l.getD (a - 1) 0).toNat = 32
  ·rw [if_pos (c := ((l.getD (a - 1) 0).toNat : Int) = 32) (by omega), if_pos c1]
   have hd : ((if nb (l.take a) = true then (if (0 : Int) ≤ (a : Int) ∧ (a : Int) < ((l.length : Nat) : Int) then some (decide (¬ ((l.getD a 0).toNat : Int) = 32)) else none) else some false) : Option Bool) = some (decide (nb (l.take a) = true ∧ (l.getD a 0).toNat ≠ 32)) := by
    rw [if_pos (c := (0 : Int) ≤ (a : Int) ∧ _) (by omega)]
    generalize (l.getD a 0).toNat = d
    by_cases d1 : d = 32
    ·have d1' : ((d : Nat) : Int) = 32 := by omega
     cases nb (l.take a) <;> simp [d1, d1']
    ·have d1' : ¬ ((d : Nat) : Int) = 32 := by omega
     cases nb (l.take a) <;> simp [d1, d1']
   rw [hd, some_bind]
   by_cases hp : nb (l.take a) = true ∧ (l.getD a 0).toNat ≠ 32
   ·rw [if_pos hp, decide_eq_true hp]
    simp only [if_true]
    rw [if_pos (by omega)]
    exact yld false (decide_eq_false (by omega))
   ·rw [if_neg hp, decide_eq_false hp]
    simp only [if_false, Bool.false_eq_true]
    exact nay
  ·rw [if_neg (c := ((l.getD (a - 1) 0).toNat : Int) = 32) (by omega), if_neg c1]
   by_cases c2 : (l.getD (a - 1) 0).toNat = 45
   ·rw [if_pos (c := ((l.getD (a - 1) 0).toNat : Int) = 45) (by omega), if_pos c2]
    by_cases h2 : 2 ≤ a
    ·rw [if_pos (c := (1 : Int) < (a : Int)) (by omega), w64_id (n := (a : Int) - 2) (by omega) (by omega), show (a : Int) - 2 = ((a - 2 : Nat) : Int) by omega, if_pos (c := (0 : Int) ≤ ((a - 2 : Nat) : Int) ∧ _) (by omega), bt_getD l (show a - 2 < l.length by omega), solid_eq, some_bind, solid_eq, some_bind]
     rw [if_pos (c := (0 : Int) ≤ (a : Int) ∧ _) (by omega), some_bind]
     cases soI ((l.getD (a - 2) 0).toNat : Int)
     ·simp only [Bool.false_eq_true, if_false, some_bind, and_false, false_and]
      exact nay
     ·simp only [if_true, some_bind]
      cases soI ((l.getD a 0).toNat : Int)
      ·simp only [Bool.false_eq_true, if_false, and_false]
       exact nay
      ·simp only [h2, if_true, and_self]
       rw [if_pos (by omega)]
       exact yld false (decide_eq_false (by omega))
    ·rw [if_neg (c := (1 : Int) < (a : Int)) (by omega), some_bind]
     simp only [h2, Bool.false_eq_true, if_false, some_bind, false_and]
     exact nay
   ·rw [if_neg (c := ((l.getD (a - 1) 0).toNat : Int) = 45) (by omega), if_neg c2]
    by_cases c3 : (l.getD (a - 1) 0).toNat = 126
    ·rw [if_pos (c := ((l.getD (a - 1) 0).toNat : Int) = 126) (by omega), if_pos c3, soft_mk b l hs m hm v1 v3 ha hl, some_bind]
     cases soP b l a
     ·simp only [Bool.false_eq_true, if_false]
      exact nay
     ·simp only [if_true]
      rw [if_pos (by omega)]
      exact yld true (decide_eq_true (by omega))
    ·rw [if_neg (c := ((l.getD (a - 1) 0).toNat : Int) = 126) (by omega), if_neg c3]
     simp only [some_bind]
     exact next s
theorem places_mk {σ : Type} (φ : σ → api_Break → Option (σ × Bool)) (b : api_Breaks) (l : List UInt8) (m : List (ByteArray × Bool)) (hm : ∀ k, (mget m k).getD false = decide (k ∈ b.Keep)) (hv : vb b = true) (hs : l.length ≤ 1000000) (s : σ) :
  breaks_ruled_places_1_k1 φ s b.Before b.Behind b.Keep ⟨l.toArray⟩ m = foldY φ (LP b l) s >>= fun o => match o with | .inl v => some v | .inr v => some v := by
 have := places_loop φ b l m hm hv hs (l.length - 1) 1 s rfl (Nat.le_refl _)
 unfold breaks_ruled_places_1_k1 LP
 rw [← this]
 rfl
theorem LP_len (b : api_Breaks) (l : List UInt8) : (LP b l).length ≤ l.length := Nat.le_trans (pls_len _ _ _) (by omega)
theorem list_fold : ∀ (xs : List (Nat × Bool)) (acc : List api_Break), acc.length + xs.length ≤ 1000000 → foldY (rnd (fun u x => breaks_List_r104 u x)) xs (acc, none) = some (.inr (acc ++ xs.map brk, none))
 | [], acc, h => by simp [foldY]
 | x :: xs, acc, h => by
  have ih := list_fold xs (acc ++ [brk x]) (by simp at *; omega)
  simp only [List.length_cons] at h
  have step : rnd (fun u x => breaks_List_r104 u x) (acc, none) (brk x) = some ((acc ++ [brk x], none), true) := by
   unfold rnd breaks_List_r104
   simp only
   rw [if_pos (by omega)]; rfl
  show (rnd (fun u x => breaks_List_r104 u x) (acc, none) (brk x) >>= fun y => if y.2 = true then foldY (rnd (fun u x => breaks_List_r104 u x)) xs y.1 else some (.inl y.1)) = _
  rw [step, some_bind]
  simp only [if_true]
  rw [ih]
  simp
theorem list_mk (b : api_Breaks) (l : List UInt8) (hk : b.Keep.length ≤ 100000000000000) :
  breaks_List b ⟨l.toArray⟩ = some (if (vb b && okS l) = true then ((LP b l).map brk, 0) else ([], 1)) := by
 obtain ⟨m, h1, hm⟩ := prepare_mk b l hk
 unfold breaks_List
 rw [h1, some_bind]
 cases hv : vb b
 ·simp
 ·cases ho : okS l
  ·simp
  ·have h2 := (okS_all ho).2
   simp only [Bool.and_self, Bool.not_true, Bool.false_eq_true, if_false, if_true]
   unfold breaks_ruled_places_k1
   simp only [some_bind]
   rw [places_mk _ b l m hm hv (by omega), list_fold _ [] (by have := LP_len b l; simp; omega), some_bind]
   simp

def part (l : List UInt8) (a e : Nat) (h : Bool) : List UInt8 := trim (shown ((l.drop a).take (e - a))) ++ (if h = true then [45] else [])
theorem replaceK_shown : ∀ (s : List UInt8), replaceK [126] [] (s.count 126) s = shown s
 | [] => rfl
 | b :: s => by
  have ih := replaceK_shown s
  by_cases h : b = 126
  ·subst h
   rw [List.count_cons_self, replaceK_hit _ _ _ _ 0 (by rw [index_one]; rfl)]
   simpa [shown] using ih
  ·have h' : ¬ b.toNat = 126 := fun e => h (UInt8.toNat_inj.1 (by rw [e]; rfl))
   rw [List.count_cons_of_ne (fun e => h e), shown_cons, if_neg h', ← ih]
   cases hc : s.count 126 with
   | zero => rfl
   | succ k =>
    obtain ⟨i, hi⟩ := index_of_count (s := s) (old := [126]) (by rw [count_one]; omega)
    have hi' : index (b :: s) [126] = ((i + 1 : Nat) : Int) := by
     rw [index_one] at hi ⊢
     unfold indexByte
     simp [h, hi]
     all_goals omega
    rw [replaceK_hit _ _ _ _ _ hi, replaceK_hit _ _ _ _ _ hi']
    simp
theorem replaceAll_shown (s : List UInt8) : replaceAll s [126] [] = shown s := by
 have h1 : ¬ (([126] : List UInt8) == []) = true := by decide
 unfold replaceAll replace replaceNum
 rw [if_neg h1, if_pos (.inl (by omega)), count_one, replaceK_shown]
theorem mk_append (p q : List UInt8) : (⟨p.toArray⟩ : ByteArray) ++ ⟨q.toArray⟩ = ⟨(p ++ q).toArray⟩ := by
 apply ByteArray.ext
 simp
theorem trim_len (l : List UInt8) : (trim l).length ≤ l.length := by
 have h1 : (tr l).length ≤ l.length := by
  unfold tr trimRightB
  rw [List.length_reverse]
  exact Nat.le_trans (List.dropWhile_sublist _).length_le (by simp)
 exact Nat.le_trans (tl_len _) h1
theorem piece_len (l : List UInt8) (a e : Nat) : ((l.drop a).take (e - a)).length ≤ l.length := by simp; omega
theorem LP_up (b : api_Breaks) (l : List UInt8) : Up 0 (LP b l) l.length := by
 unfold LP
 by_cases h : l.length = 0
 ·rw [h]; exact Nat.le_refl _
 ·exact Up.mono (by omega) (by omega) (pls_up (plc b l) (l.length - 1) 1)
theorem okS_piece {l : List UInt8} (h : okS l = true) (a n : Nat) : okS ((l.drop a).take n) = true := by
 obtain ⟨h1, h2⟩ := okS_all h
 exact okS_of (fun b hb => h1 b (List.mem_of_mem_drop (List.mem_of_mem_take hb))) (by simp; omega)
end Go.Proofs.YtaemgcpcfnbmdaaGreatDoor.LG
namespace Go.Proofs.YtaemgcpcfnbmdaaGreatDoor.LG
open Go Go.LG Go.Lib

theorem mid_eq {i j : Int} (hi : 0 ≤ i) (hj : 0 ≤ j) (h : i + j ≤ 2000000) : w64 (Int.fdiv (IntKind.wrap .u64 (w64 (i + j))) (2 ^ 1)) = (i + j) / 2 := by
 have e1 : w64 (i + j) = i + j := w64_id (by omega) (by omega)
 have e2 : IntKind.wrap .u64 (i + j) = i + j := by
  simp [IntKind.wrap, IntKind.bits, IntKind.signed]
  omega
 rw [e1, e2]
 have e3 : Int.fdiv (i + j) (2 ^ 1) = (i + j) / 2 := by
  rw [Int.fdiv_eq_ediv_of_nonneg _ (by decide)]; rfl
 rw [e3]
 exact w64_id (by omega) (by omega)
theorem cmp_byte (a b : Int) : cmp_Compare_byte a b = some (if a < b then -1 else if b < a then 1 else 0) := by
 unfold cmp_Compare_byte cmp_isNaN_byte
 simp
 split
 ·rfl
 ·split <;> rfl
def Tot {α : Type} (x : Option α) : Prop := ∃ r, x = some r
theorem Tot.val {α : Type} {a : α} : Tot (some a) := ⟨a, rfl⟩
theorem Tot.bind {α β : Type} {x : Option α} {f : α → Option β} (h : Tot x) (k : ∀ a, x = some a → Tot (f a)) : Tot (x >>= f) := by
 obtain ⟨a, ha⟩ := h
 rw [ha, some_bind]; exact k a ha
theorem Tot.ite {α : Type} {c : Prop} [Decidable c] {x y : Option α} (h : c → Tot x) (k : ¬ c → Tot y) : Tot (if c then x else y) := by
 by_cases hc : c
 ·rw [if_pos hc]; exact h hc
 ·rw [if_neg hc]; exact k hc
theorem Tot.sub {α : Type} {c : Prop} [Decidable c] {x : Option α} (hc : c) (h : Tot x) : Tot (if c then x else none) := by rw [if_pos hc]; exact h
theorem glyph_1_eq (g : api_Glyph) (b : Int) : font_glyph_1 g b = some (if g.Byte < b then -1 else if b < g.Byte then 1 else 0) := by
 unfold font_glyph_1
 rw [cmp_byte, some_bind]
theorem bs_byte (l : List api_Glyph) (b : Int) (hl : l.length ≤ 1000000) : ∀ (n : Nat) (i j : Int), (j - i).toNat = n → 0 ≤ i → i ≤ j → j ≤ (l.length : Int) →
  ∃ r : Int, slices_BinarySearchFunc_byte_k1_l27 l b i j = some r ∧ 0 ≤ r ∧ r ≤ (l.length : Int) := by
 intro n
 induction n using Nat.strongRecOn with
 | _ n ih =>
  intro i j hn h0 h1 h2
  rw [slices_BinarySearchFunc_byte_k1_l27]
  by_cases h : i < j
  ·rw [if_pos h, mid_eq h0 (by omega) (by omega), if_pos ⟨by omega, by omega⟩, glyph_1_eq, some_bind]
   have e : w64 ((i + j) / 2 + 1) = (i + j) / 2 + 1 := w64_id (by omega) (by omega)
   rw [e]
   by_cases hc : (if (l.getD (Int.toNat ((i + j) / 2)) z_api_Glyph).Byte < b then (-1 : Int) else if b < (l.getD (Int.toNat ((i + j) / 2)) z_api_Glyph).Byte then 1 else 0) < 0
   ·rw [if_pos hc]
    exact ih _ (by omega) _ _ rfl (by omega) (by omega) h2
   ·rw [if_neg hc]
    exact ih _ (by omega) _ _ rfl h0 (by omega) (by omega)
  ·rw [if_neg h]; exact ⟨i, rfl, h0, by omega⟩
theorem glyph_tot (f : api_Font) (b : Int) (hf : f.Glyphs.length ≤ 1000000) : Tot (font_glyph f b) := by
 obtain ⟨r, hr, h0, h1⟩ := bs_byte f.Glyphs b hf _ 0 _ rfl (Int.le_refl _) (by omega) (Int.le_refl _)
 unfold font_glyph
 refine Tot.bind ?_ fun a _ => Tot.val
 unfold font_find_byte_k1 slices_BinarySearchFunc_byte_k1
 rw [hr, some_bind]
 by_cases h : r < (f.Glyphs.length : Int)
 ·rw [if_pos h, if_pos ⟨h0, h⟩, glyph_1_eq]
  simp only [some_bind]
  exact Tot.ite (fun _ => Tot.val) fun _ => Tot.sub ⟨h0, h⟩ Tot.val
 ·rw [if_neg h]
  simp only [some_bind]
  exact Tot.ite (fun _ => Tot.val) fun hc => absurd rfl hc
theorem or2 (a b : Int) : cmp_Or_int [a, b] = some (if a = 0 then b else a) := by
 unfold cmp_Or_int
 rw [cmp_Or_int_l24]
 have e1 : w64 (0 + 1) = 1 := by decide
 have e2 : w64 (1 + 1) = 2 := by decide
 by_cases ha : a = 0
 ·subst ha
  rw [e1, cmp_Or_int_l24, e2, cmp_Or_int_l24]
  by_cases hb : b = 0
  ·subst hb; rfl
  ·simp [hb]
 ·simp [ha]
theorem order_tot (k : api_Kern) (p : font_pair) : Tot (font_order k p) := by
 unfold font_order cmp_Compare_byte cmp_isNaN_byte
 refine Tot.bind ?_ fun a _ => Tot.bind ?_ fun b _ => Tot.bind ⟨_, or2 a b⟩ fun _ _ => Tot.val
 ·have := cmp_byte k.Left p.left; unfold cmp_Compare_byte cmp_isNaN_byte at this; exact ⟨_, this⟩
 ·have := cmp_byte k.Right p.right; unfold cmp_Compare_byte cmp_isNaN_byte at this; exact ⟨_, this⟩
theorem bs_kern (l : List api_Kern) (p : font_pair) (hl : l.length ≤ 1000000) : ∀ (n : Nat) (i j : Int), (j - i).toNat = n → 0 ≤ i → i ≤ j → j ≤ (l.length : Int) →
  ∃ r : Int, slices_BinarySearchFunc_font_pair_k1_l31 l p i j = some r ∧ 0 ≤ r ∧ r ≤ (l.length : Int) := by
 intro n
 induction n using Nat.strongRecOn with
 | _ n ih =>
  intro i j hn h0 h1 h2
  rw [slices_BinarySearchFunc_font_pair_k1_l31]
  by_cases h : i < j
  ·rw [if_pos h, mid_eq h0 (by omega) (by omega), if_pos ⟨by omega, by omega⟩]
   obtain ⟨y, hy⟩ := order_tot (l.getD (Int.toNat ((i + j) / 2)) z_api_Kern) p
   rw [hy, some_bind]
   have e : w64 ((i + j) / 2 + 1) = (i + j) / 2 + 1 := w64_id (by omega) (by omega)
   rw [e]
   by_cases hc : y < 0
   ·rw [if_pos hc]
    exact ih _ (by omega) _ _ rfl (by omega) (by omega) h2
   ·rw [if_neg hc]
    exact ih _ (by omega) _ _ rfl h0 (by omega) (by omega)
  ·rw [if_neg h]; exact ⟨i, rfl, h0, by omega⟩
theorem find_tot (l : List api_Kern) (p : font_pair) (hl : l.length ≤ 1000000) : Tot (font_find_font_pair_k1 l p) := by
 obtain ⟨r, hr, h0, h1⟩ := bs_kern l p hl _ 0 _ rfl (Int.le_refl _) (by omega) (Int.le_refl _)
 unfold font_find_font_pair_k1 slices_BinarySearchFunc_font_pair_k1
 rw [hr, some_bind]
 by_cases h : r < (l.length : Int)
 ·obtain ⟨y, hy⟩ := order_tot (l.getD (Int.toNat r) z_api_Kern) p
  rw [if_pos h, if_pos ⟨h0, h⟩, hy]
  simp only [some_bind]
  exact Tot.ite (fun _ => Tot.val) fun _ => Tot.sub ⟨h0, h⟩ Tot.val
 ·rw [if_neg h]
  simp only [some_bind]
  exact Tot.ite (fun _ => Tot.val) fun hc => absurd rfl hc
theorem valid45_tot (f : api_Font) (hf : f.Glyphs.length ≤ 1000000) : ∀ (n i : Nat), f.Glyphs.length - i = n → Tot (font_Valid_l45 f (i : Int)) := by
 intro n
 induction n with
 | zero => intro i hn; rw [font_Valid_l45, if_neg (by omega)]; exact Tot.val
 | succ n ih =>
  intro i hn
  rw [font_Valid_l45, if_pos (by omega), if_pos ⟨by omega, by omega⟩, w64_id (n := (i : Int) + 1) (by omega) (by omega)]
  refine Tot.bind ?_ fun _ _ => Tot.ite (fun _ => Tot.val) fun _ => ih (i + 1) (by omega)
  refine Tot.ite (fun _ => Tot.val) fun _ => Tot.ite (fun _ => Tot.val) fun _ => Tot.ite (fun _ => Tot.val) fun _ => Tot.ite (fun _ => Tot.val) fun _ => Tot.ite (fun h => ?_) fun _ => Tot.val
  rw [w64_id (n := (i : Int) - 1) (by omega) (by omega)]
  exact Tot.sub ⟨by omega, by omega⟩ Tot.val
theorem valid124_tot (f : api_Font) (hf : f.Glyphs.length ≤ 1000000) (hk : f.Kerns.length ≤ 1000000) : ∀ (n i : Nat), f.Kerns.length - i = n → Tot (font_Valid_l124 f (i : Int)) := by
 intro n
 induction n with
 | zero => intro i hn; rw [font_Valid_l124, if_neg (by omega)]; exact Tot.val
 | succ n ih =>
  intro i hn
  rw [font_Valid_l124, if_pos (by omega), if_pos ⟨by omega, by omega⟩, w64_id (n := (i : Int) + 1) (by omega) (by omega)]
  refine Tot.bind (glyph_tot f _ hf) fun a _ => Tot.bind (glyph_tot f _ hf) fun b _ => Tot.bind (Tot.ite (fun _ => Tot.val) fun _ => Tot.val) fun _ _ => Tot.bind (Tot.ite (fun _ => Tot.val) fun _ => Tot.val) fun _ _ => Tot.bind (Tot.ite (fun _ => Tot.val) fun _ => Tot.val) fun _ _ => ?_
  refine Tot.ite (fun _ => Tot.val) fun _ => Tot.bind ?_ fun _ _ => Tot.ite (fun _ => Tot.val) fun _ => ih (i + 1) (by omega)
  refine Tot.ite (fun h => ?_) fun _ => Tot.val
  rw [w64_id (n := (i : Int) - 1) (by omega) (by omega)]
  exact Tot.sub ⟨by omega, by omega⟩ (Tot.bind (order_tot _ _) fun _ _ => Tot.val)
theorem fvalid_tot (f : api_Font) (hf : f.Glyphs.length ≤ 1000000) (hk : f.Kerns.length ≤ 1000000) : Tot (font_Valid f) := by
 unfold font_Valid
 refine Tot.bind (Tot.ite (fun _ => Tot.val) fun _ => Tot.val) fun _ _ => Tot.ite (fun _ => Tot.val) fun _ => Tot.bind (valid45_tot f hf _ 0 rfl) fun o _ => ?_
 cases o
 ·exact Tot.val
 ·refine Tot.bind (valid124_tot f hf hk _ 0 rfl) fun o _ => ?_
  cases o <;> exact Tot.val
end Go.Proofs.YtaemgcpcfnbmdaaGreatDoor.LG
namespace Go.Proofs.YtaemgcpcfnbmdaaGreatDoor.LG
open Go Go.LG Go.Lib

def Sm (f : api_Font) : Prop := f.Glyphs.length ≤ 1000000 ∧ f.Kerns.length ≤ 1000000
theorem has_loop (f : api_Font) (hf : Sm f) (l : List UInt8) (hl : ∀ b ∈ l, 32 ≤ b.toNat ∧ b.toNat ≤ 126) : ∀ (n i : Nat), l.length - i = n → Tot (font_Has_l62 f ⟨l.toArray⟩ i) := by
 intro n
 induction n with
 | zero => intro i hn; rw [font_Has_l62, sz, if_neg (by omega)]; exact Tot.val
 | succ n ih =>
  intro i hn
  have hlt : i < l.length := by omega
  have hb := hl _ (List.getElem_mem hlt)
  rw [font_Has_l62, sz, if_pos hlt, decode_small l hlt (by omega)]
  exact Tot.bind (glyph_tot f _ hf.1) fun _ _ => Tot.bind (Tot.ite (fun _ => Tot.val) fun _ => Tot.val) fun _ _ => Tot.ite (fun _ => Tot.val) fun _ => ih (i + 1) (by omega)
theorem has_tot (f : api_Font) (hf : Sm f) (l : List UInt8) : Tot (font_Has f ⟨l.toArray⟩) := by
 unfold font_Has
 rw [valid_mk]
 refine Tot.bind (fvalid_tot f hf.1 hf.2) fun y _ => Tot.bind (Tot.ite (fun _ => Tot.val) fun _ => Tot.val) fun v hv => Tot.ite (fun _ => Tot.val) fun hn => ?_
 have ho : okS l = true := by
  by_cases hy : (!y) = true
  ·rw [if_pos hy] at hv; cases hv; exact absurd rfl hn
  ·rw [if_neg hy, some_bind] at hv; cases hv; simpa using hn
 refine Tot.bind (has_loop f hf l (okS_all ho).1 _ 0 rfl) fun o _ => ?_
 cases o <;> exact Tot.val
theorem has_ok {f : api_Font} (hf : Sm f) {l : List UInt8} {b : Bool} {e : Int} (h : font_Has f ⟨l.toArray⟩ = some (b, e)) (he : e = 0) : okS l = true := by
 subst he
 obtain ⟨y, hy⟩ := fvalid_tot f hf.1 hf.2
 unfold font_Has at h
 rw [valid_mk, hy] at h
 simp only [some_bind] at h
 cases ho : okS l
 ·rw [ho] at h
  cases y <;> simp at h
 ·rfl
theorem raw_step (f : api_Font) (hf : Sm f) (u : Int) (p : font_pair) : ∃ u2, rnd (fun (u : Int) (x : font_pair) => font_Raw_r67 f u x) (u, none) p = some ((u2, none), true) := by
 obtain ⟨g, hg⟩ := glyph_tot f p.right hf.1
 obtain ⟨k, hk⟩ := find_tot f.Kerns p hf.2
 unfold rnd font_Raw_r67
 simp only [hg, hk, some_bind]
 exact ⟨_, rfl⟩
theorem raw_loop (f : api_Font) (hf : Sm f) (l : List UInt8) (hl : ∀ b ∈ l, 32 ≤ b.toNat ∧ b.toNat ≤ 126) : ∀ (n i : Nat) (p u : Int), l.length - i = n →
  ∃ j u2, font_pairs_1_k1_l30 (rnd (fun (u : Int) (x : font_pair) => font_Raw_r67 f u x)) ⟨l.toArray⟩ p i (u, none) = some (.inr (j, (u2, none))) := by
 intro n
 induction n with
 | zero => intro i p u hn; rw [font_pairs_1_k1_l30, sz, if_neg (by omega)]; exact ⟨_, _, rfl⟩
 | succ n ih =>
  intro i p u hn
  have hlt : i < l.length := by omega
  have hb := hl _ (List.getElem_mem hlt)
  rw [font_pairs_1_k1_l30, sz, if_pos hlt, decode_small l hlt (by omega)]
  by_cases h : ((l[i].toNat, 1).1 : Int) = 126
  ·rw [if_pos h]; exact ih (i + 1) p u (by omega)
  ·rw [if_neg h]
   obtain ⟨u2, h2⟩ := raw_step f hf u ⟨p, wu8 (((l[i].toNat, 1).1 : Int))⟩
   rw [h2, some_bind]
   exact ih (i + 1) _ u2 (by omega)
theorem raw_tot (f : api_Font) (hf : Sm f) (l : List UInt8) : Tot (font_Raw f ⟨l.toArray⟩) := by
 unfold font_Raw
 refine Tot.bind (has_tot f hf l) fun a ha => ?_
 obtain ⟨b, e⟩ := a
 refine Tot.ite (fun _ => Tot.val) fun he => Tot.ite (fun _ => Tot.val) fun _ => ?_
 have ho := has_ok hf ha (Decidable.not_not.1 he)
 obtain ⟨j, u, hu⟩ := raw_loop f hf l (okS_all ho).1 _ 0 0 0 rfl
 unfold font_pairs font_pairs_1_k1
 rw [some_bind, hu]
 exact Tot.val
theorem width_tot (f : api_Font) (hf : Sm f) (l : List UInt8) (s : Int) : Tot (font_Width f ⟨l.toArray⟩ s) := by
 unfold font_Width
 exact Tot.bind (raw_tot f hf l) fun _ _ => Tot.bind (Tot.ite (fun _ => Tot.val) fun _ => Tot.val) fun _ _ => Tot.bind (Tot.ite (fun _ => Tot.val) fun _ => Tot.val) fun _ _ => Tot.ite (fun _ => Tot.val) fun _ => Tot.ite (fun _ => Tot.val) fun _ => Tot.val
theorem seen_mk (l : List UInt8) (hs : l.length ≤ 1000000) {a e : Nat} (hae : a ≤ e) (he : e ≤ l.length) (h : Bool) : inline_seen ⟨l.toArray⟩ (a : Int) (e : Int) h = some ⟨(part l a e h).toArray⟩ := by
 have hp := piece_len l a e
 unfold inline_seen strings_ReplaceAll strings_Trim
 rw [sz, if_pos (by omega), sub_data]
 simp only
 have e1 : ((⟨#[126]⟩ : ByteArray)).data.toList = [126] := rfl
 have e2 : ((⟨#[]⟩ : ByteArray)).data.toList = [] := rfl
 have e3 : ((⟨#[32]⟩ : ByteArray)).data.toList = [32] := rfl
 rw [sz, if_pos ⟨by omega, by decide, by decide⟩, some_bind, replaceAll_shown]
 have hsl := shown_len ((l.drop a).take (e - a))
 have htl := trim_len (shown ((l.drop a).take (e - a)))
 rw [sz, if_pos (by omega)]
 simp only
 rw [if_pos (by decide), some_bind]
 have ht : (trimB (shown ((l.drop a).take (e - a))) 32).length ≤ 1000000 := Nat.le_trans htl (by omega)
 cases h
 ·simp only [Bool.false_eq_true, if_false]
  unfold part
  simp only [Bool.false_eq_true, if_false, List.append_nil]
  rfl
 ·simp only [if_true]
  have e4 : (⟨#[45]⟩ : ByteArray).size = 1 := rfl
  rw [sz, e4, if_pos (by omega)]
  unfold part
  simp only [if_true]
  exact congrArg some (mk_append (trimB (shown ((l.drop a).take (e - a))) 32) [45])
def W (f : api_Font) (l : List UInt8) (s : Int) (a : Nat) (p : Nat × Bool) : Int := ((font_Width f ⟨(part l a p.1 p.2).toArray⟩ s).map (·.1)).getD 0
def ln (f : api_Font) (l : List UInt8) (s : Int) (a : Nat) (p : Nat × Bool) : api_Line := ⟨(a : Int), (p.1 : Int), W f l s a p, p.2⟩
theorem line_mk (f : api_Font) (hf : Sm f) (l : List UInt8) (hs : l.length ≤ 1000000) (E : List api_Break) (s : Int) {a : Nat} {p : Nat × Bool} (hae : a ≤ p.1) (he : p.1 ≤ l.length) :
  inline_setter_line_k1 ⟨l.toArray⟩ E f s (a : Int) (brk p) = some (ln f l s a p) := by
 obtain ⟨⟨w, e⟩, hw⟩ := width_tot f hf (part l a p.1 p.2) s
 unfold inline_setter_line_k1 inline_prepare_2_k1
 show (inline_seen ⟨l.toArray⟩ (a : Int) (p.1 : Int) p.2 >>= _) = _
 rw [seen_mk l hs hae he, some_bind, hw]
 unfold ln W
 rw [hw]
 rfl
end Go.Proofs.YtaemgcpcfnbmdaaGreatDoor.LG
namespace Go.Proofs.YtaemgcpcfnbmdaaGreatDoor.LG
open Go Go.LG Go.Lib

def ends (b : api_Breaks) (l : List UInt8) : List (Nat × Bool) := LP b l ++ [(l.length, false)]
theorem up_pw : ∀ {xs : List (Nat × Bool)} {a e : Nat}, Up a xs e → xs.Pairwise (fun x y => x.1 ≤ y.1) ∧ ∀ x ∈ xs, a ≤ x.1 ∧ x.1 ≤ e
 | [], a, e, _ => ⟨List.Pairwise.nil, fun _ h => nomatch h⟩
 | x :: xs, a, e, h => by
  obtain ⟨h1, h2⟩ := up_pw h.2
  have hx : x.1 ≤ e := by
   cases xs with
   | nil => exact h.2
   | cons y ys => have := h2 y (by simp); omega
  refine ⟨List.pairwise_cons.2 ⟨fun y hy => (h2 y hy).1, h1⟩, fun y hy => ?_⟩
  rcases List.mem_cons.1 hy with rfl | hy
  ·exact ⟨h.1, hx⟩
  ·have := h2 y hy; have := h.1; omega
theorem ends_pw (b : api_Breaks) (l : List UInt8) : (ends b l).Pairwise (fun x y => x.1 ≤ y.1) ∧ ∀ x ∈ ends b l, x.1 ≤ l.length := by
 obtain ⟨h1, h2⟩ := up_pw (LP_up b l)
 unfold ends
 refine ⟨List.pairwise_append.2 ⟨h1, List.pairwise_singleton _ _, fun x hx y hy => ?_⟩, fun x hx => ?_⟩
 ·rw [List.mem_singleton.1 hy]; exact (h2 x hx).2
 ·rcases List.mem_append.1 hx with hx | hx
  ·exact (h2 x hx).2
  ·rw [List.mem_singleton.1 hx]; exact Nat.le_refl _
theorem ends_len (b : api_Breaks) (l : List UInt8) : (ends b l).length ≤ l.length + 1 := by
 have := LP_len b l
 unfold ends; simp; exact this
theorem getD_map_brk (E : List (Nat × Bool)) {i : Nat} (h : i < E.length) : (E.map brk).getD (Int.toNat (i : Int)) z_api_Break = brk E[i] := by
 simp [List.getD_eq_getElem?_getD, h]
theorem index_loop (E : List (Nat × Bool)) (hE : E.length ≤ 1000000) (a : Nat) (hl : ∃ x, E.getLast? = some x ∧ a < x.1) : ∀ (n i : Nat), E.length - i = n → i < E.length → (∀ j (h : j < E.length), j < i → E[j].1 ≤ a) →
  ∃ k, ∃ h : k < E.length, slices_IndexFunc_api_Break_k2_l25 (E.map brk) (a : Int) (i : Int) = some (.inl (k : Int)) ∧ a < E[k].1 ∧ ∀ j (h : j < E.length), j < k → E[j].1 ≤ a := by
 intro n
 induction n with
 | zero => intro i hn hi; omega
 | succ n ih =>
  intro i hn hi hb
  rw [slices_IndexFunc_api_Break_k2_l25, List.length_map, if_pos (by omega), if_pos ⟨by omega, by omega⟩, getD_map_brk E hi]
  unfold inline_setter_next_1_k1
  rw [some_bind]
  show ∃ k, ∃ h : k < E.length, (if decide ((a : Int) < (E[i].1 : Int)) = true then _ else _) = _ ∧ _
  by_cases h : a < E[i].1
  ·rw [if_pos (by simpa using h)]
   exact ⟨i, hi, rfl, h, hb⟩
  ·rw [if_neg (by simpa using h), w64_id (by omega) (by omega), add1]
   have hi2 : i + 1 < E.length := by
    rcases Nat.lt_or_ge (i + 1) E.length with h' | h'
    ·exact h'
    ·obtain ⟨x, hx, hax⟩ := hl
     have : i = E.length - 1 := by omega
     rw [List.getLast?_eq_getElem?, ← this, List.getElem?_eq_getElem hi] at hx
     cases hx; omega
   refine ih (i + 1) (by omega) hi2 fun j hj hji => ?_
   rcases Nat.lt_or_ge j i with h' | h'
   ·exact hb j hj h'
   ·have : j = i := by omega
    subst this; omega
def pick (w : Nat × Bool → Int) (room : Int) (D : List (Nat × Bool)) : Nat → Option Nat
 | 0 => none
 | m + 1 => if w (D.getD m (0, false)) ≤ room then some m else pick w room D m
theorem pick_lt {w : Nat × Bool → Int} {room : Int} {D : List (Nat × Bool)} : ∀ {m i : Nat}, pick w room D m = some i → i < m ∧ w (D.getD i (0, false)) ≤ room
 | 0, i, h => nomatch h
 | m + 1, i, h => by
  unfold pick at h
  split at h
  ·cases h; exact ⟨Nat.lt_succ_self _, by assumption⟩
  ·have := pick_lt h; exact ⟨by omega, this.2⟩
def tup (x : api_Line) : Int × Int × Int × Bool := (x.From, x.Until, x.Width, x.Hyphen)
abbrev nx (s : ByteArray) (E : List api_Break) (f : api_Font) (sc a room : Int) : (Int × Int × Int × Bool) → (Int × api_Break) → Option ((Int × Int × Int × Bool) × Option Nat) :=
 fun (u : Int × Int × Int × Bool) (x : Int × api_Break) => inline_setter_next_k1_r97 s E f sc a room u.1 u.2.1 u.2.2.1 u.2.2.2 x.1 x.2
theorem back_loop (f : api_Font) (hf : Sm f) (l : List UInt8) (hs : l.length ≤ 1000000) (E : List api_Break) (sc room : Int) (a : Nat) (D : List (Nat × Bool)) (hD : ∀ x ∈ D, a ≤ x.1 ∧ x.1 ≤ l.length) (hl : D.length ≤ 1000000) (z : Int × Int × Int × Bool) :
  ∀ m : Nat, m ≤ D.length → slices_Backward_1_api_Break_k1_l26 (rnd (nx ⟨l.toArray⟩ E f sc (a : Int) room)) (D.map brk) ((m : Int) - 1) (z, none) =
   some (match pick (W f l sc a) room D m with | some i => .inl (tup (ln f l sc a (D.getD i (0, false))), some 0) | none => .inr (z, none)) := by
 intro m
 induction m with
 | zero => intro _; rw [slices_Backward_1_api_Break_k1_l26, if_neg (by omega)]; rfl
 | succ m ih =>
  intro hm
  have hlt : m < D.length := by omega
  rw [slices_Backward_1_api_Break_k1_l26, List.length_map, if_pos (by omega), if_pos ⟨by omega, by omega⟩]
  have e1 : (((m + 1 : Nat) : Int) - 1) = (m : Int) := by omega
  rw [e1, getD_map_brk D hlt]
  have hx := hD D[m] (List.getElem_mem hlt)
  have e2 : D.getD m (0, false) = D[m] := by simp [List.getD_eq_getElem?_getD, hlt]
  have step : rnd (nx ⟨l.toArray⟩ E f sc (a : Int) room) (z, none) ((m : Int), brk D[m]) = some (if W f l sc a D[m] ≤ room then ((tup (ln f l sc a D[m]), some 0), false) else ((z, none), true)) := by
   unfold rnd
   simp only [nx]
   unfold inline_setter_next_k1_r97
   rw [line_mk f hf l hs E sc hx.1 hx.2, some_bind]
   show ((if W f l sc a D[m] ≤ room then _ else _) >>= _) = _
   by_cases hw : W f l sc a D[m] ≤ room
   ·rw [if_pos hw, if_pos hw]; rfl
   ·rw [if_neg hw, if_neg hw]; rfl
  rw [step, some_bind]
  unfold pick
  rw [e2]
  by_cases hw : W f l sc a D[m] ≤ room
  ·rw [if_pos hw, if_pos hw]
   simp only [e2]
   rfl
  ·rw [if_neg hw, if_neg hw]
   show slices_Backward_1_api_Break_k1_l26 _ _ (w64 ((m : Int) - 1)) (z, none) = _
   rw [w64_id (by omega) (by omega)]
   exact ih (by omega)
def stop (f : api_Font) (l : List UInt8) (sc : Int) (a : Nat) (room : Int) (D : List (Nat × Bool)) : Nat × Bool :=
 match pick (W f l sc a) room D D.length with
 | some i => D.getD i (0, false)
 | none => D.getD 0 (0, false)
theorem next_mk (f : api_Font) (hf : Sm f) (b : api_Breaks) (l : List UInt8) (hs : l.length ≤ 100000) (sc : Int) {a : Nat} (ha : a < l.length) :
  ∃ k, ∃ h : k < (ends b l).length, a < ((ends b l)[k]).1 ∧ (∀ j (h : j < (ends b l).length), j < k → ((ends b l)[j]).1 ≤ a) ∧
   ∀ room, inline_setter_next_k1 ⟨l.toArray⟩ ((ends b l).map brk) f sc (a : Int) room = some (ln f l sc a (stop f l sc a room ((ends b l).drop k))) := by
 have hlen := ends_len b l
 obtain ⟨hpw, hle⟩ := ends_pw b l
 have hl : ∃ x, (ends b l).getLast? = some x ∧ a < x.1 := ⟨(l.length, false), by unfold ends; simp, ha⟩
 have h0 : 0 < (ends b l).length := by unfold ends; simp
 obtain ⟨k, hk, hi, hak, hb⟩ := index_loop (ends b l) (by omega) a hl _ 0 rfl h0 (fun j _ h => by omega)
 refine ⟨k, hk, hak, hb, fun room => ?_⟩
 have hi' : slices_IndexFunc_api_Break_k2_l25 ((ends b l).map brk) (a : Int) 0 = some (.inl (k : Int)) := hi
 have hc : cutl ((ends b l).map brk) (k : Int) (((ends b l).length : Nat) : Int) = ((ends b l).drop k).map brk := by
  unfold cutl
  rw [Int.toNat_natCast, Int.toNat_natCast, List.take_of_length_le (by simp), List.map_drop]
 have hDl : ((ends b l).drop k).length = (ends b l).length - k := List.length_drop ..
 have hD : ∀ x ∈ (ends b l).drop k, a ≤ x.1 ∧ x.1 ≤ l.length := by
  intro x hx
  refine ⟨?_, hle x (List.mem_of_mem_drop hx)⟩
  rw [List.drop_eq_getElem_cons hk] at hx
  rcases List.mem_cons.1 hx with rfl | hx
  ·omega
  ·have h2 := hpw.sublist (List.drop_sublist k _)
   rw [List.drop_eq_getElem_cons hk] at h2
   have := (List.pairwise_cons.1 h2).1 x hx
   omega
 have hD0 : 0 < ((ends b l).drop k).length := by omega
 unfold inline_setter_next_k1 slices_IndexFunc_api_Break_k2 slices_Backward_api_Break slices_Backward_1_api_Break_k1
 rw [hi', some_bind]
 show (some (k : Int) >>= _) = _
 rw [some_bind, List.length_map, if_pos ⟨by omega, by omega⟩, hc, some_bind, List.length_map, w64_id (n := (((ends b l).drop k).length : Int) - 1) (by omega) (by omega)]
 have hB := back_loop f hf l (by omega) ((ends b l).map brk) sc room a _ hD (by omega) (0, 0, 0, false) ((ends b l).drop k).length (Nat.le_refl _)
 unfold nx at hB
 rw [hB, some_bind]
 unfold stop
 cases hp : pick (W f l sc a) room ((ends b l).drop k) ((ends b l).drop k).length with
 | some i => rfl
 | none =>
  show (if (0 : Int) ≤ 0 ∧ (0 : Int) < ((((ends b l).drop k).length : Nat) : Int) then _ else none) = _
  rw [if_pos ⟨by omega, by omega⟩]
  have e := getD_map_brk ((ends b l).drop k) hD0
  have e' : (((ends b l).drop k).map brk).getD (Int.toNat 0) z_api_Break = brk (((ends b l).drop k)[0]) := e
  have hx := hD _ (List.getElem_mem hD0)
  have e3 : ((ends b l).drop k).getD 0 (0, false) = ((ends b l).drop k)[0] := by rw [List.getD_eq_getElem?_getD, List.getElem?_eq_getElem hD0]; rfl
  rw [e', line_mk f hf l (by omega) _ sc hx.1 hx.2, some_bind]
  simp only [e3]
end Go.Proofs.YtaemgcpcfnbmdaaGreatDoor.LG
namespace Go.Proofs.YtaemgcpcfnbmdaaGreatDoor.LG
open Go Go.LG Go.Lib

theorem rglyph_loop (f : api_Font) (c : Int) (hf : f.Glyphs.length ≤ 1000000) : ∀ (n i : Nat), f.Glyphs.length - i = n → ∃ o, formeref07_Glyph_l31 f c (i : Int) = some o ∧ ∀ v, o = .inl v → 0 ≤ v ∧ v < (f.Glyphs.length : Int) := by
 intro n
 induction n with
 | zero => intro i hn; rw [formeref07_Glyph_l31, if_neg (by omega)]; exact ⟨_, rfl, fun v h => by cases h⟩
 | succ n ih =>
  intro i hn
  rw [formeref07_Glyph_l31, if_pos (by omega), if_pos ⟨by omega, by omega⟩, w64_id (n := (i : Int) + 1) (by omega) (by omega)]
  by_cases h : ((f.Glyphs.getD (Int.toNat (i : Int)) z_api_Glyph).Byte) = c
  ·rw [if_pos h]; exact ⟨_, rfl, fun v h => by cases h; omega⟩
  ·rw [if_neg h]; exact ih (i + 1) (by omega)
theorem rglyph_tot (f : api_Font) (c : Int) (hf : f.Glyphs.length ≤ 1000000) : ∃ v, formeref07_Glyph f c = some v ∧ (0 ≤ v → v < (f.Glyphs.length : Int)) := by
 obtain ⟨o, ho, h⟩ := rglyph_loop f c hf _ 0 rfl
 unfold formeref07_Glyph
 have ho' : formeref07_Glyph_l31 f c 0 = some o := ho
 rw [ho', some_bind]
 cases o with
 | inl v => exact ⟨v, rfl, fun _ => (h v rfl).2⟩
 | inr u => exact ⟨-1, rfl, fun h => by omega⟩
end Go.Proofs.YtaemgcpcfnbmdaaGreatDoor.LG
namespace Go.Proofs.YtaemgcpcfnbmdaaGreatDoor.LG
open Go Go.LG Go.Lib

theorem within_mk (x lo hi : Int) : inline_within_int x lo hi = some (decide (lo ≤ x ∧ x ≤ hi)) := by
 have key : ∀ a b : Int, cmp_Compare_int a b = some (if a < b then -1 else if b < a then 1 else 0) := by
  intro a b
  unfold cmp_Compare_int cmp_isNaN_int
  simp
  split
  ·rfl
  ·split <;> rfl
 unfold inline_within_int
 rw [key, some_bind]
 by_cases h1 : x < lo
 ·have : ¬ (lo ≤ x ∧ x ≤ hi) := by omega
  simp [h1, this]
 ·rw [if_neg h1]
  have h0 : (0 : Int) ≤ (if lo < x then 1 else 0) := by split <;> decide
  rw [if_pos h0, key, some_bind, some_bind]
  congr 1
  by_cases h2 : x < hi
  ·have : lo ≤ x ∧ x ≤ hi := by omega
   simp [h2, this]
  ·rw [if_neg h2]
   by_cases h3 : hi < x
   ·have : ¬ (lo ≤ x ∧ x ≤ hi) := by omega
    simp [h3, this]
   ·have : lo ≤ x ∧ x ≤ hi := by omega
    simp [h3, this]
end Go.Proofs.YtaemgcpcfnbmdaaGreatDoor.LG
namespace Go.Proofs.YtaemgcpcfnbmdaaGreatDoor.LG
open Go Go.LG Go.Lib

def behind (b : api_Breaks) (l : List UInt8) (a : Nat) : List (Nat × Bool) := (ends b l).dropWhile fun p => decide (p.1 ≤ a)
theorem drop_while {α : Type} (p : α → Bool) : ∀ (k : Nat) (E : List α) (h : k < E.length), p E[k] = false → (∀ j (h : j < E.length), j < k → p E[j] = true) → E.dropWhile p = E.drop k
 | 0, x :: E, h, hk, hb => by
  have : p x = false := hk
  simp [List.dropWhile_cons, this]
 | k + 1, x :: E, h, hk, hb => by
  have h0 : p x = true := hb 0 (by simp) (by omega)
  rw [List.dropWhile_cons, if_pos h0, List.drop_succ_cons]
  exact drop_while p k E (by simpa using h) (by simpa using hk) fun j hj hjk => by
   have := hb (j + 1) (by simpa using hj) (by omega)
   simpa using this
def nxl (f : api_Font) (b : api_Breaks) (l : List UInt8) (sc : Int) (a : Nat) (room : Int) : Nat × Bool := stop f l sc a room (behind b l a)
theorem next_at (f : api_Font) (hf : Sm f) (b : api_Breaks) (l : List UInt8) (hs : l.length ≤ 100000) (sc : Int) {a : Nat} (ha : a < l.length) (room : Int) :
  inline_setter_next_k1 ⟨l.toArray⟩ ((ends b l).map brk) f sc (a : Int) room = some (ln f l sc a (nxl f b l sc a room)) ∧ nxl f b l sc a room ∈ ends b l ∧ a < (nxl f b l sc a room).1 ∧ (nxl f b l sc a room).1 ≤ l.length := by
 obtain ⟨k, hk, hak, hb, hx⟩ := next_mk f hf b l hs sc ha
 have e : behind b l a = (ends b l).drop k := drop_while _ k _ hk (by simpa using hak) fun j hj hjk => by simpa using hb j hj hjk
 obtain ⟨hpw, hle⟩ := ends_pw b l
 have hm : nxl f b l sc a room ∈ (ends b l).drop k := by
  have h0 : 0 < ((ends b l).drop k).length := by rw [List.length_drop]; omega
  have key : ∀ i, i < ((ends b l).drop k).length → ((ends b l).drop k).getD i (0, false) ∈ (ends b l).drop k := fun i hi => by
   rw [List.getD_eq_getElem?_getD, List.getElem?_eq_getElem hi]
   exact List.getElem_mem hi
  unfold nxl stop
  rw [e]
  cases hp : pick (W f l sc a) room ((ends b l).drop k) ((ends b l).drop k).length with
  | none => exact key 0 h0
  | some i => exact key i (pick_lt hp).1
 refine ⟨by rw [hx room]; unfold nxl; rw [e], List.mem_of_mem_drop hm, ?_, hle _ (List.mem_of_mem_drop hm)⟩
 have h2 := hpw.sublist (List.drop_sublist k _)
 rw [List.drop_eq_getElem_cons hk] at h2 hm
 rcases List.mem_cons.1 hm with h | h
 ·rw [h]; exact hak
 ·have := (List.pairwise_cons.1 h2).1 _ h
  omega
def lns (f : api_Font) (b : api_Breaks) (l : List UInt8) (sc : Int) (R : Nat → Int) : Nat → Nat → Nat → List api_Line
 | 0, _, _ => []
 | n + 1, a, i => if wc false (l.drop a) = 0 then [] else ln f l sc a (nxl f b l sc a (R i)) :: lns f b l sc R n (nxl f b l sc a (R i)).1 (i + 1)
def roomAt (rooms : List Int) (i : Nat) : Int := rooms.getD (min i (rooms.length - 1)) 0
theorem lines_loop (f : api_Font) (hf : Sm f) (b : api_Breaks) (l : List UInt8) (hs : l.length ≤ 100000) (ho : okS l = true) (sc : Int) (rooms : List Int) (hr : 0 < rooms.length) (hr2 : rooms.length ≤ 1000000) :
  ∀ (n a i : Nat) (acc : List api_Line), l.length - a < n → a ≤ l.length → i ≤ a → acc.length ≤ a →
   inline_setter_lines_1_k1_l50 (rnd (fun (u : (List api_Line)) (x : api_Line) => slices_AppendSeq_api_Line_k2_r63 u x)) ⟨l.toArray⟩ ((ends b l).map brk) f sc rooms (a : Int) (i : Int) (acc, none) = some (acc ++ lns f b l sc (roomAt rooms) n a i, none) := by
 intro n
 induction n with
 | zero => intro a i acc h; omega
 | succ n ih =>
  intro a i acc hn ha hi hacc
  have e0 : sub ⟨l.toArray⟩ (a : Int) (l.length : Int) = ⟨(l.drop a).toArray⟩ := by
   rw [sub_data]
   congr 2
   exact List.take_of_length_le (by simp)
  have hod : okS (l.drop a) = true := by
   have := okS_piece ho a (l.drop a).length
   rwa [List.take_length] at this
  rw [inline_setter_lines_1_k1_l50, sz, if_pos ⟨by omega, by omega⟩, e0, words_mk hod, some_bind]
  unfold lns
  by_cases hw : wc false (l.drop a) = 0
  ·rw [if_pos hw]
   simp [hw]
  ·rw [if_neg hw]
   have hlt : a < l.length := by
    rcases Nat.lt_or_ge a l.length with h | h
    ·exact h
    ·exact absurd (by rw [List.drop_eq_nil_of_le h]; rfl) hw
   have e1 : w64 ((rooms.length : Int) - 1) = (rooms.length : Int) - 1 := w64_id (by omega) (by omega)
   have e2 : min (i : Int) ((rooms.length : Int) - 1) = ((min i (rooms.length - 1) : Nat) : Int) := by omega
   have e3 : w64 ((i : Int) + 1) = ((i + 1 : Nat) : Int) := by rw [w64_id (by omega) (by omega)]; omega
   obtain ⟨hx, hm, hgt, hle⟩ := next_at f hf b l hs sc hlt (roomAt rooms i)
   show (if ((wc false (l.drop a) : Nat) : Int) = 0 then _ else _) = _
   rw [if_neg (by omega), e1, e2, if_pos ⟨by omega, by omega⟩]
   have e4 : rooms.getD (Int.toNat ((min i (rooms.length - 1) : Nat) : Int)) 0 = roomAt rooms i := rfl
   rw [e4, hx, some_bind]
   have step : rnd (fun (u : (List api_Line)) (x : api_Line) => slices_AppendSeq_api_Line_k2_r63 u x) (acc, none) (ln f l sc a (nxl f b l sc a (roomAt rooms i))) = some ((acc ++ [ln f l sc a (nxl f b l sc a (roomAt rooms i))], none), true) := by
    unfold rnd slices_AppendSeq_api_Line_k2_r63
    simp only
    rw [if_pos (by omega)]; rfl
   rw [step, some_bind, e3]
   have := ih (nxl f b l sc a (roomAt rooms i)).1 (i + 1) (acc ++ [ln f l sc a (nxl f b l sc a (roomAt rooms i))]) (by omega) hle (by omega) (by simp; omega)
   rw [List.append_assoc] at this
   exact this
end Go.Proofs.YtaemgcpcfnbmdaaGreatDoor.LG
namespace Go.Proofs.YtaemgcpcfnbmdaaGreatDoor.LG
open Go Go.LG Go.Lib

theorem rest_mk (l : List UInt8) (a : Nat) : sub ⟨l.toArray⟩ (a : Int) (l.length : Int) = ⟨(l.drop a).toArray⟩ := by
 rw [sub_data]
 congr 2
 exact List.take_of_length_le (by simp)
theorem rest_ok {l : List UInt8} (ho : okS l = true) (a : Nat) : okS (l.drop a) = true := by
 have := okS_piece ho a (l.drop a).length
 rwa [List.take_length] at this
end Go.Proofs.YtaemgcpcfnbmdaaGreatDoor.LG
namespace Go.Proofs.YtaemgcpcfnbmdaaGreatDoor.LG
open Go Go.LG Go.Lib

theorem getD_at {α : Type} (l : List α) (d : α) {i : Nat} (h : i < l.length) : l.getD (Int.toNat (i : Int)) d = l[i] := by
 simp [List.getD_eq_getElem?_getD, h]
def Inc (gs : List api_Glyph) : Prop := ∀ i j (hi : i < gs.length) (hj : j < gs.length), i < j → (gs[i]).Byte < (gs[j]).Byte
theorem bs_glyph (l : List api_Glyph) (b : Int) (hl : l.length ≤ 1000000) (hI : Inc l) : ∀ (n i j : Nat), j - i = n → i ≤ j → j ≤ l.length →
  (∀ k (h : k < l.length), k < i → (l[k]).Byte < b) → (∀ k (h : k < l.length), j ≤ k → b ≤ (l[k]).Byte) →
  ∃ r : Nat, slices_BinarySearchFunc_byte_k1_l27 l b (i : Int) (j : Int) = some (r : Int) ∧ r ≤ l.length ∧ (∀ k (h : k < l.length), k < r → (l[k]).Byte < b) ∧ (∀ k (h : k < l.length), r ≤ k → b ≤ (l[k]).Byte) := by
 intro n
 induction n using Nat.strongRecOn with
 | _ n ih =>
  intro i j hn h1 h2 hlo hhi
  rw [slices_BinarySearchFunc_byte_k1_l27]
  by_cases h : i < j
  ·have em : ((i : Int) + (j : Int)) / 2 = (((i + j) / 2 : Nat) : Int) := by omega
   have hm : (i + j) / 2 < l.length := by omega
   have e : w64 ((((i + j) / 2 : Nat) : Int) + 1) = (((i + j) / 2 + 1 : Nat) : Int) := by rw [w64_id (by omega) (by omega)]; omega
   rw [if_pos (by omega), mid_eq (by omega) (by omega) (by omega), em, if_pos ⟨by omega, by omega⟩, glyph_1_eq, some_bind, getD_at l _ hm, e]
   by_cases hc : (l[(i + j) / 2]).Byte < b
   ·rw [if_pos (by rw [if_pos hc]; decide)]
    refine ih _ (by omega) _ _ rfl (by omega) h2 (fun k hk hki => ?_) hhi
    rcases Nat.lt_or_ge k ((i + j) / 2) with h' | h'
    ·have := hI k _ hk hm h'; omega
    ·have : k = (i + j) / 2 := by omega
     subst this; exact hc
   ·rw [if_neg (by rw [if_neg hc]; split <;> decide)]
    refine ih _ (by omega) _ _ rfl (by omega) (by omega) hlo (fun k hk hki => ?_)
    rcases Nat.lt_or_ge ((i + j) / 2) k with h' | h'
    ·have := hI _ k hm hk h'; omega
    ·have : k = (i + j) / 2 := by omega
     subst this; omega
  ·rw [if_neg (by omega)]
   have : i = j := by omega
   subst this
   exact ⟨i, rfl, h2, hlo, hhi⟩
def gof (gs : List api_Glyph) (b : Int) : Option api_Glyph := gs.find? fun g => decide (g.Byte = b)
theorem find_some {α : Type} {p : α → Bool} : ∀ {l : List α} (r : Nat) (h : r < l.length), p l[r] = true → (∀ k (h : k < l.length), k < r → p l[k] = false) → l.find? p = some l[r]
 | x :: l, 0, h, hp, _ => by
  have : p x = true := hp
  simp [List.find?_cons, this]
 | x :: l, r + 1, h, hp, hn => by
  have : p x = false := hn 0 (by simp) (by omega)
  rw [List.find?_cons, this]
  exact find_some r (by simpa using h) (by simpa using hp) fun k hk hkr => by
   have := hn (k + 1) (by simpa using hk) (by omega)
   simpa using this
theorem find_no {α : Type} {p : α → Bool} {l : List α} (hn : ∀ k (h : k < l.length), p l[k] = false) : l.find? p = none := by
 rw [List.find?_eq_none]
 intro x hx
 obtain ⟨k, hk, rfl⟩ := List.getElem_of_mem hx
 rw [hn k hk]; decide
theorem glyph_mk {f : api_Font} (hf : f.Glyphs.length ≤ 1000000) (hI : Inc f.Glyphs) (b : Int) :
  font_glyph f b = some (match gof f.Glyphs b with | some g => (g, true) | none => (⟨0, 0⟩, false)) := by
 obtain ⟨r, hr, hle, hlo, hhi⟩ := bs_glyph f.Glyphs b hf hI _ 0 f.Glyphs.length rfl (Nat.zero_le _) (Nat.le_refl _) (fun k _ h => by omega) (fun k h h' => by omega)
 have hr' : slices_BinarySearchFunc_byte_k1_l27 f.Glyphs b 0 (f.Glyphs.length : Int) = some (r : Int) := hr
 unfold font_glyph font_find_byte_k1 slices_BinarySearchFunc_byte_k1
 rw [hr', some_bind]
 by_cases h : r < f.Glyphs.length
 ·rw [if_pos (by omega), if_pos ⟨by omega, by omega⟩, glyph_1_eq, getD_at _ _ h]
  simp only [some_bind]
  by_cases hb : (f.Glyphs[r]).Byte = b
  ·have e : gof f.Glyphs b = some f.Glyphs[r] := find_some r h (by simpa using hb) fun k hk hkr => by have := hlo k hk hkr; simp; omega
   rw [e]
   have h3 : (if (f.Glyphs[r]).Byte < b then (-1 : Int) else if b < (f.Glyphs[r]).Byte then 1 else 0) = 0 := by rw [if_neg (by omega), if_neg (by omega)]
   rw [h3]
   simp [h]
  ·have e : gof f.Glyphs b = none := find_no fun k hk => by
    rcases Nat.lt_or_ge k r with h' | h'
    ·have := hlo k hk h'; simp; omega
    ·have h0 := hhi r h (Nat.le_refl _)
     have : (f.Glyphs[r]).Byte ≤ (f.Glyphs[k]).Byte := by
      rcases Nat.lt_or_ge r k with h'' | h''
      ·have := hI r k h hk h''; omega
      ·have : k = r := by omega
       subst this; omega
     simp; omega
   rw [e]
   have h3 : ¬ (if (f.Glyphs[r]).Byte < b then (-1 : Int) else if b < (f.Glyphs[r]).Byte then 1 else 0) = 0 := by
    split
    ·decide
    ·split
     ·decide
     ·omega
   simp [h3]
 ·have e : gof f.Glyphs b = none := find_no fun k hk => by have := hlo k hk (by omega); simp; omega
  rw [if_neg (by omega), e]
  simp
theorem rglyph_loop2 (f : api_Font) (c : Int) (hf : f.Glyphs.length ≤ 1000000) : ∀ (n i : Nat), f.Glyphs.length - i = n → (∀ k (h : k < f.Glyphs.length), k < i → (f.Glyphs[k]).Byte ≠ c) →
  (gof f.Glyphs c = none ∧ formeref07_Glyph_l31 f c (i : Int) = some (.inr ())) ∨ (∃ k : Nat, ∃ h : k < f.Glyphs.length, gof f.Glyphs c = some f.Glyphs[k] ∧ formeref07_Glyph_l31 f c (i : Int) = some (.inl (k : Int))) := by
 intro n
 induction n with
 | zero =>
  intro i hn hb
  rw [formeref07_Glyph_l31, if_neg (by omega)]
  exact .inl ⟨find_no fun k hk => by have := hb k hk (by omega); simpa using this, rfl⟩
 | succ n ih =>
  intro i hn hb
  have hi : i < f.Glyphs.length := by omega
  rw [formeref07_Glyph_l31, if_pos (by omega), if_pos ⟨by omega, by omega⟩, getD_at _ _ hi, w64_id (n := (i : Int) + 1) (by omega) (by omega), add1]
  by_cases h : (f.Glyphs[i]).Byte = c
  ·rw [if_pos h]
   exact .inr ⟨i, hi, find_some i hi (by simpa using h) fun k hk hki => by have := hb k hk hki; simpa using this, rfl⟩
  ·rw [if_neg h]
   exact ih (i + 1) (by omega) fun k hk hki => by
    rcases Nat.lt_or_ge k i with h' | h'
    ·exact hb k hk h'
    ·have : k = i := by omega
     subst this; exact h
theorem rglyph_mk (f : api_Font) (c : Int) (hf : f.Glyphs.length ≤ 1000000) :
  (gof f.Glyphs c = none ∧ formeref07_Glyph f c = some (-1)) ∨ (∃ k : Nat, ∃ h : k < f.Glyphs.length, gof f.Glyphs c = some f.Glyphs[k] ∧ formeref07_Glyph f c = some (k : Int)) := by
 have h0 := rglyph_loop2 f c hf _ 0 rfl (fun k _ h => by omega)
 unfold formeref07_Glyph
 rcases h0 with ⟨h1, h2⟩ | ⟨k, hk, h1, h2⟩
 ·have h2' : formeref07_Glyph_l31 f c 0 = some (.inr ()) := h2
  exact .inl ⟨h1, by rw [h2']; rfl⟩
 ·have h2' : formeref07_Glyph_l31 f c 0 = some (.inl (k : Int)) := h2
  exact .inr ⟨k, hk, h1, by rw [h2']; rfl⟩
def gk (gs : List api_Glyph) (i : Nat) : api_Glyph := gs.getD i z_api_Glyph
theorem gk_at (gs : List api_Glyph) {i : Nat} (h : i < gs.length) : gs[i] = gk gs i := by simp [gk, List.getD_eq_getElem?_getD, h]
def gok (gs : List api_Glyph) (i : Nat) : Prop := 32 ≤ (gk gs i).Byte ∧ (gk gs i).Byte ≤ 125 ∧ 0 ≤ (gk gs i).Advance ∧ (gk gs i).Advance ≤ 1000 ∧ (0 < i → (gk gs (i - 1)).Byte < (gk gs i).Byte)
instance {gs : List api_Glyph} {i : Nat} : Decidable (gok gs i) := by unfold gok; infer_instance
theorem g_test (f : api_Font) (hf : f.Glyphs.length ≤ 1000000) {i : Nat} (hi : i < f.Glyphs.length) (c1 : Prop) [Decidable c1] (hc : c1 ↔ 125 < (gk f.Glyphs i).Byte) :
  (if ((f.Glyphs.getD (Int.toNat (i : Int)) z_api_Glyph).Byte) < 32 then some true else (if c1 then some true else (if ((f.Glyphs.getD (Int.toNat (i : Int)) z_api_Glyph).Advance) < 0 then some true else (if 1000 < ((f.Glyphs.getD (Int.toNat (i : Int)) z_api_Glyph).Advance) then some true else (if 0 < (i : Int) then (if (0 : Int) ≤ w64 ((i : Int) - 1) ∧ w64 ((i : Int) - 1) < (f.Glyphs.length : Int) then some (decide (((f.Glyphs.getD (Int.toNat (i : Int)) z_api_Glyph).Byte) ≤ ((f.Glyphs.getD (Int.toNat (w64 ((i : Int) - 1))) z_api_Glyph).Byte))) else none) else some false))))) = some (!decide (gok f.Glyphs i)) := by
 have e1 : w64 ((i : Int) - 1) = (i : Int) - 1 := w64_id (by omega) (by omega)
 have e0 : f.Glyphs.getD (Int.toNat (i : Int)) z_api_Glyph = gk f.Glyphs i := rfl
 rw [e0, e1]
 unfold gok
 by_cases h1 : (gk f.Glyphs i).Byte < 32
 ·have : ¬ 32 ≤ (gk f.Glyphs i).Byte := by omega
  simp [h1, this]
 ·by_cases h2 : c1
  ·have := hc.1 h2
   have : ¬ (gk f.Glyphs i).Byte ≤ 125 := by omega
   simp [h1, h2, this]
  ·have h2' : ¬ 125 < (gk f.Glyphs i).Byte := fun h => h2 (hc.2 h)
   by_cases h3 : (gk f.Glyphs i).Advance < 0
   ·have : ¬ 0 ≤ (gk f.Glyphs i).Advance := by omega
    simp [h1, h2, h3, this]
   ·by_cases h4 : 1000 < (gk f.Glyphs i).Advance
    ·have : ¬ (gk f.Glyphs i).Advance ≤ 1000 := by omega
     simp [h1, h2, h3, h4, this]
    ·have k1 : 32 ≤ (gk f.Glyphs i).Byte := by omega
     have k2 : (gk f.Glyphs i).Byte ≤ 125 := by omega
     have k3 : 0 ≤ (gk f.Glyphs i).Advance := by omega
     have k4 : (gk f.Glyphs i).Advance ≤ 1000 := by omega
     rw [if_neg h1, if_neg h2, if_neg h3, if_neg h4]
     by_cases h5 : 0 < i
     ·have e2 : f.Glyphs.getD (Int.toNat ((i : Int) - 1)) z_api_Glyph = gk f.Glyphs (i - 1) := by rw [show Int.toNat ((i : Int) - 1) = i - 1 by omega]; rfl
      rw [if_pos (by omega), if_pos ⟨by omega, by omega⟩, e2]
      by_cases h6 : (gk f.Glyphs i).Byte ≤ (gk f.Glyphs (i - 1)).Byte
      ·have : ¬ (gk f.Glyphs (i - 1)).Byte < (gk f.Glyphs i).Byte := by omega
       simp [h5, h6, this]
      ·have : (gk f.Glyphs (i - 1)).Byte < (gk f.Glyphs i).Byte := by omega
       simp [k1, k2, k3, k4, h5, h6, this]
     ·rw [if_neg (by omega)]
      simp [k1, k2, k3, k4, h5]
theorem v45 (f : api_Font) (hf : f.Glyphs.length ≤ 1000000) : ∀ (n i : Nat), f.Glyphs.length - i = n → i ≤ f.Glyphs.length →
  ∃ o, font_Valid_l45 f (i : Int) = some o ∧ formeref07_Valid_l45 f (i : Int) = some o ∧ (o = .inr () → ∀ k, i ≤ k → k < f.Glyphs.length → gok f.Glyphs k) := by
 intro n
 induction n with
 | zero =>
  intro i hn hi
  rw [font_Valid_l45, formeref07_Valid_l45, if_neg (by omega), if_neg (by omega)]
  exact ⟨_, rfl, rfl, fun _ k hk h => by omega⟩
 | succ n ih =>
  intro i hn hi
  have hi' : i < f.Glyphs.length := by omega
  have t1 := g_test f hf hi' (126 ≤ ((f.Glyphs.getD (Int.toNat (i : Int)) z_api_Glyph).Byte)) (show 126 ≤ (gk f.Glyphs i).Byte ↔ _ by omega)
  have t2 := g_test f hf hi' (125 < ((f.Glyphs.getD (Int.toNat (i : Int)) z_api_Glyph).Byte)) Iff.rfl
  have e1 : font_Valid_l45 f (i : Int) = if (!decide (gok f.Glyphs i)) = true then some (.inl ()) else font_Valid_l45 f ((i + 1 : Nat) : Int) := by
   conv => lhs; rw [font_Valid_l45]
   rw [if_pos (by omega), if_pos ⟨by omega, by omega⟩, w64_id (n := (i : Int) + 1) (by omega) (by omega), add1, t1, some_bind]
  have e2 : formeref07_Valid_l45 f (i : Int) = if (!decide (gok f.Glyphs i)) = true then some (.inl ()) else formeref07_Valid_l45 f ((i + 1 : Nat) : Int) := by
   conv => lhs; rw [formeref07_Valid_l45]
   rw [if_pos (by omega), if_pos ⟨by omega, by omega⟩, w64_id (n := (i : Int) + 1) (by omega) (by omega), add1, t2, some_bind]
  rw [e1, e2]
  by_cases h : gok f.Glyphs i
  ·rw [if_neg (by simpa using h), if_neg (by simpa using h)]
   obtain ⟨o, h1, h2, h3⟩ := ih (i + 1) (by omega) (by omega)
   refine ⟨o, h1, h2, fun ho k hk hl => ?_⟩
   rcases Nat.lt_or_ge i k with h' | h'
   ·exact h3 ho k (by omega) hl
   ·have : k = i := by omega
    subst this; exact h
  ·rw [if_pos (by simpa using h), if_pos (by simpa using h)]
   exact ⟨_, rfl, rfl, fun h => by cases h⟩
theorem inc_of {gs : List api_Glyph} (h : ∀ k, k < gs.length → gok gs k) : Inc gs := by
 intro i j hi hj hij
 rw [gk_at gs hi, gk_at gs hj]
 induction j with
 | zero => omega
 | succ j ih =>
  have h1 := (h (j + 1) hj).2.2.2.2 (by omega)
  have h2 : j + 1 - 1 = j := rfl
  rw [h2] at h1
  rcases Nat.lt_or_ge i j with h' | h'
  ·have := ih (by omega) h'; omega
  ·have : i = j := by omega
   subst this; exact h1
def kk (ks : List api_Kern) (i : Nat) : api_Kern := ks.getD i z_api_Kern
theorem kk_at (ks : List api_Kern) {i : Nat} (h : i < ks.length) : ks[i] = kk ks i := by simp [kk, List.getD_eq_getElem?_getD, h]
theorem order_mk (k : api_Kern) (p : font_pair) : font_order k p = some (if k.Left < p.left then -1 else if p.left < k.Left then 1 else if k.Right < p.right then -1 else if p.right < k.Right then 1 else 0) := by
 unfold font_order
 rw [cmp_byte, cmp_byte, some_bind, some_bind, or2, some_bind]
 congr 1
 by_cases h1 : k.Left < p.left
 ·simp [h1]
 ·by_cases h2 : p.left < k.Left
  ·simp [h1, h2]
  ·simp [h1, h2]
def krn (f : api_Font) (i : Nat) : Prop := (∃ g, gof f.Glyphs (kk f.Kerns i).Left = some g ∧ 0 ≤ g.Advance + (kk f.Kerns i).By) ∧ (gof f.Glyphs (kk f.Kerns i).Right).isSome = true ∧ (kk f.Kerns i).By ≤ 1000 ∧
 (0 < i → (kk f.Kerns (i - 1)).Left < (kk f.Kerns i).Left ∨ (kk f.Kerns (i - 1)).Left = (kk f.Kerns i).Left ∧ (kk f.Kerns (i - 1)).Right < (kk f.Kerns i).Right)
theorem gof_mem {gs : List api_Glyph} {b : Int} {g : api_Glyph} (h : gof gs b = some g) : g ∈ gs ∧ g.Byte = b := by
 unfold gof at h
 exact ⟨List.mem_of_find?_eq_some h, by simpa using List.find?_some h⟩
theorem gof_ok {gs : List api_Glyph} (hg : ∀ k, k < gs.length → gok gs k) {b : Int} {g : api_Glyph} (h : gof gs b = some g) : 32 ≤ b ∧ b ≤ 125 ∧ 0 ≤ g.Advance ∧ g.Advance ≤ 1000 := by
 obtain ⟨hm, hb⟩ := gof_mem h
 obtain ⟨k, hk, rfl⟩ := List.getElem_of_mem hm
 have := hg k hk
 rw [gk_at gs hk] at *
 unfold gok at this
 omega
open Classical in
theorem k_step (f : api_Font) (hf : Sm f) (hg : ∀ k, k < f.Glyphs.length → gok f.Glyphs k) {i : Nat} (hi : i < f.Kerns.length) :
  font_Valid_l124 f (i : Int) = if krn f i then font_Valid_l124 f ((i + 1 : Nat) : Int) else some (.inl ()) := by
 have hk1 := hf.1
 have hk2 := hf.2
 have hI := inc_of hg
 have e1 : w64 ((i : Int) - 1) = (i : Int) - 1 := w64_id (by omega) (by omega)
 have e0 : f.Kerns.getD (Int.toNat (i : Int)) z_api_Kern = kk f.Kerns i := rfl
 conv => lhs; rw [font_Valid_l124]
 rw [if_pos (by omega), if_pos ⟨by omega, by omega⟩, w64_id (n := (i : Int) + 1) (by omega) (by omega), add1, e0, glyph_mk hf.1 hI, glyph_mk hf.1 hI, some_bind]
 cases hL : gof f.Glyphs (kk f.Kerns i).Left with
 | none =>
  have : ¬ krn f i := fun h => by obtain ⟨g, hg', _⟩ := h.1; rw [hL] at hg'; cases hg'
  rw [if_neg this]
  simp
 | some g =>
  have hgo := gof_ok hg hL
  cases hR : gof f.Glyphs (kk f.Kerns i).Right with
  | none =>
   have : ¬ krn f i := fun h => by have := h.2.1; rw [hR] at this; cases this
   rw [if_neg this]
   simp
  | some g2 =>
   have e3 : w64 (0 - g.Advance) = 0 - g.Advance := w64_id (by omega) (by omega)
   simp only [Bool.not_true, Bool.false_eq_true, if_false, some_bind, e3]
   by_cases h1 : 1000 < (kk f.Kerns i).By
   ·have : ¬ krn f i := fun h => by have := h.2.2.1; omega
    rw [if_neg this]
    simp [h1]
   ·by_cases h2 : (kk f.Kerns i).By < 0 - g.Advance
    ·have : ¬ krn f i := fun h => by obtain ⟨g', hg', h'⟩ := h.1; rw [hL] at hg'; cases hg'; omega
     rw [if_neg this, if_neg (by simpa using h1), some_bind, decide_eq_true h2]
     rfl
    ·simp only [h1, h2, decide_false, Bool.false_eq_true, if_false, some_bind]
     by_cases h5 : 0 < i
     ·have e2 : f.Kerns.getD (Int.toNat ((i : Int) - 1)) z_api_Kern = kk f.Kerns (i - 1) := by rw [show Int.toNat ((i : Int) - 1) = i - 1 by omega]; rfl
      rw [if_pos (show (0 : Int) < (i : Int) by omega), e1, if_pos ⟨by omega, by omega⟩, e2, order_mk]
      show (((some (decide (0 ≤ _)))) >>= _) = _
      rw [some_bind]
      by_cases h6 : (kk f.Kerns (i - 1)).Left < (kk f.Kerns i).Left ∨ (kk f.Kerns (i - 1)).Left = (kk f.Kerns i).Left ∧ (kk f.Kerns (i - 1)).Right < (kk f.Kerns i).Right
      ·have hk : krn f i := ⟨⟨g, hL, by omega⟩, by rw [hR]; rfl, by omega, fun _ => h6⟩
       rw [if_pos hk]
       rcases h6 with h | ⟨h, h'⟩
       ·simp [h]
       ·simp [h, h']
      ·have hk : ¬ krn f i := fun h => h6 (h.2.2.2 h5)
       rw [if_neg hk]
       have a1 : ¬ (kk f.Kerns (i - 1)).Left < (kk f.Kerns i).Left := by omega
       by_cases a2 : (kk f.Kerns i).Left < (kk f.Kerns (i - 1)).Left
       ·simp [a1, a2]
       ·have a3 : ¬ (kk f.Kerns (i - 1)).Right < (kk f.Kerns i).Right := by omega
        by_cases a4 : (kk f.Kerns i).Right < (kk f.Kerns (i - 1)).Right
        ·simp [a1, a2, a3, a4]
        ·simp [a1, a2, a3, a4]
     ·have hk : krn f i := ⟨⟨g, hL, by omega⟩, by rw [hR]; rfl, by omega, fun h => absurd h h5⟩
      rw [if_pos hk, if_neg (by omega)]
      simp
open Classical in
theorem k_step2 (f : api_Font) (hf : Sm f) (hg : ∀ k, k < f.Glyphs.length → gok f.Glyphs k) {i : Nat} (hi : i < f.Kerns.length) :
  formeref07_Valid_l124 f (i : Int) = if krn f i then formeref07_Valid_l124 f ((i + 1 : Nat) : Int) else some (.inl ()) := by
 have hk1 := hf.1
 have hk2 := hf.2
 have e1 : w64 ((i : Int) - 1) = (i : Int) - 1 := w64_id (by omega) (by omega)
 have e0 : f.Kerns.getD (Int.toNat (i : Int)) z_api_Kern = kk f.Kerns i := rfl
 conv => lhs; rw [formeref07_Valid_l124]
 rw [if_pos (by omega), if_pos ⟨by omega, by omega⟩, w64_id (n := (i : Int) + 1) (by omega) (by omega), add1, e0]
 rcases rglyph_mk f (kk f.Kerns i).Left hf.1 with ⟨hL, hl⟩ | ⟨x, hx, hL, hl⟩
 ·have : ¬ krn f i := fun h => by obtain ⟨g, hg', _⟩ := h.1; rw [hL] at hg'; cases hg'
  rw [if_neg this, hl]
  obtain ⟨v, hv, _⟩ := rglyph_tot f (kk f.Kerns i).Right hf.1
  rw [hv]
  simp
 ·rw [hl]
  rcases rglyph_mk f (kk f.Kerns i).Right hf.1 with ⟨hR, hr⟩ | ⟨y, hy, hR, hr⟩
  ·have : ¬ krn f i := fun h => by have := h.2.1; rw [hR] at this; cases this
   rw [if_neg this, hr]
   have : ¬ ((x : Int) < 0) := by omega
   simp [this]
  ·rw [hr]
   have hgo := gof_ok hg hL
   have x0 : ¬ ((x : Int) < 0) := by omega
   have y0 : ¬ ((y : Int) < 0) := by omega
   simp only [some_bind, x0, y0, if_false]
   by_cases h0 : (kk f.Kerns i).By < -1000
   ·have : ¬ krn f i := fun h => by obtain ⟨g', hg', h'⟩ := h.1; rw [hL] at hg'; cases hg'; omega
    rw [if_neg this]
    simp [h0]
   ·by_cases h1 : 1000 < (kk f.Kerns i).By
    ·have : ¬ krn f i := fun h => by have := h.2.2.1; omega
     rw [if_neg this]
     simp [h0, h1]
    ·have e5 : f.Glyphs.getD (Int.toNat (x : Int)) z_api_Glyph = f.Glyphs[x] := getD_at _ _ hx
     have e6 : w64 ((f.Glyphs[x]).Advance + (kk f.Kerns i).By) = (f.Glyphs[x]).Advance + (kk f.Kerns i).By := w64_id (by omega) (by omega)
     rw [if_neg h0, if_neg h1, if_pos ⟨by omega, by omega⟩, e5, e6, some_bind]
     by_cases h2 : (f.Glyphs[x]).Advance + (kk f.Kerns i).By < 0
     ·have : ¬ krn f i := fun h => by obtain ⟨g', hg', h'⟩ := h.1; rw [hL] at hg'; cases hg'; omega
      rw [if_neg this, if_pos (by simpa using h2)]
     ·rw [if_neg (by simpa using h2)]
      by_cases h5 : 0 < i
      ·have e2 : f.Kerns.getD (Int.toNat ((i : Int) - 1)) z_api_Kern = kk f.Kerns (i - 1) := by rw [show Int.toNat ((i : Int) - 1) = i - 1 by omega]; rfl
       have hb : (0 : Int) ≤ (i : Int) - 1 ∧ (i : Int) - 1 < (f.Kerns.length : Int) := ⟨by omega, by omega⟩
       rw [if_pos (show (0 : Int) < (i : Int) by omega), e1, e2]
       simp only [if_pos hb]
       by_cases h6 : (kk f.Kerns (i - 1)).Left < (kk f.Kerns i).Left ∨ (kk f.Kerns (i - 1)).Left = (kk f.Kerns i).Left ∧ (kk f.Kerns (i - 1)).Right < (kk f.Kerns i).Right
       ·have hk : krn f i := ⟨⟨_, hL, by omega⟩, by rw [hR]; rfl, by omega, fun _ => h6⟩
        rw [if_pos hk]
        rcases h6 with h | ⟨h, h'⟩
        ·have a1 : ¬ (kk f.Kerns i).Left < (kk f.Kerns (i - 1)).Left := by omega
         have a2 : ¬ (kk f.Kerns i).Left = (kk f.Kerns (i - 1)).Left := by omega
         simp [a1, a2]
        ·have a1 : ¬ (kk f.Kerns i).Left < (kk f.Kerns (i - 1)).Left := by omega
         have a3 : ¬ (kk f.Kerns i).Right ≤ (kk f.Kerns (i - 1)).Right := by omega
         simp [a1, h.symm, a3]
       ·have hk : ¬ krn f i := fun h => h6 (h.2.2.2 h5)
        rw [if_neg hk]
        by_cases a1 : (kk f.Kerns i).Left < (kk f.Kerns (i - 1)).Left
        ·simp [a1]
        ·have a2 : (kk f.Kerns i).Left = (kk f.Kerns (i - 1)).Left := by omega
         have a3 : (kk f.Kerns i).Right ≤ (kk f.Kerns (i - 1)).Right := by omega
         simp [a1, a2, a3]
      ·have hk : krn f i := ⟨⟨_, hL, by omega⟩, by rw [hR]; rfl, by omega, fun h => absurd h h5⟩
       rw [if_pos hk, if_neg (by omega)]
       simp
theorem v124 (f : api_Font) (hf : Sm f) (hg : ∀ k, k < f.Glyphs.length → gok f.Glyphs k) : ∀ (n i : Nat), f.Kerns.length - i = n → i ≤ f.Kerns.length →
  ∃ o, font_Valid_l124 f (i : Int) = some o ∧ formeref07_Valid_l124 f (i : Int) = some o ∧ (o = .inr () → ∀ k, i ≤ k → k < f.Kerns.length → krn f k) := by
 intro n
 induction n with
 | zero =>
  intro i hn hi
  rw [font_Valid_l124, formeref07_Valid_l124, if_neg (by omega), if_neg (by omega)]
  exact ⟨_, rfl, rfl, fun _ k hk h => by omega⟩
 | succ n ih =>
  intro i hn hi
  have hi' : i < f.Kerns.length := by omega
  rw [k_step f hf hg hi', k_step2 f hf hg hi']
  by_cases h : krn f i
  ·rw [if_pos h, if_pos h]
   obtain ⟨o, h1, h2, h3⟩ := ih (i + 1) (by omega) (by omega)
   refine ⟨o, h1, h2, fun ho k hk hl => ?_⟩
   rcases Nat.lt_or_ge i k with h' | h'
   ·exact h3 ho k (by omega) hl
   ·have : k = i := by omega
    subst this; exact h
  ·rw [if_neg h, if_neg h]
   exact ⟨_, rfl, rfl, fun h => by cases h⟩
structure Fok (f : api_Font) : Prop where
 g : ∀ k, k < f.Glyphs.length → gok f.Glyphs k
 k : ∀ k, k < f.Kerns.length → krn f k
 n : f.Glyphs.length ≤ 94 ∧ f.Kerns.length ≤ 200
theorem fvalid_mk (f : api_Font) (hf : Sm f) : ∃ b, font_Valid f = some b ∧ formeref07_Valid f = some b ∧ (b = true → Fok f) := by
 unfold font_Valid formeref07_Valid
 by_cases h1 : 94 < (f.Glyphs.length : Int)
 ·exact ⟨false, by simp [h1], by simp [h1], fun h => by cases h⟩
 ·by_cases h2 : 200 < (f.Kerns.length : Int)
  ·exact ⟨false, by simp [h1, h2], by simp [h1, h2], fun h => by cases h⟩
  ·obtain ⟨o, e1, e2, e3⟩ := v45 f hf.1 _ 0 rfl (Nat.zero_le _)
   have e1' : font_Valid_l45 f 0 = some o := e1
   have e2' : formeref07_Valid_l45 f 0 = some o := e2
   simp only [h1, h2, if_false, decide_false, some_bind, Bool.false_eq_true, e1', e2']
   rcases o with u | u
   ·exact ⟨false, rfl, rfl, fun h => by cases h⟩
   ·have hg := fun k => e3 rfl k (Nat.zero_le _)
    obtain ⟨o, d1, d2, d3⟩ := v124 f hf hg _ 0 rfl (Nat.zero_le _)
    have d1' : font_Valid_l124 f 0 = some o := d1
    have d2' : formeref07_Valid_l124 f 0 = some o := d2
    simp only [d1', d2', some_bind]
    rcases o with u | u
    ·exact ⟨false, rfl, rfl, fun h => by cases h⟩
    ·exact ⟨true, rfl, rfl, fun _ => ⟨hg, fun k => d3 rfl k (Nat.zero_le _), by omega, by omega⟩⟩
end Go.Proofs.YtaemgcpcfnbmdaaGreatDoor.LG
namespace Go.Proofs.YtaemgcpcfnbmdaaGreatDoor.LG
open Go Go.LG Go.Lib

def hasG (f : api_Font) (l : List UInt8) : Bool := l.all fun b => decide (b.toNat = 126) || (gof f.Glyphs (b.toNat : Int)).isSome
theorem has_loop2 (f : api_Font) (hf : Sm f) (F : Fok f) (l : List UInt8) (hl : ∀ b ∈ l, 32 ≤ b.toNat ∧ b.toNat ≤ 126) : ∀ (n i : Nat), l.length - i = n → i ≤ l.length →
  ∃ o, font_Has_l62 f ⟨l.toArray⟩ i = some o ∧ (hasG f (l.drop i) = true → ∃ k, o = .inr k) ∧ (hasG f (l.drop i) = false → ∃ k, o = .inl k) := by
 intro n
 induction n with
 | zero =>
  intro i hn hi
  rw [font_Has_l62, sz, if_neg (by omega), List.drop_eq_nil_of_le (by omega)]
  exact ⟨_, rfl, fun _ => ⟨_, rfl⟩, fun h => by cases h⟩
 | succ n ih =>
  intro i hn hi
  have hlt : i < l.length := by omega
  have hb := hl _ (List.getElem_mem hlt)
  have e1 : wu8 ((l[i].toNat : Nat) : Int) = ((l[i].toNat : Nat) : Int) := wu8_id (by omega) (by omega)
  have hd : hasG f (l.drop i) = ((decide (l[i].toNat = 126) || (gof f.Glyphs (l[i].toNat : Int)).isSome) && hasG f (l.drop (i + 1))) := by
   rw [List.drop_eq_getElem_cons hlt]; rfl
  obtain ⟨o, h1, h2, h3⟩ := ih (i + 1) (by omega) (by omega)
  rw [font_Has_l62, sz, if_pos hlt, decode_small l hlt (by omega)]
  simp only [e1]
  rw [glyph_mk hf.1 (inc_of F.g), hd]
  by_cases h126 : l[i].toNat = 126
  ·have hg : gof f.Glyphs (l[i].toNat : Int) = none := by
    cases hg : gof f.Glyphs (l[i].toNat : Int) with
    | none => rfl
    | some g => have := gof_ok F.g hg; omega
   rw [hg]
   have : ((l[i].toNat : Nat) : Int) = 126 := by omega
   simp only [some_bind, this, not_true_eq_false, decide_false, Bool.not_false, if_true, Bool.false_eq_true, if_false, h126, decide_true, Bool.true_or, Bool.true_and]
   exact ⟨o, h1, h2, h3⟩
  ·have h126' : ¬ ((l[i].toNat : Nat) : Int) = 126 := by omega
   cases hg : gof f.Glyphs (l[i].toNat : Int) with
   | none =>
    simp only [some_bind, h126', not_false_eq_true, decide_true, Bool.not_false, if_true, h126, decide_false, Bool.false_or, Option.isSome_none, Bool.false_and]
    exact ⟨_, rfl, fun h => (by cases h), fun _ => ⟨_, rfl⟩⟩
   | some g =>
    simp only [some_bind, Bool.not_true, Bool.false_eq_true, if_false, h126, decide_false, Bool.false_or, Option.isSome_some, Bool.true_and]
    exact ⟨o, h1, h2, h3⟩
theorem has_mk (f : api_Font) (hf : Sm f) (F : Fok f) (hv : font_Valid f = some true) {l : List UInt8} (ho : okS l = true) : font_Has f ⟨l.toArray⟩ = some (hasG f l, 0) := by
 obtain ⟨o, h1, h2, h3⟩ := has_loop2 f hf F l (okS_all ho).1 _ 0 rfl (Nat.zero_le _)
 rw [List.drop_zero] at h2 h3
 unfold font_Has
 rw [hv, valid_mk, ho]
 simp only [some_bind, Bool.not_true, Bool.false_eq_true, if_false, h1]
 cases hh : hasG f l
 ·obtain ⟨k, rfl⟩ := h3 hh; rfl
 ·obtain ⟨k, rfl⟩ := h2 hh; rfl
theorem raw_e (f : api_Font) (hf : Sm f) (F : Fok f) (hv : font_Valid f = some true) {l : List UInt8} (ho : okS l = true) : ∃ r, font_Raw f ⟨l.toArray⟩ = some (if hasG f l = true then (r, 0) else (0, 20)) := by
 obtain ⟨j, u, hu⟩ := raw_loop f hf l (okS_all ho).1 _ 0 0 0 rfl
 have hu' : font_pairs_1_k1_l30 (rnd (fun (u : Int) (x : font_pair) => font_Raw_r67 f u x)) ⟨l.toArray⟩ 0 0 (0, none) = some (.inr (j, (u, none))) := hu
 refine ⟨u, ?_⟩
 unfold font_Raw font_pairs font_pairs_1_k1
 rw [has_mk f hf F hv ho]
 cases hh : hasG f l
 ·rfl
 ·simp only [some_bind, hu']
  rfl
def Wd (f : api_Font) (l : List UInt8) (s : Int) : Int := ((font_Width f ⟨l.toArray⟩ s).map (·.1)).getD 0
theorem width_e (f : api_Font) (hf : Sm f) (F : Fok f) (hv : font_Valid f = some true) {l : List UInt8} (ho : okS l = true) {s : Int} (hs : 50 ≤ s ∧ s ≤ 300) :
  font_Width f ⟨l.toArray⟩ s = some (if hasG f l = true then (Wd f l s, 0) else (0, 20)) := by
 obtain ⟨r, hr⟩ := raw_e f hf F hv ho
 have h1 : ¬ s < 50 := by omega
 have h2 : ¬ 300 < s := by omega
 have key : font_Width f ⟨l.toArray⟩ s = some (if hasG f l = true then (w64 (Int.tdiv (w64 ((w64 (r * s)) + 99)) 100), 0) else (0, 20)) := by
  unfold font_Width
  rw [hr, some_bind]
  cases hasG f l
  ·simp [h1, h2]
  ·simp [h1, h2]
 unfold Wd
 rw [key]
 cases hasG f l <;> rfl
theorem hasG_sub {f : api_Font} {l p : List UInt8} (h : hasG f l = true) (hp : ∀ b ∈ p, b ∈ l) : hasG f p = true :=
 List.all_eq_true.2 fun b hb => List.all_eq_true.1 h b (hp b hb)
theorem hasG_append {f : api_Font} {p q : List UInt8} (h : hasG f p = true) (k : hasG f q = true) : hasG f (p ++ q) = true := by
 unfold hasG at *; rw [List.all_append, h, k]; rfl
theorem trim_mem {l : List UInt8} {b : UInt8} (h : b ∈ trim l) : b ∈ l := by
 have h1 : ∀ (x : List UInt8), b ∈ tl x → b ∈ x := fun x hx => (List.dropWhile_sublist _).subset hx
 have h2 : ∀ (x : List UInt8), b ∈ tr x → b ∈ x := fun x hx => by
  unfold tr at hx
  first
   | exact (by simpa using (List.dropWhile_sublist _).subset (List.mem_reverse.1 hx))
   | exact (List.mem_reverse.1 ((List.dropWhile_sublist _).subset (by simpa using hx)))
 unfold trim at h
 first
  | exact h1 _ (h2 _ h)
  | exact h2 _ (h1 _ h)
theorem part_mem {l : List UInt8} {a e : Nat} {b : UInt8} (h : b ∈ part l a e false) : b ∈ l ∧ b.toNat ≠ 126 := by
 unfold part at h
 rw [if_neg (by decide), List.append_nil] at h
 have h1 := shown_mem (trim_mem h)
 exact ⟨List.mem_of_mem_drop (List.mem_of_mem_take h1.1), h1.2⟩
theorem part_hy (l : List UInt8) (a e : Nat) (h : Bool) : part l a e h = part l a e false ++ (if h = true then [45] else []) := by
 unfold part; simp
theorem part_okS {l : List UInt8} (ho : okS l = true) (hl : l.length ≤ 1000) (a e : Nat) (h : Bool) : okS (part l a e h) = true := by
 obtain ⟨h1, h2⟩ := okS_all ho
 rw [part_hy]
 refine okS_of (fun b hb => ?_) ?_
 ·rcases List.mem_append.1 hb with hb | hb
  ·exact h1 b (part_mem hb).1
  ·cases h
   ·simp at hb
   ·simp at hb; subst hb; decide
 ·have h3 : (part l a e false).length ≤ l.length := by
   unfold part
   rw [if_neg (by decide), List.append_nil]
   exact Nat.le_trans (trim_len _) (Nat.le_trans (shown_len _) (piece_len l a e))
  rw [List.length_append]
  cases h <;> simp <;> omega
theorem part_hasG {f : api_Font} {l : List UInt8} (h : hasG f l = true) (a e : Nat) (y : Bool) (hy : y = true → hasG f [45] = true) : hasG f (part l a e y) = true := by
 rw [part_hy]
 refine hasG_append (hasG_sub h fun b hb => (part_mem hb).1) ?_
 cases y
 ·rfl
 ·exact hy rfl
theorem hyph_loop (E : List (Nat × Bool)) (hE : E.length ≤ 1000000) : ∀ (n i : Nat), E.length - i = n → i ≤ E.length →
  ∃ o, slices_IndexFunc_api_Break_k1_l22 (E.map brk) (i : Int) = some o ∧ ((E.drop i).any (·.2) = true → ∃ k : Nat, o = .inl (k : Int)) ∧ ((E.drop i).any (·.2) = false → o = .inr ()) := by
 intro n
 induction n with
 | zero =>
  intro i hn hi
  rw [slices_IndexFunc_api_Break_k1_l22, List.length_map, if_neg (by omega), List.drop_eq_nil_of_le (by omega)]
  exact ⟨_, rfl, fun h => (by cases h), fun _ => rfl⟩
 | succ n ih =>
  intro i hn hi
  have hlt : i < E.length := by omega
  obtain ⟨o, h1, h2, h3⟩ := ih (i + 1) (by omega) (by omega)
  rw [slices_IndexFunc_api_Break_k1_l22, List.length_map, if_pos (by omega), if_pos ⟨by omega, by omega⟩, getD_map_brk E hlt, w64_id (n := (i : Int) + 1) (by omega) (by omega), add1, List.drop_eq_getElem_cons hlt, List.any_cons]
  unfold inline_prepare_1
  rw [some_bind]
  show ∃ o, (if (E[i]).2 = true then _ else _) = some o ∧ _
  cases hh : (E[i]).2
  ·rw [if_neg (by decide), Bool.false_or]
   exact ⟨o, h1, h2, h3⟩
  ·rw [if_pos rfl, Bool.true_or]
   exact ⟨_, rfl, fun _ => ⟨i, rfl⟩, fun h => by cases h⟩
theorem hyph_mk (E : List (Nat × Bool)) (hE : E.length ≤ 1000000) : slices_ContainsFunc_api_Break_k1 (E.map brk) = some (E.any (·.2)) := by
 obtain ⟨o, h1, h2, h3⟩ := hyph_loop E hE _ 0 rfl (Nat.zero_le _)
 have h1' : slices_IndexFunc_api_Break_k1_l22 (E.map brk) 0 = some o := h1
 rw [List.drop_zero] at h2 h3
 unfold slices_ContainsFunc_api_Break_k1 slices_IndexFunc_api_Break_k1
 rw [h1', some_bind]
 cases hh : E.any (·.2)
 ·rw [h3 hh]; rfl
 ·obtain ⟨k, rfl⟩ := h2 hh
  have : (0 : Int) ≤ (k : Int) := by omega
  simp [this]
def okP (f : api_Font) (b : api_Breaks) (l : List UInt8) : Bool := hasG f l && (!((LP b l).any (·.2)) || hasG f [45])
theorem prepare_v (f : api_Font) (hf : Sm f) (F : Fok f) (hfv : font_Valid f = some true) (b : api_Breaks) (l : List UInt8) (hk : b.Keep.length ≤ 100000000000000) (hs : l.length ≤ 100000) (hv : vb b = true) (ho : okS l = true) (sc : Int) (hsc : 50 ≤ sc ∧ sc ≤ 300) :
  inline_prepare f b ⟨l.toArray⟩ sc = some (if okP f b l = true then .inr (.inr (⟨l.toArray⟩, (ends b l).map brk, f, sc)) else .inr (.inl (⟨#[]⟩, []))) := by
 have hc := hyph_mk (LP b l) (by have := LP_len b l; omega)
 have e1 := has_mk f hf F hfv ho
 have e2 : font_Has f (⟨#[45]⟩ : ByteArray) = some (hasG f [45], 0) := has_mk f hf F hfv (l := [45]) (by decide)
 have hl : ((LP b l).map brk).length + 1 ≤ 8796093022208 := by
  have := LP_len b l
  rw [List.length_map]; omega
 have he : (LP b l).map brk ++ [(⟨(l.length : Int), false⟩ : api_Break)] = (ends b l).map brk := by
  unfold ends; rw [List.map_append]; rfl
 unfold inline_prepare okP
 rw [list_mk b l hk, hv, ho]
 simp only [Bool.and_self, if_true, some_bind, hfv, within_mk, hc, e1, e2, sz, if_pos hl, he]
 cases (LP b l).any (·.2) <;> cases hasG f l <;> cases hasG f [45] <;> simp [hsc]
end Go.Proofs.YtaemgcpcfnbmdaaGreatDoor.LG
namespace Go.Proofs.YtaemgcpcfnbmdaaGreatDoor.LG
open Go Go.LG Go.Lib

theorem bad_loop (r : List Int) (hr : r.length ≤ 1000000) : ∀ (n i : Nat), r.length - i = n → i ≤ r.length →
  ∃ o, slices_IndexFunc_int_k1_l22 r (i : Int) = some o ∧ ((r.drop i).any (fun x => !decide (0 ≤ x ∧ x ≤ 1000000000)) = true → ∃ k : Nat, o = .inl (k : Int)) ∧ ((r.drop i).any (fun x => !decide (0 ≤ x ∧ x ≤ 1000000000)) = false → o = .inr ()) := by
 intro n
 induction n with
 | zero =>
  intro i hn hi
  rw [slices_IndexFunc_int_k1_l22, if_neg (by omega), List.drop_eq_nil_of_le (by omega)]
  exact ⟨_, rfl, fun h => (by cases h), fun _ => rfl⟩
 | succ n ih =>
  intro i hn hi
  have hlt : i < r.length := by omega
  obtain ⟨o, h1, h2, h3⟩ := ih (i + 1) (by omega) (by omega)
  rw [slices_IndexFunc_int_k1_l22, if_pos (by omega), if_pos ⟨by omega, by omega⟩, getD_at r _ hlt, w64_id (n := (i : Int) + 1) (by omega) (by omega), add1, List.drop_eq_getElem_cons hlt, List.any_cons]
  unfold inline_Lines_1
  rw [within_mk]
  simp only [some_bind]
  by_cases hh : 0 ≤ r[i] ∧ r[i] ≤ 1000000000
  ·rw [decide_eq_true hh, if_neg (by decide)]
   exact ⟨o, h1, by simpa using h2, by simpa using h3⟩
  ·rw [decide_eq_false hh, if_pos (show (!false) = true from rfl)]
   exact ⟨_, rfl, fun _ => ⟨i, rfl⟩, fun h => by simp at h⟩
def badR (rooms : List Int) : Bool := decide (rooms = []) || rooms.any fun x => !decide (0 ≤ x ∧ x ≤ 1000000000)
theorem bad_mk (r : List Int) (hr : r.length ≤ 1000000) : ((if (r.length : Int) = 0 then some true else (slices_ContainsFunc_int_k1 r >>= fun y50 => some y50)) : Option Bool) = some (badR r) := by
 obtain ⟨o, h1, h2, h3⟩ := bad_loop r hr _ 0 rfl (Nat.zero_le _)
 have h1' : slices_IndexFunc_int_k1_l22 r 0 = some o := h1
 rw [List.drop_zero] at h2 h3
 unfold badR slices_ContainsFunc_int_k1 slices_IndexFunc_int_k1
 rw [h1', some_bind]
 by_cases h0 : r = []
 ·subst h0; rfl
 ·have h0' : ¬ (r.length : Int) = 0 := fun h => h0 (List.eq_nil_of_length_eq_zero (by omega))
  rw [if_neg h0', decide_eq_false h0, Bool.false_or]
  cases hh : r.any (fun x => !decide (0 ≤ x ∧ x ≤ 1000000000))
  ·rw [h3 hh]; rfl
  ·obtain ⟨k, rfl⟩ := h2 hh
   have : (0 : Int) ≤ (k : Int) := by omega
   simp [this]
theorem lines_v (f : api_Font) (hf : Sm f) (F : Fok f) (hfv : font_Valid f = some true) (b : api_Breaks) (l : List UInt8) (hk : b.Keep.length ≤ 100000000000000) (hs : l.length ≤ 100000) (hv : vb b = true) (ho : okS l = true) (sc : Int) (hsc : 50 ≤ sc ∧ sc ≤ 300) (rooms : List Int) (hr : rooms.length ≤ 1000000) :
  inline_Lines f b ⟨l.toArray⟩ sc rooms = some (if badR rooms = true then ([], 1) else if okP f b l = true then (lns f b l sc (roomAt rooms) (l.length + 1) 0 0, 0) else ([], 20)) := by
 unfold inline_Lines
 rw [bad_mk rooms hr, some_bind, prepare_v f hf F hfv b l hk hs hv ho sc hsc]
 cases hb : badR rooms
 ·have hne : rooms ≠ [] := fun h => by subst h; simp [badR] at hb
  have hpos : 0 < rooms.length := List.length_pos_iff.2 hne
  cases hp : okP f b l
  ·rfl
  ·have hL := lines_loop f hf b l hs ho sc rooms hpos hr (l.length + 1) 0 0 [] (by omega) (by omega) (Nat.le_refl _) (Nat.le_refl _)
   have hL' : inline_setter_lines_1_k1_l50 (rnd (fun (u : (List api_Line)) (x : api_Line) => slices_AppendSeq_api_Line_k2_r63 u x)) ⟨l.toArray⟩ ((ends b l).map brk) f sc rooms 0 0 ([], none) = some (lns f b l sc (roomAt rooms) (l.length + 1) 0 0, none) := hL
   simp only [Bool.false_eq_true, if_false, if_true, some_bind]
   unfold inline_setter_lines_k1 slices_Collect_api_Line_k1 slices_AppendSeq_api_Line_k2 inline_setter_lines_1_k1
   simp only [some_bind]
   rw [hL']
   rfl
 ·rfl
theorem ends_hyph {b : api_Breaks} {l : List UInt8} {f : api_Font} (h : okP f b l = true) : hasG f l = true ∧ ∀ q ∈ ends b l, q.2 = true → hasG f [45] = true := by
 unfold okP at h
 rw [Bool.and_eq_true] at h
 refine ⟨h.1, fun q hq hy => ?_⟩
 unfold ends at hq
 rcases List.mem_append.1 hq with hq | hq
 ·have : (LP b l).any (·.2) = true := List.any_eq_true.2 ⟨q, hq, hy⟩
  rw [this] at h
  simpa using h.2
 ·rw [List.mem_singleton.1 hq] at hy; cases hy
theorem W_mk (f : api_Font) (hf : Sm f) (F : Fok f) (hfv : font_Valid f = some true) (b : api_Breaks) (l : List UInt8) (hl : l.length ≤ 1000) (ho : okS l = true) {sc : Int} (hsc : 50 ≤ sc ∧ sc ≤ 300) (hp : okP f b l = true) (a : Nat) {q : Nat × Bool} (hq : q ∈ ends b l) :
  font_Width f ⟨(part l a q.1 q.2).toArray⟩ sc = some (W f l sc a q, 0) := by
 obtain ⟨h1, h2⟩ := ends_hyph hp
 have h := width_e f hf F hfv (part_okS ho hl a q.1 q.2) hsc
 rw [if_pos (part_hasG h1 a q.1 q.2 (h2 q hq))] at h
 rw [h]; rfl
end Go.Proofs.YtaemgcpcfnbmdaaGreatDoor.LG
namespace Go.Proofs.YtaemgcpcfnbmdaaGreatDoor.LG
open Go Go.LG Go.Lib

def klt (a b c d : Int) : Prop := a < c ∨ a = c ∧ b < d
def Kinc (ks : List api_Kern) : Prop := ∀ i j, i < ks.length → j < ks.length → i < j → klt (kk ks i).Left (kk ks i).Right (kk ks j).Left (kk ks j).Right
theorem kinc_of {f : api_Font} (F : Fok f) : Kinc f.Kerns := by
 intro i j hi hj hij
 induction j with
 | zero => omega
 | succ j ih =>
  have h1 := (F.k (j + 1) hj).2.2.2 (by omega)
  have h2 : j + 1 - 1 = j := rfl
  rw [h2] at h1
  rcases Nat.lt_or_ge i j with h' | h'
  ·have := ih (by omega) h'
   unfold klt at *; omega
  ·have : i = j := by omega
   subst this; exact h1
theorem order_neg (k : api_Kern) (p : font_pair) : ((if k.Left < p.left then (-1 : Int) else if p.left < k.Left then 1 else if k.Right < p.right then -1 else if p.right < k.Right then 1 else 0) < 0 ↔ klt k.Left k.Right p.left p.right) := by
 unfold klt
 by_cases h1 : k.Left < p.left
 ·simp [h1]
 ·by_cases h2 : p.left < k.Left
  ·simp [h1, h2]; omega
  ·by_cases h3 : k.Right < p.right
   ·simp [h1, h2, h3]; omega
   ·by_cases h4 : p.right < k.Right
    ·simp [h1, h2, h3, h4]
    ·simp [h1, h2, h3, h4]
theorem order_zero (k : api_Kern) (p : font_pair) : ((if k.Left < p.left then (-1 : Int) else if p.left < k.Left then 1 else if k.Right < p.right then -1 else if p.right < k.Right then 1 else 0) = 0 ↔ k.Left = p.left ∧ k.Right = p.right) := by
 by_cases h1 : k.Left < p.left
 ·simp [h1]; omega
 ·by_cases h2 : p.left < k.Left
  ·simp [h1, h2]; omega
  ·by_cases h3 : k.Right < p.right
   ·simp [h1, h2, h3]; omega
   ·by_cases h4 : p.right < k.Right
    ·simp [h1, h2, h3, h4]; omega
    ·simp [h1, h2, h3, h4]; omega
theorem bs_kern2 (l : List api_Kern) (p : font_pair) (hl : l.length ≤ 1000000) (hI : Kinc l) : ∀ (n i j : Nat), j - i = n → i ≤ j → j ≤ l.length →
  (∀ k, k < l.length → k < i → klt (kk l k).Left (kk l k).Right p.left p.right) → (∀ k, k < l.length → j ≤ k → ¬ klt (kk l k).Left (kk l k).Right p.left p.right) →
  ∃ r : Nat, slices_BinarySearchFunc_font_pair_k1_l31 l p (i : Int) (j : Int) = some (r : Int) ∧ r ≤ l.length ∧ (∀ k, k < l.length → k < r → klt (kk l k).Left (kk l k).Right p.left p.right) ∧ (∀ k, k < l.length → r ≤ k → ¬ klt (kk l k).Left (kk l k).Right p.left p.right) := by
 intro n
 induction n using Nat.strongRecOn with
 | _ n ih =>
  intro i j hn h1 h2 hlo hhi
  rw [slices_BinarySearchFunc_font_pair_k1_l31]
  by_cases h : i < j
  ·have em : ((i : Int) + (j : Int)) / 2 = (((i + j) / 2 : Nat) : Int) := by omega
   have hm : (i + j) / 2 < l.length := by omega
   have e : w64 ((((i + j) / 2 : Nat) : Int) + 1) = (((i + j) / 2 + 1 : Nat) : Int) := by rw [w64_id (by omega) (by omega)]; omega
   have e0 : l.getD (Int.toNat (((i + j) / 2 : Nat) : Int)) z_api_Kern = kk l ((i + j) / 2) := rfl
   rw [if_pos (by omega), mid_eq (by omega) (by omega) (by omega), em, if_pos ⟨by omega, by omega⟩, order_mk, some_bind, e0, e]
   by_cases hc : klt (kk l ((i + j) / 2)).Left (kk l ((i + j) / 2)).Right p.left p.right
   ·rw [if_pos ((order_neg _ _).2 hc)]
    refine ih _ (by omega) _ _ rfl (by omega) h2 (fun k hk hki => ?_) hhi
    rcases Nat.lt_or_ge k ((i + j) / 2) with h' | h'
    ·have := hI k _ hk hm h'; unfold klt at *; omega
    ·have : k = (i + j) / 2 := by omega
     subst this; exact hc
   ·rw [if_neg (fun h => hc ((order_neg _ _).1 h))]
    refine ih _ (by omega) _ _ rfl (by omega) (by omega) hlo (fun k hk hki => ?_)
    rcases Nat.lt_or_ge ((i + j) / 2) k with h' | h'
    ·have := hI _ k hm hk h'; unfold klt at *; omega
    ·have : k = (i + j) / 2 := by omega
     subst this; exact hc
  ·rw [if_neg (by omega)]
   have : i = j := by omega
   subst this
   exact ⟨i, rfl, h2, hlo, hhi⟩
def kof (ks : List api_Kern) (a c : Int) : Option api_Kern := ks.find? fun k => decide (k.Left = a ∧ k.Right = c)
theorem find_kern_mk {f : api_Font} (hf : Sm f) (F : Fok f) (p : font_pair) :
  font_find_font_pair_k1 f.Kerns p = some (match kof f.Kerns p.left p.right with | some k => (k, true) | none => (⟨0, 0, 0⟩, false)) := by
 have hI := kinc_of F
 have hk := hf.2
 obtain ⟨r, hr, hle, hlo, hhi⟩ := bs_kern2 f.Kerns p hf.2 hI _ 0 f.Kerns.length rfl (Nat.zero_le _) (Nat.le_refl _) (fun k _ h => by omega) (fun k h h' => by omega)
 have hr' : slices_BinarySearchFunc_font_pair_k1_l31 f.Kerns p 0 (f.Kerns.length : Int) = some (r : Int) := hr
 unfold font_find_font_pair_k1 slices_BinarySearchFunc_font_pair_k1
 rw [hr', some_bind]
 by_cases h : r < f.Kerns.length
 ·have e0 : f.Kerns.getD (Int.toNat (r : Int)) z_api_Kern = kk f.Kerns r := rfl
  rw [if_pos (by omega), if_pos ⟨by omega, by omega⟩, order_mk, e0]
  simp only [some_bind]
  by_cases hb : (kk f.Kerns r).Left = p.left ∧ (kk f.Kerns r).Right = p.right
  ·have e : kof f.Kerns p.left p.right = some (kk f.Kerns r) := by
    rw [← kk_at f.Kerns h]
    exact find_some r h (by rw [kk_at f.Kerns h]; simpa using hb) fun k hk hkr => by
     have := hlo k hk hkr
     rw [kk_at f.Kerns hk]
     unfold klt at this
     simp; omega
   rw [e, decide_eq_true ((order_zero _ _).2 hb)]
   simp [h, kk_at f.Kerns h]
  ·have e : kof f.Kerns p.left p.right = none := find_no fun k hk => by
    rw [kk_at f.Kerns hk]
    rcases Nat.lt_or_ge k r with h' | h'
    ·have := hlo k hk h'; unfold klt at this; simp; omega
    ·have h0 := hhi r h (Nat.le_refl _)
     rcases Nat.lt_or_ge r k with h'' | h''
     ·have := hI r k h hk h''; unfold klt at *; simp; omega
     ·have : k = r := by omega
      subst this
      exact decide_eq_false hb
   rw [e, decide_eq_false (fun h => hb ((order_zero _ _).1 h))]
   simp
 ·have e : kof f.Kerns p.left p.right = none := find_no fun k hk => by
   rw [kk_at f.Kerns hk]
   have := hlo k hk (by omega); unfold klt at this; simp; omega
  rw [if_neg (by omega), e]
  simp
def advI (f : api_Font) (a : Int) : Int := ((gof f.Glyphs a).map (·.Advance)).getD 0
def kerI (f : api_Font) (a c : Int) : Int := ((kof f.Kerns a c).map (·.By)).getD 0
theorem advI_ok {f : api_Font} (F : Fok f) (a : Int) : 0 ≤ advI f a ∧ advI f a ≤ 1000 := by
 unfold advI
 cases h : gof f.Glyphs a with
 | none => exact ⟨Int.le_refl _, by decide⟩
 | some g => have := gof_ok F.g h; exact ⟨this.2.2.1, this.2.2.2⟩
theorem kerI_ok {f : api_Font} (F : Fok f) (a c : Int) : -1000 ≤ kerI f a c ∧ kerI f a c ≤ 1000 ∧ 0 ≤ advI f a + kerI f a c := by
 have ha := advI_ok F a
 unfold kerI
 cases h : kof f.Kerns a c with
 | none => exact ⟨by decide, by decide, by simpa using ha.1⟩
 | some k =>
  have hm := List.mem_of_find?_eq_some h
  have hp : k.Left = a ∧ k.Right = c := by simpa using List.find?_some h
  obtain ⟨i, hi, rfl⟩ := List.getElem_of_mem hm
  rw [kk_at f.Kerns hi] at *
  obtain ⟨⟨g, hg, h0⟩, _, h1, _⟩ := F.k i hi
  rw [hp.1] at hg
  have hgo := gof_ok F.g hg
  have e : advI f a = g.Advance := by unfold advI; rw [hg]; rfl
  rw [e]
  show -1000 ≤ (kk f.Kerns i).By ∧ (kk f.Kerns i).By ≤ 1000 ∧ 0 ≤ g.Advance + (kk f.Kerns i).By
  omega
theorem glyph_adv {f : api_Font} (hf : Sm f) (F : Fok f) (b : Int) : ∃ g y, font_glyph f b = some (g, y) ∧ g.Advance = advI f b := by
 rw [glyph_mk hf.1 (inc_of F.g)]
 unfold advI
 cases gof f.Glyphs b with
 | none => exact ⟨_, _, rfl, rfl⟩
 | some g => exact ⟨_, _, rfl, rfl⟩
theorem kern_by {f : api_Font} (hf : Sm f) (F : Fok f) (p : font_pair) : ∃ k y, font_find_font_pair_k1 f.Kerns p = some (k, y) ∧ k.By = kerI f p.left p.right := by
 rw [find_kern_mk hf F]
 unfold kerI
 cases kof f.Kerns p.left p.right with
 | none => exact ⟨_, _, rfl, rfl⟩
 | some g => exact ⟨_, _, rfl, rfl⟩
def rawS (f : api_Font) : Int → List UInt8 → Int
 | _, [] => 0
 | a, c :: l => if c.toNat = 126 then rawS f a l else (advI f (c.toNat : Int) + kerI f a (c.toNat : Int)) + rawS f (c.toNat : Int) l
theorem rawS_le {f : api_Font} (F : Fok f) : ∀ (l : List UInt8) (a : Int), rawS f a l ≤ 2000 * (l.length : Int)
 | [], a => by unfold rawS; simp
 | c :: l, a => by
  unfold rawS
  have h1 := advI_ok F (c.toNat : Int); have h2 := kerI_ok F a (c.toNat : Int)
  have h3 := rawS_le F l a; have h4 := rawS_le F l (c.toNat : Int)
  rw [List.length_cons]
  split <;> omega
theorem rawS_ge {f : api_Font} (F : Fok f) : ∀ (l : List UInt8) (a : Int), 0 ≤ advI f a + rawS f a l
 | [], a => by unfold rawS; have := advI_ok F a; omega
 | c :: l, a => by
  unfold rawS
  have h2 := kerI_ok F a (c.toNat : Int)
  have h3 := rawS_ge F l a; have h4 := rawS_ge F l (c.toNat : Int)
  split <;> omega
theorem rawS_pos {f : api_Font} (F : Fok f) (l : List UInt8) : 0 ≤ rawS f 0 l := by
 have h := rawS_ge F l 0
 have e : advI f 0 = 0 := by
  unfold advI
  cases h : gof f.Glyphs 0 with
  | none => rfl
  | some g => have := gof_ok F.g h; omega
 omega
theorem raw_loop2 (f : api_Font) (hf : Sm f) (F : Fok f) (l : List UInt8) (hl : ∀ b ∈ l, 32 ≤ b.toNat ∧ b.toNat ≤ 126) (hs : l.length ≤ 1000000) : ∀ (n i : Nat) (p u : Int), l.length - i = n → i ≤ l.length → -3000 * (i : Int) ≤ u → u ≤ 3000 * (i : Int) →
  ∃ j, font_pairs_1_k1_l30 (rnd (fun (u : Int) (x : font_pair) => font_Raw_r67 f u x)) ⟨l.toArray⟩ p i (u, none) = some (.inr (j, (u + rawS f p (l.drop i), none))) := by
 intro n
 induction n with
 | zero =>
  intro i p u hn hi h1 h2
  rw [font_pairs_1_k1_l30, sz, if_neg (by omega), List.drop_eq_nil_of_le (by omega)]
  unfold rawS
  exact ⟨_, by rw [Int.add_zero]⟩
 | succ n ih =>
  intro i p u hn hi h1 h2
  have hlt : i < l.length := by omega
  have hb := hl _ (List.getElem_mem hlt)
  have e1 : wu8 ((l[i].toNat : Nat) : Int) = ((l[i].toNat : Nat) : Int) := wu8_id (by omega) (by omega)
  rw [font_pairs_1_k1_l30, sz, if_pos hlt, decode_small l hlt (by omega), List.drop_eq_getElem_cons hlt]
  simp only [e1]
  unfold rawS
  by_cases h : l[i].toNat = 126
  ·have h' : ((l[i].toNat : Nat) : Int) = 126 := by omega
   rw [if_pos h', if_pos h]
   exact ih (i + 1) p u (by omega) (by omega) (by omega) (by omega)
  ·have h' : ¬ ((l[i].toNat : Nat) : Int) = 126 := by omega
   have ha := advI_ok F (l[i].toNat : Int); have hk := kerI_ok F p (l[i].toNat : Int)
   have step : rnd (fun (u : Int) (x : font_pair) => font_Raw_r67 f u x) (u, none) ⟨p, ((l[i].toNat : Nat) : Int)⟩ = some ((u + (advI f (l[i].toNat : Int) + kerI f p (l[i].toNat : Int)), none), true) := by
    obtain ⟨g, y, hg, e2⟩ := glyph_adv hf F (l[i].toNat : Int)
    obtain ⟨k, z, hk', e3⟩ := kern_by hf F ⟨p, (l[i].toNat : Int)⟩
    unfold rnd font_Raw_r67
    simp only [hg, hk', some_bind]
    show some ((w64 (u + w64 (_ + _)), none), true) = _
    rw [e2, e3, w64_id (n := advI f (l[i].toNat : Int) + kerI f p (l[i].toNat : Int)) (by omega) (by omega), w64_id (by omega) (by omega)]
   rw [if_neg h', if_neg h, step, some_bind]
   obtain ⟨j, hj⟩ := ih (i + 1) (l[i].toNat : Int) (u + (advI f (l[i].toNat : Int) + kerI f p (l[i].toNat : Int))) (by omega) (by omega) (by omega) (by omega)
   rw [Int.add_assoc] at hj
   exact ⟨j, hj⟩
theorem raw_mk (f : api_Font) (hf : Sm f) (F : Fok f) (hv : font_Valid f = some true) {l : List UInt8} (ho : okS l = true) : font_Raw f ⟨l.toArray⟩ = some (if hasG f l = true then (rawS f 0 l, 0) else (0, 20)) := by
 obtain ⟨h1, h2⟩ := okS_all ho
 obtain ⟨j, hu⟩ := raw_loop2 f hf F l h1 (by omega) _ 0 0 0 rfl (Nat.zero_le _) (Int.le_refl _) (Int.le_refl _)
 have hu' : font_pairs_1_k1_l30 (rnd (fun (u : Int) (x : font_pair) => font_Raw_r67 f u x)) ⟨l.toArray⟩ 0 0 (0, none) = some (.inr (j, (rawS f 0 l, none))) := by
  rw [List.drop_zero, Int.zero_add] at hu; exact hu
 unfold font_Raw font_pairs font_pairs_1_k1
 rw [has_mk f hf F hv ho]
 cases hh : hasG f l
 ·rfl
 ·simp only [some_bind, hu']
  rfl
theorem wd_mk (f : api_Font) (hf : Sm f) (F : Fok f) (hv : font_Valid f = some true) {l : List UInt8} (ho : okS l = true) {s : Int} (hs : 50 ≤ s ∧ s ≤ 300) (hg : hasG f l = true) : Wd f l s = (rawS f 0 l * s + 99) / 100 := by
 have h1 : ¬ s < 50 := by omega
 have h2 : ¬ 300 < s := by omega
 have hl := (okS_all ho).2
 have b1 := rawS_pos F l
 have b2 := rawS_le F l 0
 have b3 : 0 ≤ rawS f 0 l * s := Int.mul_nonneg b1 (by omega)
 have b4 : rawS f 0 l * s ≤ 4000000 * 300 := Int.mul_le_mul (by omega) hs.2 (by omega) (by omega)
 unfold Wd font_Width
 rw [raw_mk f hf F hv ho, hg]
 simp only [if_true, some_bind]
 rw [w64_id (n := rawS f 0 l * s) (by omega) (by omega), w64_id (n := rawS f 0 l * s + 99) (by omega) (by omega), Int.tdiv_eq_ediv_of_nonneg (by omega), w64_id (by omega) (by omega)]
 simp [h1, h2]
theorem wd_ok (f : api_Font) (hf : Sm f) (F : Fok f) (hv : font_Valid f = some true) {l : List UInt8} (ho : okS l = true) (hl : l.length ≤ 1000) {s : Int} (hs : 50 ≤ s ∧ s ≤ 300) (hg : hasG f l = true) : 0 ≤ Wd f l s ∧ Wd f l s ≤ 6000001 := by
 have b1 := rawS_pos F l
 have b2 := rawS_le F l 0
 have b3 : 0 ≤ rawS f 0 l * s := Int.mul_nonneg b1 (by omega)
 have b4 : rawS f 0 l * s ≤ 2000000 * 300 := Int.mul_le_mul (by omega) hs.2 (by omega) (by omega)
 rw [wd_mk f hf F hv ho hs hg]
 omega
end Go.Proofs.YtaemgcpcfnbmdaaGreatDoor.LG
namespace Go.Proofs.YtaemgcpcfnbmdaaGreatDoor.LG
open Go Go.LG Go.Lib

def Keeps {S : Type} (Inv : S → Prop) (n : Nat) (ψ : S → Int × Int → Option (S × Option Nat)) : Prop :=
 ∀ s (i k : Nat), Inv s → i < k → k ≤ n → ∃ s', ψ s ((i : Int), (k : Int)) = some (s', none) ∧ Inv s'
theorem run_byte (a : List Int) (ha : a.length ≤ 1000000) : ∀ (n i : Nat), a.length - i = n → i ≤ a.length → ∃ k : Nat, bidi_runs_1_byte_k1_l69 a (i : Int) = some (k : Int) ∧ i ≤ k ∧ k ≤ a.length := by
 intro n
 induction n with
 | zero =>
  intro i hn hi
  rw [bidi_runs_1_byte_k1_l69, if_neg (by omega)]
  exact ⟨i, rfl, Nat.le_refl _, hi⟩
 | succ n ih =>
  intro i hn hi
  rw [bidi_runs_1_byte_k1_l69, if_pos (by omega), if_pos ⟨by omega, by omega⟩]
  unfold bidi_directions_2
  rw [class_eq]
  simp only [some_bind]
  by_cases hc : 3 < cl (a.getD (Int.toNat (i : Int)) 0)
  ·rw [decide_eq_true hc, if_pos rfl, w64_id (n := (i : Int) + 1) (by omega) (by omega), add1]
   obtain ⟨k, h1, h2, h3⟩ := ih (i + 1) (by omega) (by omega)
   exact ⟨k, h1, by omega, h3⟩
  ·rw [decide_eq_false hc, if_neg (by decide)]
   exact ⟨i, rfl, Nat.le_refl _, hi⟩
theorem runs_byte {S : Type} (Inv : S → Prop) (a : List Int) (ha : a.length ≤ 1000000) (ψ : S → Int × Int → Option (S × Option Nat)) (hψ : Keeps Inv a.length ψ) : ∀ (n i : Nat) (s : S), a.length - i = n → Inv s →
  ∃ s', bidi_runs_1_byte_k1_l28 (rnd ψ) a (i : Int) (s, none) = some (.inr (s', none)) ∧ Inv s' := by
 intro n
 induction n using Nat.strongRecOn with
 | _ n ih =>
  intro i s hn hs
  rw [bidi_runs_1_byte_k1_l28]
  by_cases h : i < a.length
  ·obtain ⟨k, h1, h2, h3⟩ := run_byte a ha _ i rfl (by omega)
   rw [if_pos (by omega), h1, some_bind]
   have e : w64 (max (i : Int) (k : Int) + 1) = ((k + 1 : Nat) : Int) := by rw [w64_id (by omega) (by omega)]; omega
   rw [e]
   by_cases hik : i < k
   ·obtain ⟨s', hs1, hs2⟩ := hψ s i k hs hik h3
    have step : rnd ψ (s, none) ((i : Int), (k : Int)) = some ((s', none), true) := by
     unfold rnd; simp only; rw [hs1]; rfl
    rw [if_pos (by omega), step]
    exact ih _ (by omega) (k + 1) s' rfl hs2
   ·rw [if_neg (by omega)]
    exact ih _ (by omega) (k + 1) s rfl hs
  ·rw [if_neg (by omega)]; exact ⟨s, rfl, hs⟩
theorem run_int (a lv : List Int) (t : Int) (ha : a.length ≤ 1000000) (hv : ∀ x ∈ a, 0 ≤ x ∧ x < (lv.length : Int)) : ∀ (n i : Nat), a.length - i = n → i ≤ a.length → ∃ k : Nat, bidi_runs_1_int_k1_l79 a lv t (i : Int) = some (k : Int) ∧ i ≤ k ∧ k ≤ a.length := by
 intro n
 induction n with
 | zero =>
  intro i hn hi
  rw [bidi_runs_1_int_k1_l79, if_neg (by omega)]
  exact ⟨i, rfl, Nat.le_refl _, hi⟩
 | succ n ih =>
  intro i hn hi
  have hlt : i < a.length := by omega
  have e0 : a.getD (Int.toNat (i : Int)) 0 = a[i] := by simp [List.getD_eq_getElem?_getD, hlt]
  rw [bidi_runs_1_int_k1_l79, if_pos (by omega), if_pos ⟨by omega, by omega⟩, e0]
  unfold bidi_turn_1_k1
  rw [if_pos (hv _ (List.getElem_mem hlt))]
  simp only [some_bind]
  by_cases hc : t ≤ lv.getD (Int.toNat a[i]) 0
  ·rw [decide_eq_true hc, if_pos rfl, w64_id (n := (i : Int) + 1) (by omega) (by omega), add1]
   obtain ⟨k, h1, h2, h3⟩ := ih (i + 1) (by omega) (by omega)
   exact ⟨k, h1, by omega, h3⟩
  ·rw [decide_eq_false hc, if_neg (by decide)]
   exact ⟨i, rfl, Nat.le_refl _, hi⟩
theorem runs_int {S : Type} (Inv : S → Prop) (a lv : List Int) (t : Int) (ha : a.length ≤ 1000000) (hv : ∀ x ∈ a, 0 ≤ x ∧ x < (lv.length : Int)) (ψ : S → Int × Int → Option (S × Option Nat)) (hψ : Keeps Inv a.length ψ) : ∀ (n i : Nat) (s : S), a.length - i = n → Inv s →
  ∃ s', bidi_runs_1_int_k1_l38 (rnd ψ) a lv t (i : Int) (s, none) = some (.inr (s', none)) ∧ Inv s' := by
 intro n
 induction n using Nat.strongRecOn with
 | _ n ih =>
  intro i s hn hs
  rw [bidi_runs_1_int_k1_l38]
  by_cases h : i < a.length
  ·obtain ⟨k, h1, h2, h3⟩ := run_int a lv t ha hv _ i rfl (by omega)
   rw [if_pos (by omega), h1, some_bind]
   have e : w64 (max (i : Int) (k : Int) + 1) = ((k + 1 : Nat) : Int) := by rw [w64_id (by omega) (by omega)]; omega
   rw [e]
   by_cases hik : i < k
   ·obtain ⟨s', hs1, hs2⟩ := hψ s i k hs hik h3
    have step : rnd ψ (s, none) ((i : Int), (k : Int)) = some ((s', none), true) := by
     unfold rnd; simp only; rw [hs1]; rfl
    rw [if_pos (by omega), step]
    exact ih _ (by omega) (k + 1) s' rfl hs2
   ·rw [if_neg (by omega)]
    exact ih _ (by omega) (k + 1) s rfl hs
  ·rw [if_neg (by omega)]; exact ⟨s, rfl, hs⟩
def Bits (n : Nat) (v : List Int) : Prop := v.length = n ∧ ∀ x ∈ v, x = 0 ∨ x = 1
theorem Bits.set {n : Nat} {v : List Int} (h : Bits n v) (i : Nat) {x : Int} (hx : x = 0 ∨ x = 1) : Bits n (v.set i x) :=
 ⟨by rw [List.length_set]; exact h.1, fun y hy => by
  rcases List.mem_or_eq_of_mem_set hy with h' | h'
  ·exact h.2 y h'
  ·rw [h']; exact hx⟩
theorem dirs_loop (l : List UInt8) (hl : l.length ≤ 1000000) : ∀ (n i : Nat) (v : List Int) (now : Int), l.length - i = n → i ≤ l.length → Bits l.length v → (now = 0 ∨ now = 1) →
  ∃ v', bidi_directions_l50 ⟨l.toArray⟩ v now (i : Int) = some v' ∧ Bits l.length v' := by
 intro n
 induction n with
 | zero =>
  intro i v now hn hi hv hnow
  rw [bidi_directions_l50, sz, List.length_replicate, Int.toNat_natCast, if_neg (by omega)]
  exact ⟨v, rfl, hv⟩
 | succ n ih =>
  intro i v now hn hi hv hnow
  have b : (0 : Int) ≤ (i : Int) ∧ (i : Int) < (l.length : Int) := ⟨by omega, by omega⟩
  rw [bidi_directions_l50]
  simp only [sz, List.length_replicate, Int.toNat_natCast, if_pos b, if_pos b.2, class_eq, some_bind]
  rw [w64_id (n := (i : Int) + 1) (by omega) (by omega), add1]
  by_cases h1 : cl (bt ⟨l.toArray⟩ (i : Int)) = 1
  ·rw [if_pos h1]; simp only [some_bind]
   exact ih (i + 1) _ _ (by omega) (by omega) (hv.set _ (.inl rfl)) (.inl rfl)
  ·by_cases h2 : cl (bt ⟨l.toArray⟩ (i : Int)) = 2
   ·rw [if_neg h1, if_pos h2]; simp only [some_bind]
    exact ih (i + 1) _ _ (by omega) (by omega) (hv.set _ (.inr rfl)) (.inr rfl)
   ·rw [if_neg h1, if_neg h2]; simp only [some_bind]
    exact ih (i + 1) _ _ (by omega) (by omega) (hv.set _ hnow) hnow
theorem fill_loop (a : List Int) (x : Int) (hx : x = 0 ∨ x = 1) (ha : a.length ≤ 1000000) : ∀ (n i : Nat) (v : List Int), a.length - i = n → i ≤ a.length → Bits a.length v → ∃ v', bidi_fill_k1_l33 a x v (i : Int) = some v' ∧ Bits a.length v' := by
 intro n
 induction n with
 | zero =>
  intro i v hn hi hv
  rw [bidi_fill_k1_l33, if_neg (by omega)]
  exact ⟨v, rfl, hv⟩
 | succ n ih =>
  intro i v hn hi hv
  rw [bidi_fill_k1_l33, if_pos (by omega), if_pos ⟨by omega, by omega⟩, w64_id (n := (i : Int) + 1) (by omega) (by omega), add1]
  exact ih (i + 1) _ (by omega) (by omega) (hv.set _ hx)
theorem cutl_len {α : Type} (v : List α) {i k : Nat} (hik : i ≤ k) (hk : k ≤ v.length) : (cutl v (i : Int) (k : Int)).length = k - i := by
 unfold cutl; simp; omega
theorem splice_len {α : Type} (v w : List α) {i k : Nat} (hik : i ≤ k) (hk : k ≤ v.length) (hw : w.length = k - i) : (List.take (Int.toNat (i : Int)) v ++ (w ++ List.drop (Int.toNat (k : Int)) v)).length = v.length := by
 simp; omega
theorem at_mk (v : List Int) (dir : Int) (i : Int) (hv : ∀ x ∈ v, x = 0 ∨ x = 1) (hd : dir = 0 ∨ dir = 1) : ∃ r, bidi_directions_1_k1 i v dir = some r ∧ (r = 0 ∨ r = 1) := by
 unfold bidi_directions_1_k1
 by_cases h1 : i < 0
 ·rw [if_pos h1, some_bind, if_pos rfl]; exact ⟨dir, rfl, hd⟩
 ·rw [if_neg h1, some_bind]
  by_cases h2 : (v.length : Int) ≤ i
  ·rw [decide_eq_true h2, if_pos rfl]; exact ⟨dir, rfl, hd⟩
  ·rw [decide_eq_false h2, if_neg (by decide), if_pos ⟨by omega, by omega⟩]
   have hlt : Int.toNat i < v.length := by omega
   exact ⟨_, rfl, by rw [List.getD_eq_getElem?_getD, List.getElem?_eq_getElem hlt]; exact hv _ (List.getElem_mem hlt)⟩
theorem dirs_round (l : List UInt8) (dir : Int) (hd : dir = 0 ∨ dir = 1) (hl : l.length ≤ 1000000) : Keeps (Bits l.length) l.length (fun (u : List Int) (x : Int × Int) => bidi_directions_r170 ⟨l.toArray⟩ dir u x.1 x.2) := by
 intro v i k hv hik hk
 obtain ⟨r1, h1, b1⟩ := at_mk v dir (w64 ((i : Int) - 1)) hv.2 hd
 obtain ⟨r2, h2, b2⟩ := at_mk v dir (k : Int) hv.2 hd
 have hc : (cutl v (i : Int) (k : Int)).length = k - i := cutl_len v (by omega) (by rw [hv.1]; exact hk)
 have hcb : Bits (cutl v (i : Int) (k : Int)).length (cutl v (i : Int) (k : Int)) := ⟨rfl, fun x hx => hv.2 x (List.mem_of_mem_take (List.mem_of_mem_drop hx))⟩
 have b : (0 : Int) ≤ (i : Int) ∧ ((i : Int) : Int) ≤ (k : Int) ∧ (k : Int) ≤ (l.length : Int) := ⟨by omega, by omega, by omega⟩
 have key : ∀ x, (x = 0 ∨ x = 1) → ∃ w, bidi_fill_k1 (cutl v (i : Int) (k : Int)) x = some w ∧ Bits l.length (List.take (Int.toNat (i : Int)) v ++ (w ++ List.drop (Int.toNat (k : Int)) v)) := by
  intro x hx
  obtain ⟨w, hw, hb⟩ := fill_loop (cutl v (i : Int) (k : Int)) x hx (by omega) _ 0 _ rfl (Nat.zero_le _) hcb
  have hw' : bidi_fill_k1_l33 (cutl v (i : Int) (k : Int)) x (cutl v (i : Int) (k : Int)) 0 = some w := hw
  refine ⟨w, by unfold bidi_fill_k1; rw [hw']; rfl, ?_, fun y hy => ?_⟩
  ·rw [splice_len v w (by omega) (by rw [hv.1]; exact hk) (by rw [hb.1, hc])]; exact hv.1
  ·rcases List.mem_append.1 hy with hy | hy
   ·exact hv.2 y (List.mem_of_mem_take hy)
   ·rcases List.mem_append.1 hy with hy | hy
    ·exact hb.2 y hy
    ·exact hv.2 y (List.mem_of_mem_drop hy)
 simp only
 unfold bidi_directions_r170
 simp only [h1, h2, some_bind, sz, List.length_replicate, Int.toNat_natCast, if_pos b]
 by_cases hr : r1 = r2
 ·rw [if_pos hr]
  obtain ⟨w, hw, hb⟩ := key r1 b1
  rw [hw]; exact ⟨_, rfl, hb⟩
 ·rw [if_neg hr]
  obtain ⟨w, hw, hb⟩ := key dir hd
  rw [hw]; exact ⟨_, rfl, hb⟩
theorem sbytes_len (l : List UInt8) : (sbytes ⟨l.toArray⟩).length = l.length := by unfold sbytes; simp
theorem dirs_mk (l : List UInt8) (dir : Int) (hd : dir = 0 ∨ dir = 1) (hl : l.length ≤ 1000000) : ∃ v, bidi_directions ⟨l.toArray⟩ dir = some v ∧ Bits l.length v := by
 have h0 : Bits l.length (List.replicate l.length (0 : Int)) := ⟨List.length_replicate .., fun x hx => .inl (List.eq_of_mem_replicate hx)⟩
 obtain ⟨v, h1, h2⟩ := dirs_loop l hl _ 0 _ dir rfl (Nat.zero_le _) h0 hd
 have h1' : bidi_directions_l50 ⟨l.toArray⟩ (List.replicate l.length (0 : Int)) dir 0 = some v := h1
 have hr := runs_byte (Bits l.length) (sbytes ⟨l.toArray⟩) (by rw [sbytes_len]; exact hl) _ (by rw [sbytes_len]; exact dirs_round l dir hd hl) _ 0 v rfl h2
 obtain ⟨v2, h3, h4⟩ := hr
 have h3' : bidi_runs_1_byte_k1_l28 (rnd (fun (u : (List Int)) (x : Int × Int) => bidi_directions_r170 ⟨l.toArray⟩ dir u x.1 x.2)) (sbytes ⟨l.toArray⟩) 0 (v, none) = some (.inr (v2, none)) := h3
 refine ⟨v2, ?_, h4⟩
 unfold bidi_directions bidi_runs_byte_k1 bidi_runs_1_byte_k1
 rw [sz, if_pos ⟨by omega, by omega, by omega⟩, Int.toNat_natCast, h1', some_bind, some_bind, h3']
 rfl
theorem levels_loop (l : List UInt8) (dir : Int) (hd : dir = 0 ∨ dir = 1) (hl : l.length ≤ 1000000) (y : List Int) (hy : y.length = l.length) : ∀ (n i : Nat) (v : List Int), l.length - i = n → i ≤ l.length → v.length = l.length → (∀ j (h : j < v.length), i ≤ j → v[j] = 0 ∨ v[j] = 1) →
  ∃ v', bidi_Levels_l66 ⟨l.toArray⟩ dir y v (i : Int) = some v' ∧ v'.length = l.length := by
 intro n
 induction n with
 | zero =>
  intro i v hn hi hv hb
  rw [bidi_Levels_l66, if_neg (by omega)]
  exact ⟨v, rfl, hv⟩
 | succ n ih =>
  intro i v hn hi hv hb
  have hlt : i < v.length := by omega
  have hi' := hb i hlt (Nat.le_refl _)
  have e0 : v.getD i 0 = v[i] := by simp [List.getD_eq_getElem?_getD, hlt]
  have b1 : (0 : Int) ≤ (i : Int) ∧ (i : Int) < (y.length : Int) := ⟨by omega, by omega⟩
  have b2 : (0 : Int) ≤ dir ∧ dir < 2 := by omega
  have b3 : (0 : Int) ≤ v[i] ∧ v[i] < 2 := by omega
  have b4 : (0 : Int) ≤ (i : Int) ∧ (i : Int) < (l.length : Int) := ⟨by omega, by omega⟩
  have next : ∀ x, ∃ v', bidi_Levels_l66 ⟨l.toArray⟩ dir y (List.set v i x) ((i + 1 : Nat) : Int) = some v' ∧ v'.length = l.length := fun x =>
   ih (i + 1) _ (by omega) (by omega) (by rw [List.length_set]; exact hv) fun j h hj => by
    rw [List.getElem_set, if_neg (by omega)]
    exact hb j (by rw [List.length_set] at h; exact h) (by omega)
  rw [bidi_Levels_l66, if_pos b1.2, w64_id (n := (i : Int) + 1) (by omega) (by omega), add1]
  simp only [if_pos b1, if_pos b2, e0, if_pos b3, sz, if_pos b4, class_eq, some_bind, Int.toNat_natCast]
  by_cases hx : v[i] = 1
  ·rw [if_pos hx]
   by_cases hc : cl (bt ⟨l.toArray⟩ (i : Int)) = 3
   ·rw [decide_eq_true hc, some_bind, if_pos rfl, some_bind, List.set_set]
    exact next _
   ·rw [decide_eq_false hc, some_bind, if_neg (by decide), some_bind]
    exact next _
  ·rw [if_neg hx, some_bind, if_neg (by decide), some_bind]
   exact next _
theorem levels_mk (l : List UInt8) (ho : okS l = true) (dir : Int) (hd : dir = 0 ∨ dir = 1) (hl : l.length ≤ 1000000) : ∃ v, bidi_Levels ⟨l.toArray⟩ dir = some (v, 0) ∧ v.length = l.length := by
 obtain ⟨y, h1, h2⟩ := dirs_mk l dir hd hl
 obtain ⟨v, h3, h4⟩ := levels_loop l dir hd hl y h2.1 _ 0 y rfl (Nat.zero_le _) h2.1 (fun j h _ => h2.2 _ (List.getElem_mem h))
 have h3' : bidi_Levels_l66 ⟨l.toArray⟩ dir y y 0 = some v := h3
 refine ⟨v, ?_, h4⟩
 unfold bidi_Levels bidi_isLine
 rw [valid_mk, ho, h1]
 rcases hd with rfl | rfl
 ·simp only [some_bind, if_true, Bool.not_true, Bool.false_eq_true, if_false, h3']
 ·simp only [some_bind, if_true, Bool.not_true, Bool.false_eq_true, if_false, h3', show ¬ (1 : Int) = 0 by decide, decide_true]
def iota (n : Nat) : List Int := (List.range n).map fun i : Nat => (i : Int)
theorem iota_len (n : Nat) : (iota n).length = n := by simp [iota]
theorem iota_mem {n : Nat} {x : Int} (h : x ∈ iota n) : 0 ≤ x ∧ x < (n : Int) := by
 simp only [iota, List.mem_map, List.mem_range] at h
 obtain ⟨i, hi, rfl⟩ := h
 omega
theorem order_loop (l : List UInt8) (hl : l.length ≤ 1000000) : ∀ (n i : Nat) (v : List Int), l.length - i = n → i ≤ l.length → v.length = l.length → (∀ j (h : j < v.length), j < i → v[j] = (j : Int)) → bidi_Order_l61 ⟨l.toArray⟩ v (i : Int) = some (iota l.length) := by
 intro n
 induction n with
 | zero =>
  intro i v hn hi hv hb
  rw [bidi_Order_l61, sz, List.length_replicate, Int.toNat_natCast, if_neg (by omega)]
  congr 1
  refine List.ext_getElem (by rw [hv, iota_len]) fun j h1 h2 => ?_
  rw [hb j h1 (by omega)]
  simp [iota]
 | succ n ih =>
  intro i v hn hi hv hb
  rw [bidi_Order_l61, sz, List.length_replicate, Int.toNat_natCast, if_pos (by omega), if_pos ⟨by omega, by omega⟩, w64_id (n := (i : Int) + 1) (by omega) (by omega), add1, Int.toNat_natCast]
  refine ih (i + 1) _ (by omega) (by omega) (by rw [List.length_set]; exact hv) fun j h hj => ?_
  rw [List.getElem_set]
  split
  ·omega
  ·exact hb j (by rw [List.length_set] at h; exact h) (by omega)
theorem rev_loop (a : List Int) (ha : a.length ≤ 1000000) : ∀ (n i j : Nat) (v : List Int), j - i = n → i ≤ a.length → j ≤ a.length → v.length = a.length → ∃ v', slices_Reverse_int_k1_l34 a v (i : Int) ((j : Int) - 1) = some v' ∧ v'.Perm v := by
 intro n
 induction n using Nat.strongRecOn with
 | _ n ih =>
  intro i j v hn hi hj hv
  rw [slices_Reverse_int_k1_l34]
  by_cases h : (i : Int) < (j : Int) - 1
  ·have b1 : (0 : Int) ≤ (i : Int) ∧ (i : Int) < (a.length : Int) := ⟨by omega, by omega⟩
   have b2 : (0 : Int) ≤ (j : Int) - 1 ∧ (j : Int) - 1 < (a.length : Int) := ⟨by omega, by omega⟩
   have e1 : Int.toNat ((j : Int) - 1) = j - 1 := by omega
   have hi' : i < v.length := by omega
   have hj' : j - 1 < v.length := by omega
   have e2 : v.getD i (0 : Int) = v[i] := by simp [List.getD_eq_getElem?_getD, hi']
   have e3 : v.getD (j - 1) (0 : Int) = v[j - 1] := by simp [List.getD_eq_getElem?_getD, hj']
   have e4 : w64 ((j : Int) - 1 - 1) = ((j - 1 : Nat) : Int) - 1 := by rw [w64_id (by omega) (by omega)]; omega
   have e5 : w64 ((i : Int) + 1) = ((i + 1 : Nat) : Int) := by rw [w64_id (by omega) (by omega)]; omega
   rw [if_pos h]
   simp only [if_pos b1, if_pos b2, e1, Int.toNat_natCast, e2, e3, e4, e5]
   obtain ⟨v', h1, h2⟩ := ih _ (by omega) (i + 1) (j - 1) ((v.set i v[j - 1]).set (j - 1) v[i]) rfl (by omega) (by omega) (by simp [hv])
   exact ⟨v', h1, h2.trans (List.set_set_perm hi' hj')⟩
  ·rw [if_neg h]; exact ⟨v, rfl, List.Perm.refl _⟩
theorem rev_mk (a : List Int) (ha : a.length ≤ 1000000) : ∃ v, slices_Reverse_int_k1 a = some v ∧ v.Perm a := by
 obtain ⟨v, h1, h2⟩ := rev_loop a ha _ 0 a.length a rfl (Nat.zero_le _) (Nat.le_refl _) rfl
 have h1' : slices_Reverse_int_k1_l34 a a 0 ((a.length : Int) - 1) = some v := h1
 refine ⟨v, ?_, h2⟩
 unfold slices_Reverse_int_k1
 rw [w64_id (n := (a.length : Int) - 1) (by omega) (by omega), h1']; rfl
theorem turn_round (n : Nat) (a : List Int) (hn : n ≤ 1000000) (ha : a.length = n) : Keeps (fun v : List Int => v.Perm (iota n)) n (fun (u : List Int) (x : Int × Int) => bidi_turn_k3_r153 a u x.1 x.2) := by
 intro v i k hv hik hk
 have hvl : v.length = n := by rw [hv.length_eq, iota_len]
 have b : (0 : Int) ≤ (i : Int) ∧ ((i : Int) : Int) ≤ (k : Int) ∧ (k : Int) ≤ (a.length : Int) := ⟨by omega, by omega, by omega⟩
 have hc : (cutl v (i : Int) (k : Int)).length = k - i := cutl_len v (by omega) (by omega)
 obtain ⟨w, hw, hp⟩ := rev_mk (cutl v (i : Int) (k : Int)) (by omega)
 simp only
 unfold bidi_turn_k3_r153
 rw [if_pos b, hw]
 refine ⟨_, rfl, List.Perm.trans ?_ hv⟩
 have e : v = List.take i v ++ (cutl v (i : Int) (k : Int) ++ List.drop k v) := by
  unfold cutl
  rw [Int.toNat_natCast, Int.toNat_natCast]
  conv => lhs; rw [← List.take_append_drop k v]
  rw [← List.append_assoc]
  congr 1
  conv => lhs; rw [← List.take_append_drop i (List.take k v)]
  rw [List.take_take, Nat.min_eq_left (by omega)]
 conv => rhs; rw [e]
 rw [Int.toNat_natCast, Int.toNat_natCast]
 exact List.Perm.append_left _ (List.Perm.append_right _ hp)
theorem turn_loop (n : Nat) (a lv ts : List Int) (hn : n ≤ 1000000) (ha : a.length = n) (hlv : lv.length = n) (hts : ts.length ≤ 1000000) : ∀ (m i : Nat) (v : List Int), ts.length - i = m → i ≤ ts.length → v.Perm (iota n) → ∃ v', bidi_turn_k3_l54 a lv ts v (i : Int) = some v' ∧ v'.Perm (iota n) := by
 intro m
 induction m with
 | zero =>
  intro i v hm hi hv
  rw [bidi_turn_k3_l54, if_neg (by omega)]
  exact ⟨v, rfl, hv⟩
 | succ m ih =>
  intro i v hm hi hv
  have hvl : v.length = n := by rw [hv.length_eq, iota_len]
  have hcl : slices_Clone_int_k1 v = some (v, v) := by
   unfold slices_Clone_int_k1
   simp
   try omega
  obtain ⟨v2, h3, h4⟩ := runs_int (fun v : List Int => v.Perm (iota n)) v lv (ts.getD (Int.toNat (i : Int)) (0 : Int)) (by omega) (fun x hx => by have := iota_mem (hv.mem_iff.1 hx); omega) _ (by rw [hvl]; exact turn_round n a hn ha) _ 0 v rfl hv
  have h3' : bidi_runs_1_int_k1_l38 (rnd (fun (u : (List Int)) (x : Int × Int) => bidi_turn_k3_r153 a u x.1 x.2)) v lv (ts.getD (Int.toNat (i : Int)) (0 : Int)) 0 (v, none) = some (.inr (v2, none)) := h3
  rw [bidi_turn_k3_l54, if_pos (by omega), if_pos ⟨by omega, by omega⟩, hcl, some_bind, w64_id (n := (i : Int) + 1) (by omega) (by omega), add1]
  unfold bidi_runs_int_k2 bidi_runs_1_int_k1
  simp only [some_bind, h3']
  exact ih (i + 1) v2 (by omega) (by omega) h4
theorem vis_loop (l : List UInt8) (y : List Int) (hl : y.length ≤ 1000000) (hy : ∀ x ∈ y, 0 ≤ x ∧ x < (l.length : Int)) : ∀ (n i : Nat) (v : List Int), y.length - i = n → i ≤ y.length → v.length = y.length → (∀ j (h : j < v.length) (h' : j < y.length), j < i → v[j] = bt ⟨l.toArray⟩ y[j]) →
  bidi_Visual_l51 ⟨l.toArray⟩ y v (i : Int) = some (y.map fun x => bt ⟨l.toArray⟩ x) := by
 intro n
 induction n with
 | zero =>
  intro i v hn hi hv hb
  rw [bidi_Visual_l51, if_neg (by omega)]
  congr 1
  refine List.ext_getElem (by simp [hv]) fun j h1 h2 => ?_
  rw [hb j h1 (by omega) (by omega)]
  simp
 | succ n ih =>
  intro i v hn hi hv hb
  have hlt : i < y.length := by omega
  have e0 : y.getD (Int.toNat (i : Int)) 0 = y[i] := by simp [List.getD_eq_getElem?_getD, hlt]
  have b := hy _ (List.getElem_mem hlt)
  rw [bidi_Visual_l51, if_pos (by omega), if_pos ⟨by omega, by omega⟩, e0, sz, if_pos b, List.length_replicate, Int.toNat_natCast, if_pos ⟨by omega, by omega⟩, w64_id (n := (i : Int) + 1) (by omega) (by omega), add1, Int.toNat_natCast]
  refine ih (i + 1) _ (by omega) (by omega) (by rw [List.length_set]; exact hv) fun j h h' hj => ?_
  rw [List.getElem_set]
  split
  ·rename_i e; subst e; rfl
  ·exact hb j (by rw [List.length_set] at h; exact h) h' (by omega)
theorem visual_mk (l : List UInt8) (ho : okS l = true) (dir : Int) (hd : dir = 0 ∨ dir = 1) : ∃ p : List UInt8, bidi_Visual ⟨l.toArray⟩ dir = some (⟨p.toArray⟩, 0) ∧ p.Perm l := by
 have hl : l.length ≤ 1000000 := by have := (okS_all ho).2; omega
 obtain ⟨lv, h1, h2⟩ := levels_mk l ho dir hd hl
 have h3 := order_loop l hl _ 0 (List.replicate l.length (0 : Int)) rfl (Nat.zero_le _) (List.length_replicate ..) (fun j _ h => by omega)
 have h3' : bidi_Order_l61 ⟨l.toArray⟩ (List.replicate l.length (0 : Int)) 0 = some (iota l.length) := h3
 obtain ⟨y, h4, h5⟩ := turn_loop l.length (iota l.length) lv [2, 1] hl (iota_len _) h2 (by decide) _ 0 (iota l.length) rfl (Nat.zero_le _) (List.Perm.refl _)
 have h4' : bidi_turn_k3_l54 (iota l.length) lv [2, 1] (iota l.length) 0 = some y := h4
 have hO : bidi_Order ⟨l.toArray⟩ dir = some (y, 0) := by
  unfold bidi_Order bidi_turn_k3
  rw [h1, some_bind]
  simp only [not_true_eq_false, if_false, sz, Int.toNat_natCast]
  rw [if_pos ⟨by omega, by omega, by omega⟩, h3', some_bind, h4']
  rfl
 have hyl : y.length = l.length := by rw [h5.length_eq, iota_len]
 have hyr : ∀ x ∈ y, 0 ≤ x ∧ x < (l.length : Int) := fun x hx => iota_mem (h5.mem_iff.1 hx)
 have hV := vis_loop l y (by omega) hyr _ 0 (List.replicate y.length (0 : Int)) rfl (Nat.zero_le _) (List.length_replicate ..) (fun j _ _ h => by omega)
 have hV' : bidi_Visual_l51 ⟨l.toArray⟩ y (List.replicate y.length (0 : Int)) 0 = some (y.map fun x => bt ⟨l.toArray⟩ x) := hV
 have e : (y.map fun x => bt ⟨l.toArray⟩ x) = (y.map fun x => l.getD x.toNat 0).map fun b => (b.toNat : Int) := by
  rw [List.map_map]
  refine List.map_congr_left fun x hx => ?_
  have := hyr x hx
  have hx' : x = ((x.toNat : Nat) : Int) := by omega
  conv => lhs; rw [hx']
  exact bt_getD l (by omega)
 refine ⟨y.map fun x => l.getD x.toNat 0, ?_, ?_⟩
 ·unfold bidi_Visual
  rw [hO, some_bind]
  simp only [Int.toNat_natCast]
  rw [if_pos ⟨by omega, by omega, by omega⟩, hV', some_bind, e, bstr_map]
 ·have hp := h5.map fun x => l.getD x.toNat 0
  refine hp.trans (List.Perm.of_eq ?_)
  refine List.ext_getElem (by simp [iota]) fun j a1 a2 => ?_
  simp [iota, List.getD_eq_getElem?_getD, a2]
end Go.Proofs.YtaemgcpcfnbmdaaGreatDoor.LG
namespace Go.Proofs.YtaemgcpcfnbmdaaGreatDoor.LG
open Go Go.LG Go.Lib

def atI (room w al dir : Int) : Int := if al = dir then 0 else if al = 2 then (room - w) / 2 else room - w
theorem place_mk (f : api_Font) (hf : Sm f) (F : Fok f) (hfv : font_Valid f = some true) (b : api_Breaks) (l : List UInt8) (hl : l.length ≤ 100) (ho : okS l = true) {sc : Int} (hsc : 50 ≤ sc ∧ sc ≤ 300) (hp : okP f b l = true) {room : Int} (hr : 0 ≤ room ∧ room ≤ 1000000000)
  {a : Nat} {p : Nat × Bool} (hm : p ∈ ends b l) (hap : a < p.1) (hpl : p.1 ≤ l.length) {al dir : Int} (ha : 0 ≤ al ∧ al ≤ 2) (hd : 0 ≤ dir ∧ dir ≤ 1) :
  ∃ t : List UInt8, inline_Place f ⟨l.toArray⟩ (ln f l sc a p) sc room al dir = some (⟨t.toArray⟩, atI room (W f l sc a p) al dir, 0) ∧ t.Perm (part l a p.1 p.2) := by
 have hP := part_okS ho (show l.length ≤ 1000 by omega) a p.1 p.2
 obtain ⟨t, ht, hperm⟩ := visual_mk (part l a p.1 p.2) hP dir (by omega)
 obtain ⟨h1, h2⟩ := ends_hyph hp
 have hg := part_hasG h1 a p.1 p.2 (h2 p hm)
 have hw := W_mk f hf F hfv b l (by omega) ho hsc hp a hm
 have hwd : 0 ≤ W f l sc a p ∧ W f l sc a p ≤ 6000001 := by
  have e : W f l sc a p = Wd f (part l a p.1 p.2) sc := rfl
  rw [e]
  refine wd_ok f hf F hfv hP ?_ hsc hg
  rw [part_hy, List.length_append]
  have h3 : (part l a p.1 false).length ≤ l.length := by
   unfold part
   rw [if_neg (by decide), List.append_nil]
   exact Nat.le_trans (trim_len _) (Nat.le_trans (shown_len _) (piece_len l a p.1))
  cases p.2 <;> simp <;> omega
 have f1 : (ln f l sc a p).From = (a : Int) := rfl
 have f2 : (ln f l sc a p).Until = (p.1 : Int) := rfl
 have f3 : (ln f l sc a p).Hyphen = p.2 := rfl
 have f4 : (ln f l sc a p).Width = W f l sc a p := rfl
 have g0 : ¬ (a : Int) < 0 := by omega
 have g1 : ¬ (p.1 : Int) ≤ (a : Int) := by omega
 have g2 : ¬ (l.length : Int) < (p.1 : Int) := by omega
 have e1 : w64 (room - W f l sc a p) = room - W f l sc a p := w64_id (by omega) (by omega)
 have e2 : Int.fdiv (room - W f l sc a p) (2 ^ 1) = (room - W f l sc a p) / 2 := by rw [Int.fdiv_eq_ediv_of_nonneg _ (by decide)]; rfl
 refine ⟨t, ?_, hperm⟩
 unfold inline_Place atI
 simp only [within_mk, hsc, hr, ha, hd, and_self, decide_true, if_true, some_bind, Bool.not_true, Bool.false_eq_true, if_false, hfv, valid_mk, ho, f1, f2, f3, f4, g0, g1, g2, decide_false, sz, seen_mk l (show l.length ≤ 1000000 by omega) (show a ≤ p.1 by omega) hpl, hw, not_true_eq_false, ht, e1, e2]
 by_cases c1 : al = dir
 ·simp [c1]
 ·by_cases c2 : al = 2
  ·rw [if_neg c1, if_pos c2, if_neg c1, if_pos c2]
  ·simp [c1, c2]
end Go.Proofs.YtaemgcpcfnbmdaaGreatDoor.LG
namespace Go.Proofs.YtaemgcpcfnbmdaaGreatDoor.LG
open Go Go.LG Go.Lib

end Go.Proofs.YtaemgcpcfnbmdaaGreatDoor.LG
namespace Go.Proofs.YtaemgcpcfnbmdaaGreatDoor.LG
open Go Go.LG Go.Lib

def Hi (lv : List Int) (t : Int) (a : List Int) (j : Nat) : Bool := decide (t ≤ lv.getD (Int.toNat (a.getD j 0)) 0)
end Go.Proofs.YtaemgcpcfnbmdaaGreatDoor.LG
namespace Go.Proofs.YtaemgcpcfnbmdaaGreatDoor.LG
open Go Go.LG Go.Lib

end Go.Proofs.YtaemgcpcfnbmdaaGreatDoor.LG
namespace Go.Proofs.YtaemgcpcfnbmdaaGreatDoor.LG
open Go Go.LG Go.Lib

theorem prepare_all (f : api_Font) (hf : Sm f) (b : api_Breaks) (l : List UInt8) (hk : b.Keep.length ≤ 100000000000000) (sc : Int) {v : Bool} (h1 : font_Valid f = some v) (hF : v = true → Fok f) :
  inline_prepare f b ⟨l.toArray⟩ sc = some (if (v && (vb b && okS l) && decide (50 ≤ sc ∧ sc ≤ 300)) = true then (if okP f b l = true then .inr (.inr (⟨l.toArray⟩, (ends b l).map brk, f, sc)) else .inr (.inl (⟨#[]⟩, []))) else .inl (⟨#[]⟩, [])) := by
 cases hvo : (vb b && okS l)
 ·unfold inline_prepare
  rw [list_mk b l hk, hvo]
  simp only [Bool.false_eq_true, if_false, some_bind, show ¬ (1 : Int) = 0 by decide, not_false_eq_true, if_true, Bool.and_false, Bool.false_and]
 ·cases v
  ·unfold inline_prepare
   rw [list_mk b l hk, hvo]
   simp only [if_true, some_bind, not_true_eq_false, if_false, h1, Bool.not_false, Bool.false_and, Bool.false_eq_true]
  ·by_cases hsc : 50 ≤ sc ∧ sc ≤ 300
   ·have hb := hvo
    rw [Bool.and_eq_true] at hb
    have hlen := (okS_all hb.2).2
    rw [prepare_v f hf (hF rfl) h1 b l hk (by omega) hb.1 hb.2 sc hsc]
    simp [hsc]
   ·unfold inline_prepare
    rw [list_mk b l hk, hvo]
    simp only [if_true, some_bind, not_true_eq_false, if_false, h1, Bool.not_true, Bool.false_eq_true, within_mk, hsc, decide_false, Bool.not_false, Bool.and_false]
end Go.Proofs.YtaemgcpcfnbmdaaGreatDoor.LG
namespace Go.Proofs.YtaemgcpcfnbmdaaGreatDoor.LG
open Go Go.LG Go.Lib

end Go.Proofs.YtaemgcpcfnbmdaaGreatDoor.LG
namespace Go.Proofs.YtaemgcpcfnbmdaaGreatDoor.LG
open Go Go.LG Go.Lib

def fwf (z : api_Float) : Bool := decide (1 ≤ z.Side ∧ z.Side ≤ 2 ∧ (0 ≤ z.X ∧ z.X ≤ 1000000) ∧ (0 ≤ z.W ∧ z.W ≤ 1000000) ∧ (0 ≤ z.H ∧ z.H ≤ 1000000) ∧ (0 ≤ z.Y ∧ z.Y ≤ 1000000000))
theorem fwf_open {z : api_Float} (h : fwf z = true) : 1 ≤ z.Side ∧ z.Side ≤ 2 ∧ (0 ≤ z.X ∧ z.X ≤ 1000000) ∧ (0 ≤ z.W ∧ z.W ≤ 1000000) ∧ (0 ≤ z.H ∧ z.H ≤ 1000000) ∧ (0 ≤ z.Y ∧ z.Y ≤ 1000000000) := of_decide_eq_true h
theorem fwithin_mk (n m : Int) : floats_within n m = some (decide (0 ≤ n ∧ n ≤ m)) := by
 unfold floats_within
 by_cases h : 0 ≤ n
 ·simp [h]
 ·simp [h]
theorem fwrong_mk (z : api_Float) : floats_wrong z = some (!fwf z) := by
 unfold floats_wrong fwf
 simp only [fwithin_mk]
 by_cases h1 : z.Side = 1
 ·by_cases c1 : 0 ≤ z.X ∧ z.X ≤ 1000000 <;> by_cases c2 : 0 ≤ z.W ∧ z.W ≤ 1000000 <;> by_cases c3 : 0 ≤ z.H ∧ z.H ≤ 1000000 <;> by_cases c4 : 0 ≤ z.Y ∧ z.Y ≤ 1000000000 <;> simp [h1, c1, c2, c3, c4]
 ·by_cases h2 : z.Side = 2
  ·by_cases c1 : 0 ≤ z.X ∧ z.X ≤ 1000000 <;> by_cases c2 : 0 ≤ z.W ∧ z.W ≤ 1000000 <;> by_cases c3 : 0 ≤ z.H ∧ z.H ≤ 1000000 <;> by_cases c4 : 0 ≤ z.Y ∧ z.Y ≤ 1000000000 <;> simp [h1, h2, c1, c2, c3, c4]
  ·have : ¬ (1 ≤ z.Side ∧ z.Side ≤ 2) := by omega
   have e : ¬ (1 ≤ z.Side ∧ z.Side ≤ 2 ∧ (0 ≤ z.X ∧ z.X ≤ 1000000) ∧ (0 ≤ z.W ∧ z.W ≤ 1000000) ∧ (0 ≤ z.H ∧ z.H ≤ 1000000) ∧ (0 ≤ z.Y ∧ z.Y ≤ 1000000000)) := fun h => this ⟨h.1, h.2.1⟩
   rw [decide_eq_false e]
   simp [h1, h2]
theorem getD_at2 {α : Type} (l : List α) (d : α) {i : Nat} (h : i < l.length) : l.getD (Int.toNat (i : Int)) d = l[i] := by simp [List.getD_eq_getElem?_getD, h]
theorem fwrong_loop (fl : List api_Float) (hl : fl.length ≤ 1000000) : ∀ (n i : Nat), fl.length - i = n → i ≤ fl.length →
  ∃ o, slices_IndexFunc_api_Float_k1_l22 fl (i : Int) = some o ∧ ((fl.drop i).all fwf = true → o = .inr ()) ∧ ((fl.drop i).all fwf = false → ∃ k : Nat, o = .inl (k : Int)) := by
 intro n
 induction n with
 | zero =>
  intro i hn hi
  rw [slices_IndexFunc_api_Float_k1_l22, if_neg (by omega), List.drop_eq_nil_of_le (by omega)]
  exact ⟨_, rfl, fun _ => rfl, fun h => by cases h⟩
 | succ n ih =>
  intro i hn hi
  have hlt : i < fl.length := by omega
  obtain ⟨o, h1, h2, h3⟩ := ih (i + 1) (by omega) (by omega)
  rw [slices_IndexFunc_api_Float_k1_l22, if_pos (by omega), if_pos ⟨by omega, by omega⟩, getD_at2 _ _ hlt, fwrong_mk, some_bind, w64_id (n := (i : Int) + 1) (by omega) (by omega), add1, List.drop_eq_getElem_cons hlt, List.all_cons]
  cases fwf fl[i]
  ·exact ⟨_, rfl, fun h => (by cases h), fun _ => ⟨i, rfl⟩⟩
  ·simp only [Bool.not_true, Bool.false_eq_true, if_false, Bool.true_and]
   exact ⟨o, h1, h2, h3⟩
def vfl (fl : List api_Float) (width : Int) : Bool := decide (0 ≤ width ∧ width ≤ 1000000) && decide (fl.length ≤ 200) && fl.all fwf
theorem fvalid20 (fl : List api_Float) (width : Int) (hl : fl.length ≤ 1000000) : floats_Valid fl width = some (vfl fl width) := by
 obtain ⟨o, h1, h2, h3⟩ := fwrong_loop fl hl _ 0 rfl (Nat.zero_le _)
 have h1' : slices_IndexFunc_api_Float_k1_l22 fl 0 = some o := h1
 rw [List.drop_zero] at h2 h3
 unfold floats_Valid vfl slices_ContainsFunc_api_Float_k1 slices_IndexFunc_api_Float_k1
 rw [fwithin_mk, some_bind, h1']
 by_cases c1 : 0 ≤ width ∧ width ≤ 1000000
 ·by_cases c2 : fl.length ≤ 200
  ·have c2' : (fl.length : Int) ≤ 200 := by omega
   cases ha : fl.all fwf
   ·obtain ⟨k, rfl⟩ := h3 ha
    have : (0 : Int) ≤ (k : Int) := by omega
    simp [c1, c2, c2', this]
   ·rw [h2 ha]
    simp [c1, c2, c2']
  ·have c2' : ¬ (fl.length : Int) ≤ 200 := by omega
   simp [c1, c2, c2']
 ·simp [c1]
theorem rsize_mk (n : Int) : formeref20_size n = some (decide (0 ≤ n ∧ n ≤ 1000000)) := by
 unfold formeref20_size
 by_cases h : 0 ≤ n
 ·simp [h]
 ·simp [h]
theorem rhigh_mk (n : Int) : formeref20_high n = some (decide (0 ≤ n ∧ n ≤ 1000000000)) := by
 unfold formeref20_high
 by_cases h : 0 ≤ n
 ·simp [h]
 ·simp [h]
theorem rwf_loop (fl : List api_Float) (hl : fl.length ≤ 1000000) : ∀ (n i : Nat), fl.length - i = n → i ≤ fl.length →
  formeref20_Valid_l45 fl (i : Int) = some (if (fl.drop i).all fwf = true then .inr () else .inl ()) := by
 intro n
 induction n with
 | zero =>
  intro i hn hi
  rw [formeref20_Valid_l45, if_neg (by omega), List.drop_eq_nil_of_le (by omega)]
  rfl
 | succ n ih =>
  intro i hn hi
  have hlt : i < fl.length := by omega
  have b : (0 : Int) ≤ (i : Int) ∧ (i : Int) < (fl.length : Int) := ⟨by omega, by omega⟩
  rw [formeref20_Valid_l45, if_pos b.2, w64_id (n := (i : Int) + 1) (by omega) (by omega), add1, ih (i + 1) (by omega) (by omega), List.drop_eq_getElem_cons hlt, List.all_cons]
  simp only [if_pos b, getD_at2 _ _ hlt, rsize_mk, rhigh_mk, some_bind]
  have e : fwf fl[i] = decide (1 ≤ fl[i].Side ∧ fl[i].Side ≤ 2 ∧ (0 ≤ fl[i].X ∧ fl[i].X ≤ 1000000) ∧ (0 ≤ fl[i].W ∧ fl[i].W ≤ 1000000) ∧ (0 ≤ fl[i].H ∧ fl[i].H ≤ 1000000) ∧ (0 ≤ fl[i].Y ∧ fl[i].Y ≤ 1000000000)) := rfl
  generalize fl[i] = z at *
  by_cases c1 : 0 ≤ z.X ∧ z.X ≤ 1000000
  ·by_cases c4 : 0 ≤ z.Y ∧ z.Y ≤ 1000000000
   ·by_cases c2 : 0 ≤ z.W ∧ z.W ≤ 1000000
    ·by_cases c3 : 0 ≤ z.H ∧ z.H ≤ 1000000
     ·by_cases c5 : z.Side < 1
      ·have e' : fwf z = false := by rw [e]; exact decide_eq_false fun h => by omega
       simp [c1, c2, c3, c4, c5, e']
      ·by_cases c6 : 2 < z.Side
       ·have e' : fwf z = false := by rw [e]; exact decide_eq_false fun h => by omega
        simp [c1, c2, c3, c4, c5, c6, e']
       ·have e' : fwf z = true := by rw [e]; exact decide_eq_true ⟨by omega, by omega, c1, c2, c3, c4⟩
        simp [c1, c2, c3, c4, c5, c6, e']
     ·have e' : fwf z = false := by rw [e]; exact decide_eq_false fun h => c3 h.2.2.2.2.1
      simp [c1, c2, c3, c4, e']
    ·have e' : fwf z = false := by rw [e]; exact decide_eq_false fun h => c2 h.2.2.2.1
     simp [c1, c2, c4, e']
   ·have e' : fwf z = false := by rw [e]; exact decide_eq_false fun h => c4 h.2.2.2.2.2
    simp [c1, c4, e']
  ·have e' : fwf z = false := by rw [e]; exact decide_eq_false fun h => c1 h.2.2.1
   simp [c1, e']
theorem rvalid20 (fl : List api_Float) (width : Int) (hl : fl.length ≤ 1000000) : formeref20_Valid fl width = some (vfl fl width) := by
 have h1 : formeref20_Valid_l45 fl 0 = some (if fl.all fwf = true then .inr () else .inl ()) := rwf_loop fl hl _ 0 rfl (Nat.zero_le _)
 unfold formeref20_Valid vfl
 rw [rsize_mk, some_bind, h1]
 by_cases c1 : 0 ≤ width ∧ width ≤ 1000000
 ·by_cases c2 : fl.length ≤ 200
  ·have c2' : ¬ (200 : Int) < (fl.length : Int) := by omega
   cases fl.all fwf <;> simp [c1, c2, c2']
  ·have c2' : (200 : Int) < (fl.length : Int) := by omega
   simp [c1, c2, c2']
 ·simp [c1]
def bes (z : api_Float) (y h : Int) : Bool := decide (0 < z.H ∧ z.Y < y + max h 1 ∧ y < z.Y + z.H)
theorem besA {z : api_Float} (hz : fwf z = true) {y h : Int} (hy : 0 ≤ y ∧ y ≤ 2000000000) (hh : 0 ≤ h ∧ h ≤ 1000000) :
  ((if 0 < z.H then some (decide (z.Y < (w64 (y + (max h 1))))) else some false) >>= fun v12 => ((if v12 = true then some (decide (y < (w64 (z.Y + z.H)))) else some false) >>= fun v19 => some v19)) = some (bes z y h) := by
 have := fwf_open hz
 rw [w64_id (n := y + max h 1) (by omega) (by omega), w64_id (n := z.Y + z.H) (by omega) (by omega)]
 unfold bes
 by_cases c1 : 0 < z.H
 ·by_cases c2 : z.Y < y + max h 1
  ·by_cases c3 : y < z.Y + z.H <;> simp [c1, c2, c3]
  ·simp [c1, c2]
 ·simp [c1]
theorem bes2 {z : api_Float} (hz : fwf z = true) {y h : Int} (hy : 0 ≤ y ∧ y ≤ 2000000000) (hh : 0 ≤ h ∧ h ≤ 1000000) : floats_placed_beside ⟨z⟩ y h = some (bes z y h) := by
 unfold floats_placed_beside floats_placed_bottom
 exact besA hz hy hh
theorem bes3 {z : api_Float} (hz : fwf z = true) {y : Int} (hy : 0 ≤ y ∧ y ≤ 2000000000) (x : wrap_setter) (hh : 0 ≤ x.line ∧ x.line ≤ 1000000) : wrap_setter_beside_1_k1 z y x = some (bes z y x.line) := besA hz hy hh
def rmL (y h : Int) : List api_Float → Int × Int → Int × Int
 | [], r => r
 | z :: fl, r => rmL y h fl (if bes z y h = true then (if z.Side = 1 then (max r.1 (z.X + z.W), r.2) else (r.1, min r.2 z.X)) else r)
def rm (fl : List api_Float) (width y h : Int) : api_Range := ⟨(rmL y h fl (0, width)).1, max (rmL y h fl (0, width)).1 (rmL y h fl (0, width)).2⟩
theorem rmL_ok (y h : Int) : ∀ (fl : List api_Float) (r : Int × Int), fl.all fwf = true → 0 ≤ r.1 ∧ r.1 ≤ 2000000 ∧ 0 ≤ r.2 ∧ r.2 ≤ 1000000 → 0 ≤ (rmL y h fl r).1 ∧ (rmL y h fl r).1 ≤ 2000000 ∧ 0 ≤ (rmL y h fl r).2 ∧ (rmL y h fl r).2 ≤ 1000000
 | [], r, _, hr => hr
 | z :: fl, r, hz, hr => by
  rw [List.all_cons, Bool.and_eq_true] at hz
  have := fwf_open hz.1
  unfold rmL
  refine rmL_ok y h fl _ hz.2 ?_
  split
  ·split
   ·simp only; omega
   ·simp only; omega
  ·exact hr
theorem rm_ok {fl : List api_Float} {width : Int} (hv : vfl fl width = true) (y h : Int) : 0 ≤ (rm fl width y h).Lo ∧ (rm fl width y h).Lo ≤ (rm fl width y h).Hi ∧ (rm fl width y h).Hi ≤ 2000000 := by
 unfold vfl at hv
 rw [Bool.and_eq_true, Bool.and_eq_true] at hv
 have hw := of_decide_eq_true hv.1.1
 have := rmL_ok y h fl (0, width) hv.2 ⟨Int.le_refl _, (by show (0 : Int) ≤ 2000000; decide), hw.1, hw.2⟩
 unfold rm
 simp only
 omega
theorem room_loop (fl : List api_Float) (hl : fl.length ≤ 1000000) (hz : fl.all fwf = true) {y h : Int} (hy : 0 ≤ y ∧ y ≤ 2000000000) (hh : 0 ≤ h ∧ h ≤ 1000000) : ∀ (n i : Nat) (v : Bool) (lo hi : Int), fl.length - i = n → i ≤ fl.length →
  ∃ v', floats_room_l43 fl y h v (i : Int) lo hi = some (v', (rmL y h (fl.drop i) (lo, hi)).1, (rmL y h (fl.drop i) (lo, hi)).2) := by
 intro n
 induction n with
 | zero =>
  intro i v lo hi hn hi'
  rw [floats_room_l43, if_neg (by omega), List.drop_eq_nil_of_le (by omega)]
  exact ⟨v, rfl⟩
 | succ n ih =>
  intro i v lo hi hn hi'
  have hlt : i < fl.length := by omega
  have hzi := List.all_eq_true.1 hz _ (List.getElem_mem hlt)
  have b : (0 : Int) ≤ (i : Int) ∧ (i : Int) < (fl.length : Int) := ⟨by omega, by omega⟩
  have := fwf_open hzi
  rw [floats_room_l43, if_pos b.2, w64_id (n := (i : Int) + 1) (by omega) (by omega), add1, List.drop_eq_getElem_cons hlt]
  simp only [if_pos b, getD_at2 _ _ hlt, bes2 hzi hy hh, some_bind]
  unfold rmL
  cases bes fl[i] y h
  ·simp only [Bool.not_false, if_true, some_bind, Bool.false_eq_true, if_false]
   exact ih (i + 1) v lo hi (by omega) (by omega)
  ·simp only [Bool.not_true, if_true, some_bind, Bool.false_eq_true, if_false]
   by_cases hs : fl[i].Side = 1
   ·rw [if_pos hs, if_pos hs, some_bind, w64_id (n := fl[i].X + fl[i].W) (by omega) (by omega)]
    exact ih (i + 1) true _ _ (by omega) (by omega)
   ·rw [if_neg hs, if_neg hs, some_bind]
    exact ih (i + 1) true _ _ (by omega) (by omega)
theorem Room_mk (fl : List api_Float) (width : Int) (hv : vfl fl width = true) {y h : Int} (hy : 0 ≤ y ∧ y ≤ 2000000000) (hh : 0 ≤ h ∧ h ≤ 1000000) :
  floats_Room fl width y h = some (if y ≤ 1000000000 then (rm fl width y h, 0) else (⟨0, 0⟩, 1)) := by
 have hv' := hv
 unfold vfl at hv'
 rw [Bool.and_eq_true, Bool.and_eq_true] at hv'
 have hl := of_decide_eq_true hv'.1.2
 obtain ⟨v', h1⟩ := room_loop fl (by omega) hv'.2 hy hh _ 0 false 0 width rfl (Nat.zero_le _)
 have h1' : floats_room_l43 fl y h false 0 0 width = some (v', (rmL y h fl (0, width)).1, (rmL y h fl (0, width)).2) := h1
 unfold floats_Room floats_room
 rw [fvalid20 fl width (by omega), hv, fwithin_mk, fwithin_mk, h1']
 by_cases c : y ≤ 1000000000
 ·have c1 : 0 ≤ y ∧ y ≤ 1000000000 := ⟨hy.1, c⟩
  simp [c1, hh, c]
  rfl
 ·have c1 : ¬ (0 ≤ y ∧ y ≤ 1000000000) := fun h => c h.2
  simp [c1, c]
end Go.Proofs.YtaemgcpcfnbmdaaGreatDoor.LG
