/-
 What the functions of package breaks, and of its reference, compute: maps, rules, letters. Plain Lean; no program in sight.
-/
import Derived.Test.YtokeiiakkfdmgaaGreatDoorBl
set_option linter.unusedVariables false
set_option linter.unusedSimpArgs false
namespace Go.Proofs.YtokeiiakkfdmgaaGreatDoor.LG
open Go Go.LG Go.Lib

instance decMem (k : ByteArray) (l : List ByteArray) : Decidable (k ∈ l) := @List.instDecidableMemOfLawfulBEq ByteArray instBEqOfDecidableEq inferInstance k l
theorem mfind_shift {α β : Type} [DecidableEq α] : ∀ (l : List (α × β)) (a : α) (i : Nat), mfind l a i = (mfind l a 0).map fun p => (p.1 + i, p.2)
 | [], a, i => rfl
 | x :: l, a, i => by
  by_cases h : a = x.1
  ·simp [mfind, h]
  ·simp only [mfind, if_neg h]
   rw [mfind_shift l a (i + 1), mfind_shift l a (0 + 1), Option.map_map]
   congr 1
   funext p
   show (p.1 + (i + 1), p.2) = (p.1 + (0 + 1) + i, p.2)
   congr 1
   omega
theorem mget_cons {α β : Type} [DecidableEq α] (x : α × β) (l : List (α × β)) (a : α) : mget (x :: l) a = if a = x.1 then some x.2 else mget l a := by
 unfold mget
 by_cases h : a = x.1
 ·simp [mfind, h]
 ·simp only [mfind, if_neg h]
  rw [mfind_shift l a (0 + 1), Option.map_map]
  rfl
theorem mput_cons {α β : Type} [DecidableEq α] (x : α × β) (l : List (α × β)) (a : α) (b : β) : mput (x :: l) a b = if a = x.1 then (a, b) :: l else x :: mput l a b := by
 unfold mput
 by_cases h : a = x.1
 ·simp [mfind, h]
 ·simp only [mfind, if_neg h]
  rw [mfind_shift l a (0 + 1)]
  cases mfind l a 0 with
  | none => simp
  | some p => simp
theorem mget_mput {α β : Type} [DecidableEq α] : ∀ (l : List (α × β)) (a : α) (b : β) (k : α), mget (mput l a b) k = if k = a then some b else mget l k
 | [], a, b, k => by
  show mget [(a, b)] k = _
  rw [mget_cons]
 | x :: l, a, b, k => by
  rw [mput_cons]
  by_cases h : a = x.1
  ·rw [if_pos h, mget_cons, mget_cons]
   by_cases hk : k = a
   ·simp [hk]
   ·rw [if_neg hk, if_neg hk, if_neg (fun e => hk (e.trans h.symm))]
  ·rw [if_neg h, mget_cons, mget_cons, mget_mput l a b k]
   by_cases hk : k = a
   ·subst hk; simp [h]
   ·simp [hk]
theorem getD_pre {α : Type} (pre : List α) (k : α) (ks : List α) (d : α) : (pre ++ k :: ks).getD (Int.toNat (pre.length : Int)) d = k := by
 simp [List.getD_eq_getElem?_getD]

theorem small_eq (a : Int) : breaks_small a = some (decide (97 ≤ a ∧ a ≤ 122)) := by
 unfold breaks_small
 rw [and_some, some_bind]
theorem within_eq (a : Int) : breaks_within a = some (decide (1 ≤ a ∧ a ≤ 5)) := by
 unfold breaks_within
 rw [and_some, some_bind]
def kok (k : ByteArray) : Bool := decide ((k.size : Int) = 2) && decide (97 ≤ bt k 0 ∧ bt k 0 ≤ 122) && decide (97 ≤ bt k 1 ∧ bt k 1 ≤ 122)
def vfrom (pre : List ByteArray) : List ByteArray → Bool
 | [] => true
 | k :: ks => kok k && !decide (k ∈ pre) && vfrom (pre ++ [k]) ks
theorem cond8 (k : ByteArray) (c : Bool) (X Y : Option (Sum (List (ByteArray × Bool)) (List (ByteArray × Bool)))) :
  ((if ¬ (k.size : Int) = 2 then some true else (if (0 : Int) ≤ 0 ∧ 0 < (k.size : Int) then (breaks_small (bt k 0) >>= fun y117 => some (!y117)) else none)) >>= fun v104 => ((if v104 = true then some true else (if (0 : Int) ≤ 1 ∧ 1 < (k.size : Int) then (breaks_small (bt k 1) >>= fun y131 => some (!y131)) else none)) >>= fun v118 => ((if v118 = true then some true else some c) >>= fun v132 => (if v132 = true then X else Y)))) = if (kok k && !c) = true then Y else X := by
 unfold kok
 simp only [small_eq, some_bind]
 by_cases h2 : (k.size : Int) = 2
 ·by_cases h3 : 97 ≤ bt k 0 ∧ bt k 0 ≤ 122
  ·by_cases h4 : 97 ≤ bt k 1 ∧ bt k 1 ≤ 122
   ·cases c <;> simp [h2, h3, h4]
   ·cases c <;> simp [h2, h3, h4]
  ·cases c <;> simp [h2, h3]
 ·rw [if_pos h2]
  cases c <;> simp [h2]
theorem valid_loop8 (b : api_Breaks) (hs : b.Keep.length ≤ 1000000) : ∀ (rest pre : List ByteArray) (m : List (ByteArray × Bool)), b.Keep = pre ++ rest → (∀ k, (mget m k).getD false = decide (k ∈ pre)) →
  ∃ o, breaks_Valid_l68 b (pre.length : Int) m = some o ∧ o.isRight = vfrom pre rest
 | [], pre, m, hk, hm => ⟨.inr m, by rw [breaks_Valid_l68, if_neg (by rw [hk]; simp)], rfl⟩
 | k :: ks, pre, m, hk, hm => by
  have hl : b.Keep.length = pre.length + (ks.length + 1) := by rw [hk]; simp
  have hg : b.Keep.getD (Int.toNat (pre.length : Int)) ⟨#[]⟩ = k := by rw [hk, getD_pre]
  rw [breaks_Valid_l68, if_pos (by omega), if_pos (by omega), hg, cond8, hm, vfrom]
  cases hb : kok k && !decide (k ∈ pre)
  ·exact ⟨.inl m, by simp, by simp⟩
  ·obtain ⟨o, ho, hr⟩ := valid_loop8 b hs ks (pre ++ [k]) (mput m k true) (by rw [hk]; simp) (fun k' => by
    rw [mget_mput]
    by_cases e : k' = k
    ·simp [e]
    ·simp [e, hm])
   refine ⟨o, ?_, by simpa using hr⟩
   rw [if_pos rfl, w64_id (by omega) (by omega)]
   rw [show ((pre.length : Int) + 1) = ((pre ++ [k]).length : Int) by simp]
   exact ho
def vb (b : api_Breaks) : Bool := decide (1 ≤ b.Before ∧ b.Before ≤ 5) && decide (1 ≤ b.Behind ∧ b.Behind ≤ 5) && decide (b.Keep.length ≤ 20) && vfrom [] b.Keep
theorem valid8 (b : api_Breaks) (hs : b.Keep.length ≤ 1000000) : breaks_Valid b = some (vb b) := by
 obtain ⟨o, ho, hr⟩ := valid_loop8 b hs b.Keep [] [] rfl (fun k => by simp [mget, mfind])
 unfold breaks_Valid vb
 simp only [within_eq, some_bind]
 rw [← hr]
 have ho' : breaks_Valid_l68 b 0 [] = some o := ho
 simp only [ho', some_bind]
 by_cases h1 : 1 ≤ b.Before ∧ b.Before ≤ 5
 ·by_cases h2 : 1 ≤ b.Behind ∧ b.Behind ≤ 5
  ·by_cases h3 : b.Keep.length ≤ 20
   ·have h3' : ¬ (20 : Int) < (b.Keep.length : Int) := by omega
    cases o <;> simp [h1, h2, h3, h3']
   ·have h3' : (20 : Int) < (b.Keep.length : Int) := by omega
    simp [h1, h2, h3, h3']
  ·simp [h1, h2]
 ·simp [h1]
theorem refdup_loop (b : api_Breaks) (hs : b.Keep.length ≤ 1000000) : ∀ (p2 p1 : List ByteArray) (k : ByteArray) (ks : List ByteArray), b.Keep = p1 ++ (p2 ++ k :: ks) →
  formeref08_Valid_l143 b ((p1.length + p2.length : Nat) : Int) (p1.length : Int) = some (if k ∈ p2 then .inl () else .inr ())
 | [], p1, k, ks, hk => by rw [formeref08_Valid_l143, if_neg (by simp)]; simp
 | x :: p2, p1, k, ks, hk => by
  have hl : b.Keep.length = p1.length + (p2.length + 1 + (ks.length + 1)) := by rw [hk]; simp; omega
  have h1 : b.Keep.getD (Int.toNat (p1.length : Int)) ⟨#[]⟩ = x := by rw [hk, List.cons_append, getD_pre]
  have h2 : b.Keep.getD (Int.toNat ((p1.length + (x :: p2).length : Nat) : Int)) ⟨#[]⟩ = k := by
   rw [hk, ← List.append_assoc, show p1.length + (x :: p2).length = (p1 ++ x :: p2).length by simp, getD_pre]
  have hlen : (x :: p2).length = p2.length + 1 := rfl
  rw [formeref08_Valid_l143, h1, h2, hlen, if_pos (by omega), if_pos (by omega), w64_id (by omega) (by omega)]
  by_cases e : x = k
  ·simp [e]
  ·have ih := refdup_loop b hs p2 (p1 ++ [x]) k ks (by rw [hk]; simp)
   rw [if_neg e]
   rw [show (p1 ++ [x]).length = p1.length + 1 by simp] at ih
   rw [show ((p1.length : Int) + 1) = ((p1.length + 1 : Nat) : Int) by omega, show p1.length + (p2.length + 1) = p1.length + 1 + p2.length by omega, ih]
   have e' : ¬ k = x := fun h => e h.symm
   simp [e']
theorem refcond8 (k : ByteArray) (X Y : Option (Sum Unit Unit)) :
  ((if ¬ (k.size : Int) = 2 then some true else (if (0 : Int) ≤ 0 ∧ 0 < (k.size : Int) then some (decide ((bt k 0) < 97)) else none)) >>= fun v96 => ((if v96 = true then some true else (if (0 : Int) ≤ 0 ∧ 0 < (k.size : Int) then some (decide (122 < (bt k 0))) else none)) >>= fun v104 => ((if v104 = true then some true else (if (0 : Int) ≤ 1 ∧ 1 < (k.size : Int) then some (decide ((bt k 1) < 97)) else none)) >>= fun v112 => ((if v112 = true then some true else (if (0 : Int) ≤ 1 ∧ 1 < (k.size : Int) then some (decide (122 < (bt k 1))) else none)) >>= fun v120 => (if v120 = true then X else Y))))) = if kok k = true then Y else X := by
 unfold kok
 by_cases h2 : (k.size : Int) = 2
 ·by_cases h3 : bt k 0 < 97
  ·have : ¬ 97 ≤ bt k 0 := by omega
   simp [h2, h3, this]
  ·by_cases h4 : 122 < bt k 0
   ·have : ¬ bt k 0 ≤ 122 := by omega
    simp [h2, h3, h4, this]
   ·by_cases h5 : bt k 1 < 97
    ·have : ¬ 97 ≤ bt k 1 := by omega
     simp [h2, h3, h4, h5, this]
    ·by_cases h6 : 122 < bt k 1
     ·have : ¬ bt k 1 ≤ 122 := by omega
      simp [h2, h3, h4, h5, h6, this]
     ·have e1 : 97 ≤ bt k 0 := by omega
      have e2 : bt k 0 ≤ 122 := by omega
      have e3 : 97 ≤ bt k 1 := by omega
      have e4 : bt k 1 ≤ 122 := by omega
      simp [h2, h3, h4, h5, h6, e1, e2, e3, e4]
 ·rw [if_pos h2]
  simp [h2]
theorem refvalid_loop8 (b : api_Breaks) (hs : b.Keep.length ≤ 1000000) : ∀ (rest pre : List ByteArray), b.Keep = pre ++ rest → formeref08_Valid_l62 b (pre.length : Int) = some (if vfrom pre rest then .inr () else .inl ())
 | [], pre, hk => by rw [formeref08_Valid_l62, if_neg (by rw [hk]; simp)]; simp [vfrom]
 | k :: ks, pre, hk => by
  have hl : b.Keep.length = pre.length + (ks.length + 1) := by rw [hk]; simp
  have hg : b.Keep.getD (Int.toNat (pre.length : Int)) ⟨#[]⟩ = k := by rw [hk, getD_pre]
  have hd := refdup_loop b hs pre [] k ks (by rw [hk]; simp)
  simp only [List.length_nil, Nat.zero_add] at hd
  rw [show ((0 : Nat) : Int) = 0 from rfl] at hd
  rw [formeref08_Valid_l62, if_pos (by omega), if_pos (by omega), hg, refcond8, hd, vfrom, some_bind]
  cases hk' : kok k
  ·simp
  ·by_cases hp : k ∈ pre
   ·simp [hp]
   ·have ih := refvalid_loop8 b hs ks (pre ++ [k]) (by rw [hk]; simp)
    rw [show ((pre ++ [k]).length : Int) = (pre.length : Int) + 1 by simp] at ih
    simp only [if_neg hp, if_true, w64_id (show -9223372036854775808 ≤ (pre.length : Int) + 1 by omega) (by omega), ih]
    simp [hp]
theorem refvalid8 (b : api_Breaks) (hs : b.Keep.length ≤ 1000000) : formeref08_Valid b = some (vb b) := by
 have h := refvalid_loop8 b hs b.Keep [] rfl
 rw [show (([] : List ByteArray).length : Int) = 0 from rfl] at h
 unfold formeref08_Valid vb
 rw [h]
 by_cases h1 : b.Before < 1
 ·have : ¬ 1 ≤ b.Before := by omega
  simp [h1, this]
 ·by_cases h2 : 5 < b.Before
  ·have : ¬ b.Before ≤ 5 := by omega
   simp [h1, h2, this]
  ·by_cases h3 : b.Behind < 1
   ·have : ¬ 1 ≤ b.Behind := by omega
    simp [h1, h2, h3, this]
   ·by_cases h4 : 5 < b.Behind
    ·have : ¬ b.Behind ≤ 5 := by omega
     simp [h1, h2, h3, h4, this]
    ·have e1 : 1 ≤ b.Before := by omega
     have e2 : b.Before ≤ 5 := by omega
     have e3 : 1 ≤ b.Behind := by omega
     have e4 : b.Behind ≤ 5 := by omega
     by_cases h5 : b.Keep.length ≤ 20
     ·have h5' : ¬ (20 : Int) < (b.Keep.length : Int) := by omega
      cases vfrom [] b.Keep <;> simp [h1, h2, h3, h4, e1, e2, e3, e4, h5, h5']
     ·have h5' : (20 : Int) < (b.Keep.length : Int) := by omega
      simp [h1, h2, h3, h4, e1, e2, e3, e4, h5, h5']
theorem prepare_loop (b : api_Breaks) (hs : b.Keep.length ≤ 1000000) : ∀ (rest pre : List ByteArray) (m : List (ByteArray × Bool)), b.Keep = pre ++ rest → (∀ k, (mget m k).getD false = decide (k ∈ pre)) →
  ∃ m', breaks_prepare_l45 b (pre.length : Int) m = some m' ∧ ∀ k, (mget m' k).getD false = decide (k ∈ b.Keep)
 | [], pre, m, hk, hm => ⟨m, by rw [breaks_prepare_l45, if_neg (by rw [hk]; simp)], fun k => by rw [hm, hk]; simp⟩
 | k :: ks, pre, m, hk, hm => by
  have hl : b.Keep.length = pre.length + (ks.length + 1) := by rw [hk]; simp
  have hg : b.Keep.getD (Int.toNat (pre.length : Int)) ⟨#[]⟩ = k := by rw [hk, getD_pre]
  obtain ⟨m', h1, h2⟩ := prepare_loop b hs ks (pre ++ [k]) (mput m k true) (by rw [hk]; simp) (fun k' => by
    rw [mget_mput]
    by_cases e : k' = k
    ·simp [e]
    ·simp [e, hm])
  refine ⟨m', ?_, h2⟩
  rw [show ((pre ++ [k]).length : Int) = (pre.length : Int) + 1 by simp] at h1
  rw [breaks_prepare_l45, if_pos (by omega), if_pos (by omega), hg, w64_id (by omega) (by omega), h1]
theorem prepare_mk (b : api_Breaks) (l : List UInt8) (hs : b.Keep.length ≤ 1000000) : ∃ m, breaks_prepare b ⟨l.toArray⟩ = some (b.Before, b.Behind, b.Keep, ⟨l.toArray⟩, m, vb b && okS l) ∧ ∀ k, (mget m k).getD false = decide (k ∈ b.Keep) := by
 obtain ⟨m, h1, h2⟩ := prepare_loop b hs b.Keep [] [] rfl (fun k => by simp [mget, mfind])
 refine ⟨m, ?_, h2⟩
 rw [show (([] : List ByteArray).length : Int) = 0 from rfl] at h1
 unfold breaks_prepare
 rw [h1, some_bind, valid8 b hs, some_bind, valid_mk, some_bind]
 cases vb b <;> simp

def ltI (a : Int) : Bool := decide (cl a = 1 ∨ cl a = 2)
def soI (a : Int) : Bool := decide ((cl a = 1 ∨ cl a = 2) ∨ cl a = 3)
theorem letter_eq (a : Int) : breaks_letter a = some (ltI a) := by
 unfold breaks_letter ltI
 simp only [class_eq, some_bind, or_some]
theorem refletter_eq (a : Int) : formeref08_letter a = some (ltI a) := by
 unfold formeref08_letter ltI
 simp only [refClass_eq, some_bind, or_some]
theorem solid_eq (a : Int) : breaks_solid a = some (soI a) := by
 unfold breaks_solid soI
 simp only [letter_eq, class_eq, some_bind, or_some, ltI, decide_eq_true_eq]
theorem refsolid_eq (a : Int) : formeref08_solid a = some (soI a) := by
 unfold formeref08_solid soI
 simp only [refClass_eq, some_bind, and_some]
 congr 1
 exact decide_eq_decide.2 (by omega)
theorem ltI_soft : ltI 126 = false := by decide
def mo (b : UInt8) : Bool := ltI (b.toNat : Int) || decide ((b.toNat : Int) = 126)
def run (x : List UInt8) : List UInt8 := shown (x.takeWhile mo)
theorem run_nil : run [] = [] := rfl
theorem run_cons (b : UInt8) (x : List UInt8) : run (b :: x) = if mo b = true then (if b.toNat = 126 then run x else b :: run x) else [] := by
 unfold run
 rw [List.takeWhile_cons]
 by_cases h : mo b = true
 ·rw [if_pos h, if_pos h, shown_cons]
 ·rw [if_neg h, if_neg h]; rfl
theorem more_in (l : List UInt8) {i : Nat} (h : i < l.length) (a6 a7 : Int) (a8 : List ByteArray) (a16 : List (ByteArray × Bool)) : breaks_ruled_letters_1_k1 (i : Int) a6 a7 a8 ⟨l.toArray⟩ a16 = some (mo l[i]) := by
 unfold breaks_ruled_letters_1_k1 mo
 rw [sz, bt_mk l h, letter_eq, if_pos (by omega), some_bind, if_pos (by simpa using h), if_pos (by omega), some_bind]
 cases ltI ((l[i]).toNat : Int) <;> simp [h]
theorem more_out (s : ByteArray) {i : Int} (h : ¬ (0 ≤ i ∧ i < (s.size : Int))) (a6 a7 : Int) (a8 : List ByteArray) (a16 : List (ByteArray × Bool)) : breaks_ruled_letters_1_k1 i a6 a7 a8 s a16 = some false := by
 unfold breaks_ruled_letters_1_k1
 by_cases h0 : 0 ≤ i
 ·have : ¬ i < (s.size : Int) := fun e => h ⟨h0, e⟩
  simp [h0, this]
 ·simp [h0]
theorem ints_snoc (acc : List UInt8) (b : UInt8) : ints acc ++ [(b.toNat : Int)] = ints (acc ++ [b]) := by simp [ints]
theorem fwd_loop (l : List UInt8) (hs : l.length ≤ 1000000) (a1 a2 : Int) (a3 : List ByteArray) (a11 : List (ByteArray × Bool)) : ∀ (n i : Nat) (acc : List UInt8), l.length - i = n → i ≤ l.length → acc.length ≤ i →
  ∃ p, breaks_ruled_letters_k1_l169 a1 a2 a3 ⟨l.toArray⟩ a11 (ints acc) (i : Int) = some (ints (acc ++ run (l.drop i)), p) := by
 intro n
 induction n with
 | zero =>
  intro i acc hn hi ha
  have : i = l.length := by omega
  subst this
  refine ⟨(l.length : Int), ?_⟩
  rw [breaks_ruled_letters_k1_l169, more_out _ (by rw [sz]; omega), some_bind, List.drop_length, run_nil, List.append_nil]
  simp
 | succ n ih =>
  intro i acc hn hi ha
  have hlt : i < l.length := by omega
  rw [breaks_ruled_letters_k1_l169, more_in l hlt, some_bind, List.drop_eq_getElem_cons hlt, run_cons, sz, bt_mk l hlt]
  cases hm : mo l[i]
  ·exact ⟨(i : Int), by simp⟩
  ·rw [if_pos rfl, if_pos (by omega), if_pos rfl, w64_id (by omega) (by omega), add1]
   by_cases h6 : (l[i]).toNat = 126
   ·obtain ⟨p, hp⟩ := ih (i + 1) acc (by omega) (by omega) (by omega)
    exact ⟨p, by rw [if_neg (by omega), some_bind, hp, if_pos h6]⟩
   ·obtain ⟨p, hp⟩ := ih (i + 1) (acc ++ [l[i]]) (by omega) (by omega) (by simp; omega)
    exact ⟨p, by rw [if_pos (by omega), if_pos (by omega), if_pos (by simp [ints]; omega), some_bind, ints_snoc, hp, if_neg h6]; simp⟩
theorem take_rev {l : List UInt8} {i : Nat} (h : i < l.length) : (l.take (i + 1)).reverse = l[i] :: (l.take i).reverse := by
 rw [List.take_succ_eq_append_getElem h]; simp
theorem bwd_loop (l : List UInt8) (hs : l.length ≤ 1000000) (a1 a2 : Int) (a3 : List ByteArray) (a11 : List (ByteArray × Bool)) : ∀ (i : Nat) (acc : List UInt8), acc.length + i ≤ l.length →
  ∃ p, breaks_ruled_letters_k1_l63 a1 a2 a3 ⟨l.toArray⟩ a11 (ints acc) ((i : Int) - 1) = some (ints (acc ++ run (l.take i).reverse), p) := by
 intro i
 induction i with
 | zero =>
  intro acc ha
  refine ⟨-1, ?_⟩
  rw [breaks_ruled_letters_k1_l63, more_out _ (by rw [sz]; omega), some_bind]
  simp [run_nil]
 | succ i ih =>
  intro acc ha
  have hlt : i < l.length := by omega
  rw [show ((i + 1 : Nat) : Int) - 1 = (i : Int) by omega]
  rw [breaks_ruled_letters_k1_l63, more_in l hlt, some_bind, take_rev hlt, run_cons, sz, bt_mk l hlt]
  cases hm : mo l[i]
  ·exact ⟨(i : Int), by simp⟩
  ·rw [if_pos rfl, if_pos (by omega), if_pos rfl, w64_id (by omega) (by omega), show (i : Int) + -1 = (i : Int) - 1 by omega]
   by_cases h6 : (l[i]).toNat = 126
   ·obtain ⟨p, hp⟩ := ih acc (by omega)
    exact ⟨p, by rw [if_neg (by omega), some_bind, hp, if_pos h6]⟩
   ·obtain ⟨p, hp⟩ := ih (acc ++ [l[i]]) (by simp; omega)
    exact ⟨p, by rw [if_pos (by omega), if_pos (by omega), if_pos (by simp [ints]; omega), some_bind, ints_snoc, hp, if_neg h6]; simp⟩
theorem letters_fwd (l : List UInt8) (hs : l.length ≤ 1000000) (a1 a2 : Int) (a3 : List ByteArray) (a11 : List (ByteArray × Bool)) {i : Nat} (hi : i ≤ l.length) : breaks_ruled_letters_k1 a1 a2 a3 ⟨l.toArray⟩ a11 (i : Int) false = some ⟨(run (l.drop i)).toArray⟩ := by
 obtain ⟨p, hp⟩ := fwd_loop l hs a1 a2 a3 a11 _ i [] rfl hi (Nat.zero_le _)
 unfold breaks_ruled_letters_k1
 rw [if_neg (by simp), show ([] : List Int) = ints [] from rfl, hp, some_bind, List.nil_append]
 show some (bstr (ints (run (l.drop i)))) = _
 rw [ints, bstr_map]
theorem letters_bwd (l : List UInt8) (hs : l.length ≤ 1000000) (a1 a2 : Int) (a3 : List ByteArray) (a11 : List (ByteArray × Bool)) {i : Nat} (hi : i ≤ l.length) : breaks_ruled_letters_k1 a1 a2 a3 ⟨l.toArray⟩ a11 (i : Int) true = some ⟨(run (l.take i).reverse).toArray⟩ := by
 obtain ⟨p, hp⟩ := bwd_loop l hs a1 a2 a3 a11 i [] (by simpa using hi)
 unfold breaks_ruled_letters_k1
 rw [if_pos rfl, w64_id (by omega) (by omega), show ([] : List Int) = ints [] from rfl, hp, some_bind, List.nil_append]
 show some (bstr (ints (run (l.take i).reverse))) = _
 rw [ints, bstr_map]
def fst (n : Nat) (f : Int) : List UInt8 → Int
 | [] => f
 | b :: _ => if n = 0 then (b.toNat : Int) else f
theorem refrun_in (l : List UInt8) {i : Nat} (h : i < l.length) (s n f : Int) : formeref08_run_l26 ⟨l.toArray⟩ s (i : Int) n f =
  if mo l[i] = true then (if (l[i]).toNat = 126 then formeref08_run_l26 ⟨l.toArray⟩ s (w64 ((i : Int) + s)) n f else formeref08_run_l26 ⟨l.toArray⟩ s (w64 ((i : Int) + s)) (w64 (n + 1)) (if n = 0 then ((l[i]).toNat : Int) else f)) else some (n, f) := by
 rw [formeref08_run_l26, sz, bt_mk l h, refletter_eq, if_pos (by omega), some_bind, if_pos (by simpa using h), if_pos (by omega), some_bind]
 unfold mo
 by_cases h6 : (l[i]).toNat = 126
 ·have h6' : ((l[i]).toNat : Int) = 126 := by omega
  simp [h6', ltI_soft, h6, h]
 ·have h6' : ¬ ((l[i]).toNat : Int) = 126 := by omega
  cases hl : ltI ((l[i]).toNat : Int)
  ·simp [h6', h6, h]
  ·by_cases hn : n = 0 <;> simp [h6', h6, hn, h]
theorem refrun_out (s : ByteArray) {i : Int} (h : ¬ (0 ≤ i ∧ i < (s.size : Int))) (st n f : Int) : formeref08_run_l26 s st i n f = some (n, f) := by
 rw [formeref08_run_l26]
 by_cases h0 : 0 ≤ i
 ·have : ¬ i < (s.size : Int) := fun e => h ⟨h0, e⟩
  simp [h0, this]
 ·simp [h0]
theorem reffwd_loop (l : List UInt8) (hs : l.length ≤ 1000000) : ∀ (m i n : Nat) (f : Int), l.length - i = m → i ≤ l.length → n ≤ i →
  formeref08_run_l26 ⟨l.toArray⟩ 1 (i : Int) (n : Int) f = some (((n + (run (l.drop i)).length : Nat) : Int), fst n f (run (l.drop i))) := by
 intro m
 induction m with
 | zero =>
  intro i n f hm hi hn
  have : i = l.length := by omega
  subst this
  rw [refrun_out _ (by rw [sz]; omega), List.drop_length]
  rfl
 | succ m ih =>
  intro i n f hm hi hn
  have hlt : i < l.length := by omega
  rw [refrun_in l hlt, List.drop_eq_getElem_cons hlt, run_cons, w64_id (n := (i : Int) + 1) (by omega) (by omega), w64_id (n := (n : Int) + 1) (by omega) (by omega), add1 i, add1 n]
  cases hmo : mo l[i]
  ·simp [fst]
  ·by_cases h6 : (l[i]).toNat = 126
   ·simp only [h6, if_true]
    exact ih (i + 1) n f (by omega) (by omega) (by omega)
   ·simp only [h6, if_true, if_false]
    rw [ih (i + 1) (n + 1) _ (by omega) (by omega) (by omega)]
    simp only [List.length_cons]
    congr 2
    ·omega
    ·rw [fst]
     cases run (l.drop (i + 1)) with
     | nil => simp [fst]; 
     | cons x xs => simp [fst]
theorem refbwd_loop (l : List UInt8) (hs : l.length ≤ 1000000) : ∀ (i n : Nat) (f : Int), n + i ≤ l.length →
  formeref08_run_l26 ⟨l.toArray⟩ (-1) ((i : Int) - 1) (n : Int) f = some (((n + (run (l.take i).reverse).length : Nat) : Int), fst n f (run (l.take i).reverse)) := by
 intro i
 induction i with
 | zero =>
  intro n f hn
  rw [refrun_out _ (by rw [sz]; omega)]
  rfl
 | succ i ih =>
  intro n f hn
  have hlt : i < l.length := by omega
  rw [show ((i + 1 : Nat) : Int) - 1 = (i : Int) by omega]
  rw [refrun_in l hlt, take_rev hlt, run_cons, w64_id (n := (i : Int) + -1) (by omega) (by omega), w64_id (n := (n : Int) + 1) (by omega) (by omega), show (i : Int) + -1 = (i : Int) - 1 by omega, add1 n]
  cases hmo : mo l[i]
  ·simp [fst]
  ·by_cases h6 : (l[i]).toNat = 126
   ·simp only [h6, if_true]
    exact ih n f (by omega)
   ·simp only [h6, if_true, if_false]
    rw [ih (n + 1) _ (by omega)]
    simp only [List.length_cons]
    congr 2
    ·omega
    ·rw [fst]
     cases run (l.take i).reverse with
     | nil => simp [fst]
     | cons x xs => simp [fst]
end Go.Proofs.YtokeiiakkfdmgaaGreatDoor.LG
